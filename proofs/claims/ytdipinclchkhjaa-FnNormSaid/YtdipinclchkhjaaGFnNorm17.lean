import Derived.Test.YtdipinclchkhjaaGFnNorm16
import Derived.Test.YtdipinclchkhjaaGFnNorm8
import Derived.Test.YtdipinclchkhjaaGFnNorm14
import Derived.Test.YtdipinclchkhjaaGFnNorm7
namespace Go.Proofs.Ytdipinclchkhjaa.P
open Go.RowKit Go.Proofs.YtdipinclchkhjaaW.PrintWords Go.Proofs.YtdipinclchkhjaaW.PrintLast Go.Proofs.YtdipinclchkhjaaW.PrintMore
set_option linter.unusedVariables false
set_option linter.unusedSimpArgs false
/-! A condition's set; which lies in which. -/
def InC (k : Int) (a b z : Nat) : Prop := if k = 1 then z &&& a = b else if k = 2 then a ≤ z ∧ z ≤ b else True
def Lies (k : Int) (a b : Nat) (k2 : Int) (a2 b2 : Nat) : Prop := ∀ z, z < 18446744073709551616 → InC k a b z → InC k2 a2 b2 z
/-- A condition inside, and that it is sound. -/
inductive NC where
  | any
  | mask (m v : Nat)
  | rng (l h : Nat)
def NC.cd : NC → Cd
  | .any => .any
  | .mask m v => .mask m v
  | .rng l h => .rng l h
def NC.In : NC → Nat → Prop
  | .any, _ => True
  | .mask m v, z => z &&& m = v
  | .rng l h, z => l ≤ z ∧ z ≤ h
def NC.Good : NC → Prop
  | .any => True
  | .mask m v => m < 18446744073709551616 ∧ v < 18446744073709551616 ∧ m ≠ 0 ∧ Sub v m
  | .rng l h => l ≤ h ∧ h < 18446744073709551616
/-- What the program makes of a range: a sound one, and the same set. -/
theorem nrRaw_nc (a b : Nat) (hab : a ≤ b) (hb : b < 18446744073709551616) : ∃ c : NC, nrRaw (a : Int) (b : Int) = c.cd ∧ c.Good ∧ ∀ z, z < 18446744073709551616 → (c.In z ↔ a ≤ z ∧ z ≤ b) := by
  by_cases h : ∃ k, k ≤ 64 ∧ b - a = 2 ^ k - 1 ∧ a % 2 ^ k = 0
  · obtain ⟨k, hk, h1, h2⟩ := h
    have hp := two_pow_le k hk
    unfold nrRaw
    rw [nrN_is a b hab hb]
    by_cases e : k = 64
    · subst e
      have e0 : (b - a + 1) % 18446744073709551616 = 0 := by rw [h1]
      rw [e0]
      have e1 : (2 : Nat) ^ 64 - 1 = 18446744073709551615 := by decide
      rw [e1] at h1
      exact ⟨.any, by simp [NC.cd], trivial, fun z hz => ⟨fun _ => by omega, fun _ => trivial⟩⟩
    · have hk2 : k < 64 := by omega
      have hp2 := two_pow_lt k hk2
      have e1 : (b - a + 1) % 18446744073709551616 = 2 ^ k := by rw [h1, Nat.sub_add_cancel hp.1]; exact Nat.mod_eq_of_lt (by omega)
      have e2 : IntKind.u64.wrap (((2 ^ k : Nat) : Int) - 1) = ((2 ^ k - 1 : Nat) : Int) := by rw [wrap_u64_id (by omega) (by omega)]; omega
      have e3 : 2 ^ k &&& (2 ^ k - 1) = 0 := by rw [Nat.and_two_pow_sub_one_eq_mod]; exact Nat.mod_self _
      have e4 : a &&& (2 ^ k - 1) = 0 := by rw [Nat.and_two_pow_sub_one_eq_mod]; exact h2
      rw [e1, e2, and64 _ _ (by omega) (by omega), and64 _ _ (by omega) (by omega), e3, e4, not64 _ (by omega), if_neg (by omega), if_pos ⟨rfl, rfl⟩]
      refine ⟨.mask (18446744073709551615 - (2 ^ k - 1)) a, rfl, ⟨by omega, by omega, by omega, ?_⟩, fun z hz => ?_⟩
      · exact and_sub ((block_set hk h2 (by omega)).2 ⟨Nat.le_refl _, by omega⟩)
      · show z &&& _ = a ↔ _
        rw [block_set hk h2 hz]
        omega
  · refine ⟨.rng a b, nrRaw_plain a b hab hb (fun k h1 h2 h3 => h ⟨k, h1, h2, h3⟩), ⟨hab, hb⟩, fun z hz => Iff.rfl⟩
theorem normRaw_nc (k : Int) (a b : Nat) (ha : a < 18446744073709551616) (hb : b < 18446744073709551616) (hok : (normRaw k a b).2 = true) : ∃ c : NC, (normRaw k a b).1 = c.cd ∧ c.Good ∧ ∀ z, z < 18446744073709551616 → (c.In z ↔ InC k a b z) := by
  unfold normRaw at hok ⊢
  unfold InC
  by_cases h0 : k = 0
  · subst h0
    exact ⟨.any, by simp [NC.cd], trivial, fun z hz => by simp [NC.In]⟩
  · rw [if_neg h0] at hok ⊢
    by_cases h1 : k = 1
    · rw [if_pos h1] at hok ⊢
      by_cases h2 : (a : Int) = 0 ∧ (b : Int) = 0
      · rw [if_pos h2]
        refine ⟨.any, rfl, trivial, fun z hz => ?_⟩
        rw [if_pos h1, show a = 0 by omega, show b = 0 by omega, Nat.and_zero]
        simp [NC.In]
      · rw [if_neg h2] at hok ⊢
        rw [andNot64 b a hb ha] at hok
        simp only [beq_iff_eq] at hok
        have hs := (sub_zero hb ha).1 (by omega)
        refine ⟨.mask a b, rfl, ⟨ha, hb, ?_, hs⟩, fun z hz => ?_⟩
        · rintro rfl
          have : b = 0 := by
            apply Nat.eq_of_testBit_eq
            intro i
            rw [Nat.zero_testBit]
            cases hbi : b.testBit i
            · rfl
            · have := hs i hbi
              rw [Nat.zero_testBit] at this
              exact absurd this (by decide)
          omega
        · rw [if_pos h1]; exact Iff.rfl
    · rw [if_neg h1] at hok ⊢
      by_cases h2 : k = 2
      · rw [if_pos h2] at hok ⊢
        by_cases h3 : (a : Int) > b
        · rw [if_pos h3] at hok; exact absurd hok (by decide)
        · rw [if_neg h3]
          obtain ⟨c, c1, c2, c3⟩ := nrRaw_nc a b (by omega) hb
          refine ⟨c, c1, c2, fun z hz => ?_⟩
          rw [if_neg h1, if_pos h2]
          exact c3 z hz
      · rw [if_neg h2] at hok; exact absurd hok (by decide)
/-- The program's question, of sound ones: the sets' own. -/
theorem insRaw_iff (x y : NC) (hx : x.Good) (hy : y.Good) : insRaw x.cd y.cd = true ↔ ∀ z, z < 18446744073709551616 → x.In z → y.In z := by
  cases y with
  | any => simp [NC.cd, insRaw, NC.In]
  | rng l h =>
    obtain ⟨y1, y2⟩ := hy
    have key : ∀ lo hi : Nat, lo < 18446744073709551616 → hi < 18446744073709551616 → x.In lo → x.In hi → (∀ z, z < 18446744073709551616 → x.In z → lo ≤ z ∧ z ≤ hi) → x.cd.ends = ((lo : Int), (hi : Int)) → (insRaw x.cd (NC.rng l h).cd = true ↔ ∀ z, z < 18446744073709551616 → x.In z → (NC.rng l h).In z) := by
      intro lo hi hlo hhi i1 i2 hb he
      have e : insRaw x.cd (NC.rng l h).cd = ((decide ((l : Int) ≤ lo) && decide ((lo : Int) ≤ h)) && (decide ((l : Int) ≤ hi) && decide ((hi : Int) ≤ h))) := by
        show ((Cd.rng l h).holds x.cd.ends.1 && (Cd.rng l h).holds x.cd.ends.2) = _
        rw [he]
        rfl
      rw [e]
      simp only [Bool.and_eq_true, decide_eq_true_eq]
      show _ ↔ ∀ z, z < 18446744073709551616 → x.In z → l ≤ z ∧ z ≤ h
      constructor
      · intro hh z hz hzi
        have := hb z hz hzi
        omega
      · intro hh
        have a1 := hh lo hlo i1
        have a2 := hh hi hhi i2
        omega
    cases x with
    | any => exact key 0 18446744073709551615 (by omega) (by omega) trivial trivial (fun z hz _ => by omega) rfl
    | mask m v =>
      obtain ⟨x1, x2, x3, x4⟩ := hx
      obtain ⟨e1, e2, e3, e4⟩ := mask_ends x1 x2 x4
      refine key v (v ||| (18446744073709551615 - m)) x2 e3 e1 e2 e4 ?_
      simp only [NC.cd, Cd.ends]
      rw [not64 m x1, or64 v _ x2 (by omega)]
    | rng l2 h2 =>
      obtain ⟨x1, x2⟩ := hx
      exact key l2 h2 (by omega) x2 ⟨Nat.le_refl _, x1⟩ ⟨x1, Nat.le_refl _⟩ (fun z _ h => h) rfl
  | mask m v =>
    obtain ⟨y1, y2, y3, y4⟩ := hy
    cases x with
    | any =>
      simp only [NC.cd, insRaw, NC.In, Bool.false_eq_true, false_iff]
      intro hh
      have hex : ∃ i, i < 64 ∧ m.testBit i = true := by
        refine Classical.byContradiction fun hn => y3 ?_
        refine eq_bits y1 (by omega) fun i hi => ?_
        rw [Nat.zero_testBit]
        cases hmi : m.testBit i
        · rfl
        · exact absurd ⟨i, hi, hmi⟩ hn
      obtain ⟨i, hi, hmi⟩ := hex
      have a1 := hh 0 (by omega) trivial
      have a2 := hh (2 ^ i) (two_lt hi) trivial
      rw [Nat.zero_and] at a1
      rw [← a1, Nat.and_comm, and_pow, if_pos hmi] at a2
      have := Nat.two_pow_pos i
      omega
    | mask m2 v2 =>
      obtain ⟨x1, x2, x3, x4⟩ := hx
      simp only [NC.cd, insRaw, NC.In, Bool.and_eq_true, beq_iff_eq]
      rw [andNot64 m m2 y1 x1, and64 v2 m x2 y1, mask_mask x1 y1 x2 y2 x4 y4, ← mask_test x1 y1 x2 y2 x4 y4]
      omega
    | rng l h =>
      obtain ⟨x1, x2⟩ := hx
      have hxl : l ^^^ h < 18446744073709551616 := Nat.xor_lt_two_pow (n := 64) (by omega) x2
      obtain ⟨n1, n2, n3⟩ := bitLen_top (l ^^^ h) hxl
      simp only [NC.cd, insRaw, NC.In, Bool.and_eq_true, beq_iff_eq]
      rw [xor64 l h (by omega) x2, show ((l ^^^ h : Nat) : Int).toNat = l ^^^ h from rfl, Nat.min_eq_left n1]
      generalize Lib.bitLen (l ^^^ h) = n at n1 n2 n3
      have hp := two_pow_le n n1
      have e : IntKind.u64.wrap (IntKind.u64.wrap (2 ^ n) - 1) = ((2 ^ n - 1 : Nat) : Int) := by
        have e0 : ((2 : Int) ^ n) = ((2 ^ n : Nat) : Int) := by simp
        rw [e0, wrap_u64, wrap_u64]
        omega
      rw [e, and64 m _ y1 (by omega), and64 l m (by omega) y1]
      have hr := range_mask (m := m) (v := v) x1 n2 n3
      constructor
      · rintro ⟨a1, a2⟩ z hz hzi
        exact hr.2 ⟨by omega, by omega⟩ z hzi.1 hzi.2
      · intro hh
        have := hr.1 fun z z1 z2 => hh z (by omega) ⟨z1, z2⟩
        omega
theorem implConWithin_iff (k : Int) (a b : Nat) (k2 : Int) (a2 b2 : Nat) (ha : a < 18446744073709551616) (hb : b < 18446744073709551616) (ha2 : a2 < 18446744073709551616) (hb2 : b2 < 18446744073709551616) :
    ∃ r, impl_ConWithin.f k a b k2 a2 b2 = some r ∧ (r = true ↔ (normRaw k a b).2 = true ∧ (normRaw k2 a2 b2).2 = true ∧ Lies k a b k2 a2 b2) := by
  refine ⟨_, rfl, ?_⟩
  rw [Bool.and_eq_true, Bool.and_eq_true]
  refine and_congr_right fun h1 => and_congr_right fun h2 => ?_
  obtain ⟨c, c1, c2, c3⟩ := normRaw_nc k a b ha hb h1
  obtain ⟨d, d1, d2, d3⟩ := normRaw_nc k2 a2 b2 ha2 hb2 h2
  rw [c1, d1, insRaw_iff c d c2 d2]
  unfold Lies
  exact ⟨fun h z hz hi => (d3 z hz).1 (h z hz ((c3 z hz).2 hi)), fun h z hz hi => (d3 z hz).2 (h z hz ((c3 z hz).1 hi))⟩
end Go.Proofs.Ytdipinclchkhjaa.P

namespace Go.Proofs.Ytdipinclchkhjaa.P
open Go.RowKit Go.Proofs.YtdipinclchkhjaaW.PrintWords Go.Proofs.YtdipinclchkhjaaW.PrintLast Go.Proofs.YtdipinclchkhjaaW.PrintMore
set_option linter.unusedVariables false
set_option linter.unusedSimpArgs false
/-! Normal conditions: each set has one. -/
def NC.Normal : NC → Prop
  | .any => True
  | .mask m v => m < 18446744073709551616 ∧ v < 18446744073709551616 ∧ m ≠ 0 ∧ Sub v m
  | .rng l h => (l ≤ h ∧ h < 18446744073709551616) ∧ ∀ k, k ≤ 64 → h - l = 2 ^ k - 1 → l % 2 ^ k ≠ 0
theorem NC.Normal.good {c : NC} (h : c.Normal) : c.Good := by
  cases c with
  | any => trivial
  | mask m v => exact h
  | rng l h2 => exact h.1
theorem nrRaw_normal (a b : Nat) (hab : a ≤ b) (hb : b < 18446744073709551616) : ∃ c : NC, nrRaw (a : Int) (b : Int) = c.cd ∧ c.Normal ∧ ∀ z, z < 18446744073709551616 → (c.In z ↔ a ≤ z ∧ z ≤ b) := by
  obtain ⟨c, c1, c2, c3⟩ := nrRaw_nc a b hab hb
  refine ⟨c, c1, ?_, c3⟩
  cases c with
  | any => trivial
  | mask m v => exact c2
  | rng l h =>
    have he : (l : Int) = a ∧ (h : Int) = b := by
      have c4 := c1
      unfold nrRaw NC.cd at c4
      split at c4
      · exact absurd c4 (by simp)
      · split at c4
        · exact absurd c4 (by simp)
        · injection c4 with e1 e2
          exact ⟨e1.symm, e2.symm⟩
    obtain ⟨e1, e2⟩ := he
    have e3 : l = a := by omega
    have e4 : h = b := by omega
    subst e3
    subst e4
    refine ⟨c2, fun k hk h1 h2 => ?_⟩
    have h3 := nrRaw_block l h k hab hb hk h1 h2
    rw [c1] at h3
    simp only [NC.cd, Cd.con] at h3
    split at h3
    · exact absurd (congrArg Prod.fst h3) (show ¬ (2 : Int) = 0 by decide)
    · exact absurd (congrArg Prod.fst h3) (show ¬ (2 : Int) = 1 by decide)
theorem normRaw_normal (k : Int) (a b : Nat) (ha : a < 18446744073709551616) (hb : b < 18446744073709551616) (hok : (normRaw k a b).2 = true) : ∃ c : NC, (normRaw k a b).1 = c.cd ∧ c.Normal ∧ ∀ z, z < 18446744073709551616 → (c.In z ↔ InC k a b z) := by
  by_cases h2 : k = 2
  · subst h2
    unfold normRaw at hok ⊢
    rw [if_neg (by decide), if_neg (by decide), if_pos rfl] at hok ⊢
    by_cases h3 : (a : Int) > b
    · rw [if_pos h3] at hok; exact absurd hok (by decide)
    · rw [if_neg h3]
      obtain ⟨c, c1, c2, c3⟩ := nrRaw_normal a b (by omega) hb
      refine ⟨c, c1, c2, fun z hz => ?_⟩
      unfold InC
      rw [if_neg (by decide), if_pos rfl]
      exact c3 z hz
  · obtain ⟨c, c1, c2, c3⟩ := normRaw_nc k a b ha hb hok
    refine ⟨c, c1, ?_, c3⟩
    cases c with
    | any => trivial
    | mask m v => exact c2
    | rng l h =>
      exfalso
      unfold normRaw at c1
      rw [if_neg h2] at c1
      unfold NC.cd at c1
      split at c1
      · exact absurd c1 (by simp)
      · split at c1
        · split at c1 <;> exact absurd c1 (by simp)
        · exact absurd c1 (by simp)
/-- A normal condition, asked again. -/
theorem normRaw_con (c : NC) (h : c.Normal) : normRaw c.cd.con.1 c.cd.con.2.1 c.cd.con.2.2 = (c.cd, true) := by
  cases c with
  | any => rfl
  | mask m v =>
    obtain ⟨h1, h2, h3, h4⟩ := h
    simp only [NC.cd, Cd.con]
    unfold normRaw
    rw [if_neg (by decide), if_pos rfl, if_neg (by omega), andNot64 v m h2 h1, (sub_zero h2 h1).2 h4]
    rfl
  | rng l u =>
    obtain ⟨⟨h1, h2⟩, h3⟩ := h
    simp only [NC.cd, Cd.con]
    unfold normRaw
    rw [if_neg (by decide), if_neg (by decide), if_pos rfl, if_neg (by omega), nrRaw_plain l u h1 h2 h3]
theorem InC_con (c : NC) (z : Nat) : ∃ (k : Int) (a b : Nat), c.cd.con = (k, (a : Int), (b : Int)) ∧ (c.Good → a < 18446744073709551616 ∧ b < 18446744073709551616) ∧ ∀ z, InC k a b z ↔ c.In z := by
  cases c with
  | any => exact ⟨0, 0, 0, rfl, fun _ => ⟨by omega, by omega⟩, fun z => by simp [InC, NC.In]⟩
  | mask m v => exact ⟨1, m, v, rfl, fun h => ⟨h.1, h.2.1⟩, fun z => by simp [InC, NC.In]⟩
  | rng l u => exact ⟨2, l, u, rfl, fun h => ⟨by have := h.1; have := h.2; omega, h.2⟩, fun z => by simp [InC, NC.In]⟩
theorem any_not_mask {m v : Nat} (h : (NC.mask m v).Normal) (hs : ∀ z, z < 18446744073709551616 → z &&& m = v) : False := by
  obtain ⟨y1, y2, y3, y4⟩ := h
  have hex : ∃ i, i < 64 ∧ m.testBit i = true := by
    refine Classical.byContradiction fun hn => y3 ?_
    refine eq_bits y1 (by omega) fun i hi => ?_
    rw [Nat.zero_testBit]
    cases hmi : m.testBit i
    · rfl
    · exact absurd ⟨i, hi, hmi⟩ hn
  obtain ⟨i, hi, hmi⟩ := hex
  have a1 := hs 0 (by omega)
  have a2 := hs (2 ^ i) (two_lt hi)
  rw [Nat.zero_and] at a1
  rw [← a1, Nat.and_comm, and_pow, if_pos hmi] at a2
  have := Nat.two_pow_pos i
  omega
theorem any_not_rng {l u : Nat} (h : (NC.rng l u).Normal) (hs : ∀ z, z < 18446744073709551616 → l ≤ z ∧ z ≤ u) : False := by
  obtain ⟨⟨h1, h2⟩, h3⟩ := h
  have a1 := hs 0 (by omega)
  have a2 := hs 18446744073709551615 (by omega)
  refine h3 64 (Nat.le_refl _) ?_ ?_
  · rw [show (2 : Nat) ^ 64 - 1 = 18446744073709551615 by decide]; omega
  · rw [show l = 0 by omega]
theorem mask_not_rng {m v l u : Nat} (hm : (NC.mask m v).Normal) (hr : (NC.rng l u).Normal) (hs : ∀ z, z < 18446744073709551616 → (z &&& m = v ↔ l ≤ z ∧ z ≤ u)) : False := by
  obtain ⟨m1, m2, m3, m4⟩ := hm
  obtain ⟨⟨h1, h2⟩, h3⟩ := hr
  obtain ⟨e1, e2, e3, e4⟩ := mask_ends m1 m2 m4
  have a1 := (hs v m2).1 e1
  have a2 := (hs _ e3).1 e2
  have a3 := e4 l (by omega) ((hs l (by omega)).2 ⟨Nat.le_refl _, h1⟩)
  have a4 := e4 u h2 ((hs u h2).2 ⟨h1, Nat.le_refl _⟩)
  have el : l = v := by omega
  have eu : u = v ||| (18446744073709551615 - m) := by omega
  have ex : l ^^^ u = 18446744073709551615 - m := by
    refine eq_bits (Nat.xor_lt_two_pow (n := 64) (by omega) h2) (by omega) fun i hi => ?_
    rw [el, eu, Nat.testBit_xor, Nat.testBit_or, tb_not m i m1]
    cases hv : v.testBit i
    · simp
    · simp [m4 i hv]
  have hxl : l ^^^ u < 18446744073709551616 := by rw [ex]; omega
  obtain ⟨n1, n2, n3⟩ := bitLen_top (l ^^^ u) hxl
  have hr := (range_mask (m := m) (v := v) h1 n2 n3).1 fun z z1 z2 => (hs z (by omega)).2 ⟨z1, z2⟩
  generalize Lib.bitLen (l ^^^ u) = n at n1 n2 n3 hr
  have hp := two_pow_le n n1
  have hD : 18446744073709551615 - m = 2 ^ n - 1 := by
    refine eq_bits (by omega) (by omega) fun i hi => ?_
    rw [Nat.testBit_two_pow_sub_one]
    by_cases hin : i < n
    · rw [tb_not m i m1, and_low.1 hr.1 i hin]
      simp [hi, hin]
    · have hlt : 18446744073709551615 - m < 2 ^ n := by
        rw [ex] at n2
        have := Nat.div_eq_zero_iff.1 n2
        omega
      rw [Nat.testBit_lt_two_pow (Nat.lt_of_lt_of_le hlt (Nat.pow_le_pow_right (by decide) (by omega)))]
      simp [hin]
  have hmod : v % 2 ^ n = 0 := by
    rw [← Nat.and_two_pow_sub_one_eq_mod, and_low]
    intro j hj
    cases hv : v.testBit j
    · rfl
    · have := m4 j hv
      rw [and_low.1 hr.1 j hj] at this
      exact absurd this (by decide)
  have hvm : v ≤ m := by
    have := sub_and m4
    rw [← this]; exact Nat.and_le_right
  have em : m = 18446744073709551615 - (2 ^ n - 1) := by omega
  have hb := fun z hz => @block_set n v z n1 hmod hz
  rw [← em] at hb
  have b1 := (hb u h2).1 ((hs u h2).2 ⟨h1, Nat.le_refl _⟩)
  have b2 := (hs (v + (2 ^ n - 1)) (by omega)).1 ((hb (v + (2 ^ n - 1)) (by omega)).2 ⟨by omega, Nat.le_refl _⟩)
  refine h3 n n1 (by omega) ?_
  rw [el]
  exact hmod
theorem nc_uniq (c d : NC) (hc : c.Normal) (hd : d.Normal) (h : ∀ z, z < 18446744073709551616 → (c.In z ↔ d.In z)) : c = d := by
  cases c with
  | any =>
    cases d with
    | any => rfl
    | mask m v => exact (any_not_mask hd fun z hz => (h z hz).1 trivial).elim
    | rng l u => exact (any_not_rng hd fun z hz => (h z hz).1 trivial).elim
  | mask m v =>
    cases d with
    | any => exact (any_not_mask hc fun z hz => (h z hz).2 trivial).elim
    | mask m2 v2 =>
      obtain ⟨a1, a2, a3, a4⟩ := hc
      obtain ⟨b1, b2, b3, b4⟩ := hd
      have k1 := (mask_mask a1 b1 a2 b2 a4 b4).1 fun z hz => (h z hz).1
      have k2 := (mask_mask b1 a1 b2 a2 b4 a4).1 fun z hz => (h z hz).2
      have em : m = m2 := by
        refine eq_bits a1 b1 fun i hi => ?_
        cases h1 : m.testBit i <;> cases h2 : m2.testBit i
        · rfl
        · rw [(k1 i hi h2).1] at h1; exact absurd h1 (by decide)
        · rw [(k2 i hi h1).1] at h2; exact absurd h2 (by decide)
        · rfl
      subst em
      have ev : v = v2 := by
        have h1 : v &&& m = v2 := (h v a2).1 (sub_and a4)
        rw [sub_and a4] at h1
        exact h1
      rw [ev]
    | rng l u => exact (mask_not_rng hc hd h).elim
  | rng l u =>
    cases d with
    | any => exact (any_not_rng hc fun z hz => (h z hz).2 trivial).elim
    | mask m v => exact (mask_not_rng hd hc fun z hz => (h z hz).symm).elim
    | rng l2 u2 =>
      obtain ⟨⟨h1, h2⟩, _⟩ := hc
      obtain ⟨⟨g1, g2⟩, _⟩ := hd
      have q1 := (h l (by omega)).1 ⟨Nat.le_refl _, h1⟩
      have q2 := (h u h2).1 ⟨h1, Nat.le_refl _⟩
      have q3 := (h l2 (by omega)).2 ⟨Nat.le_refl _, g1⟩
      have q4 := (h u2 g2).2 ⟨g1, Nat.le_refl _⟩
      have e1 : l = l2 := by have := q1.1; have := q3.1; omega
      have e2 : u = u2 := by have := q2.2; have := q4.2; omega
      rw [e1, e2]
end Go.Proofs.Ytdipinclchkhjaa.P

namespace Go.Proofs.Ytdipinclchkhjaa.P
open Go.RowKit Go.Proofs.YtdipinclchkhjaaW.PrintWords Go.Proofs.YtdipinclchkhjaaW.PrintLast Go.Proofs.YtdipinclchkhjaaW.PrintMore
set_option linter.unusedVariables false
set_option linter.unusedSimpArgs false
def K3 (k : Int) : Prop := k = 0 ∨ k = 1 ∨ k = 2
theorem point_t (v : Int) : EvT (fun _ => spec_l3point.f v) (fun r => r = (1, 18446744073709551615, v)) := evt_is rfl rfl
theorem uz : U 0 := ⟨by omega, by omega⟩
theorem u1 : U 1 := ⟨by omega, by omega⟩
theorem uo : U 18446744073709551615 := ⟨by omega, by omega⟩
theorem drawCon_t (l : List Int) (i : Int) (h : Rd l i) : EvT (fun _ => spec_l3drawCon.f l i) (fun r => K3 r.1 ∧ U r.2.1 ∧ U r.2.2.1 ∧ Rd l r.2.2.2) := by
  unfold spec_l3drawCon.f
  refine evt_bind (next_t l i h) ?_
  rintro ⟨v, j⟩ ⟨h1, h2, h3⟩
  dsimp only at *
  refine evt_ite (fun _ => evt_some ⟨.inl rfl, uz, uz, h3⟩) fun _ => evt_ite (fun _ => ?_) fun _ => evt_ite (fun _ => ?_) fun _ => evt_ite (fun _ => ?_) fun _ => evt_ite (fun _ => ?_) fun _ => evt_ite (fun _ => ?_) fun _ => ?_
  · refine evt_bind (next_t l j h3) ?_
    rintro ⟨v2, j2⟩ ⟨_, _, g3⟩
    refine evt_bind (point_t _) ?_
    rintro _ rfl
    exact evt_some ⟨.inr (.inl rfl), uo, u_wrap _, g3⟩
  · refine evt_bind (arg_t l j h3) ?_
    rintro ⟨v2, j2⟩ ⟨g1, g3⟩
    refine evt_bind (point_t _) ?_
    rintro _ rfl
    exact evt_some ⟨.inr (.inl rfl), uo, g1, g3⟩
  · refine evt_bind (next_t l j h3) ?_
    rintro ⟨v2, j2⟩ ⟨g1, g2, g3⟩
    dsimp only at *
    have hm := @tmod_bd v2 5 g1 (by decide)
    refine evt_bind (low_t _ hm.1 (by omega)) fun t ht => ?_
    refine evt_ite (fun _ => ?_) fun _ => ?_
    · refine evt_bind (next_t l j2 g3) ?_
      rintro ⟨v3, j3⟩ ⟨_, _, k3⟩
      refine evt_ite (fun _ => ?_) fun c => absurd (u_wrap _).1 c
      refine evt_bind (arg_t l j3 k3) ?_
      rintro ⟨v4, j4⟩ ⟨m1, m3⟩
      exact evt_some ⟨.inr (.inl rfl), (by (try dsimp only); exact u_bits _ _ _), (by (try dsimp only); exact u_bits _ _ _), m3⟩
    · refine evt_bind (arg_t l j2 g3) ?_
      rintro ⟨v4, j4⟩ ⟨m1, m3⟩
      exact evt_some ⟨.inr (.inl rfl), u_wrap _, (by (try dsimp only); exact u_bits _ _ _), m3⟩
  · refine evt_bind (arg_t l j h3) ?_
    rintro ⟨v2, j2⟩ ⟨g1, g3⟩
    refine evt_bind (arg_t l j2 g3) ?_
    rintro ⟨v3, j3⟩ ⟨k1, k3⟩
    exact evt_some ⟨.inr (.inl rfl), g1, (by (try dsimp only); exact u_bits _ _ _), k3⟩
  · refine evt_bind (next_t l j h3) ?_
    rintro ⟨v2, j2⟩ ⟨_, _, g3⟩
    refine evt_bind (next_t l j2 g3) ?_
    rintro ⟨v3, j3⟩ ⟨_, _, k3⟩
    exact evt_some ⟨.inr (.inr rfl), u_wrap _, u_wrap _, k3⟩
  · refine evt_bind (arg_t l j h3) ?_
    rintro ⟨v2, j2⟩ ⟨g1, g3⟩
    refine evt_bind (near_t v2 g1 l j2 g3) ?_
    rintro ⟨v3, j3⟩ ⟨k1, k3⟩
    refine evt_ite (fun _ => ?_) fun _ => ?_
    · refine evt_bind (arg_t l j3 k3) ?_
      rintro ⟨v4, j4⟩ ⟨m1, m3⟩
      exact evt_ite (fun _ => evt_some ⟨.inr (.inr rfl), m1, g1, m3⟩) fun _ => evt_some ⟨.inr (.inr rfl), g1, m1, m3⟩
    · exact evt_ite (fun _ => evt_some ⟨.inr (.inr rfl), k1, g1, k3⟩) fun _ => evt_some ⟨.inr (.inr rfl), g1, k1, k3⟩
def BC (l : List Int) (r : Int × Int × Int × Int) : Prop := r.1 = 2 ∧ U r.2.1 ∧ U r.2.2.1 ∧ r.2.1 ≤ r.2.2.1 ∧ Rd l r.2.2.2
theorem blk_j2 (a b x7 : Int) (p : Bool) (l : List Int) (i : Int) (h : Rd l i) (ha : U a) (hb : U b) (hab : a ≤ b) (hp : p = true → a < b) : EvT (fun k => spec_l3blockCon.j2 k a b x7 p l i) (BC l) := by
  have ha' := ha
  have hb' := hb
  unfold U at ha' hb'
  refine evt_step _ (fun k => by simp only [spec_l3blockCon.j2]; rfl) ?_
  refine evt_ite (fun c => ?_) fun c => ?_
  · have := hp c
    have e : IntKind.u64.wrap (a + 1) = a + 1 := wrap_u64_id (by omega) (by omega)
    refine evt_ite (fun _ => evt_ite (fun c2 => ?_) fun _ => ?_) fun _ => ?_
    · have e2 : IntKind.u64.wrap (b + 1) = b + 1 := wrap_u64_id (by omega) (by omega)
      exact evt_some ⟨rfl, u_wrap _, u_wrap _, by dsimp only; omega, h⟩
    · exact evt_some ⟨rfl, u_wrap _, hb, by dsimp only; omega, h⟩
    · exact evt_some ⟨rfl, u_wrap _, hb, by dsimp only; omega, h⟩
  · refine evt_ite (fun _ => evt_ite (fun c2 => ?_) fun _ => ?_) fun _ => ?_
    · have e2 : IntKind.u64.wrap (b + 1) = b + 1 := wrap_u64_id (by omega) (by omega)
      exact evt_some ⟨rfl, ha, u_wrap _, by dsimp only; omega, h⟩
    · exact evt_some ⟨rfl, ha, hb, hab, h⟩
    · exact evt_some ⟨rfl, ha, hb, hab, h⟩
theorem blk_j1 (a b x7 : Int) (l : List Int) (i : Int) (h : Rd l i) (ha : U a) (hb : U b) (hab : a ≤ b) : EvT (fun k => spec_l3blockCon.j1 k a b x7 l i) (BC l) := by
  refine evt_step _ (fun k => by simp only [spec_l3blockCon.j1]; rfl) ?_
  exact evt_ite (fun _ => blk_j2 a b x7 _ l i h ha hb hab fun c => by have := of_decide_eq_true c; omega) fun _ => blk_j2 a b x7 _ l i h ha hb hab fun c => absurd c (by decide)
theorem blk_j0 (a b x7 : Int) (p : Bool) (l : List Int) (i : Int) (h : Rd l i) (ha : U a) (hb : U b) (hab : a ≤ b) (hp : p = true → a < b) : EvT (fun k => spec_l3blockCon.j0 k a b x7 p l i) (BC l) := by
  refine evt_step _ (fun k => by simp only [spec_l3blockCon.j0]; rfl) ?_
  refine evt_ite (fun c => ?_) fun _ => blk_j1 a b x7 l i h ha hb hab
  have := hp c
  have hb' := hb
  have ha' := ha
  unfold U at ha' hb'
  have e : IntKind.u64.wrap (b - 1) = b - 1 := wrap_u64_id (by omega) (by omega)
  exact blk_j1 a _ x7 l i h ha (u_wrap _) (by omega)
theorem blockCon_t (l : List Int) (i : Int) (h : Rd l i) : EvT (fun k => spec_l3blockCon.f k l i) (BC l) := by
  unfold spec_l3blockCon.f
  refine evt_bind (next_t l i h) ?_
  rintro ⟨v, j⟩ ⟨h1, h2, h3⟩
  dsimp only at *
  have hm := @tmod_bd v 65 h1 (by decide)
  refine evt_bind (low_t _ hm.1 (by omega)) fun t ht => ?_
  refine evt_bind (arg_t l j h3) ?_
  rintro ⟨x, j2⟩ ⟨g1, g3⟩
  dsimp only at *
  refine evt_bind (next_t l j2 g3) ?_
  rintro ⟨v3, j3⟩ ⟨_, _, k3⟩
  dsimp only at *
  have hle : bits .andNot .u64 x t ≤ bits .or .u64 (bits .andNot .u64 x t) t := by
    obtain ⟨n, hn, n2⟩ := u_nat (u_bits .andNot x t)
    obtain ⟨m, rfl, m2⟩ := u_nat ht
    rw [hn, or64 n m n2 m2]
    have : n ≤ n ||| m := Nat.left_le_or
    omega
  refine evt_ite (fun _ => ?_) fun _ => ?_
  · exact blk_j0 _ _ _ _ l j3 k3 ((by (try dsimp only); exact u_bits _ _ _)) ((by (try dsimp only); exact u_bits _ _ _)) hle fun c => of_decide_eq_true c
  · exact blk_j0 _ _ _ _ l j3 k3 ((by (try dsimp only); exact u_bits _ _ _)) ((by (try dsimp only); exact u_bits _ _ _)) hle fun c => absurd c (by decide)
theorem spoil_t (k a b : Int) (ha : U a) (hb : U b) (l : List Int) (i : Int) (h : Rd l i) : EvT (fun _ => spec_l3spoilCon.f k a b l i) (fun r => U r.2.1 ∧ U r.2.2.1) := by
  unfold spec_l3spoilCon.f
  refine evt_bind (next_t l i h) ?_
  rintro ⟨v, j⟩ ⟨h1, h2, h3⟩
  dsimp only at *
  exact evt_ite (fun _ => evt_some ⟨ha, hb⟩) fun _ => evt_ite (fun _ => evt_some ⟨ha, hb⟩) fun _ => evt_ite (fun _ => evt_some ⟨hb, u_wrap _⟩) fun _ => evt_ite (fun _ => evt_some ⟨u_wrap _, hb⟩) fun _ => evt_ite (fun _ => evt_some ⟨ha, u1⟩) fun _ => evt_some ⟨u1, uz⟩
theorem conOK_t (k a b : Int) (ha : U a) (hb : U b) : EvT (fun _ => spec_l3conOK.f k a b) (fun _ => True) := by
  obtain ⟨n, rfl, n2⟩ := u_nat ha
  obtain ⟨m, rfl, m2⟩ := u_nat hb
  exact evt_is (l3conOK_is k n m n2 m2) trivial
theorem block_t (k a b : Int) (hk : K3 k) (ha : U a) (hb : U b) : EvT (fun n => spec_l3block.f n k a b) (fun r => U r.1 ∧ U r.2.1) := by
  rcases hk with rfl | rfl | rfl
  · exact evt_ev (r := (0, 18446744073709551615, true)) (ev_is fun n => by unfold spec_l3block.f; rw [if_pos rfl]) ⟨uz, uo⟩
  · obtain ⟨n, rfl, n2⟩ := u_nat ha
    obtain ⟨m, rfl, m2⟩ := u_nat hb
    rcases l3block_mask n m n2 with ⟨j, hj, he, hev⟩ | ⟨hno, hev⟩
    · exact evt_ev hev ⟨hb, u_wrap _⟩
    · exact evt_ev hev ⟨uz, uz⟩
  · exact evt_ev (r := (a, b, true)) (ev_is fun n => by unfold spec_l3block.f; rw [if_neg (by decide), if_pos rfl]) ⟨ha, hb⟩
theorem norm_t (a b : Int) (ha : U a) (hb : U b) (hab : a ≤ b) : EvT (fun n => spec_l3norm.f n 2 a b) (fun r => U r.2.1 ∧ U r.2.2) := by
  obtain ⟨n, rfl, n2⟩ := u_nat ha
  obtain ⟨m, rfl, m2⟩ := u_nat hb
  have hok : (normRaw 2 n m).2 = true := by
    unfold normRaw
    rw [if_neg (by decide), if_neg (by decide), if_pos rfl, if_neg (by omega)]
  refine evt_ev (l3norm_ev 2 n m n2 m2 hok) ?_
  obtain ⟨c, c1, c2, c3⟩ := normRaw_normal 2 n m n2 m2 hok
  rw [c1]
  obtain ⟨k, x, y, e, hg, _⟩ := InC_con c 0
  rw [e]
  have := hg c2.good
  exact ⟨⟨by dsimp only; omega, by dsimp only; omega⟩, ⟨by dsimp only; omega, by dsimp only; omega⟩⟩
def C6 (r : Int × Int × Int × Int × Int × Int) : Prop := (U r.2.1 ∧ U r.2.2.1) ∧ U r.2.2.2.2.1 ∧ U r.2.2.2.2.2
theorem dcwT_t (x5 k1 a1 b1 k2 a2 b2 : Int) (ha1 : U a1) (hb1 : U b1) (ha2 : U a2) (hb2 : U b2) : EvT (fun _ => dcwT x5 k1 a1 b1 k2 a2 b2) C6 := by
  unfold dcwT
  refine evt_bind (conOK_t _ _ _ ha2 hb2) fun t _ => ?_
  exact evt_ite (fun _ => evt_some ⟨⟨ha1, hb1⟩, ha2, hb2⟩) fun _ => evt_ite (fun _ => evt_ite (fun _ => evt_some ⟨⟨ha1, hb1⟩, ha1, hb1⟩) fun _ => evt_some ⟨⟨ha1, hb1⟩, ha2, hb2⟩) fun _ => evt_some ⟨⟨ha1, hb1⟩, ha2, hb2⟩
theorem drawConWithin_t (l : List Int) (h : ∀ x ∈ l, (Lit.int .u8 x).wf = true) : EvT (fun k => spec_DrawConWithin.f k l) C6 := by
  unfold spec_DrawConWithin.f
  refine evt_bind (open_t l h) ?_
  rintro ⟨l, i⟩ hr
  dsimp only at *
  refine evt_bind (next_t l i hr) ?_
  rintro ⟨v, j⟩ ⟨_, _, a3⟩
  dsimp only at *
  refine evt_bind (drawCon_t l j a3) ?_
  rintro ⟨k1, a1, b1, j2⟩ ⟨hk1, ha1, hb1, r2⟩
  dsimp only at *
  refine evt_bind (drawCon_t l j2 r2) ?_
  rintro ⟨k2, a2, b2, j3⟩ ⟨hk2, ha2, hb2, r3⟩
  dsimp only at *
  unfold dcwB
  refine evt_ite (fun _ => ?_) fun _ => evt_ite (fun _ => ?_) fun _ => evt_ite (fun _ => ?_) fun _ => evt_ite (fun _ => ?_) fun _ => evt_ite (fun _ => ?_) fun _ => evt_ite (fun _ => ?_) fun _ => ?_
  · refine evt_bind (blockCon_t l j3 r3) ?_
    rintro ⟨k3, a3, b3, j4⟩ ⟨hk3, ha3, hb3, _, r4⟩
    dsimp only at *
    refine evt_bind (blockCon_t l j4 r4) ?_
    rintro ⟨k4, a4, b4, j5⟩ ⟨hk4, ha4, hb4, hab, r5⟩
    dsimp only at *
    subst hk4
    refine evt_bind (norm_t a4 b4 ha4 hb4 hab) ?_
    rintro ⟨k5, a5, b5⟩ ⟨ha5, hb5⟩
    dsimp only at *
    exact dcwT_t _ _ _ _ _ _ _ ha3 hb3 ha5 hb5
  · exact dcwT_t _ _ _ _ _ _ _ ha1 hb1 (u_bits _ _ _) (u_bits _ _ _)
  · refine evt_bind (block_t k1 a1 b1 hk1 ha1 hb1) ?_
    rintro ⟨lo, hi, p⟩ ⟨hlo, hhi⟩
    dsimp only at *
    refine evt_ite (fun _ => ?_) fun _ => dcwT_t _ _ _ _ _ _ _ ha1 hb1 ha2 hb2
    refine evt_bind (next_t l j3 r3) ?_
    rintro ⟨v4, j4⟩ ⟨g1, g2, g3⟩
    dsimp only at *
    have hm := @tmod_bd v4 12 g1 (by decide)
    refine evt_bind (low_t _ hm.1 (by omega)) fun t ht => ?_
    refine evt_ite (fun _ => evt_ite (fun _ => ?_) fun _ => ?_) fun _ => ?_
    · refine evt_bind (next_t l j4 g3) ?_
      rintro ⟨v5, j5⟩ ⟨_, _, g6⟩
      dsimp only at *
      exact dcwT_t _ _ _ _ _ _ _ ha1 hb1 (u_wrap _) (u_wrap _)
    · exact dcwT_t _ _ _ _ _ _ _ ha1 hb1 (u_wrap _) (u_bits _ _ _)
    · exact dcwT_t _ _ _ _ _ _ _ ha1 hb1 (u_wrap _) (u_bits _ _ _)
  · exact dcwT_t _ _ _ _ _ _ _ ha1 hb1 ha1 hb1
  · refine evt_bind (spoil_t k1 a1 b1 ha1 hb1 l j3 r3) ?_
    rintro ⟨k3, a3, b3, j4⟩ ⟨ha3, hb3⟩
    dsimp only at *
    exact dcwT_t _ _ _ _ _ _ _ ha3 hb3 ha2 hb2
  · refine evt_bind (spoil_t k2 a2 b2 ha2 hb2 l j3 r3) ?_
    rintro ⟨k3, a3, b3, j4⟩ ⟨ha3, hb3⟩
    dsimp only at *
    exact dcwT_t _ _ _ _ _ _ _ ha1 hb1 ha3 hb3
  · exact dcwT_t _ _ _ _ _ _ _ ha1 hb1 ha2 hb2
end Go.Proofs.Ytdipinclchkhjaa.P

namespace Go.Proofs.Ytdipinclchkhjaa.P
open Go.RowKit Go.Proofs.YtdipinclchkhjaaW.PrintWords Go.Proofs.YtdipinclchkhjaaW.PrintLast Go.Proofs.YtdipinclchkhjaaW.PrintMore
set_option linter.unusedVariables false
set_option linter.unusedSimpArgs false
/-! A valid condition, by its set. -/
def Pres (t : Int × Int × Int) (S : Nat → Prop) : Prop :=
  ∃ (k : Int) (a b : Nat), t = (k, (a : Int), (b : Int)) ∧ a < 18446744073709551616 ∧ b < 18446744073709551616 ∧ (normRaw k a b).2 = true ∧ ∀ z, z < 18446744073709551616 → (InC k a b z ↔ S z)
theorem pres_con (c : NC) (h : c.Normal) : Pres c.cd.con c.In := by
  obtain ⟨k, a, b, e, hb, hs⟩ := InC_con c 0
  have hn := normRaw_con c h
  rw [e] at hn
  have hg := hb h.good
  exact ⟨k, a, b, e, hg.1, hg.2, by simp only at hn; rw [hn], fun z _ => hs z⟩
theorem pres_within {t u : Int × Int × Int} {S R : Nat → Prop} (h : Pres t S) (g : Pres u R) :
    ∃ r, impl_ConWithin.f t.1 t.2.1 t.2.2 u.1 u.2.1 u.2.2 = some r ∧ (r = true ↔ ∀ z, z < 18446744073709551616 → S z → R z) := by
  obtain ⟨k, a, b, rfl, h1, h2, h3, h4⟩ := h
  obtain ⟨k2, a2, b2, rfl, g1, g2, g3, g4⟩ := g
  obtain ⟨r, e, i⟩ := implConWithin_iff k a b k2 a2 b2 h1 h2 g1 g2
  refine ⟨r, e, i.trans ⟨fun ⟨_, _, hl⟩ z hz hs => (g4 z hz).1 (hl z hz ((h4 z hz).2 hs)), fun hl => ⟨h3, g3, fun z hz hi => (g4 z hz).2 (hl z hz ((h4 z hz).1 hi))⟩⟩⟩
/-- What NormCon makes of a valid condition: the normal one, the same set. -/
theorem pres_norm {t : Int × Int × Int} {S : Nat → Prop} (h : Pres t S) : ∃ c : NC, c.Normal ∧ impl_NormCon.f t.1 t.2.1 t.2.2 = some c.cd.con ∧ ∀ z, z < 18446744073709551616 → (c.In z ↔ S z) := by
  obtain ⟨k, a, b, rfl, h1, h2, h3, h4⟩ := h
  obtain ⟨c, c1, c2, c3⟩ := normRaw_normal k a b h1 h2 h3
  refine ⟨c, c2, ?_, fun z hz => (c3 z hz).trans (h4 z hz)⟩
  unfold impl_NormCon.f
  simp only
  rw [if_pos h3, c1]
theorem con_inj {c d : NC} (h : c.cd.con = d.cd.con) : c = d := by
  cases c <;> cases d <;> simp [NC.cd, Cd.con] at h ⊢ <;> omega
end Go.Proofs.Ytdipinclchkhjaa.P

namespace Go.Proofs.Ytdipinclchkhjaa.P
open Go.RowKit Go.Proofs.YtdipinclchkhjaaW.PrintWords Go.Proofs.YtdipinclchkhjaaW.PrintLast Go.Proofs.YtdipinclchkhjaaW.PrintMore
set_option linter.unusedVariables false
set_option linter.unusedSimpArgs false
theorem ok_sub {a b : Nat} (ha : a < 18446744073709551616) (hb : b < 18446744073709551616) (hok : (normRaw 1 a b).2 = true) : Sub b a := by
  have h := l3conOK_is 1 a b ha hb
  rw [hok] at h
  unfold spec_l3conOK.f at h
  rw [if_neg (by decide), if_pos rfl, or64 a b ha hb] at h
  have := Option.some.inj h
  rw [beq_iff_eq] at this
  exact or_sub (by omega)
theorem ok_rng {a b : Nat} (hok : (normRaw 2 a b).2 = true) : a ≤ b := by
  unfold normRaw at hok
  rw [if_neg (by decide), if_neg (by decide), if_pos rfl] at hok
  by_cases h : (a : Int) > b
  · rw [if_pos h] at hok; exact absurd hok (by decide)
  · omega
theorem ok_kind {k : Int} {a b : Int} (hok : (normRaw k a b).2 = true) : k = 0 ∨ k = 1 ∨ k = 2 := by
  unfold normRaw at hok
  by_cases h0 : k = 0
  · exact .inl h0
  · by_cases h1 : k = 1
    · exact .inr (.inl h1)
    · by_cases h2 : k = 2
      · exact .inr (.inr h2)
      · rw [if_neg h0, if_neg h1, if_neg h2] at hok; exact absurd hok (by decide)
/-- A condition's set: one block, or a mask's. -/
theorem l3block_is (k : Int) (a b : Nat) (ha : a < 18446744073709551616) (hb : b < 18446744073709551616) (hok : (normRaw k a b).2 = true) :
    (∃ lo hi : Nat, lo ≤ hi ∧ hi < 18446744073709551616 ∧ Ev (fun n => spec_l3block.f n k a b) ((lo : Int), (hi : Int), true) ∧ ∀ z, z < 18446744073709551616 → (InC k a b z ↔ lo ≤ z ∧ z ≤ hi)) ∨
    (k = 1 ∧ Ev (fun n => spec_l3block.f n k a b) (0, 0, false)) := by
  rcases ok_kind hok with rfl | rfl | rfl
  · refine .inl ⟨0, 18446744073709551615, by omega, by omega, ev_is fun n => by unfold spec_l3block.f; rw [if_pos rfl]; rfl, fun z hz => ?_⟩
    simp only [InC]
    simp
    omega
  · have hs := ok_sub ha hb hok
    rcases l3block_mask a b ha with ⟨j, hj, he, hev⟩ | ⟨hno, hev⟩
    · have hp := two_pow_le j hj
      have hmod : b % 2 ^ j = 0 := by
        rw [← Nat.and_two_pow_sub_one_eq_mod, and_low]
        intro i hi
        cases hbi : b.testBit i
        · rfl
        · have h1 := hs i hbi
          rw [he, tb_not _ _ (by omega), Nat.testBit_two_pow_sub_one] at h1
          simp [hi] at h1
      have hle : b + (2 ^ j - 1) < 18446744073709551616 := by
        have hb2 : b ≤ a := Nat.le_of_testBit hs
        omega
      have hw : IntKind.u64.wrap ((b : Int) + ((2 ^ j - 1 : Nat) : Int)) = ((b + (2 ^ j - 1) : Nat) : Int) := by rw [wrap_u64_id (by omega) (by omega)]; omega
      rw [hw] at hev
      refine .inl ⟨b, b + (2 ^ j - 1), by omega, hle, hev, fun z hz => ?_⟩
      unfold InC
      rw [if_pos rfl, he]
      exact block_set hj hmod hz
    · exact .inr ⟨rfl, hev⟩
  · have hab := ok_rng hok
    refine .inl ⟨a, b, hab, hb, ev_is fun n => by unfold spec_l3block.f; rw [if_neg (by decide), if_pos rfl], fun z hz => ?_⟩
    unfold InC
    rw [if_neg (by decide), if_pos rfl]
theorem l3holds_is (k : Int) (a b x : Nat) (ha : a < 18446744073709551616) (hx : x < 18446744073709551616) : ∃ r, spec_l3holds.f k a b x = some r ∧ (r = true ↔ InC k a b x) := by
  unfold spec_l3holds.f InC
  by_cases h1 : k = 1
  · rw [if_pos h1, if_pos h1, and64 x a hx ha]
    refine ⟨_, rfl, ?_⟩
    rw [beq_iff_eq]
    omega
  · rw [if_neg h1, if_neg h1]
    by_cases h2 : k = 2
    · rw [if_pos h2, if_pos h2]
      by_cases h3 : (a : Int) ≤ x
      · rw [if_pos h3]
        refine ⟨_, rfl, ?_⟩
        rw [decide_eq_true_eq]
        omega
      · rw [if_neg h3]
        refine ⟨_, rfl, ?_⟩
        simp
        omega
    · rw [if_neg h2, if_neg h2]
      exact ⟨_, rfl, by simp⟩
theorem bit_is (m i : Nat) (hm : m < 18446744073709551616) (hi : i < 64) : bits .and .u64 (m : Int) (IntKind.u64.wrap (((2 ^ i - 1 : Nat) : Int) + 1)) = if m.testBit i = true then ((2 ^ i : Nat) : Int) else 0 := by
  have hp := two_pow_lt i hi
  have e : IntKind.u64.wrap (((2 ^ i - 1 : Nat) : Int) + 1) = ((2 ^ i : Nat) : Int) := by rw [wrap_u64_id (by omega) (by omega)]; omega
  rw [e, and64 m _ hm (by omega), and_pow]
  split <;> rfl
/-- What the search for a first value outside says. -/
def Outs (k : Int) (a b x : Nat) (r : Int × Bool) : Prop :=
  (r = (0, false) ∧ ∀ z, x ≤ z → z < 18446744073709551616 → InC k a b z) ∨
  (∃ y : Nat, r = ((y : Int), true) ∧ x ≤ y ∧ y < 18446744073709551616 ∧ ¬ InC k a b y ∧ ∀ z, x ≤ z → z < y → InC k a b z)
theorem l3outside_mask (a b x : Nat) (ha : a < 18446744073709551616) (hx : x < 18446744073709551616) (hin : x &&& a = b) : ∃ r, Ev (fun n => spec_l3outside.l0 n x 0 1 a b) r ∧ Outs 1 a b x r := by
  have hIn : ∀ z, InC 1 a b z ↔ z &&& a = b := fun z => by unfold InC; rw [if_pos rfl]
  have key : ∀ d i : Nat, i + d = 64 → (∀ j, j < i → a.testBit j = false) → ∃ r, Ev (fun n => spec_l3outside.l0 n x (i : Int) 1 a b) r ∧ Outs 1 a b x r := by
    intro d
    induction d with
    | zero =>
      intro i hi hno
      refine ⟨(0, false), ev_end fun k => by simp only [spec_l3outside.l0]; rw [if_neg (by omega)], .inl ⟨rfl, fun z _ hz => ?_⟩⟩
      have e : i = 64 := by omega
      subst e
      rw [hIn, ← hin]
      exact and_high hno (by rw [Nat.div_eq_of_lt (by omega), Nat.div_eq_of_lt (by omega)])
    | succ d ih =>
      intro i hi hno
      have hi64 : i < 64 := by omega
      have hp := two_pow_lt i hi64
      by_cases hb : a.testBit i = true
      · have hor : bits .or .u64 (x : Int) ((2 ^ i - 1 : Nat) : Int) = ((2 ^ i * (x / 2 ^ i) + (2 ^ i - 1) : Nat) : Int) := by
          rw [or64 x _ hx (by omega), or_low]
        have hlt : 2 ^ i * (x / 2 ^ i) + (2 ^ i - 1) < 18446744073709551616 := by
          rw [← or_low]
          exact Nat.or_lt_two_pow (n := 64) hx (by omega)
        have hxd := Nat.div_add_mod x (2 ^ i)
        have hxm := Nat.mod_lt x hp.1
        have hsame : ∀ z, x ≤ z → z ≤ 2 ^ i * (x / 2 ^ i) + (2 ^ i - 1) → InC 1 a b z := by
          intro z h1 h2
          rw [hIn, ← hin]
          refine and_high hno ?_
          refine Nat.div_eq_of_lt_le ?_ ?_
          · rw [Nat.mul_comm]; omega
          · rw [Nat.succ_mul, Nat.mul_comm]; omega
        by_cases hmax : 2 ^ i * (x / 2 ^ i) + (2 ^ i - 1) = 18446744073709551615
        · refine ⟨(0, false), ev_end fun k => ?_, .inl ⟨rfl, fun z h1 h2 => hsame z h1 (by omega)⟩⟩
          simp only [spec_l3outside.l0]
          rw [if_pos (by omega), l3low_is i (by omega), Option.bind_some, bit_is a i ha hi64, if_pos hb, if_neg (by omega), Option.bind_some, hor, if_pos (by omega)]
        · have hq : (2 ^ i * (x / 2 ^ i) + (2 ^ i - 1) + 1) / 2 ^ i = x / 2 ^ i + 1 := by
            have : 2 ^ i * (x / 2 ^ i) + (2 ^ i - 1) + 1 = 2 ^ i * (x / 2 ^ i + 1) := by rw [Nat.mul_succ]; omega
            rw [this]
            exact Nat.mul_div_cancel_left _ hp.1
          refine ⟨(((2 ^ i * (x / 2 ^ i) + (2 ^ i - 1) + 1 : Nat) : Int), true), ev_end fun k => ?_, .inr ⟨_, rfl, by omega, by omega, ?_, fun z h1 h2 => hsame z h1 (by omega)⟩⟩
          · simp only [spec_l3outside.l0]
            rw [if_pos (by omega), l3low_is i (by omega), Option.bind_some, bit_is a i ha hi64, if_pos hb, if_neg (by omega), Option.bind_some, hor, if_neg (by omega), wrap_u64_id (by omega) (by omega)]
            rfl
          · rw [hIn]
            intro h
            have h2 := congrArg (fun y => y.testBit i) (h.trans hin.symm)
            simp only [Nat.testBit_and, hb, Bool.and_true] at h2
            rw [Nat.testBit_eq_decide_div_mod_eq, Nat.testBit_eq_decide_div_mod_eq, hq] at h2
            by_cases h3 : x / 2 ^ i % 2 = 1
            · have : ¬ (x / 2 ^ i + 1) % 2 = 1 := by omega
              simp [h3, this] at h2
            · have : (x / 2 ^ i + 1) % 2 = 1 := by omega
              simp [h3, this] at h2
      · obtain ⟨r, h1, h2⟩ := ih (i + 1) (by omega) (fun j hj => by
          by_cases e : j = i
          · subst e; simpa using hb
          · exact hno j (by omega))
        refine ⟨r, ev_step _ (fun k => ?_) h1, h2⟩
        simp only [spec_l3outside.l0]
        rw [if_pos (by omega), l3low_is i (by omega), Option.bind_some, bit_is a i ha hi64, if_neg hb, if_pos rfl, wrap64_id (by omega) (by omega)]
        rfl
  exact key 64 0 (by omega) (fun j hj => by omega)
theorem l3outside_is (k : Int) (a b x : Nat) (ha : a < 18446744073709551616) (hb : b < 18446744073709551616) (hx : x < 18446744073709551616) (hok : (normRaw k a b).2 = true) : ∃ r, Ev (fun n => spec_l3outside.f n k a b x) r ∧ Outs k a b x r := by
  obtain ⟨t, h1, h2⟩ := l3holds_is k a b x ha hx
  by_cases ht : t = true
  · have hin := h2.1 ht
    rcases ok_kind hok with rfl | rfl | rfl
    · refine ⟨(0, false), ev_is fun n => ?_, .inl ⟨rfl, fun z _ _ => by simp [InC]⟩⟩
      unfold spec_l3outside.f
      rw [h1, Option.bind_some, if_pos ht, if_pos rfl]
    · have hin2 : x &&& a = b := by unfold InC at hin; rwa [if_pos rfl] at hin
      obtain ⟨r, r1, r2⟩ := l3outside_mask a b x ha hx hin2
      refine ⟨r, Ev.congr (fun n => ?_) r1, r2⟩
      unfold spec_l3outside.f
      rw [h1, Option.bind_some, if_pos ht, if_neg (by decide), if_neg (by decide)]
    · have hin2 : a ≤ x ∧ x ≤ b := by unfold InC at hin; rwa [if_neg (by decide), if_pos rfl] at hin
      have hI : ∀ z, InC 2 a b z ↔ a ≤ z ∧ z ≤ b := fun z => by unfold InC; rw [if_neg (by decide), if_pos rfl]
      by_cases hm : (b : Int) = 18446744073709551615
      · refine ⟨(0, false), ev_is fun n => ?_, .inl ⟨rfl, fun z h3 h4 => (hI z).2 (by omega)⟩⟩
        unfold spec_l3outside.f
        rw [h1, Option.bind_some, if_pos ht, if_neg (by decide), if_pos rfl, if_pos hm]
      · refine ⟨(((b + 1 : Nat) : Int), true), ev_is fun n => ?_, .inr ⟨b + 1, rfl, by omega, by omega, fun h => by have := (hI _).1 h; omega, fun z h3 h4 => (hI z).2 (by omega)⟩⟩
        unfold spec_l3outside.f
        rw [h1, Option.bind_some, if_pos ht, if_neg (by decide), if_pos rfl, if_neg hm, wrap_u64_id (by omega) (by omega)]
        rfl
  · refine ⟨((x : Int), true), ev_is fun n => ?_, .inr ⟨x, rfl, Nat.le_refl _, hx, fun h => ht (h2.2 h), fun z h3 h4 => by omega⟩⟩
    unfold spec_l3outside.f
    rw [h1, Option.bind_some, if_neg ht]
theorem l3within_mask (k k2 : Int) (a b a2 b2 : Nat) (ha : a < 18446744073709551616) (hb : b < 18446744073709551616) (ha2 : a2 < 18446744073709551616) (hb2 : b2 < 18446744073709551616) :
    ∃ r, Ev (fun n => spec_l3within.l0 n 0 k a b k2 a2 b2) r ∧ (r = true ↔ ∀ i, i < 64 → a2.testBit i = true → a.testBit i = true ∧ b.testBit i = b2.testBit i) := by
  have key : ∀ d i : Nat, i + d = 64 → ∃ r, Ev (fun n => spec_l3within.l0 n (i : Int) k a b k2 a2 b2) r ∧ (r = true ↔ ∀ j, i ≤ j → j < 64 → a2.testBit j = true → a.testBit j = true ∧ b.testBit j = b2.testBit j) := by
    intro d
    induction d with
    | zero =>
      intro i hi
      exact ⟨true, ev_end fun k => by simp only [spec_l3within.l0]; rw [if_neg (by omega)], ⟨fun _ j h1 h2 => by omega, fun _ => rfl⟩⟩
    | succ d ih =>
      intro i hi
      have hi64 : i < 64 := by omega
      have hp := two_pow_lt i hi64
      obtain ⟨r, r1, r2⟩ := ih (i + 1) (by omega)
      have hnext : wrap64 ((i : Int) + 1) = ((i + 1 : Nat) : Int) := by rw [wrap64_id (by omega) (by omega)]; rfl
      by_cases h1 : a2.testBit i = true
      · by_cases h2 : a.testBit i = true
        · by_cases h3 : b.testBit i = b2.testBit i
          · refine ⟨r, ev_step _ (fun n => ?_) r1, r2.trans ⟨fun h j j1 j2 j3 => ?_, fun h j j1 => h j (by omega)⟩⟩
            · simp only [spec_l3within.l0]
              rw [if_pos (by omega), l3low_is i (by omega), Option.bind_some, bit_is a2 i ha2 hi64, if_pos h1, if_neg (by omega), bit_is a i ha hi64, if_pos h2, if_neg (by omega), bit_is b i hb hi64, bit_is b2 i hb2 hi64, h3, if_pos rfl, hnext]
            · by_cases e : j = i
              · subst e; exact ⟨h2, h3⟩
              · exact h j (by omega) j2 j3
          · refine ⟨false, ev_end fun n => ?_, ⟨fun h => absurd h (by decide), fun h => absurd (h i (Nat.le_refl _) hi64 h1).2 h3⟩⟩
            simp only [spec_l3within.l0]
            rw [if_pos (by omega), l3low_is i (by omega), Option.bind_some, bit_is a2 i ha2 hi64, if_pos h1, if_neg (by omega), bit_is a i ha hi64, if_pos h2, if_neg (by omega), bit_is b i hb hi64, bit_is b2 i hb2 hi64, if_neg ?_]
            by_cases hx : b.testBit i = true
            · by_cases hy : b2.testBit i = true
              · exact absurd (hx.trans hy.symm) h3
              · rw [if_pos hx, if_neg hy]; omega
            · by_cases hy : b2.testBit i = true
              · rw [if_neg hx, if_pos hy]; omega
              · exact absurd ((Bool.eq_false_iff.2 hx).trans (Bool.eq_false_iff.2 hy).symm) h3
        · refine ⟨false, ev_end fun n => ?_, ⟨fun h => absurd h (by decide), fun h => absurd (h i (Nat.le_refl _) hi64 h1).1 h2⟩⟩
          simp only [spec_l3within.l0]
          rw [if_pos (by omega), l3low_is i (by omega), Option.bind_some, bit_is a2 i ha2 hi64, if_pos h1, if_neg (by omega), bit_is a i ha hi64, if_neg h2, if_pos rfl]
      · refine ⟨r, ev_step _ (fun n => ?_) r1, r2.trans ⟨fun h j j1 j2 j3 => ?_, fun h j j1 => h j (by omega)⟩⟩
        · simp only [spec_l3within.l0]
          rw [if_pos (by omega), l3low_is i (by omega), Option.bind_some, bit_is a2 i ha2 hi64, if_neg h1, if_pos rfl, hnext]
        · by_cases e : j = i
          · subst e; exact absurd j3 h1
          · exact h j (by omega) j2 j3
  obtain ⟨r, r1, r2⟩ := key 64 0 (by omega)
  exact ⟨r, r1, r2.trans ⟨fun h j => h j (by omega), fun h j _ => h j⟩⟩
theorem l3within_is (k : Int) (a b : Nat) (k2 : Int) (a2 b2 : Nat) (ha : a < 18446744073709551616) (hb : b < 18446744073709551616) (ha2 : a2 < 18446744073709551616) (hb2 : b2 < 18446744073709551616) (hok : (normRaw k a b).2 = true) (hok2 : (normRaw k2 a2 b2).2 = true) :
    ∃ r, Ev (fun n => spec_l3within.f n k a b k2 a2 b2) r ∧ (r = true ↔ Lies k a b k2 a2 b2) := by
  rcases l3block_is k a b ha hb hok with ⟨lo, hi, b1, b3, hev, hset⟩ | ⟨rfl, hev⟩
  · obtain ⟨⟨y, ok⟩, hout, ho⟩ := l3outside_is k2 a2 b2 lo ha2 hb2 (by omega) hok2
    obtain ⟨K1, e1⟩ := ev_get hev
    obtain ⟨K2, e2⟩ := ev_get hout
    have hL : Lies k a b k2 a2 b2 ↔ ∀ z, lo ≤ z → z ≤ hi → InC k2 a2 b2 z :=
      ⟨fun h z z1 z2 => h z (by omega) ((hset z (by omega)).2 ⟨z1, z2⟩), fun h z hz hi => h z ((hset z hz).1 hi).1 ((hset z hz).1 hi).2⟩
    rcases ho with ⟨hr, hall⟩ | ⟨y', hr, y1, y2, y3, y4⟩
    · injection hr with hy hk
      subst hy; subst hk
      refine ⟨true, ev_mk (K1 + K2) fun n hn => ?_, ⟨fun _ => hL.2 fun z z1 z2 => hall z z1 (by omega), fun _ => rfl⟩⟩
      unfold spec_l3within.f
      rw [e1 n (by omega), Option.bind_some, if_pos rfl]
      show Option.bind (spec_l3outside.f n k2 a2 b2 lo) _ = _
      rw [e2 n (by omega), Option.bind_some, if_neg (by decide)]
    · injection hr with hy hk
      subst hy; subst hk
      refine ⟨decide ((y' : Int) > hi), ev_mk (K1 + K2) fun n hn => ?_, ?_⟩
      · unfold spec_l3within.f
        rw [e1 n (by omega), Option.bind_some, if_pos rfl]
        show Option.bind (spec_l3outside.f n k2 a2 b2 lo) _ = _
        rw [e2 n (by omega), Option.bind_some, if_pos rfl]
      · rw [decide_eq_true_eq, hL]
        constructor
        · intro h z z1 z2
          exact y4 z z1 (by omega)
        · intro h
          rcases Nat.lt_or_ge hi y' with h1 | h1
          · omega
          · exact absurd (h y' y1 h1) y3
  · obtain ⟨K1, e1⟩ := ev_get hev
    have hs := ok_sub ha hb hok
    have hI : ∀ z, InC 1 a b z ↔ z &&& a = b := fun z => by unfold InC; rw [if_pos rfl]
    rcases ok_kind hok2 with rfl | rfl | rfl
    · have hz2 : a2 = 0 ∧ b2 = 0 := by
        unfold normRaw at hok2
        rw [if_pos rfl] at hok2
        simp at hok2
        omega
      obtain ⟨rfl, rfl⟩ := hz2
      obtain ⟨r, r1, r2⟩ := l3within_mask 1 0 a b 0 0 ha hb ha2 hb2
      obtain ⟨K2, e2⟩ := ev_get r1
      refine ⟨r, ev_mk (K1 + K2) fun n hn => ?_, ?_⟩
      · unfold spec_l3within.f
        rw [e1 n (by omega), Option.bind_some, if_neg (by decide), if_neg (by decide)]
        exact e2 n (by omega)
      · rw [r2]
        exact ⟨fun _ z _ _ => by simp [InC], fun _ i _ h => by rw [Nat.zero_testBit] at h; exact absurd h (by decide)⟩
    · have hs2 := ok_sub ha2 hb2 hok2
      have hI2 : ∀ z, InC 1 a2 b2 z ↔ z &&& a2 = b2 := fun z => by unfold InC; rw [if_pos rfl]
      obtain ⟨r, r1, r2⟩ := l3within_mask 1 1 a b a2 b2 ha hb ha2 hb2
      obtain ⟨K2, e2⟩ := ev_get r1
      refine ⟨r, ev_mk (K1 + K2) fun n hn => ?_, ?_⟩
      · unfold spec_l3within.f
        rw [e1 n (by omega), Option.bind_some, if_neg (by decide), if_neg (by decide)]
        exact e2 n (by omega)
      · rw [r2, ← mask_mask ha ha2 hb hb2 hs hs2]
        unfold Lies
        simp only [hI, hI2]
    · have hab := ok_rng hok2
      obtain ⟨m1, m2, m3, m4⟩ := mask_ends ha hb hs
      have hI2 : ∀ z, InC 2 a2 b2 z ↔ a2 ≤ z ∧ z ≤ b2 := fun z => by unfold InC; rw [if_neg (by decide), if_pos rfl]
      have hor : bits .or .u64 (b : Int) (IntKind.u64.wrap (18446744073709551615 - (a : Int))) = ((b ||| (18446744073709551615 - a) : Nat) : Int) := by
        have : IntKind.u64.wrap (18446744073709551615 - (a : Int)) = ((18446744073709551615 - a : Nat) : Int) := by rw [wrap_u64_id (by omega) (by omega)]; omega
        rw [this, or64 b _ hb (by omega)]
      have hL : Lies 1 a b 2 a2 b2 ↔ a2 ≤ b ∧ b ||| (18446744073709551615 - a) ≤ b2 := by
        unfold Lies
        simp only [hI, hI2]
        constructor
        · intro h
          exact ⟨(h b hb m1).1, (h _ m3 m2).2⟩
        · intro h z hz hi
          have := m4 z hz hi
          omega
      by_cases h1 : (a2 : Int) ≤ b
      · refine ⟨decide (((b ||| (18446744073709551615 - a) : Nat) : Int) ≤ b2), ev_mk K1 fun n hn => ?_, ?_⟩
        · unfold spec_l3within.f
          rw [e1 n hn, Option.bind_some, if_neg (by decide), if_pos rfl, if_pos h1, hor]
        · rw [decide_eq_true_eq, hL]
          omega
      · refine ⟨false, ev_mk K1 fun n hn => ?_, ?_⟩
        · unfold spec_l3within.f
          rw [e1 n hn, Option.bind_some, if_neg (by decide), if_pos rfl, if_neg h1]
        · rw [hL]
          simp
          omega
theorem specConWithin_iff (k : Int) (a b : Nat) (k2 : Int) (a2 b2 : Nat) (ha : a < 18446744073709551616) (hb : b < 18446744073709551616) (ha2 : a2 < 18446744073709551616) (hb2 : b2 < 18446744073709551616) :
    ∃ r, Ev (fun n => spec_ConWithin.f n k a b k2 a2 b2) r ∧ (r = true ↔ (normRaw k a b).2 = true ∧ (normRaw k2 a2 b2).2 = true ∧ Lies k a b k2 a2 b2) := by
  have h1 := l3conOK_is k a b ha hb
  have h2 := l3conOK_is k2 a2 b2 ha2 hb2
  by_cases c1 : (normRaw k a b).2 = true
  · by_cases c2 : (normRaw k2 a2 b2).2 = true
    · obtain ⟨r, r1, r2⟩ := l3within_is k a b k2 a2 b2 ha hb ha2 hb2 c1 c2
      obtain ⟨K, e⟩ := ev_get r1
      refine ⟨r, ev_mk K fun n hn => ?_, ⟨fun h => ⟨c1, c2, r2.1 h⟩, fun h => r2.2 h.2.2⟩⟩
      unfold spec_ConWithin.f
      rw [h1, Option.bind_some, if_pos c1, h2, Option.bind_some, if_pos c2, e n hn]
      rfl
    · refine ⟨false, ev_is fun n => ?_, ⟨fun h => absurd h (by decide), fun h => absurd h.2.1 c2⟩⟩
      unfold spec_ConWithin.f
      rw [h1, Option.bind_some, if_pos c1, h2, Option.bind_some, if_neg c2]
  · refine ⟨false, ev_is fun n => ?_, ⟨fun h => absurd h (by decide), fun h => absurd h.1 c1⟩⟩
    unfold spec_ConWithin.f
    rw [h1, Option.bind_some, if_neg c1]
end Go.Proofs.Ytdipinclchkhjaa.P
