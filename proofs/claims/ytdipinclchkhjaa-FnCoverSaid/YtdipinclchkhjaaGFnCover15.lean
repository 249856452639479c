import Derived.Test.YtdipinclchkhjaaGFnCover10
import Derived.Test.YtdipinclchkhjaaGFnCover2
import Derived.Test.YtdipinclchkhjaaGFnCover3
import Derived.Test.YtdipinclchkhjaaGFnCover14
import Derived.Test.YtdipinclchkhjaaGFnCover7
namespace Go.Proofs.Ytdipinclchkhjaa.P
open Go.RowKit Go.Proofs.YtdipinclchkhjaaW.PrintWords Go.Proofs.YtdipinclchkhjaaW.PrintLast Go.Proofs.YtdipinclchkhjaaW.PrintMore
set_option linter.unusedVariables false
set_option linter.unusedSimpArgs false
/-! A condition's set; which lies in which. -/
def InC (k : Int) (a b z : Nat) : Prop := if k = 1 then z &&& a = b else if k = 2 then a ≤ z ∧ z ≤ b else True
def Lies (k : Int) (a b : Nat) (k2 : Int) (a2 b2 : Nat) : Prop := ∀ z, z < 18446744073709551616 → InC k a b z → InC k2 a2 b2 z
/-- A condition inside, and that it is sound. -/
inductive NC where
  | any
  | mask (m v : Nat)
  | rng (l h : Nat)
def NC.cd : NC → Cd
  | .any => .any
  | .mask m v => .mask m v
  | .rng l h => .rng l h
def NC.In : NC → Nat → Prop
  | .any, _ => True
  | .mask m v, z => z &&& m = v
  | .rng l h, z => l ≤ z ∧ z ≤ h
def NC.Good : NC → Prop
  | .any => True
  | .mask m v => m < 18446744073709551616 ∧ v < 18446744073709551616 ∧ m ≠ 0 ∧ Sub v m
  | .rng l h => l ≤ h ∧ h < 18446744073709551616
/-- What the program makes of a range: a sound one, and the same set. -/
theorem nrRaw_nc (a b : Nat) (hab : a ≤ b) (hb : b < 18446744073709551616) : ∃ c : NC, nrRaw (a : Int) (b : Int) = c.cd ∧ c.Good ∧ ∀ z, z < 18446744073709551616 → (c.In z ↔ a ≤ z ∧ z ≤ b) := by
  by_cases h : ∃ k, k ≤ 64 ∧ b - a = 2 ^ k - 1 ∧ a % 2 ^ k = 0
  · obtain ⟨k, hk, h1, h2⟩ := h
    have hp := two_pow_le k hk
    unfold nrRaw
    rw [nrN_is a b hab hb]
    by_cases e : k = 64
    · subst e
      have e0 : (b - a + 1) % 18446744073709551616 = 0 := by rw [h1]
      rw [e0]
      have e1 : (2 : Nat) ^ 64 - 1 = 18446744073709551615 := by decide
      rw [e1] at h1
      exact ⟨.any, by simp [NC.cd], trivial, fun z hz => ⟨fun _ => by omega, fun _ => trivial⟩⟩
    · have hk2 : k < 64 := by omega
      have hp2 := two_pow_lt k hk2
      have e1 : (b - a + 1) % 18446744073709551616 = 2 ^ k := by rw [h1, Nat.sub_add_cancel hp.1]; exact Nat.mod_eq_of_lt (by omega)
      have e2 : IntKind.u64.wrap (((2 ^ k : Nat) : Int) - 1) = ((2 ^ k - 1 : Nat) : Int) := by rw [wrap_u64_id (by omega) (by omega)]; omega
      have e3 : 2 ^ k &&& (2 ^ k - 1) = 0 := by rw [Nat.and_two_pow_sub_one_eq_mod]; exact Nat.mod_self _
      have e4 : a &&& (2 ^ k - 1) = 0 := by rw [Nat.and_two_pow_sub_one_eq_mod]; exact h2
      rw [e1, e2, and64 _ _ (by omega) (by omega), and64 _ _ (by omega) (by omega), e3, e4, not64 _ (by omega), if_neg (by omega), if_pos ⟨rfl, rfl⟩]
      refine ⟨.mask (18446744073709551615 - (2 ^ k - 1)) a, rfl, ⟨by omega, by omega, by omega, ?_⟩, fun z hz => ?_⟩
      · exact and_sub ((block_set hk h2 (by omega)).2 ⟨Nat.le_refl _, by omega⟩)
      · show z &&& _ = a ↔ _
        rw [block_set hk h2 hz]
        omega
  · refine ⟨.rng a b, nrRaw_plain a b hab hb (fun k h1 h2 h3 => h ⟨k, h1, h2, h3⟩), ⟨hab, hb⟩, fun z hz => Iff.rfl⟩
theorem normRaw_nc (k : Int) (a b : Nat) (ha : a < 18446744073709551616) (hb : b < 18446744073709551616) (hok : (normRaw k a b).2 = true) : ∃ c : NC, (normRaw k a b).1 = c.cd ∧ c.Good ∧ ∀ z, z < 18446744073709551616 → (c.In z ↔ InC k a b z) := by
  unfold normRaw at hok ⊢
  unfold InC
  by_cases h0 : k = 0
  · subst h0
    exact ⟨.any, by simp [NC.cd], trivial, fun z hz => by simp [NC.In]⟩
  · rw [if_neg h0] at hok ⊢
    by_cases h1 : k = 1
    · rw [if_pos h1] at hok ⊢
      by_cases h2 : (a : Int) = 0 ∧ (b : Int) = 0
      · rw [if_pos h2]
        refine ⟨.any, rfl, trivial, fun z hz => ?_⟩
        rw [if_pos h1, show a = 0 by omega, show b = 0 by omega, Nat.and_zero]
        simp [NC.In]
      · rw [if_neg h2] at hok ⊢
        rw [andNot64 b a hb ha] at hok
        simp only [beq_iff_eq] at hok
        have hs := (sub_zero hb ha).1 (by omega)
        refine ⟨.mask a b, rfl, ⟨ha, hb, ?_, hs⟩, fun z hz => ?_⟩
        · rintro rfl
          have : b = 0 := by
            apply Nat.eq_of_testBit_eq
            intro i
            rw [Nat.zero_testBit]
            cases hbi : b.testBit i
            · rfl
            · have := hs i hbi
              rw [Nat.zero_testBit] at this
              exact absurd this (by decide)
          omega
        · rw [if_pos h1]; exact Iff.rfl
    · rw [if_neg h1] at hok ⊢
      by_cases h2 : k = 2
      · rw [if_pos h2] at hok ⊢
        by_cases h3 : (a : Int) > b
        · rw [if_pos h3] at hok; exact absurd hok (by decide)
        · rw [if_neg h3]
          obtain ⟨c, c1, c2, c3⟩ := nrRaw_nc a b (by omega) hb
          refine ⟨c, c1, c2, fun z hz => ?_⟩
          rw [if_neg h1, if_pos h2]
          exact c3 z hz
      · rw [if_neg h2] at hok; exact absurd hok (by decide)
/-- The program's question, of sound ones: the sets' own. -/
theorem insRaw_iff (x y : NC) (hx : x.Good) (hy : y.Good) : insRaw x.cd y.cd = true ↔ ∀ z, z < 18446744073709551616 → x.In z → y.In z := by
  cases y with
  | any => simp [NC.cd, insRaw, NC.In]
  | rng l h =>
    obtain ⟨y1, y2⟩ := hy
    have key : ∀ lo hi : Nat, lo < 18446744073709551616 → hi < 18446744073709551616 → x.In lo → x.In hi → (∀ z, z < 18446744073709551616 → x.In z → lo ≤ z ∧ z ≤ hi) → x.cd.ends = ((lo : Int), (hi : Int)) → (insRaw x.cd (NC.rng l h).cd = true ↔ ∀ z, z < 18446744073709551616 → x.In z → (NC.rng l h).In z) := by
      intro lo hi hlo hhi i1 i2 hb he
      have e : insRaw x.cd (NC.rng l h).cd = ((decide ((l : Int) ≤ lo) && decide ((lo : Int) ≤ h)) && (decide ((l : Int) ≤ hi) && decide ((hi : Int) ≤ h))) := by
        show ((Cd.rng l h).holds x.cd.ends.1 && (Cd.rng l h).holds x.cd.ends.2) = _
        rw [he]
        rfl
      rw [e]
      simp only [Bool.and_eq_true, decide_eq_true_eq]
      show _ ↔ ∀ z, z < 18446744073709551616 → x.In z → l ≤ z ∧ z ≤ h
      constructor
      · intro hh z hz hzi
        have := hb z hz hzi
        omega
      · intro hh
        have a1 := hh lo hlo i1
        have a2 := hh hi hhi i2
        omega
    cases x with
    | any => exact key 0 18446744073709551615 (by omega) (by omega) trivial trivial (fun z hz _ => by omega) rfl
    | mask m v =>
      obtain ⟨x1, x2, x3, x4⟩ := hx
      obtain ⟨e1, e2, e3, e4⟩ := mask_ends x1 x2 x4
      refine key v (v ||| (18446744073709551615 - m)) x2 e3 e1 e2 e4 ?_
      simp only [NC.cd, Cd.ends]
      rw [not64 m x1, or64 v _ x2 (by omega)]
    | rng l2 h2 =>
      obtain ⟨x1, x2⟩ := hx
      exact key l2 h2 (by omega) x2 ⟨Nat.le_refl _, x1⟩ ⟨x1, Nat.le_refl _⟩ (fun z _ h => h) rfl
  | mask m v =>
    obtain ⟨y1, y2, y3, y4⟩ := hy
    cases x with
    | any =>
      simp only [NC.cd, insRaw, NC.In, Bool.false_eq_true, false_iff]
      intro hh
      have hex : ∃ i, i < 64 ∧ m.testBit i = true := by
        refine Classical.byContradiction fun hn => y3 ?_
        refine eq_bits y1 (by omega) fun i hi => ?_
        rw [Nat.zero_testBit]
        cases hmi : m.testBit i
        · rfl
        · exact absurd ⟨i, hi, hmi⟩ hn
      obtain ⟨i, hi, hmi⟩ := hex
      have a1 := hh 0 (by omega) trivial
      have a2 := hh (2 ^ i) (two_lt hi) trivial
      rw [Nat.zero_and] at a1
      rw [← a1, Nat.and_comm, and_pow, if_pos hmi] at a2
      have := Nat.two_pow_pos i
      omega
    | mask m2 v2 =>
      obtain ⟨x1, x2, x3, x4⟩ := hx
      simp only [NC.cd, insRaw, NC.In, Bool.and_eq_true, beq_iff_eq]
      rw [andNot64 m m2 y1 x1, and64 v2 m x2 y1, mask_mask x1 y1 x2 y2 x4 y4, ← mask_test x1 y1 x2 y2 x4 y4]
      omega
    | rng l h =>
      obtain ⟨x1, x2⟩ := hx
      have hxl : l ^^^ h < 18446744073709551616 := Nat.xor_lt_two_pow (n := 64) (by omega) x2
      obtain ⟨n1, n2, n3⟩ := bitLen_top (l ^^^ h) hxl
      simp only [NC.cd, insRaw, NC.In, Bool.and_eq_true, beq_iff_eq]
      rw [xor64 l h (by omega) x2, show ((l ^^^ h : Nat) : Int).toNat = l ^^^ h from rfl, Nat.min_eq_left n1]
      generalize Lib.bitLen (l ^^^ h) = n at n1 n2 n3
      have hp := two_pow_le n n1
      have e : IntKind.u64.wrap (IntKind.u64.wrap (2 ^ n) - 1) = ((2 ^ n - 1 : Nat) : Int) := by
        have e0 : ((2 : Int) ^ n) = ((2 ^ n : Nat) : Int) := by simp
        rw [e0, wrap_u64, wrap_u64]
        omega
      rw [e, and64 m _ y1 (by omega), and64 l m (by omega) y1]
      have hr := range_mask (m := m) (v := v) x1 n2 n3
      constructor
      · rintro ⟨a1, a2⟩ z hz hzi
        exact hr.2 ⟨by omega, by omega⟩ z hzi.1 hzi.2
      · intro hh
        have := hr.1 fun z z1 z2 => hh z (by omega) ⟨z1, z2⟩
        omega
theorem implConWithin_iff (k : Int) (a b : Nat) (k2 : Int) (a2 b2 : Nat) (ha : a < 18446744073709551616) (hb : b < 18446744073709551616) (ha2 : a2 < 18446744073709551616) (hb2 : b2 < 18446744073709551616) :
    ∃ r, impl_ConWithin.f k a b k2 a2 b2 = some r ∧ (r = true ↔ (normRaw k a b).2 = true ∧ (normRaw k2 a2 b2).2 = true ∧ Lies k a b k2 a2 b2) := by
  refine ⟨_, rfl, ?_⟩
  rw [Bool.and_eq_true, Bool.and_eq_true]
  refine and_congr_right fun h1 => and_congr_right fun h2 => ?_
  obtain ⟨c, c1, c2, c3⟩ := normRaw_nc k a b ha hb h1
  obtain ⟨d, d1, d2, d3⟩ := normRaw_nc k2 a2 b2 ha2 hb2 h2
  rw [c1, d1, insRaw_iff c d c2 d2]
  unfold Lies
  exact ⟨fun h z hz hi => (d3 z hz).1 (h z hz ((c3 z hz).2 hi)), fun h z hz hi => (d3 z hz).2 (h z hz ((c3 z hz).1 hi))⟩
end Go.Proofs.Ytdipinclchkhjaa.P

namespace Go.Proofs.Ytdipinclchkhjaa.P
open Go.RowKit Go.Proofs.YtdipinclchkhjaaW.PrintWords Go.Proofs.YtdipinclchkhjaaW.PrintLast Go.Proofs.YtdipinclchkhjaaW.PrintMore
set_option linter.unusedVariables false
set_option linter.unusedSimpArgs false
/-! Normal conditions: each set has one. -/
def NC.Normal : NC → Prop
  | .any => True
  | .mask m v => m < 18446744073709551616 ∧ v < 18446744073709551616 ∧ m ≠ 0 ∧ Sub v m
  | .rng l h => (l ≤ h ∧ h < 18446744073709551616) ∧ ∀ k, k ≤ 64 → h - l = 2 ^ k - 1 → l % 2 ^ k ≠ 0
theorem NC.Normal.good {c : NC} (h : c.Normal) : c.Good := by
  cases c with
  | any => trivial
  | mask m v => exact h
  | rng l h2 => exact h.1
theorem nrRaw_normal (a b : Nat) (hab : a ≤ b) (hb : b < 18446744073709551616) : ∃ c : NC, nrRaw (a : Int) (b : Int) = c.cd ∧ c.Normal ∧ ∀ z, z < 18446744073709551616 → (c.In z ↔ a ≤ z ∧ z ≤ b) := by
  obtain ⟨c, c1, c2, c3⟩ := nrRaw_nc a b hab hb
  refine ⟨c, c1, ?_, c3⟩
  cases c with
  | any => trivial
  | mask m v => exact c2
  | rng l h =>
    have he : (l : Int) = a ∧ (h : Int) = b := by
      have c4 := c1
      unfold nrRaw NC.cd at c4
      split at c4
      · exact absurd c4 (by simp)
      · split at c4
        · exact absurd c4 (by simp)
        · injection c4 with e1 e2
          exact ⟨e1.symm, e2.symm⟩
    obtain ⟨e1, e2⟩ := he
    have e3 : l = a := by omega
    have e4 : h = b := by omega
    subst e3
    subst e4
    refine ⟨c2, fun k hk h1 h2 => ?_⟩
    have h3 := nrRaw_block l h k hab hb hk h1 h2
    rw [c1] at h3
    simp only [NC.cd, Cd.con] at h3
    split at h3
    · exact absurd (congrArg Prod.fst h3) (show ¬ (2 : Int) = 0 by decide)
    · exact absurd (congrArg Prod.fst h3) (show ¬ (2 : Int) = 1 by decide)
theorem normRaw_normal (k : Int) (a b : Nat) (ha : a < 18446744073709551616) (hb : b < 18446744073709551616) (hok : (normRaw k a b).2 = true) : ∃ c : NC, (normRaw k a b).1 = c.cd ∧ c.Normal ∧ ∀ z, z < 18446744073709551616 → (c.In z ↔ InC k a b z) := by
  by_cases h2 : k = 2
  · subst h2
    unfold normRaw at hok ⊢
    rw [if_neg (by decide), if_neg (by decide), if_pos rfl] at hok ⊢
    by_cases h3 : (a : Int) > b
    · rw [if_pos h3] at hok; exact absurd hok (by decide)
    · rw [if_neg h3]
      obtain ⟨c, c1, c2, c3⟩ := nrRaw_normal a b (by omega) hb
      refine ⟨c, c1, c2, fun z hz => ?_⟩
      unfold InC
      rw [if_neg (by decide), if_pos rfl]
      exact c3 z hz
  · obtain ⟨c, c1, c2, c3⟩ := normRaw_nc k a b ha hb hok
    refine ⟨c, c1, ?_, c3⟩
    cases c with
    | any => trivial
    | mask m v => exact c2
    | rng l h =>
      exfalso
      unfold normRaw at c1
      rw [if_neg h2] at c1
      unfold NC.cd at c1
      split at c1
      · exact absurd c1 (by simp)
      · split at c1
        · split at c1 <;> exact absurd c1 (by simp)
        · exact absurd c1 (by simp)
/-- A normal condition, asked again. -/
theorem normRaw_con (c : NC) (h : c.Normal) : normRaw c.cd.con.1 c.cd.con.2.1 c.cd.con.2.2 = (c.cd, true) := by
  cases c with
  | any => rfl
  | mask m v =>
    obtain ⟨h1, h2, h3, h4⟩ := h
    simp only [NC.cd, Cd.con]
    unfold normRaw
    rw [if_neg (by decide), if_pos rfl, if_neg (by omega), andNot64 v m h2 h1, (sub_zero h2 h1).2 h4]
    rfl
  | rng l u =>
    obtain ⟨⟨h1, h2⟩, h3⟩ := h
    simp only [NC.cd, Cd.con]
    unfold normRaw
    rw [if_neg (by decide), if_neg (by decide), if_pos rfl, if_neg (by omega), nrRaw_plain l u h1 h2 h3]
theorem InC_con (c : NC) (z : Nat) : ∃ (k : Int) (a b : Nat), c.cd.con = (k, (a : Int), (b : Int)) ∧ (c.Good → a < 18446744073709551616 ∧ b < 18446744073709551616) ∧ ∀ z, InC k a b z ↔ c.In z := by
  cases c with
  | any => exact ⟨0, 0, 0, rfl, fun _ => ⟨by omega, by omega⟩, fun z => by simp [InC, NC.In]⟩
  | mask m v => exact ⟨1, m, v, rfl, fun h => ⟨h.1, h.2.1⟩, fun z => by simp [InC, NC.In]⟩
  | rng l u => exact ⟨2, l, u, rfl, fun h => ⟨by have := h.1; have := h.2; omega, h.2⟩, fun z => by simp [InC, NC.In]⟩
theorem any_not_mask {m v : Nat} (h : (NC.mask m v).Normal) (hs : ∀ z, z < 18446744073709551616 → z &&& m = v) : False := by
  obtain ⟨y1, y2, y3, y4⟩ := h
  have hex : ∃ i, i < 64 ∧ m.testBit i = true := by
    refine Classical.byContradiction fun hn => y3 ?_
    refine eq_bits y1 (by omega) fun i hi => ?_
    rw [Nat.zero_testBit]
    cases hmi : m.testBit i
    · rfl
    · exact absurd ⟨i, hi, hmi⟩ hn
  obtain ⟨i, hi, hmi⟩ := hex
  have a1 := hs 0 (by omega)
  have a2 := hs (2 ^ i) (two_lt hi)
  rw [Nat.zero_and] at a1
  rw [← a1, Nat.and_comm, and_pow, if_pos hmi] at a2
  have := Nat.two_pow_pos i
  omega
theorem any_not_rng {l u : Nat} (h : (NC.rng l u).Normal) (hs : ∀ z, z < 18446744073709551616 → l ≤ z ∧ z ≤ u) : False := by
  obtain ⟨⟨h1, h2⟩, h3⟩ := h
  have a1 := hs 0 (by omega)
  have a2 := hs 18446744073709551615 (by omega)
  refine h3 64 (Nat.le_refl _) ?_ ?_
  · rw [show (2 : Nat) ^ 64 - 1 = 18446744073709551615 by decide]; omega
  · rw [show l = 0 by omega]
theorem mask_not_rng {m v l u : Nat} (hm : (NC.mask m v).Normal) (hr : (NC.rng l u).Normal) (hs : ∀ z, z < 18446744073709551616 → (z &&& m = v ↔ l ≤ z ∧ z ≤ u)) : False := by
  obtain ⟨m1, m2, m3, m4⟩ := hm
  obtain ⟨⟨h1, h2⟩, h3⟩ := hr
  obtain ⟨e1, e2, e3, e4⟩ := mask_ends m1 m2 m4
  have a1 := (hs v m2).1 e1
  have a2 := (hs _ e3).1 e2
  have a3 := e4 l (by omega) ((hs l (by omega)).2 ⟨Nat.le_refl _, h1⟩)
  have a4 := e4 u h2 ((hs u h2).2 ⟨h1, Nat.le_refl _⟩)
  have el : l = v := by omega
  have eu : u = v ||| (18446744073709551615 - m) := by omega
  have ex : l ^^^ u = 18446744073709551615 - m := by
    refine eq_bits (Nat.xor_lt_two_pow (n := 64) (by omega) h2) (by omega) fun i hi => ?_
    rw [el, eu, Nat.testBit_xor, Nat.testBit_or, tb_not m i m1]
    cases hv : v.testBit i
    · simp
    · simp [m4 i hv]
  have hxl : l ^^^ u < 18446744073709551616 := by rw [ex]; omega
  obtain ⟨n1, n2, n3⟩ := bitLen_top (l ^^^ u) hxl
  have hr := (range_mask (m := m) (v := v) h1 n2 n3).1 fun z z1 z2 => (hs z (by omega)).2 ⟨z1, z2⟩
  generalize Lib.bitLen (l ^^^ u) = n at n1 n2 n3 hr
  have hp := two_pow_le n n1
  have hD : 18446744073709551615 - m = 2 ^ n - 1 := by
    refine eq_bits (by omega) (by omega) fun i hi => ?_
    rw [Nat.testBit_two_pow_sub_one]
    by_cases hin : i < n
    · rw [tb_not m i m1, and_low.1 hr.1 i hin]
      simp [hi, hin]
    · have hlt : 18446744073709551615 - m < 2 ^ n := by
        rw [ex] at n2
        have := Nat.div_eq_zero_iff.1 n2
        omega
      rw [Nat.testBit_lt_two_pow (Nat.lt_of_lt_of_le hlt (Nat.pow_le_pow_right (by decide) (by omega)))]
      simp [hin]
  have hmod : v % 2 ^ n = 0 := by
    rw [← Nat.and_two_pow_sub_one_eq_mod, and_low]
    intro j hj
    cases hv : v.testBit j
    · rfl
    · have := m4 j hv
      rw [and_low.1 hr.1 j hj] at this
      exact absurd this (by decide)
  have hvm : v ≤ m := by
    have := sub_and m4
    rw [← this]; exact Nat.and_le_right
  have em : m = 18446744073709551615 - (2 ^ n - 1) := by omega
  have hb := fun z hz => @block_set n v z n1 hmod hz
  rw [← em] at hb
  have b1 := (hb u h2).1 ((hs u h2).2 ⟨h1, Nat.le_refl _⟩)
  have b2 := (hs (v + (2 ^ n - 1)) (by omega)).1 ((hb (v + (2 ^ n - 1)) (by omega)).2 ⟨by omega, Nat.le_refl _⟩)
  refine h3 n n1 (by omega) ?_
  rw [el]
  exact hmod
theorem nc_uniq (c d : NC) (hc : c.Normal) (hd : d.Normal) (h : ∀ z, z < 18446744073709551616 → (c.In z ↔ d.In z)) : c = d := by
  cases c with
  | any =>
    cases d with
    | any => rfl
    | mask m v => exact (any_not_mask hd fun z hz => (h z hz).1 trivial).elim
    | rng l u => exact (any_not_rng hd fun z hz => (h z hz).1 trivial).elim
  | mask m v =>
    cases d with
    | any => exact (any_not_mask hc fun z hz => (h z hz).2 trivial).elim
    | mask m2 v2 =>
      obtain ⟨a1, a2, a3, a4⟩ := hc
      obtain ⟨b1, b2, b3, b4⟩ := hd
      have k1 := (mask_mask a1 b1 a2 b2 a4 b4).1 fun z hz => (h z hz).1
      have k2 := (mask_mask b1 a1 b2 a2 b4 a4).1 fun z hz => (h z hz).2
      have em : m = m2 := by
        refine eq_bits a1 b1 fun i hi => ?_
        cases h1 : m.testBit i <;> cases h2 : m2.testBit i
        · rfl
        · rw [(k1 i hi h2).1] at h1; exact absurd h1 (by decide)
        · rw [(k2 i hi h1).1] at h2; exact absurd h2 (by decide)
        · rfl
      subst em
      have ev : v = v2 := by
        have h1 : v &&& m = v2 := (h v a2).1 (sub_and a4)
        rw [sub_and a4] at h1
        exact h1
      rw [ev]
    | rng l u => exact (mask_not_rng hc hd h).elim
  | rng l u =>
    cases d with
    | any => exact (any_not_rng hc fun z hz => (h z hz).2 trivial).elim
    | mask m v => exact (mask_not_rng hd hc fun z hz => (h z hz).symm).elim
    | rng l2 u2 =>
      obtain ⟨⟨h1, h2⟩, _⟩ := hc
      obtain ⟨⟨g1, g2⟩, _⟩ := hd
      have q1 := (h l (by omega)).1 ⟨Nat.le_refl _, h1⟩
      have q2 := (h u h2).1 ⟨h1, Nat.le_refl _⟩
      have q3 := (h l2 (by omega)).2 ⟨Nat.le_refl _, g1⟩
      have q4 := (h u2 g2).2 ⟨g1, Nat.le_refl _⟩
      have e1 : l = l2 := by have := q1.1; have := q3.1; omega
      have e2 : u = u2 := by have := q2.2; have := q4.2; omega
      rw [e1, e2]
end Go.Proofs.Ytdipinclchkhjaa.P

namespace Go.Proofs.Ytdipinclchkhjaa.P
open Go.RowKit Go.Proofs.YtdipinclchkhjaaW.PrintWords Go.Proofs.YtdipinclchkhjaaW.PrintLast Go.Proofs.YtdipinclchkhjaaW.PrintMore
set_option linter.unusedVariables false
set_option linter.unusedSimpArgs false
/-! A valid condition, by its set. -/
def Pres (t : Int × Int × Int) (S : Nat → Prop) : Prop :=
  ∃ (k : Int) (a b : Nat), t = (k, (a : Int), (b : Int)) ∧ a < 18446744073709551616 ∧ b < 18446744073709551616 ∧ (normRaw k a b).2 = true ∧ ∀ z, z < 18446744073709551616 → (InC k a b z ↔ S z)
theorem pres_con (c : NC) (h : c.Normal) : Pres c.cd.con c.In := by
  obtain ⟨k, a, b, e, hb, hs⟩ := InC_con c 0
  have hn := normRaw_con c h
  rw [e] at hn
  have hg := hb h.good
  exact ⟨k, a, b, e, hg.1, hg.2, by simp only at hn; rw [hn], fun z _ => hs z⟩
theorem pres_within {t u : Int × Int × Int} {S R : Nat → Prop} (h : Pres t S) (g : Pres u R) :
    ∃ r, impl_ConWithin.f t.1 t.2.1 t.2.2 u.1 u.2.1 u.2.2 = some r ∧ (r = true ↔ ∀ z, z < 18446744073709551616 → S z → R z) := by
  obtain ⟨k, a, b, rfl, h1, h2, h3, h4⟩ := h
  obtain ⟨k2, a2, b2, rfl, g1, g2, g3, g4⟩ := g
  obtain ⟨r, e, i⟩ := implConWithin_iff k a b k2 a2 b2 h1 h2 g1 g2
  refine ⟨r, e, i.trans ⟨fun ⟨_, _, hl⟩ z hz hs => (g4 z hz).1 (hl z hz ((h4 z hz).2 hs)), fun hl => ⟨h3, g3, fun z hz hi => (g4 z hz).2 (hl z hz ((h4 z hz).1 hi))⟩⟩⟩
/-- What NormCon makes of a valid condition: the normal one, the same set. -/
theorem pres_norm {t : Int × Int × Int} {S : Nat → Prop} (h : Pres t S) : ∃ c : NC, c.Normal ∧ impl_NormCon.f t.1 t.2.1 t.2.2 = some c.cd.con ∧ ∀ z, z < 18446744073709551616 → (c.In z ↔ S z) := by
  obtain ⟨k, a, b, rfl, h1, h2, h3, h4⟩ := h
  obtain ⟨c, c1, c2, c3⟩ := normRaw_normal k a b h1 h2 h3
  refine ⟨c, c2, ?_, fun z hz => (c3 z hz).trans (h4 z hz)⟩
  unfold impl_NormCon.f
  simp only
  rw [if_pos h3, c1]
theorem con_inj {c d : NC} (h : c.cd.con = d.cd.con) : c = d := by
  cases c <;> cases d <;> simp [NC.cd, Cd.con] at h ⊢ <;> omega
end Go.Proofs.Ytdipinclchkhjaa.P

namespace Go.Proofs.Ytdipinclchkhjaa.Pure
open Go.RowKit Go.Proofs.Ytdipinclchkhjaa.P Go.Proofs.YtdipinclchkhjaaW.PrintWords Go.Proofs.YtdipinclchkhjaaW.PrintLast
set_option linter.unusedVariables false
set_option linter.unusedSimpArgs false
/-- A cover, as a normal condition, holds for all values. -/
theorem cvCon_pres (ln : List Nat) (hne : ln ≠ []) (hb : ∀ v ∈ ln, v < 18446744073709551616) (form : Int) : ∃ c : NC, cvCon ln form = c.cd.con ∧ c.Normal ∧ ∀ v ∈ ln, c.In v := by
  obtain ⟨_, _, e3, e4, e5⟩ := cov_ends ln hne hb
  unfold cvCon
  split
  · obtain ⟨c, c1, c2, c3⟩ := normRaw_normal 1 (mX ln) (mY ln) (mX_lt ln) (mY_lt ln) (cvMask_ok ln)
    refine ⟨c, by rw [c1], c2, fun v hv => (c3 v (hb v hv)).2 ?_⟩
    unfold InC
    rw [if_pos rfl, and_bits (hb v hv) (mY_lt ln)]
    intro i hi
    rw [mY_tb]
    cases h : (mX ln).testBit i
    · rw [Bool.and_false, Bool.and_false]
    · rw [(mX_tb ln hne hb i hi).1 h v hv]
  · obtain ⟨c, c1, c2, c3⟩ := normRaw_normal 2 (loN ln) (hiN ln) (by omega) e4 (cvRange_ok ln hne hb)
    refine ⟨c, by rw [c1], c2, fun v hv => (c3 v (hb v hv)).2 ?_⟩
    unfold InC
    rw [if_neg (by decide), if_pos rfl]
    exact e5 v hv
theorem point_pres (v : Nat) (h : v < 18446744073709551616) : Pres (1, 18446744073709551615, (v : Int)) (fun z => z = v) := by
  have hs : Sub v 18446744073709551615 := fun i hi => by
    rw [tb_ones]
    by_cases h2 : i < 64
    · simp [h2]
    · rw [tb_hi h (by omega)] at hi; exact absurd hi (by decide)
  refine ⟨1, 18446744073709551615, v, rfl, by omega, h, ?_, fun z hz => ?_⟩
  · unfold normRaw
    rw [if_neg (by decide), if_pos rfl, if_neg (by omega), andNot64 v _ h (by omega), (sub_zero h (by omega)).2 hs]
    rfl
  · unfold InC
    rw [if_pos rfl]
    have hz2 : z &&& 18446744073709551615 = z := sub_and fun i hi => by
      rw [tb_ones]
      by_cases h2 : i < 64
      · simp [h2]
      · rw [tb_hi hz (by omega)] at hi; exact absurd hi (by decide)
    rw [hz2]
theorem same_con (t : Int × Int × Int) : laws_sameCon.f t.1 t.2.1 t.2.2 t.1 t.2.1 t.2.2 = some true := by
  unfold laws_sameCon.f
  rw [if_pos rfl, if_pos rfl, beq_self_eq_true]
theorem FnCover : laws_FnCover.Pure := by
  intro l hl0 hl1 hb
  unfold laws_FnCover.f
  by_cases hlen : (l.length : Int) > 1048576
  · exact ⟨0, by rw [if_pos hlen]⟩
  · obtain ⟨⟨vs, form⟩, hd, hu, hn⟩ := drawCover_t l hb
    dsimp only at hu hn
    obtain ⟨K1, h1⟩ := ev_get hd
    have hvs : ∀ x ∈ vs, (Lit.int .u64 x).wf = true := by
      intro x hx
      have := hu x hx
      unfold U at this
      simp only [Lit.wf, IntKind.min, IntKind.max, IntKind.signed, IntKind.bits, Bool.and_eq_true]
      simp
      omega
    by_cases hout : (vs.length : Int) = 0 ∨ form < 0 ∨ form > 2
    · refine ⟨K1 + 1, ?_⟩
      rw [if_neg hlen]
      refine bo (h1 _ (by omega)) ?_
      dsimp only
      by_cases c1 : (vs.length : Int) = 0
      · rw [if_pos c1]; simp only [laws_FnCover.j0]; rfl
      · rw [if_neg c1]
        by_cases c2 : form < 0
        · rw [if_pos c2]; simp only [laws_FnCover.j0]; rfl
        · rw [if_neg c2, decide_eq_true (by omega)]; simp only [laws_FnCover.j0]; rfl
    · obtain ⟨ln, rfl, hln⟩ := ints_of vs hvs
      rw [ints_length] at hn hout
      have hne : ln ≠ [] := by rintro rfl; exact hout (.inl rfl)
      have hlen2 := ints_length ln
      obtain ⟨K2, h2⟩ := ev_get (implCover_ev ln hne (by omega) hln form (by omega) (by omega))
      obtain ⟨K3, h3⟩ := ev_get (implCover_ev ln hne (by omega) hln 1 (by omega) (by omega))
      obtain ⟨K4, h4⟩ := ev_get (implCover_ev ln hne (by omega) hln 2 (by omega) (by omega))
      obtain ⟨c, c1, c2, c3⟩ := cvCon_pres ln hne hln form
      obtain ⟨d, d1, d2, d3⟩ := cvCon_pres ln hne hln 1
      obtain ⟨e, e1, e2, e3⟩ := cvCon_pres ln hne hln 2
      have pc := pres_con c c2
      have pd := pres_con d d2
      have pe := pres_con e e2
      obtain ⟨n, n1, n2, n3⟩ := pres_norm pc
      have hnc : n = c := nc_uniq n c n1 c2 n3
      subst hnc
      rw [c1] at h2
      rw [d1] at h3
      rw [e1] at h4
      obtain ⟨r1, q1, i1⟩ := pres_within pc pd
      obtain ⟨r2, q2, i2⟩ := pres_within pc pe
      have hsame1 : n = d → r1 = true := by rintro rfl; exact i1.2 fun z _ h => h
      have hsame2 : n = e → r2 = true := by rintro rfl; exact i2.2 fun z _ h => h
      have hf1 : form = 1 → n = d := by rintro rfl; exact con_inj (c1.symm.trans d1)
      have hf2 : form = 2 → n = e := by rintro rfl; exact con_inj (c1.symm.trans e1)
      have hf0 : form = 0 → n = d ∨ n = e := by
        rintro rfl
        unfold cvCon at c1 d1 e1
        have p1 : cvPick ln 1 = true := by unfold cvPick; rw [decide_eq_true rfl, Bool.true_or]
        have p2 : cvPick ln 2 = false := by unfold cvPick; rw [decide_eq_false (by decide), decide_eq_false (by decide), Bool.false_and, Bool.false_or]
        rw [p1, if_pos rfl] at d1
        rw [p2, if_neg (by decide)] at e1
        by_cases p : cvPick ln 0 = true
        · rw [if_pos p] at c1
          exact .inl (con_inj (c1.symm.trans d1))
        · rw [if_neg p] at c1
          exact .inr (con_inj (c1.symm.trans e1))
      have hend : ∀ m, K1 ≤ m → K3 ≤ m → K4 ≤ m → laws_FnCover.l0 (m + 1) l (ints ln) form (ln.length : Int) n.cd.con.1 n.cd.con.2.1 n.cd.con.2.2 = some true := by
        intro m g1 g3 g4
        simp only [laws_FnCover.l0]
        rw [if_neg (by omega)]
        refine bo (h1 _ g1) (bo (h1 _ g1) (bo (h3 _ g3) (bo q1 (bo (h4 _ g4) (bo q2 ?_)))))
        by_cases f1 : form = 1
        · rw [if_pos f1, hsame1 (hf1 f1)]
        · rw [if_neg f1]
          by_cases f2 : form = 2
          · rw [if_pos f2, hsame2 (hf2 f2)]
          · rw [if_neg f2]
            rcases hf0 (by omega) with h | h
            · rw [if_pos (hsame1 h)]
            · by_cases hr : r1 = true
              · rw [if_pos hr]
              · rw [if_neg hr, hsame2 h]
      have hloop := ev_loop (fun k (s : Unit) i => laws_FnCover.l0 k l (ints ln) form i n.cd.con.1 n.cd.con.2.1 n.cd.con.2.2) ln.length (fun _ => ()) () () rfl rfl (fun i hi r hr => by
        refine ev_step _ (fun k => ?_) hr
        simp only [laws_FnCover.l0]
        obtain ⟨rp, qp, ip⟩ := pres_within (point_pres ln[i] (hln _ (List.getElem_mem hi))) pc
        have hrp : rp = true := ip.2 fun z _ hz => by rw [hz]; exact c3 _ (List.getElem_mem hi)
        dsimp only at qp
        rw [if_pos (by omega), if_pos (by omega), ints_rd ln i hi, qp, hrp, Option.bind_some, if_pos rfl, wrap64_id (i := (i : Int) + 1) (by omega) (by omega)]
        rfl) true (ev_mk (K1 + K3 + K4 + 1) fun k hk => by
          obtain ⟨m, rfl⟩ : ∃ m, k = m + 1 := ⟨k - 1, by omega⟩
          exact hend m (by omega) (by omega) (by omega))
      obtain ⟨K5, h5⟩ := ev_get hloop
      refine ⟨K1 + K2 + K5 + 1, ?_⟩
      rw [if_neg hlen]
      refine bo (h1 _ (by omega)) ?_
      dsimp only
      rw [if_neg (by omega), if_neg (by omega), decide_eq_false (by omega)]
      simp only [laws_FnCover.j0]
      rw [if_neg (by decide)]
      refine bo (h1 _ (by omega)) (bo (h2 _ (by omega)) (bo n2 (bo (same_con _) ?_)))
      rw [if_pos rfl]
      exact h5 _ (by omega)
end Go.Proofs.Ytdipinclchkhjaa.Pure
