import Derived.Test.YtdipinclchkhjaaGFnExactConWithin3
import Derived.Lib.ItoaNum
namespace Go.Proofs.Ytdipinclchkhjaa.P
set_option linter.unusedVariables false
set_option linter.unusedSimpArgs false
/-! Numbers and their bits: masks, blocks, ranges. -/
theorem tb_hi {x i : Nat} (h : x < 18446744073709551616) (hi : 64 ≤ i) : x.testBit i = false :=
  Nat.testBit_lt_two_pow (Nat.lt_of_lt_of_le (by omega : x < 2 ^ 64) (Nat.pow_le_pow_right (by decide) hi))
theorem tb_ones (i : Nat) : (18446744073709551615 : Nat).testBit i = decide (i < 64) := by
  rw [show (18446744073709551615 : Nat) = 2 ^ 64 - 1 by decide, Nat.testBit_two_pow_sub_one]
theorem tb_not (x i : Nat) (h : x < 18446744073709551616) : (18446744073709551615 - x).testBit i = (decide (i < 64) && !x.testBit i) := by
  rw [← ones_xor x h, Nat.testBit_xor, tb_ones]
  by_cases hi : i < 64
  · simp [hi]
  · simp [hi, tb_hi h (by omega : 64 ≤ i)]
theorem eq_bits {x y : Nat} (hx : x < 18446744073709551616) (hy : y < 18446744073709551616) (h : ∀ i, i < 64 → x.testBit i = y.testBit i) : x = y := by
  apply Nat.eq_of_testBit_eq
  intro i
  by_cases hi : i < 64
  · exact h i hi
  · rw [tb_hi hx (by omega), tb_hi hy (by omega)]
theorem and_lt (x y : Nat) (h : x < 18446744073709551616) : x &&& y < 18446744073709551616 := Nat.lt_of_le_of_lt Nat.and_le_left h
theorem and_bits {z m v : Nat} (hz : z < 18446744073709551616) (hv : v < 18446744073709551616) : z &&& m = v ↔ ∀ i, i < 64 → (z.testBit i && m.testBit i) = v.testBit i := by
  constructor
  · intro h i _
    rw [← h, Nat.testBit_and]
  · intro h
    refine eq_bits (and_lt z m hz) hv fun i hi => ?_
    rw [Nat.testBit_and]
    exact h i hi
/-- A value's bits lie among a mask's. -/
def Sub (v m : Nat) : Prop := ∀ i, v.testBit i = true → m.testBit i = true
theorem sub_and {v m : Nat} (h : Sub v m) : v &&& m = v := by
  apply Nat.eq_of_testBit_eq
  intro i
  rw [Nat.testBit_and]
  cases hv : v.testBit i
  · rfl
  · rw [h i hv]; rfl
theorem and_sub {v m : Nat} (h : v &&& m = v) : Sub v m := by
  intro i hi
  rw [← h, Nat.testBit_and, Bool.and_eq_true] at hi
  exact hi.2
theorem or_sub {v m : Nat} (h : m ||| v = m) : Sub v m := by
  intro i hi
  rw [← h, Nat.testBit_or, hi, Bool.or_true]
theorem sub_zero {v m : Nat} (hv : v < 18446744073709551616) (hm : m < 18446744073709551616) : v &&& (18446744073709551615 - m) = 0 ↔ Sub v m := by
  rw [sub_bits m v hm hv]
  exact ⟨or_sub, fun h => by
    apply Nat.eq_of_testBit_eq
    intro i
    rw [Nat.testBit_or]
    cases hv : v.testBit i
    · rw [Bool.or_false]
    · rw [h i hv]; rfl⟩
theorem two_lt {i : Nat} (h : i < 64) : 2 ^ i < 18446744073709551616 := by have := two_pow_lt i h; omega
/-- A mask's set within another's. -/
theorem mask_mask {am av bm bv : Nat} (ham : am < 18446744073709551616) (hbm : bm < 18446744073709551616) (hav : av < 18446744073709551616) (hbv : bv < 18446744073709551616) (ha : Sub av am) (hb : Sub bv bm) :
    (∀ z, z < 18446744073709551616 → z &&& am = av → z &&& bm = bv) ↔ ∀ i, i < 64 → bm.testBit i = true → am.testBit i = true ∧ av.testBit i = bv.testBit i := by
  constructor
  · intro h i hi hbi
    have h0 := h av hav (sub_and ha)
    have h1 : av.testBit i = bv.testBit i := by
      rw [← h0, Nat.testBit_and, hbi, Bool.and_true]
    refine ⟨?_, h1⟩
    cases hai : am.testBit i
    · exfalso
      have hx : av ^^^ 2 ^ i < 18446744073709551616 := by
        have := Nat.xor_lt_two_pow (x := av) (y := 2 ^ i) (n := 64) hav (two_lt hi)
        exact this
      have h2 := h (av ^^^ 2 ^ i) hx (by
        apply Nat.eq_of_testBit_eq
        intro j
        rw [Nat.testBit_and, Nat.testBit_xor, Nat.testBit_two_pow]
        by_cases e : i = j
        · subst e
          have : av.testBit i = false := by
            cases hv : av.testBit i
            · rfl
            · rw [ha i hv] at hai; exact absurd hai (by decide)
          simp [hai, this]
        · simp only [e, decide_false, Bool.xor_false]
          cases hv : av.testBit j
          · rfl
          · rw [ha j hv]; rfl)
      have h3 := congrArg (fun x => x.testBit i) h2
      simp only [Nat.testBit_and, Nat.testBit_xor, Nat.testBit_two_pow, hbi, Bool.and_true, decide_true, ← h1] at h3
      cases hv : av.testBit i <;> simp [hv] at h3
    · rfl
  · intro h z hz hza
    rw [and_bits hz hbv]
    intro i hi
    cases hbi : bm.testBit i
    · rw [Bool.and_false]
      cases hv : bv.testBit i
      · rfl
      · rw [hb i hv] at hbi; exact absurd hbi (by decide)
    · obtain ⟨h1, h2⟩ := h i hi hbi
      have h3 := (and_bits hz hav).1 hza i hi
      rw [h1] at h3
      rw [h3, h2]
theorem mask_test {am av bm bv : Nat} (ham : am < 18446744073709551616) (hbm : bm < 18446744073709551616) (hav : av < 18446744073709551616) (hbv : bv < 18446744073709551616) (ha : Sub av am) (hb : Sub bv bm) :
    (bm &&& (18446744073709551615 - am) = 0 ∧ av &&& bm = bv) ↔ ∀ i, i < 64 → bm.testBit i = true → am.testBit i = true ∧ av.testBit i = bv.testBit i := by
  rw [sub_zero hbm ham, and_bits hav hbv]
  constructor
  · rintro ⟨h1, h2⟩ i hi hbi
    refine ⟨h1 i hbi, ?_⟩
    rw [← h2 i hi, hbi, Bool.and_true]
  · intro h
    refine ⟨fun i hbi => ?_, fun i hi => ?_⟩
    · by_cases hi : i < 64
      · exact (h i hi hbi).1
      · rw [tb_hi hbm (by omega)] at hbi; exact absurd hbi (by decide)
    · cases hbi : bm.testBit i
      · rw [Bool.and_false]
        cases hv : bv.testBit i
        · rfl
        · rw [hb i hv] at hbi; exact absurd hbi (by decide)
      · rw [Bool.and_true]; exact (h i hi hbi).2
/-- A mask's set: its least and its greatest. -/
theorem mask_ends {m v : Nat} (hm : m < 18446744073709551616) (hv : v < 18446744073709551616) (hs : Sub v m) :
    v &&& m = v ∧ (v ||| (18446744073709551615 - m)) &&& m = v ∧ (v ||| (18446744073709551615 - m)) < 18446744073709551616 ∧ ∀ z, z < 18446744073709551616 → z &&& m = v → v ≤ z ∧ z ≤ v ||| (18446744073709551615 - m) := by
  have hlt : v ||| (18446744073709551615 - m) < 18446744073709551616 := Nat.or_lt_two_pow (n := 64) hv (by omega)
  refine ⟨sub_and hs, ?_, hlt, fun z hz h => ⟨?_, ?_⟩⟩
  · rw [and_bits hlt hv]
    intro i hi
    rw [Nat.testBit_or, tb_not m i hm]
    cases h1 : m.testBit i
    · cases h2 : v.testBit i
      · simp
      · rw [hs i h2] at h1; exact absurd h1 (by decide)
    · simp
  · rw [← h]; exact Nat.and_le_left
  · apply Nat.le_of_testBit
    intro i hi
    rw [Nat.testBit_or, tb_not m i hm, ← h, Nat.testBit_and, hi]
    have h64 : i < 64 := by
      rcases Nat.lt_or_ge i 64 with h6 | h6
      · exact h6
      · rw [tb_hi hz h6] at hi; exact absurd hi (by decide)
    cases m.testBit i <;> simp [h64]
theorem tb_div {x y i j : Nat} (h : x / 2 ^ i = y / 2 ^ i) (hj : i ≤ j) : x.testBit j = y.testBit j := by
  have h1 := Nat.testBit_div_two_pow (n := i) x (j - i)
  have h2 := Nat.testBit_div_two_pow (n := i) y (j - i)
  rw [Nat.sub_add_cancel hj] at h1 h2
  rw [← h1, ← h2, h]
/-- A mask with no bit below i asks the bits above alone. -/
theorem and_high {m i z x : Nat} (hm : ∀ j, j < i → m.testBit j = false) (h : z / 2 ^ i = x / 2 ^ i) : z &&& m = x &&& m := by
  apply Nat.eq_of_testBit_eq
  intro j
  rw [Nat.testBit_and, Nat.testBit_and]
  by_cases hj : j < i
  · rw [hm j hj, Bool.and_false, Bool.and_false]
  · rw [tb_div h (by omega)]
theorem and_low {m i : Nat} : m &&& (2 ^ i - 1) = 0 ↔ ∀ j, j < i → m.testBit j = false := by
  rw [Nat.and_two_pow_sub_one_eq_mod]
  constructor
  · intro h j hj
    have h1 := Nat.testBit_mod_two_pow m i j
    rw [h, Nat.zero_testBit] at h1
    simpa [hj] using h1.symm
  · intro h
    apply Nat.eq_of_testBit_eq
    intro j
    rw [Nat.testBit_mod_two_pow, Nat.zero_testBit]
    by_cases hj : j < i
    · simp [h j hj]
    · simp [hj]
theorem or_low (x i : Nat) : x ||| (2 ^ i - 1) = 2 ^ i * (x / 2 ^ i) + (2 ^ i - 1) := by
  have hp := Nat.two_pow_pos i
  rw [Nat.two_pow_add_eq_or_of_lt (by omega)]
  apply Nat.eq_of_testBit_eq
  intro j
  rw [Nat.testBit_or, Nat.testBit_or, Nat.mul_comm, Nat.testBit_mul_two_pow, Nat.testBit_two_pow_sub_one, Nat.testBit_div_two_pow]
  by_cases hj : i ≤ j
  · rw [Nat.sub_add_cancel hj]; simp [hj]
  · have : j < i := by omega
    simp [this]
theorem and_pow (m i : Nat) : m &&& 2 ^ i = if m.testBit i = true then 2 ^ i else 0 := by
  apply Nat.eq_of_testBit_eq
  intro j
  rw [Nat.testBit_and, Nat.testBit_two_pow]
  by_cases e : i = j
  · subst e
    cases h : m.testBit i <;> simp
  · simp only [e, decide_false, Bool.and_false]
    split
    · rw [Nat.testBit_two_pow]; simp [e]
    · rw [Nat.zero_testBit]
/-- A block: what its mask's set is. -/
theorem block_set {k a z : Nat} (hk : k ≤ 64) (ha : a % 2 ^ k = 0) (hz : z < 18446744073709551616) : z &&& (18446744073709551615 - (2 ^ k - 1)) = a ↔ a ≤ z ∧ z ≤ a + (2 ^ k - 1) := by
  have hp := two_pow_le k hk
  have e : z &&& (18446744073709551615 - (2 ^ k - 1)) = 2 ^ k * (z / 2 ^ k) := by
    apply Nat.eq_of_testBit_eq
    intro j
    rw [Nat.testBit_and, tb_not _ _ (by omega), Nat.testBit_two_pow_sub_one, Nat.mul_comm, Nat.testBit_mul_two_pow, Nat.testBit_div_two_pow]
    by_cases hj : k ≤ j
    · have : ¬ j < k := by omega
      rw [Nat.sub_add_cancel hj]
      by_cases h6 : j < 64
      · simp [hj, this, h6]
      · have h7 : z.testBit j = false := tb_hi hz (by omega)
        simp [hj, this, h6, h7]
    · have : j < k := by omega
      simp [hj, this]
  rw [e]
  have h1 := Nat.div_add_mod z (2 ^ k)
  have h2 := Nat.div_add_mod a (2 ^ k)
  have h3 := Nat.mod_lt z hp.1
  generalize 2 ^ k = p at h1 h2 h3 ha hp ⊢
  constructor
  · intro h
    rw [h] at h1
    omega
  · rintro ⟨h4, h5⟩
    have hq : z / p = a / p := by
      refine Nat.div_eq_of_lt_le ?_ ?_
      · rw [Nat.mul_comm]; omega
      · rw [Nat.succ_mul, Nat.mul_comm]; omega
    rw [hq]
    omega
/-- A range's bits: which of a mask's may stand there. -/
theorem range_mask {l h m v n : Nat} (hl : l ≤ h) (hn : (l ^^^ h) / 2 ^ n = 0) (htop : n ≠ 0 → (l ^^^ h).testBit (n - 1) = true) :
    (∀ z, l ≤ z → z ≤ h → z &&& m = v) ↔ (m &&& (2 ^ n - 1) = 0 ∧ l &&& m = v) := by
  rw [Nat.xor_div_two_pow] at hn
  have hq : l / 2 ^ n = h / 2 ^ n := by
    apply Nat.eq_of_testBit_eq
    intro i
    have := congrArg (fun x => x.testBit i) hn
    simp only [Nat.testBit_xor, Nat.zero_testBit] at this
    cases h1 : (l / 2 ^ n).testBit i <;> cases h2 : (h / 2 ^ n).testBit i <;> simp_all
  rw [and_low]
  constructor
  · intro hz
    refine ⟨?_, hz l (Nat.le_refl _) hl⟩
    by_cases e : n = 0
    · subst e; intro j hj; omega
    · obtain ⟨t, rfl⟩ : ∃ t, n = t + 1 := ⟨n - 1, by omega⟩
      have ht := htop e
      rw [Nat.add_sub_cancel, Nat.testBit_xor, Nat.testBit_eq_decide_div_mod_eq, Nat.testBit_eq_decide_div_mod_eq] at ht
      have hp := Nat.two_pow_pos t
      have e1 : l / 2 ^ (t + 1) = l / 2 ^ t / 2 := by rw [Nat.pow_succ, Nat.div_div_eq_div_mul]
      have e2 : h / 2 ^ (t + 1) = h / 2 ^ t / 2 := by rw [Nat.pow_succ, Nat.div_div_eq_div_mul]
      rw [e1, e2] at hq
      have hle : l / 2 ^ t ≤ h / 2 ^ t := Nat.div_le_div_right hl
      have hodd : h / 2 ^ t = l / 2 ^ t + 1 ∧ l / 2 ^ t % 2 = 0 := by
        have a1 := Nat.div_add_mod (l / 2 ^ t) 2
        have a2 := Nat.div_add_mod (h / 2 ^ t) 2
        have a3 := Nat.mod_lt (l / 2 ^ t) (by decide : 2 > 0)
        have a4 := Nat.mod_lt (h / 2 ^ t) (by decide : 2 > 0)
        by_cases b1 : l / 2 ^ t % 2 = 1 <;> by_cases b2 : h / 2 ^ t % 2 = 1 <;> simp [b1, b2] at ht <;> omega
      obtain ⟨M, hM⟩ : ∃ M, M = 2 ^ t * (l / 2 ^ t + 1) := ⟨_, rfl⟩
      have c1 := Nat.div_add_mod l (2 ^ t)
      have c2 := Nat.div_add_mod h (2 ^ t)
      have c3 := Nat.mod_lt l hp
      rw [hodd.1, ← hM] at c2
      have hM2 : M = 2 ^ t * (l / 2 ^ t) + 2 ^ t := by rw [hM, Nat.mul_succ]
      have z1 := hz M (by omega) (by omega)
      have z2 := hz (M - 1) (by omega) (by omega)
      have hd : (M - 1) / 2 ^ t = l / 2 ^ t := by
        refine Nat.div_eq_of_lt_le ?_ ?_
        · rw [Nat.mul_comm]; omega
        · rw [Nat.succ_mul, Nat.mul_comm]; omega
      have hm1 : (M - 1) % 2 ^ t = 2 ^ t - 1 := by
        have := Nat.div_add_mod (M - 1) (2 ^ t)
        rw [hd] at this
        omega
      have hdM : M / 2 ^ t = l / 2 ^ t + 1 := by rw [hM]; exact Nat.mul_div_cancel_left _ hp
      intro j hj
      have hb := congrArg (fun x => x.testBit j) (z1.trans z2.symm)
      simp only [Nat.testBit_and] at hb
      have hne : M.testBit j ≠ (M - 1).testBit j := by
        by_cases ej : j = t
        · subst ej
          rw [Nat.testBit_eq_decide_div_mod_eq, Nat.testBit_eq_decide_div_mod_eq, hdM, hd]
          have f1 : (l / 2 ^ j + 1) % 2 = 1 := by omega
          have f2 : ¬ (l / 2 ^ j) % 2 = 1 := by omega
          simp [f1, f2]
        · have hjt : j < t := by omega
          have g1 : M.testBit j = false := by
            rw [hM, Nat.mul_comm, Nat.testBit_mul_two_pow]
            have : ¬ t ≤ j := by omega
            simp [this]
          have g2 : (M - 1).testBit j = true := by
            have h7 := Nat.testBit_mod_two_pow (M - 1) t j
            rw [hm1, Nat.testBit_two_pow_sub_one] at h7
            simpa [hjt] using h7.symm
          rw [g1, g2]
          decide
      cases hmj : m.testBit j
      · rfl
      · rw [hmj, Bool.and_true, Bool.and_true] at hb
        exact absurd hb hne
  · rintro ⟨h1, h2⟩ z hz1 hz2
    rw [← h2]
    refine and_high h1 ?_
    have a := Nat.div_le_div_right (c := 2 ^ n) hz1
    have b := Nat.div_le_div_right (c := 2 ^ n) hz2
    omega
theorem bitLen_top (x : Nat) (hx : x < 18446744073709551616) : Lib.bitLen x ≤ 64 ∧ x / 2 ^ Lib.bitLen x = 0 ∧ (Lib.bitLen x ≠ 0 → x.testBit (Lib.bitLen x - 1) = true) := by
  have h1 := Lib.bitLen_le x 64 (Nat.le_refl _) hx
  refine ⟨h1, ?_⟩
  by_cases e : x = 0
  · subst e
    have h0 := Lib.bitLen_le 0 0 (by decide) (by decide)
    refine ⟨Nat.zero_div _, fun h => absurd (Nat.le_zero.1 h0) h⟩
  · obtain ⟨b1, b2, b3⟩ := Lib.bitLenAux_bounds 64 x hx e
    refine ⟨Nat.div_eq_of_lt b3, fun h => ?_⟩
    rw [Nat.testBit_eq_decide_div_mod_eq, decide_eq_true_eq]
    have hn : Lib.bitLen x = Lib.bitLenAux 64 x := rfl
    rw [hn]
    have hs : Lib.bitLenAux 64 x = (Lib.bitLenAux 64 x - 1) + 1 := by omega
    rw [hs, Nat.pow_succ] at b3
    have : x / 2 ^ (Lib.bitLenAux 64 x - 1) = 1 := Nat.div_eq_of_lt_le (by omega) (by omega)
    rw [this]
end Go.Proofs.Ytdipinclchkhjaa.P
