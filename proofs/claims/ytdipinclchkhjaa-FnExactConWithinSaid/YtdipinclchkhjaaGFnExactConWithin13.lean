import Derived.Test.YtdipinclchkhjaaGFnExactConWithin6
import Derived.Test.YtdipinclchkhjaaGFnExactConWithin9
import Derived.Test.YtdipinclchkhjaaGFnExactConWithin12
namespace Go.Proofs.Ytdipinclchkhjaa.P
open Go.RowKit Go.Proofs.YtdipinclchkhjaaW.PrintWords Go.Proofs.YtdipinclchkhjaaW.PrintLast Go.Proofs.YtdipinclchkhjaaW.PrintMore
set_option linter.unusedVariables false
set_option linter.unusedSimpArgs false
theorem ok_sub {a b : Nat} (ha : a < 18446744073709551616) (hb : b < 18446744073709551616) (hok : (normRaw 1 a b).2 = true) : Sub b a := by
  have h := l3conOK_is 1 a b ha hb
  rw [hok] at h
  unfold spec_l3conOK.f at h
  rw [if_neg (by decide), if_pos rfl, or64 a b ha hb] at h
  have := Option.some.inj h
  rw [beq_iff_eq] at this
  exact or_sub (by omega)
theorem ok_rng {a b : Nat} (hok : (normRaw 2 a b).2 = true) : a ≤ b := by
  unfold normRaw at hok
  rw [if_neg (by decide), if_neg (by decide), if_pos rfl] at hok
  by_cases h : (a : Int) > b
  · rw [if_pos h] at hok; exact absurd hok (by decide)
  · omega
theorem ok_kind {k : Int} {a b : Int} (hok : (normRaw k a b).2 = true) : k = 0 ∨ k = 1 ∨ k = 2 := by
  unfold normRaw at hok
  by_cases h0 : k = 0
  · exact .inl h0
  · by_cases h1 : k = 1
    · exact .inr (.inl h1)
    · by_cases h2 : k = 2
      · exact .inr (.inr h2)
      · rw [if_neg h0, if_neg h1, if_neg h2] at hok; exact absurd hok (by decide)
/-- A condition's set: one block, or a mask's. -/
theorem l3block_is (k : Int) (a b : Nat) (ha : a < 18446744073709551616) (hb : b < 18446744073709551616) (hok : (normRaw k a b).2 = true) :
    (∃ lo hi : Nat, lo ≤ hi ∧ hi < 18446744073709551616 ∧ Ev (fun n => spec_l3block.f n k a b) ((lo : Int), (hi : Int), true) ∧ ∀ z, z < 18446744073709551616 → (InC k a b z ↔ lo ≤ z ∧ z ≤ hi)) ∨
    (k = 1 ∧ Ev (fun n => spec_l3block.f n k a b) (0, 0, false)) := by
  rcases ok_kind hok with rfl | rfl | rfl
  · refine .inl ⟨0, 18446744073709551615, by omega, by omega, ev_is fun n => by unfold spec_l3block.f; rw [if_pos rfl]; rfl, fun z hz => ?_⟩
    simp only [InC]
    simp
    omega
  · have hs := ok_sub ha hb hok
    rcases l3block_mask a b ha with ⟨j, hj, he, hev⟩ | ⟨hno, hev⟩
    · have hp := two_pow_le j hj
      have hmod : b % 2 ^ j = 0 := by
        rw [← Nat.and_two_pow_sub_one_eq_mod, and_low]
        intro i hi
        cases hbi : b.testBit i
        · rfl
        · have h1 := hs i hbi
          rw [he, tb_not _ _ (by omega), Nat.testBit_two_pow_sub_one] at h1
          simp [hi] at h1
      have hle : b + (2 ^ j - 1) < 18446744073709551616 := by
        have hb2 : b ≤ a := Nat.le_of_testBit hs
        omega
      have hw : IntKind.u64.wrap ((b : Int) + ((2 ^ j - 1 : Nat) : Int)) = ((b + (2 ^ j - 1) : Nat) : Int) := by rw [wrap_u64_id (by omega) (by omega)]; omega
      rw [hw] at hev
      refine .inl ⟨b, b + (2 ^ j - 1), by omega, hle, hev, fun z hz => ?_⟩
      unfold InC
      rw [if_pos rfl, he]
      exact block_set hj hmod hz
    · exact .inr ⟨rfl, hev⟩
  · have hab := ok_rng hok
    refine .inl ⟨a, b, hab, hb, ev_is fun n => by unfold spec_l3block.f; rw [if_neg (by decide), if_pos rfl], fun z hz => ?_⟩
    unfold InC
    rw [if_neg (by decide), if_pos rfl]
theorem l3holds_is (k : Int) (a b x : Nat) (ha : a < 18446744073709551616) (hx : x < 18446744073709551616) : ∃ r, spec_l3holds.f k a b x = some r ∧ (r = true ↔ InC k a b x) := by
  unfold spec_l3holds.f InC
  by_cases h1 : k = 1
  · rw [if_pos h1, if_pos h1, and64 x a hx ha]
    refine ⟨_, rfl, ?_⟩
    rw [beq_iff_eq]
    omega
  · rw [if_neg h1, if_neg h1]
    by_cases h2 : k = 2
    · rw [if_pos h2, if_pos h2]
      by_cases h3 : (a : Int) ≤ x
      · rw [if_pos h3]
        refine ⟨_, rfl, ?_⟩
        rw [decide_eq_true_eq]
        omega
      · rw [if_neg h3]
        refine ⟨_, rfl, ?_⟩
        simp
        omega
    · rw [if_neg h2, if_neg h2]
      exact ⟨_, rfl, by simp⟩
theorem bit_is (m i : Nat) (hm : m < 18446744073709551616) (hi : i < 64) : bits .and .u64 (m : Int) (IntKind.u64.wrap (((2 ^ i - 1 : Nat) : Int) + 1)) = if m.testBit i = true then ((2 ^ i : Nat) : Int) else 0 := by
  have hp := two_pow_lt i hi
  have e : IntKind.u64.wrap (((2 ^ i - 1 : Nat) : Int) + 1) = ((2 ^ i : Nat) : Int) := by rw [wrap_u64_id (by omega) (by omega)]; omega
  rw [e, and64 m _ hm (by omega), and_pow]
  split <;> rfl
/-- What the search for a first value outside says. -/
def Outs (k : Int) (a b x : Nat) (r : Int × Bool) : Prop :=
  (r = (0, false) ∧ ∀ z, x ≤ z → z < 18446744073709551616 → InC k a b z) ∨
  (∃ y : Nat, r = ((y : Int), true) ∧ x ≤ y ∧ y < 18446744073709551616 ∧ ¬ InC k a b y ∧ ∀ z, x ≤ z → z < y → InC k a b z)
theorem l3outside_mask (a b x : Nat) (ha : a < 18446744073709551616) (hx : x < 18446744073709551616) (hin : x &&& a = b) : ∃ r, Ev (fun n => spec_l3outside.l0 n x 0 1 a b) r ∧ Outs 1 a b x r := by
  have hIn : ∀ z, InC 1 a b z ↔ z &&& a = b := fun z => by unfold InC; rw [if_pos rfl]
  have key : ∀ d i : Nat, i + d = 64 → (∀ j, j < i → a.testBit j = false) → ∃ r, Ev (fun n => spec_l3outside.l0 n x (i : Int) 1 a b) r ∧ Outs 1 a b x r := by
    intro d
    induction d with
    | zero =>
      intro i hi hno
      refine ⟨(0, false), ev_end fun k => by simp only [spec_l3outside.l0]; rw [if_neg (by omega)], .inl ⟨rfl, fun z _ hz => ?_⟩⟩
      have e : i = 64 := by omega
      subst e
      rw [hIn, ← hin]
      exact and_high hno (by rw [Nat.div_eq_of_lt (by omega), Nat.div_eq_of_lt (by omega)])
    | succ d ih =>
      intro i hi hno
      have hi64 : i < 64 := by omega
      have hp := two_pow_lt i hi64
      by_cases hb : a.testBit i = true
      · have hor : bits .or .u64 (x : Int) ((2 ^ i - 1 : Nat) : Int) = ((2 ^ i * (x / 2 ^ i) + (2 ^ i - 1) : Nat) : Int) := by
          rw [or64 x _ hx (by omega), or_low]
        have hlt : 2 ^ i * (x / 2 ^ i) + (2 ^ i - 1) < 18446744073709551616 := by
          rw [← or_low]
          exact Nat.or_lt_two_pow (n := 64) hx (by omega)
        have hxd := Nat.div_add_mod x (2 ^ i)
        have hxm := Nat.mod_lt x hp.1
        have hsame : ∀ z, x ≤ z → z ≤ 2 ^ i * (x / 2 ^ i) + (2 ^ i - 1) → InC 1 a b z := by
          intro z h1 h2
          rw [hIn, ← hin]
          refine and_high hno ?_
          refine Nat.div_eq_of_lt_le ?_ ?_
          · rw [Nat.mul_comm]; omega
          · rw [Nat.succ_mul, Nat.mul_comm]; omega
        by_cases hmax : 2 ^ i * (x / 2 ^ i) + (2 ^ i - 1) = 18446744073709551615
        · refine ⟨(0, false), ev_end fun k => ?_, .inl ⟨rfl, fun z h1 h2 => hsame z h1 (by omega)⟩⟩
          simp only [spec_l3outside.l0]
          rw [if_pos (by omega), l3low_is i (by omega), Option.bind_some, bit_is a i ha hi64, if_pos hb, if_neg (by omega), Option.bind_some, hor, if_pos (by omega)]
        · have hq : (2 ^ i * (x / 2 ^ i) + (2 ^ i - 1) + 1) / 2 ^ i = x / 2 ^ i + 1 := by
            have : 2 ^ i * (x / 2 ^ i) + (2 ^ i - 1) + 1 = 2 ^ i * (x / 2 ^ i + 1) := by rw [Nat.mul_succ]; omega
            rw [this]
            exact Nat.mul_div_cancel_left _ hp.1
          refine ⟨(((2 ^ i * (x / 2 ^ i) + (2 ^ i - 1) + 1 : Nat) : Int), true), ev_end fun k => ?_, .inr ⟨_, rfl, by omega, by omega, ?_, fun z h1 h2 => hsame z h1 (by omega)⟩⟩
          · simp only [spec_l3outside.l0]
            rw [if_pos (by omega), l3low_is i (by omega), Option.bind_some, bit_is a i ha hi64, if_pos hb, if_neg (by omega), Option.bind_some, hor, if_neg (by omega), wrap_u64_id (by omega) (by omega)]
            rfl
          · rw [hIn]
            intro h
            have h2 := congrArg (fun y => y.testBit i) (h.trans hin.symm)
            simp only [Nat.testBit_and, hb, Bool.and_true] at h2
            rw [Nat.testBit_eq_decide_div_mod_eq, Nat.testBit_eq_decide_div_mod_eq, hq] at h2
            by_cases h3 : x / 2 ^ i % 2 = 1
            · have : ¬ (x / 2 ^ i + 1) % 2 = 1 := by omega
              simp [h3, this] at h2
            · have : (x / 2 ^ i + 1) % 2 = 1 := by omega
              simp [h3, this] at h2
      · obtain ⟨r, h1, h2⟩ := ih (i + 1) (by omega) (fun j hj => by
          by_cases e : j = i
          · subst e; simpa using hb
          · exact hno j (by omega))
        refine ⟨r, ev_step _ (fun k => ?_) h1, h2⟩
        simp only [spec_l3outside.l0]
        rw [if_pos (by omega), l3low_is i (by omega), Option.bind_some, bit_is a i ha hi64, if_neg hb, if_pos rfl, wrap64_id (by omega) (by omega)]
        rfl
  exact key 64 0 (by omega) (fun j hj => by omega)
theorem l3outside_is (k : Int) (a b x : Nat) (ha : a < 18446744073709551616) (hb : b < 18446744073709551616) (hx : x < 18446744073709551616) (hok : (normRaw k a b).2 = true) : ∃ r, Ev (fun n => spec_l3outside.f n k a b x) r ∧ Outs k a b x r := by
  obtain ⟨t, h1, h2⟩ := l3holds_is k a b x ha hx
  by_cases ht : t = true
  · have hin := h2.1 ht
    rcases ok_kind hok with rfl | rfl | rfl
    · refine ⟨(0, false), ev_is fun n => ?_, .inl ⟨rfl, fun z _ _ => by simp [InC]⟩⟩
      unfold spec_l3outside.f
      rw [h1, Option.bind_some, if_pos ht, if_pos rfl]
    · have hin2 : x &&& a = b := by unfold InC at hin; rwa [if_pos rfl] at hin
      obtain ⟨r, r1, r2⟩ := l3outside_mask a b x ha hx hin2
      refine ⟨r, Ev.congr (fun n => ?_) r1, r2⟩
      unfold spec_l3outside.f
      rw [h1, Option.bind_some, if_pos ht, if_neg (by decide), if_neg (by decide)]
    · have hin2 : a ≤ x ∧ x ≤ b := by unfold InC at hin; rwa [if_neg (by decide), if_pos rfl] at hin
      have hI : ∀ z, InC 2 a b z ↔ a ≤ z ∧ z ≤ b := fun z => by unfold InC; rw [if_neg (by decide), if_pos rfl]
      by_cases hm : (b : Int) = 18446744073709551615
      · refine ⟨(0, false), ev_is fun n => ?_, .inl ⟨rfl, fun z h3 h4 => (hI z).2 (by omega)⟩⟩
        unfold spec_l3outside.f
        rw [h1, Option.bind_some, if_pos ht, if_neg (by decide), if_pos rfl, if_pos hm]
      · refine ⟨(((b + 1 : Nat) : Int), true), ev_is fun n => ?_, .inr ⟨b + 1, rfl, by omega, by omega, fun h => by have := (hI _).1 h; omega, fun z h3 h4 => (hI z).2 (by omega)⟩⟩
        unfold spec_l3outside.f
        rw [h1, Option.bind_some, if_pos ht, if_neg (by decide), if_pos rfl, if_neg hm, wrap_u64_id (by omega) (by omega)]
        rfl
  · refine ⟨((x : Int), true), ev_is fun n => ?_, .inr ⟨x, rfl, Nat.le_refl _, hx, fun h => ht (h2.2 h), fun z h3 h4 => by omega⟩⟩
    unfold spec_l3outside.f
    rw [h1, Option.bind_some, if_neg ht]
theorem l3within_mask (k k2 : Int) (a b a2 b2 : Nat) (ha : a < 18446744073709551616) (hb : b < 18446744073709551616) (ha2 : a2 < 18446744073709551616) (hb2 : b2 < 18446744073709551616) :
    ∃ r, Ev (fun n => spec_l3within.l0 n 0 k a b k2 a2 b2) r ∧ (r = true ↔ ∀ i, i < 64 → a2.testBit i = true → a.testBit i = true ∧ b.testBit i = b2.testBit i) := by
  have key : ∀ d i : Nat, i + d = 64 → ∃ r, Ev (fun n => spec_l3within.l0 n (i : Int) k a b k2 a2 b2) r ∧ (r = true ↔ ∀ j, i ≤ j → j < 64 → a2.testBit j = true → a.testBit j = true ∧ b.testBit j = b2.testBit j) := by
    intro d
    induction d with
    | zero =>
      intro i hi
      exact ⟨true, ev_end fun k => by simp only [spec_l3within.l0]; rw [if_neg (by omega)], ⟨fun _ j h1 h2 => by omega, fun _ => rfl⟩⟩
    | succ d ih =>
      intro i hi
      have hi64 : i < 64 := by omega
      have hp := two_pow_lt i hi64
      obtain ⟨r, r1, r2⟩ := ih (i + 1) (by omega)
      have hnext : wrap64 ((i : Int) + 1) = ((i + 1 : Nat) : Int) := by rw [wrap64_id (by omega) (by omega)]; rfl
      by_cases h1 : a2.testBit i = true
      · by_cases h2 : a.testBit i = true
        · by_cases h3 : b.testBit i = b2.testBit i
          · refine ⟨r, ev_step _ (fun n => ?_) r1, r2.trans ⟨fun h j j1 j2 j3 => ?_, fun h j j1 => h j (by omega)⟩⟩
            · simp only [spec_l3within.l0]
              rw [if_pos (by omega), l3low_is i (by omega), Option.bind_some, bit_is a2 i ha2 hi64, if_pos h1, if_neg (by omega), bit_is a i ha hi64, if_pos h2, if_neg (by omega), bit_is b i hb hi64, bit_is b2 i hb2 hi64, h3, if_pos rfl, hnext]
            · by_cases e : j = i
              · subst e; exact ⟨h2, h3⟩
              · exact h j (by omega) j2 j3
          · refine ⟨false, ev_end fun n => ?_, ⟨fun h => absurd h (by decide), fun h => absurd (h i (Nat.le_refl _) hi64 h1).2 h3⟩⟩
            simp only [spec_l3within.l0]
            rw [if_pos (by omega), l3low_is i (by omega), Option.bind_some, bit_is a2 i ha2 hi64, if_pos h1, if_neg (by omega), bit_is a i ha hi64, if_pos h2, if_neg (by omega), bit_is b i hb hi64, bit_is b2 i hb2 hi64, if_neg ?_]
            by_cases hx : b.testBit i = true
            · by_cases hy : b2.testBit i = true
              · exact absurd (hx.trans hy.symm) h3
              · rw [if_pos hx, if_neg hy]; omega
            · by_cases hy : b2.testBit i = true
              · rw [if_neg hx, if_pos hy]; omega
              · exact absurd ((Bool.eq_false_iff.2 hx).trans (Bool.eq_false_iff.2 hy).symm) h3
        · refine ⟨false, ev_end fun n => ?_, ⟨fun h => absurd h (by decide), fun h => absurd (h i (Nat.le_refl _) hi64 h1).1 h2⟩⟩
          simp only [spec_l3within.l0]
          rw [if_pos (by omega), l3low_is i (by omega), Option.bind_some, bit_is a2 i ha2 hi64, if_pos h1, if_neg (by omega), bit_is a i ha hi64, if_neg h2, if_pos rfl]
      · refine ⟨r, ev_step _ (fun n => ?_) r1, r2.trans ⟨fun h j j1 j2 j3 => ?_, fun h j j1 => h j (by omega)⟩⟩
        · simp only [spec_l3within.l0]
          rw [if_pos (by omega), l3low_is i (by omega), Option.bind_some, bit_is a2 i ha2 hi64, if_neg h1, if_pos rfl, hnext]
        · by_cases e : j = i
          · subst e; exact absurd j3 h1
          · exact h j (by omega) j2 j3
  obtain ⟨r, r1, r2⟩ := key 64 0 (by omega)
  exact ⟨r, r1, r2.trans ⟨fun h j => h j (by omega), fun h j _ => h j⟩⟩
theorem l3within_is (k : Int) (a b : Nat) (k2 : Int) (a2 b2 : Nat) (ha : a < 18446744073709551616) (hb : b < 18446744073709551616) (ha2 : a2 < 18446744073709551616) (hb2 : b2 < 18446744073709551616) (hok : (normRaw k a b).2 = true) (hok2 : (normRaw k2 a2 b2).2 = true) :
    ∃ r, Ev (fun n => spec_l3within.f n k a b k2 a2 b2) r ∧ (r = true ↔ Lies k a b k2 a2 b2) := by
  rcases l3block_is k a b ha hb hok with ⟨lo, hi, b1, b3, hev, hset⟩ | ⟨rfl, hev⟩
  · obtain ⟨⟨y, ok⟩, hout, ho⟩ := l3outside_is k2 a2 b2 lo ha2 hb2 (by omega) hok2
    obtain ⟨K1, e1⟩ := ev_get hev
    obtain ⟨K2, e2⟩ := ev_get hout
    have hL : Lies k a b k2 a2 b2 ↔ ∀ z, lo ≤ z → z ≤ hi → InC k2 a2 b2 z :=
      ⟨fun h z z1 z2 => h z (by omega) ((hset z (by omega)).2 ⟨z1, z2⟩), fun h z hz hi => h z ((hset z hz).1 hi).1 ((hset z hz).1 hi).2⟩
    rcases ho with ⟨hr, hall⟩ | ⟨y', hr, y1, y2, y3, y4⟩
    · injection hr with hy hk
      subst hy; subst hk
      refine ⟨true, ev_mk (K1 + K2) fun n hn => ?_, ⟨fun _ => hL.2 fun z z1 z2 => hall z z1 (by omega), fun _ => rfl⟩⟩
      unfold spec_l3within.f
      rw [e1 n (by omega), Option.bind_some, if_pos rfl]
      show Option.bind (spec_l3outside.f n k2 a2 b2 lo) _ = _
      rw [e2 n (by omega), Option.bind_some, if_neg (by decide)]
    · injection hr with hy hk
      subst hy; subst hk
      refine ⟨decide ((y' : Int) > hi), ev_mk (K1 + K2) fun n hn => ?_, ?_⟩
      · unfold spec_l3within.f
        rw [e1 n (by omega), Option.bind_some, if_pos rfl]
        show Option.bind (spec_l3outside.f n k2 a2 b2 lo) _ = _
        rw [e2 n (by omega), Option.bind_some, if_pos rfl]
      · rw [decide_eq_true_eq, hL]
        constructor
        · intro h z z1 z2
          exact y4 z z1 (by omega)
        · intro h
          rcases Nat.lt_or_ge hi y' with h1 | h1
          · omega
          · exact absurd (h y' y1 h1) y3
  · obtain ⟨K1, e1⟩ := ev_get hev
    have hs := ok_sub ha hb hok
    have hI : ∀ z, InC 1 a b z ↔ z &&& a = b := fun z => by unfold InC; rw [if_pos rfl]
    rcases ok_kind hok2 with rfl | rfl | rfl
    · have hz2 : a2 = 0 ∧ b2 = 0 := by
        unfold normRaw at hok2
        rw [if_pos rfl] at hok2
        simp at hok2
        omega
      obtain ⟨rfl, rfl⟩ := hz2
      obtain ⟨r, r1, r2⟩ := l3within_mask 1 0 a b 0 0 ha hb ha2 hb2
      obtain ⟨K2, e2⟩ := ev_get r1
      refine ⟨r, ev_mk (K1 + K2) fun n hn => ?_, ?_⟩
      · unfold spec_l3within.f
        rw [e1 n (by omega), Option.bind_some, if_neg (by decide), if_neg (by decide)]
        exact e2 n (by omega)
      · rw [r2]
        exact ⟨fun _ z _ _ => by simp [InC], fun _ i _ h => by rw [Nat.zero_testBit] at h; exact absurd h (by decide)⟩
    · have hs2 := ok_sub ha2 hb2 hok2
      have hI2 : ∀ z, InC 1 a2 b2 z ↔ z &&& a2 = b2 := fun z => by unfold InC; rw [if_pos rfl]
      obtain ⟨r, r1, r2⟩ := l3within_mask 1 1 a b a2 b2 ha hb ha2 hb2
      obtain ⟨K2, e2⟩ := ev_get r1
      refine ⟨r, ev_mk (K1 + K2) fun n hn => ?_, ?_⟩
      · unfold spec_l3within.f
        rw [e1 n (by omega), Option.bind_some, if_neg (by decide), if_neg (by decide)]
        exact e2 n (by omega)
      · rw [r2, ← mask_mask ha ha2 hb hb2 hs hs2]
        unfold Lies
        simp only [hI, hI2]
    · have hab := ok_rng hok2
      obtain ⟨m1, m2, m3, m4⟩ := mask_ends ha hb hs
      have hI2 : ∀ z, InC 2 a2 b2 z ↔ a2 ≤ z ∧ z ≤ b2 := fun z => by unfold InC; rw [if_neg (by decide), if_pos rfl]
      have hor : bits .or .u64 (b : Int) (IntKind.u64.wrap (18446744073709551615 - (a : Int))) = ((b ||| (18446744073709551615 - a) : Nat) : Int) := by
        have : IntKind.u64.wrap (18446744073709551615 - (a : Int)) = ((18446744073709551615 - a : Nat) : Int) := by rw [wrap_u64_id (by omega) (by omega)]; omega
        rw [this, or64 b _ hb (by omega)]
      have hL : Lies 1 a b 2 a2 b2 ↔ a2 ≤ b ∧ b ||| (18446744073709551615 - a) ≤ b2 := by
        unfold Lies
        simp only [hI, hI2]
        constructor
        · intro h
          exact ⟨(h b hb m1).1, (h _ m3 m2).2⟩
        · intro h z hz hi
          have := m4 z hz hi
          omega
      by_cases h1 : (a2 : Int) ≤ b
      · refine ⟨decide (((b ||| (18446744073709551615 - a) : Nat) : Int) ≤ b2), ev_mk K1 fun n hn => ?_, ?_⟩
        · unfold spec_l3within.f
          rw [e1 n hn, Option.bind_some, if_neg (by decide), if_pos rfl, if_pos h1, hor]
        · rw [decide_eq_true_eq, hL]
          omega
      · refine ⟨false, ev_mk K1 fun n hn => ?_, ?_⟩
        · unfold spec_l3within.f
          rw [e1 n hn, Option.bind_some, if_neg (by decide), if_pos rfl, if_neg h1]
        · rw [hL]
          simp
          omega
theorem specConWithin_iff (k : Int) (a b : Nat) (k2 : Int) (a2 b2 : Nat) (ha : a < 18446744073709551616) (hb : b < 18446744073709551616) (ha2 : a2 < 18446744073709551616) (hb2 : b2 < 18446744073709551616) :
    ∃ r, Ev (fun n => spec_ConWithin.f n k a b k2 a2 b2) r ∧ (r = true ↔ (normRaw k a b).2 = true ∧ (normRaw k2 a2 b2).2 = true ∧ Lies k a b k2 a2 b2) := by
  have h1 := l3conOK_is k a b ha hb
  have h2 := l3conOK_is k2 a2 b2 ha2 hb2
  by_cases c1 : (normRaw k a b).2 = true
  · by_cases c2 : (normRaw k2 a2 b2).2 = true
    · obtain ⟨r, r1, r2⟩ := l3within_is k a b k2 a2 b2 ha hb ha2 hb2 c1 c2
      obtain ⟨K, e⟩ := ev_get r1
      refine ⟨r, ev_mk K fun n hn => ?_, ⟨fun h => ⟨c1, c2, r2.1 h⟩, fun h => r2.2 h.2.2⟩⟩
      unfold spec_ConWithin.f
      rw [h1, Option.bind_some, if_pos c1, h2, Option.bind_some, if_pos c2, e n hn]
      rfl
    · refine ⟨false, ev_is fun n => ?_, ⟨fun h => absurd h (by decide), fun h => absurd h.2.1 c2⟩⟩
      unfold spec_ConWithin.f
      rw [h1, Option.bind_some, if_pos c1, h2, Option.bind_some, if_neg c2]
  · refine ⟨false, ev_is fun n => ?_, ⟨fun h => absurd h (by decide), fun h => absurd h.1 c1⟩⟩
    unfold spec_ConWithin.f
    rw [h1, Option.bind_some, if_neg c1]
end Go.Proofs.Ytdipinclchkhjaa.P
