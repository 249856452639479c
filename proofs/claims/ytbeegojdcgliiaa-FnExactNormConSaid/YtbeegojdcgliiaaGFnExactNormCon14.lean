/- The program's NormCon gives what the reference's NormCon gives, for every condition, valid or not. -/
import Derived.Test.YtbeegojdcgliiaaGFnExactNormCon13
import Derived.Test.YtbeegojdcgliiaaGFnExactNormCon4
import Derived.Test.YtbeegojdcgliiaaGFnExactNormCon5
import Derived.Test.YtbeegojdcgliiaaRows
import Derived.WalkKit
import Derived.ProofKit
import Derived.OpenShut
import Derived.ShutString
import Derived.ChangeOld
import Derived.Below
import Derived.SizedLaws
namespace Go.Proofs.Ytbeegojdcgliiaa.P
open Go.RowKit Go.Proofs.YtbeegojdcgliiaaW.PrintWords Go.Proofs.YtbeegojdcgliiaaW.PrintLast Go.Proofs.YtbeegojdcgliiaaW.PrintMore
set_option linter.unusedVariables false
set_option linter.unusedSimpArgs false

theorem l3low_is (k : Nat) (hk : k ≤ 64) : spec_l3low.f (k : Int) = some ((2 ^ k - 1 : Nat) : Int) := by
  unfold spec_l3low.f
  by_cases e : k = 64
  · subst e
    rw [if_pos (by decide), show (2 : Nat) ^ 64 - 1 = 18446744073709551615 by decide]
    rfl
  · have hp := two_pow_lt k (by omega)
    have hw : IntKind.u64.wrap (k : Int) = (k : Int) := wrap_u64_id (by omega) (by omega)
    rw [if_neg (by omega), hw, if_pos (by omega)]
    have hs : shl .u64 1 (k : Int) = ((2 ^ k : Nat) : Int) := by
      unfold shl
      have : min (k : Int).toNat IntKind.u64.bits = k := by simp [IntKind.bits]; omega
      rw [this, Int.one_mul]
      have e : ((2 : Int) ^ k) = ((2 ^ k : Nat) : Int) := by simp
      rw [e, wrap_u64_id (by omega) (by omega)]
    rw [hs, wrap_u64_id (by omega) (by omega)]
    congr 1
    omega
/-- The one block that a mask's set is, or none. -/
theorem l3block_mask (a b : Nat) (ha : a < 18446744073709551616) :
    (∃ k, k ≤ 64 ∧ a = 18446744073709551615 - (2 ^ k - 1) ∧ Ev (fun n => spec_l3block.f n 1 a b) ((b : Int), IntKind.u64.wrap ((b : Int) + ((2 ^ k - 1 : Nat) : Int)), true)) ∨
    ((∀ k, k ≤ 64 → a ≠ 18446744073709551615 - (2 ^ k - 1)) ∧ Ev (fun n => spec_l3block.f n 1 a b) (0, 0, false)) := by
  have step : ∀ (i : Nat) (r : Int × Int × Bool), i ≤ 64 → a ≠ 18446744073709551615 - (2 ^ i - 1) → Ev (fun n => spec_l3block.l0 n ((i + 1 : Nat) : Int) 1 a b) r → Ev (fun n => spec_l3block.l0 n (i : Int) 1 a b) r := by
    intro i r hi hne hr
    have hp := two_pow_le i hi
    refine ev_step _ (fun k => ?_) hr
    simp only [spec_l3block.l0]
    rw [if_pos (by omega), l3low_is i hi, Option.bind_some, wrap_u64_id (by omega) (by omega), if_neg (by omega), wrap64_id (by omega) (by omega)]
    rfl
  have hit : ∀ (i : Nat), i ≤ 64 → a = 18446744073709551615 - (2 ^ i - 1) → Ev (fun n => spec_l3block.l0 n (i : Int) 1 a b) ((b : Int), IntKind.u64.wrap ((b : Int) + ((2 ^ i - 1 : Nat) : Int)), true) := by
    intro i hi he
    have hp := two_pow_le i hi
    refine ev_end fun k => ?_
    simp only [spec_l3block.l0]
    rw [if_pos (by omega), l3low_is i hi, Option.bind_some, wrap_u64_id (x := 18446744073709551615 - ((2 ^ i - 1 : Nat) : Int)) (by omega) (by omega), if_pos (by omega)]
  have key : ∀ d i : Nat, i + d = 65 →
      (∃ k, i ≤ k ∧ k ≤ 64 ∧ a = 18446744073709551615 - (2 ^ k - 1) ∧ Ev (fun n => spec_l3block.l0 n (i : Int) 1 a b) ((b : Int), IntKind.u64.wrap ((b : Int) + ((2 ^ k - 1 : Nat) : Int)), true)) ∨
      ((∀ k, i ≤ k → k ≤ 64 → a ≠ 18446744073709551615 - (2 ^ k - 1)) ∧ Ev (fun n => spec_l3block.l0 n (i : Int) 1 a b) (0, 0, false)) := by
    intro d
    induction d with
    | zero =>
      intro i hi
      exact .inr ⟨fun k h1 h2 => by omega, ev_end fun k => by simp only [spec_l3block.l0]; rw [if_neg (by omega)]⟩
    | succ d ih =>
      intro i hi
      by_cases he : a = 18446744073709551615 - (2 ^ i - 1)
      · exact .inl ⟨i, Nat.le_refl _, by omega, he, hit i (by omega) he⟩
      · rcases ih (i + 1) (by omega) with ⟨k, h1, h2, h3, h4⟩ | ⟨h1, h2⟩
        · exact .inl ⟨k, by omega, h2, h3, step i _ (by omega) he h4⟩
        · refine .inr ⟨fun k hk1 hk2 => ?_, step i _ (by omega) he h2⟩
          by_cases e : k = i
          · subst e; exact he
          · exact h1 k (by omega) hk2
  have hf : ∀ r, Ev (fun n => spec_l3block.l0 n ((0 : Nat) : Int) 1 a b) r → Ev (fun n => spec_l3block.f n 1 a b) r := fun r hr => Ev.congr (fun k => by unfold spec_l3block.f; rw [if_neg (by decide), if_neg (by decide)]; rfl) hr
  rcases key 65 0 (by omega) with ⟨k, h1, h2, h3, h4⟩ | ⟨h1, h2⟩
  · exact .inl ⟨k, h2, h3, hf _ h4⟩
  · exact .inr ⟨fun k hk => h1 k (by omega) hk, hf _ h2⟩
/-- The reference's search for a block, from 64 down, comes to what the program makes of a range. -/
theorem l3norm_range (a b : Nat) (hab : a ≤ b) (hb : b < 18446744073709551616) : Ev (fun n => spec_l3norm.l0 n a b 64) (nrRaw (a : Int) (b : Int)).con := by
  have hw : IntKind.u64.wrap ((b : Int) - (a : Int)) = ((b - a : Nat) : Int) := by rw [wrap_u64_id (by omega) (by omega)]; omega
  have and_is : ∀ i : Nat, i ≤ 64 → (bits .and .u64 (a : Int) ((2 ^ i - 1 : Nat) : Int) == 0) = decide (a % 2 ^ i = 0) := by
    intro i hi
    have hp := two_pow_le i hi
    rw [and64 _ _ (by omega) (by omega), Nat.and_two_pow_sub_one_eq_mod, Bool.eq_iff_iff, beq_iff_eq, decide_eq_true_eq]
    omega
  have key : ∀ i : Nat, i ≤ 64 → (∀ k, i < k → k ≤ 64 → b - a = 2 ^ k - 1 → a % 2 ^ k ≠ 0) → Ev (fun n => spec_l3norm.l0 n a b (i : Int)) (nrRaw (a : Int) (b : Int)).con := by
    intro i
    induction i with
    | zero =>
      intro hi hno
      have hlast : (∀ k, k ≤ 64 → b - a = 2 ^ k - 1 → a % 2 ^ k ≠ 0) → Ev (fun n => spec_l3norm.l0 n a b (-1)) (nrRaw (a : Int) (b : Int)).con := by
        intro h
        rw [nrRaw_plain a b hab hb h]
        exact ev_end fun k => by simp only [spec_l3norm.l0]; rw [if_neg (by decide)]; rfl
      by_cases h1 : b - a = 2 ^ 0 - 1
      · have h2 : a % 2 ^ 0 = 0 := Nat.mod_one a
        rw [nrRaw_block a b 0 hab hb (by omega) h1 h2]
        refine ev_step (fun n => spec_l3norm.j1 n a b ((0 : Nat) : Int) ((2 ^ 0 - 1 : Nat) : Int) true) (fun k => ?_) (ev_end fun k => ?_)
        · simp only [spec_l3norm.l0]
          rw [if_pos (by omega), l3low_is 0 hi, Option.bind_some, hw, h1, if_pos rfl, and_is 0 hi, h2]
          rfl
        · simp only [spec_l3norm.j1]
          rw [if_pos trivial, if_neg (by omega), if_neg (by omega)]
          rfl
      · refine ev_step (fun n => spec_l3norm.j1 n a b ((0 : Nat) : Int) ((2 ^ 0 - 1 : Nat) : Int) false) (fun k => ?_) (ev_step _ (fun k => ?_) (hlast fun k hk e => ?_))
        · simp only [spec_l3norm.l0]
          rw [if_pos (by omega), l3low_is 0 hi, Option.bind_some, hw, if_neg (by omega)]
        · simp only [spec_l3norm.j1]
          rw [if_neg (by decide), wrap64_id (by omega) (by omega)]
          rfl
        · by_cases e0 : k = 0
          · subst e0; exact absurd e h1
          · exact hno k (by omega) hk e
    | succ i ih =>
      intro hi hno
      have hp := two_pow_le (i + 1) hi
      by_cases h : b - a = 2 ^ (i + 1) - 1 ∧ a % 2 ^ (i + 1) = 0
      · rw [nrRaw_block a b (i + 1) hab hb hi h.1 h.2]
        refine ev_step (fun n => spec_l3norm.j1 n a b ((i + 1 : Nat) : Int) ((2 ^ (i + 1) - 1 : Nat) : Int) true) (fun k => ?_) (ev_end fun k => ?_)
        · simp only [spec_l3norm.l0]
          rw [if_pos (by omega), l3low_is (i + 1) hi, Option.bind_some, hw, h.1, if_pos rfl, and_is (i + 1) hi, h.2]
          rfl
        · simp only [spec_l3norm.j1]
          rw [if_pos trivial]
          by_cases e : i + 1 = 64
          · rw [if_pos (by omega), if_pos e]
          · rw [if_neg (by omega), if_neg e, wrap_u64_id (by omega) (by omega)]
            congr 3
            omega
      · have hd : Ev (fun n => spec_l3norm.j1 n a b ((i + 1 : Nat) : Int) ((2 ^ (i + 1) - 1 : Nat) : Int) false) (nrRaw (a : Int) (b : Int)).con := by
          refine ev_step _ (fun k => ?_) (ih (by omega) fun k hk1 hk2 e => ?_)
          · simp only [spec_l3norm.j1]
            rw [if_neg (by decide), wrap64_id (by omega) (by omega), show ((i + 1 : Nat) : Int) - 1 = (i : Int) by omega]
          · by_cases e0 : k = i + 1
            · subst e0; exact fun h2 => h ⟨e, h2⟩
            · exact hno k (by omega) hk2 e
        by_cases h1 : b - a = 2 ^ (i + 1) - 1
        · have h2 : decide (a % 2 ^ (i + 1) = 0) = false := decide_eq_false fun h2 => h ⟨h1, h2⟩
          refine ev_step _ (fun k => ?_) hd
          simp only [spec_l3norm.l0]
          rw [if_pos (by omega), l3low_is (i + 1) hi, Option.bind_some, hw, h1, if_pos rfl, and_is (i + 1) hi, h2]
        · refine ev_step _ (fun k => ?_) hd
          simp only [spec_l3norm.l0]
          rw [if_pos (by omega), l3low_is (i + 1) hi, Option.bind_some, hw, if_neg (by omega)]
  exact key 64 (Nat.le_refl _) fun k h1 h2 => by omega
theorem l3conOK_is (k : Int) (a b : Nat) (ha : a < 18446744073709551616) (hb : b < 18446744073709551616) : spec_l3conOK.f k a b = some (normRaw k a b).2 := by
  unfold spec_l3conOK.f normRaw
  by_cases h0 : k = 0
  · rw [if_pos h0, if_pos h0]
    by_cases h1 : (a : Int) = 0
    · rw [if_pos h1, h1]; rfl
    · rw [if_neg h1, beq_eq_false_iff_ne.mpr h1]; rfl
  · rw [if_neg h0, if_neg h0]
    by_cases h1 : k = 1
    · rw [if_pos h1, if_pos h1, or64 a b ha hb]
      have hs := sub_bits a b ha hb
      by_cases h2 : (a : Int) = 0 ∧ (b : Int) = 0
      · rw [if_pos h2]
        have ea : a = 0 := by omega
        have eb : b = 0 := by omega
        subst ea; subst eb; rfl
      · rw [if_neg h2, andNot64 b a hb ha]
        congr 1
        rw [Bool.eq_iff_iff, beq_iff_eq, beq_iff_eq]
        constructor
        · intro h
          have := hs.2 (by omega)
          omega
        · intro h
          have := hs.1 (by omega)
          omega
    · rw [if_neg h1, if_neg h1]
      by_cases h2 : k = 2
      · rw [if_pos h2, if_pos h2]
        by_cases h3 : (a : Int) > b
        · rw [if_pos h3, decide_eq_false (by omega)]
        · rw [if_neg h3, decide_eq_true (by omega)]
      · rw [if_neg h2, if_neg h2]
/-- The reference's normal condition is the program's, of a valid one. -/
theorem l3norm_ev (k : Int) (a b : Nat) (ha : a < 18446744073709551616) (hb : b < 18446744073709551616) (hok : (normRaw k a b).2 = true) : Ev (fun n => spec_l3norm.f n k a b) (normRaw k a b).1.con := by
  have hblock : ∀ (x y : Nat), x ≤ y → y < 18446744073709551616 → Ev (fun n => spec_l3block.f n k a b) ((x : Int), (y : Int), true) → Ev (fun n => spec_l3norm.f n k a b) (nrRaw (x : Int) (y : Int)).con := by
    intro x y hxy hy h
    have h2 := Ev.bind (f := fun n bt => if bt.2.2 = true then spec_l3norm.l0 n bt.1 bt.2.1 64 else some (k, (a : Int), (b : Int))) h (r := (nrRaw (x : Int) (y : Int)).con) (by
      refine Ev.congr (fun n => ?_) (l3norm_range x y hxy hy)
      rw [if_pos rfl])
    exact h2
  have hokc := hok
  unfold normRaw at hok ⊢
  by_cases h0 : k = 0
  · rw [if_pos h0]
    have h := hblock 0 18446744073709551615 (by omega) (by omega) (ev_is fun n => by unfold spec_l3block.f; rw [if_pos h0]; rfl)
    have e := nrRaw_block 0 18446744073709551615 64 (by omega) (by omega) (by omega) (by decide) (by decide)
    rw [if_pos rfl] at e
    rw [e] at h
    exact h
  · rw [if_neg h0] at hok ⊢
    by_cases h1 : k = 1
    · subst h1
      have hval := l3conOK_is 1 a b ha hb
      rw [hokc] at hval
      have hsub : a ||| b = a := by
        unfold spec_l3conOK.f at hval
        rw [if_neg (by decide), if_pos rfl, or64 a b ha hb] at hval
        have := Option.some.inj hval
        rw [beq_iff_eq] at this
        omega
      rw [if_pos rfl]
      rcases l3block_mask a b ha with ⟨j, hj, he, hev⟩ | ⟨hno, hev⟩
      · have hp := two_pow_le j hj
        have hmod : b % 2 ^ j = 0 := by
          have h3 := (sub_bits a b ha hb).2 hsub
          have e2 : 18446744073709551615 - a = 2 ^ j - 1 := by omega
          rw [e2, Nat.and_two_pow_sub_one_eq_mod] at h3
          exact h3
        have hle : b + (2 ^ j - 1) < 18446744073709551616 := by
          have hb2 : b ≤ a := by rw [← hsub]; exact Nat.right_le_or
          omega
        have hw : IntKind.u64.wrap ((b : Int) + ((2 ^ j - 1 : Nat) : Int)) = ((b + (2 ^ j - 1) : Nat) : Int) := by rw [wrap_u64_id (by omega) (by omega)]; omega
        rw [hw] at hev
        have h := hblock b (b + (2 ^ j - 1)) (by omega) hle hev
        rw [nrRaw_block b _ j (by omega) hle hj (by omega) hmod] at h
        by_cases e64 : j = 64
        · subst e64
          have ea : a = 0 := by rw [he]
          have eb : b = 0 := by
            have hb2 : b ≤ a := by rw [← hsub]; exact Nat.right_le_or
            omega
          rw [if_pos rfl] at h
          rw [if_pos ⟨by omega, by omega⟩]
          exact h
        · have hp2 := two_pow_lt j (by omega)
          rw [if_neg e64, ← he] at h
          rw [if_neg (by omega)]
          exact h
      · have hne : ¬ ((a : Int) = 0 ∧ (b : Int) = 0) := by
          rintro ⟨h2, _⟩
          refine hno 64 (by omega) ?_
          rw [show (18446744073709551615 : Nat) - (2 ^ 64 - 1) = 0 by decide]
          omega
        rw [if_neg hne]
        have h2 := Ev.bind (f := fun n bt => if bt.2.2 = true then spec_l3norm.l0 n bt.1 bt.2.1 64 else some (1, (a : Int), (b : Int))) hev (r := ((1 : Int), (a : Int), (b : Int))) (ev_is fun n => by rw [if_neg (by decide)])
        exact h2
    · rw [if_neg h1] at hok ⊢
      by_cases h2 : k = 2
      · rw [if_pos h2] at hok ⊢
        by_cases h3 : (a : Int) > b
        · rw [if_pos h3] at hok; exact absurd hok (by decide)
        · rw [if_neg h3]
          exact hblock a b (by omega) hb (ev_is fun n => by unfold spec_l3block.f; rw [if_neg h0, if_pos h2])
      · rw [if_neg h2] at hok
        exact absurd hok (by decide)
theorem specNormCon_ev (k : Int) (a b : Nat) (ha : a < 18446744073709551616) (hb : b < 18446744073709551616) (r : Int × Int × Int) (hr : impl_NormCon.f k a b = some r) : Ev (fun n => spec_NormCon.f n k a b) r := by
  unfold impl_NormCon.f at hr
  unfold spec_NormCon.f
  rw [l3conOK_is k a b ha hb]
  cases hok : (normRaw k a b).2 with
  | true =>
    rw [hok, if_pos rfl] at hr
    obtain rfl := Option.some.inj hr
    have h := l3norm_ev k a b ha hb hok
    have h2 := Ev.bind (f := fun n (bt : Int × Int × Int) => some (bt.1, bt.2.1, bt.2.2)) h (r := (normRaw k a b).1.con) (ev_is fun n => rfl)
    refine Ev.congr (fun n => ?_) h2
    rw [Option.bind_some, if_pos rfl]
  | false =>
    rw [hok, if_neg (by decide)] at hr
    obtain rfl := Option.some.inj hr
    exact ev_is fun n => by rw [Option.bind_some, if_neg (by decide)]
theorem implNormCon_some (k : Int) (a b : Int) : ∃ r, impl_NormCon.f k a b = some r := by
  unfold impl_NormCon.f
  split <;> exact ⟨_, rfl⟩
end Go.Proofs.Ytbeegojdcgliiaa.P

namespace Go.Proofs.Ytbeegojdcgliiaa.Pure
open Go.RowKit Go.Proofs.Ytbeegojdcgliiaa.P Go.Proofs.YtbeegojdcgliiaaW.PrintWords Go.Proofs.YtbeegojdcgliiaaW.PrintLast

theorem FnExactNormCon : laws_FnExactNormCon.Pure := by
  intro k x y _ hx hy
  obtain ⟨a, rfl, ha⟩ := nat_u64 hx
  obtain ⟨b, rfl, hb⟩ := nat_u64 hy
  obtain ⟨r, hr⟩ := implNormCon_some k a b
  obtain ⟨K, h1⟩ := specNormCon_ev k a b ha hb r hr
  refine ⟨K, ?_⟩
  have h1 := h1 K (Nat.le_refl _)
  simp only [laws_FnExactNormCon.f, laws_toCon.f, laws_eqCon.f, h1, hr, Option.bind_some, if_true]
end Go.Proofs.Ytbeegojdcgliiaa.Pure

namespace Go.Proofs.Ytbeegojdcgliiaa.fnExactNormCon
open Go.ChangeShapes Go.WideShapes Go.ChangeAt Go.RowKit Go.Proofs.Ytbeegojdcgliiaa.P Go.Proofs.YtbeegojdcgliiaaW.PrintWords Go.Proofs.YtbeegojdcgliiaaW.PrintLast Go.Proofs.YtbeegojdcgliiaaW.PrintMore
set_option linter.unusedVariables false
set_option linter.unusedSimpArgs false
theorem own : ownKnob Try.prog.godebug = none := by kernel_rfl
theorem laidOut : laidOutB Try.prog = true := by kernel_rfl
set_option maxRecDepth 100000 in
theorem lifted (os : Os) (started : os.Started) (H : Type) (enc : TypeId × Value → H) :
    ReturnsInHanded {} Try.checked os 5 .any (Rows.fnExactNormConSpec.pre6 enc Try.prog Try.f5 Rows.fnExactNormConRow.domain false) (Rows.fnExactNormConSpec.post enc Try.prog Try.f5 false true false false) := by
  refine returnsInHanded_of_change_sized (C := Try.checked) own started (by kernel_rfl) Try.func5
    (ChangeSpec.witness6 (enc := enc) (C := Try.checked) false ⟨#[], #[.agg #[.int .i64 0, .int .u64 0, .int .u64 0]], []⟩ 8 (by kernel_rfl) (by kernel_rfl) (by kernel_rfl) (by kernel_rfl)) ?_
  intro W base args ds gs before hval0 hW hcnd hsz0 _
  have hval : ∀ (j : Nat) t v, Try.f5.params[j]? = some t → args[j]? = some v → Value.okWide Try.prog W .any base t v := hval0
  have hW' := hW
  obtain ⟨p, q, hA0, hV, rfl, hfz, hnd⟩ := hW
  have hA : DataW.TrodAll enc Try.prog W 0 (fun _ => true) true Try.f5.params.toList args.toList ds p := hA0
  rw [Try.params5] at hA hval
  obtain ⟨v0, vs0, d0, ds0, p0, q0, hargs, rfl, rfl, h0, r0⟩ := trodAll_cons hA
  obtain ⟨rfl, rfl, rfl⟩ := trodAll_nil r0
  obtain rfl : args = #[v0] := by cases args; simp_all
  obtain ⟨rfl, rfl⟩ := trodVars_none hV
  have k0 := h0
  have lt0 : ∀ x ∈ p0, x.block < W.heap.size := by obtain ⟨m, hm⟩ := k0; exact DataW.trod_lt m _ _ _ hm
  obtain ⟨fu0, fh0⟩ := h0
  obtain ⟨x0, hK0, ⟨w0_0, w0_1, w0_2⟩⟩ := op31.opens enc W 0 _ true fu0 _ _ fh0
  obtain ⟨cs0, rfl, hsz0, _⟩ : ∃ cs, v0 = .agg cs ∧ cs.size = Try.prog.cellsOf 31 ∧ Row.okWide Try.prog W .any base 31 cs := by
    have z := (hval 0 31 v0 rfl rfl)
    unfold Value.okWide at z
    rw [Try.underlying31] at z
    exact z
  obtain ⟨xs0⟩ := cs0
  have hK0' : k31.K W x0 xs0 := by simpa [Value.cells] using hK0
  obtain ⟨_, _, rfl, rfl, ⟨_, _, rfl, rfl, rfl⟩⟩ := hK0'
  obtain ⟨k, hk⟩ := Pure.FnExactNormCon _ _ _ w0_0 w0_1 w0_2
  refine (P.laws_FnExactNormCon.calls k x0.f0 x0.f1 x0.f2 true W  hk).mono fun e W' ⟨he, bel0⟩ => ?_
  have bel : Below W.heap.size W W' := bel0
  subst he
  exact ⟨_, rfl, _, _, _, [], _, [], hW', trodAll_mk1 (shut_bool Try.underlying4 _), (trodAll_cons_mk (Below.trod laidOut (by kernel_rfl) (of_decide_eq_true (by kernel_rfl)) k0 bel lt0) trodAll_mk0), rfl, bel.frame _, fun h => by cases h⟩
theorem over : Rows.fnExactNormConRow.holds Try.pinned (OpenSpec.ofChange Rows.fnExactNormConSpec) :=
  OpenClaim.holds_of_wide 5 Try.f5 rfl rfl rfl rfl rfl rfl rfl ⟨rfl, rfl, rfl, rfl, rfl⟩ rfl rfl rfl rfl rfl (by kernel_rfl) Try.func5 (by kernel_rfl)
    (of_decide_eq_true (by kernel_rfl)) (by unfold Func.isWrapper; first | (rw [if_pos (by decide +kernel)]; kernel_rfl) | (rw [if_neg (by decide +kernel)]; exact ⟨rfl, rfl⟩))
    (fun os started H enc _ => lifted os started H enc)
theorem proved : Rows.FnExactNormConSaid := over
#print axioms proved
end Go.Proofs.Ytbeegojdcgliiaa.fnExactNormCon
namespace Go.Proofs.Ytbeegojdcgliiaa
/-- The row, under a short name, for the claim. -/
theorem fnExactNormCon_holds : Rows.FnExactNormConSaid := fnExactNormCon.proved
end Go.Proofs.Ytbeegojdcgliiaa
