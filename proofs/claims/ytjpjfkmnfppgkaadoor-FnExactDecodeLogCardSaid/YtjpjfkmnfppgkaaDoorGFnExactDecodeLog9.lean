import Derived.Test.YtjpjfkmnfppgkaaDoorGFnExactDecodeLog8
import Derived.Laws.Strings
import Derived.Test.YtjpjfkmnfppgkaaDoorGFnExactDecodeLog5
namespace Go.Proofs.YtjpjfkmnfppgkaaDoor.P
open Go.RowKit Go.Proofs.YtjpjfkmnfppgkaaDoorW.PrintWords Go.Proofs.YtjpjfkmnfppgkaaDoorW.PrintLast Go.Proofs.YtjpjfkmnfppgkaaDoorW.PrintMore
set_option linter.unusedVariables false
set_option linter.unusedSimpArgs false
/-! The pieces of a body, each ending at a byte below 128. -/
def cutP : List Int → List Int → List (List Int) × Bool
  | cur, [] => ([], decide (cur.length = 0))
  | cur, c :: r => if c < 128 then ((cur ++ [c]) :: (cutP [] r).1, (cutP [] r).2) else cutP (cur ++ [c]) r
def firstP : List Int → List Int → Option (List Int × List Int)
  | cur, [] => none
  | cur, c :: r => if c < 128 then some (cur ++ [c], r) else firstP (cur ++ [c]) r
theorem cutP_first : ∀ (b cur : List Int), cutP cur b = (match firstP cur b with | none => ([], decide ((cur ++ b).length = 0)) | some t => (t.1 :: (cutP [] t.2).1, (cutP [] t.2).2))
  | [], cur => by simp only [cutP, firstP, List.append_nil]
  | c :: r, cur => by
    rw [cutP, firstP]
    by_cases h : c < 128
    · rw [if_pos h, if_pos h]
    · rw [if_neg h, if_neg h, cutP_first r (cur ++ [c]), List.append_assoc]
      rfl
theorem firstP_mem : ∀ (b cur : List Int) (t : List Int × List Int), firstP cur b = some t → ∀ x ∈ t.2, x ∈ b
  | [], cur, t, h => by simp [firstP] at h
  | c :: r, cur, t, h => by
    unfold firstP at h
    by_cases g : c < 128
    · rw [if_pos g] at h
      cases h
      exact fun x hx => List.mem_cons_of_mem _ hx
    · rw [if_neg g] at h
      exact fun x hx => List.mem_cons_of_mem _ (firstP_mem r _ t h x hx)
theorem cutP_mem : ∀ (b cur : List Int), (∀ x ∈ b, 0 ≤ x ∧ x < 256) → (∀ x ∈ cur, 0 ≤ x ∧ x < 256) → ∀ p ∈ (cutP cur b).1, ∀ x ∈ p, 0 ≤ x ∧ x < 256
  | [], cur, hb, hc, p, hp => by simp [cutP] at hp
  | c :: r, cur, hb, hc, p, hp => by
    have h1 : ∀ x ∈ r, 0 ≤ x ∧ x < 256 := fun x hx => hb x (List.mem_cons_of_mem _ hx)
    have h2 : ∀ x ∈ cur ++ [c], 0 ≤ x ∧ x < 256 := by
      intro x hx
      rcases List.mem_append.1 hx with h | h
      · exact hc x h
      · rw [List.mem_singleton] at h; subst h; exact hb x (List.mem_cons_self ..)
    unfold cutP at hp
    by_cases g : c < 128
    · rw [if_pos g] at hp
      rcases List.mem_cons.1 hp with e | h
      · subst e; exact h2
      · exact cutP_mem r [] h1 (by simp) p h
    · rw [if_neg g] at hp
      exact cutP_mem r _ h1 h2 p hp
theorem cutP_piece : ∀ (b cur : List Int), ∀ p ∈ (cutP cur b).1, p.length ≤ cur.length + b.length
  | [], cur, p, hp => by simp [cutP] at hp
  | c :: r, cur, p, hp => by
    rw [cutP] at hp
    rw [List.length_cons]
    by_cases g : c < 128
    · rw [if_pos g] at hp
      rcases List.mem_cons.1 hp with e | h
      · rw [e, List.length_append, List.length_singleton]; omega
      · have := cutP_piece r [] p h; rw [List.length_nil] at this; omega
    · rw [if_neg g] at hp
      have := cutP_piece r _ p hp
      rw [List.length_append, List.length_singleton] at this
      omega
theorem l2cut_key : ∀ (rem pre acc : _) (cur l : List Int), l = pre ++ rem → cur.length ≤ pre.length → acc.length ≤ pre.length → l.length ≤ 1000000 → Ev (fun k => spec_l2cut.l0 k l acc cur (pre.length : Int)) (acc ++ (cutP cur rem).1, (cutP cur rem).2)
  | [], pre, acc, cur, l, e, h1, h2, hl => by
    refine ev_end fun k => ?_
    subst e
    simp only [spec_l2cut.l0, List.append_nil, cutP]
    rw [if_neg (by omega)]
    congr 2
    rw [Bool.eq_iff_iff, beq_iff_eq, decide_eq_true_eq]
    omega
  | c :: r, pre, acc, cur, l, e, h1, h2, hl => by
    have hlen : l.length = pre.length + r.length + 1 := by rw [e, List.length_append, List.length_cons]; omega
    have hc : rd l (pre.length : Int) = c := by rw [rd_eq l pre.length (by omega)]; simp [e]
    have he2 : l = (pre ++ [c]) ++ r := by rw [e, List.append_assoc]; rfl
    have w1 : wrap64 ((pre.length : Int) + 1) = ((pre.length + 1 : Nat) : Int) := by rw [wrap64_id (by omega) (by omega)]; omega
    have hp : (pre ++ [c]).length = pre.length + 1 := by rw [List.length_append, List.length_singleton]
    have hcu : (cur ++ [c]).length = cur.length + 1 := by rw [List.length_append, List.length_singleton]
    by_cases g : c < 128
    · have ih := l2cut_key r (pre ++ [c]) (acc ++ [cur ++ [c]]) [] l he2 (by simp) (by rw [hp, List.length_append, List.length_singleton]; omega) hl
      rw [hp, List.append_assoc] at ih
      rw [cutP, if_pos g]
      refine ev_step _ (fun k => ?_) ih
      simp only [spec_l2cut.l0]
      rw [if_pos (by omega), if_pos (by omega), if_pos (by omega), Option.bind_some, hc, if_pos g, if_pos (by omega), w1]
    · have ih := l2cut_key r (pre ++ [c]) acc (cur ++ [c]) l he2 (by omega) (by omega) hl
      rw [hp] at ih
      rw [cutP, if_neg g]
      refine ev_step _ (fun k => ?_) ih
      simp only [spec_l2cut.l0]
      rw [if_pos (by omega), if_pos (by omega), if_pos (by omega), Option.bind_some, hc, if_neg g, w1]
theorem l2cut_ev (l : List Int) (hl : l.length ≤ 1000000) : Ev (fun k => spec_l2cut.f k l) (cutP [] l) := by
  have h := l2cut_key l [] [] [] l rfl (Nat.le_refl _) (Nat.le_refl _) hl
  exact h
/-! One piece: the value that it tells. -/
theorem varF_last : ∀ (n : Nat) (v : Int), 1 ≤ v → ∃ a c, varF n v = a ++ [c] ∧ c ≠ 0
  | 0, v, h => ⟨[], v, rfl, by omega⟩
  | n + 1, v, h => by
    unfold varF
    by_cases c : v < 128
    · rw [if_pos c]; exact ⟨[], v, rfl, by omega⟩
    · rw [if_neg c]
      obtain ⟨a, d, e, hd⟩ := varF_last n (v / 128) (by omega)
      rw [e]
      exact ⟨(v % 128 + 128) :: a, d, rfl, hd⟩
theorem valB_varF : ∀ (n : Nat) (v : Int), 0 ≤ v → v < 128 ^ (n + 1) → valB (varF n v) = v
  | 0, v, h0, h1 => by
    have : (128 : Int) ^ (0 + 1) = 128 := by decide
    simp only [varF, valB]; omega
  | n + 1, v, h0, h1 => by
    unfold varF
    by_cases c : v < 128
    · rw [if_pos c]; simp only [valB]; omega
    · rw [if_neg c, valB, valB_varF n (v / 128) (by omega) (by rw [Int.pow_succ] at h1; omega)]; omega
theorem valB_pos : ∀ (one : List Int) (c : Int), 1 ≤ c → c < 128 → 1 ≤ valB (one ++ [c])
  | [], c, h0, h1 => by simp only [List.nil_append, valB]; omega
  | b :: r, c, h0, h1 => by
    have := valB_pos r c h0 h1
    simp only [List.cons_append, valB]
    omega
theorem varF_valB : ∀ (one : List Int) (c : Int) (n : Nat), one.length ≤ n → (∀ x ∈ one, 128 ≤ x ∧ x < 256) → 1 ≤ c → c < 128 → varF n (valB (one ++ [c])) = one ++ [c]
  | [], c, n, hn, ho, h0, h1 => by
    have e : valB ([] ++ [c]) = c := by simp only [List.nil_append, valB]; omega
    rw [e]
    cases n with
    | zero => rfl
    | succ n => unfold varF; rw [if_pos h1]; rfl
  | b :: r, c, n, hn, ho, h0, h1 => by
    obtain ⟨m, rfl⟩ : ∃ m, n = m + 1 := ⟨n - 1, by rw [List.length_cons] at hn; omega⟩
    rw [List.length_cons] at hn
    have hb := ho b (List.mem_cons_self ..)
    have hp := valB_pos r c h0 h1
    have ih := varF_valB r c m (by omega) (fun x hx => ho x (List.mem_cons_of_mem _ hx)) h0 h1
    have e : valB (b :: r ++ [c]) = b % 128 + 128 * valB (r ++ [c]) := rfl
    rw [e]
    generalize hg : valB (r ++ [c]) = g at hp ih ⊢
    unfold varF
    rw [if_neg (by omega), show (b % 128 + 128 * g) % 128 + 128 = b by omega, show (b % 128 + 128 * g) / 128 = g by omega, ih]
    rfl
def okP (p : List Int) : Prop := p.length ≤ 10 ∧ valB p < 18446744073709551616 ∧ varB (valB p) = p
instance (p : List Int) : Decidable (okP p) := by unfold okP; infer_instance
theorem val9 (one : List Int) (c : Int) (h : one.length = 9) (h0 : 0 ≤ c) (h1 : c < 128) : valB (one ++ [c]) < 18446744073709551616 ↔ c ≤ 1 := by
  have hv := valB_range one
  rw [h] at hv
  rw [valB_snoc, h]
  have e : (128 : Int) ^ 9 = 9223372036854775808 := by decide
  rw [e] at hv ⊢
  generalize valB one = g at hv ⊢
  omega
theorem val8 (one : List Int) (c : Int) (h : one.length ≤ 8) : valB (one ++ [c]) < 18446744073709551616 := by
  have hv := (valB_range (one ++ [c])).2
  have hl : (one ++ [c]).length ≤ 9 := by rw [List.length_append, List.length_singleton]; omega
  have : (128 : Int) ^ (one ++ [c]).length ≤ 128 ^ 9 := by exact_mod_cast Nat.pow_le_pow_right (n := 128) (by decide) hl
  have e : (128 : Int) ^ 9 = 9223372036854775808 := by decide
  rw [e] at this
  exact Int.lt_of_lt_of_le hv (Int.le_trans this (by decide))
theorem okP_iff (one : List Int) (c : Int) (h9 : one.length ≤ 9) (ho : ∀ x ∈ one, 128 ≤ x ∧ x < 256) (h0 : 0 ≤ c) (h1 : c < 128) : okP (one ++ [c]) ↔ (one.length = 9 → c ≤ 1) ∧ (c ≠ 0 ∨ one.length = 0) := by
  have hlen : (one ++ [c]).length = one.length + 1 := by rw [List.length_append, List.length_singleton]
  have hlt : valB (one ++ [c]) < 18446744073709551616 ↔ (one.length = 9 → c ≤ 1) := by
    by_cases e : one.length = 9
    · rw [val9 one c e h0 h1]; exact ⟨fun h _ => h, fun h => h e⟩
    · exact ⟨fun _ h => absurd h e, fun _ => val8 one c (by omega)⟩
  have hvar : varB (valB (one ++ [c])) = one ++ [c] ↔ (c ≠ 0 ∨ one.length = 0) := by
    by_cases e : c = 0
    · subst e
      by_cases e2 : one.length = 0
      · have : one = [] := List.length_eq_zero_iff.1 e2
        subst this
        exact ⟨fun _ => Or.inr rfl, fun _ => by decide⟩
      · refine ⟨fun h => ?_, fun h => by omega⟩
        exfalso
        by_cases g : 1 ≤ valB (one ++ [0])
        · obtain ⟨a, d, h2, hd⟩ := varF_last 9 _ g
          unfold varB at h
          rw [h] at h2
          have := (List.append_inj' h2 rfl).2
          simp only [List.cons.injEq, and_true] at this
          exact hd this.symm
        · have hr := (valB_range (one ++ [0])).1
          have e0 : valB (one ++ [0]) = 0 := by omega
          rw [e0] at h
          have h3 := congrArg List.length h
          rw [hlen, show (varB 0).length = 1 by decide] at h3
          omega
    · exact ⟨fun _ => Or.inl e, fun _ => varF_valB one c 9 h9 ho (by omega) h1⟩
  unfold okP
  rw [hlen, hlt, hvar]
  exact ⟨fun h => h.2, fun h => ⟨by omega, h⟩⟩
theorem okP_long (p : List Int) (h : 10 < p.length) : ¬ okP p := fun hp => by have := hp.1; omega
theorem firstP_long : ∀ (b cur : List Int) (t : List Int × List Int), firstP cur b = some t → cur.length < t.1.length
  | [], cur, t, h => by simp [firstP] at h
  | c :: r, cur, t, h => by
    unfold firstP at h
    by_cases g : c < 128
    · rw [if_pos g] at h
      cases h
      rw [List.length_append, List.length_singleton]; omega
    · rw [if_neg g] at h
      have := firstP_long r _ t h
      rw [List.length_append, List.length_singleton] at this
      omega
theorem numG_first : ∀ (rem one : List Int), (∀ x ∈ one, 128 ≤ x ∧ x < 256) → one.length ≤ 9 → (∀ x ∈ rem, 0 ≤ x ∧ x < 256) →
    (match firstP one rem with | none => (numG one rem).2.2 = false | some t => if okP t.1 then numG one rem = (valB t.1, t.2, true) else (numG one rem).2.2 = false)
  | [], one, ho, h9, hr => by simp only [firstP, numG]
  | c :: r, one, ho, h9, hr => by
    have hc := hr c (List.mem_cons_self ..)
    have hr2 : ∀ x ∈ r, 0 ≤ x ∧ x < 256 := fun x hx => hr x (List.mem_cons_of_mem _ hx)
    unfold firstP numG
    by_cases g : c < 128
    · rw [if_pos g]
      dsimp only
      have hk := okP_iff one c h9 ho hc.1 g
      by_cases c9 : one.length = 9 ∧ c > 1
      · rw [if_pos c9, if_neg (fun h => by have := (hk.1 h).1 c9.1; omega)]
      · rw [if_neg c9, if_pos g]
        by_cases q : c ≠ 0 ∨ one.length = 0
        · rw [if_pos (hk.2 ⟨fun h => by omega, q⟩), decide_eq_true q]
        · rw [if_neg (fun h => q (hk.1 h).2), decide_eq_false q]
    · rw [if_neg g]
      by_cases c9 : one.length = 9 ∧ c > 1
      · rw [if_pos c9]
        cases hf : firstP (one ++ [c]) r with
        | none => rfl
        | some t =>
          have hl := firstP_long r _ t hf
          rw [List.length_append, List.length_singleton] at hl
          dsimp only
          rw [if_neg (okP_long t.1 (by omega))]
      · rw [if_neg c9, if_neg g]
        refine numG_first r (one ++ [c]) ?_ (numX one c h9 (fun h => by omega) g) hr2
        intro x hx
        rcases List.mem_append.1 hx with h | h
        · exact ho x h
        · rw [List.mem_singleton] at h; subst h; omega
/-! Bytes as text. -/
theorem strOfNums_inj : ∀ (a b : List Int), (∀ x ∈ a, 0 ≤ x ∧ x < 256) → (∀ x ∈ b, 0 ≤ x ∧ x < 256) → ((strOfNums a).toList = (strOfNums b).toList ↔ a = b) := by
  intro a b ha hb
  have key : ∀ (a b : List Int), (∀ x ∈ a, 0 ≤ x ∧ x < 256) → (∀ x ∈ b, 0 ≤ x ∧ x < 256) → (a.map fun n => UInt8.ofNat n.toNat) = (b.map fun n => UInt8.ofNat n.toNat) → a = b := by
    intro a
    induction a with
    | nil => intro b ha hb h; cases b with | nil => rfl | cons y b => simp at h
    | cons x a ih =>
      intro b ha hb h
      cases b with
      | nil => simp at h
      | cons y b =>
        simp only [List.map_cons, List.cons.injEq] at h
        have h1 := ih b (fun z hz => ha z (List.mem_cons_of_mem _ hz)) (fun z hz => hb z (List.mem_cons_of_mem _ hz)) h.2
        have hx := ha x (List.mem_cons_self ..)
        have hy := hb y (List.mem_cons_self ..)
        have h2 := congrArg UInt8.toNat h.1
        rw [UInt8.toNat_ofNat', UInt8.toNat_ofNat', Nat.mod_eq_of_lt (by omega), Nat.mod_eq_of_lt (by omega)] at h2
        rw [h1, show x = y by omega]
  have e : ∀ l : List Int, (strOfNums l).toList = l.map fun n => UInt8.ofNat n.toNat := by
    intro l
    rw [ByteArray.toList_eq, strOfNums_data]
  rw [e, e]
  exact ⟨key a b ha hb, fun h => by rw [h]⟩
theorem l2value_key (p : List Int) (hb : ∀ x ∈ p, 0 ≤ x ∧ x < 256) (hl : p.length ≤ 10) (r : Int × Bool) (hend : Ev (fun k => spec_l2value.l0 k p (valB p % 18446744073709551616) (-1)) r) : ∀ i, i ≤ p.length → Ev (fun k => spec_l2value.l0 k p (valB (p.drop i) % 18446744073709551616) ((i : Int) - 1)) r
  | 0, h => hend
  | i + 1, h => by
    have hi : i < p.length := by omega
    have ih := l2value_key p hb hl r hend i (by omega)
    have hx := hb _ (List.getElem_mem hi)
    rw [List.drop_eq_getElem_cons hi, valB] at ih
    refine ev_step _ (fun k => ?_) ih
    have e1 : ((i + 1 : Nat) : Int) - 1 = (i : Int) := by omega
    simp only [spec_l2value.l0]
    rw [e1, if_pos (by omega), if_pos (by omega), if_pos (by omega), rd_eq p i hi, wrap64_id (by omega) (by omega), Int.tmod_eq_emod_of_nonneg hx.1]
    congr 1
    rw [wrap_u64, wrap_u64, wrap_u64]
    generalize valB (p.drop (i + 1)) = g
    omega
theorem valB_append_range (p : List Int) : 0 ≤ valB p := (valB_range p).1
theorem l2value_ev (p : List Int) (hb : ∀ x ∈ p, 0 ≤ x ∧ x < 256) (hl : p.length ≤ 1000000) : Ev (fun k => spec_l2value.f k p) (if okP p then (valB p, true) else (0, false)) := by
  unfold spec_l2value.f
  by_cases c : (p.length : Int) > 10
  · rw [if_neg (okP_long p (by omega))]
    exact ev_is fun k => by rw [if_pos c]
  · refine Ev.congr (fun k => by rw [if_neg c]) ?_
    have h0 := valB_append_range p
    have hend : Ev (fun k => spec_l2value.l0 k p (valB p % 18446744073709551616) (-1)) (if okP p then (valB p, true) else (0, false)) := by
      have hm0 : 0 ≤ valB p % 18446744073709551616 := by omega
      have hm1 : valB p % 18446744073709551616 < 18446744073709551616 := by omega
      have hv := specVarB_ev (valB p % 18446744073709551616) hm0 hm1
      have hbv := varB_mem (valB p % 18446744073709551616) hm0 hm1
      refine ev_step (fun k => (spec_l2var.f k (valB p % 18446744073709551616)).bind fun t => if (strOfNums t).toList = (strOfNums p).toList then some (valB p % 18446744073709551616, true) else some (0, false)) (fun k => ?_) (Ev.bind hv (ev_is fun k => ?_))
      · simp only [spec_l2value.l0]
        rw [if_neg (by decide)]
      · by_cases q : okP p
        · have e : valB p % 18446744073709551616 = valB p := by have := q.2.1; omega
          rw [if_pos q, e, if_pos ((strOfNums_inj _ _ (e ▸ hbv) hb).2 q.2.2)]
        · rw [if_neg q, if_neg]
          intro h
          have h2 := (strOfNums_inj _ _ hbv hb).1 h
          have h3 : valB p = valB p % 18446744073709551616 := by
            have h4 := valB_varF 9 (valB p % 18446744073709551616) hm0 (Int.lt_of_lt_of_le hm1 pow128)
            unfold varB at h2
            rw [h2] at h4
            exact h4
          refine q ⟨by omega, by omega, ?_⟩
          rw [← h3] at h2
          exact h2
    have h := l2value_key p hb (by omega) _ hend p.length (Nat.le_refl _)
    rw [List.drop_length, valB] at h
    rw [wrap64_id (by omega) (by omega)]
    exact h
end Go.Proofs.YtjpjfkmnfppgkaaDoor.P

namespace Go.Proofs.YtjpjfkmnfppgkaaDoor.P
open Go.RowKit Go.Proofs.YtjpjfkmnfppgkaaDoorW.PrintWords Go.Proofs.YtjpjfkmnfppgkaaDoorW.PrintLast Go.Proofs.YtjpjfkmnfppgkaaDoorW.PrintMore
attribute [local go_sem] max2_int min2_int max_two min_two max_three min_three max_four min_four   -- for this text's walks alone
set_option linter.unusedVariables false
set_option linter.unusedSimpArgs false

/-! ### spec_l2call: function 33 -/
mutual
def spec_l2call.j0 : Nat → List (List Int) → Bool → Option (Int × Int × List Int × Bool)
  | 0, _, _ => none
  | k + 1, x4, x21 => if x21 = true then (some (0, 0, ([] : List Int), false)) else (spec_l2call.l0 k x4 0 0 0 ([] : List Int))
def spec_l2call.l0 : Nat → List (List Int) → Int → Int → Int → List Int → Option (Int × Int × List Int × Bool)
  | 0, _, _, _, _, _ => none
  | k + 1, x4, x7, x319000, x319001, x319002 => if x7 < 8 then (if 0 ≤ x7 then (if x7 < (x4.length : Int) then ((spec_l2value.f k (rd_L5 x4 x7)).bind fun bt320 => (if bt320.2 = true then (if x7 < 2 then (spec_l2call.j2 k x4 x7 bt320.1 (decide (bt320.1 > 4294967295)) x319000 x319001 x319002) else (spec_l2call.j2 k x4 x7 bt320.1 false x319000 x319001 x319002)) else (spec_l2call.j2 k x4 x7 bt320.1 true x319000 x319001 x319002))) else (none)) else (none)) else (some (x319000, x319001, x319002, true))
def spec_l2call.j2 : Nat → List (List Int) → Int → Int → Bool → Int → Int → List Int → Option (Int × Int × List Int × Bool)
  | 0, _, _, _, _, _, _, _ => none
  | k + 1, x4, x7, x8, x44, x319000, x319001, x319002 => if x44 = true then (some (0, 0, ([] : List Int), false)) else (if x7 = 0 then (spec_l2call.l0 k x4 (wrap64 (x7 + 1)) ((x8) % 4294967296) x319001 x319002) else (if x7 = 1 then (spec_l2call.l0 k x4 (wrap64 (x7 + 1)) x319000 ((x8) % 4294967296) x319002) else (if x319002.length < 17592186044416 then (spec_l2call.l0 k x4 (wrap64 (x7 + 1)) x319000 x319001 (x319002 ++ [x8])) else (none))))
end
def spec_l2call.f (k : Nat) (l0 : List Int) : Option (Int × Int × List Int × Bool) := (spec_l2cut.f k l0).bind fun bt314 => (if bt314.2 = true then (spec_l2call.j0 k bt314.1 ((bt314.1.length : Int) != 8)) else (spec_l2call.j0 k bt314.1 true))
set_option maxHeartbeats 8000000 in
set_option maxRecDepth 100000 in
theorem spec_l2call.calls (k : Nat) (A0 : Option Addr) (c0 : Nat) (l0 : List Int) (r1 : Int) (r2 : Int) (r3 : List Int) (r4 : Bool) (w : World) (hr0 : Kd.C (Kd.int .u8) w A0 l0.length l0) (hc0 : l0.length ≤ c0) (h : spec_l2call.f k l0 = some (r1, r2, r3, r4)) :
    Calls Tryd.prog 33 #[.slice A0 l0.length c0] w fun e w' => ∃ v2_ : Value, e = .returned (.tuple #[.agg #[.int .u32 r1, .int .u32 r2, v2_], .bool r4]) ∧ Kd.R (Kd.int .u64) 43 w' w.heap.size (fun _ => True) v2_ r3 ∧ Below w.heap.size w w' := by
  have hu28 := Tryd.underlying28
  have HR0 := Aside0.mk hr0
  have HC0 := Aside0.mk hc0
  clear hr0 hc0
  have HB := Aside0.mk (Below.refl w.heap.size w)
  have H : ((spec_l2cut.f k l0).bind fun bt314 => (if bt314.2 = true then (spec_l2call.j0 k bt314.1 ((bt314.1.length : Int) != 8)) else (spec_l2call.j0 k bt314.1 true))) = some (r1, r2, r3, r4) := h
  clear h
  replace H := Option.bind_eq_some_iff.mp H
  obtain ⟨⟨t314, t315⟩, A20, H⟩ := H
  replace H : (if t315 = true then (spec_l2call.j0 k t314 ((t314.length : Int) != 8)) else (spec_l2call.j0 k t314 true)) = some (r1, r2, r3, r4) := H
  have A2 := Aside0.mk A20
  clear A20
  have HC3 := Aside0.mk H
  clear H
  go_enter Tryd.func33, Tryd.ntmps33
  go_upto_region 2 with (first | ((with_reducible refine gate_dst (N := 2) rfl ?_); (try (refine gate_guard (by rfl) ?_; dsimp only)); refine box_event ?hg (N := 2) ?hd (cs := #[.int .u32 0, .int .u32 0, .slice none 0 0]) (t := 28) ?hr ?_; (case hd => rfl); (case hg => rfl); (case hr => first | (go_simp; done) | (go_simp; rfl)); intro gb313 hg w4 hbox hb; have n0_ := Aside0.mk (below_step (by repeat (first | (with_reducible first | exact HB.out | apply below_alloc | apply pw_below_drewN | apply below_drew1) | exact HB.out)) hb); have n1_ := Aside0.mk (hbox); have n2_ := Aside0.mk ((by rw [hg]; exact (below_size (by repeat (first | (with_reducible first | exact HB.out | apply below_alloc | apply pw_below_drewN | apply below_drew1) | exact HB.out))) : w.heap.size ≤ gb313)); have n3_ := Aside0.mk ((by rw [hg]; exact (below_size (by repeat (first | (with_reducible first | exact HB.out | apply below_alloc | apply pw_below_drewN | apply below_drew1) | exact HB.out))) : w.heap.size ≤ gb313)); clear HB; have HB := n0_; have BK313 := n1_; have GW313 := n2_; have GE313 := n3_; clear n0_ n1_ n2_ n3_; clear hb hbox hg) | ((with_reducible refine gate_callee (f := 53) rfl ?_); refine goesL_ (some 12) rfl rfl Tryd.func53 (by kernel_rfl) rfl #[.slice A0 l0.length c0] rfl (by (try simp only [List.map_toArray, List.map_cons, List.map_nil]); first | done | rfl | (simp only [List.length_drop, List.length_take]; rfl)) ?_; (with_reducible refine (spec_l2cut.calls k _ _ l0 t314 t315 _ ?side1 ?side2 A2.out).mono ?_); (case side1 => repeat (first | exact (Kd.C_below HR0.out HB.out) | (with_reducible refine Kd.C_alloc ?_ _) | (with_reducible refine Kd.C_drewN ?_ _) | (with_reducible refine Kd.C_drew ?_))); (case side2 => exact HC0.out); rintro e w5 ⟨v316, rfl, ho0, hb⟩; refine ⟨_, rfl, ?_⟩; have n0_ := Aside0.mk (Kd.S_lower ho0 (below_size (by repeat (first | (with_reducible first | exact HB.out | apply below_alloc | apply pw_below_drewN | apply below_drew1 | refine below_set ?_ GE313.out) | exact HB.out)))); have n1_ := Aside0.mk (blk_below (g := gb313) (o := .cells #[.int .u32 0, .int .u32 0, .slice none 0 0] 28 (0, 0)) (by (with_reducible repeat (first | refine blk_drewN ?_ _ | refine blk_drew ?_ | refine blk_alloc ?_ _)); exact BK313.out) hb); have n2_ := Aside0.mk (below_step (by repeat (first | (with_reducible first | exact HB.out | apply below_alloc | apply pw_below_drewN | apply below_drew1 | refine below_set ?_ GE313.out) | exact HB.out)) hb); clear BK313; clear HB; have HO317 := n0_; have BK313 := n1_; have HB := n2_; clear n0_ n1_ n2_; (try clear hb); (try clear hb2); (try clear hk); (try clear hi); (try clear ho0)))
  (try simp only [Act.put, List.setIfInBounds_toArray, List.set_cons_zero, List.set_cons_succ])
  go_cut [21] (fun v21 wc => ∃ (kq : Nat) (x21_2 : Bool), v21 = .bool x21_2 ∧ Aside0 (spec_l2call.j0 kq t314 x21_2 = some (r1, r2, r3, r4)) ∧ Aside0 (kq ≤ k) ∧ Aside0 (Kd.S (Kd.slice 5 (Kd.int .u8)) 22 wc w.heap.size (fun _ => True) v316 t314) ∧ Aside0 (wc.heap[gb313]? = some (.cells #[.int .u32 0, .int .u32 0, (.slice none 0 0)] 28 (0, 0))) ∧ Aside0 (Below w.heap.size w wc))
  case first =>
    have H := HC3.out
    clear HC3
    by_cases c6 : t315 = true
    · subst c6
      have H1 : (spec_l2call.j0 k t314 ((t314.length : Int) != 8)) = some (r1, r2, r3, r4) := by rw [if_pos rfl] at H; exact H
      clear H
      have H := H1
      clear H1
      have H' := Aside0.mk H
      clear H
      obtain ⟨Ao7, co7, eo7⟩ := Kd.S_slice HO317.out
      subst eo7
      go_wp2
      go_meet
      case rel => exact ⟨_, (((t314.length : Int) != 8)), (by first | rfl | (simp; done) | (simp [*]; done)), H', ⟨by first | omega | exact Nat.le_refl _⟩, ⟨by (with_reducible repeat (first | apply Kd.S_alloc | apply Kd.S_drewN | apply Kd.S_drew)); exact HO317.out⟩, ⟨by (with_reducible repeat (first | refine blk_drewN ?_ _ | refine blk_drew ?_ | refine blk_alloc ?_ _)); exact BK313.out⟩, ⟨by repeat (first | (with_reducible first | exact HB.out | apply below_alloc | apply pw_below_drewN | apply below_drew1 | refine below_set ?_ GE313.out) | exact HB.out)⟩⟩
    · replace c6 := Bool.eq_false_iff.mpr c6
      subst c6
      have H1 : (spec_l2call.j0 k t314 true) = some (r1, r2, r3, r4) := by rw [if_neg (show ¬ (false = true) by decide)] at H; exact H
      clear H
      have H := H1
      clear H1
      have H' := Aside0.mk H
      clear H
      go_wp2
      go_meet
      case rel => exact ⟨_, (true), (by first | rfl | (simp; done) | (simp [*]; done)), H', ⟨by first | omega | exact Nat.le_refl _⟩, ⟨by (with_reducible repeat (first | apply Kd.S_alloc | apply Kd.S_drewN | apply Kd.S_drew)); exact HO317.out⟩, ⟨by (with_reducible repeat (first | refine blk_drewN ?_ _ | refine blk_drew ?_ | refine blk_alloc ?_ _)); exact BK313.out⟩, ⟨by repeat (first | (with_reducible first | exact HB.out | apply below_alloc | apply pw_below_drewN | apply below_drew1 | refine below_set ?_ GE313.out) | exact HB.out)⟩⟩
  case rest =>
    clear HC3
    try clear p2
    try clear c3
    try clear c5
    try clear c6
    obtain ⟨kq, x21_2, rfl, HA, HJ2, HO_4, BK313, HB⟩ := hcut
    cases kq with
    | zero => exact absurd HA.out (by simp [spec_l2call.j0])
    | succ kj2 =>
      have H := HA.out
      clear HA
      simp only [spec_l2call.j0] at H
      by_cases c8 : x21_2 = true
      · subst c8
        have H1 : (some (0, 0, ([] : List Int), false)) = some (r1, r2, r3, r4) := by rw [if_pos rfl] at H; exact H
        clear H
        have H := H1
        clear H1
        simp only [Option.some.injEq, Prod.mk.injEq] at H
        obtain ⟨rfl, rfl, rfl, rfl⟩ := H
        have hcz9_0 : wc.cell? ⟨gb313, 0, none⟩ = some (.int .u32 0) := (blk_cell BK313.out 0).trans rfl
        have hcz9_1 : wc.cell? ⟨gb313, 1, none⟩ = some (.int .u32 0) := (blk_cell BK313.out 1).trans rfl
        have hcz9_2 : wc.cell? ⟨gb313, 2, none⟩ = some (.slice none 0 0) := (blk_cell BK313.out 2).trans rfl
        have hfz9_0 := blk_frozen BK313.out 0
        have hfz9_1 := blk_frozen BK313.out 1
        have hfz9_2 := blk_frozen BK313.out 2
        go_wp2
        refine bodyPost_ret (results_ct rfl _ _ gb313 28 #[.int .u32 0, .int .u32 0, .slice none 0 0] (0, 0) _ rfl (by (with_reducible repeat (first | refine blk_drewN ?_ _ | refine blk_drew ?_ | refine blk_alloc ?_ _)); refine blk_put (cs := #[.int .u32 0, .int .u32 0, .slice none 0 0]) ?_ 2 _ rfl; (with_reducible repeat (first | refine blk_drewN ?_ _ | refine blk_drew ?_ | refine blk_alloc ?_ _)); refine blk_put (cs := #[.int .u32 0, .int .u32 0, .slice none 0 0]) ?_ 1 _ rfl; (with_reducible repeat (first | refine blk_drewN ?_ _ | refine blk_drew ?_ | refine blk_alloc ?_ _)); refine blk_put (cs := #[.int .u32 0, .int .u32 0, .slice none 0 0]) ?_ 0 _ rfl; (with_reducible repeat (first | refine blk_drewN ?_ _ | refine blk_drew ?_ | refine blk_alloc ?_ _)); exact BK313.out) Tryd.underlying28 rfl (by kernel_rfl)) rfl ?_
        exact ⟨_, by first | rfl | (simp [errW_none, errW_some] <;> rfl) | (simp [*, errW_none, errW_some] <;> rfl), by first | exact Kd.R_nil _ _ _ _ _ | exact Kd.N_nil _ _ _ _ _ | exact Kd.V_nil _ _ _ _ _ | exact Kd.Q_nil _ _ _ _ _ | exact Kd.S_nil _ _ _ _ _, by repeat (first | (with_reducible first | exact HB.out | apply below_alloc | apply pw_below_drewN | apply below_drew1 | refine below_set ?_ GE313.out) | exact HB.out)⟩
      · replace c8 := Bool.eq_false_iff.mpr c8
        subst c8
        have H1 : (spec_l2call.l0 kj2 t314 0 0 0 ([] : List Int)) = some (r1, r2, r3, r4) := by rw [if_neg (show ¬ (false = true) by decide)] at H; exact H
        clear H
        have H := H1
        clear H1
        have H' := Aside0.mk H
        clear H
        go_wp2_with (first | ((with_reducible refine gate_dst (N := 6) rfl ?_); (try (refine gate_guard (by rfl) ?_; dsimp only)); refine box_event ?hg (N := 6) ?hd (cs := #[.int .u32 0, .int .u32 0, .slice none 0 0]) (t := 28) ?hr ?_; (case hd => rfl); (case hg => rfl); (case hr => first | (go_simp; done) | (go_simp; rfl)); intro gb318 hg w10 hbox hb; have n0_ := Aside0.mk (Kd.S_below (by (with_reducible repeat (first | apply Kd.S_alloc | apply Kd.S_drewN | apply Kd.S_drew)); exact HO_4.out) hb); have n1_ := Aside0.mk (blk_below (g := gb313) (o := .cells #[.int .u32 0, .int .u32 0, .slice none 0 0] 28 (0, 0)) (by (with_reducible repeat (first | refine blk_drewN ?_ _ | refine blk_drew ?_ | refine blk_alloc ?_ _)); exact BK313.out) hb); have n2_ := Aside0.mk (below_step (by repeat (first | (with_reducible first | exact HB.out | apply below_alloc | apply pw_below_drewN | apply below_drew1 | refine below_set ?_ GE313.out) | exact HB.out)) hb); have n3_ := Aside0.mk (hbox); have n4_ := Aside0.mk ((by rw [hg]; exact (below_size (by repeat (first | (with_reducible first | exact HB.out | apply below_alloc | apply pw_below_drewN | apply below_drew1 | refine below_set ?_ GE313.out) | exact HB.out))) : w.heap.size ≤ gb318)); have n5_ := Aside0.mk ((by rw [hg]; exact (below_size (by repeat (first | (with_reducible first | exact HB.out | apply below_alloc | apply pw_below_drewN | apply below_drew1 | refine below_set ?_ GE313.out) | exact HB.out))) : w.heap.size ≤ gb318)); have n6_ := Aside0.mk ((by rw [hg]; exact Nat.ne_of_lt (blk_lt (g := gb313) (o := .cells #[.int .u32 0, .int .u32 0, .slice none 0 0] 28 (0, 0)) (by (with_reducible repeat (first | refine blk_drewN ?_ _ | refine blk_drew ?_ | refine blk_alloc ?_ _)); exact BK313.out)) : gb313 ≠ gb318)); have n7_ := Aside0.mk ((by rw [hg]; exact Nat.ne_of_gt (blk_lt (g := gb313) (o := .cells #[.int .u32 0, .int .u32 0, .slice none 0 0] 28 (0, 0)) (by (with_reducible repeat (first | refine blk_drewN ?_ _ | refine blk_drew ?_ | refine blk_alloc ?_ _)); exact BK313.out)) : gb318 ≠ gb313)); clear HO_4; clear BK313; clear HB; have HO_4 := n0_; have BK313 := n1_; have HB := n2_; have BK318 := n3_; have GW318 := n4_; have GE318 := n5_; have NB313_318 := n6_; have NB318_313 := n7_; clear n0_ n1_ n2_ n3_ n4_ n5_ n6_ n7_; clear hb hbox hg))
        go_loopg [7] kj2 (fun kq v7 w' => ∃ (x7_2 : Int) (x314000_2 : Int) (x314001_2 : Int) (x319000_2 : Int) (x319001_2 : Int) (x319002_2 : List Int) (u319002 : Value), v7 = .int .i64 x7_2 ∧ Aside0 (spec_l2call.l0 kq t314 x7_2 x319000_2 x319001_2 x319002_2 = some (r1, r2, r3, r4)) ∧ Aside0 (kq ≤ kj2) ∧ Aside0 (Kd.S (Kd.slice 5 (Kd.int .u8)) 22 w' w.heap.size (fun _ => True) v316 t314) ∧ Aside0 (Kd.R (Kd.int .u64) 43 w' w.heap.size (fun _ => True) u319002 x319002_2) ∧ Aside0 (w'.heap[gb313]? = some (.cells #[.int .u32 x314000_2, .int .u32 x314001_2, (.slice none 0 0)] 28 (0, 0))) ∧ Aside0 (w'.heap[gb318]? = some (.cells #[.int .u32 x319000_2, .int .u32 x319001_2, u319002] 28 (0, 0))) ∧ Aside0 (Below w.heap.size w w'))
        case atStart => exact ⟨(0), (0), (0), (0), (0), (([] : List Int)), (.slice none 0 0), (by first | rfl | (simp; done) | (simp [*]; done)), H', ⟨Nat.le_refl _⟩, ⟨by (with_reducible repeat (first | apply Kd.S_alloc | apply Kd.S_drewN | apply Kd.S_drew)); exact HO_4.out⟩, ⟨by first | exact Kd.R_nil _ _ _ _ _ | exact Kd.N_nil _ _ _ _ _ | exact Kd.V_nil _ _ _ _ _ | exact Kd.Q_nil _ _ _ _ _ | exact Kd.S_nil _ _ _ _ _⟩, ⟨by (with_reducible repeat (first | refine blk_drewN ?_ _ | refine blk_drew ?_ | refine blk_alloc ?_ _)); exact BK313.out⟩, ⟨by (with_reducible repeat (first | refine blk_drewN ?_ _ | refine blk_drew ?_ | refine blk_alloc ?_ _)); exact BK318.out⟩, ⟨by repeat (first | (with_reducible first | exact HB.out | apply below_alloc | apply pw_below_drewN | apply below_drew1 | refine below_set ?_ GE313.out | refine below_set ?_ GE318.out) | exact HB.out)⟩⟩
        case round =>
          clear H'
          try clear p2
          try clear c3
          try clear c5
          try clear c6
          try clear c8
          try clear hcz9_0
          try clear hcz9_1
          try clear hcz9_2
          try clear hfz9_0
          try clear hfz9_1
          try clear hfz9_2
          try clear p2
          obtain ⟨x7_2, x314000_2, x314001_2, x319000_2, x319001_2, x319002_2, u319002, rfl, HA, HK2, HO_4, HO_319002, BK313, BK318, HB⟩ := hrel
          cases gk with
          | zero => exact absurd HA.out (by simp [spec_l2call.l0])
          | succ k2 =>
            have H := HA.out
            clear HA
            simp only [spec_l2call.l0] at H
            by_cases c11 : x7_2 < 8
            · rw [if_pos c11] at H
              have c11b0 : decide (x7_2 < 8) = true := decide_eq_true c11
              clear c11
              by_cases c12 : 0 ≤ x7_2
              · rw [if_pos c12] at H
                have c12b0 : decide (0 ≤ x7_2) = true := decide_eq_true c12
                clear c12
                by_cases c13 : x7_2 < (t314.length : Int)
                · rw [if_pos c13] at H
                  have c13b0 : decide (x7_2 < (t314.length : Int)) = true := decide_eq_true c13
                  clear c13
                  replace H := Option.bind_eq_some_iff.mp H
                  obtain ⟨⟨t320, t321⟩, A140, H⟩ := H
                  replace H : (if t321 = true then (if x7_2 < 2 then (spec_l2call.j2 k2 t314 x7_2 t320 (decide (t320 > 4294967295)) x319000_2 x319001_2 x319002_2) else (spec_l2call.j2 k2 t314 x7_2 t320 false x319000_2 x319001_2 x319002_2)) else (spec_l2call.j2 k2 t314 x7_2 t320 true x319000_2 x319001_2 x319002_2)) = some (r1, r2, r3, r4) := H
                  have A14 := Aside0.mk A140
                  clear A140
                  have HC15 := Aside0.mk H
                  clear H
                  obtain ⟨Ao16, co16, eo16⟩ := Kd.S_slice HO_4.out
                  subst eo16
                  have p319 : 0 ≤ (x7_2 : Int) := of_decide_eq_true (by first | (with_reducible assumption) | assumption)
                  have q319 : x7_2 < (t314.length : Int) := of_decide_eq_true (by first | (with_reducible assumption) | assumption)
                  obtain ⟨ad319, A319_0, c319_0, e319, hx319_0, hl319_0, hi319_0⟩ := at_L5 (Kd.S_reads' HO_4.out).2.2 x7_2 p319 q319
                  cases e319
                  obtain ⟨ce319, hce319, hMe319, hcc319⟩ := Kd.S_get HO_4.out [] x7_2 p319 (by first | exact q319 | exact of_decide_eq_true (by first | (with_reducible assumption) | assumption) | (have e_ := (Kd.S_reads' HO_4.out).1; omega))
                  obtain ⟨ve319_0, rfl, ge319_0⟩ := hMe319
                  have hv319_0 := hcc319 0 _ rfl
                  rw [Nat.add_zero, show ((Kd.slice 5 (Kd.int .u8))).sz = 1 from rfl, Nat.mul_one] at hv319_0
                  replace hv319_0 := Option.some.inj (hv319_0.symm.trans hx319_0)
                  rw [hv319_0] at ge319_0
                  have HL319_0 := Aside0.mk (show Kd.R (Kd.int .u8) 5 _ _ _ _ (rd_L5 t314 x7_2) from ge319_0)
                  clear hv319_0 ge319_0
                  clear hcc319 hce319
                  have HR319_0 := Aside0.mk hi319_0
                  have HC319_0 := Aside0.mk hl319_0
                  clear hi319_0 hl319_0
                  replace p319 := eq_true p319
                  replace q319 := eq_true q319
                  go_upto_region 9 with (first | ((with_reducible refine gate_callee (f := 54) rfl ?_); refine goesL_ (some 32) rfl rfl Tryd.func54 (by kernel_rfl) rfl #[.slice A319_0 (rd_L5 t314 x7_2).length c319_0] rfl (by (try simp only [List.map_toArray, List.map_cons, List.map_nil]); first | done | rfl | (simp only [List.length_drop, List.length_take]; rfl)) ?_; (with_reducible refine (spec_l2value.calls k2 _ _ (rd_L5 t314 x7_2) t320 t321 _ ?side1 ?side2 A14.out).mono ?_); (case side1 => repeat (first | exact (by repeat (first | (with_reducible exact HR319_0.out) | (with_reducible refine Kd.C_alloc ?_ _) | (with_reducible refine Kd.C_drewN ?_ _) | (with_reducible refine Kd.C_drew ?_) | exact HR319_0.out)) | (with_reducible refine Kd.C_alloc ?_ _) | (with_reducible refine Kd.C_drewN ?_ _) | (with_reducible refine Kd.C_drew ?_))); (case side2 => exact HC319_0.out); rintro e w17 ⟨rfl, hb⟩; refine ⟨_, rfl, ?_⟩; have n0_ := Aside0.mk (Kd.S_below (by (with_reducible repeat (first | apply Kd.S_alloc | apply Kd.S_drewN | apply Kd.S_drew)); exact HO_4.out) hb); have n1_ := Aside0.mk (Kd.R_below (by (with_reducible repeat (first | apply Kd.R_alloc | apply Kd.R_drewN | apply Kd.R_drew)); exact HO_319002.out) hb); have n2_ := Aside0.mk (Kd.R_below (by (with_reducible repeat (first | apply Kd.R_alloc | apply Kd.R_drewN | apply Kd.R_drew)); exact HL319_0.out) hb); have n3_ := Aside0.mk (blk_below (g := gb313) (o := .cells #[.int .u32 x314000_2, .int .u32 x314001_2, .slice none 0 0] 28 (0, 0)) (by (with_reducible repeat (first | refine blk_drewN ?_ _ | refine blk_drew ?_ | refine blk_alloc ?_ _)); exact BK313.out) hb); have n4_ := Aside0.mk (blk_below (g := gb318) (o := .cells #[.int .u32 x319000_2, .int .u32 x319001_2, u319002] 28 (0, 0)) (by (with_reducible repeat (first | refine blk_drewN ?_ _ | refine blk_drew ?_ | refine blk_alloc ?_ _)); exact BK318.out) hb); have n5_ := Aside0.mk (Kd.C_below (by repeat (first | (with_reducible exact HR319_0.out) | (with_reducible refine Kd.C_alloc ?_ _) | (with_reducible refine Kd.C_drewN ?_ _) | (with_reducible refine Kd.C_drew ?_) | exact HR319_0.out)) hb); have n6_ := Aside0.mk (below_step (by repeat (first | (with_reducible first | exact HB.out | apply below_alloc | apply pw_below_drewN | apply below_drew1 | refine below_set ?_ GE313.out | refine below_set ?_ GE318.out) | exact HB.out)) hb); clear HO_4; clear HO_319002; clear HL319_0; clear BK313; clear BK318; clear HR319_0; clear HB; have HO_4 := n0_; have HO_319002 := n1_; have HL319_0 := n2_; have BK313 := n3_; have BK318 := n4_; have HR319_0 := n5_; have HB := n6_; clear n0_ n1_ n2_ n3_ n4_ n5_ n6_; (try clear hb); (try clear hb2); (try clear hk); (try clear hi)))
                  (try simp only [Act.put, List.setIfInBounds_toArray, List.set_cons_zero, List.set_cons_succ])
                  go_cut [44] (fun v44 wc => ∃ (kq : Nat) (x44_14 : Bool), v44 = .bool x44_14 ∧ Aside0 (spec_l2call.j2 kq t314 x7_2 t320 x44_14 x319000_2 x319001_2 x319002_2 = some (r1, r2, r3, r4)) ∧ Aside0 (kq ≤ k2) ∧ Aside0 (Kd.S (Kd.slice 5 (Kd.int .u8)) 22 wc w.heap.size (fun _ => True) (.slice (some ad319) t314.length co16) t314) ∧ Aside0 (Kd.R (Kd.int .u64) 43 wc w.heap.size (fun _ => True) u319002 x319002_2) ∧ Aside0 (wc.heap[gb313]? = some (.cells #[.int .u32 x314000_2, .int .u32 x314001_2, (.slice none 0 0)] 28 (0, 0))) ∧ Aside0 (wc.heap[gb318]? = some (.cells #[.int .u32 x319000_2, .int .u32 x319001_2, u319002] 28 (0, 0))) ∧ Aside0 (Kd.C (Kd.int .u8) wc A319_0 (rd_L5 t314 x7_2).length (rd_L5 t314 x7_2)) ∧ Aside0 (Below w.heap.size w wc))
                  case first =>
                    have H := HC15.out
                    clear HC15
                    by_cases c18 : t321 = true
                    · subst c18
                      have H1 : (if x7_2 < 2 then (spec_l2call.j2 k2 t314 x7_2 t320 (decide (t320 > 4294967295)) x319000_2 x319001_2 x319002_2) else (spec_l2call.j2 k2 t314 x7_2 t320 false x319000_2 x319001_2 x319002_2)) = some (r1, r2, r3, r4) := by rw [if_pos rfl] at H; exact H
                      clear H
                      have H := H1
                      clear H1
                      by_cases c19 : x7_2 < 2
                      · rw [if_pos c19] at H
                        have c19b0 : decide (x7_2 < 2) = true := decide_eq_true c19
                        clear c19
                        (first | rw [c19b0] | (simp only [i64_w, i32_w]; rw [c19b0]) | skip)
                        have H' := Aside0.mk H
                        clear H
                        go_wp2
                        go_meet
                        case rel => exact ⟨_, (decide (t320 > 4294967295)), (by first | rfl | (simp; done) | (simp [*]; done)), H', ⟨by have := HJ2.out; have := HK2.out; first | omega | exact Nat.le_refl _⟩, ⟨by (with_reducible repeat (first | apply Kd.S_alloc | apply Kd.S_drewN | apply Kd.S_drew)); exact HO_4.out⟩, ⟨by (with_reducible repeat (first | apply Kd.R_alloc | apply Kd.R_drewN | apply Kd.R_drew)); exact HO_319002.out⟩, ⟨by (with_reducible repeat (first | refine blk_drewN ?_ _ | refine blk_drew ?_ | refine blk_alloc ?_ _)); exact BK313.out⟩, ⟨by (with_reducible repeat (first | refine blk_drewN ?_ _ | refine blk_drew ?_ | refine blk_alloc ?_ _)); exact BK318.out⟩, ⟨by repeat (first | (with_reducible exact HR319_0.out) | (with_reducible refine Kd.C_alloc ?_ _) | (with_reducible refine Kd.C_drewN ?_ _) | (with_reducible refine Kd.C_drew ?_) | exact HR319_0.out)⟩, ⟨by repeat (first | (with_reducible first | exact HB.out | apply below_alloc | apply pw_below_drewN | apply below_drew1 | refine below_set ?_ GE313.out | refine below_set ?_ GE318.out) | exact HB.out)⟩⟩
                      · rw [if_neg c19] at H
                        have c19b0 : decide (x7_2 < 2) = false := decide_eq_false c19
                        clear c19
                        (first | rw [c19b0] | (simp only [i64_w, i32_w]; rw [c19b0]) | skip)
                        have H' := Aside0.mk H
                        clear H
                        go_wp2
                        go_meet
                        case rel => exact ⟨_, (false), (by first | rfl | (simp; done) | (simp [*]; done)), H', ⟨by have := HJ2.out; have := HK2.out; first | omega | exact Nat.le_refl _⟩, ⟨by (with_reducible repeat (first | apply Kd.S_alloc | apply Kd.S_drewN | apply Kd.S_drew)); exact HO_4.out⟩, ⟨by (with_reducible repeat (first | apply Kd.R_alloc | apply Kd.R_drewN | apply Kd.R_drew)); exact HO_319002.out⟩, ⟨by (with_reducible repeat (first | refine blk_drewN ?_ _ | refine blk_drew ?_ | refine blk_alloc ?_ _)); exact BK313.out⟩, ⟨by (with_reducible repeat (first | refine blk_drewN ?_ _ | refine blk_drew ?_ | refine blk_alloc ?_ _)); exact BK318.out⟩, ⟨by repeat (first | (with_reducible exact HR319_0.out) | (with_reducible refine Kd.C_alloc ?_ _) | (with_reducible refine Kd.C_drewN ?_ _) | (with_reducible refine Kd.C_drew ?_) | exact HR319_0.out)⟩, ⟨by repeat (first | (with_reducible first | exact HB.out | apply below_alloc | apply pw_below_drewN | apply below_drew1 | refine below_set ?_ GE313.out | refine below_set ?_ GE318.out) | exact HB.out)⟩⟩
                    · replace c18 := Bool.eq_false_iff.mpr c18
                      subst c18
                      have H1 : (spec_l2call.j2 k2 t314 x7_2 t320 true x319000_2 x319001_2 x319002_2) = some (r1, r2, r3, r4) := by rw [if_neg (show ¬ (false = true) by decide)] at H; exact H
                      clear H
                      have H := H1
                      clear H1
                      have H' := Aside0.mk H
                      clear H
                      go_wp2
                      go_meet
                      case rel => exact ⟨_, (true), (by first | rfl | (simp; done) | (simp [*]; done)), H', ⟨by have := HJ2.out; have := HK2.out; first | omega | exact Nat.le_refl _⟩, ⟨by (with_reducible repeat (first | apply Kd.S_alloc | apply Kd.S_drewN | apply Kd.S_drew)); exact HO_4.out⟩, ⟨by (with_reducible repeat (first | apply Kd.R_alloc | apply Kd.R_drewN | apply Kd.R_drew)); exact HO_319002.out⟩, ⟨by (with_reducible repeat (first | refine blk_drewN ?_ _ | refine blk_drew ?_ | refine blk_alloc ?_ _)); exact BK313.out⟩, ⟨by (with_reducible repeat (first | refine blk_drewN ?_ _ | refine blk_drew ?_ | refine blk_alloc ?_ _)); exact BK318.out⟩, ⟨by repeat (first | (with_reducible exact HR319_0.out) | (with_reducible refine Kd.C_alloc ?_ _) | (with_reducible refine Kd.C_drewN ?_ _) | (with_reducible refine Kd.C_drew ?_) | exact HR319_0.out)⟩, ⟨by repeat (first | (with_reducible first | exact HB.out | apply below_alloc | apply pw_below_drewN | apply below_drew1 | refine below_set ?_ GE313.out | refine below_set ?_ GE318.out) | exact HB.out)⟩⟩
                  case rest =>
                    clear HC15
                    try clear c1
                    try clear p2
                    try clear c3
                    try clear p3
                    try clear q3
                    try clear hx3
                    try clear c5
                    try clear c6
                    try clear c8
                    try clear c11
                    try clear c11b0
                    try clear c12
                    try clear c12b0
                    try clear c13
                    try clear c13b0
                    try clear c18
                    try clear c19
                    try clear c19b0
                    try clear hcz9_0
                    try clear hcz9_1
                    try clear hcz9_2
                    try clear hfz9_0
                    try clear hfz9_1
                    try clear hfz9_2
                    try clear hx319_0
                    try clear p2
                    try clear p319
                    try clear q319
                    obtain ⟨kq, x44_14, rfl, HA, HJ14, HO_4, HO_319002, BK313, BK318, HR319_0, HB⟩ := hcut
                    cases kq with
                    | zero => exact absurd HA.out (by simp [spec_l2call.j2])
                    | succ kj14 =>
                      have H := HA.out
                      clear HA
                      simp only [spec_l2call.j2] at H
                      by_cases c20 : x44_14 = true
                      · subst c20
                        have H1 : (some (0, 0, ([] : List Int), false)) = some (r1, r2, r3, r4) := by rw [if_pos rfl] at H; exact H
                        clear H
                        have H := H1
                        clear H1
                        simp only [Option.some.injEq, Prod.mk.injEq] at H
                        obtain ⟨rfl, rfl, rfl, rfl⟩ := H
                        have hnb21 := NB313_318.out
                        have hnc21 := NB318_313.out
                        have hcz22_0 : wc.cell? ⟨gb313, 0, none⟩ = some (.int .u32 x314000_2) := (blk_cell BK313.out 0).trans rfl
                        have hcz22_1 : wc.cell? ⟨gb313, 1, none⟩ = some (.int .u32 x314001_2) := (blk_cell BK313.out 1).trans rfl
                        have hcz22_2 : wc.cell? ⟨gb313, 2, none⟩ = some (.slice none 0 0) := (blk_cell BK313.out 2).trans rfl
                        have hfz22_0 := blk_frozen BK313.out 0
                        have hfz22_1 := blk_frozen BK313.out 1
                        have hfz22_2 := blk_frozen BK313.out 2
                        go_wp2
                        refine bodyPost_ret (results_ct rfl _ _ gb313 28 #[.int .u32 0, .int .u32 0, .slice none 0 0] (0, 0) _ rfl (by (with_reducible repeat (first | refine blk_drewN ?_ _ | refine blk_drew ?_ | refine blk_alloc ?_ _)); refine blk_put (cs := #[.int .u32 0, .int .u32 0, .slice none 0 0]) ?_ 2 _ rfl; (with_reducible repeat (first | refine blk_drewN ?_ _ | refine blk_drew ?_ | refine blk_alloc ?_ _)); refine blk_put (cs := #[.int .u32 0, .int .u32 x314001_2, .slice none 0 0]) ?_ 1 _ rfl; (with_reducible repeat (first | refine blk_drewN ?_ _ | refine blk_drew ?_ | refine blk_alloc ?_ _)); refine blk_put (cs := #[.int .u32 x314000_2, .int .u32 x314001_2, .slice none 0 0]) ?_ 0 _ rfl; (with_reducible repeat (first | refine blk_drewN ?_ _ | refine blk_drew ?_ | refine blk_alloc ?_ _)); exact BK313.out) Tryd.underlying28 rfl (by kernel_rfl)) rfl ?_
                        exact ⟨_, by first | rfl | (simp [errW_none, errW_some] <;> rfl) | (simp [*, errW_none, errW_some] <;> rfl), by first | exact Kd.R_nil _ _ _ _ _ | exact Kd.N_nil _ _ _ _ _ | exact Kd.V_nil _ _ _ _ _ | exact Kd.Q_nil _ _ _ _ _ | exact Kd.S_nil _ _ _ _ _, by repeat (first | (with_reducible first | exact HB.out | apply below_alloc | apply pw_below_drewN | apply below_drew1 | refine below_set ?_ GE313.out | refine below_set ?_ GE318.out) | exact HB.out)⟩
                      · replace c20 := Bool.eq_false_iff.mpr c20
                        subst c20
                        have H1 : (if x7_2 = 0 then (spec_l2call.l0 kj14 t314 (wrap64 (x7_2 + 1)) ((t320) % 4294967296) x319001_2 x319002_2) else (if x7_2 = 1 then (spec_l2call.l0 kj14 t314 (wrap64 (x7_2 + 1)) x319000_2 ((t320) % 4294967296) x319002_2) else (if x319002_2.length < 17592186044416 then (spec_l2call.l0 kj14 t314 (wrap64 (x7_2 + 1)) x319000_2 x319001_2 (x319002_2 ++ [t320])) else (none)))) = some (r1, r2, r3, r4) := by rw [if_neg (show ¬ (false = true) by decide)] at H; exact H
                        clear H
                        have H := H1
                        clear H1
                        by_cases c23 : x7_2 = 0
                        · rw [if_pos c23] at H
                          have c23b0 : (x7_2 == 0) = true := beq_iff_eq.mpr c23
                          have c23b1 : (x7_2 != 0) = false := bne_eq_false_iff_eq.mpr c23
                          clear c23
                          have H' := Aside0.mk H
                          clear H
                          have hnb24 := NB318_313.out
                          have hnc24 := NB313_318.out
                          have hcz25_0 : wc.cell? ⟨gb318, 0, none⟩ = some (.int .u32 x319000_2) := (blk_cell BK318.out 0).trans rfl
                          have hcz25_1 : wc.cell? ⟨gb318, 1, none⟩ = some (.int .u32 x319001_2) := (blk_cell BK318.out 1).trans rfl
                          have hcz25_2 : wc.cell? ⟨gb318, 2, none⟩ = some (u319002) := (blk_cell BK318.out 2).trans rfl
                          have hfz25_0 := blk_frozen BK318.out 0
                          have hfz25_1 := blk_frozen BK318.out 1
                          have hfz25_2 := blk_frozen BK318.out 2
                          go_wp2
                          go_roundg kj14
                          case measure => have := HJ2.out; have := HK2.out; have := HJ14.out; omega
                          case rel => exact ⟨(wrap64 (x7_2 + 1)), (x314000_2), (x314001_2), ((t320) % 4294967296), (x319001_2), (x319002_2), (u319002), (by first | rfl | (simp; done) | (simp [*]; done)), H', ⟨by have := HJ2.out; have := HK2.out; have := HJ14.out; omega⟩, ⟨by (with_reducible repeat (first | apply Kd.S_alloc | apply Kd.S_drewN | apply Kd.S_drew)); exact Kd.S_mono (Kd.S_far (p := ⟨gb318, 0, none⟩) (Kd.S_types HO_4.out BK318.out (by decide)) (fun _ hk => hk.2) (.int .u32 ((t320) % 4294967296))) (fun _ hk => trivial)⟩, ⟨by (with_reducible repeat (first | apply Kd.R_alloc | apply Kd.R_drewN | apply Kd.R_drew)); exact Kd.R_mono (Kd.R_far (p := ⟨gb318, 0, none⟩) (Kd.R_types HO_319002.out BK318.out (by decide)) (fun _ hk => hk.2) (.int .u32 ((t320) % 4294967296))) (fun _ hk => trivial)⟩, ⟨by (with_reducible repeat (first | refine blk_drewN ?_ _ | refine blk_drew ?_ | refine blk_alloc ?_ _)); refine blk_far ?_ NB313_318.out _; (with_reducible repeat (first | refine blk_drewN ?_ _ | refine blk_drew ?_ | refine blk_alloc ?_ _)); exact BK313.out⟩, ⟨by (with_reducible repeat (first | refine blk_drewN ?_ _ | refine blk_drew ?_ | refine blk_alloc ?_ _)); refine blk_put (cs := #[.int .u32 x319000_2, .int .u32 x319001_2, u319002]) ?_ 0 _ rfl; (with_reducible repeat (first | refine blk_drewN ?_ _ | refine blk_drew ?_ | refine blk_alloc ?_ _)); exact BK318.out⟩, ⟨by repeat (first | (with_reducible first | exact HB.out | apply below_alloc | apply pw_below_drewN | apply below_drew1 | refine below_set ?_ GE313.out | refine below_set ?_ GE318.out) | exact HB.out)⟩⟩
                        · rw [if_neg c23] at H
                          have c23b0 : (x7_2 == 0) = false := beq_eq_false_iff_ne.mpr c23
                          have c23b1 : (x7_2 != 0) = true := bne_iff_ne.mpr c23
                          by_cases c26 : x7_2 = 1
                          · rw [if_pos c26] at H
                            have c26b0 : (x7_2 == 1) = true := beq_iff_eq.mpr c26
                            have c26b1 : (x7_2 != 1) = false := bne_eq_false_iff_eq.mpr c26
                            clear c26
                            have H' := Aside0.mk H
                            clear H
                            have hnb27 := NB318_313.out
                            have hnc27 := NB313_318.out
                            have hcz28_0 : wc.cell? ⟨gb318, 0, none⟩ = some (.int .u32 x319000_2) := (blk_cell BK318.out 0).trans rfl
                            have hcz28_1 : wc.cell? ⟨gb318, 1, none⟩ = some (.int .u32 x319001_2) := (blk_cell BK318.out 1).trans rfl
                            have hcz28_2 : wc.cell? ⟨gb318, 2, none⟩ = some (u319002) := (blk_cell BK318.out 2).trans rfl
                            have hfz28_0 := blk_frozen BK318.out 0
                            have hfz28_1 := blk_frozen BK318.out 1
                            have hfz28_2 := blk_frozen BK318.out 2
                            go_wp2
                            go_roundg kj14
                            case measure => have := HJ2.out; have := HK2.out; have := HJ14.out; omega
                            case rel => exact ⟨(wrap64 (x7_2 + 1)), (x314000_2), (x314001_2), (x319000_2), ((t320) % 4294967296), (x319002_2), (u319002), (by first | rfl | (simp; done) | (simp [*]; done)), H', ⟨by have := HJ2.out; have := HK2.out; have := HJ14.out; omega⟩, ⟨by (with_reducible repeat (first | apply Kd.S_alloc | apply Kd.S_drewN | apply Kd.S_drew)); exact Kd.S_mono (Kd.S_far (p := ⟨gb318, 1, none⟩) (Kd.S_types HO_4.out BK318.out (by decide)) (fun _ hk => hk.2) (.int .u32 ((t320) % 4294967296))) (fun _ hk => trivial)⟩, ⟨by (with_reducible repeat (first | apply Kd.R_alloc | apply Kd.R_drewN | apply Kd.R_drew)); exact Kd.R_mono (Kd.R_far (p := ⟨gb318, 1, none⟩) (Kd.R_types HO_319002.out BK318.out (by decide)) (fun _ hk => hk.2) (.int .u32 ((t320) % 4294967296))) (fun _ hk => trivial)⟩, ⟨by (with_reducible repeat (first | refine blk_drewN ?_ _ | refine blk_drew ?_ | refine blk_alloc ?_ _)); refine blk_far ?_ NB313_318.out _; (with_reducible repeat (first | refine blk_drewN ?_ _ | refine blk_drew ?_ | refine blk_alloc ?_ _)); exact BK313.out⟩, ⟨by (with_reducible repeat (first | refine blk_drewN ?_ _ | refine blk_drew ?_ | refine blk_alloc ?_ _)); refine blk_put (cs := #[.int .u32 x319000_2, .int .u32 x319001_2, u319002]) ?_ 1 _ rfl; (with_reducible repeat (first | refine blk_drewN ?_ _ | refine blk_drew ?_ | refine blk_alloc ?_ _)); exact BK318.out⟩, ⟨by repeat (first | (with_reducible first | exact HB.out | apply below_alloc | apply pw_below_drewN | apply below_drew1 | refine below_set ?_ GE313.out | refine below_set ?_ GE318.out) | exact HB.out)⟩⟩
                          · rw [if_neg c26] at H
                            have c26b0 : (x7_2 == 1) = false := beq_eq_false_iff_ne.mpr c26
                            have c26b1 : (x7_2 != 1) = true := bne_iff_ne.mpr c26
                            by_cases c29 : x319002_2.length < 17592186044416
                            · rw [if_pos c29] at H
                              have LMc29 := Aside0.mk c29
                              clear c29
                              obtain ⟨y322, hy322⟩ : ∃ y_ : List Int, y_ = (x319002_2 ++ [t320]) := ⟨_, rfl⟩
                              replace H : (spec_l2call.l0 kj14 t314 (wrap64 (x7_2 + 1)) x319000_2 x319001_2 y322) = some (r1, r2, r3, r4) := by first | (rw [hy322]; with_reducible exact H) | (have H2_ := (Option.bind_some _ _).symm.trans H; rw [hy322]; with_reducible exact H2_) | (have H2_ := (Option.bind_some _ _).symm.trans H; with_reducible exact H2_) | with_reducible exact H | (rw [hy322]; exact H) | exact H
                              have Ny322 := Aside0.mk hy322
                              clear hy322
                              have H' := Aside0.mk H
                              clear H
                              have hnb30 := NB318_313.out
                              have hnc30 := NB313_318.out
                              have hcz31_0 : wc.cell? ⟨gb318, 0, none⟩ = some (.int .u32 x319000_2) := (blk_cell BK318.out 0).trans rfl
                              have hcz31_1 : wc.cell? ⟨gb318, 1, none⟩ = some (.int .u32 x319001_2) := (blk_cell BK318.out 1).trans rfl
                              have hcz31_2 : wc.cell? ⟨gb318, 2, none⟩ = some (u319002) := (blk_cell BK318.out 2).trans rfl
                              have hfz31_0 := blk_frozen BK318.out 0
                              have hfz31_1 := blk_frozen BK318.out 1
                              have hfz31_2 := blk_frozen BK318.out 2
                              go_wp2_with (first | ((with_reducible refine gate_builtin (b := .append) (xs := #[.tmp 57, .tmp 59]) rfl ?_); (try (refine gate_guard (by rfl) ?_; dsimp only)); at_builtin; refine Kd.R_append (Kd.int .u64) (w0 := w) w.heap.size rfl (.tmp 57) (.tmp 59) 26 43 (.int .u64 0) 8 rfl Tryd.underlying26 info43 rfl (by decide) (by omega) u319002 x319002_2 t320 [.int .u64 t320] (fun _ => True) (fun _ => False) rfl rfl ?aP (fun _ hk => hk.elim) ?aF ?aO ?aB ?aS ?aL ?_; (case aP => exact rfl); (case aB => exact (by repeat (first | (with_reducible first | exact HB.out | apply below_alloc | apply pw_below_drewN | apply below_drew1 | refine below_set ?_ GE313.out | refine below_set ?_ GE318.out) | exact HB.out))); (case aF => exact (fun _ _ => trivial)); (case aO => exact (by (with_reducible repeat (first | apply Kd.R_alloc | apply Kd.R_drewN | apply Kd.R_drew)); exact HO_319002.out)); (case aS => exact (below_size (by repeat (first | (with_reducible first | exact HB.out | apply below_alloc | apply pw_below_drewN | apply below_drew1 | refine below_set ?_ GE313.out | refine below_set ?_ GE318.out) | exact HB.out)))); (case aL => have := LMc29.out; omega); intro v323 w32 ho hb hg hat; rw [← Ny322.out] at ho; have n0_ := Aside0.mk (Kd.S_over' (by (with_reducible repeat (first | apply Kd.S_alloc | apply Kd.S_drewN | apply Kd.S_drew)); exact HO_4.out) (Kd.R_typed (by (with_reducible repeat (first | apply Kd.R_alloc | apply Kd.R_drewN | apply Kd.R_drew)); exact HO_319002.out)) (by decide) hg); have n1_ := Aside0.mk (blk_grown (g := gb313) (o := .cells #[.int .u32 x314000_2, .int .u32 x314001_2, .slice none 0 0] 28 (0, 0)) (by (with_reducible repeat (first | refine blk_drewN ?_ _ | refine blk_drew ?_ | refine blk_alloc ?_ _)); exact BK313.out) hg (Kd.R_ne HO_319002.out BK313.out (by decide))); have n2_ := Aside0.mk (blk_grown (g := gb318) (o := .cells #[.int .u32 x319000_2, .int .u32 x319001_2, u319002] 28 (0, 0)) (by (with_reducible repeat (first | refine blk_drewN ?_ _ | refine blk_drew ?_ | refine blk_alloc ?_ _)); exact BK318.out) hg (Kd.R_ne HO_319002.out BK318.out (by decide))); have n3_ := Aside0.mk (hb); have n4_ := Aside0.mk (ho); clear HO_4; clear BK313; clear BK318; clear HB; clear HO_319002; have HO_4 := n0_; have BK313 := n1_; have BK318 := n2_; have HB := n3_; have HO324 := n4_; clear n0_ n1_ n2_ n3_ n4_; clear ho hb hg hat; obtain ⟨Ao33, co33, eo33⟩ := Kd.R_slice HO324.out; subst eo33; have hcz34_0 : w32.cell? ⟨gb318, 0, none⟩ = some (.int .u32 x319000_2) := (blk_cell BK318.out 0).trans rfl; have hcz34_1 : w32.cell? ⟨gb318, 1, none⟩ = some (.int .u32 x319001_2) := (blk_cell BK318.out 1).trans rfl; have hcz34_2 : w32.cell? ⟨gb318, 2, none⟩ = some (u319002) := (blk_cell BK318.out 2).trans rfl; have hfz34_0 := blk_frozen BK318.out 0; have hfz34_1 := blk_frozen BK318.out 1; have hfz34_2 := blk_frozen BK318.out 2))
                              go_roundg kj14
                              case measure => have := HJ2.out; have := HK2.out; have := HJ14.out; omega
                              case rel => exact ⟨(wrap64 (x7_2 + 1)), (x314000_2), (x314001_2), (x319000_2), (x319001_2), (y322), (.slice Ao33 y322.length co33), (by first | rfl | (simp; done) | (simp [*]; done)), H', ⟨by have := HJ2.out; have := HK2.out; have := HJ14.out; omega⟩, ⟨by (with_reducible repeat (first | apply Kd.S_alloc | apply Kd.S_drewN | apply Kd.S_drew)); exact Kd.S_mono (Kd.S_far (p := ⟨gb318, 2, none⟩) (Kd.S_types HO_4.out BK318.out (by decide)) (fun _ hk => hk.2) (.slice Ao33 y322.length co33)) (fun _ hk => trivial)⟩, ⟨by (with_reducible repeat (first | apply Kd.R_alloc | apply Kd.R_drewN | apply Kd.R_drew)); exact Kd.R_mono (Kd.R_far (p := ⟨gb318, 2, none⟩) (Kd.R_types HO324.out BK318.out (by decide)) (fun _ hk => hk.2) (.slice Ao33 y322.length co33)) (fun _ hk => trivial)⟩, ⟨by (with_reducible repeat (first | refine blk_drewN ?_ _ | refine blk_drew ?_ | refine blk_alloc ?_ _)); refine blk_far ?_ NB313_318.out _; (with_reducible repeat (first | refine blk_drewN ?_ _ | refine blk_drew ?_ | refine blk_alloc ?_ _)); exact BK313.out⟩, ⟨by (with_reducible repeat (first | refine blk_drewN ?_ _ | refine blk_drew ?_ | refine blk_alloc ?_ _)); refine blk_put (cs := #[.int .u32 x319000_2, .int .u32 x319001_2, u319002]) ?_ 2 _ rfl; (with_reducible repeat (first | refine blk_drewN ?_ _ | refine blk_drew ?_ | refine blk_alloc ?_ _)); exact BK318.out⟩, ⟨by repeat (first | (with_reducible first | exact HB.out | apply below_alloc | apply pw_below_drewN | apply below_drew1 | refine below_set ?_ GE313.out | refine below_set ?_ GE318.out) | exact HB.out)⟩⟩
                            · rw [if_neg c29] at H
                              exact absurd H (by simp)
                · rw [if_neg c13] at H
                  exact absurd H (by simp)
              · rw [if_neg c12] at H
                exact absurd H (by simp)
            · rw [if_neg c11] at H
              have c11b0 : decide (x7_2 < 8) = false := decide_eq_false c11
              clear c11
              simp only [Option.some.injEq, Prod.mk.injEq] at H
              obtain ⟨rfl, rfl, rfl, rfl⟩ := H
              have hnb35 := NB318_313.out
              have hnc35 := NB313_318.out
              have hcz36_0 : wr.cell? ⟨gb318, 0, none⟩ = some (.int .u32 x319000_2) := (blk_cell BK318.out 0).trans rfl
              have hcz36_1 : wr.cell? ⟨gb318, 1, none⟩ = some (.int .u32 x319001_2) := (blk_cell BK318.out 1).trans rfl
              have hcz36_2 : wr.cell? ⟨gb318, 2, none⟩ = some (u319002) := (blk_cell BK318.out 2).trans rfl
              have hfz36_0 := blk_frozen BK318.out 0
              have hfz36_1 := blk_frozen BK318.out 1
              have hfz36_2 := blk_frozen BK318.out 2
              have hcz37_0 : wr.cell? ⟨gb313, 0, none⟩ = some (.int .u32 x314000_2) := (blk_cell BK313.out 0).trans rfl
              have hcz37_1 : wr.cell? ⟨gb313, 1, none⟩ = some (.int .u32 x314001_2) := (blk_cell BK313.out 1).trans rfl
              have hcz37_2 : wr.cell? ⟨gb313, 2, none⟩ = some (.slice none 0 0) := (blk_cell BK313.out 2).trans rfl
              have hfz37_0 := blk_frozen BK313.out 0
              have hfz37_1 := blk_frozen BK313.out 1
              have hfz37_2 := blk_frozen BK313.out 2
              obtain ⟨Ao38, co38, eo38⟩ := Kd.R_slice HO_319002.out
              subst eo38
              go_wp2
              refine bodyPost_ret (results_ct rfl _ _ gb313 28 #[.int .u32 x319000_2, .int .u32 x319001_2, .slice Ao38 x319002_2.length co38] (0, 0) _ rfl (by (with_reducible repeat (first | refine blk_drewN ?_ _ | refine blk_drew ?_ | refine blk_alloc ?_ _)); refine blk_put (cs := #[.int .u32 x319000_2, .int .u32 x319001_2, .slice none 0 0]) ?_ 2 _ rfl; (with_reducible repeat (first | refine blk_drewN ?_ _ | refine blk_drew ?_ | refine blk_alloc ?_ _)); refine blk_put (cs := #[.int .u32 x319000_2, .int .u32 x314001_2, .slice none 0 0]) ?_ 1 _ rfl; (with_reducible repeat (first | refine blk_drewN ?_ _ | refine blk_drew ?_ | refine blk_alloc ?_ _)); refine blk_put (cs := #[.int .u32 x314000_2, .int .u32 x314001_2, .slice none 0 0]) ?_ 0 _ rfl; (with_reducible repeat (first | refine blk_drewN ?_ _ | refine blk_drew ?_ | refine blk_alloc ?_ _)); exact BK313.out) Tryd.underlying28 rfl (by kernel_rfl)) rfl ?_
              exact ⟨_, by first | rfl | (simp [errW_none, errW_some] <;> rfl) | (simp [*, errW_none, errW_some] <;> rfl), by (with_reducible repeat (first | apply Kd.R_alloc | apply Kd.R_drewN | apply Kd.R_drew)); exact Kd.R_mono (Kd.R_far (p := ⟨gb313, 2, none⟩) (Kd.R_far (p := ⟨gb313, 1, none⟩) (Kd.R_far (p := ⟨gb313, 0, none⟩) (Kd.R_types HO_319002.out BK313.out (by decide)) (fun _ hk => hk.2) (.int .u32 x319000_2)) (fun _ hk => hk.2) (.int .u32 x319001_2)) (fun _ hk => hk.2) (.slice Ao38 x319002_2.length co38)) (fun _ hk => trivial), by repeat (first | (with_reducible first | exact HB.out | apply below_alloc | apply pw_below_drewN | apply below_drew1 | refine below_set ?_ GE313.out | refine below_set ?_ GE318.out) | exact HB.out)⟩

end Go.Proofs.YtjpjfkmnfppgkaaDoor.P
