import Derived.Test.YtjpjfkmnfppgkaaDoorGFnCalls5
import Derived.Test.YtjpjfkmnfppgkaaDoorGFnCalls7
import Derived.Test.YtjpjfkmnfppgkaaDoorGFnCalls11
import Derived.Laws.Strings
import Derived.Handy
import Derived.WalkSmall
namespace Go.Proofs.YtjpjfkmnfppgkaaDoor.P
open Go.RowKit Go.Proofs.YtjpjfkmnfppgkaaDoorW.PrintWords Go.Proofs.YtjpjfkmnfppgkaaDoorW.PrintLast Go.Proofs.YtjpjfkmnfppgkaaDoorW.PrintMore
attribute [local go_sem] max2_int min2_int max_two min_two max_three min_three max_four min_four   -- for this text's walks alone
set_option linter.unusedVariables false
set_option linter.unusedSimpArgs false

/-! ### spec_l2cut: function 53 -/
def spec_l2cut.l0 : Nat → List Int → List (List Int) → List Int → Int → Option ((List (List Int)) × Bool)
  | 0, _, _, _, _ => none
  | k + 1, x0, x4, x5, x6 => if x6 < (x0.length : Int) then (if 0 ≤ x6 then (if x5.length < 140737488355328 then ((some (x5 ++ [rd x0 x6] : List Int)).bind fun y289 => (if (rd x0 x6) < 128 then (if x4.length < 5864062014805 then (spec_l2cut.l0 k x0 (x4 ++ [y289]) ([] : List Int) (wrap64 (x6 + 1))) else (none)) else (spec_l2cut.l0 k x0 x4 y289 (wrap64 (x6 + 1))))) else (none)) else (none)) else (some (x4, ((x5.length : Int) == 0)))
def spec_l2cut.f (k : Nat) (l0 : List Int) : Option ((List (List Int)) × Bool) := spec_l2cut.l0 k l0 ([] : List (List Int)) ([] : List Int) 0
end Go.Proofs.YtjpjfkmnfppgkaaDoor.P

namespace Go.Proofs.YtjpjfkmnfppgkaaDoor.P
open Go.RowKit Go.Proofs.YtjpjfkmnfppgkaaDoorW.PrintWords Go.Proofs.YtjpjfkmnfppgkaaDoorW.PrintLast Go.Proofs.YtjpjfkmnfppgkaaDoorW.PrintMore
attribute [local go_sem] max2_int min2_int max_two min_two max_three min_three max_four min_four   -- for this text's walks alone
set_option linter.unusedVariables false
set_option linter.unusedSimpArgs false

/-! ### spec_l2value: function 54 -/
def spec_l2value.l0 : Nat → List Int → Int → Int → Option (Int × Bool)
  | 0, _, _, _ => none
  | k + 1, x0, x4, x5 => if x5 ≥ 0 then (if 0 ≤ x5 then (if x5 < (x0.length : Int) then (spec_l2value.l0 k x0 (IntKind.u64.wrap ((IntKind.u64.wrap (x4 * 128)) + (IntKind.u64.wrap (Int.tmod (rd x0 x5) 128)))) (wrap64 (x5 - 1))) else (none)) else (none)) else ((spec_l2var.f k x4).bind fun t309 => (if (strOfNums t309).toList = (strOfNums x0).toList then (some (x4, true)) else (some (0, false))))
def spec_l2value.f (k : Nat) (l0 : List Int) : Option (Int × Bool) := if (l0.length : Int) > 10 then (some (0, false)) else (spec_l2value.l0 k l0 0 (wrap64 ((l0.length : Int) - 1)))
end Go.Proofs.YtjpjfkmnfppgkaaDoor.P

namespace Go.Proofs.YtjpjfkmnfppgkaaDoor.P
open Go.RowKit Go.Proofs.YtjpjfkmnfppgkaaDoorW.PrintWords Go.Proofs.YtjpjfkmnfppgkaaDoorW.PrintLast Go.Proofs.YtjpjfkmnfppgkaaDoorW.PrintMore
set_option linter.unusedVariables false
set_option linter.unusedSimpArgs false
/-! The pieces of a body, each ending at a byte below 128. -/
def cutP : List Int → List Int → List (List Int) × Bool
  | cur, [] => ([], decide (cur.length = 0))
  | cur, c :: r => if c < 128 then ((cur ++ [c]) :: (cutP [] r).1, (cutP [] r).2) else cutP (cur ++ [c]) r
def firstP : List Int → List Int → Option (List Int × List Int)
  | cur, [] => none
  | cur, c :: r => if c < 128 then some (cur ++ [c], r) else firstP (cur ++ [c]) r
theorem cutP_first : ∀ (b cur : List Int), cutP cur b = (match firstP cur b with | none => ([], decide ((cur ++ b).length = 0)) | some t => (t.1 :: (cutP [] t.2).1, (cutP [] t.2).2))
  | [], cur => by simp only [cutP, firstP, List.append_nil]
  | c :: r, cur => by
    rw [cutP, firstP]
    by_cases h : c < 128
    · rw [if_pos h, if_pos h]
    · rw [if_neg h, if_neg h, cutP_first r (cur ++ [c]), List.append_assoc]
      rfl
theorem firstP_mem : ∀ (b cur : List Int) (t : List Int × List Int), firstP cur b = some t → ∀ x ∈ t.2, x ∈ b
  | [], cur, t, h => by simp [firstP] at h
  | c :: r, cur, t, h => by
    unfold firstP at h
    by_cases g : c < 128
    · rw [if_pos g] at h
      cases h
      exact fun x hx => List.mem_cons_of_mem _ hx
    · rw [if_neg g] at h
      exact fun x hx => List.mem_cons_of_mem _ (firstP_mem r _ t h x hx)
/-! One piece: the value that it tells. -/
theorem varF_last : ∀ (n : Nat) (v : Int), 1 ≤ v → ∃ a c, varF n v = a ++ [c] ∧ c ≠ 0
  | 0, v, h => ⟨[], v, rfl, by omega⟩
  | n + 1, v, h => by
    unfold varF
    by_cases c : v < 128
    · rw [if_pos c]; exact ⟨[], v, rfl, by omega⟩
    · rw [if_neg c]
      obtain ⟨a, d, e, hd⟩ := varF_last n (v / 128) (by omega)
      rw [e]
      exact ⟨(v % 128 + 128) :: a, d, rfl, hd⟩
theorem valB_varF : ∀ (n : Nat) (v : Int), 0 ≤ v → v < 128 ^ (n + 1) → valB (varF n v) = v
  | 0, v, h0, h1 => by
    have : (128 : Int) ^ (0 + 1) = 128 := by decide
    simp only [varF, valB]; omega
  | n + 1, v, h0, h1 => by
    unfold varF
    by_cases c : v < 128
    · rw [if_pos c]; simp only [valB]; omega
    · rw [if_neg c, valB, valB_varF n (v / 128) (by omega) (by rw [Int.pow_succ] at h1; omega)]; omega
theorem valB_pos : ∀ (one : List Int) (c : Int), 1 ≤ c → c < 128 → 1 ≤ valB (one ++ [c])
  | [], c, h0, h1 => by simp only [List.nil_append, valB]; omega
  | b :: r, c, h0, h1 => by
    have := valB_pos r c h0 h1
    simp only [List.cons_append, valB]
    omega
theorem varF_valB : ∀ (one : List Int) (c : Int) (n : Nat), one.length ≤ n → (∀ x ∈ one, 128 ≤ x ∧ x < 256) → 1 ≤ c → c < 128 → varF n (valB (one ++ [c])) = one ++ [c]
  | [], c, n, hn, ho, h0, h1 => by
    have e : valB ([] ++ [c]) = c := by simp only [List.nil_append, valB]; omega
    rw [e]
    cases n with
    | zero => rfl
    | succ n => unfold varF; rw [if_pos h1]; rfl
  | b :: r, c, n, hn, ho, h0, h1 => by
    obtain ⟨m, rfl⟩ : ∃ m, n = m + 1 := ⟨n - 1, by rw [List.length_cons] at hn; omega⟩
    rw [List.length_cons] at hn
    have hb := ho b (List.mem_cons_self ..)
    have hp := valB_pos r c h0 h1
    have ih := varF_valB r c m (by omega) (fun x hx => ho x (List.mem_cons_of_mem _ hx)) h0 h1
    have e : valB (b :: r ++ [c]) = b % 128 + 128 * valB (r ++ [c]) := rfl
    rw [e]
    generalize hg : valB (r ++ [c]) = g at hp ih ⊢
    unfold varF
    rw [if_neg (by omega), show (b % 128 + 128 * g) % 128 + 128 = b by omega, show (b % 128 + 128 * g) / 128 = g by omega, ih]
    rfl
def okP (p : List Int) : Prop := p.length ≤ 10 ∧ valB p < 18446744073709551616 ∧ varB (valB p) = p
instance (p : List Int) : Decidable (okP p) := by unfold okP; infer_instance
theorem val9 (one : List Int) (c : Int) (h : one.length = 9) (h0 : 0 ≤ c) (h1 : c < 128) : valB (one ++ [c]) < 18446744073709551616 ↔ c ≤ 1 := by
  have hv := valB_range one
  rw [h] at hv
  rw [valB_snoc, h]
  have e : (128 : Int) ^ 9 = 9223372036854775808 := by decide
  rw [e] at hv ⊢
  generalize valB one = g at hv ⊢
  omega
theorem val8 (one : List Int) (c : Int) (h : one.length ≤ 8) : valB (one ++ [c]) < 18446744073709551616 := by
  have hv := (valB_range (one ++ [c])).2
  have hl : (one ++ [c]).length ≤ 9 := by rw [List.length_append, List.length_singleton]; omega
  have : (128 : Int) ^ (one ++ [c]).length ≤ 128 ^ 9 := by exact_mod_cast Nat.pow_le_pow_right (n := 128) (by decide) hl
  have e : (128 : Int) ^ 9 = 9223372036854775808 := by decide
  rw [e] at this
  exact Int.lt_of_lt_of_le hv (Int.le_trans this (by decide))
theorem okP_iff (one : List Int) (c : Int) (h9 : one.length ≤ 9) (ho : ∀ x ∈ one, 128 ≤ x ∧ x < 256) (h0 : 0 ≤ c) (h1 : c < 128) : okP (one ++ [c]) ↔ (one.length = 9 → c ≤ 1) ∧ (c ≠ 0 ∨ one.length = 0) := by
  have hlen : (one ++ [c]).length = one.length + 1 := by rw [List.length_append, List.length_singleton]
  have hlt : valB (one ++ [c]) < 18446744073709551616 ↔ (one.length = 9 → c ≤ 1) := by
    by_cases e : one.length = 9
    · rw [val9 one c e h0 h1]; exact ⟨fun h _ => h, fun h => h e⟩
    · exact ⟨fun _ h => absurd h e, fun _ => val8 one c (by omega)⟩
  have hvar : varB (valB (one ++ [c])) = one ++ [c] ↔ (c ≠ 0 ∨ one.length = 0) := by
    by_cases e : c = 0
    · subst e
      by_cases e2 : one.length = 0
      · have : one = [] := List.length_eq_zero_iff.1 e2
        subst this
        exact ⟨fun _ => Or.inr rfl, fun _ => by decide⟩
      · refine ⟨fun h => ?_, fun h => by omega⟩
        exfalso
        by_cases g : 1 ≤ valB (one ++ [0])
        · obtain ⟨a, d, h2, hd⟩ := varF_last 9 _ g
          unfold varB at h
          rw [h] at h2
          have := (List.append_inj' h2 rfl).2
          simp only [List.cons.injEq, and_true] at this
          exact hd this.symm
        · have hr := (valB_range (one ++ [0])).1
          have e0 : valB (one ++ [0]) = 0 := by omega
          rw [e0] at h
          have h3 := congrArg List.length h
          rw [hlen, show (varB 0).length = 1 by decide] at h3
          omega
    · exact ⟨fun _ => Or.inl e, fun _ => varF_valB one c 9 h9 ho (by omega) h1⟩
  unfold okP
  rw [hlen, hlt, hvar]
  exact ⟨fun h => h.2, fun h => ⟨by omega, h⟩⟩
theorem okP_long (p : List Int) (h : 10 < p.length) : ¬ okP p := fun hp => by have := hp.1; omega
theorem firstP_long : ∀ (b cur : List Int) (t : List Int × List Int), firstP cur b = some t → cur.length < t.1.length
  | [], cur, t, h => by simp [firstP] at h
  | c :: r, cur, t, h => by
    unfold firstP at h
    by_cases g : c < 128
    · rw [if_pos g] at h
      cases h
      rw [List.length_append, List.length_singleton]; omega
    · rw [if_neg g] at h
      have := firstP_long r _ t h
      rw [List.length_append, List.length_singleton] at this
      omega
theorem numG_first : ∀ (rem one : List Int), (∀ x ∈ one, 128 ≤ x ∧ x < 256) → one.length ≤ 9 → (∀ x ∈ rem, 0 ≤ x ∧ x < 256) →
    (match firstP one rem with | none => (numG one rem).2.2 = false | some t => if okP t.1 then numG one rem = (valB t.1, t.2, true) else (numG one rem).2.2 = false)
  | [], one, ho, h9, hr => by simp only [firstP, numG]
  | c :: r, one, ho, h9, hr => by
    have hc := hr c (List.mem_cons_self ..)
    have hr2 : ∀ x ∈ r, 0 ≤ x ∧ x < 256 := fun x hx => hr x (List.mem_cons_of_mem _ hx)
    unfold firstP numG
    by_cases g : c < 128
    · rw [if_pos g]
      dsimp only
      have hk := okP_iff one c h9 ho hc.1 g
      by_cases c9 : one.length = 9 ∧ c > 1
      · rw [if_pos c9, if_neg (fun h => by have := (hk.1 h).1 c9.1; omega)]
      · rw [if_neg c9, if_pos g]
        by_cases q : c ≠ 0 ∨ one.length = 0
        · rw [if_pos (hk.2 ⟨fun h => by omega, q⟩), decide_eq_true q]
        · rw [if_neg (fun h => q (hk.1 h).2), decide_eq_false q]
    · rw [if_neg g]
      by_cases c9 : one.length = 9 ∧ c > 1
      · rw [if_pos c9]
        cases hf : firstP (one ++ [c]) r with
        | none => rfl
        | some t =>
          have hl := firstP_long r _ t hf
          rw [List.length_append, List.length_singleton] at hl
          dsimp only
          rw [if_neg (okP_long t.1 (by omega))]
      · rw [if_neg c9, if_neg g]
        refine numG_first r (one ++ [c]) ?_ (numX one c h9 (fun h => by omega) g) hr2
        intro x hx
        rcases List.mem_append.1 hx with h | h
        · exact ho x h
        · rw [List.mem_singleton] at h; subst h; omega
/-! Bytes as text. -/
end Go.Proofs.YtjpjfkmnfppgkaaDoor.P

namespace Go.Proofs.YtjpjfkmnfppgkaaDoor.P
open Go.RowKit Go.Proofs.YtjpjfkmnfppgkaaDoorW.PrintWords Go.Proofs.YtjpjfkmnfppgkaaDoorW.PrintLast Go.Proofs.YtjpjfkmnfppgkaaDoorW.PrintMore
attribute [local go_sem] max2_int min2_int max_two min_two max_three min_three max_four min_four   -- for this text's walks alone
set_option linter.unusedVariables false
set_option linter.unusedSimpArgs false

/-! ### spec_l2call: function 33 -/
mutual
def spec_l2call.j0 : Nat → List (List Int) → Bool → Option (Int × Int × List Int × Bool)
  | 0, _, _ => none
  | k + 1, x4, x21 => if x21 = true then (some (0, 0, ([] : List Int), false)) else (spec_l2call.l0 k x4 0 0 0 ([] : List Int))
def spec_l2call.l0 : Nat → List (List Int) → Int → Int → Int → List Int → Option (Int × Int × List Int × Bool)
  | 0, _, _, _, _, _ => none
  | k + 1, x4, x7, x318000, x318001, x318002 => if x7 < 8 then (if 0 ≤ x7 then (if x7 < (x4.length : Int) then ((spec_l2value.f k (rd_L5 x4 x7)).bind fun bt319 => (if bt319.2 = true then (if x7 < 2 then (spec_l2call.j2 k x4 x7 bt319.1 (decide (bt319.1 > 4294967295)) x318000 x318001 x318002) else (spec_l2call.j2 k x4 x7 bt319.1 false x318000 x318001 x318002)) else (spec_l2call.j2 k x4 x7 bt319.1 true x318000 x318001 x318002))) else (none)) else (none)) else (some (x318000, x318001, x318002, true))
def spec_l2call.j2 : Nat → List (List Int) → Int → Int → Bool → Int → Int → List Int → Option (Int × Int × List Int × Bool)
  | 0, _, _, _, _, _, _, _ => none
  | k + 1, x4, x7, x8, x44, x318000, x318001, x318002 => if x44 = true then (some (0, 0, ([] : List Int), false)) else (if x7 = 0 then (spec_l2call.l0 k x4 (wrap64 (x7 + 1)) ((x8) % 4294967296) x318001 x318002) else (if x7 = 1 then (spec_l2call.l0 k x4 (wrap64 (x7 + 1)) x318000 ((x8) % 4294967296) x318002) else (if x318002.length < 17592186044416 then (spec_l2call.l0 k x4 (wrap64 (x7 + 1)) x318000 x318001 (x318002 ++ [x8])) else (none))))
end
def spec_l2call.f (k : Nat) (l0 : List Int) : Option (Int × Int × List Int × Bool) := (spec_l2cut.f k l0).bind fun bt313 => (if bt313.2 = true then (spec_l2call.j0 k bt313.1 ((bt313.1.length : Int) != 8)) else (spec_l2call.j0 k bt313.1 true))
end Go.Proofs.YtjpjfkmnfppgkaaDoor.P

namespace Go.Proofs.YtjpjfkmnfppgkaaDoor.P
open Go.RowKit Go.Proofs.YtjpjfkmnfppgkaaDoorW.PrintWords Go.Proofs.YtjpjfkmnfppgkaaDoorW.PrintLast Go.Proofs.YtjpjfkmnfppgkaaDoorW.PrintMore
set_option linter.unusedVariables false
set_option linter.unusedSimpArgs false
/-! One call off a body. -/
def callD (b : List Int) : Int × Int × List Int × Bool := callEnd (cofG 8 [] b)
theorem callEnd_rest (a r : List Int) (h : r ≠ []) : callEnd (some (a, r)) = (0, 0, [], false) := by
  cases r with
  | nil => exact absurd rfl h
  | cons x r =>
    have : (x :: r).length > 0 := by simp
    simp only [callEnd]
    rw [if_pos this]
theorem cofG_cut : ∀ (n : Nat) (all b : List Int), (∀ x ∈ b, 0 ≤ x ∧ x < 256) →
    (((cutP [] b).2 = true ∧ (cutP [] b).1.length = n ∧ ∀ p ∈ (cutP [] b).1, okP p) → cofG n all b = some (all ++ (cutP [] b).1.map valB, [])) ∧
    (¬ ((cutP [] b).2 = true ∧ (cutP [] b).1.length = n ∧ ∀ p ∈ (cutP [] b).1, okP p) → cofG n all b = none ∨ ∃ a r, cofG n all b = some (a, r) ∧ r ≠ [])
  | 0, all, b, hb => by
    cases b with
    | nil => exact ⟨fun _ => by simp [cutP, cofG], fun h => absurd (by simp [cutP]) h⟩
    | cons c r =>
      refine ⟨fun h => ?_, fun _ => Or.inr ⟨all, c :: r, rfl, by simp⟩⟩
      exfalso
      rw [cutP_first] at h
      cases hf : firstP [] (c :: r) with
      | none => rw [hf] at h; simp at h
      | some t => rw [hf] at h; simp at h
  | n + 1, all, b, hb => by
    have hn := numG_first b [] (by simp) (by simp) hb
    rw [cutP_first]
    unfold cofG
    cases hf : firstP [] b with
    | none =>
      rw [hf] at hn
      dsimp only at hn ⊢
      rw [if_neg (by rw [hn]; decide)]
      exact ⟨fun h => by simp at h, fun _ => Or.inl rfl⟩
    | some t =>
      rw [hf] at hn
      dsimp only at hn ⊢
      have ht : ∀ x ∈ t.2, 0 ≤ x ∧ x < 256 := fun x hx => hb x (firstP_mem b [] t hf x hx)
      by_cases q : okP t.1
      · rw [if_pos q] at hn
        have ih := cofG_cut n (all ++ [valB t.1]) t.2 ht
        rw [hn]
        dsimp only
        rw [if_pos rfl]
        have e : ((cutP [] t.2).2 = true ∧ (t.1 :: (cutP [] t.2).1).length = n + 1 ∧ ∀ p ∈ t.1 :: (cutP [] t.2).1, okP p) ↔ ((cutP [] t.2).2 = true ∧ (cutP [] t.2).1.length = n ∧ ∀ p ∈ (cutP [] t.2).1, okP p) := by
          rw [List.length_cons, List.forall_mem_cons]
          exact ⟨fun h => ⟨h.1, by omega, h.2.2.2⟩, fun h => ⟨h.1, by omega, q, h.2.2⟩⟩
        rw [e]
        refine ⟨fun h => ?_, fun h => ih.2 h⟩
        rw [ih.1 h, List.append_assoc]
        rfl
      · rw [if_neg q] at hn
        rw [if_neg (by rw [hn]; decide)]
        exact ⟨fun h => absurd (h.2.2 t.1 (List.mem_cons_self ..)) q, fun _ => Or.inl rfl⟩
def pieceE (ps : List (List Int)) : Int × Int × List Int × Bool := if ∀ p ∈ ps, okP p then callEnd (some (ps.map valB, [])) else (0, 0, [], false)
theorem callD_is (b : List Int) (hb : ∀ x ∈ b, 0 ≤ x ∧ x < 256) : callD b = if (cutP [] b).2 = true ∧ (cutP [] b).1.length = 8 then pieceE (cutP [] b).1 else (0, 0, [], false) := by
  have h := cofG_cut 8 [] b hb
  have hno : ¬ ((cutP [] b).2 = true ∧ (cutP [] b).1.length = 8 ∧ ∀ p ∈ (cutP [] b).1, okP p) → callD b = (0, 0, [], false) := by
    intro q
    unfold callD
    rcases h.2 q with e | ⟨a, r, e, hr⟩
    · rw [e]; rfl
    · rw [e, callEnd_rest a r hr]
  by_cases q : (cutP [] b).2 = true ∧ (cutP [] b).1.length = 8
  · rw [if_pos q]
    unfold pieceE
    by_cases g : ∀ p ∈ (cutP [] b).1, okP p
    · rw [if_pos g]
      unfold callD
      rw [h.1 ⟨q.1, q.2, g⟩]
      rfl
    · rw [if_neg g]
      exact hno fun e => g e.2.2
  · rw [if_neg q]
    exact hno fun e => q ⟨e.1, e.2.1⟩
end Go.Proofs.YtjpjfkmnfppgkaaDoor.P

namespace Go.Proofs.YtjpjfkmnfppgkaaDoor.P
open Go.RowKit Go.Proofs.YtjpjfkmnfppgkaaDoorW.PrintWords Go.Proofs.YtjpjfkmnfppgkaaDoorW.PrintLast Go.Proofs.YtjpjfkmnfppgkaaDoorW.PrintMore
set_option linter.unusedVariables false
set_option linter.unusedSimpArgs false
/-! Bytes put together. -/
theorem or2_nat (b0 b1 : Nat) (h0 : b0 < 256) : b0 ||| b1 * 256 = b0 + 256 * b1 := by
  have : 256 * b1 + b0 = 256 * b1 ||| b0 := Nat.two_pow_add_eq_or_of_lt (i := 8) h0 b1
  rw [Nat.or_comm, Nat.mul_comm]
  omega
end Go.Proofs.YtjpjfkmnfppgkaaDoor.P

namespace Go.Proofs.YtjpjfkmnfppgkaaDoor.P
open Go.RowKit Go.Proofs.YtjpjfkmnfppgkaaDoorW.PrintWords Go.Proofs.YtjpjfkmnfppgkaaDoorW.PrintLast Go.Proofs.YtjpjfkmnfppgkaaDoorW.PrintMore
attribute [local go_sem] max2_int min2_int max_two min_two max_three min_three max_four min_four   -- for this text's walks alone
set_option linter.unusedVariables false
set_option linter.unusedSimpArgs false

/-! ### spec_l1number: function 30 -/
def spec_l1number.l0 : Nat → List Int → Int → Int → Option (Int)
  | 0, _, _, _ => none
  | k + 1, x0, x3, x4 => if x4 ≥ 0 then (if 0 ≤ x4 then (if x4 < (x0.length : Int) then (spec_l1number.l0 k x0 (IntKind.u64.wrap ((IntKind.u64.wrap (x3 * 256)) + (IntKind.u64.wrap (rd x0 x4)))) (wrap64 (x4 - 1))) else (none)) else (none)) else (some x3)
def spec_l1number.f (k : Nat) (l0 : List Int) : Option (Int) := spec_l1number.l0 k l0 0 (wrap64 ((l0.length : Int) - 1))
end Go.Proofs.YtjpjfkmnfppgkaaDoor.P

namespace Go.Proofs.YtjpjfkmnfppgkaaDoor.P
open Go.RowKit Go.Proofs.YtjpjfkmnfppgkaaDoorW.PrintWords Go.Proofs.YtjpjfkmnfppgkaaDoorW.PrintLast Go.Proofs.YtjpjfkmnfppgkaaDoorW.PrintMore
set_option linter.unusedVariables false
set_option linter.unusedSimpArgs false
/-! A number of two bytes. -/
theorem i64_of2 (x0 x1 : Int) (h0 : 0 ≤ x0 ∧ x0 < 256) (h1 : 0 ≤ x1 ∧ x1 < 256) : bits .or .i64 (wrap64 x0) (wrap64 (wrap64 x1 * 256)) = x0 + 256 * x1 := by
  obtain ⟨b0, rfl⟩ := Int.eq_ofNat_of_zero_le h0.1
  obtain ⟨b1, rfl⟩ := Int.eq_ofNat_of_zero_le h1.1
  rw [wrap64_id (i := (b0 : Int)) (by omega) (by omega), wrap64_id (i := (b1 : Int)) (by omega) (by omega), wrap64_id (by omega) (by omega), show (b1 : Int) * 256 = ((b1 * 256 : Nat) : Int) by omega]
  have hb : ∀ z : Nat, z < 65536 → z < 2 ^ IntKind.i64.bits := fun z h => Nat.lt_trans h (by decide)
  have ho := or2_nat b0 b1 (by omega)
  simp only [bits, BitVec.ofInt_natCast, BitVec.toNat_or, BitVec.toNat_ofNat, Nat.mod_eq_of_lt (hb b0 (by omega)), Nat.mod_eq_of_lt (hb (b1 * 256) (by omega)), ho]
  have hlt : b0 + 256 * b1 < 65536 := by omega
  generalize b0 + 256 * b1 = c at ho hlt
  have e : (b0 : Int) + 256 * (b1 : Int) = ((b0 ||| b1 * 256 : Nat) : Int) := by rw [or2_nat b0 b1 (by omega)]; omega
  rw [e, ho]
  simp only [IntKind.wrap, IntKind.bits, IntKind.signed]
  simp
  omega
end Go.Proofs.YtjpjfkmnfppgkaaDoor.P

namespace Go.Proofs.YtjpjfkmnfppgkaaDoor.P
open Go.RowKit Go.Proofs.YtjpjfkmnfppgkaaDoorW.PrintWords Go.Proofs.YtjpjfkmnfppgkaaDoorW.PrintLast Go.Proofs.YtjpjfkmnfppgkaaDoorW.PrintMore
attribute [local go_sem] max2_int min2_int max_two min_two max_three min_three max_four min_four   -- for this text's walks alone
set_option linter.unusedVariables false
set_option linter.unusedSimpArgs false

/-! ### slices_Equal_byte_byte: function 62 -/
def slices_Equal_byte_byte.l0 : Nat → List Int → List Int → Int → Int → Option (Bool)
  | 0, _, _, _, _ => none
  | k + 1, x0, x1, x12, x13 => if x13 < x12 then (if 0 ≤ x13 then (if x13 < (x0.length : Int) then (if x13 < (x1.length : Int) then (if (rd x0 x13) = (rd x1 x13) then (slices_Equal_byte_byte.l0 k x0 x1 x12 (wrap64 (x13 + 1))) else (some false)) else (none)) else (none)) else (none)) else (some true)
def slices_Equal_byte_byte.f (k : Nat) (l0 : List Int) (l1 : List Int) : Option (Bool) := if (l0.length : Int) = (l1.length : Int) then (slices_Equal_byte_byte.l0 k l0 l1 (l0.length : Int) 0) else (some false)
set_option maxHeartbeats 8000000 in
set_option maxRecDepth 100000 in
theorem slices_Equal_byte_byte.calls (k : Nat) (A0 : Option Addr) (c0 : Nat) (l0 : List Int) (A1 : Option Addr) (c1 : Nat) (l1 : List Int) (r : Bool) (w : World) (hr0 : Kd.C (Kd.int .u8) w A0 l0.length l0) (hc0 : l0.length ≤ c0) (hr1 : Kd.C (Kd.int .u8) w A1 l1.length l1) (hc1 : l1.length ≤ c1) (h : slices_Equal_byte_byte.f k l0 l1 = some r) :
    Calls Tryd.prog 62 #[.slice A0 l0.length c0, .slice A1 l1.length c1] w fun e w' => e = .returned (.bool r) ∧ Drawn0 w w' := by
  have HR0 := Aside0.mk hr0
  have HC0 := Aside0.mk hc0
  clear hr0 hc0
  have HR1 := Aside0.mk hr1
  have HC1 := Aside0.mk hc1
  clear hr1 hc1
  have H : (if (l0.length : Int) = (l1.length : Int) then (slices_Equal_byte_byte.l0 k l0 l1 (l0.length : Int) 0) else (some false)) = some r := h
  clear h
  by_cases c3 : (l0.length : Int) = (l1.length : Int)
  · rw [if_pos c3] at H
    have c3b0 : ((l0.length : Int) == (l1.length : Int)) = true := beq_iff_eq.mpr c3
    have c3b1 : ((l0.length : Int) != (l1.length : Int)) = false := bne_eq_false_iff_eq.mpr c3
    have c3b2 : (l0.length == l1.length) = true := by first | simpa using c3 | (simp at c3 ⊢; omega)
    clear c3
    have H' := Aside0.mk H
    clear H
    go_enter Tryd.func62, Tryd.ntmps62
    go_wp2
    repeat (go_quiet (fail); try go_wp2)
    go_loopg [13] k (fun kq v13 w' => ∃ (x13_1 : Int), v13 = .int .i64 x13_1 ∧ Aside0 (slices_Equal_byte_byte.l0 kq l0 l1 (l0.length : Int) x13_1 = some r) ∧ Aside0 (kq ≤ k) ∧ Drawn0 w w')
    case atStart => exact ⟨(0), (by first | rfl | (simp; done) | (simp [*]; done)), H', ⟨Nat.le_refl _⟩, by repeat (first | exact Drawn0.refl _ | apply Drawn0.step)⟩
    case round =>
      clear H'
      try clear c1
      try clear p2
      try clear c3
      try clear c3b0
      try clear c3b1
      try clear c3b2
      obtain ⟨x13_1, rfl, HA, HK1, ⟨m1, rfl⟩⟩ := hrel
      cases gk with
      | zero => exact absurd HA.out (by simp [slices_Equal_byte_byte.l0])
      | succ k1 =>
        have H := HA.out
        clear HA
        simp only [slices_Equal_byte_byte.l0] at H
        by_cases c4 : x13_1 < (l0.length : Int)
        · rw [if_pos c4] at H
          have c4b0 : decide (x13_1 < (l0.length : Int)) = true := decide_eq_true c4
          clear c4
          by_cases c5 : 0 ≤ x13_1
          · rw [if_pos c5] at H
            have c5b0 : decide (0 ≤ x13_1) = true := decide_eq_true c5
            clear c5
            by_cases c6 : x13_1 < (l0.length : Int)
            · rw [if_pos c6] at H
              have c6b0 : decide (x13_1 < (l0.length : Int)) = true := decide_eq_true c6
              clear c6
              by_cases c7 : x13_1 < (l1.length : Int)
              · rw [if_pos c7] at H
                have c7b0 : decide (x13_1 < (l1.length : Int)) = true := decide_eq_true c7
                clear c7
                by_cases c8 : (rd l0 x13_1) = (rd l1 x13_1)
                · rw [if_pos c8] at H
                  have c8b0 : ((rd l0 x13_1) == (rd l1 x13_1)) = true := beq_iff_eq.mpr c8
                  have c8b1 : ((rd l0 x13_1) != (rd l1 x13_1)) = false := bne_eq_false_iff_eq.mpr c8
                  clear c8
                  have H' := Aside0.mk H
                  clear H
                  have p245 : 0 ≤ (x13_1 : Int) := of_decide_eq_true (by first | (with_reducible assumption) | assumption)
                  have q245 : x13_1 < (l0.length : Int) := of_decide_eq_true (by first | (with_reducible assumption) | assumption)
                  obtain ⟨ad245, e245, hx245_0⟩ := Kd.at_int HR0.out x13_1 p245 q245
                  cases e245
                  replace p245 := eq_true p245
                  replace q245 := eq_true q245
                  have p246 : 0 ≤ (x13_1 : Int) := of_decide_eq_true (by first | (with_reducible assumption) | assumption)
                  have q246 : x13_1 < (l1.length : Int) := of_decide_eq_true (by first | (with_reducible assumption) | assumption)
                  obtain ⟨ad246, e246, hx246_0⟩ := Kd.at_int HR1.out x13_1 p246 q246
                  cases e246
                  replace p246 := eq_true p246
                  replace q246 := eq_true q246
                  go_wp2
                  repeat (go_quiet (fail); try go_wp2)
                  go_roundg k1
                  case measure => have := HK1.out; omega
                  case rel => exact ⟨(wrap64 (x13_1 + 1)), (by first | rfl | (simp; done) | (simp [*]; done)), H', ⟨by have := HK1.out; omega⟩, by repeat (first | exact Drawn0.refl _ | apply Drawn0.step)⟩
                · rw [if_neg c8] at H
                  have c8b0 : ((rd l0 x13_1) == (rd l1 x13_1)) = false := beq_eq_false_iff_ne.mpr c8
                  have c8b1 : ((rd l0 x13_1) != (rd l1 x13_1)) = true := bne_iff_ne.mpr c8
                  obtain rfl := Option.some.inj H
                  have p245 : 0 ≤ (x13_1 : Int) := of_decide_eq_true (by first | (with_reducible assumption) | assumption)
                  have q245 : x13_1 < (l0.length : Int) := of_decide_eq_true (by first | (with_reducible assumption) | assumption)
                  obtain ⟨ad245, e245, hx245_0⟩ := Kd.at_int HR0.out x13_1 p245 q245
                  cases e245
                  replace p245 := eq_true p245
                  replace q245 := eq_true q245
                  have p246 : 0 ≤ (x13_1 : Int) := of_decide_eq_true (by first | (with_reducible assumption) | assumption)
                  have q246 : x13_1 < (l1.length : Int) := of_decide_eq_true (by first | (with_reducible assumption) | assumption)
                  obtain ⟨ad246, e246, hx246_0⟩ := Kd.at_int HR1.out x13_1 p246 q246
                  cases e246
                  replace p246 := eq_true p246
                  replace q246 := eq_true q246
                  go_wp2
                  repeat (go_quiet (fail); try go_wp2)
                  go_ret
                  exact ⟨by first | rfl | (simp; done) | (simp [*]; done), by repeat (first | exact Drawn0.refl _ | apply Drawn0.step)⟩
              · rw [if_neg c7] at H
                exact absurd H (by simp)
            · rw [if_neg c6] at H
              exact absurd H (by simp)
          · rw [if_neg c5] at H
            exact absurd H (by simp)
        · rw [if_neg c4] at H
          have c4b0 : decide (x13_1 < (l0.length : Int)) = false := decide_eq_false c4
          clear c4
          obtain rfl := Option.some.inj H
          go_wp2
          repeat (go_quiet (fail); try go_wp2)
          go_ret
          exact ⟨by first | rfl | (simp; done) | (simp [*]; done), by repeat (first | exact Drawn0.refl _ | apply Drawn0.step)⟩
  · rw [if_neg c3] at H
    have c3b0 : ((l0.length : Int) == (l1.length : Int)) = false := beq_eq_false_iff_ne.mpr c3
    have c3b1 : ((l0.length : Int) != (l1.length : Int)) = true := bne_iff_ne.mpr c3
    have c3b2 : (l0.length == l1.length) = false := by first | simpa using c3 | (simp at c3 ⊢; omega)
    obtain rfl := Option.some.inj H
    go_enter Tryd.func62, Tryd.ntmps62
    go_wp2
    repeat (go_quiet (fail); try go_wp2)
    go_ret
    exact ⟨by first | rfl | (simp; done) | (simp [*]; done), by repeat (first | exact Drawn0.refl _ | apply Drawn0.step)⟩

end Go.Proofs.YtjpjfkmnfppgkaaDoor.P

namespace Go.Proofs.YtjpjfkmnfppgkaaDoor.P
open Go.RowKit Go.Proofs.YtjpjfkmnfppgkaaDoorW.PrintWords Go.Proofs.YtjpjfkmnfppgkaaDoorW.PrintLast Go.Proofs.YtjpjfkmnfppgkaaDoorW.PrintMore
set_option linter.unusedVariables false
set_option linter.unusedSimpArgs false

/-! The reader's fault and its head: each way by itself. -/
/-- What stands behind a call of the reader's: all as it was, but for the reader's own block. -/
structure KB (w w' : World) (B : Nat) : Prop where
  lt : B < w.heap.size
  keep : KeepBut w w' B none
  bel : ∀ b, b ≤ B → Below b w w'
theorem KB.refl {w : World} {B : Nat} (h : B < w.heap.size) : KB w w B := ⟨h, KeepBut.refl w B none, fun b _ => Below.refl b w⟩
theorem KB.of_below {w w' : World} {B : Nat} (hb : Below w.heap.size w w') (h : B < w.heap.size) : KB w w' B := ⟨h, KeepBut.of_below hb B none, fun b hB => hb.mono (by omega)⟩
theorem KB.set {w w' : World} {B : Nat} (h : KB w w' B) (j : Nat) (u : Value) : KB w (w'.setCell ⟨B, j, none⟩ u) B := ⟨h.lt, h.keep.set_ j u, fun b hB => (h.bel b hB).setCell (p := ⟨B, j, none⟩) hB u⟩
theorem KB.far {w w' : World} {B : Nat} (h : KB w w' B) {p : Addr} (hp : w.heap.size ≤ p.block) (u : Value) : KB w (w'.setCell p u) B := ⟨h.lt, keep_far h.keep hp u, fun b hB => (h.bel b hB).setCell (p := p) (by have := h.lt; omega) u⟩
theorem KB.trans {w W w' : World} {B : Nat} (h : KB w W B) (k : KB W w' B) : KB w w' B := ⟨h.lt, h.keep.trans k.keep (.inl rfl), fun b hB => (h.bel b hB).trans (k.bel b hB)⟩
theorem KB.below {w W w' : World} {B b : Nat} (h : KB w W B) (hb : Below b W w') (hw : w.heap.size ≤ b) : KB w w' B :=
  ⟨h.lt, ⟨Nat.le_trans h.keep.1 hb.size, fun i hi hne hr => (hb.block i (Nat.lt_of_lt_of_le hi hw)).trans (h.keep.2 i hi hne hr)⟩, fun c hc => (h.bel c hc).trans (hb.mono (by have := h.lt; omega))⟩
theorem KB.alloc {w W : World} {B : Nat} (h : KB w W B) (o : Obj) : KB w (W.alloc o) B := h.below (below_alloc (Below.refl _ _) o) h.keep.1
theorem KB.drewN {w W : World} {B : Nat} (h : KB w W B) (n : Nat) : KB w (W.drewN n) B := h.below (pw_below_drewN (Below.refl _ _) n) h.keep.1
def chainE (c o : Int) : List PanicEntry := [{ v := .iface 56 (.agg #[.int .i64 c, .int .i64 o]), recovered := false }]
theorem fail_does (a : Value) (c o : Int) (w : World) : Calls Tryd.prog 47 #[a, .int .i64 c, .int .i64 o] w fun e w' => e = .panicked (chainE c o) ∧ w' = w := by
  unfold chainE
  go_enter Tryd.func47, Tryd.ntmps47
  go_wp2
  exact ⟨rfl, rfl, rfl⟩
theorem head_short (B : Nat) (A0 : Option Addr) (c0 n : Nat) (w : World) (hb : w.cell? ⟨B, 0, none⟩ = some (.slice A0 n c0)) (h : n < 7) :
    Calls Tryd.prog 45 #[.pointer (some ⟨B, 0, none⟩)] w fun e w' => e = .panicked (chainE 5 n) ∧ w' = w := by
  have h1 : decide ((n : Int) < 7) = true := decide_eq_true (by omega)
  go_enter Tryd.func45, Tryd.ntmps45
  go_wp2_with (go_at_call 47; refine (fail_does _ _ _ _).mono ?_; rintro e w' ⟨rfl, rfl⟩)
  exact ⟨rfl, rfl, rfl⟩
set_option maxHeartbeats 4000000 in
set_option maxRecDepth 100000 in
theorem head_bad0 (B : Nat) (R : Addr) (c0 n : Nat) (b0 b1 b2 b3 b4 b5 b6 at0 : Int) (w : World) (hb : w.cell? ⟨B, 0, none⟩ = some (.slice (some R) n c0)) (h7 : 7 ≤ n) (hR : R.block < w.heap.size) (hB : B < w.heap.size)
    (h0 : w.cell? R = some (.int .u8 b0)) (h1 : w.cell? ⟨R.block, R.off + 1, none⟩ = some (.int .u8 b1)) (h2 : w.cell? ⟨R.block, R.off + 2, none⟩ = some (.int .u8 b2)) (h3 : w.cell? ⟨R.block, R.off + 3, none⟩ = some (.int .u8 b3)) (h4 : w.cell? ⟨R.block, R.off + 4, none⟩ = some (.int .u8 b4)) (h5 : w.cell? ⟨R.block, R.off + 5, none⟩ = some (.int .u8 b5)) (h6 : w.cell? ⟨R.block, R.off + 6, none⟩ = some (.int .u8 b6)) (hn : (b0 != 67) = true) :
    Calls Tryd.prog 45 #[.pointer (some ⟨B, 0, none⟩)] w fun e w' => e = .panicked (chainE 2 0) ∧ Below w.heap.size w w' := by
  have g1 : decide ((n : Int) < 7) = false := decide_eq_false (by omega)
  have g2 : 0 < n := by omega
  have g3 : 1 < n := by omega
  have g4 : 2 < n := by omega
  have g5 : 3 < n := by omega
  have g6 : 4 < n := by omega
  have g7 : 5 < n := by omega
  have g8 : 6 < n := by omega
  go_enter Tryd.func45, Tryd.ntmps45
  go_wp2
  refine wp_loop_rounds 5 ?_
  rw [rounds_succ]
  go_wp2_with (go_at_call 47; refine (fail_does _ _ _ _).mono ?_; rintro e w' ⟨rfl, rfl⟩)
  exact ⟨rfl, rfl, below_alloc (Below.refl _ _) _⟩

set_option maxHeartbeats 4000000 in
set_option maxRecDepth 100000 in
theorem head_bad1 (B : Nat) (R : Addr) (c0 n : Nat) (b0 b1 b2 b3 b4 b5 b6 at0 : Int) (w : World) (hb : w.cell? ⟨B, 0, none⟩ = some (.slice (some R) n c0)) (h7 : 7 ≤ n) (hR : R.block < w.heap.size) (hB : B < w.heap.size)
    (h0 : w.cell? R = some (.int .u8 b0)) (h1 : w.cell? ⟨R.block, R.off + 1, none⟩ = some (.int .u8 b1)) (h2 : w.cell? ⟨R.block, R.off + 2, none⟩ = some (.int .u8 b2)) (h3 : w.cell? ⟨R.block, R.off + 3, none⟩ = some (.int .u8 b3)) (h4 : w.cell? ⟨R.block, R.off + 4, none⟩ = some (.int .u8 b4)) (h5 : w.cell? ⟨R.block, R.off + 5, none⟩ = some (.int .u8 b5)) (h6 : w.cell? ⟨R.block, R.off + 6, none⟩ = some (.int .u8 b6)) (he : b0 = 67) (hn : (b1 != 76) = true) :
    Calls Tryd.prog 45 #[.pointer (some ⟨B, 0, none⟩)] w fun e w' => e = .panicked (chainE 2 1) ∧ Below w.heap.size w w' := by
  obtain rfl := he
  have g1 : decide ((n : Int) < 7) = false := decide_eq_false (by omega)
  have g2 : 0 < n := by omega
  have g3 : 1 < n := by omega
  have g4 : 2 < n := by omega
  have g5 : 3 < n := by omega
  have g6 : 4 < n := by omega
  have g7 : 5 < n := by omega
  have g8 : 6 < n := by omega
  go_enter Tryd.func45, Tryd.ntmps45
  go_wp2
  refine wp_loop_rounds 5 ?_
  rw [rounds_succ]
  go_wp2_with (go_at_call 47; refine (fail_does _ _ _ _).mono ?_; rintro e w' ⟨rfl, rfl⟩)
  rw [rounds_succ]
  go_wp2_with (go_at_call 47; refine (fail_does _ _ _ _).mono ?_; rintro e w' ⟨rfl, rfl⟩)
  exact ⟨rfl, rfl, below_alloc (Below.refl _ _) _⟩

set_option maxHeartbeats 4000000 in
set_option maxRecDepth 100000 in
theorem head_bad2 (B : Nat) (R : Addr) (c0 n : Nat) (b0 b1 b2 b3 b4 b5 b6 at0 : Int) (w : World) (hb : w.cell? ⟨B, 0, none⟩ = some (.slice (some R) n c0)) (h7 : 7 ≤ n) (hR : R.block < w.heap.size) (hB : B < w.heap.size)
    (h0 : w.cell? R = some (.int .u8 b0)) (h1 : w.cell? ⟨R.block, R.off + 1, none⟩ = some (.int .u8 b1)) (h2 : w.cell? ⟨R.block, R.off + 2, none⟩ = some (.int .u8 b2)) (h3 : w.cell? ⟨R.block, R.off + 3, none⟩ = some (.int .u8 b3)) (h4 : w.cell? ⟨R.block, R.off + 4, none⟩ = some (.int .u8 b4)) (h5 : w.cell? ⟨R.block, R.off + 5, none⟩ = some (.int .u8 b5)) (h6 : w.cell? ⟨R.block, R.off + 6, none⟩ = some (.int .u8 b6)) (he : b0 = 67 ∧ b1 = 76) (hn : (b2 != 79) = true) :
    Calls Tryd.prog 45 #[.pointer (some ⟨B, 0, none⟩)] w fun e w' => e = .panicked (chainE 2 2) ∧ Below w.heap.size w w' := by
  obtain ⟨rfl, rfl⟩ := he
  have g1 : decide ((n : Int) < 7) = false := decide_eq_false (by omega)
  have g2 : 0 < n := by omega
  have g3 : 1 < n := by omega
  have g4 : 2 < n := by omega
  have g5 : 3 < n := by omega
  have g6 : 4 < n := by omega
  have g7 : 5 < n := by omega
  have g8 : 6 < n := by omega
  go_enter Tryd.func45, Tryd.ntmps45
  go_wp2
  refine wp_loop_rounds 5 ?_
  rw [rounds_succ]
  go_wp2_with (go_at_call 47; refine (fail_does _ _ _ _).mono ?_; rintro e w' ⟨rfl, rfl⟩)
  rw [rounds_succ]
  go_wp2_with (go_at_call 47; refine (fail_does _ _ _ _).mono ?_; rintro e w' ⟨rfl, rfl⟩)
  rw [rounds_succ]
  go_wp2_with (go_at_call 47; refine (fail_does _ _ _ _).mono ?_; rintro e w' ⟨rfl, rfl⟩)
  exact ⟨rfl, rfl, below_alloc (Below.refl _ _) _⟩

set_option maxHeartbeats 4000000 in
set_option maxRecDepth 100000 in
theorem head_bad3 (B : Nat) (R : Addr) (c0 n : Nat) (b0 b1 b2 b3 b4 b5 b6 at0 : Int) (w : World) (hb : w.cell? ⟨B, 0, none⟩ = some (.slice (some R) n c0)) (h7 : 7 ≤ n) (hR : R.block < w.heap.size) (hB : B < w.heap.size)
    (h0 : w.cell? R = some (.int .u8 b0)) (h1 : w.cell? ⟨R.block, R.off + 1, none⟩ = some (.int .u8 b1)) (h2 : w.cell? ⟨R.block, R.off + 2, none⟩ = some (.int .u8 b2)) (h3 : w.cell? ⟨R.block, R.off + 3, none⟩ = some (.int .u8 b3)) (h4 : w.cell? ⟨R.block, R.off + 4, none⟩ = some (.int .u8 b4)) (h5 : w.cell? ⟨R.block, R.off + 5, none⟩ = some (.int .u8 b5)) (h6 : w.cell? ⟨R.block, R.off + 6, none⟩ = some (.int .u8 b6)) (he : b0 = 67 ∧ b1 = 76 ∧ b2 = 79) (hn : (b3 != 71) = true) :
    Calls Tryd.prog 45 #[.pointer (some ⟨B, 0, none⟩)] w fun e w' => e = .panicked (chainE 2 3) ∧ Below w.heap.size w w' := by
  obtain ⟨rfl, rfl, rfl⟩ := he
  have g1 : decide ((n : Int) < 7) = false := decide_eq_false (by omega)
  have g2 : 0 < n := by omega
  have g3 : 1 < n := by omega
  have g4 : 2 < n := by omega
  have g5 : 3 < n := by omega
  have g6 : 4 < n := by omega
  have g7 : 5 < n := by omega
  have g8 : 6 < n := by omega
  go_enter Tryd.func45, Tryd.ntmps45
  go_wp2
  refine wp_loop_rounds 5 ?_
  rw [rounds_succ]
  go_wp2_with (go_at_call 47; refine (fail_does _ _ _ _).mono ?_; rintro e w' ⟨rfl, rfl⟩)
  rw [rounds_succ]
  go_wp2_with (go_at_call 47; refine (fail_does _ _ _ _).mono ?_; rintro e w' ⟨rfl, rfl⟩)
  rw [rounds_succ]
  go_wp2_with (go_at_call 47; refine (fail_does _ _ _ _).mono ?_; rintro e w' ⟨rfl, rfl⟩)
  rw [rounds_succ]
  go_wp2_with (go_at_call 47; refine (fail_does _ _ _ _).mono ?_; rintro e w' ⟨rfl, rfl⟩)
  exact ⟨rfl, rfl, below_alloc (Below.refl _ _) _⟩

set_option maxHeartbeats 4000000 in
set_option maxRecDepth 100000 in
theorem head_ver (B : Nat) (R : Addr) (c0 n : Nat) (b0 b1 b2 b3 b4 b5 b6 at0 : Int) (w : World) (hb : w.cell? ⟨B, 0, none⟩ = some (.slice (some R) n c0)) (h7 : 7 ≤ n) (hR : R.block < w.heap.size) (hB : B < w.heap.size)
    (h0 : w.cell? R = some (.int .u8 b0)) (h1 : w.cell? ⟨R.block, R.off + 1, none⟩ = some (.int .u8 b1)) (h2 : w.cell? ⟨R.block, R.off + 2, none⟩ = some (.int .u8 b2)) (h3 : w.cell? ⟨R.block, R.off + 3, none⟩ = some (.int .u8 b3)) (h4 : w.cell? ⟨R.block, R.off + 4, none⟩ = some (.int .u8 b4)) (h5 : w.cell? ⟨R.block, R.off + 5, none⟩ = some (.int .u8 b5)) (h6 : w.cell? ⟨R.block, R.off + 6, none⟩ = some (.int .u8 b6)) (he : b0 = 67 ∧ b1 = 76 ∧ b2 = 79 ∧ b3 = 71) (hn : (b4 != 1) = true) :
    Calls Tryd.prog 45 #[.pointer (some ⟨B, 0, none⟩)] w fun e w' => e = .panicked (chainE 3 4) ∧ Below w.heap.size w w' := by
  obtain ⟨rfl, rfl, rfl, rfl⟩ := he
  have g1 : decide ((n : Int) < 7) = false := decide_eq_false (by omega)
  have g2 : 0 < n := by omega
  have g3 : 1 < n := by omega
  have g4 : 2 < n := by omega
  have g5 : 3 < n := by omega
  have g6 : 4 < n := by omega
  have g7 : 5 < n := by omega
  have g8 : 6 < n := by omega
  go_enter Tryd.func45, Tryd.ntmps45
  go_wp2
  refine wp_loop_rounds 5 ?_
  rw [rounds_succ]
  go_wp2_with (go_at_call 47; refine (fail_does _ _ _ _).mono ?_; rintro e w' ⟨rfl, rfl⟩)
  rw [rounds_succ]
  go_wp2_with (go_at_call 47; refine (fail_does _ _ _ _).mono ?_; rintro e w' ⟨rfl, rfl⟩)
  rw [rounds_succ]
  go_wp2_with (go_at_call 47; refine (fail_does _ _ _ _).mono ?_; rintro e w' ⟨rfl, rfl⟩)
  rw [rounds_succ]
  go_wp2_with (go_at_call 47; refine (fail_does _ _ _ _).mono ?_; rintro e w' ⟨rfl, rfl⟩)
  rw [rounds_succ]
  go_wp2_with (go_at_call 47; refine (fail_does _ _ _ _).mono ?_; rintro e w' ⟨rfl, rfl⟩)
  exact ⟨rfl, rfl, below_alloc (Below.refl _ _) _⟩

set_option maxHeartbeats 4000000 in
set_option maxRecDepth 100000 in
theorem head_count (B : Nat) (R : Addr) (c0 n : Nat) (b0 b1 b2 b3 b4 b5 b6 at0 : Int) (w : World) (hb : w.cell? ⟨B, 0, none⟩ = some (.slice (some R) n c0)) (h7 : 7 ≤ n) (hR : R.block < w.heap.size) (hB : B < w.heap.size)
    (h0 : w.cell? R = some (.int .u8 b0)) (h1 : w.cell? ⟨R.block, R.off + 1, none⟩ = some (.int .u8 b1)) (h2 : w.cell? ⟨R.block, R.off + 2, none⟩ = some (.int .u8 b2)) (h3 : w.cell? ⟨R.block, R.off + 3, none⟩ = some (.int .u8 b3)) (h4 : w.cell? ⟨R.block, R.off + 4, none⟩ = some (.int .u8 b4)) (h5 : w.cell? ⟨R.block, R.off + 5, none⟩ = some (.int .u8 b5)) (h6 : w.cell? ⟨R.block, R.off + 6, none⟩ = some (.int .u8 b6)) (he : b0 = 67 ∧ b1 = 76 ∧ b2 = 79 ∧ b3 = 71) (hn : b4 = 1) (hc : decide (bits .or .i64 (wrap64 b5) (wrap64 (wrap64 b6 * 256)) > 1000) = true) :
    Calls Tryd.prog 45 #[.pointer (some ⟨B, 0, none⟩)] w fun e w' => e = .panicked (chainE 4 5) ∧ Below w.heap.size w w' := by
  obtain ⟨rfl, rfl, rfl, rfl⟩ := he
  subst hn
  have g1 : decide ((n : Int) < 7) = false := decide_eq_false (by omega)
  have g2 : 0 < n := by omega
  have g3 : 1 < n := by omega
  have g4 : 2 < n := by omega
  have g5 : 3 < n := by omega
  have g6 : 4 < n := by omega
  have g7 : 5 < n := by omega
  have g8 : 6 < n := by omega
  go_enter Tryd.func45, Tryd.ntmps45
  go_wp2
  refine wp_loop_rounds 5 ?_
  rw [rounds_succ]
  go_wp2_with (go_at_call 47; refine (fail_does _ _ _ _).mono ?_; rintro e w' ⟨rfl, rfl⟩)
  rw [rounds_succ]
  go_wp2_with (go_at_call 47; refine (fail_does _ _ _ _).mono ?_; rintro e w' ⟨rfl, rfl⟩)
  rw [rounds_succ]
  go_wp2_with (go_at_call 47; refine (fail_does _ _ _ _).mono ?_; rintro e w' ⟨rfl, rfl⟩)
  rw [rounds_succ]
  go_wp2_with (go_at_call 47; refine (fail_does _ _ _ _).mono ?_; rintro e w' ⟨rfl, rfl⟩)
  rw [rounds_succ]
  go_wp2_with (go_at_call 47; refine (fail_does _ _ _ _).mono ?_; rintro e w' ⟨rfl, rfl⟩)
  go_quiet (fail)
  go_wp2_with (go_at_call 47; refine (fail_does _ _ _ _).mono ?_; rintro e w' ⟨rfl, rfl⟩)
  exact ⟨rfl, rfl, pw_below_drewN (below_alloc (Below.refl _ _) _) _⟩

set_option maxHeartbeats 4000000 in
set_option maxRecDepth 100000 in
theorem head_ok (B : Nat) (R : Addr) (c0 n : Nat) (b0 b1 b2 b3 b4 b5 b6 at0 : Int) (w : World) (hb : w.cell? ⟨B, 0, none⟩ = some (.slice (some R) n c0)) (h7 : 7 ≤ n) (hR : R.block < w.heap.size) (hB : B < w.heap.size)
    (h0 : w.cell? R = some (.int .u8 b0)) (h1 : w.cell? ⟨R.block, R.off + 1, none⟩ = some (.int .u8 b1)) (h2 : w.cell? ⟨R.block, R.off + 2, none⟩ = some (.int .u8 b2)) (h3 : w.cell? ⟨R.block, R.off + 3, none⟩ = some (.int .u8 b3)) (h4 : w.cell? ⟨R.block, R.off + 4, none⟩ = some (.int .u8 b4)) (h5 : w.cell? ⟨R.block, R.off + 5, none⟩ = some (.int .u8 b5)) (h6 : w.cell? ⟨R.block, R.off + 6, none⟩ = some (.int .u8 b6)) (he : b0 = 67 ∧ b1 = 76 ∧ b2 = 79 ∧ b3 = 71) (hn : b4 = 1) (cnt : Int) (hcnt : bits .or .i64 (wrap64 b5) (wrap64 (wrap64 b6 * 256)) = cnt) (hc : decide (cnt > 1000) = false) (ht : w.cell? ⟨B, 1, none⟩ = some (.int .i64 at0)) (hf : w.frozen? ⟨B, 1, none⟩ = false) :
    Calls Tryd.prog 45 #[.pointer (some ⟨B, 0, none⟩)] w fun e w' => e = .returned (.int .i64 cnt) ∧ ∃ w1, Below w.heap.size w w1 ∧ w' = w1.setCell ⟨B, 1, none⟩ (.int .i64 7) := by
  obtain ⟨rfl, rfl, rfl, rfl⟩ := he
  subst hn
  have g1 : decide ((n : Int) < 7) = false := decide_eq_false (by omega)
  have g2 : 0 < n := by omega
  have g3 : 1 < n := by omega
  have g4 : 2 < n := by omega
  have g5 : 3 < n := by omega
  have g6 : 4 < n := by omega
  have g7 : 5 < n := by omega
  have g8 : 6 < n := by omega
  go_enter Tryd.func45, Tryd.ntmps45
  go_wp2
  refine wp_loop_rounds 5 ?_
  rw [rounds_succ]
  go_wp2_with (go_at_call 47; refine (fail_does _ _ _ _).mono ?_; rintro e w' ⟨rfl, rfl⟩)
  rw [rounds_succ]
  go_wp2_with (go_at_call 47; refine (fail_does _ _ _ _).mono ?_; rintro e w' ⟨rfl, rfl⟩)
  rw [rounds_succ]
  go_wp2_with (go_at_call 47; refine (fail_does _ _ _ _).mono ?_; rintro e w' ⟨rfl, rfl⟩)
  rw [rounds_succ]
  go_wp2_with (go_at_call 47; refine (fail_does _ _ _ _).mono ?_; rintro e w' ⟨rfl, rfl⟩)
  rw [rounds_succ]
  go_wp2_with (go_at_call 47; refine (fail_does _ _ _ _).mono ?_; rintro e w' ⟨rfl, rfl⟩)
  go_quiet (fail)
  go_wp2
  go_ret
  exact ⟨rfl, _, pw_below_drewN (below_alloc (Below.refl _ _) _) _, rfl⟩

end Go.Proofs.YtjpjfkmnfppgkaaDoor.P
