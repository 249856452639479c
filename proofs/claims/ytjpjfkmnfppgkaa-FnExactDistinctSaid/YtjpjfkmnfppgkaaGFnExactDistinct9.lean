import Derived.Test.YtjpjfkmnfppgkaaGFnExactDistinct6
import Derived.Test.YtjpjfkmnfppgkaaGFnExactDistinct7
import Derived.Test.YtjpjfkmnfppgkaaGFnExactDistinct8
namespace Go.Proofs.Ytjpjfkmnfppgkaa.P
open Go.RowKit Go.Proofs.YtjpjfkmnfppgkaaW.PrintWords Go.Proofs.YtjpjfkmnfppgkaaW.PrintLast Go.Proofs.YtjpjfkmnfppgkaaW.PrintMore
set_option linter.unusedVariables false
set_option linter.unusedSimpArgs false
def ltL : List Int → List Int → Bool
  | [], [] => false
  | [], _ :: _ => true
  | _ :: _, [] => false
  | x :: xs, y :: ys => if x < y then true else if y < x then false else ltL xs ys
theorem ltL_irrefl : ∀ x, ltL x x = false
  | [] => rfl
  | x :: xs => by rw [ltL, if_neg (by omega), if_neg (by omega)]; exact ltL_irrefl xs
theorem ltL_trans : ∀ x y z, ltL x y = true → ltL y z = true → ltL x z = true
  | [], [], _, h, _ => by simp [ltL] at h
  | _ :: _, [], _, h, _ => by simp [ltL] at h
  | _, _ :: _, [], _, h => by simp [ltL] at h
  | [], _ :: _, _ :: _, _, _ => rfl
  | x :: xs, y :: ys, z :: zs, h1, h2 => by
    rw [ltL] at h1 h2 ⊢
    by_cases a : x < y
    · by_cases b : y < z
      · rw [if_pos (by omega)]
      · rw [if_neg b] at h2
        by_cases c : z < y
        · rw [if_pos c] at h2; exact absurd h2 (by decide)
        · rw [if_pos (by omega)]
    · rw [if_neg a] at h1
      by_cases b : y < x
      · rw [if_pos b] at h1; exact absurd h1 (by decide)
      · rw [if_neg b] at h1
        have e : x = y := by omega
        subst e
        by_cases c : x < z
        · rw [if_pos c]
        · rw [if_neg c] at h2 ⊢
          by_cases d : z < x
          · rw [if_pos d] at h2; exact absurd h2 (by decide)
          · rw [if_neg d] at h2 ⊢
            exact ltL_trans xs ys zs h1 h2
theorem ltL_eq : ∀ x y, ltL x y = false → ltL y x = false → x = y
  | [], [], _, _ => rfl
  | _ :: _, [], _, h => by simp [ltL] at h
  | [], _ :: _, h, _ => by simp [ltL] at h
  | x :: xs, y :: ys, h1, h2 => by
    rw [ltL] at h1 h2
    by_cases a : x < y
    · rw [if_pos a] at h1; exact absurd h1 (by decide)
    · by_cases b : y < x
      · rw [if_pos b] at h2; exact absurd h2 (by decide)
      · rw [if_neg a, if_neg b] at h1
        rw [if_neg b, if_neg a] at h2
        have e : x = y := by omega
        rw [e, ltL_eq xs ys h1 h2]
theorem ltL_asymm (x y : List Int) (h : ltL x y = true) : ltL y x = false := by
  cases h2 : ltL y x with
  | false => rfl
  | true => exact absurd (ltL_trans x y x h h2) (by rw [ltL_irrefl]; decide)
theorem ltL_ntrans (x y z : List Int) (h1 : ltL x y = false) (h2 : ltL y z = false) : ltL x z = false := by
  cases h : ltL x z with
  | false => rfl
  | true =>
    cases h3 : ltL y x with
    | true => rw [ltL_trans y x z h3 h] at h2; exact h2
    | false => rw [ltL_eq x y h1 h3] at h; rw [h] at h2; exact h2
def keyC (c : S35) : List Int := c.f0 :: c.f1 :: c.f2
theorem keyC_inj {a b : S35} (h : keyC a = keyC b) : a = b := by
  cases a; cases b
  unfold keyC at h
  simp only [List.cons.injEq] at h
  obtain ⟨h1, h2, h3⟩ := h
  subst h1 h2 h3
  rfl
def cmpL (x y : List Int) : Int := if ltL x y then -1 else if ltL y x then 1 else 0
def cmpC (a b : S35) : Int := cmpL (keyC a) (keyC b)
theorem cmpC_lt (a b : S35) : decide (cmpC a b < 0) = ltL (keyC a) (keyC b) := by
  unfold cmpC cmpL
  by_cases h : ltL (keyC a) (keyC b)
  · rw [if_pos h, h]; rfl
  · rw [if_neg h]
    split <;> simp [h]
theorem cmpC_eq (a b : S35) : cmpC a b = 0 ↔ a = b := by
  unfold cmpC cmpL
  constructor
  · intro h
    by_cases h1 : ltL (keyC a) (keyC b) = true
    · rw [if_pos h1] at h; exact absurd h (by decide)
    · rw [if_neg h1] at h
      by_cases h2 : ltL (keyC b) (keyC a) = true
      · rw [if_pos h2] at h; exact absurd h (by decide)
      · exact keyC_inj (ltL_eq _ _ (by simpa using h1) (by simpa using h2))
  · rintro rfl
    rw [ltL_irrefl]
    rfl
def cmpI (x y : Int) : Int := if x < y then -1 else if y < x then 1 else 0
theorem cmpL_cons (x y : Int) (xs ys : List Int) : cmpL (x :: xs) (y :: ys) = if cmpI x y = 0 then cmpL xs ys else cmpI x y := by
  unfold cmpL cmpI
  rw [ltL, ltL]
  by_cases a : x < y
  · simp [a]
  · by_cases b : y < x
    · simp [a, b]
    · simp [a, b]
theorem cmp32_is (x y : Int) : Zbe.f x y = some (cmpI x y) := by
  unfold Zbe.f Zaw.f cmpI
  simp only [bne_self_eq_false, Option.bind_some, Bool.false_eq_true, if_false]
  split
  · rfl
  · split <;> rfl
theorem cmp64_is (x y : Int) : cmp_Compare_uint64.f x y = some (cmpI x y) := by
  unfold cmp_Compare_uint64.f Zax.f cmpI
  simp only [bne_self_eq_false, Option.bind_some, Bool.false_eq_true, if_false]
  split
  · rfl
  · split <;> rfl
theorem rd_at (xs : List Int) (i : Nat) (h : i < xs.length) : rd xs (i : Int) = xs[i] := by
  simp [rd, List.getD_eq_getElem?_getD, List.getElem?_eq_getElem h]
theorem compareU64_ev (xs ys : List Int) (hx : xs.length ≤ 1048576) (hy : ys.length ≤ 1048576) : Ev (fun k => Zat.f k xs ys) (cmpL xs ys) := by
  have key : ∀ d i : Nat, i + d = xs.length → i ≤ ys.length → Ev (fun k => Zat.l0 k xs ys xs (xs.length : Int) (i : Int)) (cmpL (xs.drop i) (ys.drop i)) := by
    intro d
    induction d with
    | zero =>
      intro i hi hy
      have e : i = xs.length := by omega
      subst e
      refine ev_end fun k => ?_
      simp only [Zat.l0]
      rw [if_neg (by omega), List.drop_length]
      by_cases h : (xs.length : Int) < (ys.length : Int)
      · rw [if_pos h, List.drop_eq_getElem_cons (by omega)]
        rfl
      · rw [if_neg h, List.drop_eq_nil_of_le (by omega)]
        rfl
    | succ d ih =>
      intro i hi hy
      have hil : i < xs.length := by omega
      by_cases hyl : i < ys.length
      · rw [List.drop_eq_getElem_cons hil, List.drop_eq_getElem_cons hyl, cmpL_cons]
        by_cases h0 : cmpI xs[i] ys[i] = 0
        · rw [if_pos h0]
          refine ev_step _ (fun k => ?_) (ih (i + 1) (by omega) (by omega))
          simp only [Zat.l0]
          rw [if_pos (by omega), if_pos (by omega), if_pos (by omega), if_neg (by omega), if_pos (by omega), rd_at xs i hil, rd_at ys i hyl, cmp64_is, Option.bind_some, if_pos h0, Zao (by omega) (by omega)]
          rfl
        · rw [if_neg h0]
          refine ev_end fun k => ?_
          simp only [Zat.l0]
          rw [if_pos (by omega), if_pos (by omega), if_pos (by omega), if_neg (by omega), if_pos (by omega), rd_at xs i hil, rd_at ys i hyl, cmp64_is, Option.bind_some, if_neg h0]
      · rw [List.drop_eq_getElem_cons hil, List.drop_eq_nil_of_le (show ys.length ≤ i by omega)]
        refine ev_end fun k => ?_
        simp only [Zat.l0]
        rw [if_pos (by omega), if_pos (by omega), if_pos (by omega), if_pos (by omega)]
        rfl
  have h := key xs.length 0 (by omega) (by omega)
  rw [List.drop_zero, List.drop_zero] at h
  exact h
theorem or3_ev (x y z : Int) : Ev (fun k => Zay.f k [x, y, z]) (if x = 0 then if y = 0 then z else y else x) := by
  have w1 : wrap64 (0 + 1) = 1 := Zao (by omega) (by omega)
  have w2 : wrap64 (1 + 1) = 2 := Zao (by omega) (by omega)
  have w3 : wrap64 (2 + 1) = 3 := Zao (by omega) (by omega)
  refine ev_mk 4 fun k hk => ?_
  obtain ⟨k, rfl⟩ : ∃ m, k = m + 4 := ⟨k - 4, by omega⟩
  have r0 : rd [x, y, z] 0 = x := rfl
  have r1 : rd [x, y, z] 1 = y := rfl
  have r2 : rd [x, y, z] 2 = z := rfl
  simp only [Zay.f, Zay.l0, List.length_cons, List.length_nil, r0, w1, r1, w2, r2, w3]
  by_cases hx : x = 0
  · by_cases hy : y = 0
    · by_cases hz : z = 0
      · simp [hx, hy, hz]
      · simp [hx, hy, hz]
    · simp [hx, hy]
  · simp [hx]
theorem compareCalls_ev (a b : S35) (ha : a.f2.length ≤ 1048576) (hb : b.f2.length ≤ 1048576) : Ev (fun k => Zau.f k a.f0 a.f1 a.f2 b.f0 b.f1 b.f2) (cmpC a b) := by
  have e : cmpC a b = if cmpI a.f0 b.f0 = 0 then if cmpI a.f1 b.f1 = 0 then cmpL a.f2 b.f2 else cmpI a.f1 b.f1 else cmpI a.f0 b.f0 := by
    unfold cmpC keyC
    rw [cmpL_cons, cmpL_cons]
  rw [e]
  obtain ⟨K1, h1⟩ := ev_get (compareU64_ev a.f2 b.f2 ha hb)
  obtain ⟨K2, h2⟩ := ev_get (or3_ev (cmpI a.f0 b.f0) (cmpI a.f1 b.f1) (cmpL a.f2 b.f2))
  refine ev_mk (K1 + K2) fun k hk => ?_
  unfold Zau.f
  rw [cmp32_is, Option.bind_some, cmp32_is, Option.bind_some, h1 k (by omega), Option.bind_some, h2 k (by omega), Option.bind_some]
theorem order_ev (a b : S35) (ha : a.f2.length ≤ 1048576) (hb : b.f2.length ≤ 1048576) : Ev (fun k => Zag.f k a.f0 a.f1 a.f2 b.f0 b.f1 b.f2) (cmpC a b) := by
  have e : cmpC a b = if cmpI a.f0 b.f0 = 0 then if cmpI a.f1 b.f1 = 0 then cmpL a.f2 b.f2 else cmpI a.f1 b.f1 else cmpI a.f0 b.f0 := by
    unfold cmpC keyC
    rw [cmpL_cons, cmpL_cons]
  have ci : ∀ x y : Int, ¬ (x = y) → cmpI x y = if x < y then -1 else 1 := fun x y h => by
    unfold cmpI
    by_cases a : x < y
    · rw [if_pos a, if_pos a]
    · rw [if_neg a, if_neg a, if_pos (by omega)]
  have ce : ∀ x : Int, cmpI x x = 0 := fun x => by unfold cmpI; rw [if_neg (by omega), if_neg (by omega)]
  by_cases h0 : a.f0 = b.f0
  · by_cases h1 : a.f1 = b.f1
    · have key : ∀ d i : Nat, i + d = a.f2.length → i ≤ b.f2.length → Ev (fun k => Zag.l0 k (i : Int) a.f0 a.f1 a.f2 b.f0 b.f1 b.f2) (cmpL (a.f2.drop i) (b.f2.drop i)) := by
        intro d
        induction d with
        | zero =>
          intro i hi hib
          have e : i = a.f2.length := by omega
          subst e
          refine ev_mk 2 fun k hk => ?_
          obtain ⟨k, rfl⟩ : ∃ m, k = m + 2 := ⟨k - 2, by omega⟩
          simp only [Zag.l0, Zag.j1]
          rw [if_neg (by omega), if_neg (by decide), List.drop_length]
          by_cases h : (a.f2.length : Int) < (b.f2.length : Int)
          · rw [if_pos h, List.drop_eq_getElem_cons (by omega)]
            rfl
          · rw [if_neg h, if_neg (by omega), List.drop_eq_nil_of_le (by omega)]
            rfl
        | succ d ih =>
          intro i hi hib
          have hil : i < a.f2.length := by omega
          by_cases hyl : i < b.f2.length
          · have hd : decide ((i : Int) < (b.f2.length : Int)) = true := decide_eq_true (by omega)
            rw [List.drop_eq_getElem_cons hil, List.drop_eq_getElem_cons hyl, cmpL_cons]
            by_cases hlt : a.f2[i] < b.f2[i]
            · have hc : cmpI a.f2[i] b.f2[i] = -1 := by unfold cmpI; rw [if_pos hlt]
              rw [hc, if_neg (by decide)]
              refine ev_mk 2 fun k hk => ?_
              obtain ⟨k, rfl⟩ : ∃ m, k = m + 2 := ⟨k - 2, by omega⟩
              simp only [Zag.l0, Zag.j1]
              rw [if_pos (by omega), hd, if_pos rfl, if_pos (by omega), if_pos (by omega), if_pos (by omega), rd_at _ i hil, rd_at _ i hyl, if_pos hlt]
            · by_cases hgt : b.f2[i] < a.f2[i]
              · have hc : cmpI a.f2[i] b.f2[i] = 1 := by unfold cmpI; rw [if_neg hlt, if_pos hgt]
                rw [hc, if_neg (by decide)]
                refine ev_mk 2 fun k hk => ?_
                obtain ⟨k, rfl⟩ : ∃ m, k = m + 2 := ⟨k - 2, by omega⟩
                simp only [Zag.l0, Zag.j1]
                rw [if_pos (by omega), hd, if_pos rfl, if_pos (by omega), if_pos (by omega), if_pos (by omega), rd_at _ i hil, rd_at _ i hyl, if_neg hlt, if_pos hgt]
              · have hc : cmpI a.f2[i] b.f2[i] = 0 := by unfold cmpI; rw [if_neg hlt, if_neg hgt]
                rw [hc, if_pos rfl]
                obtain ⟨K, h⟩ := ev_get (ih (i + 1) (by omega) (by omega))
                refine ev_mk (K + 2) fun k hk => ?_
                obtain ⟨k, rfl⟩ : ∃ m, k = m + 2 := ⟨k - 2, by omega⟩
                simp only [Zag.l0, Zag.j1]
                rw [if_pos (by omega), hd, if_pos rfl, if_pos (by omega), if_pos (by omega), if_pos (by omega), rd_at _ i hil, rd_at _ i hyl, if_neg hlt, if_neg hgt, Zao (by omega) (by omega)]
                exact h k (by omega)
          · have hd : decide ((i : Int) < (b.f2.length : Int)) = false := decide_eq_false (by omega)
            rw [List.drop_eq_getElem_cons hil, List.drop_eq_nil_of_le (show b.f2.length ≤ i by omega)]
            refine ev_mk 2 fun k hk => ?_
            obtain ⟨k, rfl⟩ : ∃ m, k = m + 2 := ⟨k - 2, by omega⟩
            simp only [Zag.l0, Zag.j1]
            rw [if_pos (by omega), hd, if_neg (by decide), if_neg (by omega), if_pos (by omega)]
            rfl
      have h := key a.f2.length 0 (by omega) (by omega)
      rw [List.drop_zero, List.drop_zero] at h
      rw [e, h0, h1, ce, ce, if_pos rfl, if_pos rfl]
      refine Ev.congr (fun k => ?_) h
      unfold Zag.f
      rw [h0, h1, if_pos rfl, if_pos rfl]
      rfl
    · rw [e, h0, ce, if_pos rfl, ci _ _ h1]
      refine ev_is fun k => ?_
      unfold Zag.f
      by_cases h2 : a.f1 < b.f1
      · simp [h1, h2]
      · simp [h1, h2]
  · rw [e, ci _ _ h0]
    refine ev_is fun k => ?_
    unfold Zag.f
    by_cases h2 : a.f0 < b.f0
    · simp [h0, h2]
    · simp [h0, h2]
def SortedC (l : List S35) : Prop := l.Pairwise (fun a b => ltL (keyC a) (keyC b) = true)
def insC (c : S35) : List S35 → List S35
  | [] => [c]
  | x :: xs => if ltL (keyC c) (keyC x) then c :: x :: xs else if ltL (keyC x) (keyC c) then x :: insC c xs else x :: xs
def distC (l : List S35) : List S35 := l.foldr insC []
theorem mem_insC (c y : S35) : ∀ l, y ∈ insC c l ↔ y = c ∨ y ∈ l
  | [] => by simp [insC]
  | x :: xs => by
    unfold insC
    split
    · simp
    · rename_i h1
      split
      · rw [List.mem_cons, mem_insC c y xs, List.mem_cons]
        constructor
        · rintro (h | h | h)
          · exact .inr (.inl h)
          · exact .inl h
          · exact .inr (.inr h)
        · rintro (h | h | h)
          · exact .inr (.inl h)
          · exact .inl h
          · exact .inr (.inr h)
      · rename_i h2
        have e := keyC_inj (ltL_eq _ _ (by simpa using h1) (by simpa using h2))
        subst e
        simp
theorem sorted_insC (c : S35) : ∀ l, SortedC l → SortedC (insC c l)
  | [], _ => by simp [insC, SortedC]
  | x :: xs, h => by
    have hc := List.pairwise_cons.1 h
    unfold insC
    split
    · rename_i h1
      refine List.pairwise_cons.2 ⟨fun y hy => ?_, h⟩
      rcases List.mem_cons.1 hy with rfl | hy
      · exact h1
      · exact ltL_trans _ _ _ h1 (hc.1 y hy)
    · split
      · rename_i h2
        refine List.pairwise_cons.2 ⟨fun y hy => ?_, sorted_insC c xs hc.2⟩
        rcases (mem_insC c y xs).1 hy with rfl | hy
        · exact h2
        · exact hc.1 y hy
      · exact h
theorem sorted_distC : ∀ l, SortedC (distC l)
  | [] => List.Pairwise.nil
  | x :: xs => sorted_insC x _ (sorted_distC xs)
theorem mem_distC (y : S35) : ∀ l, y ∈ distC l ↔ y ∈ l
  | [] => Iff.rfl
  | x :: xs => by
    show y ∈ insC x (distC xs) ↔ _
    rw [mem_insC, mem_distC y xs, List.mem_cons]
theorem sorted_one : ∀ (a b : List S35), SortedC a → SortedC b → (∀ c, c ∈ a ↔ c ∈ b) → a = b
  | [], [], _, _, _ => rfl
  | x :: xs, [], _, _, h => absurd ((h x).1 (List.mem_cons_self ..)) (by simp)
  | [], y :: ys, _, _, h => absurd ((h y).2 (List.mem_cons_self ..)) (by simp)
  | x :: xs, y :: ys, ha, hb, h => by
    have hca := List.pairwise_cons.1 ha
    have hcb := List.pairwise_cons.1 hb
    have e : x = y := by
      rcases List.mem_cons.1 ((h x).1 (List.mem_cons_self ..)) with e | h1
      · exact e
      · rcases List.mem_cons.1 ((h y).2 (List.mem_cons_self ..)) with e | h2
        · exact e.symm
        · have h3 := ltL_trans _ _ _ (hcb.1 x h1) (hca.1 y h2)
          rw [ltL_irrefl] at h3
          exact absurd h3 (by decide)
    subst e
    have hne : ∀ l : List S35, (∀ z ∈ l, ltL (keyC x) (keyC z) = true) → x ∉ l := fun l hl hx => by
      have := hl x hx
      rw [ltL_irrefl] at this
      exact absurd this (by decide)
    rw [sorted_one xs ys hca.2 hcb.2 (fun c => ⟨fun hc => ?_, fun hc => ?_⟩)]
    · rcases List.mem_cons.1 ((h c).1 (List.mem_cons_of_mem _ hc)) with rfl | h1
      · exact absurd hc (hne xs hca.1)
      · exact h1
    · rcases List.mem_cons.1 ((h c).2 (List.mem_cons_of_mem _ hc)) with rfl | h1
      · exact absurd hc (hne ys hcb.1)
      · exact h1
end Go.Proofs.Ytjpjfkmnfppgkaa.P

namespace Go.Proofs.Ytjpjfkmnfppgkaa.P
open Go.RowKit Go.Proofs.YtjpjfkmnfppgkaaW.PrintWords Go.Proofs.YtjpjfkmnfppgkaaW.PrintLast Go.Proofs.YtjpjfkmnfppgkaaW.PrintMore
attribute [local go_sem] max2_int min2_int max_two min_two max_three min_three max_four min_four
set_option linter.unusedVariables false
set_option linter.unusedSimpArgs false

def spec_l2copy.f (a0_0 : Int) (a0_1 : Int) (l0_2 : List Int) : Option (Int × Int × List Int) := if ([] : List Int).length + l0_2.length < 17592186044416 then (some (a0_0, a0_1, (([] : List Int) ++ l0_2))) else (none)
set_option maxHeartbeats 8000000 in
set_option maxRecDepth 100000 in
theorem spec_l2copy.calls (a0_0 : Int) (a0_1 : Int) (A0_2 : Option Addr) (c0_2 : Nat) (l0_2 : List Int) (r1 : Int) (r2 : Int) (r3 : List Int) (w : World) (hr0_2 : Kd.C (Kd.int .u64) w A0_2 l0_2.length l0_2) (hc0_2 : l0_2.length ≤ c0_2) (h : spec_l2copy.f a0_0 a0_1 l0_2 = some (r1, r2, r3)) :
  Calls Try.prog 12 #[.agg #[.int .u32 a0_0, .int .u32 a0_1, .slice A0_2 l0_2.length c0_2]] w fun e w' => ∃ v2_ : Value, e = .returned (.agg #[.int .u32 r1, .int .u32 r2, v2_]) ∧ Kd.R (Kd.int .u64) 42 w' w.heap.size (fun _ => True) v2_ r3 ∧ Below w.heap.size w w' := by
 have hu35 := Try.underlying35
 have HR0_2 := Za.mk hr0_2
 have HC0_2 := Za.mk hc0_2
 clear hr0_2 hc0_2
 have HB := Za.mk (Below.refl w.heap.size w)
 have H : (if ([] : List Int).length + l0_2.length < 17592186044416 then (some (a0_0, a0_1, (([] : List Int) ++ l0_2))) else (none)) = some (r1, r2, r3) := h
 clear h
 by_cases c2 : ([] : List Int).length + l0_2.length < 17592186044416
 ·rw [if_pos c2] at H
  have LMc2 := Za.mk c2
  clear c2
  obtain ⟨y107, hy107⟩ : ∃ y_ : List Int, y_ = (([] : List Int) ++ l0_2) := ⟨_, rfl⟩
  replace H : (some (a0_0, a0_1, y107)) = some (r1, r2, r3) := by first | (rw [hy107]; with_reducible exact H) | (have H2_ := (Option.bind_some _ _).symm.trans H; rw [hy107]; with_reducible exact H2_) | (have H2_ := (Option.bind_some _ _).symm.trans H; with_reducible exact H2_) | with_reducible exact H | (rw [hy107]; exact H) | exact H
  have Ny107 := Za.mk hy107
  clear hy107
  simp only [Option.some.injEq, Prod.mk.injEq] at H
  obtain ⟨rfl, rfl, rfl⟩ := H
  go_enter Try.func12, Try.ntmps12
  go_wp2_with (first | ((with_reducible refine Zab (N := 1) rfl ?_); refine Zad ?hg (N := 1) ?hd (cs := #[.int .u32 a0_0, .int .u32 a0_1, .slice A0_2 l0_2.length c0_2]) (t := 35) ?hr ?_; (case hd => rfl); (case hg => rfl); (case hr => first | (go_simp; done) | (go_simp; rfl)); intro gb105 hg w3 hbox hb; have BK105 := Za.mk (hbox); have GW105 := Za.mk ((by rw [hg]; exact (Zr (by repeat (first | (with_reducible first | exact HB.out | apply Zd | apply Zf | apply Ze) | exact HB.out))) : w.heap.size ≤ gb105)); have GE105 := Za.mk ((by rw [hg]; exact (Zr (by repeat (first | (with_reducible first | exact HB.out | apply Zd | apply Zf | apply Ze) | exact HB.out))) : w.heap.size ≤ gb105)); replace HB := Za.mk (Zx (by repeat (first | (with_reducible first | exact HB.out | apply Zd | apply Zf | apply Ze) | exact HB.out)) hb); clear hb hbox hg) | ((with_reducible refine Zab (N := 2) rfl ?_); refine Zad ?hg (N := 2) ?hd (cs := #[.int .u32 0, .int .u32 0, .slice none 0 0]) (t := 35) ?hr ?_; (case hd => rfl); (case hg => rfl); (case hr => first | (go_simp; done) | (go_simp; rfl)); intro gb106 hg w4 hbox hb; have BK106 := Za.mk (hbox); have GW106 := Za.mk ((by rw [hg]; exact (Zr (by repeat (first | (with_reducible first | exact HB.out | apply Zd | apply Zf | apply Ze | refine Zj ?_ GE105.out) | exact HB.out))) : w.heap.size ≤ gb106)); have GE106 := Za.mk ((by rw [hg]; exact (Zr (by repeat (first | (with_reducible first | exact HB.out | apply Zd | apply Zf | apply Ze | refine Zj ?_ GE105.out) | exact HB.out))) : w.heap.size ≤ gb106)); replace HB := Za.mk (Zx (by repeat (first | (with_reducible first | exact HB.out | apply Zd | apply Zf | apply Ze | refine Zj ?_ GE105.out) | exact HB.out)) hb); have NB105_106 := Za.mk ((by rw [hg]; exact Nat.ne_of_lt (Zaa (g := gb105) (o := .cells #[.int .u32 a0_0, .int .u32 a0_1, .slice A0_2 l0_2.length c0_2] 35 (0, 0)) (by (with_reducible repeat (first | refine Zo ?_ _ | refine Zm ?_ | refine Zn ?_ _)); exact BK105.out)) : gb105 ≠ gb106)); have NB106_105 := Za.mk ((by rw [hg]; exact Nat.ne_of_gt (Zaa (g := gb105) (o := .cells #[.int .u32 a0_0, .int .u32 a0_1, .slice A0_2 l0_2.length c0_2] 35 (0, 0)) (by (with_reducible repeat (first | refine Zo ?_ _ | refine Zm ?_ | refine Zn ?_ _)); exact BK105.out)) : gb106 ≠ gb105)); replace BK105 := Za.mk (Zak (g := gb105) (o := .cells #[.int .u32 a0_0, .int .u32 a0_1, .slice A0_2 l0_2.length c0_2] 35 (0, 0)) (by (with_reducible repeat (first | refine Zo ?_ _ | refine Zm ?_ | refine Zn ?_ _)); exact BK105.out) hb); clear hb hbox hg; have hnb5 := NB105_106.out; have hnc5 := NB106_105.out; have hcz6_0 : w4.cell? ⟨gb105, 0, none⟩ = some (.int .u32 a0_0) := (Zc BK105.out 0).trans rfl; have hcz6_1 : w4.cell? ⟨gb105, 1, none⟩ = some (.int .u32 a0_1) := (Zc BK105.out 1).trans rfl; have hcz6_2 : w4.cell? ⟨gb105, 2, none⟩ = some (.slice A0_2 l0_2.length c0_2) := (Zc BK105.out 2).trans rfl; have hfz6_0 := Zg BK105.out 0; have hfz6_1 := Zg BK105.out 1; have hfz6_2 := Zg BK105.out 2) | ((with_reducible refine gate_builtin (b := .append) (xs := #[.tmp 4, .tmp 6]) rfl ?_); at_builtin; refine Kd.R_append_rows (Kd.int .u64) (w0 := w) w.heap.size rfl (.tmp 4) (.tmp 6) 32 42 (.int .u64 0) 8 rfl Try.underlying32 info42 rfl (by decide) (by omega) (.slice none 0 0) ([] : List Int) l0_2 _ _ _ (fun _ => True) (fun _ => False) rfl rfl ?aO ?aR (fun _ _ h => h) (fun _ h => h.elim) ?aF ?aB ?aS ?aL ?_; (case aR => repeat (first | exact (Kd.Zah HR0_2.out HB.out) | (with_reducible refine Kd.Zac ?_ _) | (with_reducible refine Kd.Zaf ?_ _) | (with_reducible refine Kd.Zae ?_))); (case aB => exact (by repeat (first | (with_reducible first | exact HB.out | apply Zd | apply Zf | apply Ze | refine Zj ?_ GE105.out | refine Zj ?_ GE106.out) | exact HB.out))); (case aF => exact (fun _ _ => trivial)); (case aO => exact ((Kd.R_nil _ _ _ _ (fun _ => True)))); (case aS => exact (Zr (by repeat (first | (with_reducible first | exact HB.out | apply Zd | apply Zf | apply Ze | refine Zj ?_ GE105.out | refine Zj ?_ GE106.out) | exact HB.out)))); (case aL => have := LMc2.out; omega); intro v108 w7 ho hb hg hat; rw [← Ny107.out] at ho; replace BK105 := Za.mk (blk_grown (g := gb105) (o := .cells #[.int .u32 a0_0, .int .u32 a0_1, .slice A0_2 l0_2.length c0_2] 35 (0, 0)) (by (with_reducible repeat (first | refine Zo ?_ _ | refine Zm ?_ | refine Zn ?_ _)); exact BK105.out) hg (by simp [Value.ownBlock])); replace BK106 := Za.mk (blk_grown (g := gb106) (o := .cells #[.int .u32 0, .int .u32 0, .slice none 0 0] 35 (0, 0)) (by (with_reducible repeat (first | refine Zo ?_ _ | refine Zm ?_ | refine Zn ?_ _)); exact BK106.out) hg (by simp [Value.ownBlock])); replace HB := Za.mk (hb); have HO109 := Za.mk (ho); clear ho hb hg hat; have hcz8_0 : w7.cell? ⟨gb105, 0, none⟩ = some (.int .u32 a0_0) := (Zc BK105.out 0).trans rfl; have hcz8_1 : w7.cell? ⟨gb105, 1, none⟩ = some (.int .u32 a0_1) := (Zc BK105.out 1).trans rfl; have hcz8_2 : w7.cell? ⟨gb105, 2, none⟩ = some (.slice A0_2 l0_2.length c0_2) := (Zc BK105.out 2).trans rfl; have hfz8_0 := Zg BK105.out 0; have hfz8_1 := Zg BK105.out 1; have hfz8_2 := Zg BK105.out 2; obtain ⟨Ao9, co9, eo9⟩ := Kd.R_slice HO109.out; subst eo9; have hcz10_0 : w7.cell? ⟨gb106, 0, none⟩ = some (.int .u32 0) := (Zc BK106.out 0).trans rfl; have hcz10_1 : w7.cell? ⟨gb106, 1, none⟩ = some (.int .u32 0) := (Zc BK106.out 1).trans rfl; have hcz10_2 : w7.cell? ⟨gb106, 2, none⟩ = some (.slice none 0 0) := (Zc BK106.out 2).trans rfl; have hfz10_0 := Zg BK106.out 0; have hfz10_1 := Zg BK106.out 1; have hfz10_2 := Zg BK106.out 2))
  refine bodyPost_ret (results_cell_row rfl _ _ gb106 35 #[.int .u32 a0_0, .int .u32 a0_1, .slice Ao9 y107.length co9] (0, 0) _ rfl (by (with_reducible repeat (first | refine Zo ?_ _ | refine Zm ?_ | refine Zn ?_ _)); refine blk_put (cs := #[.int .u32 a0_0, .int .u32 a0_1, .slice none 0 0]) ?_ 2 _ rfl; (with_reducible repeat (first | refine Zo ?_ _ | refine Zm ?_ | refine Zn ?_ _)); refine blk_put (cs := #[.int .u32 a0_0, .int .u32 0, .slice none 0 0]) ?_ 1 _ rfl; (with_reducible repeat (first | refine Zo ?_ _ | refine Zm ?_ | refine Zn ?_ _)); refine blk_put (cs := #[.int .u32 0, .int .u32 0, .slice none 0 0]) ?_ 0 _ rfl; (with_reducible repeat (first | refine Zo ?_ _ | refine Zm ?_ | refine Zn ?_ _)); exact BK106.out) Try.underlying35 rfl (by kernel_rfl)) rfl ?_
  exact ⟨_, by first | rfl | (simp [Zy, Zz] <;> rfl) | (simp [*, Zy, Zz] <;> rfl), by (with_reducible repeat (first | apply Kd.R_alloc | apply Kd.R_drewN | apply Kd.R_drew)); exact Kd.R_mono (Kd.R_far (p := ⟨gb106, 2, none⟩) (Kd.R_far (p := ⟨gb106, 1, none⟩) (Kd.R_far (p := ⟨gb106, 0, none⟩) (Kd.R_types HO109.out BK106.out (by decide)) (fun _ hk => hk.2) (.int .u32 a0_0)) (fun _ hk => hk.2) (.int .u32 a0_1)) (fun _ hk => hk.2) (.slice Ao9 y107.length co9)) (fun _ hk => trivial), by repeat (first | (with_reducible first | exact HB.out | apply Zd | apply Zf | apply Ze | refine Zj ?_ GE105.out | refine Zj ?_ GE106.out) | exact HB.out)⟩
 ·rw [if_neg c2] at H
  exact absurd H (by simp)

end Go.Proofs.Ytjpjfkmnfppgkaa.P
