import Derived.Test.YtjpjfkmnfppgkaaGFnExactDistinct9
import Derived.Test.YtjpjfkmnfppgkaaGFnExactDistinct10
import Derived.Test.YtjpjfkmnfppgkaaGFnExactDistinct6
namespace Go.Proofs.Ytjpjfkmnfppgkaa.P
open Go.RowKit Go.Proofs.YtjpjfkmnfppgkaaW.PrintWords Go.Proofs.YtjpjfkmnfppgkaaW.PrintLast Go.Proofs.YtjpjfkmnfppgkaaW.PrintMore
set_option linter.unusedVariables false
set_option linter.unusedSimpArgs false
def leC (a b : S35) : Prop := ltL (keyC b) (keyC a) = false
theorem leC_trans {a b c : S35} (h1 : leC a b) (h2 : leC b c) : leC a c := ltL_ntrans _ _ _ h2 h1
theorem leC_refl (a : S35) : leC a a := ltL_irrefl _
theorem leC_of_lt {a b : S35} (h : ltL (keyC a) (keyC b) = true) : leC a b := ltL_asymm _ _ h
theorem cmpC_le {a b : S35} (h : cmpC a b ≤ 0) : leC a b := by
  unfold cmpC cmpL at h
  unfold leC
  cases h1 : ltL (keyC b) (keyC a) with
  | false => rfl
  | true =>
    rw [ltL_asymm _ _ h1, h1] at h
    exact absurd h (by decide)
theorem cmpC_gt {a b : S35} (h : ¬ cmpC a b ≤ 0) : leC b a := by
  unfold cmpC cmpL at h
  unfold leC
  cases h1 : ltL (keyC a) (keyC b) with
  | false => rfl
  | true => rw [h1, if_pos rfl] at h; exact absurd (by decide) h
def putC (acc : List S35) (c : S35) : List S35 := if acc.length = 0 then acc ++ [c] else if cmpC (acc.getD (acc.length - 1) z35) c = 0 then acc else acc ++ [c]
theorem putC_len (acc : List S35) (c : S35) : (putC acc c).length ≤ acc.length + 1 := by
  unfold putC
  split
  · simp
  · split
    · omega
    · simp
theorem last_mem (acc : List S35) (h : acc.length ≠ 0) : acc.getD (acc.length - 1) z35 ∈ acc := by
  rw [List.getD_eq_getElem?_getD, List.getElem?_eq_getElem (show acc.length - 1 < acc.length by omega)]
  exact List.getElem_mem _
theorem last_le (acc : List S35) (hs : SortedC acc) (a : S35) (ha : a ∈ acc) : a = acc.getD (acc.length - 1) z35 ∨ ltL (keyC a) (keyC (acc.getD (acc.length - 1) z35)) = true := by
  obtain ⟨j, hj, rfl⟩ := List.getElem_of_mem ha
  rw [List.getD_eq_getElem?_getD, List.getElem?_eq_getElem (show acc.length - 1 < acc.length by omega)]
  rcases Nat.lt_or_ge j (acc.length - 1) with h | h
  · exact .inr (List.pairwise_iff_getElem.1 hs j (acc.length - 1) hj (by omega) h)
  · left
    have e : j = acc.length - 1 := by omega
    subst e
    rfl
theorem putC_is (acc : List S35) (c : S35) (hs : SortedC acc) (hle : ∀ a ∈ acc, leC a c) : SortedC (putC acc c) ∧ (∀ y, y ∈ putC acc c ↔ y ∈ acc ∨ y = c) ∧ ∀ a ∈ putC acc c, leC a c := by
  unfold putC
  by_cases h0 : acc.length = 0
  · have e : acc = [] := List.eq_nil_of_length_eq_zero h0
    subst e
    rw [if_pos h0]
    refine ⟨by simp [SortedC], fun y => by simp, fun a ha => ?_⟩
    simp only [List.nil_append, List.mem_singleton] at ha
    subst ha
    exact leC_refl _
  · rw [if_neg h0]
    have hl := last_mem acc h0
    by_cases hq : cmpC (acc.getD (acc.length - 1) z35) c = 0
    · rw [if_pos hq]
      have he := (cmpC_eq _ _).1 hq
      refine ⟨hs, fun y => ⟨fun h => .inl h, fun h => ?_⟩, hle⟩
      rcases h with h | rfl
      · exact h
      · rw [← he]; exact hl
    · rw [if_neg hq]
      have hlt : ltL (keyC (acc.getD (acc.length - 1) z35)) (keyC c) = true := by
        cases h : ltL (keyC (acc.getD (acc.length - 1) z35)) (keyC c) with
        | true => rfl
        | false => exact absurd ((cmpC_eq _ _).2 (keyC_inj (ltL_eq _ _ h (hle _ hl)))) hq
      refine ⟨List.pairwise_append.2 ⟨hs, by simp, fun a ha b hb => ?_⟩, fun y => by rw [List.mem_append, List.mem_singleton], fun a ha => ?_⟩
      · rw [List.mem_singleton] at hb
        subst hb
        rcases last_le acc hs a ha with h | h
        · rw [h]; exact hlt
        · exact ltL_trans _ _ _ h hlt
      · rcases List.mem_append.1 ha with h | h
        · exact hle a h
        · rw [List.mem_singleton] at h
          subst h
          exact leC_refl _
theorem rdC_at (xs : List S35) (i : Nat) (h : i < xs.length) : Zb xs (i : Int) = xs[i] := by
  simp [Zb, List.getD_eq_getElem?_getD, List.getElem?_eq_getElem h]
theorem rdC_last (xs : List S35) (h : xs.length ≠ 0) (hl : xs.length ≤ 4194304) : Zb xs (wrap64 ((xs.length : Int) - 1)) = xs.getD (xs.length - 1) z35 := by
  rw [Zao (by omega) (by omega)]
  show xs.getD (((xs.length : Int) - 1).toNat) z35 = _
  congr 1
  omega
def shortC (l : List S35) : Prop := l.length ≤ 1048576 ∧ ∀ c ∈ l, c.f2.length ≤ 1048576
theorem j3_ev (acc x y : List S35) (i j : Nat) (b : Bool) (hx : shortC x) (hy : shortC y) (ha : acc.length ≤ 2097152 ∧ ∀ c ∈ acc, c.f2.length ≤ 1048576) (hi : b = true → i < x.length) (hj : b = false → j < y.length) (r : List S35)
    (h1 : ∀ h : b = true, Ev (fun k => Zp.l1 k (putC acc (x[i]'(hi h))) x y ((i + 1 : Nat) : Int) (j : Int)) r) (h2 : ∀ h : b = false, Ev (fun k => Zp.l1 k (putC acc (y[j]'(hj h))) x y (i : Int) ((j + 1 : Nat) : Int)) r) : Ev (fun k => Zp.j3 k acc x y (i : Int) (j : Int) b) r := by
  have hxl := hx.1
  have hyl := hy.1
  cases b with
  | true =>
    have hil := hi rfl
    have h := h1 rfl
    obtain ⟨K, hk⟩ := ev_get h
    have e1 : wrap64 ((i : Int) + 1) = ((i + 1 : Nat) : Int) := by rw [Zao (by omega) (by omega)]; omega
    by_cases h0 : acc.length = 0
    · refine ev_mk (K + 1) fun k hk2 => ?_
      obtain ⟨k, rfl⟩ : ∃ m, k = m + 1 := ⟨k - 1, by omega⟩
      have := hk k (by omega)
      unfold putC at this
      rw [if_pos h0] at this
      simp only [Zp.j3, if_true]
      rw [if_pos (by omega), if_pos (by omega), if_pos (by omega), if_pos (by omega), rdC_at x i hil, e1]
      exact this
    · obtain ⟨K2, hk2⟩ := ev_get (order_ev (acc.getD (acc.length - 1) z35) x[i] (ha.2 _ (last_mem acc h0)) (hx.2 _ (List.getElem_mem hil)))
      refine ev_mk (K + K2 + 1) fun k hk3 => ?_
      obtain ⟨k, rfl⟩ : ∃ m, k = m + 1 := ⟨k - 1, by omega⟩
      have := hk k (by omega)
      unfold putC at this
      rw [if_neg h0] at this
      simp only [Zp.j3, if_true]
      rw [if_pos (by omega), if_pos (by omega), if_neg (by omega), rdC_last acc h0 (by omega), Zao (i := (acc.length : Int) - 1) (by omega) (by omega), if_pos (by omega), if_pos (by omega), rdC_at x i hil, hk2 k (by omega), Option.bind_some, e1]
      by_cases hq : cmpC (acc.getD (acc.length - 1) z35) x[i] = 0
      · rw [if_pos hq] at this ⊢
        exact this
      · rw [if_neg hq] at this ⊢
        rw [if_pos (by omega)]
        exact this
  | false =>
    have hjl := hj rfl
    have h := h2 rfl
    obtain ⟨K, hk⟩ := ev_get h
    have e1 : wrap64 ((j : Int) + 1) = ((j + 1 : Nat) : Int) := by rw [Zao (by omega) (by omega)]; omega
    by_cases h0 : acc.length = 0
    · refine ev_mk (K + 1) fun k hk2 => ?_
      obtain ⟨k, rfl⟩ : ∃ m, k = m + 1 := ⟨k - 1, by omega⟩
      have := hk k (by omega)
      unfold putC at this
      rw [if_pos h0] at this
      simp only [Zp.j3, Bool.false_eq_true, if_false]
      rw [if_pos (by omega), if_pos (by omega), if_pos (by omega), if_pos (by omega), rdC_at y j hjl, e1]
      exact this
    · obtain ⟨K2, hk2⟩ := ev_get (order_ev (acc.getD (acc.length - 1) z35) y[j] (ha.2 _ (last_mem acc h0)) (hy.2 _ (List.getElem_mem hjl)))
      refine ev_mk (K + K2 + 1) fun k hk3 => ?_
      obtain ⟨k, rfl⟩ : ∃ m, k = m + 1 := ⟨k - 1, by omega⟩
      have := hk k (by omega)
      unfold putC at this
      rw [if_neg h0] at this
      simp only [Zp.j3, Bool.false_eq_true, if_false]
      rw [if_pos (by omega), if_pos (by omega), if_neg (by omega), rdC_last acc h0 (by omega), Zao (i := (acc.length : Int) - 1) (by omega) (by omega), if_pos (by omega), if_pos (by omega), rdC_at y j hjl, hk2 k (by omega), Option.bind_some, e1]
      by_cases hq : cmpC (acc.getD (acc.length - 1) z35) y[j] = 0
      · rw [if_pos hq] at this ⊢
        exact this
      · rw [if_neg hq] at this ⊢
        rw [if_pos (by omega)]
        exact this
theorem merge_ev (x y : List S35) (hx : shortC x) (hy : shortC y) (sx : SortedC x) (sy : SortedC y) : ∀ (d i j : Nat) (acc : List S35), (x.length - i) + (y.length - j) = d → i ≤ x.length → j ≤ y.length → acc.length ≤ i + j → (∀ c ∈ acc, c.f2.length ≤ 1048576) → SortedC acc → (∀ a ∈ acc, ∀ c, c ∈ x.drop i ∨ c ∈ y.drop j → leC a c) →
    ∃ r, Ev (fun k => Zp.l1 k acc x y (i : Int) (j : Int)) r ∧ SortedC r ∧ ∀ c, c ∈ r ↔ c ∈ acc ∨ c ∈ x.drop i ∨ c ∈ y.drop j := by
  have hxl := hx.1
  have hyl := hy.1
  intro d
  induction d with
  | zero =>
    intro i j acc hd hi hj hal hac hs hle
    refine ⟨acc, ?_, hs, fun c => ?_⟩
    · refine ev_mk 2 fun k hk => ?_
      obtain ⟨k, rfl⟩ : ∃ m, k = m + 2 := ⟨k - 2, by omega⟩
      simp only [Zp.l1, Zp.j2]
      rw [if_neg (by omega), decide_eq_false (by omega), if_neg (by decide)]
    · rw [List.drop_eq_nil_of_le (by omega), List.drop_eq_nil_of_le (by omega)]
      simp
  | succ d ih =>
    intro i j acc hd hi hj hal hac hs hle
    have takeX : ∀ (hil : i < x.length), (∀ c, c ∈ y.drop j → leC x[i] c) → ∃ r, Ev (fun k => Zp.l1 k (putC acc x[i]) x y ((i + 1 : Nat) : Int) (j : Int)) r ∧ SortedC r ∧ ∀ c, c ∈ r ↔ c ∈ acc ∨ c ∈ x.drop i ∨ c ∈ y.drop j := fun hil hyle => by
      have hd1 := List.drop_eq_getElem_cons hil
      have hp := putC_is acc x[i] hs (fun a ha => hle a ha _ (.inl (by rw [hd1]; exact List.mem_cons_self ..)))
      have sdx : SortedC (x[i] :: x.drop (i + 1)) := by rw [← hd1]; exact List.Pairwise.drop sx
      obtain ⟨r, hr1, hr2, hr3⟩ := ih (i + 1) j (putC acc x[i]) (by omega) (by omega) hj (by have := putC_len acc x[i]; omega) (fun c hc => by
        rcases (hp.2.1 c).1 hc with h | rfl
        · exact hac c h
        · exact hx.2 _ (List.getElem_mem hil)) hp.1 (fun a ha c hc => by
          refine leC_trans (hp.2.2 a ha) ?_
          rcases hc with h | h
          · exact leC_of_lt ((List.pairwise_cons.1 sdx).1 c h)
          · exact hyle c h)
      refine ⟨r, hr1, hr2, fun c => ?_⟩
      rw [hr3 c, hp.2.1 c, hd1, List.mem_cons]
      constructor
      · rintro ((h | h) | h | h)
        · exact .inl h
        · exact .inr (.inl (.inl h))
        · exact .inr (.inl (.inr h))
        · exact .inr (.inr h)
      · rintro (h | (h | h) | h)
        · exact .inl (.inl h)
        · exact .inl (.inr h)
        · exact .inr (.inl h)
        · exact .inr (.inr h)
    have takeY : ∀ (hjl : j < y.length), (∀ c, c ∈ x.drop i → leC y[j] c) → ∃ r, Ev (fun k => Zp.l1 k (putC acc y[j]) x y (i : Int) ((j + 1 : Nat) : Int)) r ∧ SortedC r ∧ ∀ c, c ∈ r ↔ c ∈ acc ∨ c ∈ x.drop i ∨ c ∈ y.drop j := fun hjl hxle => by
      have hd1 := List.drop_eq_getElem_cons hjl
      have hp := putC_is acc y[j] hs (fun a ha => hle a ha _ (.inr (by rw [hd1]; exact List.mem_cons_self ..)))
      have sdy : SortedC (y[j] :: y.drop (j + 1)) := by rw [← hd1]; exact List.Pairwise.drop sy
      obtain ⟨r, hr1, hr2, hr3⟩ := ih i (j + 1) (putC acc y[j]) (by omega) hi (by omega) (by have := putC_len acc y[j]; omega) (fun c hc => by
        rcases (hp.2.1 c).1 hc with h | rfl
        · exact hac c h
        · exact hy.2 _ (List.getElem_mem hjl)) hp.1 (fun a ha c hc => by
          refine leC_trans (hp.2.2 a ha) ?_
          rcases hc with h | h
          · exact hxle c h
          · exact leC_of_lt ((List.pairwise_cons.1 sdy).1 c h))
      refine ⟨r, hr1, hr2, fun c => ?_⟩
      rw [hr3 c, hp.2.1 c, hd1, List.mem_cons]
      constructor
      · rintro ((h | h) | h | h)
        · exact .inl h
        · exact .inr (.inr (.inl h))
        · exact .inr (.inl h)
        · exact .inr (.inr (.inr h))
      · rintro (h | h | h | h)
        · exact .inl (.inl h)
        · exact .inr (.inl h)
        · exact .inl (.inr h)
        · exact .inr (.inr h)
    have hacc : acc.length ≤ 2097152 ∧ ∀ c ∈ acc, c.f2.length ≤ 1048576 := ⟨by omega, hac⟩
    by_cases hil : i < x.length
    · by_cases hjl : j < y.length
      · obtain ⟨K, hk⟩ := ev_get (order_ev x[i] y[j] (hx.2 _ (List.getElem_mem hil)) (hy.2 _ (List.getElem_mem hjl)))
        by_cases hq : cmpC x[i] y[j] ≤ 0
        · obtain ⟨r, hr1, hr2⟩ := takeX hil (fun c hc => by
            rw [List.drop_eq_getElem_cons hjl] at hc
            rcases List.mem_cons.1 hc with rfl | h
            · exact cmpC_le hq
            · have sdy : SortedC (y[j] :: y.drop (j + 1)) := by rw [← List.drop_eq_getElem_cons hjl]; exact List.Pairwise.drop sy
              exact leC_trans (cmpC_le hq) (leC_of_lt ((List.pairwise_cons.1 sdy).1 c h)))
          refine ⟨r, ?_, hr2⟩
          obtain ⟨K2, hk2⟩ := ev_get (j3_ev acc x y i j true hx hy hacc (fun _ => hil) (fun h => absurd h (by decide)) r (fun _ => hr1) (fun h => absurd h (by decide)))
          refine ev_mk (K + K2 + 2) fun k hk3 => ?_
          obtain ⟨k, rfl⟩ : ∃ m, k = m + 2 := ⟨k - 2, by omega⟩
          simp only [Zp.l1, Zp.j2, if_true]
          rw [if_pos (by omega), if_neg (by omega), if_pos (by omega), if_pos (by omega), if_pos (by omega), if_pos (by omega), rdC_at x i hil, rdC_at y j hjl, hk k (by omega), Option.bind_some, decide_eq_true hq]
          exact hk2 k (by omega)
        · obtain ⟨r, hr1, hr2⟩ := takeY hjl (fun c hc => by
            rw [List.drop_eq_getElem_cons hil] at hc
            rcases List.mem_cons.1 hc with rfl | h
            · exact cmpC_gt hq
            · have sdx : SortedC (x[i] :: x.drop (i + 1)) := by rw [← List.drop_eq_getElem_cons hil]; exact List.Pairwise.drop sx
              exact leC_trans (cmpC_gt hq) (leC_of_lt ((List.pairwise_cons.1 sdx).1 c h)))
          refine ⟨r, ?_, hr2⟩
          obtain ⟨K2, hk2⟩ := ev_get (j3_ev acc x y i j false hx hy hacc (fun h => absurd h (by decide)) (fun _ => hjl) r (fun h => absurd h (by decide)) (fun _ => hr1))
          refine ev_mk (K + K2 + 2) fun k hk3 => ?_
          obtain ⟨k, rfl⟩ : ∃ m, k = m + 2 := ⟨k - 2, by omega⟩
          simp only [Zp.l1, Zp.j2, if_true]
          rw [if_pos (by omega), if_neg (by omega), if_pos (by omega), if_pos (by omega), if_pos (by omega), if_pos (by omega), rdC_at x i hil, rdC_at y j hjl, hk k (by omega), Option.bind_some, decide_eq_false hq]
          exact hk2 k (by omega)
      · obtain ⟨r, hr1, hr2⟩ := takeX hil (fun c hc => by rw [List.drop_eq_nil_of_le (by omega)] at hc; simp at hc)
        refine ⟨r, ?_, hr2⟩
        obtain ⟨K2, hk2⟩ := ev_get (j3_ev acc x y i j true hx hy hacc (fun _ => hil) (fun h => absurd h (by decide)) r (fun _ => hr1) (fun h => absurd h (by decide)))
        refine ev_mk (K2 + 2) fun k hk3 => ?_
        obtain ⟨k, rfl⟩ : ∃ m, k = m + 2 := ⟨k - 2, by omega⟩
        simp only [Zp.l1, Zp.j2, if_true]
        rw [if_pos (by omega), if_pos (by omega)]
        exact hk2 k (by omega)
    · have hjl : j < y.length := by omega
      obtain ⟨r, hr1, hr2⟩ := takeY hjl (fun c hc => by rw [List.drop_eq_nil_of_le (by omega)] at hc; simp at hc)
      refine ⟨r, ?_, hr2⟩
      obtain ⟨K2, hk2⟩ := ev_get (j3_ev acc x y i j false hx hy hacc (fun h => absurd h (by decide)) (fun _ => hjl) r (fun h => absurd h (by decide)) (fun _ => hr1))
      refine ev_mk (K2 + 2) fun k hk3 => ?_
      obtain ⟨k, rfl⟩ : ∃ m, k = m + 2 := ⟨k - 2, by omega⟩
      simp only [Zp.l1, Zp.j2]
      rw [if_neg (by omega), decide_eq_true (by omega), if_pos rfl, if_neg (by omega), if_neg (by omega)]
      exact hk2 k (by omega)
theorem insC_len (c : S35) : ∀ l, (insC c l).length ≤ l.length + 1
  | [] => by simp [insC]
  | x :: xs => by
    unfold insC
    split
    · simp
    · split
      · have := insC_len c xs; simp; omega
      · simp
theorem distC_len : ∀ l, (distC l).length ≤ l.length
  | [] => Nat.le_refl _
  | x :: xs => by
    have := distC_len xs
    have := insC_len x (distC xs)
    show (insC x (distC xs)).length ≤ xs.length + 1
    omega
theorem distC_short {l : List S35} (h : shortC l) : shortC (distC l) := ⟨Nat.le_trans (distC_len l) h.1, fun c hc => h.2 c ((mem_distC c l).1 hc)⟩
theorem specDistinct_ev : ∀ (n : Nat) (l : List S35), l.length ≤ n → shortC l → Ev (fun k => Zp.f k l) (distC l) := by
  intro n
  induction n with
  | zero =>
    intro l hn h
    have e : l = [] := List.eq_nil_of_length_eq_zero (by omega)
    subst e
    refine ev_mk 2 fun k hk => ?_
    obtain ⟨k, rfl⟩ : ∃ m, k = m + 2 := ⟨k - 2, by omega⟩
    rfl
  | succ n ih =>
    intro l hn h
    by_cases h2 : l.length < 2
    · match l, h2, h with
      | [], _, _ =>
        refine ev_mk 2 fun k hk => ?_
        obtain ⟨k, rfl⟩ : ∃ m, k = m + 2 := ⟨k - 2, by omega⟩
        rfl
      | [c], _, h =>
        have hc := h.2 c (List.mem_singleton_self _)
        have w1 : wrap64 ((0 : Int) + 1) = 1 := Zao (by omega) (by omega)
        have r0 : Zb [c] 0 = c := rfl
        refine ev_mk 3 fun k hk => ?_
        obtain ⟨k, rfl⟩ : ∃ m, k = m + 3 := ⟨k - 3, by omega⟩
        have q1 : (([c] : List S35).length : Int) = 1 := rfl
        have q2 : ([] : List Int).length + c.f2.length < 17592186044416 := by simp; omega
        have q3 : ([] : List S35).length < 4398046511104 := by simp
        simp only [Zp.f, Zp.l0, spec_l2copy.f, r0, w1, q1]
        rw [if_pos (show (1 : Int) < 2 by decide), if_pos (show (0 : Int) < 1 by decide), if_pos (show (0 : Int) ≤ 0 by decide), if_pos q2, Option.bind_some, if_pos q3, if_neg (show ¬ ((1 : Int) < 1) by decide)]
        rfl
      | _ :: _ :: _, h2, _ => simp at h2; omega
    · have hl := h.1
      have hm : wrap64 ((l.length : Int) / 2) = ((l.length / 2 : Nat) : Int) := by rw [Zao (by omega) (by omega)]; omega
      have ht : shortC (l.take (l.length / 2)) := ⟨by rw [List.length_take]; omega, fun c hc => h.2 c (List.mem_of_mem_take hc)⟩
      have hd : shortC (l.drop (l.length / 2)) := ⟨by rw [List.length_drop]; omega, fun c hc => h.2 c (List.mem_of_mem_drop hc)⟩
      obtain ⟨K1, h1⟩ := ev_get (ih (l.take (l.length / 2)) (by rw [List.length_take]; omega) ht)
      obtain ⟨K2, h2'⟩ := ev_get (ih (l.drop (l.length / 2)) (by rw [List.length_drop]; omega) hd)
      obtain ⟨r, hr1, hr2, hr3⟩ := merge_ev (distC (l.take (l.length / 2))) (distC (l.drop (l.length / 2))) (distC_short ht) (distC_short hd) (sorted_distC _) (sorted_distC _) _ 0 0 [] rfl (Nat.zero_le _) (Nat.zero_le _) (Nat.zero_le _) (fun c hc => by simp at hc) List.Pairwise.nil (fun a ha => by simp at ha)
      have hr : r = distC l := sorted_one _ _ hr2 (sorted_distC l) (fun c => by
        rw [hr3 c, List.drop_zero, List.drop_zero, mem_distC, mem_distC, mem_distC]
        constructor
        · rintro (h | h | h)
          · simp at h
          · exact List.mem_of_mem_take h
          · exact List.mem_of_mem_drop h
        · intro hc
          rw [← List.take_append_drop (l.length / 2) l] at hc
          exact .inr (List.mem_append.1 hc))
      subst hr
      obtain ⟨K3, h3⟩ := ev_get hr1
      refine ev_mk (K1 + K2 + K3 + 1) fun k hk => ?_
      obtain ⟨k, rfl⟩ : ∃ m, k = m + 1 := ⟨k - 1, by omega⟩
      simp only [Zp.f]
      rw [if_neg (by omega), hm, if_pos (by omega), if_pos (by omega), Int.toNat_natCast, h1 k (by omega), Option.bind_some, h2' k (by omega), Option.bind_some]
      exact h3 k (by omega)
end Go.Proofs.Ytjpjfkmnfppgkaa.P

namespace Go.Proofs.Ytjpjfkmnfppgkaa.P
open Go.RowKit Go.Proofs.YtjpjfkmnfppgkaaW.PrintWords Go.Proofs.YtjpjfkmnfppgkaaW.PrintLast Go.Proofs.YtjpjfkmnfppgkaaW.PrintMore
attribute [local go_sem] max2_int min2_int max_two min_two max_three min_three max_four min_four
set_option linter.unusedVariables false
set_option linter.unusedSimpArgs false

def Zaz.l0 : Nat → List Int → List Int → Int → Option (List Int)
  | 0, _, _, _ => none
  | k + 1, x0, x3, x4 => if x4 < (x0.length : Int) then (if 0 ≤ x4 then (if x4 < (x3.length : Int) then (Zaz.l0 k x0 (x3.set (x4 : Int).toNat (rd x0 x4)) (wrap64 (x4 + 1))) else (none)) else (none)) else (some x3)
def Zaz.f (k : Nat) (l0 : List Int) : Option (List Int) := if 0 ≤ (l0.length : Int) then (if ((l0.length : Int) : Int).toNat ≤ 35184372088832 then (Zaz.l0 k l0 (List.replicate ((l0.length : Int) : Int).toNat 0) 0) else (none)) else (none)
set_option maxHeartbeats 8000000 in
set_option maxRecDepth 100000 in
theorem Zaz.calls (k : Nat) (A0 : Option Addr) (c0 : Nat) (l0 : List Int) (r : List Int) (w : World) (hr0 : Kd.C (Kd.int .u64) w A0 l0.length l0) (hc0 : l0.length ≤ c0) (h : Zaz.f k l0 = some r) :
  Calls Try.prog 22 #[.slice A0 l0.length c0] w fun e w' => ∃ v0_ : Value, e = .returned (v0_) ∧ Kd.R (Kd.int .u64) 42 w' w.heap.size (fun _ => True) v0_ r ∧ Below w.heap.size w w' := by
 have HR0 := Za.mk hr0
 have HC0 := Za.mk hc0
 clear hr0 hc0
 have HB := Za.mk (Below.refl w.heap.size w)
 have H : (if 0 ≤ (l0.length : Int) then (if ((l0.length : Int) : Int).toNat ≤ 35184372088832 then (Zaz.l0 k l0 (List.replicate ((l0.length : Int) : Int).toNat 0) 0) else (none)) else (none)) = some r := h
 clear h
 by_cases c2 : 0 ≤ (l0.length : Int)
 ·rw [if_pos c2] at H
  have c2b0 := eq_true c2
  have c2b1 : decide (0 ≤ (l0.length : Int)) = true := decide_eq_true c2
  clear c2
  by_cases c3 : ((l0.length : Int) : Int).toNat ≤ 35184372088832
  ·rw [if_pos c3] at H
   have c3b0 := eq_true c3
   have c3b1 : decide (((l0.length : Int) : Int).toNat ≤ 35184372088832) = true := decide_eq_true c3
   clear c3
   obtain ⟨y161, hy161⟩ : ∃ y_ : List Int, y_ = (List.replicate ((l0.length : Int) : Int).toNat 0) := ⟨_, rfl⟩
   replace H : (Zaz.l0 k l0 y161 0) = some r := by first | (rw [hy161]; with_reducible exact H) | (have H2_ := (Option.bind_some _ _).symm.trans H; rw [hy161]; with_reducible exact H2_) | (have H2_ := (Option.bind_some _ _).symm.trans H; with_reducible exact H2_) | with_reducible exact H | (rw [hy161]; exact H) | exact H
   have Ny161 := Za.mk hy161
   clear hy161
   have H' := Za.mk H
   clear H
   go_enter Try.func22, Try.ntmps22
   go_wp2_with (first | ((with_reducible refine Zab (N := 7) rfl ?_); refine Kd.R_make (Kd.int .u64) _ 42 rfl (N := 7) rfl 32 _ _ rfl (l0.length : Int) rfl rfl Try.underlying32 (.int .u64 0) 8 info42 rfl (by decide) (by omega) 0 (ok := fun _ => True) (okp := fun _ => True) rfl (fun _ hk => hk) trivial (of_decide_eq_true (by assumption)) (Nat.le_trans (Nat.mul_le_mul_right _ (of_decide_eq_true (by assumption) : (l0.length : Int).toNat ≤ 35184372088832)) (by omega)) (Below.refl _ _) (Nat.le_refl _) ?_; intro v162 w4 ho5 hb hg_ hnew_; clear hg_ hnew_; (first | rw [← Ny161.out] at ho5 | (simp only [Int.reduceToNat] at ho5; rw [← Ny161.out] at ho5)); have HO163 := Za.mk (Kd.R_lower ho5 (Zr (by repeat (first | (with_reducible first | exact HB.out | apply Zd | apply Zf | apply Ze) | exact HB.out)))); replace HB := Za.mk (Zx (by repeat (first | (with_reducible first | exact HB.out | apply Zd | apply Zf | apply Ze) | exact HB.out)) hb); clear hb ho5))
   go_loopg [4] k (fun kq v4 w' => ∃ (x3_1 : List Int) (x4_1 : Int), v4 = .int .i64 x4_1 ∧ Za (Zaz.l0 kq l0 x3_1 x4_1 = some r) ∧ Za (kq ≤ k) ∧ Za (Kd.R (Kd.int .u64) 42 w' w.heap.size (fun _ => True) v162 x3_1) ∧ Za (Below w.heap.size w w'))
   case atStart => exact ⟨(y161), (0), (by first | rfl | (simp; done) | (simp [*]; done)), H', ⟨Nat.le_refl _⟩, ⟨by (with_reducible repeat (first | apply Kd.R_alloc | apply Kd.R_drewN | apply Kd.R_drew)); exact HO163.out⟩, ⟨by repeat (first | (with_reducible first | exact HB.out | apply Zd | apply Zf | apply Ze) | exact HB.out)⟩⟩
   case round =>
    clear H'
    try clear c2
    try clear c2b0
    try clear c2b1
    try clear p2
    try clear c3
    try clear c3b0
    try clear c3b1
    obtain ⟨x3_1, x4_1, rfl, HA, HK1, HO_3, HB⟩ := hrel
    cases gk with
    | zero => exact absurd HA.out (by simp [Zaz.l0])
    | succ k1 =>
     have H := HA.out
     clear HA
     simp only [Zaz.l0] at H
     by_cases c6 : x4_1 < (l0.length : Int)
     ·rw [if_pos c6] at H
      have c6b0 : decide (x4_1 < (l0.length : Int)) = true := decide_eq_true c6
      clear c6
      by_cases c7 : 0 ≤ x4_1
      ·rw [if_pos c7] at H
       have c7b0 : decide (0 ≤ x4_1) = true := decide_eq_true c7
       clear c7
       by_cases c8 : x4_1 < (x3_1.length : Int)
       ·rw [if_pos c8] at H
        have c8b0 : decide (x4_1 < (x3_1.length : Int)) = true := decide_eq_true c8
        clear c8
        obtain ⟨y165, hy165⟩ : ∃ y_ : List Int, y_ = (x3_1.set (x4_1 : Int).toNat (rd l0 x4_1)) := ⟨_, rfl⟩
        replace H : (Zaz.l0 k1 l0 y165 (wrap64 (x4_1 + 1))) = some r := by first | (rw [hy165]; with_reducible exact H) | (have H2_ := (Option.bind_some _ _).symm.trans H; rw [hy165]; with_reducible exact H2_) | (have H2_ := (Option.bind_some _ _).symm.trans H; with_reducible exact H2_) | with_reducible exact H | (rw [hy165]; exact H) | exact H
        have Ny165 := Za.mk hy165
        clear hy165
        have H' := Za.mk H
        clear H
        have p164 : 0 ≤ (x4_1 : Int) := of_decide_eq_true (by assumption)
        have q164 : x4_1 < (l0.length : Int) := of_decide_eq_true (by assumption)
        obtain ⟨ad164, e164, hx164_0⟩ := Kd.at_int HR0.out x4_1 p164 q164
        cases e164
        replace hx164_0 := (HB.out.cell (World.block_lt_of_cell? w _ hx164_0)).trans hx164_0
        replace p164 := eq_true p164
        replace q164 := eq_true q164
        have p9 : 0 ≤ (x4_1 : Int) := of_decide_eq_true (by assumption)
        have q9 : (x4_1 : Int) < ((x3_1.length : Int) : Int) := of_decide_eq_true (by assumption)
        obtain ⟨go9, co9, eo9, gb9, gl9, cl9, HG9⟩ := Kd.R_form HO_3.out (by omega)
        (first | cases eo9 | (injection eo9 with ea_ en_ ec_; (first | subst ea_ | (injection ea_ with ea_; subst ea_)); subst ec_; clear en_))
        have GB9 := Za.mk gb9
        have GG9 := Za.mk HG9
        clear gb9 gl9 HG9
        obtain ⟨hx9_0, hf9_0⟩ := Kd.R_celln 0 HO_3.out (x4_1 : Int) p9 q9
        replace p9 := eq_true p9
        replace q9 := eq_true q9
        have HP10 := Kd.R_putg HO_3.out (x4_1 : Int) (rd l0 x4_1)
        go_wp2_with (first | ((with_reducible refine gate_store (t := 42) (p := 20) rfl ?_); refine store_event (t := 42) (p := 20) (v := ?vo_w11) (w1 := (wr.setCell ⟨go9, (x4_1 : Int).toNat, none⟩ (.int .u64 (rd l0 x4_1)))) ?hg ?ho ?hn ?hr ?_; (case ho => rfl); (case hg => rfl); (case hn => rfl); (case hr => first | (go_simp; done) | (go_simp; rfl)); intro w11 hw; have hg : wr.grownBy w11 (some go9) := (by rw [hw]; exact HP10.2); have hp_ : Kd.R (Kd.int .u64) 42 w11 w.heap.size (fun _ => True) (.slice (some ⟨go9, 0, none⟩) x3_1.length co9) y165 := (by rw [hw, Ny165.out]; exact HP10.1); clear HP10; replace HO_3 := Za.mk (hp_); replace HB := Za.mk ((by rw [hw]; exact Zj (HB.out) GB9.out : Below w.heap.size w w11)); clear hg hw hp_))
        go_roundg k1
        case measure => have := HK1.out; omega
        case rel => exact ⟨(y165), (wrap64 (x4_1 + 1)), (by first | rfl | (simp; done) | (simp [*]; done)), H', ⟨by have := HK1.out; omega⟩, ⟨by (with_reducible repeat (first | apply Kd.R_alloc | apply Kd.R_drewN | apply Kd.R_drew)); exact HO_3.out⟩, ⟨by repeat (first | (with_reducible first | exact HB.out | apply Zd | apply Zf | apply Ze) | exact HB.out)⟩⟩
       ·rw [if_neg c8] at H
        exact absurd H (by simp)
      ·rw [if_neg c7] at H
       exact absurd H (by simp)
     ·rw [if_neg c6] at H
      have c6b0 : decide (x4_1 < (l0.length : Int)) = false := decide_eq_false c6
      clear c6
      obtain rfl := Option.some.inj H
      go_wp2
      go_ret
      exact ⟨_, by first | rfl | (simp [Zy, Zz] <;> rfl) | (simp [*, Zy, Zz] <;> rfl), by (with_reducible repeat (first | apply Kd.R_alloc | apply Kd.R_drewN | apply Kd.R_drew)); exact HO_3.out, by repeat (first | (with_reducible first | exact HB.out | apply Zd | apply Zf | apply Ze) | exact HB.out)⟩
  ·rw [if_neg c3] at H
   exact absurd H (by simp)
 ·rw [if_neg c2] at H
  exact absurd H (by simp)
def laws_toCall.f (k : Nat) (a0_0 : Int) (a0_1 : Int) (l0_2 : List Int) : Option (Int × Int × List Int) := (Zaz.f k l0_2).bind fun t169 => (some (a0_0, a0_1, t169))
set_option maxHeartbeats 8000000 in
set_option maxRecDepth 100000 in
theorem laws_toCall.calls (k : Nat) (a0_0 : Int) (a0_1 : Int) (A0_2 : Option Addr) (c0_2 : Nat) (l0_2 : List Int) (r1 : Int) (r2 : Int) (r3 : List Int) (w : World) (hr0_2 : Kd.C (Kd.int .u64) w A0_2 l0_2.length l0_2) (hc0_2 : l0_2.length ≤ c0_2) (h : laws_toCall.f k a0_0 a0_1 l0_2 = some (r1, r2, r3)) :
  Calls Try.prog 14 #[.agg #[.int .u32 a0_0, .int .u32 a0_1, .slice A0_2 l0_2.length c0_2]] w fun e w' => ∃ v2_ : Value, e = .returned (.agg #[.int .u32 r1, .int .u32 r2, v2_]) ∧ Kd.R (Kd.int .u64) 42 w' w.heap.size (fun _ => True) v2_ r3 ∧ Below w.heap.size w w' := by
 have hu34 := Try.underlying34
 have hu35 := Try.underlying35
 have HR0_2 := Za.mk hr0_2
 have HC0_2 := Za.mk hc0_2
 clear hr0_2 hc0_2
 have HB := Za.mk (Below.refl w.heap.size w)
 have H : ((Zaz.f k l0_2).bind fun t169 => (some (a0_0, a0_1, t169))) = some (r1, r2, r3) := h
 clear h
 replace H := Option.bind_eq_some_iff.mp H
 obtain ⟨t169, A20, H⟩ := H
 replace H : (some (a0_0, a0_1, t169)) = some (r1, r2, r3) := H
 have A2 := Za.mk A20
 clear A20
 simp only [Option.some.injEq, Prod.mk.injEq] at H
 obtain ⟨rfl, rfl, rfl⟩ := H
 go_enter Try.func14, Try.ntmps14
 go_wp2_with (first | ((with_reducible refine Zab (N := 1) rfl ?_); refine Zad ?hg (N := 1) ?hd (cs := #[.int .u32 a0_0, .int .u32 a0_1, .slice A0_2 l0_2.length c0_2]) (t := 34) ?hr ?_; (case hd => rfl); (case hg => rfl); (case hr => first | (go_simp; done) | (go_simp; rfl)); intro gb166 hg w3 hbox hb; have BK166 := Za.mk (hbox); have GW166 := Za.mk ((by rw [hg]; exact (Zr (by repeat (first | (with_reducible first | exact HB.out | apply Zd | apply Zf | apply Ze) | exact HB.out))) : w.heap.size ≤ gb166)); have GE166 := Za.mk ((by rw [hg]; exact (Zr (by repeat (first | (with_reducible first | exact HB.out | apply Zd | apply Zf | apply Ze) | exact HB.out))) : w.heap.size ≤ gb166)); replace HB := Za.mk (Zx (by repeat (first | (with_reducible first | exact HB.out | apply Zd | apply Zf | apply Ze) | exact HB.out)) hb); clear hb hbox hg) | ((with_reducible refine Zab (N := 2) rfl ?_); refine Zad ?hg (N := 2) ?hd (cs := #[.int .u32 0, .int .u32 0, .slice none 0 0]) (t := 35) ?hr ?_; (case hd => rfl); (case hg => rfl); (case hr => first | (go_simp; done) | (go_simp; rfl)); intro gb167 hg w4 hbox hb; have BK167 := Za.mk (hbox); have GW167 := Za.mk ((by rw [hg]; exact (Zr (by repeat (first | (with_reducible first | exact HB.out | apply Zd | apply Zf | apply Ze | refine Zj ?_ GE166.out) | exact HB.out))) : w.heap.size ≤ gb167)); have GE167 := Za.mk ((by rw [hg]; exact (Zr (by repeat (first | (with_reducible first | exact HB.out | apply Zd | apply Zf | apply Ze | refine Zj ?_ GE166.out) | exact HB.out))) : w.heap.size ≤ gb167)); replace HB := Za.mk (Zx (by repeat (first | (with_reducible first | exact HB.out | apply Zd | apply Zf | apply Ze | refine Zj ?_ GE166.out) | exact HB.out)) hb); have NB166_167 := Za.mk ((by rw [hg]; exact Nat.ne_of_lt (Zaa (g := gb166) (o := .cells #[.int .u32 a0_0, .int .u32 a0_1, .slice A0_2 l0_2.length c0_2] 34 (0, 0)) (by (with_reducible repeat (first | refine Zo ?_ _ | refine Zm ?_ | refine Zn ?_ _)); exact BK166.out)) : gb166 ≠ gb167)); have NB167_166 := Za.mk ((by rw [hg]; exact Nat.ne_of_gt (Zaa (g := gb166) (o := .cells #[.int .u32 a0_0, .int .u32 a0_1, .slice A0_2 l0_2.length c0_2] 34 (0, 0)) (by (with_reducible repeat (first | refine Zo ?_ _ | refine Zm ?_ | refine Zn ?_ _)); exact BK166.out)) : gb167 ≠ gb166)); replace BK166 := Za.mk (Zak (g := gb166) (o := .cells #[.int .u32 a0_0, .int .u32 a0_1, .slice A0_2 l0_2.length c0_2] 34 (0, 0)) (by (with_reducible repeat (first | refine Zo ?_ _ | refine Zm ?_ | refine Zn ?_ _)); exact BK166.out) hb); clear hb hbox hg) | ((with_reducible refine Zab (N := 3) rfl ?_); refine Zad ?hg (N := 3) ?hd (cs := #[.int .u32 0, .int .u32 0, .slice none 0 0]) (t := 35) ?hr ?_; (case hd => rfl); (case hg => rfl); (case hr => first | (go_simp; done) | (go_simp; rfl)); intro gb168 hg w5 hbox hb; have BK168 := Za.mk (hbox); have GW168 := Za.mk ((by rw [hg]; exact (Zr (by repeat (first | (with_reducible first | exact HB.out | apply Zd | apply Zf | apply Ze | refine Zj ?_ GE166.out | refine Zj ?_ GE167.out) | exact HB.out))) : w.heap.size ≤ gb168)); have GE168 := Za.mk ((by rw [hg]; exact (Zr (by repeat (first | (with_reducible first | exact HB.out | apply Zd | apply Zf | apply Ze | refine Zj ?_ GE166.out | refine Zj ?_ GE167.out) | exact HB.out))) : w.heap.size ≤ gb168)); replace HB := Za.mk (Zx (by repeat (first | (with_reducible first | exact HB.out | apply Zd | apply Zf | apply Ze | refine Zj ?_ GE166.out | refine Zj ?_ GE167.out) | exact HB.out)) hb); have NB166_168 := Za.mk ((by rw [hg]; exact Nat.ne_of_lt (Zaa (g := gb166) (o := .cells #[.int .u32 a0_0, .int .u32 a0_1, .slice A0_2 l0_2.length c0_2] 34 (0, 0)) (by (with_reducible repeat (first | refine Zo ?_ _ | refine Zm ?_ | refine Zn ?_ _)); exact BK166.out)) : gb166 ≠ gb168)); have NB168_166 := Za.mk ((by rw [hg]; exact Nat.ne_of_gt (Zaa (g := gb166) (o := .cells #[.int .u32 a0_0, .int .u32 a0_1, .slice A0_2 l0_2.length c0_2] 34 (0, 0)) (by (with_reducible repeat (first | refine Zo ?_ _ | refine Zm ?_ | refine Zn ?_ _)); exact BK166.out)) : gb168 ≠ gb166)); replace BK166 := Za.mk (Zak (g := gb166) (o := .cells #[.int .u32 a0_0, .int .u32 a0_1, .slice A0_2 l0_2.length c0_2] 34 (0, 0)) (by (with_reducible repeat (first | refine Zo ?_ _ | refine Zm ?_ | refine Zn ?_ _)); exact BK166.out) hb); have NB167_168 := Za.mk ((by rw [hg]; exact Nat.ne_of_lt (Zaa (g := gb167) (o := .cells #[.int .u32 0, .int .u32 0, .slice none 0 0] 35 (0, 0)) (by (with_reducible repeat (first | refine Zo ?_ _ | refine Zm ?_ | refine Zn ?_ _)); exact BK167.out)) : gb167 ≠ gb168)); have NB168_167 := Za.mk ((by rw [hg]; exact Nat.ne_of_gt (Zaa (g := gb167) (o := .cells #[.int .u32 0, .int .u32 0, .slice none 0 0] 35 (0, 0)) (by (with_reducible repeat (first | refine Zo ?_ _ | refine Zm ?_ | refine Zn ?_ _)); exact BK167.out)) : gb168 ≠ gb167)); replace BK167 := Za.mk (Zak (g := gb167) (o := .cells #[.int .u32 0, .int .u32 0, .slice none 0 0] 35 (0, 0)) (by (with_reducible repeat (first | refine Zo ?_ _ | refine Zm ?_ | refine Zn ?_ _)); exact BK167.out) hb); clear hb hbox hg; have hnb6 := NB166_167.out; have hnc6 := NB167_166.out; have hnb7 := NB166_168.out; have hnc7 := NB168_166.out; have hcz8_0 : w5.cell? ⟨gb166, 0, none⟩ = some (.int .u32 a0_0) := (Zc BK166.out 0).trans rfl; have hcz8_1 : w5.cell? ⟨gb166, 1, none⟩ = some (.int .u32 a0_1) := (Zc BK166.out 1).trans rfl; have hcz8_2 : w5.cell? ⟨gb166, 2, none⟩ = some (.slice A0_2 l0_2.length c0_2) := (Zc BK166.out 2).trans rfl; have hfz8_0 := Zg BK166.out 0; have hfz8_1 := Zg BK166.out 1; have hfz8_2 := Zg BK166.out 2; have hnb9 := NB168_167.out; have hnc9 := NB167_168.out; have hcz10_0 : w5.cell? ⟨gb168, 0, none⟩ = some (.int .u32 0) := (Zc BK168.out 0).trans rfl; have hcz10_1 : w5.cell? ⟨gb168, 1, none⟩ = some (.int .u32 0) := (Zc BK168.out 1).trans rfl; have hcz10_2 : w5.cell? ⟨gb168, 2, none⟩ = some (.slice none 0 0) := (Zc BK168.out 2).trans rfl; have hfz10_0 := Zg BK168.out 0; have hfz10_1 := Zg BK168.out 1; have hfz10_2 := Zg BK168.out 2) | ((with_reducible refine Zai (f := 22) rfl ?_); refine goesL_ (some 12) rfl rfl Try.func22 (by kernel_rfl) rfl #[.slice A0_2 l0_2.length c0_2] rfl (by (try simp only [ZA, ZB, ZC]); first | done | rfl) ?_; (with_reducible refine (Zaz.calls k _ _ l0_2 t169 _ ?side1 ?side2 A2.out).mono ?_); (case side1 => exact Kd.Zah HR0_2.out (by repeat (first | (with_reducible first | exact HB.out | apply Zd | apply Zf | apply Ze | refine Zj ?_ GE166.out | refine Zj ?_ GE167.out | refine Zj ?_ GE168.out) | exact HB.out))); (case side2 => exact HC0_2.out); rintro e w11 ⟨v170, rfl, ho0, hb⟩; refine ⟨_, rfl, ?_⟩; have HO171 := Za.mk (Kd.R_lower ho0 (Zr (by repeat (first | (with_reducible first | exact HB.out | apply Zd | apply Zf | apply Ze | refine Zj ?_ GE166.out | refine Zj ?_ GE167.out | refine Zj ?_ GE168.out) | exact HB.out)))); replace BK166 := Za.mk (Zak (g := gb166) (o := .cells #[.int .u32 a0_0, .int .u32 a0_1, .slice A0_2 l0_2.length c0_2] 34 (0, 0)) (by (with_reducible repeat (first | refine Zo ?_ _ | refine Zm ?_ | refine Zn ?_ _)); refine blk_far ?_ NB166_168.out _; (with_reducible repeat (first | refine Zo ?_ _ | refine Zm ?_ | refine Zn ?_ _)); refine blk_far ?_ NB166_168.out _; (with_reducible repeat (first | refine Zo ?_ _ | refine Zm ?_ | refine Zn ?_ _)); exact BK166.out) hb); replace BK167 := Za.mk (Zak (g := gb167) (o := .cells #[.int .u32 0, .int .u32 0, .slice none 0 0] 35 (0, 0)) (by (with_reducible repeat (first | refine Zo ?_ _ | refine Zm ?_ | refine Zn ?_ _)); refine blk_far ?_ NB167_168.out _; (with_reducible repeat (first | refine Zo ?_ _ | refine Zm ?_ | refine Zn ?_ _)); refine blk_far ?_ NB167_168.out _; (with_reducible repeat (first | refine Zo ?_ _ | refine Zm ?_ | refine Zn ?_ _)); exact BK167.out) hb); replace BK168 := Za.mk (Zak (g := gb168) (o := .cells #[.int .u32 a0_0, .int .u32 a0_1, .slice none 0 0] 35 (0, 0)) (by (with_reducible repeat (first | refine Zo ?_ _ | refine Zm ?_ | refine Zn ?_ _)); refine blk_put (cs := #[.int .u32 a0_0, .int .u32 0, .slice none 0 0]) ?_ 1 _ rfl; (with_reducible repeat (first | refine Zo ?_ _ | refine Zm ?_ | refine Zn ?_ _)); refine blk_put (cs := #[.int .u32 0, .int .u32 0, .slice none 0 0]) ?_ 0 _ rfl; (with_reducible repeat (first | refine Zo ?_ _ | refine Zm ?_ | refine Zn ?_ _)); exact BK168.out) hb); replace HB := Za.mk (Zx (by repeat (first | (with_reducible first | exact HB.out | apply Zd | apply Zf | apply Ze | refine Zj ?_ GE166.out | refine Zj ?_ GE167.out | refine Zj ?_ GE168.out) | exact HB.out)) hb); (try clear hb); (try clear hb2); (try clear hk); (try clear hi); (try clear ho0); obtain ⟨Ao12, co12, eo12⟩ := Kd.R_slice HO171.out; subst eo12; have hcz13_0 : w11.cell? ⟨gb168, 0, none⟩ = some (.int .u32 a0_0) := (Zc BK168.out 0).trans rfl; have hcz13_1 : w11.cell? ⟨gb168, 1, none⟩ = some (.int .u32 a0_1) := (Zc BK168.out 1).trans rfl; have hcz13_2 : w11.cell? ⟨gb168, 2, none⟩ = some (.slice none 0 0) := (Zc BK168.out 2).trans rfl; have hfz13_0 := Zg BK168.out 0; have hfz13_1 := Zg BK168.out 1; have hfz13_2 := Zg BK168.out 2; have hcz14_0 : w11.cell? ⟨gb167, 0, none⟩ = some (.int .u32 0) := (Zc BK167.out 0).trans rfl; have hcz14_1 : w11.cell? ⟨gb167, 1, none⟩ = some (.int .u32 0) := (Zc BK167.out 1).trans rfl; have hcz14_2 : w11.cell? ⟨gb167, 2, none⟩ = some (.slice none 0 0) := (Zc BK167.out 2).trans rfl; have hfz14_0 := Zg BK167.out 0; have hfz14_1 := Zg BK167.out 1; have hfz14_2 := Zg BK167.out 2))
 refine bodyPost_ret (results_cell_row rfl _ _ gb167 35 #[.int .u32 a0_0, .int .u32 a0_1, .slice Ao12 t169.length co12] (0, 0) _ rfl (by (with_reducible repeat (first | refine Zo ?_ _ | refine Zm ?_ | refine Zn ?_ _)); refine blk_put (cs := #[.int .u32 a0_0, .int .u32 a0_1, .slice none 0 0]) ?_ 2 _ rfl; (with_reducible repeat (first | refine Zo ?_ _ | refine Zm ?_ | refine Zn ?_ _)); refine blk_put (cs := #[.int .u32 a0_0, .int .u32 0, .slice none 0 0]) ?_ 1 _ rfl; (with_reducible repeat (first | refine Zo ?_ _ | refine Zm ?_ | refine Zn ?_ _)); refine blk_put (cs := #[.int .u32 0, .int .u32 0, .slice none 0 0]) ?_ 0 _ rfl; (with_reducible repeat (first | refine Zo ?_ _ | refine Zm ?_ | refine Zn ?_ _)); refine blk_far ?_ NB167_168.out _; (with_reducible repeat (first | refine Zo ?_ _ | refine Zm ?_ | refine Zn ?_ _)); exact BK167.out) Try.underlying35 rfl (by kernel_rfl)) rfl ?_
 exact ⟨_, by first | rfl | (simp [Zy, Zz] <;> rfl) | (simp [*, Zy, Zz] <;> rfl), by (with_reducible repeat (first | apply Kd.R_alloc | apply Kd.R_drewN | apply Kd.R_drew)); exact Kd.R_mono (Kd.R_far (p := ⟨gb167, 2, none⟩) (Kd.R_far (p := ⟨gb167, 1, none⟩) (Kd.R_far (p := ⟨gb167, 0, none⟩) (Kd.R_far (p := ⟨gb168, 2, none⟩) (Kd.R_types (Kd.R_types HO171.out BK168.out (by decide)) BK167.out (by decide)) (fun _ hk => hk.1.2) (.slice Ao12 t169.length co12)) (fun _ hk => hk.2) (.int .u32 a0_0)) (fun _ hk => hk.2) (.int .u32 a0_1)) (fun _ hk => hk.2) (.slice Ao12 t169.length co12)) (fun _ hk => trivial), by repeat (first | (with_reducible first | exact HB.out | apply Zd | apply Zf | apply Ze | refine Zj ?_ GE166.out | refine Zj ?_ GE167.out | refine Zj ?_ GE168.out) | exact HB.out)⟩

end Go.Proofs.Ytjpjfkmnfppgkaa.P
