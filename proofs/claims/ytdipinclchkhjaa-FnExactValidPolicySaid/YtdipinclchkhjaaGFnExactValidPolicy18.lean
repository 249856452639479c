import Derived.Test.YtdipinclchkhjaaGFnExactValidPolicy13
import Derived.Test.YtdipinclchkhjaaGFnExactValidPolicy15
import Derived.Test.YtdipinclchkhjaaGFnExactValidPolicy16
import Derived.Test.YtdipinclchkhjaaGFnExactValidPolicy17
import Derived.Test.YtdipinclchkhjaaGFnExactValidPolicy1
import Derived.Test.YtdipinclchkhjaaGFnExactValidPolicy4
import Derived.Test.YtdipinclchkhjaaGFnExactValidPolicy8
namespace Go.Proofs.Ytdipinclchkhjaa.P
open Go.RowKit Go.Proofs.YtdipinclchkhjaaW.PrintWords Go.Proofs.YtdipinclchkhjaaW.PrintLast Go.Proofs.YtdipinclchkhjaaW.PrintMore
set_option linter.unusedVariables false
set_option linter.unusedSimpArgs false
/-! What a valid policy is. -/
def conU (c : S26) : Prop := (0 ≤ c.f1 ∧ c.f1 < 18446744073709551616) ∧ (0 ≤ c.f2 ∧ c.f2 < 18446744073709551616)
def polU (p : List S127) : Prop := ∀ e ∈ p, ∀ r ∈ e.f2, ∀ c ∈ r.f0, conU c
theorem conOK_is (c : S26) (h : conU c) : spec_l3conOK.f c.f0 c.f1 c.f2 = some (conOKr c) := by
  obtain ⟨⟨a0, a1⟩, b0, b1⟩ := h
  obtain ⟨a, ha⟩ := Int.eq_ofNat_of_zero_le a0
  obtain ⟨b, hb⟩ := Int.eq_ofNat_of_zero_le b0
  unfold conOKr
  rw [ha] at a1 ⊢
  rw [hb] at b1 ⊢
  exact l3conOK_is c.f0 a b (by omega) (by omega)
theorem ruleOK_iff (r : S131) : ruleOKr r = true ↔ r.f0.length = 6 ∧ ∀ c ∈ r.f0, conOKr c = true := by
  unfold ruleOKr
  rw [Bool.and_eq_true, decide_eq_true_eq, Bool.not_eq_true', List.any_eq_false]
  refine and_congr_right fun _ => ⟨fun h c hc => ?_, fun h c hc => ?_⟩
  · have := h c hc
    simpa using this
  · rw [h c hc]; decide
theorem l3ruleOK_ev (l : List S26) (h : ∀ c ∈ l, conU c) : Ev (fun k => spec_l3ruleOK.f k l) (ruleOKr ⟨l⟩) := by
  unfold spec_l3ruleOK.f
  by_cases h6 : l.length = 6
  · have key : ∀ d i : Nat, i + d = 6 → (∀ c ∈ l.take i, conOKr c = true) → Ev (fun k => spec_l3ruleOK.l0 k (i : Int) l) (ruleOKr ⟨l⟩) := by
      intro d
      induction d with
      | zero =>
        intro i hi ht
        rw [List.take_of_length_le (by omega)] at ht
        rw [(ruleOK_iff ⟨l⟩).2 ⟨h6, ht⟩]
        exact ev_end fun k => by simp only [spec_l3ruleOK.l0]; rw [if_neg (by omega)]
      | succ d ih =>
        intro i hi ht
        have hil : i < l.length := by omega
        have hc := conOK_is l[i] (h _ (List.getElem_mem hil))
        by_cases ho : conOKr l[i] = true
        · rw [ho] at hc
          refine ev_step _ (fun k => ?_) (ih (i + 1) (by omega) (by
            rw [← List.take_append_getElem hil]
            intro x hx
            rcases List.mem_append.1 hx with hx | hx
            · exact ht x hx
            · rw [List.mem_singleton.1 hx]; exact ho))
          simp only [spec_l3ruleOK.l0]
          rw [if_pos (by omega), if_pos (by omega), if_pos (by omega), rdCI l i hil, hc, Option.bind_some, if_pos rfl, wrap64_id (by omega) (by omega)]
          rfl
        · have e : ruleOKr ⟨l⟩ = false := Bool.eq_false_iff.2 fun hr => ho (((ruleOK_iff ⟨l⟩).1 hr).2 _ (List.getElem_mem hil))
          rw [Bool.eq_false_iff.2 ho] at hc
          rw [e]
          exact ev_end fun k => by
            simp only [spec_l3ruleOK.l0]
            rw [if_pos (by omega), if_pos (by omega), if_pos (by omega), rdCI l i hil, hc, Option.bind_some, if_neg (by decide)]
    refine Ev.congr (fun k => ?_) (key 6 0 (by omega) (by simp))
    rw [if_pos (by omega)]
    rfl
  · have e : ruleOKr ⟨l⟩ = false := Bool.eq_false_iff.2 fun hr => h6 ((ruleOK_iff ⟨l⟩).1 hr).1
    rw [e]
    exact ev_is fun k => by rw [if_neg (by omega)]
def totL : List S127 → Nat
  | [] => 0
  | e :: l => e.f2.length + totL l
theorem totL_le : ∀ (l : List S127), (∀ e ∈ l, e.f2.length ≤ 1048576) → totL l ≤ 1048576 * l.length
  | [], _ => by simp [totL]
  | e :: l, h => by
    have h1 := totL_le l fun x hx => h x (List.mem_cons_of_mem _ hx)
    have h2 := h e List.mem_cons_self
    rw [totL, List.length_cons]
    omega
theorem l3rules_ev (p : List S127) (hl : p.length ≤ 1048576) (hm : ∀ e ∈ p, e.f2.length ≤ 1048576) : Ev (fun k => spec_l3rules.f k p) ((totL p : Nat) : Int) := by
  have key : ∀ (d i T : Nat), i + d = p.length → T + 1048576 * d ≤ 2000000000000 → Ev (fun k => spec_l3rules.l0 k (T : Int) (i : Int) p) ((T + totL (p.drop i) : Nat) : Int) := by
    intro d
    induction d with
    | zero =>
      intro i T hi hT
      rw [List.drop_eq_nil_of_le (by omega)]
      exact ev_end fun k => by simp only [spec_l3rules.l0]; rw [if_neg (by omega)]; rfl
    | succ d ih =>
      intro i T hi hT
      have hil : i < p.length := by omega
      have hmi := hm _ (List.getElem_mem hil)
      rw [List.drop_eq_getElem_cons hil, totL]
      have h := ih (i + 1) (T + p[i].f2.length) (by omega) (by omega)
      rw [Nat.add_assoc] at h
      refine ev_step _ (fun k => ?_) h
      simp only [spec_l3rules.l0]
      rw [if_pos (by omega), if_pos (by omega), rdEI p i hil, wrap64_id (i := (T : Int) + _) (by omega) (by omega), wrap64_id (i := (i : Int) + 1) (by omega) (by omega)]
      rfl
  have h := key p.length 0 0 (by omega) (by omega)
  rw [List.drop_zero, Nat.zero_add] at h
  exact h
def ordP (d e : S127) : Prop := d.f0 < e.f0 ∨ (d.f0 = e.f0 ∧ d.f1 < e.f1)
def entP (p : List S127) (i : Nat) : Prop :=
  ∀ h : i < p.length, 1 ≤ p[i].f2.length ∧ p[i].f2.length ≤ 200 ∧ (∀ h0 : 0 < i, ordP (p[i - 1]'(by omega)) p[i]) ∧ ∀ r ∈ p[i].f2, ruleOKr r = true
theorem wrap_pred (i : Nat) (h0 : 0 < i) (h : i ≤ 1048576) : wrap64 ((i : Int) - 1) = ((i - 1 : Nat) : Int) := by rw [wrap64_id (by omega) (by omega)]; omega
theorem specValid_ev (p : List S127) (hs : SmallEI p) (hu : polU p) : ∃ b : Bool, Ev (fun k => spec_ValidPolicy.f k p) b ∧ (b = true ↔ (∀ i, entP p i) ∧ totL p ≤ 1000) := by
  obtain ⟨hl, hm⟩ := hs
  have hmt : ∀ e ∈ p, e.f2.length ≤ 1048576 := fun e he => (hm e he).1
  have rules : ∀ (x3 : Int) (a b : Int) (rs : List S131) (b' : Bool), SmallRI rs → (∀ r ∈ rs, ∀ c ∈ r.f0, conU c) → Ev (fun k => spec_ValidPolicy.l0 k (wrap64 (x3 + 1)) p) b' →
      ∀ d j : Nat, j + d = rs.length → ∃ b'' : Bool, Ev (fun k => spec_ValidPolicy.l1 k x3 (j : Int) p a b rs) b'' ∧ (b'' = true ↔ (∀ r ∈ rs.drop j, ruleOKr r = true) ∧ b' = true) := by
    intro x3 a b rs b' hrs hru hnext d
    induction d with
    | zero =>
      intro j hj
      refine ⟨b', ev_step _ (fun k => ?_) hnext, ?_⟩
      · simp only [spec_ValidPolicy.l1]; rw [if_neg (by omega)]
      · rw [List.drop_eq_nil_of_le (by omega)]; simp
    | succ d ih =>
      intro j hj
      have hjl : j < rs.length := by omega
      have hrl := hrs.1
      obtain ⟨K, hK⟩ := ev_get (l3ruleOK_ev rs[j].f0 (hru _ (List.getElem_mem hjl)))
      obtain ⟨b2, h2, i2⟩ := ih (j + 1) (by omega)
      rw [List.drop_eq_getElem_cons hjl, List.forall_mem_cons]
      by_cases ho : ruleOKr rs[j] = true
      · refine ⟨b2, ?_, i2.trans ⟨fun h => ⟨⟨ho, h.1⟩, h.2⟩, fun h => ⟨h.1.2, h.2⟩⟩⟩
        refine ev_step (fun k => (spec_l3ruleOK.f k rs[j].f0).bind fun t => if t = true then spec_ValidPolicy.l1 k x3 ((j + 1 : Nat) : Int) p a b rs else some false) (fun k => ?_) (Ev.bind (l3ruleOK_ev rs[j].f0 (hru _ (List.getElem_mem hjl))) (Ev.congr (fun k => ?_) h2))
        · simp only [spec_ValidPolicy.l1]
          rw [if_pos (by omega), if_pos (by omega), rdRI rs j hjl, wrap64_id (i := (j : Int) + 1) (by omega) (by omega)]
          rfl
        · rw [if_pos ho]
      · refine ⟨false, ?_, ⟨fun h => absurd h (by decide), fun h => absurd h.1.1 ho⟩⟩
        refine ev_step (fun k => (spec_l3ruleOK.f k rs[j].f0).bind fun t => if t = true then spec_ValidPolicy.l1 k x3 ((j + 1 : Nat) : Int) p a b rs else some false) (fun k => ?_) (Ev.bind (l3ruleOK_ev rs[j].f0 (hru _ (List.getElem_mem hjl))) (ev_is fun k => ?_))
        · simp only [spec_ValidPolicy.l1]
          rw [if_pos (by omega), if_pos (by omega), rdRI rs j hjl, wrap64_id (i := (j : Int) + 1) (by omega) (by omega)]
          rfl
        · rw [if_neg ho]
  have key : ∀ d i : Nat, i + d = p.length → ∃ b : Bool, Ev (fun k => spec_ValidPolicy.l0 k (i : Int) p) b ∧ (b = true ↔ (∀ j, i ≤ j → entP p j) ∧ totL p ≤ 1000) := by
    intro d
    induction d with
    | zero =>
      intro i hi
      refine ⟨decide (((totL p : Nat) : Int) ≤ 1000), ?_, ?_⟩
      · refine ev_step (fun k => (spec_l3rules.f k p).bind fun t => some (decide (t ≤ 1000))) (fun k => ?_) (Ev.bind (l3rules_ev p hl hmt) (ev_is fun _ => rfl))
        simp only [spec_ValidPolicy.l0]; rw [if_neg (by omega)]
      · rw [decide_eq_true_eq]
        exact ⟨fun h => ⟨fun j hj hjl => by omega, by omega⟩, fun h => by omega⟩
    | succ d ih =>
      intro i hi
      have hil : i < p.length := by omega
      obtain ⟨b', h', i'⟩ := ih (i + 1) (by omega)
      have hmi := hm _ (List.getElem_mem hil)
      have hnext : Ev (fun k => spec_ValidPolicy.l0 k (wrap64 ((i : Int) + 1)) p) b' := by rw [wrap64_id (by omega) (by omega)]; exact h'
      obtain ⟨b2, h2, i2⟩ := rules (i : Int) p[i].f0 p[i].f1 p[i].f2 b' hmi (hu _ (List.getElem_mem hil)) hnext p[i].f2.length 0 (by omega)
      rw [List.drop_zero] at i2
      have hj2 : Ev (fun k => spec_ValidPolicy.j2 k (i : Int) p p[i].f0 p[i].f1 p[i].f2) b2 := ev_step _ (fun k => by simp only [spec_ValidPolicy.j2]; rfl) h2
      have hfalse : ¬ entP p i → ∃ b : Bool, Ev (fun _ => some false) b ∧ (b = true ↔ (∀ j, i ≤ j → entP p j) ∧ totL p ≤ 1000) := fun hn => ⟨false, ev_is fun _ => rfl, ⟨fun h => absurd h (by decide), fun h => absurd (h.1 i (Nat.le_refl _)) hn⟩⟩
      have hall : entP p i → ((∀ j, i ≤ j → entP p j) ∧ totL p ≤ 1000 ↔ b' = true) := fun he => by
        rw [i']
        exact ⟨fun h => ⟨fun j hj => h.1 j (by omega), h.2⟩, fun h => ⟨fun j hj => by
          by_cases e : j = i
          · subst e; exact he
          · exact h.1 j (by omega), h.2⟩⟩
      have hj1 : ∃ b : Bool, Ev (fun k => spec_ValidPolicy.j1 k (i : Int) (decide ((p[i].f2.length : Int) < 1 ∨ (p[i].f2.length : Int) > 200)) p p[i].f0 p[i].f1 p[i].f2) b ∧ (b = true ↔ (∀ j, i ≤ j → entP p j) ∧ totL p ≤ 1000) := by
        by_cases hlen : (p[i].f2.length : Int) < 1 ∨ (p[i].f2.length : Int) > 200
        · obtain ⟨b, hb, ib⟩ := hfalse (fun he => by have := he hil; omega)
          exact ⟨b, ev_step _ (fun k => by simp only [spec_ValidPolicy.j1]; rw [if_pos (by rw [decide_eq_true hlen])]) hb, ib⟩
        · by_cases h0 : 0 < i
          · have hpred := wrap_pred i h0 (by omega)
            have hrd := rdEI p (i - 1) (by omega)
            have hb : ∀ f : Nat → Option Bool, (∀ k, (if p[i - 1].f0 > p[i].f0 then some false else (if p[i - 1].f0 = p[i].f0 then (if p[i - 1].f1 ≥ p[i].f1 then some false else spec_ValidPolicy.j2 k (i : Int) p p[i].f0 p[i].f1 p[i].f2) else spec_ValidPolicy.j2 k (i : Int) p p[i].f0 p[i].f1 p[i].f2)) = f k) → ∀ b, Ev f b → Ev (fun k => spec_ValidPolicy.j1 k (i : Int) (decide ((p[i].f2.length : Int) < 1 ∨ (p[i].f2.length : Int) > 200)) p p[i].f0 p[i].f1 p[i].f2) b := fun f hf b hb => ev_step _ (fun k => by
              simp only [spec_ValidPolicy.j1]
              rw [if_neg (by rw [decide_eq_false hlen]; decide), if_pos (by omega), hpred, if_pos (by omega), if_pos (by omega), hrd]
              exact hf k) hb
            by_cases c1 : p[i - 1].f0 > p[i].f0
            · obtain ⟨b, hb2, ib⟩ := hfalse (fun he => by rcases (he hil).2.2.1 h0 with h | h <;> omega)
              exact ⟨b, hb _ (fun k => by rw [if_pos c1]) b hb2, ib⟩
            · by_cases c2 : p[i - 1].f0 = p[i].f0
              · by_cases c3 : p[i - 1].f1 ≥ p[i].f1
                · obtain ⟨b, hb2, ib⟩ := hfalse (fun he => by rcases (he hil).2.2.1 h0 with h | h <;> omega)
                  exact ⟨b, hb _ (fun k => by rw [if_neg c1, if_pos c2, if_pos c3]) b hb2, ib⟩
                · refine ⟨b2, hb _ (fun k => by rw [if_neg c1, if_pos c2, if_neg c3]) b2 hj2, i2.trans ⟨fun h => (hall fun _ => ⟨by omega, by omega, fun _ => .inr ⟨c2, by omega⟩, h.1⟩).2 h.2, fun h => ⟨(h.1 i (Nat.le_refl _) hil).2.2.2, (hall (h.1 i (Nat.le_refl _))).1 h⟩⟩⟩
              · refine ⟨b2, hb _ (fun k => by rw [if_neg c1, if_neg c2]) b2 hj2, i2.trans ⟨fun h => (hall fun _ => ⟨by omega, by omega, fun _ => .inl (by omega), h.1⟩).2 h.2, fun h => ⟨(h.1 i (Nat.le_refl _) hil).2.2.2, (hall (h.1 i (Nat.le_refl _))).1 h⟩⟩⟩
          · refine ⟨b2, ev_step _ (fun k => ?_) hj2, i2.trans ⟨fun h => (hall fun _ => ⟨by omega, by omega, fun g => absurd g h0, h.1⟩).2 h.2, fun h => ⟨(h.1 i (Nat.le_refl _) hil).2.2.2, (hall (h.1 i (Nat.le_refl _))).1 h⟩⟩⟩
            simp only [spec_ValidPolicy.j1]
            rw [if_neg (by rw [decide_eq_false hlen]; decide), if_neg (by omega)]
      obtain ⟨b, hb, ib⟩ := hj1
      refine ⟨b, ev_step _ (fun k => ?_) hb, ib⟩
      simp only [spec_ValidPolicy.l0]
      rw [if_pos (by omega), if_pos (by omega), rdEI p i hil]
      by_cases c : (p[i].f2.length : Int) < 1
      · rw [if_pos c, decide_eq_true (Or.inl c)]
      · rw [if_neg c]
        congr 1
        rw [decide_eq_decide]
        omega
  obtain ⟨b, hb, ib⟩ := key p.length 0 (by omega)
  exact ⟨b, hb, ib.trans ⟨fun h => ⟨fun i => h.1 i (Nat.zero_le _), h.2⟩, fun h => ⟨fun i _ => h.1 i, h.2⟩⟩⟩
theorem compare_is (a b : Int) : cmp_Compare_uint32.f a b = some (if a < b then -1 else if a > b then 1 else 0) := by
  unfold cmp_Compare_uint32.f cmp_isNaN_uint32.f
  simp only [bne_self_eq_false, Option.bind_some, Bool.false_eq_true, if_false]
  split
  · rfl
  · split <;> rfl
theorem or_ev (a b : Int) : Ev (fun k => cmp_Or_int.f k [a, b]) (if a = 0 then b else a) := by
  refine ev_mk 4 fun k hk => ?_
  obtain ⟨m, rfl⟩ : ∃ m, k = m + 1 + 1 + 1 := ⟨k - 3, by omega⟩
  unfold cmp_Or_int.f
  have e1 : wrap64 (0 + 1) = 1 := wrap64_id (by decide) (by decide)
  have e2 : wrap64 (1 + 1) = 2 := wrap64_id (by decide) (by decide)
  have r0 : rd [a, b] 0 = a := rfl
  have r1 : rd [a, b] 1 = b := rfl
  simp only [cmp_Or_int.l0, List.length_cons, List.length_nil, e1, e2, r0, r1]
  by_cases ha : a = 0
  · by_cases hb : b = 0
    · simp [ha, hb]
    · simp [ha, hb]
  · simp [ha]
theorem implValid_ev (p : List S127) (hs : SmallEI p) : ∃ b : Bool, Ev (fun k => impl_ValidPolicy.f k p) b ∧ (b = true ↔ (∀ i, entP p i) ∧ totL p ≤ 1000) := by
  obtain ⟨hl, hm⟩ := hs
  have key : ∀ d i T : Nat, i + d = p.length → T ≤ 1000 → ∃ b : Bool, Ev (fun k => impl_ValidPolicy.l0 k (T : Int) p (p.length : Int) (i : Int) p) b ∧ (b = true ↔ (∀ j, i ≤ j → entP p j) ∧ T + totL (p.drop i) ≤ 1000) := by
    intro d
    induction d with
    | zero =>
      intro i T hi hT
      refine ⟨true, ev_end fun k => by simp only [impl_ValidPolicy.l0]; rw [if_neg (by omega)], ?_⟩
      rw [List.drop_eq_nil_of_le (by omega)]
      exact ⟨fun _ => ⟨fun j hj hjl => by omega, by simp only [totL]; omega⟩, fun _ => rfl⟩
    | succ d ih =>
      intro i T hi hT
      have hil : i < p.length := by omega
      have hmi := hm _ (List.getElem_mem hil)
      have hml := hmi.1
      rw [List.drop_eq_getElem_cons hil, totL]
      have hfalse : (¬ entP p i ∨ ¬ T + p[i].f2.length ≤ 1000) → ∃ b : Bool, Ev (fun _ => some false) b ∧ (b = true ↔ (∀ j, i ≤ j → entP p j) ∧ T + (p[i].f2.length + totL (p.drop (i + 1))) ≤ 1000) := fun hn => ⟨false, ev_is fun _ => rfl, ⟨fun h => absurd h (by decide), fun h => by
        rcases hn with hn | hn
        · exact absurd (h.1 i (Nat.le_refl _)) hn
        · omega⟩⟩
      have hwT : wrap64 ((T : Int) + (p[i].f2.length : Int)) = ((T + p[i].f2.length : Nat) : Int) := by rw [wrap64_id (by omega) (by omega)]; omega
      have hcon : slices_ContainsFunc_Rule.f p[i].f2 = some (p[i].f2.any fun c => !ruleOKr c) := by
        unfold slices_ContainsFunc_Rule.f
        exact if_pos ⟨by omega, fun x hx => by have := hmi.2 x hx; omega⟩
      have hj1 : (∀ h0 : 0 < i, ordP (p[i - 1]'(by omega)) p[i]) → ∃ b : Bool, Ev (fun k => impl_ValidPolicy.j1 k (T : Int) p (p.length : Int) (i : Int) p p[i].f0 p[i].f1 p[i].f2) b ∧ (b = true ↔ (∀ j, i ≤ j → entP p j) ∧ T + (p[i].f2.length + totL (p.drop (i + 1))) ≤ 1000) := by
        intro hord
        have hj2f : ∀ b : Bool, Ev (fun _ => some false) b → Ev (fun k => impl_ValidPolicy.j2 k ((T + p[i].f2.length : Nat) : Int) p (p.length : Int) (i : Int) true p p[i].f0 p[i].f1 p[i].f2) b := fun b hb => ev_step _ (fun k => by simp only [impl_ValidPolicy.j2]; rw [if_pos trivial]) hb
        by_cases c1 : (p[i].f2.length : Int) < 1
        · obtain ⟨b, hb, ib⟩ := hfalse (.inl fun he => by have := he hil; omega)
          refine ⟨b, ev_step _ (fun k => ?_) (hj2f b hb), ib⟩
          simp only [impl_ValidPolicy.j1]
          rw [if_pos c1, hwT]
        · by_cases c2 : (p[i].f2.length : Int) > 200
          · obtain ⟨b, hb, ib⟩ := hfalse (.inl fun he => by have := he hil; omega)
            refine ⟨b, ev_step _ (fun k => ?_) (hj2f b hb), ib⟩
            simp only [impl_ValidPolicy.j1]
            rw [if_neg c1, if_pos c2, hwT]
          · by_cases c3 : T + p[i].f2.length ≤ 1000
            · obtain ⟨b', h', i'⟩ := ih (i + 1) (T + p[i].f2.length) (by omega) c3
              have hj1s : ∀ b, Ev (fun k => impl_ValidPolicy.j2 k ((T + p[i].f2.length : Nat) : Int) p (p.length : Int) (i : Int) false p p[i].f0 p[i].f1 p[i].f2) b → Ev (fun k => impl_ValidPolicy.j1 k (T : Int) p (p.length : Int) (i : Int) p p[i].f0 p[i].f1 p[i].f2) b := fun b hb => ev_step _ (fun k => by
                simp only [impl_ValidPolicy.j1]
                rw [if_neg c1, if_neg c2, hwT, decide_eq_false (by omega)]) hb
              by_cases c4 : (p[i].f2.any fun c => !ruleOKr c) = true
              · obtain ⟨b, hb, ib⟩ := hfalse (.inl fun he => by
                  obtain ⟨r, hr, hn⟩ := List.any_eq_true.1 c4
                  have := (he hil).2.2.2 r hr
                  rw [this] at hn
                  exact absurd hn (by decide))
                refine ⟨b, hj1s b (ev_step _ (fun k => ?_) hb), ib⟩
                simp only [impl_ValidPolicy.j2]
                rw [if_neg (by decide), hcon, Option.bind_some, if_pos c4]
              · have hr : ∀ r ∈ p[i].f2, ruleOKr r = true := by
                  intro r hr
                  have := List.any_eq_false.1 (Bool.eq_false_iff.2 c4) r hr
                  simpa using this
                have he : entP p i := fun _ => ⟨by omega, by omega, hord, hr⟩
                refine ⟨b', hj1s b' (ev_step _ (fun k => ?_) h'), i'.trans ⟨fun h => ⟨fun j hj => by
                  by_cases e : j = i
                  · subst e; exact he
                  · exact h.1 j (by omega), by omega⟩, fun h => ⟨fun j hj => h.1 j (by omega), by omega⟩⟩⟩
                simp only [impl_ValidPolicy.j2]
                rw [if_neg (by decide), hcon, Option.bind_some, if_neg c4, wrap64_id (i := (i : Int) + 1) (by omega) (by omega)]
                rfl
            · obtain ⟨b, hb, ib⟩ := hfalse (.inr c3)
              refine ⟨b, ev_step _ (fun k => ?_) (hj2f b hb), ib⟩
              simp only [impl_ValidPolicy.j1]
              rw [if_neg c1, if_neg c2, hwT, decide_eq_true (by omega)]
      by_cases h0 : 0 < i
      · have hpred := wrap_pred i h0 (by omega)
        have hrd := rdEI p (i - 1) (by omega)
        obtain ⟨K, hK⟩ := ev_get (or_ev (if p[i - 1].f0 < p[i].f0 then -1 else if p[i - 1].f0 > p[i].f0 then 1 else 0) (if p[i - 1].f1 < p[i].f1 then -1 else if p[i - 1].f1 > p[i].f1 then 1 else 0))
        have hstep : ∀ (f : Nat → Option Bool) (b : Bool), (∀ k, (if (if (if p[i - 1].f0 < p[i].f0 then (-1 : Int) else if p[i - 1].f0 > p[i].f0 then 1 else 0) = 0 then (if p[i - 1].f1 < p[i].f1 then (-1 : Int) else if p[i - 1].f1 > p[i].f1 then 1 else 0) else (if p[i - 1].f0 < p[i].f0 then (-1 : Int) else if p[i - 1].f0 > p[i].f0 then 1 else 0)) ≥ 0 then some false else impl_ValidPolicy.j1 k (T : Int) p (p.length : Int) (i : Int) p p[i].f0 p[i].f1 p[i].f2) = f k) → Ev f b → Ev (fun k => impl_ValidPolicy.l0 k (T : Int) p (p.length : Int) (i : Int) p) b := by
          intro f b hf hb
          obtain ⟨K2, hK2⟩ := ev_get hb
          refine ev_mk (K + K2 + 1) fun k hk => ?_
          obtain ⟨m, rfl⟩ : ∃ m, k = m + 1 := ⟨k - 1, by omega⟩
          simp only [impl_ValidPolicy.l0]
          rw [if_pos (by omega), if_pos (by omega), if_pos (by omega), if_pos (by omega), hpred, if_pos (by omega), if_pos (by omega), hrd, rdEI p i hil, compare_is, Option.bind_some, compare_is, Option.bind_some, hK m (by omega), Option.bind_some, hf m]
          exact hK2 m (by omega)
        by_cases ho : ordP p[i - 1] p[i]
        · obtain ⟨b, hb, ib⟩ := hj1 fun _ => ho
          refine ⟨b, hstep _ b (fun k => ?_) hb, ib⟩
          rw [if_neg]
          rcases ho with h | ⟨h1, h2⟩
          · rw [if_pos h, if_neg (by decide)]; decide
          · rw [if_neg (by omega : ¬ p[i - 1].f0 < p[i].f0), if_neg (by omega : ¬ p[i - 1].f0 > p[i].f0), if_pos rfl, if_pos h2]; decide
        · obtain ⟨b, hb, ib⟩ := hfalse (.inl fun he => ho ((he hil).2.2.1 h0))
          refine ⟨b, hstep _ b (fun k => ?_) hb, ib⟩
          rw [if_pos]
          unfold ordP at ho
          by_cases c1 : p[i - 1].f0 < p[i].f0
          · exact absurd (.inl c1) ho
          · by_cases c2 : p[i - 1].f0 > p[i].f0
            · rw [if_neg c1, if_pos c2, if_neg (by decide)]; decide
            · rw [if_neg c1, if_neg c2, if_pos rfl]
              by_cases c3 : p[i - 1].f1 < p[i].f1
              · exact absurd (.inr ⟨by omega, c3⟩) ho
              · rw [if_neg c3]
                split <;> decide
      · obtain ⟨b, hb, ib⟩ := hj1 fun g => absurd g h0
        refine ⟨b, ev_step _ (fun k => ?_) hb, ib⟩
        simp only [impl_ValidPolicy.l0]
        rw [if_pos (by omega), if_pos (by omega), if_pos (by omega), if_neg (by omega), rdEI p i hil]
  obtain ⟨b, hb, ib⟩ := key p.length 0 0 (by omega) (by omega)
  rw [List.drop_zero, Nat.zero_add] at ib
  exact ⟨b, hb, ib.trans ⟨fun h => ⟨fun i => h.1 i (Nat.zero_le _), h.2⟩, fun h => ⟨fun i _ => h.1 i, h.2⟩⟩⟩
end Go.Proofs.Ytdipinclchkhjaa.P

namespace Go.Proofs.Ytdipinclchkhjaa.P
open Go.RowKit Go.Proofs.YtdipinclchkhjaaW.PrintWords Go.Proofs.YtdipinclchkhjaaW.PrintLast Go.Proofs.YtdipinclchkhjaaW.PrintMore
attribute [local go_sem] max2_int min2_int max_two min_two max_three min_three max_four min_four   -- for this text's walks alone
set_option linter.unusedVariables false
set_option linter.unusedSimpArgs false

/-! ### laws_FnExactValidPolicy: function 8 -/
def laws_FnExactValidPolicy.f (k : Nat) (l0_0 : List (S180)) : Option (Bool) := (laws_szPolicy.f k l0_0 1048576).bind fun t629 => (if t629 < 0 then (some true) else ((laws_toPolicy.f k l0_0).bind fun t630 => ((spec_ValidPolicy.f k t630).bind fun t633 => ((laws_toPolicy.f k l0_0).bind fun t634 => ((impl_ValidPolicy.f k t634).bind fun t638 => (if (t638 != t633) = true then (some false) else ((laws_toPolicy.f k l0_0).bind fun t639 => ((laws_eqPolicy.f k t634 t639).bind fun t642 => (if t642 = true then (some true) else (some false))))))))))
theorem laws_FnExactValidPolicy.mono : ∀ a0 k, LeO (laws_FnExactValidPolicy.f k a0) (laws_FnExactValidPolicy.f (k + 1) a0) := by
  intro a0 k
  unfold laws_FnExactValidPolicy.f
  repeat' first
      | (with_reducible exact impl_ValidPolicy.mono _ _)
      | (with_reducible exact laws_eqPolicy.mono _ _ _)
      | (with_reducible exact laws_szPolicy.mono _ _ _)
      | (with_reducible exact laws_toPolicy.mono _ _)
      | (with_reducible exact spec_ValidPolicy.mono _ _)
      | (with_reducible exact LeO.refl _)
      | (with_reducible exact LeO.none _)
      | (with_reducible refine LeO.ite ?_ ?_)
      | (with_reducible refine LeO.bind ?_ (fun _ => ?_))
      | exact impl_ValidPolicy.mono _ _
      | exact laws_eqPolicy.mono _ _ _
      | exact laws_szPolicy.mono _ _ _
      | exact laws_toPolicy.mono _ _
      | exact spec_ValidPolicy.mono _ _
      | exact LeO.none _
      | refine LeO.ite ?_ ?_
      | refine LeO.bind ?_ (fun _ => ?_)
set_option maxHeartbeats 8000000 in
set_option maxRecDepth 100000 in
theorem laws_FnExactValidPolicy.calls (k : Nat) (A0_0 : Option Addr) (c0_0 : Nat) (l0_0 : List (S180)) (r : Bool) (w : World) (hr0_0 : Kd.C k180 w A0_0 l0_0.length l0_0) (hc0_0 : l0_0.length ≤ c0_0) (h : laws_FnExactValidPolicy.f k l0_0 = some r) :
    Calls Try.prog 8 #[.agg #[.slice A0_0 l0_0.length c0_0]] w fun e w' => e = .returned (.bool r) ∧ Below w.heap.size w w' := by
  have hu59 := Try.underlying59
  have hu64 := Try.underlying64
  have HR0_0 := Aside0.mk hr0_0
  have HC0_0 := Aside0.mk hc0_0
  clear hr0_0 hc0_0
  have HB := Aside0.mk (Below.refl w.heap.size w)
  have H : ((laws_szPolicy.f k l0_0 1048576).bind fun t629 => (if t629 < 0 then (some true) else ((laws_toPolicy.f k l0_0).bind fun t630 => ((spec_ValidPolicy.f k t630).bind fun t633 => ((laws_toPolicy.f k l0_0).bind fun t634 => ((impl_ValidPolicy.f k t634).bind fun t638 => (if (t638 != t633) = true then (some false) else ((laws_toPolicy.f k l0_0).bind fun t639 => ((laws_eqPolicy.f k t634 t639).bind fun t642 => (if t642 = true then (some true) else (some false))))))))))) = some r := h
  clear h
  replace H := Option.bind_eq_some_iff.mp H
  obtain ⟨t629, A20, H⟩ := H
  replace H : (if t629 < 0 then (some true) else ((laws_toPolicy.f k l0_0).bind fun t630 => ((spec_ValidPolicy.f k t630).bind fun t633 => ((laws_toPolicy.f k l0_0).bind fun t634 => ((impl_ValidPolicy.f k t634).bind fun t638 => (if (t638 != t633) = true then (some false) else ((laws_toPolicy.f k l0_0).bind fun t639 => ((laws_eqPolicy.f k t634 t639).bind fun t642 => (if t642 = true then (some true) else (some false)))))))))) = some r := H
  have A2 := Aside0.mk A20
  clear A20
  by_cases c3 : t629 < 0
  · rw [if_pos c3] at H
    have c3b0 : decide (t629 < 0) = true := decide_eq_true c3
    clear c3
    obtain rfl := Option.some.inj H
    go_enter Try.func8, Try.ntmps8
    go_wp2_with (first | ((with_reducible refine gate_dst (N := 1) rfl ?_); refine box_event ?hg (N := 1) ?hd (cs := #[.slice A0_0 l0_0.length c0_0]) (t := 59) ?hr ?_; (case hd => rfl); (case hg => rfl); (case hr => first | (go_simp; done) | (go_simp; rfl)); intro gb628 hg w4 hbox hb; have n0_ := Aside0.mk (below_step (by repeat (first | (with_reducible first | exact HB.out | apply below_alloc | apply pw_below_drewN | apply below_drew1) | exact HB.out)) hb); have n1_ := Aside0.mk (hbox); have n2_ := Aside0.mk ((by rw [hg]; exact (below_size (by repeat (first | (with_reducible first | exact HB.out | apply below_alloc | apply pw_below_drewN | apply below_drew1) | exact HB.out))) : w.heap.size ≤ gb628)); have n3_ := Aside0.mk ((by rw [hg]; exact (below_size (by repeat (first | (with_reducible first | exact HB.out | apply below_alloc | apply pw_below_drewN | apply below_drew1) | exact HB.out))) : w.heap.size ≤ gb628)); clear HB; have HB := n0_; have BK628 := n1_; have GW628 := n2_; have GE628 := n3_; clear n0_ n1_ n2_ n3_; clear hb hbox hg; have hcz5_0 : w4.cell? ⟨gb628, 0, none⟩ = some (.slice A0_0 l0_0.length c0_0) := (blk_cell BK628.out 0).trans rfl; have hfz5_0 := blk_frozen BK628.out 0) | ((with_reducible refine gate_callee (f := 38) rfl ?_); refine goesL_ (some 9) rfl rfl Try.func38 (by kernel_rfl) rfl #[.agg #[.slice A0_0 l0_0.length c0_0], .int .i64 1048576] rfl (by (try simp only [List.map_toArray, List.map_cons, List.map_nil]); first | done | rfl | (simp only [List.length_drop, List.length_take]; rfl)) ?_; (with_reducible refine (laws_szPolicy.calls k _ _ l0_0 1048576 t629 _ ?side1 ?side2 A2.out).mono ?_); (case side1 => repeat (first | exact (Kd.C_below HR0_0.out HB.out) | (with_reducible refine Kd.C_alloc ?_ _) | (with_reducible refine Kd.C_drewN ?_ _) | (with_reducible refine Kd.C_drew ?_))); (case side2 => exact HC0_0.out); rintro e w6 ⟨rfl, hb⟩; refine ⟨_, rfl, ?_⟩; have n0_ := Aside0.mk (blk_below (g := gb628) (o := .cells #[.slice A0_0 l0_0.length c0_0] 59 (0, 0)) (by (with_reducible repeat (first | refine blk_drewN ?_ _ | refine blk_drew ?_ | refine blk_alloc ?_ _)); exact BK628.out) hb); have n1_ := Aside0.mk (below_step (by repeat (first | (with_reducible first | exact HB.out | apply below_alloc | apply pw_below_drewN | apply below_drew1 | refine below_set ?_ GE628.out) | exact HB.out)) hb); clear BK628; clear HB; have BK628 := n0_; have HB := n1_; clear n0_ n1_; (try clear hb); (try clear hb2); (try clear hk); (try clear hi)))
    go_ret
    exact ⟨by first | rfl | (simp [errW_none, errW_some] <;> rfl) | (simp [*, errW_none, errW_some] <;> rfl), by repeat (first | (with_reducible first | exact HB.out | apply below_alloc | apply pw_below_drewN | apply below_drew1 | refine below_set ?_ GE628.out) | exact HB.out)⟩
  · rw [if_neg c3] at H
    have c3b0 : decide (t629 < 0) = false := decide_eq_false c3
    clear c3
    replace H := Option.bind_eq_some_iff.mp H
    obtain ⟨t630, A70, H⟩ := H
    replace H : ((spec_ValidPolicy.f k t630).bind fun t633 => ((laws_toPolicy.f k l0_0).bind fun t634 => ((impl_ValidPolicy.f k t634).bind fun t638 => (if (t638 != t633) = true then (some false) else ((laws_toPolicy.f k l0_0).bind fun t639 => ((laws_eqPolicy.f k t634 t639).bind fun t642 => (if t642 = true then (some true) else (some false)))))))) = some r := H
    have A7 := Aside0.mk A70
    clear A70
    replace H := Option.bind_eq_some_iff.mp H
    obtain ⟨t633, A80, H⟩ := H
    replace H : ((laws_toPolicy.f k l0_0).bind fun t634 => ((impl_ValidPolicy.f k t634).bind fun t638 => (if (t638 != t633) = true then (some false) else ((laws_toPolicy.f k l0_0).bind fun t639 => ((laws_eqPolicy.f k t634 t639).bind fun t642 => (if t642 = true then (some true) else (some false))))))) = some r := H
    have A8 := Aside0.mk A80
    clear A80
    replace H := Option.bind_eq_some_iff.mp H
    obtain ⟨t634, A90, H⟩ := H
    replace H : ((impl_ValidPolicy.f k t634).bind fun t638 => (if (t638 != t633) = true then (some false) else ((laws_toPolicy.f k l0_0).bind fun t639 => ((laws_eqPolicy.f k t634 t639).bind fun t642 => (if t642 = true then (some true) else (some false)))))) = some r := H
    have A9 := Aside0.mk A90
    clear A90
    replace H := Option.bind_eq_some_iff.mp H
    obtain ⟨t638, A100, H⟩ := H
    replace H : (if (t638 != t633) = true then (some false) else ((laws_toPolicy.f k l0_0).bind fun t639 => ((laws_eqPolicy.f k t634 t639).bind fun t642 => (if t642 = true then (some true) else (some false))))) = some r := H
    have A10 := Aside0.mk A100
    clear A100
    by_cases c11 : (t638 != t633) = true
    · rw [if_pos c11] at H
      have c11b0 : (t638 != t633) = true := c11
      (try (have c11b1 : decide (t638 = t633) = false := by simpa using c11))
      (try (have c11b2 : (t638 == t633) = false := by simpa using c11))
      (try (have c11b3 : ¬ (t638 = t633) := by simpa using c11))
      clear c11
      obtain rfl := Option.some.inj H
      go_enter Try.func8, Try.ntmps8
      go_wp2_with (first | ((with_reducible refine gate_dst (N := 1) rfl ?_); refine box_event ?hg (N := 1) ?hd (cs := #[.slice A0_0 l0_0.length c0_0]) (t := 59) ?hr ?_; (case hd => rfl); (case hg => rfl); (case hr => first | (go_simp; done) | (go_simp; rfl)); intro gb628 hg w12 hbox hb; have n0_ := Aside0.mk (below_step (by repeat (first | (with_reducible first | exact HB.out | apply below_alloc | apply pw_below_drewN | apply below_drew1) | exact HB.out)) hb); have n1_ := Aside0.mk (hbox); have n2_ := Aside0.mk ((by rw [hg]; exact (below_size (by repeat (first | (with_reducible first | exact HB.out | apply below_alloc | apply pw_below_drewN | apply below_drew1) | exact HB.out))) : w.heap.size ≤ gb628)); have n3_ := Aside0.mk ((by rw [hg]; exact (below_size (by repeat (first | (with_reducible first | exact HB.out | apply below_alloc | apply pw_below_drewN | apply below_drew1) | exact HB.out))) : w.heap.size ≤ gb628)); clear HB; have HB := n0_; have BK628 := n1_; have GW628 := n2_; have GE628 := n3_; clear n0_ n1_ n2_ n3_; clear hb hbox hg; have hcz13_0 : w12.cell? ⟨gb628, 0, none⟩ = some (.slice A0_0 l0_0.length c0_0) := (blk_cell BK628.out 0).trans rfl; have hfz13_0 := blk_frozen BK628.out 0) | ((with_reducible refine gate_callee (f := 38) rfl ?_); refine goesL_ (some 9) rfl rfl Try.func38 (by kernel_rfl) rfl #[.agg #[.slice A0_0 l0_0.length c0_0], .int .i64 1048576] rfl (by (try simp only [List.map_toArray, List.map_cons, List.map_nil]); first | done | rfl | (simp only [List.length_drop, List.length_take]; rfl)) ?_; (with_reducible refine (laws_szPolicy.calls k _ _ l0_0 1048576 t629 _ ?side1 ?side2 A2.out).mono ?_); (case side1 => repeat (first | exact (Kd.C_below HR0_0.out HB.out) | (with_reducible refine Kd.C_alloc ?_ _) | (with_reducible refine Kd.C_drewN ?_ _) | (with_reducible refine Kd.C_drew ?_))); (case side2 => exact HC0_0.out); rintro e w14 ⟨rfl, hb⟩; refine ⟨_, rfl, ?_⟩; have n0_ := Aside0.mk (blk_below (g := gb628) (o := .cells #[.slice A0_0 l0_0.length c0_0] 59 (0, 0)) (by (with_reducible repeat (first | refine blk_drewN ?_ _ | refine blk_drew ?_ | refine blk_alloc ?_ _)); exact BK628.out) hb); have n1_ := Aside0.mk (below_step (by repeat (first | (with_reducible first | exact HB.out | apply below_alloc | apply pw_below_drewN | apply below_drew1 | refine below_set ?_ GE628.out) | exact HB.out)) hb); clear BK628; clear HB; have BK628 := n0_; have HB := n1_; clear n0_ n1_; (try clear hb); (try clear hb2); (try clear hk); (try clear hi); have hcz15_0 : w14.cell? ⟨gb628, 0, none⟩ = some (.slice A0_0 l0_0.length c0_0) := (blk_cell BK628.out 0).trans rfl; have hfz15_0 := blk_frozen BK628.out 0) | ((with_reducible refine gate_callee (f := 40) rfl ?_); refine goesL_ (some 13) rfl rfl Try.func40 (by kernel_rfl) rfl #[.agg #[.slice A0_0 l0_0.length c0_0]] rfl (by (try simp only [List.map_toArray, List.map_cons, List.map_nil]); first | done | rfl | (simp only [List.length_drop, List.length_take]; rfl)) ?_; (with_reducible refine (laws_toPolicy.calls k _ _ l0_0 t630 _ ?side1 ?side2 A7.out).mono ?_); (case side1 => repeat (first | exact (Kd.C_below HR0_0.out HB.out) | (with_reducible refine Kd.C_alloc ?_ _) | (with_reducible refine Kd.C_drewN ?_ _) | (with_reducible refine Kd.C_drew ?_))); (case side2 => exact HC0_0.out); rintro e w16 ⟨v631, rfl, ho0, hb⟩; refine ⟨_, rfl, ?_⟩; have n0_ := Aside0.mk (Kd.R_lower ho0 (below_size (by repeat (first | (with_reducible first | exact HB.out | apply below_alloc | apply pw_below_drewN | apply below_drew1 | refine below_set ?_ GE628.out) | exact HB.out)))); have n1_ := Aside0.mk (blk_below (g := gb628) (o := .cells #[.slice A0_0 l0_0.length c0_0] 59 (0, 0)) (by (with_reducible repeat (first | refine blk_drewN ?_ _ | refine blk_drew ?_ | refine blk_alloc ?_ _)); exact BK628.out) hb); have n2_ := Aside0.mk (below_step (by repeat (first | (with_reducible first | exact HB.out | apply below_alloc | apply pw_below_drewN | apply below_drew1 | refine below_set ?_ GE628.out) | exact HB.out)) hb); clear BK628; clear HB; have HO632 := n0_; have BK628 := n1_; have HB := n2_; clear n0_ n1_ n2_; (try clear hb); (try clear hb2); (try clear hk); (try clear hi); (try clear ho0); obtain ⟨Ao17, co17, eo17⟩ := Kd.R_slice HO632.out; subst eo17) | ((with_reducible refine gate_callee (f := 39) rfl ?_); refine goesL_ (some 14) rfl rfl Try.func39 (by kernel_rfl) rfl #[.agg #[.slice Ao17 t630.length co17]] rfl (by (try simp only [List.map_toArray, List.map_cons, List.map_nil]); first | done | rfl | (simp only [List.length_drop, List.length_take]; rfl)) ?_; (with_reducible refine (spec_ValidPolicy.calls k _ _ t630 t633 _ ?side1 ?side2 A8.out).mono ?_); (case side1 => repeat (first | exact (Kd.R_reads' HO632.out).2.2 | (with_reducible refine Kd.C_alloc ?_ _) | (with_reducible refine Kd.C_drewN ?_ _) | (with_reducible refine Kd.C_drew ?_))); (case side2 => exact (Kd.R_reads' HO632.out).2.1); rintro e w18 ⟨rfl, hb⟩; refine ⟨_, rfl, ?_⟩; have n0_ := Aside0.mk (Kd.R_below (by (with_reducible repeat (first | apply Kd.R_alloc | apply Kd.R_drewN | apply Kd.R_drew)); exact HO632.out) hb); have n1_ := Aside0.mk (blk_below (g := gb628) (o := .cells #[.slice A0_0 l0_0.length c0_0] 59 (0, 0)) (by (with_reducible repeat (first | refine blk_drewN ?_ _ | refine blk_drew ?_ | refine blk_alloc ?_ _)); exact BK628.out) hb); have n2_ := Aside0.mk (below_step (by repeat (first | (with_reducible first | exact HB.out | apply below_alloc | apply pw_below_drewN | apply below_drew1 | refine below_set ?_ GE628.out) | exact HB.out)) hb); clear HO632; clear BK628; clear HB; have HO632 := n0_; have BK628 := n1_; have HB := n2_; clear n0_ n1_ n2_; (try clear hb); (try clear hb2); (try clear hk); (try clear hi); have hcz19_0 : w18.cell? ⟨gb628, 0, none⟩ = some (.slice A0_0 l0_0.length c0_0) := (blk_cell BK628.out 0).trans rfl; have hfz19_0 := blk_frozen BK628.out 0) | ((with_reducible refine gate_callee (f := 40) rfl ?_); refine goesL_ (some 16) rfl rfl Try.func40 (by kernel_rfl) rfl #[.agg #[.slice A0_0 l0_0.length c0_0]] rfl (by (try simp only [List.map_toArray, List.map_cons, List.map_nil]); first | done | rfl | (simp only [List.length_drop, List.length_take]; rfl)) ?_; (with_reducible refine (laws_toPolicy.calls k _ _ l0_0 t634 _ ?side1 ?side2 A9.out).mono ?_); (case side1 => repeat (first | exact (Kd.C_below HR0_0.out HB.out) | (with_reducible refine Kd.C_alloc ?_ _) | (with_reducible refine Kd.C_drewN ?_ _) | (with_reducible refine Kd.C_drew ?_))); (case side2 => exact HC0_0.out); rintro e w20 ⟨v635, rfl, ho0, hb⟩; refine ⟨_, rfl, ?_⟩; have n0_ := Aside0.mk (Kd.R_elder' (by (with_reducible repeat (first | apply Kd.R_alloc | apply Kd.R_drewN | apply Kd.R_drew)); exact HO632.out) (Kd.R_base ho0) hb); have n1_ := Aside0.mk (Kd.R_lower (Kd.R_new' ho0 (Kd.R_lt (by (with_reducible repeat (first | apply Kd.R_alloc | apply Kd.R_drewN | apply Kd.R_drew)); exact HO632.out))) (below_size (by repeat (first | (with_reducible first | exact HB.out | apply below_alloc | apply pw_below_drewN | apply below_drew1 | refine below_set ?_ GE628.out) | exact HB.out)))); have n2_ := Aside0.mk (blk_below (g := gb628) (o := .cells #[.slice A0_0 l0_0.length c0_0] 59 (0, 0)) (by (with_reducible repeat (first | refine blk_drewN ?_ _ | refine blk_drew ?_ | refine blk_alloc ?_ _)); exact BK628.out) hb); have n3_ := Aside0.mk (below_step (by repeat (first | (with_reducible first | exact HB.out | apply below_alloc | apply pw_below_drewN | apply below_drew1 | refine below_set ?_ GE628.out) | exact HB.out)) hb); clear HO632; clear BK628; clear HB; have HO632 := n0_; have HO636 := n1_; have BK628 := n2_; have HB := n3_; clear n0_ n1_ n2_ n3_; (try clear hb); (try clear hb2); (try clear hk); (try clear hi); (try clear ho0)) | ((with_reducible refine gate_dst (N := 5) rfl ?_); refine box_event ?hg (N := 5) ?hd (cs := #[.slice none 0 0]) (t := 64) ?hr ?_; (case hd => rfl); (case hg => rfl); (case hr => first | (go_simp; done) | (go_simp; rfl)); intro gb637 hg w21 hbox hb; have n0_ := Aside0.mk (Kd.R_below (by (with_reducible repeat (first | apply Kd.R_alloc | apply Kd.R_drewN | apply Kd.R_drew)); exact HO632.out) hb); have n1_ := Aside0.mk (Kd.R_below (by (with_reducible repeat (first | apply Kd.R_alloc | apply Kd.R_drewN | apply Kd.R_drew)); exact HO636.out) hb); have n2_ := Aside0.mk (blk_below (g := gb628) (o := .cells #[.slice A0_0 l0_0.length c0_0] 59 (0, 0)) (by (with_reducible repeat (first | refine blk_drewN ?_ _ | refine blk_drew ?_ | refine blk_alloc ?_ _)); exact BK628.out) hb); have n3_ := Aside0.mk (below_step (by repeat (first | (with_reducible first | exact HB.out | apply below_alloc | apply pw_below_drewN | apply below_drew1 | refine below_set ?_ GE628.out) | exact HB.out)) hb); have n4_ := Aside0.mk (hbox); have n5_ := Aside0.mk ((by rw [hg]; exact (below_size (by repeat (first | (with_reducible first | exact HB.out | apply below_alloc | apply pw_below_drewN | apply below_drew1 | refine below_set ?_ GE628.out) | exact HB.out))) : w.heap.size ≤ gb637)); have n6_ := Aside0.mk ((by rw [hg]; exact (below_size (by repeat (first | (with_reducible first | exact HB.out | apply below_alloc | apply pw_below_drewN | apply below_drew1 | refine below_set ?_ GE628.out) | exact HB.out))) : w.heap.size ≤ gb637)); have n7_ := Aside0.mk ((by rw [hg]; exact Nat.ne_of_lt (blk_lt (g := gb628) (o := .cells #[.slice A0_0 l0_0.length c0_0] 59 (0, 0)) (by (with_reducible repeat (first | refine blk_drewN ?_ _ | refine blk_drew ?_ | refine blk_alloc ?_ _)); exact BK628.out)) : gb628 ≠ gb637)); have n8_ := Aside0.mk ((by rw [hg]; exact Nat.ne_of_gt (blk_lt (g := gb628) (o := .cells #[.slice A0_0 l0_0.length c0_0] 59 (0, 0)) (by (with_reducible repeat (first | refine blk_drewN ?_ _ | refine blk_drew ?_ | refine blk_alloc ?_ _)); exact BK628.out)) : gb637 ≠ gb628)); clear HO632; clear HO636; clear BK628; clear HB; have HO632 := n0_; have HO636 := n1_; have BK628 := n2_; have HB := n3_; have BK637 := n4_; have GW637 := n5_; have GE637 := n6_; have NB628_637 := n7_; have NB637_628 := n8_; clear n0_ n1_ n2_ n3_ n4_ n5_ n6_ n7_ n8_; clear hb hbox hg; obtain ⟨Ao22, co22, eo22⟩ := Kd.R_slice HO636.out; subst eo22; have hnb23 := NB637_628.out; have hnc23 := NB628_637.out; have hcz24_0 : w21.cell? ⟨gb637, 0, none⟩ = some (.slice none 0 0) := (blk_cell BK637.out 0).trans rfl; have hfz24_0 := blk_frozen BK637.out 0) | ((with_reducible refine gate_callee (f := 41) rfl ?_); refine goesL_ (some 18) rfl rfl Try.func41 (by kernel_rfl) rfl #[.agg #[.slice Ao22 t634.length co22]] rfl (by (try simp only [List.map_toArray, List.map_cons, List.map_nil]); first | done | rfl | (simp only [List.length_drop, List.length_take]; rfl)) ?_; (with_reducible refine (impl_ValidPolicy.calls k _ _ t634 t638 _ ?side1 ?side2 A10.out).mono ?_); (case side1 => refine (Kd.R_reads' (e := 127) (base := w.heap.size) (ok := fun k_ => (True ∧ some k_ ≠ (.slice Ao17 t630.length co17 : Value).ownBlock)) (n := t634.length) (c := co22) ?_).2.2; exact (by (with_reducible repeat (first | apply Kd.R_alloc | apply Kd.R_drewN | apply Kd.R_drew)); exact (Kd.R_mono (Kd.R_far (p := ⟨gb637, 0, none⟩) (Kd.R_types HO636.out BK637.out (by decide)) (fun _ hk => hk.2) (.slice Ao22 t634.length co22)) (fun _ h_ => h_.1)))); (case side2 => exact (Kd.R_reads' HO636.out).2.1); rintro e w25 ⟨rfl, hb⟩; refine ⟨_, rfl, ?_⟩; have n0_ := Aside0.mk (Kd.R_below (by (with_reducible repeat (first | apply Kd.R_alloc | apply Kd.R_drewN | apply Kd.R_drew)); exact (Kd.R_mono (Kd.R_far (p := ⟨gb637, 0, none⟩) (Kd.R_types HO632.out BK637.out (by decide)) (fun _ hk => hk.2) (.slice Ao22 t634.length co22)) (fun _ h_ => h_.1))) hb); have n1_ := Aside0.mk (Kd.R_below (by (with_reducible repeat (first | apply Kd.R_alloc | apply Kd.R_drewN | apply Kd.R_drew)); exact (Kd.R_mono (Kd.R_far (p := ⟨gb637, 0, none⟩) (Kd.R_types HO636.out BK637.out (by decide)) (fun _ hk => hk.2) (.slice Ao22 t634.length co22)) (fun _ h_ => h_.1))) hb); have n2_ := Aside0.mk (blk_below (g := gb628) (o := .cells #[.slice A0_0 l0_0.length c0_0] 59 (0, 0)) (by (with_reducible repeat (first | refine blk_drewN ?_ _ | refine blk_drew ?_ | refine blk_alloc ?_ _)); refine blk_far ?_ NB628_637.out _; (with_reducible repeat (first | refine blk_drewN ?_ _ | refine blk_drew ?_ | refine blk_alloc ?_ _)); exact BK628.out) hb); have n3_ := Aside0.mk (blk_below (g := gb637) (o := .cells #[.slice Ao22 t634.length co22] 64 (0, 0)) (by (with_reducible repeat (first | refine blk_drewN ?_ _ | refine blk_drew ?_ | refine blk_alloc ?_ _)); refine blk_put (cs := #[.slice none 0 0]) ?_ 0 _ rfl; (with_reducible repeat (first | refine blk_drewN ?_ _ | refine blk_drew ?_ | refine blk_alloc ?_ _)); exact BK637.out) hb); have n4_ := Aside0.mk (below_step (by repeat (first | (with_reducible first | exact HB.out | apply below_alloc | apply pw_below_drewN | apply below_drew1 | refine below_set ?_ GE628.out | refine below_set ?_ GE637.out) | exact HB.out)) hb); clear HO632; clear HO636; clear BK628; clear BK637; clear HB; have HO632 := n0_; have HO636 := n1_; have BK628 := n2_; have BK637 := n3_; have HB := n4_; clear n0_ n1_ n2_ n3_ n4_; (try clear hb); (try clear hb2); (try clear hk); (try clear hi)))
      go_ret
      exact ⟨by first | rfl | (simp [errW_none, errW_some] <;> rfl) | (simp [*, errW_none, errW_some] <;> rfl), by repeat (first | (with_reducible first | exact HB.out | apply below_alloc | apply pw_below_drewN | apply below_drew1 | refine below_set ?_ GE628.out | refine below_set ?_ GE637.out) | exact HB.out)⟩
    · rw [if_neg c11] at H
      have c11b0 : (t638 != t633) = false := by simpa using c11
      (try (have c11b1 : decide (t638 = t633) = true := by simpa using c11))
      (try (have c11b2 : (t638 == t633) = true := by simpa using c11))
      clear c11
      replace H := Option.bind_eq_some_iff.mp H
      obtain ⟨t639, A260, H⟩ := H
      replace H : ((laws_eqPolicy.f k t634 t639).bind fun t642 => (if t642 = true then (some true) else (some false))) = some r := H
      have A26 := Aside0.mk A260
      clear A260
      replace H := Option.bind_eq_some_iff.mp H
      obtain ⟨t642, A270, H⟩ := H
      replace H : (if t642 = true then (some true) else (some false)) = some r := H
      have A27 := Aside0.mk A270
      clear A270
      by_cases c28 : t642 = true
      · subst c28
        have H1 : (some true) = some r := by rw [if_pos rfl] at H; exact H
        clear H
        have H := H1
        clear H1
        obtain rfl := Option.some.inj H
        go_enter Try.func8, Try.ntmps8
        try go_wp2_with (first | ((with_reducible refine gate_dst (N := 1) rfl ?_); refine box_event ?hg (N := 1) ?hd (cs := #[.slice A0_0 l0_0.length c0_0]) (t := 59) ?hr ?_; (case hd => rfl); (case hg => rfl); (case hr => first | (go_simp; done) | (go_simp; rfl)); intro gb628 hg w29 hbox hb; have n0_ := Aside0.mk (below_step (by repeat (first | (with_reducible first | exact HB.out | apply below_alloc | apply pw_below_drewN | apply below_drew1) | exact HB.out)) hb); have n1_ := Aside0.mk (hbox); have n2_ := Aside0.mk ((by rw [hg]; exact (below_size (by repeat (first | (with_reducible first | exact HB.out | apply below_alloc | apply pw_below_drewN | apply below_drew1) | exact HB.out))) : w.heap.size ≤ gb628)); have n3_ := Aside0.mk ((by rw [hg]; exact (below_size (by repeat (first | (with_reducible first | exact HB.out | apply below_alloc | apply pw_below_drewN | apply below_drew1) | exact HB.out))) : w.heap.size ≤ gb628)); clear HB; have HB := n0_; have BK628 := n1_; have GW628 := n2_; have GE628 := n3_; clear n0_ n1_ n2_ n3_; clear hb hbox hg; have hcz30_0 : w29.cell? ⟨gb628, 0, none⟩ = some (.slice A0_0 l0_0.length c0_0) := (blk_cell BK628.out 0).trans rfl; have hfz30_0 := blk_frozen BK628.out 0) | ((with_reducible refine gate_callee (f := 38) rfl ?_); refine goesL_ (some 9) rfl rfl Try.func38 (by kernel_rfl) rfl #[.agg #[.slice A0_0 l0_0.length c0_0], .int .i64 1048576] rfl (by (try simp only [List.map_toArray, List.map_cons, List.map_nil]); first | done | rfl | (simp only [List.length_drop, List.length_take]; rfl)) ?_; (with_reducible refine (laws_szPolicy.calls k _ _ l0_0 1048576 t629 _ ?side1 ?side2 A2.out).mono ?_); (case side1 => repeat (first | exact (Kd.C_below HR0_0.out HB.out) | (with_reducible refine Kd.C_alloc ?_ _) | (with_reducible refine Kd.C_drewN ?_ _) | (with_reducible refine Kd.C_drew ?_))); (case side2 => exact HC0_0.out); rintro e w31 ⟨rfl, hb⟩; refine ⟨_, rfl, ?_⟩; have n0_ := Aside0.mk (blk_below (g := gb628) (o := .cells #[.slice A0_0 l0_0.length c0_0] 59 (0, 0)) (by (with_reducible repeat (first | refine blk_drewN ?_ _ | refine blk_drew ?_ | refine blk_alloc ?_ _)); exact BK628.out) hb); have n1_ := Aside0.mk (below_step (by repeat (first | (with_reducible first | exact HB.out | apply below_alloc | apply pw_below_drewN | apply below_drew1 | refine below_set ?_ GE628.out) | exact HB.out)) hb); clear BK628; clear HB; have BK628 := n0_; have HB := n1_; clear n0_ n1_; (try clear hb); (try clear hb2); (try clear hk); (try clear hi); have hcz32_0 : w31.cell? ⟨gb628, 0, none⟩ = some (.slice A0_0 l0_0.length c0_0) := (blk_cell BK628.out 0).trans rfl; have hfz32_0 := blk_frozen BK628.out 0) | ((with_reducible refine gate_callee (f := 40) rfl ?_); refine goesL_ (some 13) rfl rfl Try.func40 (by kernel_rfl) rfl #[.agg #[.slice A0_0 l0_0.length c0_0]] rfl (by (try simp only [List.map_toArray, List.map_cons, List.map_nil]); first | done | rfl | (simp only [List.length_drop, List.length_take]; rfl)) ?_; (with_reducible refine (laws_toPolicy.calls k _ _ l0_0 t630 _ ?side1 ?side2 A7.out).mono ?_); (case side1 => repeat (first | exact (Kd.C_below HR0_0.out HB.out) | (with_reducible refine Kd.C_alloc ?_ _) | (with_reducible refine Kd.C_drewN ?_ _) | (with_reducible refine Kd.C_drew ?_))); (case side2 => exact HC0_0.out); rintro e w33 ⟨v631, rfl, ho0, hb⟩; refine ⟨_, rfl, ?_⟩; have n0_ := Aside0.mk (Kd.R_lower ho0 (below_size (by repeat (first | (with_reducible first | exact HB.out | apply below_alloc | apply pw_below_drewN | apply below_drew1 | refine below_set ?_ GE628.out) | exact HB.out)))); have n1_ := Aside0.mk (blk_below (g := gb628) (o := .cells #[.slice A0_0 l0_0.length c0_0] 59 (0, 0)) (by (with_reducible repeat (first | refine blk_drewN ?_ _ | refine blk_drew ?_ | refine blk_alloc ?_ _)); exact BK628.out) hb); have n2_ := Aside0.mk (below_step (by repeat (first | (with_reducible first | exact HB.out | apply below_alloc | apply pw_below_drewN | apply below_drew1 | refine below_set ?_ GE628.out) | exact HB.out)) hb); clear BK628; clear HB; have HO632 := n0_; have BK628 := n1_; have HB := n2_; clear n0_ n1_ n2_; (try clear hb); (try clear hb2); (try clear hk); (try clear hi); (try clear ho0); obtain ⟨Ao34, co34, eo34⟩ := Kd.R_slice HO632.out; subst eo34) | ((with_reducible refine gate_callee (f := 39) rfl ?_); refine goesL_ (some 14) rfl rfl Try.func39 (by kernel_rfl) rfl #[.agg #[.slice Ao34 t630.length co34]] rfl (by (try simp only [List.map_toArray, List.map_cons, List.map_nil]); first | done | rfl | (simp only [List.length_drop, List.length_take]; rfl)) ?_; (with_reducible refine (spec_ValidPolicy.calls k _ _ t630 t633 _ ?side1 ?side2 A8.out).mono ?_); (case side1 => repeat (first | exact (Kd.R_reads' HO632.out).2.2 | (with_reducible refine Kd.C_alloc ?_ _) | (with_reducible refine Kd.C_drewN ?_ _) | (with_reducible refine Kd.C_drew ?_))); (case side2 => exact (Kd.R_reads' HO632.out).2.1); rintro e w35 ⟨rfl, hb⟩; refine ⟨_, rfl, ?_⟩; have n0_ := Aside0.mk (Kd.R_below (by (with_reducible repeat (first | apply Kd.R_alloc | apply Kd.R_drewN | apply Kd.R_drew)); exact HO632.out) hb); have n1_ := Aside0.mk (blk_below (g := gb628) (o := .cells #[.slice A0_0 l0_0.length c0_0] 59 (0, 0)) (by (with_reducible repeat (first | refine blk_drewN ?_ _ | refine blk_drew ?_ | refine blk_alloc ?_ _)); exact BK628.out) hb); have n2_ := Aside0.mk (below_step (by repeat (first | (with_reducible first | exact HB.out | apply below_alloc | apply pw_below_drewN | apply below_drew1 | refine below_set ?_ GE628.out) | exact HB.out)) hb); clear HO632; clear BK628; clear HB; have HO632 := n0_; have BK628 := n1_; have HB := n2_; clear n0_ n1_ n2_; (try clear hb); (try clear hb2); (try clear hk); (try clear hi); have hcz36_0 : w35.cell? ⟨gb628, 0, none⟩ = some (.slice A0_0 l0_0.length c0_0) := (blk_cell BK628.out 0).trans rfl; have hfz36_0 := blk_frozen BK628.out 0) | ((with_reducible refine gate_callee (f := 40) rfl ?_); refine goesL_ (some 16) rfl rfl Try.func40 (by kernel_rfl) rfl #[.agg #[.slice A0_0 l0_0.length c0_0]] rfl (by (try simp only [List.map_toArray, List.map_cons, List.map_nil]); first | done | rfl | (simp only [List.length_drop, List.length_take]; rfl)) ?_; (with_reducible refine (laws_toPolicy.calls k _ _ l0_0 t634 _ ?side1 ?side2 A9.out).mono ?_); (case side1 => repeat (first | exact (Kd.C_below HR0_0.out HB.out) | (with_reducible refine Kd.C_alloc ?_ _) | (with_reducible refine Kd.C_drewN ?_ _) | (with_reducible refine Kd.C_drew ?_))); (case side2 => exact HC0_0.out); rintro e w37 ⟨v635, rfl, ho0, hb⟩; refine ⟨_, rfl, ?_⟩; have n0_ := Aside0.mk (Kd.R_elder' (by (with_reducible repeat (first | apply Kd.R_alloc | apply Kd.R_drewN | apply Kd.R_drew)); exact HO632.out) (Kd.R_base ho0) hb); have n1_ := Aside0.mk (Kd.R_lower (Kd.R_new' ho0 (Kd.R_lt (by (with_reducible repeat (first | apply Kd.R_alloc | apply Kd.R_drewN | apply Kd.R_drew)); exact HO632.out))) (below_size (by repeat (first | (with_reducible first | exact HB.out | apply below_alloc | apply pw_below_drewN | apply below_drew1 | refine below_set ?_ GE628.out) | exact HB.out)))); have n2_ := Aside0.mk (blk_below (g := gb628) (o := .cells #[.slice A0_0 l0_0.length c0_0] 59 (0, 0)) (by (with_reducible repeat (first | refine blk_drewN ?_ _ | refine blk_drew ?_ | refine blk_alloc ?_ _)); exact BK628.out) hb); have n3_ := Aside0.mk (below_step (by repeat (first | (with_reducible first | exact HB.out | apply below_alloc | apply pw_below_drewN | apply below_drew1 | refine below_set ?_ GE628.out) | exact HB.out)) hb); clear HO632; clear BK628; clear HB; have HO632 := n0_; have HO636 := n1_; have BK628 := n2_; have HB := n3_; clear n0_ n1_ n2_ n3_; (try clear hb); (try clear hb2); (try clear hk); (try clear hi); (try clear ho0)) | ((with_reducible refine gate_dst (N := 5) rfl ?_); refine box_event ?hg (N := 5) ?hd (cs := #[.slice none 0 0]) (t := 64) ?hr ?_; (case hd => rfl); (case hg => rfl); (case hr => first | (go_simp; done) | (go_simp; rfl)); intro gb637 hg w38 hbox hb; have n0_ := Aside0.mk (Kd.R_below (by (with_reducible repeat (first | apply Kd.R_alloc | apply Kd.R_drewN | apply Kd.R_drew)); exact HO632.out) hb); have n1_ := Aside0.mk (Kd.R_below (by (with_reducible repeat (first | apply Kd.R_alloc | apply Kd.R_drewN | apply Kd.R_drew)); exact HO636.out) hb); have n2_ := Aside0.mk (blk_below (g := gb628) (o := .cells #[.slice A0_0 l0_0.length c0_0] 59 (0, 0)) (by (with_reducible repeat (first | refine blk_drewN ?_ _ | refine blk_drew ?_ | refine blk_alloc ?_ _)); exact BK628.out) hb); have n3_ := Aside0.mk (below_step (by repeat (first | (with_reducible first | exact HB.out | apply below_alloc | apply pw_below_drewN | apply below_drew1 | refine below_set ?_ GE628.out) | exact HB.out)) hb); have n4_ := Aside0.mk (hbox); have n5_ := Aside0.mk ((by rw [hg]; exact (below_size (by repeat (first | (with_reducible first | exact HB.out | apply below_alloc | apply pw_below_drewN | apply below_drew1 | refine below_set ?_ GE628.out) | exact HB.out))) : w.heap.size ≤ gb637)); have n6_ := Aside0.mk ((by rw [hg]; exact (below_size (by repeat (first | (with_reducible first | exact HB.out | apply below_alloc | apply pw_below_drewN | apply below_drew1 | refine below_set ?_ GE628.out) | exact HB.out))) : w.heap.size ≤ gb637)); have n7_ := Aside0.mk ((by rw [hg]; exact Nat.ne_of_lt (blk_lt (g := gb628) (o := .cells #[.slice A0_0 l0_0.length c0_0] 59 (0, 0)) (by (with_reducible repeat (first | refine blk_drewN ?_ _ | refine blk_drew ?_ | refine blk_alloc ?_ _)); exact BK628.out)) : gb628 ≠ gb637)); have n8_ := Aside0.mk ((by rw [hg]; exact Nat.ne_of_gt (blk_lt (g := gb628) (o := .cells #[.slice A0_0 l0_0.length c0_0] 59 (0, 0)) (by (with_reducible repeat (first | refine blk_drewN ?_ _ | refine blk_drew ?_ | refine blk_alloc ?_ _)); exact BK628.out)) : gb637 ≠ gb628)); clear HO632; clear HO636; clear BK628; clear HB; have HO632 := n0_; have HO636 := n1_; have BK628 := n2_; have HB := n3_; have BK637 := n4_; have GW637 := n5_; have GE637 := n6_; have NB628_637 := n7_; have NB637_628 := n8_; clear n0_ n1_ n2_ n3_ n4_ n5_ n6_ n7_ n8_; clear hb hbox hg; obtain ⟨Ao39, co39, eo39⟩ := Kd.R_slice HO636.out; subst eo39; have hnb40 := NB637_628.out; have hnc40 := NB628_637.out; have hcz41_0 : w38.cell? ⟨gb637, 0, none⟩ = some (.slice none 0 0) := (blk_cell BK637.out 0).trans rfl; have hfz41_0 := blk_frozen BK637.out 0) | ((with_reducible refine gate_callee (f := 41) rfl ?_); refine goesL_ (some 18) rfl rfl Try.func41 (by kernel_rfl) rfl #[.agg #[.slice Ao39 t634.length co39]] rfl (by (try simp only [List.map_toArray, List.map_cons, List.map_nil]); first | done | rfl | (simp only [List.length_drop, List.length_take]; rfl)) ?_; (with_reducible refine (impl_ValidPolicy.calls k _ _ t634 t638 _ ?side1 ?side2 A10.out).mono ?_); (case side1 => refine (Kd.R_reads' (e := 127) (base := w.heap.size) (ok := fun k_ => (True ∧ some k_ ≠ (.slice Ao34 t630.length co34 : Value).ownBlock)) (n := t634.length) (c := co39) ?_).2.2; exact (by (with_reducible repeat (first | apply Kd.R_alloc | apply Kd.R_drewN | apply Kd.R_drew)); exact (Kd.R_mono (Kd.R_far (p := ⟨gb637, 0, none⟩) (Kd.R_types HO636.out BK637.out (by decide)) (fun _ hk => hk.2) (.slice Ao39 t634.length co39)) (fun _ h_ => h_.1)))); (case side2 => exact (Kd.R_reads' HO636.out).2.1); rintro e w42 ⟨rfl, hb⟩; refine ⟨_, rfl, ?_⟩; have n0_ := Aside0.mk (Kd.R_below (by (with_reducible repeat (first | apply Kd.R_alloc | apply Kd.R_drewN | apply Kd.R_drew)); exact (Kd.R_mono (Kd.R_far (p := ⟨gb637, 0, none⟩) (Kd.R_types HO632.out BK637.out (by decide)) (fun _ hk => hk.2) (.slice Ao39 t634.length co39)) (fun _ h_ => h_.1))) hb); have n1_ := Aside0.mk (Kd.R_below (by (with_reducible repeat (first | apply Kd.R_alloc | apply Kd.R_drewN | apply Kd.R_drew)); exact (Kd.R_mono (Kd.R_far (p := ⟨gb637, 0, none⟩) (Kd.R_types HO636.out BK637.out (by decide)) (fun _ hk => hk.2) (.slice Ao39 t634.length co39)) (fun _ h_ => h_.1))) hb); have n2_ := Aside0.mk (blk_below (g := gb628) (o := .cells #[.slice A0_0 l0_0.length c0_0] 59 (0, 0)) (by (with_reducible repeat (first | refine blk_drewN ?_ _ | refine blk_drew ?_ | refine blk_alloc ?_ _)); refine blk_far ?_ NB628_637.out _; (with_reducible repeat (first | refine blk_drewN ?_ _ | refine blk_drew ?_ | refine blk_alloc ?_ _)); exact BK628.out) hb); have n3_ := Aside0.mk (blk_below (g := gb637) (o := .cells #[.slice Ao39 t634.length co39] 64 (0, 0)) (by (with_reducible repeat (first | refine blk_drewN ?_ _ | refine blk_drew ?_ | refine blk_alloc ?_ _)); refine blk_put (cs := #[.slice none 0 0]) ?_ 0 _ rfl; (with_reducible repeat (first | refine blk_drewN ?_ _ | refine blk_drew ?_ | refine blk_alloc ?_ _)); exact BK637.out) hb); have n4_ := Aside0.mk (below_step (by repeat (first | (with_reducible first | exact HB.out | apply below_alloc | apply pw_below_drewN | apply below_drew1 | refine below_set ?_ GE628.out | refine below_set ?_ GE637.out) | exact HB.out)) hb); clear HO632; clear HO636; clear BK628; clear BK637; clear HB; have HO632 := n0_; have HO636 := n1_; have BK628 := n2_; have BK637 := n3_; have HB := n4_; clear n0_ n1_ n2_ n3_ n4_; (try clear hb); (try clear hb2); (try clear hk); (try clear hi)))
        have n0_ := Aside0.mk (Kd.R_drew HO632.out)
        have n1_ := Aside0.mk (Kd.R_drew HO636.out)
        have n2_ := Aside0.mk (blk_drew BK628.out)
        have n3_ := Aside0.mk (blk_drew BK637.out)
        have n4_ := Aside0.mk (below_drew1 HB.out)
        clear HO632
        clear HO636
        clear BK628
        clear BK637
        clear HB
        have HO632 := n0_
        have HO636 := n1_
        have BK628 := n2_
        have BK637 := n3_
        have HB := n4_
        clear n0_ n1_ n2_ n3_ n4_
        refine start_ (n := 5) (S := fun w' => w'.cell? ⟨gb637, 0, none⟩ = some (.slice Ao39 t634.length co39) ∧ w'.cell? ⟨gb628, 0, none⟩ = some (.slice A0_0 l0_0.length c0_0)) (ds := []) #[false, false, false, false, false] (by kernel_rfl) rfl rfl ⟨(blk_cell BK637.out 0).trans rfl, (blk_cell BK628.out 0).trans rfl⟩ (fun hHeld => ?_)
        generalize w42.drew = w43 at HO632 HO636 BK628 BK637 HB hHeld ⊢
        refine take_ (i := 0) (N := some 22) (v := ?_) (a' := ?_) #[true, false, false, false, false] rfl rfl (by kernel_rfl) (fun _ _ _ h => h) (Or.inl ⟨by rfl, ?_⟩) hHeld ?_ ?_
        rotate_left
        · rintro w' ⟨s0, s1⟩
          go_simp
          with_reducible rfl
        rotate_left
        · simp only [Act.put, List.setIfInBounds_toArray, List.set_cons_zero, List.set_cons_succ, i64_w, i32_w]
          rfl
        refine take_ (i := 1) (N := some 23) (v := ?_) (a' := ?_) #[true, true, false, false, false] rfl rfl (by kernel_rfl) (fun _ _ _ h => h) (Or.inl ⟨by rfl, ?_⟩) hHeld ?_ ?_
        rotate_left
        · rintro w' ⟨s0, s1⟩
          go_simp
          with_reducible rfl
        rotate_left
        · simp only [Act.put, List.setIfInBounds_toArray, List.set_cons_zero, List.set_cons_succ, i64_w, i32_w]
          rfl
        refine one_ (i := 2) (N := some 24) #[true, true, true, false, false] rfl rfl (by kernel_rfl) (by decide) (fun K hK => ?_)
        refine goes_ Try.func40 (by kernel_rfl) rfl #[.agg #[.slice A0_0 l0_0.length c0_0]] (by rfl) rfl rfl (by (try simp only [List.map_toArray, List.map_cons, List.map_nil]); first | done | rfl | (simp only [List.length_drop, List.length_take]; rfl)) ?_
        with_reducible refine (laws_toPolicy.calls k _ _ l0_0 t639 _ ?side1 ?side2 A26.out).mono ?_
        (case side1 => repeat (first | exact (Kd.C_below HR0_0.out HB.out) | (with_reducible refine Kd.C_alloc ?_ _) | (with_reducible refine Kd.C_drewN ?_ _) | (with_reducible refine Kd.C_drew ?_)))
        (case side2 => exact HC0_0.out)
        rintro e w44 ⟨v640, rfl, ho0, hb⟩
        refine ⟨_, rfl, ?_⟩
        have n0_ := Aside0.mk (Kd.R_elder' (by (with_reducible repeat (first | apply Kd.R_alloc | apply Kd.R_drewN | apply Kd.R_drew)); exact HO632.out) (Kd.R_base ho0) hb)
        have n1_ := Aside0.mk (Kd.R_elder' (by (with_reducible repeat (first | apply Kd.R_alloc | apply Kd.R_drewN | apply Kd.R_drew)); exact HO636.out) (Kd.R_base ho0) hb)
        have n2_ := Aside0.mk (Kd.R_lower (Kd.R_new' (Kd.R_new' ho0 (Kd.R_lt (by (with_reducible repeat (first | apply Kd.R_alloc | apply Kd.R_drewN | apply Kd.R_drew)); exact HO632.out))) (Kd.R_lt (by (with_reducible repeat (first | apply Kd.R_alloc | apply Kd.R_drewN | apply Kd.R_drew)); exact HO636.out))) (below_size (by repeat (first | (with_reducible first | exact HB.out | apply below_alloc | apply pw_below_drewN | apply below_drew1 | refine below_set ?_ GE628.out | refine below_set ?_ GE637.out) | exact HB.out))))
        have n3_ := Aside0.mk (blk_below (g := gb628) (o := .cells #[.slice A0_0 l0_0.length c0_0] 59 (0, 0)) (by (with_reducible repeat (first | refine blk_drewN ?_ _ | refine blk_drew ?_ | refine blk_alloc ?_ _)); exact BK628.out) hb)
        have n4_ := Aside0.mk (blk_below (g := gb637) (o := .cells #[.slice Ao39 t634.length co39] 64 (0, 0)) (by (with_reducible repeat (first | refine blk_drewN ?_ _ | refine blk_drew ?_ | refine blk_alloc ?_ _)); exact BK637.out) hb)
        have n5_ := Aside0.mk (below_step (by repeat (first | (with_reducible first | exact HB.out | apply below_alloc | apply pw_below_drewN | apply below_drew1 | refine below_set ?_ GE628.out | refine below_set ?_ GE637.out) | exact HB.out)) hb)
        clear HO632
        clear HO636
        clear BK628
        clear BK637
        clear HB
        have HO632 := n0_
        have HO636 := n1_
        have HO641 := n2_
        have BK628 := n3_
        have BK637 := n4_
        have HB := n5_
        clear n0_ n1_ n2_ n3_ n4_ n5_
        (try clear hb)
        (try clear hb2)
        (try clear hk)
        (try clear hi)
        (try clear ho0)
        obtain ⟨Ao45, co45, eo45⟩ := Kd.R_slice HO641.out
        (first | subst eo45 | (injection eo45 with f1_ f2_ f3_; have f4_ := f1_.symm; have f5_ := f3_.symm; clear f1_ f2_ f3_; subst f4_; subst f5_))
        refine hK.out _ _ ⟨(blk_cell BK637.out 0).trans rfl, (blk_cell BK628.out 0).trans rfl⟩ (fun hHeld => ?_)
        clear hK K
        refine norm_ (a' := ?_) ?_ ?_
        rotate_left
        · show Act.put _ (some 24) _ = _
          simp only [Act.put, List.setIfInBounds_toArray, List.set_cons_zero, List.set_cons_succ, i64_w, i32_w]
          rfl
        refine one_ (i := 3) (N := some 25) #[true, true, true, true, false] rfl rfl (by kernel_rfl) (by decide) (fun K hK => ?_)
        refine goes_ Try.func42 (by kernel_rfl) rfl #[.agg #[.slice Ao39 t634.length co39], .agg #[.slice Ao45 t639.length co45]] (by rfl) rfl rfl (by (try simp only [List.map_toArray, List.map_cons, List.map_nil]); first | done | rfl | (simp only [List.length_drop, List.length_take]; rfl)) ?_
        with_reducible refine (laws_eqPolicy.calls k _ _ t634 _ _ t639 true _ ?side1 ?side2 ?side3 ?side4 A27.out).mono ?_
        (case side1 => repeat (first | exact (Kd.R_reads' HO636.out).2.2 | (with_reducible refine Kd.C_alloc ?_ _) | (with_reducible refine Kd.C_drewN ?_ _) | (with_reducible refine Kd.C_drew ?_)))
        (case side2 => exact (Kd.R_reads' HO636.out).2.1)
        (case side3 => repeat (first | exact (Kd.R_reads' HO641.out).2.2 | (with_reducible refine Kd.C_alloc ?_ _) | (with_reducible refine Kd.C_drewN ?_ _) | (with_reducible refine Kd.C_drew ?_)))
        (case side4 => exact (Kd.R_reads' HO641.out).2.1)
        rintro e w46 ⟨rfl, hb⟩
        refine ⟨_, rfl, ?_⟩
        have n0_ := Aside0.mk (Kd.R_below (by (with_reducible repeat (first | apply Kd.R_alloc | apply Kd.R_drewN | apply Kd.R_drew)); exact HO632.out) hb)
        have n1_ := Aside0.mk (Kd.R_below (by (with_reducible repeat (first | apply Kd.R_alloc | apply Kd.R_drewN | apply Kd.R_drew)); exact HO636.out) hb)
        have n2_ := Aside0.mk (Kd.R_below (by (with_reducible repeat (first | apply Kd.R_alloc | apply Kd.R_drewN | apply Kd.R_drew)); exact HO641.out) hb)
        have n3_ := Aside0.mk (blk_below (g := gb628) (o := .cells #[.slice A0_0 l0_0.length c0_0] 59 (0, 0)) (by (with_reducible repeat (first | refine blk_drewN ?_ _ | refine blk_drew ?_ | refine blk_alloc ?_ _)); exact BK628.out) hb)
        have n4_ := Aside0.mk (blk_below (g := gb637) (o := .cells #[.slice Ao39 t634.length co39] 64 (0, 0)) (by (with_reducible repeat (first | refine blk_drewN ?_ _ | refine blk_drew ?_ | refine blk_alloc ?_ _)); exact BK637.out) hb)
        have n5_ := Aside0.mk (below_step (by repeat (first | (with_reducible first | exact HB.out | apply below_alloc | apply pw_below_drewN | apply below_drew1 | refine below_set ?_ GE628.out | refine below_set ?_ GE637.out) | exact HB.out)) hb)
        clear HO632
        clear HO636
        clear HO641
        clear BK628
        clear BK637
        clear HB
        have HO632 := n0_
        have HO636 := n1_
        have HO641 := n2_
        have BK628 := n3_
        have BK637 := n4_
        have HB := n5_
        clear n0_ n1_ n2_ n3_ n4_ n5_
        (try clear hb)
        (try clear hb2)
        (try clear hk)
        (try clear hi)
        refine hK.out _ _ ⟨(blk_cell BK637.out 0).trans rfl, (blk_cell BK628.out 0).trans rfl⟩ (fun hHeld => ?_)
        clear hK K
        refine norm_ (a' := ?_) ?_ ?_
        rotate_left
        · show Act.put _ (some 25) _ = _
          simp only [Act.put, List.setIfInBounds_toArray, List.set_cons_zero, List.set_cons_succ, i64_w, i32_w]
          rfl
        refine pure_ (i := 4) (N := some 26) (v := ?_) (a' := ?_) #[true, true, true, true, true] rfl rfl (by kernel_rfl) (fun _ _ _ h => h) (Or.inl ⟨by rfl, ?_⟩) ?_ ?_
        rotate_left
        · intro w'
          go_simp
          with_reducible rfl
        rotate_left
        · simp only [Act.put, List.setIfInBounds_toArray, List.set_cons_zero, List.set_cons_succ, i64_w, i32_w]
          rfl
        refine done_ (by kernel_rfl) ?_
        try go_wp2
        go_ret
        exact ⟨by first | rfl | (simp [errW_none, errW_some] <;> rfl) | (simp [*, errW_none, errW_some] <;> rfl), by repeat (first | (with_reducible first | exact HB.out | apply below_alloc | apply pw_below_drewN | apply below_drew1 | refine below_set ?_ GE628.out | refine below_set ?_ GE637.out) | exact HB.out)⟩
      · replace c28 := Bool.eq_false_iff.mpr c28
        subst c28
        have H1 : (some false) = some r := by rw [if_neg (show ¬ (false = true) by decide)] at H; exact H
        clear H
        have H := H1
        clear H1
        obtain rfl := Option.some.inj H
        go_enter Try.func8, Try.ntmps8
        try go_wp2_with (first | ((with_reducible refine gate_dst (N := 1) rfl ?_); refine box_event ?hg (N := 1) ?hd (cs := #[.slice A0_0 l0_0.length c0_0]) (t := 59) ?hr ?_; (case hd => rfl); (case hg => rfl); (case hr => first | (go_simp; done) | (go_simp; rfl)); intro gb628 hg w47 hbox hb; have n0_ := Aside0.mk (below_step (by repeat (first | (with_reducible first | exact HB.out | apply below_alloc | apply pw_below_drewN | apply below_drew1) | exact HB.out)) hb); have n1_ := Aside0.mk (hbox); have n2_ := Aside0.mk ((by rw [hg]; exact (below_size (by repeat (first | (with_reducible first | exact HB.out | apply below_alloc | apply pw_below_drewN | apply below_drew1) | exact HB.out))) : w.heap.size ≤ gb628)); have n3_ := Aside0.mk ((by rw [hg]; exact (below_size (by repeat (first | (with_reducible first | exact HB.out | apply below_alloc | apply pw_below_drewN | apply below_drew1) | exact HB.out))) : w.heap.size ≤ gb628)); clear HB; have HB := n0_; have BK628 := n1_; have GW628 := n2_; have GE628 := n3_; clear n0_ n1_ n2_ n3_; clear hb hbox hg; have hcz48_0 : w47.cell? ⟨gb628, 0, none⟩ = some (.slice A0_0 l0_0.length c0_0) := (blk_cell BK628.out 0).trans rfl; have hfz48_0 := blk_frozen BK628.out 0) | ((with_reducible refine gate_callee (f := 38) rfl ?_); refine goesL_ (some 9) rfl rfl Try.func38 (by kernel_rfl) rfl #[.agg #[.slice A0_0 l0_0.length c0_0], .int .i64 1048576] rfl (by (try simp only [List.map_toArray, List.map_cons, List.map_nil]); first | done | rfl | (simp only [List.length_drop, List.length_take]; rfl)) ?_; (with_reducible refine (laws_szPolicy.calls k _ _ l0_0 1048576 t629 _ ?side1 ?side2 A2.out).mono ?_); (case side1 => repeat (first | exact (Kd.C_below HR0_0.out HB.out) | (with_reducible refine Kd.C_alloc ?_ _) | (with_reducible refine Kd.C_drewN ?_ _) | (with_reducible refine Kd.C_drew ?_))); (case side2 => exact HC0_0.out); rintro e w49 ⟨rfl, hb⟩; refine ⟨_, rfl, ?_⟩; have n0_ := Aside0.mk (blk_below (g := gb628) (o := .cells #[.slice A0_0 l0_0.length c0_0] 59 (0, 0)) (by (with_reducible repeat (first | refine blk_drewN ?_ _ | refine blk_drew ?_ | refine blk_alloc ?_ _)); exact BK628.out) hb); have n1_ := Aside0.mk (below_step (by repeat (first | (with_reducible first | exact HB.out | apply below_alloc | apply pw_below_drewN | apply below_drew1 | refine below_set ?_ GE628.out) | exact HB.out)) hb); clear BK628; clear HB; have BK628 := n0_; have HB := n1_; clear n0_ n1_; (try clear hb); (try clear hb2); (try clear hk); (try clear hi); have hcz50_0 : w49.cell? ⟨gb628, 0, none⟩ = some (.slice A0_0 l0_0.length c0_0) := (blk_cell BK628.out 0).trans rfl; have hfz50_0 := blk_frozen BK628.out 0) | ((with_reducible refine gate_callee (f := 40) rfl ?_); refine goesL_ (some 13) rfl rfl Try.func40 (by kernel_rfl) rfl #[.agg #[.slice A0_0 l0_0.length c0_0]] rfl (by (try simp only [List.map_toArray, List.map_cons, List.map_nil]); first | done | rfl | (simp only [List.length_drop, List.length_take]; rfl)) ?_; (with_reducible refine (laws_toPolicy.calls k _ _ l0_0 t630 _ ?side1 ?side2 A7.out).mono ?_); (case side1 => repeat (first | exact (Kd.C_below HR0_0.out HB.out) | (with_reducible refine Kd.C_alloc ?_ _) | (with_reducible refine Kd.C_drewN ?_ _) | (with_reducible refine Kd.C_drew ?_))); (case side2 => exact HC0_0.out); rintro e w51 ⟨v631, rfl, ho0, hb⟩; refine ⟨_, rfl, ?_⟩; have n0_ := Aside0.mk (Kd.R_lower ho0 (below_size (by repeat (first | (with_reducible first | exact HB.out | apply below_alloc | apply pw_below_drewN | apply below_drew1 | refine below_set ?_ GE628.out) | exact HB.out)))); have n1_ := Aside0.mk (blk_below (g := gb628) (o := .cells #[.slice A0_0 l0_0.length c0_0] 59 (0, 0)) (by (with_reducible repeat (first | refine blk_drewN ?_ _ | refine blk_drew ?_ | refine blk_alloc ?_ _)); exact BK628.out) hb); have n2_ := Aside0.mk (below_step (by repeat (first | (with_reducible first | exact HB.out | apply below_alloc | apply pw_below_drewN | apply below_drew1 | refine below_set ?_ GE628.out) | exact HB.out)) hb); clear BK628; clear HB; have HO632 := n0_; have BK628 := n1_; have HB := n2_; clear n0_ n1_ n2_; (try clear hb); (try clear hb2); (try clear hk); (try clear hi); (try clear ho0); obtain ⟨Ao52, co52, eo52⟩ := Kd.R_slice HO632.out; subst eo52) | ((with_reducible refine gate_callee (f := 39) rfl ?_); refine goesL_ (some 14) rfl rfl Try.func39 (by kernel_rfl) rfl #[.agg #[.slice Ao52 t630.length co52]] rfl (by (try simp only [List.map_toArray, List.map_cons, List.map_nil]); first | done | rfl | (simp only [List.length_drop, List.length_take]; rfl)) ?_; (with_reducible refine (spec_ValidPolicy.calls k _ _ t630 t633 _ ?side1 ?side2 A8.out).mono ?_); (case side1 => repeat (first | exact (Kd.R_reads' HO632.out).2.2 | (with_reducible refine Kd.C_alloc ?_ _) | (with_reducible refine Kd.C_drewN ?_ _) | (with_reducible refine Kd.C_drew ?_))); (case side2 => exact (Kd.R_reads' HO632.out).2.1); rintro e w53 ⟨rfl, hb⟩; refine ⟨_, rfl, ?_⟩; have n0_ := Aside0.mk (Kd.R_below (by (with_reducible repeat (first | apply Kd.R_alloc | apply Kd.R_drewN | apply Kd.R_drew)); exact HO632.out) hb); have n1_ := Aside0.mk (blk_below (g := gb628) (o := .cells #[.slice A0_0 l0_0.length c0_0] 59 (0, 0)) (by (with_reducible repeat (first | refine blk_drewN ?_ _ | refine blk_drew ?_ | refine blk_alloc ?_ _)); exact BK628.out) hb); have n2_ := Aside0.mk (below_step (by repeat (first | (with_reducible first | exact HB.out | apply below_alloc | apply pw_below_drewN | apply below_drew1 | refine below_set ?_ GE628.out) | exact HB.out)) hb); clear HO632; clear BK628; clear HB; have HO632 := n0_; have BK628 := n1_; have HB := n2_; clear n0_ n1_ n2_; (try clear hb); (try clear hb2); (try clear hk); (try clear hi); have hcz54_0 : w53.cell? ⟨gb628, 0, none⟩ = some (.slice A0_0 l0_0.length c0_0) := (blk_cell BK628.out 0).trans rfl; have hfz54_0 := blk_frozen BK628.out 0) | ((with_reducible refine gate_callee (f := 40) rfl ?_); refine goesL_ (some 16) rfl rfl Try.func40 (by kernel_rfl) rfl #[.agg #[.slice A0_0 l0_0.length c0_0]] rfl (by (try simp only [List.map_toArray, List.map_cons, List.map_nil]); first | done | rfl | (simp only [List.length_drop, List.length_take]; rfl)) ?_; (with_reducible refine (laws_toPolicy.calls k _ _ l0_0 t634 _ ?side1 ?side2 A9.out).mono ?_); (case side1 => repeat (first | exact (Kd.C_below HR0_0.out HB.out) | (with_reducible refine Kd.C_alloc ?_ _) | (with_reducible refine Kd.C_drewN ?_ _) | (with_reducible refine Kd.C_drew ?_))); (case side2 => exact HC0_0.out); rintro e w55 ⟨v635, rfl, ho0, hb⟩; refine ⟨_, rfl, ?_⟩; have n0_ := Aside0.mk (Kd.R_elder' (by (with_reducible repeat (first | apply Kd.R_alloc | apply Kd.R_drewN | apply Kd.R_drew)); exact HO632.out) (Kd.R_base ho0) hb); have n1_ := Aside0.mk (Kd.R_lower (Kd.R_new' ho0 (Kd.R_lt (by (with_reducible repeat (first | apply Kd.R_alloc | apply Kd.R_drewN | apply Kd.R_drew)); exact HO632.out))) (below_size (by repeat (first | (with_reducible first | exact HB.out | apply below_alloc | apply pw_below_drewN | apply below_drew1 | refine below_set ?_ GE628.out) | exact HB.out)))); have n2_ := Aside0.mk (blk_below (g := gb628) (o := .cells #[.slice A0_0 l0_0.length c0_0] 59 (0, 0)) (by (with_reducible repeat (first | refine blk_drewN ?_ _ | refine blk_drew ?_ | refine blk_alloc ?_ _)); exact BK628.out) hb); have n3_ := Aside0.mk (below_step (by repeat (first | (with_reducible first | exact HB.out | apply below_alloc | apply pw_below_drewN | apply below_drew1 | refine below_set ?_ GE628.out) | exact HB.out)) hb); clear HO632; clear BK628; clear HB; have HO632 := n0_; have HO636 := n1_; have BK628 := n2_; have HB := n3_; clear n0_ n1_ n2_ n3_; (try clear hb); (try clear hb2); (try clear hk); (try clear hi); (try clear ho0)) | ((with_reducible refine gate_dst (N := 5) rfl ?_); refine box_event ?hg (N := 5) ?hd (cs := #[.slice none 0 0]) (t := 64) ?hr ?_; (case hd => rfl); (case hg => rfl); (case hr => first | (go_simp; done) | (go_simp; rfl)); intro gb637 hg w56 hbox hb; have n0_ := Aside0.mk (Kd.R_below (by (with_reducible repeat (first | apply Kd.R_alloc | apply Kd.R_drewN | apply Kd.R_drew)); exact HO632.out) hb); have n1_ := Aside0.mk (Kd.R_below (by (with_reducible repeat (first | apply Kd.R_alloc | apply Kd.R_drewN | apply Kd.R_drew)); exact HO636.out) hb); have n2_ := Aside0.mk (blk_below (g := gb628) (o := .cells #[.slice A0_0 l0_0.length c0_0] 59 (0, 0)) (by (with_reducible repeat (first | refine blk_drewN ?_ _ | refine blk_drew ?_ | refine blk_alloc ?_ _)); exact BK628.out) hb); have n3_ := Aside0.mk (below_step (by repeat (first | (with_reducible first | exact HB.out | apply below_alloc | apply pw_below_drewN | apply below_drew1 | refine below_set ?_ GE628.out) | exact HB.out)) hb); have n4_ := Aside0.mk (hbox); have n5_ := Aside0.mk ((by rw [hg]; exact (below_size (by repeat (first | (with_reducible first | exact HB.out | apply below_alloc | apply pw_below_drewN | apply below_drew1 | refine below_set ?_ GE628.out) | exact HB.out))) : w.heap.size ≤ gb637)); have n6_ := Aside0.mk ((by rw [hg]; exact (below_size (by repeat (first | (with_reducible first | exact HB.out | apply below_alloc | apply pw_below_drewN | apply below_drew1 | refine below_set ?_ GE628.out) | exact HB.out))) : w.heap.size ≤ gb637)); have n7_ := Aside0.mk ((by rw [hg]; exact Nat.ne_of_lt (blk_lt (g := gb628) (o := .cells #[.slice A0_0 l0_0.length c0_0] 59 (0, 0)) (by (with_reducible repeat (first | refine blk_drewN ?_ _ | refine blk_drew ?_ | refine blk_alloc ?_ _)); exact BK628.out)) : gb628 ≠ gb637)); have n8_ := Aside0.mk ((by rw [hg]; exact Nat.ne_of_gt (blk_lt (g := gb628) (o := .cells #[.slice A0_0 l0_0.length c0_0] 59 (0, 0)) (by (with_reducible repeat (first | refine blk_drewN ?_ _ | refine blk_drew ?_ | refine blk_alloc ?_ _)); exact BK628.out)) : gb637 ≠ gb628)); clear HO632; clear HO636; clear BK628; clear HB; have HO632 := n0_; have HO636 := n1_; have BK628 := n2_; have HB := n3_; have BK637 := n4_; have GW637 := n5_; have GE637 := n6_; have NB628_637 := n7_; have NB637_628 := n8_; clear n0_ n1_ n2_ n3_ n4_ n5_ n6_ n7_ n8_; clear hb hbox hg; obtain ⟨Ao57, co57, eo57⟩ := Kd.R_slice HO636.out; subst eo57; have hnb58 := NB637_628.out; have hnc58 := NB628_637.out; have hcz59_0 : w56.cell? ⟨gb637, 0, none⟩ = some (.slice none 0 0) := (blk_cell BK637.out 0).trans rfl; have hfz59_0 := blk_frozen BK637.out 0) | ((with_reducible refine gate_callee (f := 41) rfl ?_); refine goesL_ (some 18) rfl rfl Try.func41 (by kernel_rfl) rfl #[.agg #[.slice Ao57 t634.length co57]] rfl (by (try simp only [List.map_toArray, List.map_cons, List.map_nil]); first | done | rfl | (simp only [List.length_drop, List.length_take]; rfl)) ?_; (with_reducible refine (impl_ValidPolicy.calls k _ _ t634 t638 _ ?side1 ?side2 A10.out).mono ?_); (case side1 => refine (Kd.R_reads' (e := 127) (base := w.heap.size) (ok := fun k_ => (True ∧ some k_ ≠ (.slice Ao52 t630.length co52 : Value).ownBlock)) (n := t634.length) (c := co57) ?_).2.2; exact (by (with_reducible repeat (first | apply Kd.R_alloc | apply Kd.R_drewN | apply Kd.R_drew)); exact (Kd.R_mono (Kd.R_far (p := ⟨gb637, 0, none⟩) (Kd.R_types HO636.out BK637.out (by decide)) (fun _ hk => hk.2) (.slice Ao57 t634.length co57)) (fun _ h_ => h_.1)))); (case side2 => exact (Kd.R_reads' HO636.out).2.1); rintro e w60 ⟨rfl, hb⟩; refine ⟨_, rfl, ?_⟩; have n0_ := Aside0.mk (Kd.R_below (by (with_reducible repeat (first | apply Kd.R_alloc | apply Kd.R_drewN | apply Kd.R_drew)); exact (Kd.R_mono (Kd.R_far (p := ⟨gb637, 0, none⟩) (Kd.R_types HO632.out BK637.out (by decide)) (fun _ hk => hk.2) (.slice Ao57 t634.length co57)) (fun _ h_ => h_.1))) hb); have n1_ := Aside0.mk (Kd.R_below (by (with_reducible repeat (first | apply Kd.R_alloc | apply Kd.R_drewN | apply Kd.R_drew)); exact (Kd.R_mono (Kd.R_far (p := ⟨gb637, 0, none⟩) (Kd.R_types HO636.out BK637.out (by decide)) (fun _ hk => hk.2) (.slice Ao57 t634.length co57)) (fun _ h_ => h_.1))) hb); have n2_ := Aside0.mk (blk_below (g := gb628) (o := .cells #[.slice A0_0 l0_0.length c0_0] 59 (0, 0)) (by (with_reducible repeat (first | refine blk_drewN ?_ _ | refine blk_drew ?_ | refine blk_alloc ?_ _)); refine blk_far ?_ NB628_637.out _; (with_reducible repeat (first | refine blk_drewN ?_ _ | refine blk_drew ?_ | refine blk_alloc ?_ _)); exact BK628.out) hb); have n3_ := Aside0.mk (blk_below (g := gb637) (o := .cells #[.slice Ao57 t634.length co57] 64 (0, 0)) (by (with_reducible repeat (first | refine blk_drewN ?_ _ | refine blk_drew ?_ | refine blk_alloc ?_ _)); refine blk_put (cs := #[.slice none 0 0]) ?_ 0 _ rfl; (with_reducible repeat (first | refine blk_drewN ?_ _ | refine blk_drew ?_ | refine blk_alloc ?_ _)); exact BK637.out) hb); have n4_ := Aside0.mk (below_step (by repeat (first | (with_reducible first | exact HB.out | apply below_alloc | apply pw_below_drewN | apply below_drew1 | refine below_set ?_ GE628.out | refine below_set ?_ GE637.out) | exact HB.out)) hb); clear HO632; clear HO636; clear BK628; clear BK637; clear HB; have HO632 := n0_; have HO636 := n1_; have BK628 := n2_; have BK637 := n3_; have HB := n4_; clear n0_ n1_ n2_ n3_ n4_; (try clear hb); (try clear hb2); (try clear hk); (try clear hi)))
        have n0_ := Aside0.mk (Kd.R_drew HO632.out)
        have n1_ := Aside0.mk (Kd.R_drew HO636.out)
        have n2_ := Aside0.mk (blk_drew BK628.out)
        have n3_ := Aside0.mk (blk_drew BK637.out)
        have n4_ := Aside0.mk (below_drew1 HB.out)
        clear HO632
        clear HO636
        clear BK628
        clear BK637
        clear HB
        have HO632 := n0_
        have HO636 := n1_
        have BK628 := n2_
        have BK637 := n3_
        have HB := n4_
        clear n0_ n1_ n2_ n3_ n4_
        refine start_ (n := 5) (S := fun w' => w'.cell? ⟨gb637, 0, none⟩ = some (.slice Ao57 t634.length co57) ∧ w'.cell? ⟨gb628, 0, none⟩ = some (.slice A0_0 l0_0.length c0_0)) (ds := []) #[false, false, false, false, false] (by kernel_rfl) rfl rfl ⟨(blk_cell BK637.out 0).trans rfl, (blk_cell BK628.out 0).trans rfl⟩ (fun hHeld => ?_)
        generalize w60.drew = w61 at HO632 HO636 BK628 BK637 HB hHeld ⊢
        refine take_ (i := 0) (N := some 22) (v := ?_) (a' := ?_) #[true, false, false, false, false] rfl rfl (by kernel_rfl) (fun _ _ _ h => h) (Or.inl ⟨by rfl, ?_⟩) hHeld ?_ ?_
        rotate_left
        · rintro w' ⟨s0, s1⟩
          go_simp
          with_reducible rfl
        rotate_left
        · simp only [Act.put, List.setIfInBounds_toArray, List.set_cons_zero, List.set_cons_succ, i64_w, i32_w]
          rfl
        refine take_ (i := 1) (N := some 23) (v := ?_) (a' := ?_) #[true, true, false, false, false] rfl rfl (by kernel_rfl) (fun _ _ _ h => h) (Or.inl ⟨by rfl, ?_⟩) hHeld ?_ ?_
        rotate_left
        · rintro w' ⟨s0, s1⟩
          go_simp
          with_reducible rfl
        rotate_left
        · simp only [Act.put, List.setIfInBounds_toArray, List.set_cons_zero, List.set_cons_succ, i64_w, i32_w]
          rfl
        refine one_ (i := 2) (N := some 24) #[true, true, true, false, false] rfl rfl (by kernel_rfl) (by decide) (fun K hK => ?_)
        refine goes_ Try.func40 (by kernel_rfl) rfl #[.agg #[.slice A0_0 l0_0.length c0_0]] (by rfl) rfl rfl (by (try simp only [List.map_toArray, List.map_cons, List.map_nil]); first | done | rfl | (simp only [List.length_drop, List.length_take]; rfl)) ?_
        with_reducible refine (laws_toPolicy.calls k _ _ l0_0 t639 _ ?side1 ?side2 A26.out).mono ?_
        (case side1 => repeat (first | exact (Kd.C_below HR0_0.out HB.out) | (with_reducible refine Kd.C_alloc ?_ _) | (with_reducible refine Kd.C_drewN ?_ _) | (with_reducible refine Kd.C_drew ?_)))
        (case side2 => exact HC0_0.out)
        rintro e w62 ⟨v640, rfl, ho0, hb⟩
        refine ⟨_, rfl, ?_⟩
        have n0_ := Aside0.mk (Kd.R_elder' (by (with_reducible repeat (first | apply Kd.R_alloc | apply Kd.R_drewN | apply Kd.R_drew)); exact HO632.out) (Kd.R_base ho0) hb)
        have n1_ := Aside0.mk (Kd.R_elder' (by (with_reducible repeat (first | apply Kd.R_alloc | apply Kd.R_drewN | apply Kd.R_drew)); exact HO636.out) (Kd.R_base ho0) hb)
        have n2_ := Aside0.mk (Kd.R_lower (Kd.R_new' (Kd.R_new' ho0 (Kd.R_lt (by (with_reducible repeat (first | apply Kd.R_alloc | apply Kd.R_drewN | apply Kd.R_drew)); exact HO632.out))) (Kd.R_lt (by (with_reducible repeat (first | apply Kd.R_alloc | apply Kd.R_drewN | apply Kd.R_drew)); exact HO636.out))) (below_size (by repeat (first | (with_reducible first | exact HB.out | apply below_alloc | apply pw_below_drewN | apply below_drew1 | refine below_set ?_ GE628.out | refine below_set ?_ GE637.out) | exact HB.out))))
        have n3_ := Aside0.mk (blk_below (g := gb628) (o := .cells #[.slice A0_0 l0_0.length c0_0] 59 (0, 0)) (by (with_reducible repeat (first | refine blk_drewN ?_ _ | refine blk_drew ?_ | refine blk_alloc ?_ _)); exact BK628.out) hb)
        have n4_ := Aside0.mk (blk_below (g := gb637) (o := .cells #[.slice Ao57 t634.length co57] 64 (0, 0)) (by (with_reducible repeat (first | refine blk_drewN ?_ _ | refine blk_drew ?_ | refine blk_alloc ?_ _)); exact BK637.out) hb)
        have n5_ := Aside0.mk (below_step (by repeat (first | (with_reducible first | exact HB.out | apply below_alloc | apply pw_below_drewN | apply below_drew1 | refine below_set ?_ GE628.out | refine below_set ?_ GE637.out) | exact HB.out)) hb)
        clear HO632
        clear HO636
        clear BK628
        clear BK637
        clear HB
        have HO632 := n0_
        have HO636 := n1_
        have HO641 := n2_
        have BK628 := n3_
        have BK637 := n4_
        have HB := n5_
        clear n0_ n1_ n2_ n3_ n4_ n5_
        (try clear hb)
        (try clear hb2)
        (try clear hk)
        (try clear hi)
        (try clear ho0)
        obtain ⟨Ao63, co63, eo63⟩ := Kd.R_slice HO641.out
        (first | subst eo63 | (injection eo63 with f1_ f2_ f3_; have f4_ := f1_.symm; have f5_ := f3_.symm; clear f1_ f2_ f3_; subst f4_; subst f5_))
        refine hK.out _ _ ⟨(blk_cell BK637.out 0).trans rfl, (blk_cell BK628.out 0).trans rfl⟩ (fun hHeld => ?_)
        clear hK K
        refine norm_ (a' := ?_) ?_ ?_
        rotate_left
        · show Act.put _ (some 24) _ = _
          simp only [Act.put, List.setIfInBounds_toArray, List.set_cons_zero, List.set_cons_succ, i64_w, i32_w]
          rfl
        refine one_ (i := 3) (N := some 25) #[true, true, true, true, false] rfl rfl (by kernel_rfl) (by decide) (fun K hK => ?_)
        refine goes_ Try.func42 (by kernel_rfl) rfl #[.agg #[.slice Ao57 t634.length co57], .agg #[.slice Ao63 t639.length co63]] (by rfl) rfl rfl (by (try simp only [List.map_toArray, List.map_cons, List.map_nil]); first | done | rfl | (simp only [List.length_drop, List.length_take]; rfl)) ?_
        with_reducible refine (laws_eqPolicy.calls k _ _ t634 _ _ t639 false _ ?side1 ?side2 ?side3 ?side4 A27.out).mono ?_
        (case side1 => repeat (first | exact (Kd.R_reads' HO636.out).2.2 | (with_reducible refine Kd.C_alloc ?_ _) | (with_reducible refine Kd.C_drewN ?_ _) | (with_reducible refine Kd.C_drew ?_)))
        (case side2 => exact (Kd.R_reads' HO636.out).2.1)
        (case side3 => repeat (first | exact (Kd.R_reads' HO641.out).2.2 | (with_reducible refine Kd.C_alloc ?_ _) | (with_reducible refine Kd.C_drewN ?_ _) | (with_reducible refine Kd.C_drew ?_)))
        (case side4 => exact (Kd.R_reads' HO641.out).2.1)
        rintro e w64 ⟨rfl, hb⟩
        refine ⟨_, rfl, ?_⟩
        have n0_ := Aside0.mk (Kd.R_below (by (with_reducible repeat (first | apply Kd.R_alloc | apply Kd.R_drewN | apply Kd.R_drew)); exact HO632.out) hb)
        have n1_ := Aside0.mk (Kd.R_below (by (with_reducible repeat (first | apply Kd.R_alloc | apply Kd.R_drewN | apply Kd.R_drew)); exact HO636.out) hb)
        have n2_ := Aside0.mk (Kd.R_below (by (with_reducible repeat (first | apply Kd.R_alloc | apply Kd.R_drewN | apply Kd.R_drew)); exact HO641.out) hb)
        have n3_ := Aside0.mk (blk_below (g := gb628) (o := .cells #[.slice A0_0 l0_0.length c0_0] 59 (0, 0)) (by (with_reducible repeat (first | refine blk_drewN ?_ _ | refine blk_drew ?_ | refine blk_alloc ?_ _)); exact BK628.out) hb)
        have n4_ := Aside0.mk (blk_below (g := gb637) (o := .cells #[.slice Ao57 t634.length co57] 64 (0, 0)) (by (with_reducible repeat (first | refine blk_drewN ?_ _ | refine blk_drew ?_ | refine blk_alloc ?_ _)); exact BK637.out) hb)
        have n5_ := Aside0.mk (below_step (by repeat (first | (with_reducible first | exact HB.out | apply below_alloc | apply pw_below_drewN | apply below_drew1 | refine below_set ?_ GE628.out | refine below_set ?_ GE637.out) | exact HB.out)) hb)
        clear HO632
        clear HO636
        clear HO641
        clear BK628
        clear BK637
        clear HB
        have HO632 := n0_
        have HO636 := n1_
        have HO641 := n2_
        have BK628 := n3_
        have BK637 := n4_
        have HB := n5_
        clear n0_ n1_ n2_ n3_ n4_ n5_
        (try clear hb)
        (try clear hb2)
        (try clear hk)
        (try clear hi)
        refine hK.out _ _ ⟨(blk_cell BK637.out 0).trans rfl, (blk_cell BK628.out 0).trans rfl⟩ (fun hHeld => ?_)
        clear hK K
        refine norm_ (a' := ?_) ?_ ?_
        rotate_left
        · show Act.put _ (some 25) _ = _
          simp only [Act.put, List.setIfInBounds_toArray, List.set_cons_zero, List.set_cons_succ, i64_w, i32_w]
          rfl
        refine pure_ (i := 4) (N := some 26) (v := ?_) (a' := ?_) #[true, true, true, true, true] rfl rfl (by kernel_rfl) (fun _ _ _ h => h) (Or.inl ⟨by rfl, ?_⟩) ?_ ?_
        rotate_left
        · intro w'
          go_simp
          with_reducible rfl
        rotate_left
        · simp only [Act.put, List.setIfInBounds_toArray, List.set_cons_zero, List.set_cons_succ, i64_w, i32_w]
          rfl
        refine done_ (by kernel_rfl) ?_
        try go_wp2
        go_ret
        exact ⟨by first | rfl | (simp [errW_none, errW_some] <;> rfl) | (simp [*, errW_none, errW_some] <;> rfl), by repeat (first | (with_reducible first | exact HB.out | apply below_alloc | apply pw_below_drewN | apply below_drew1 | refine below_set ?_ GE628.out | refine below_set ?_ GE637.out) | exact HB.out)⟩

end Go.Proofs.Ytdipinclchkhjaa.P
