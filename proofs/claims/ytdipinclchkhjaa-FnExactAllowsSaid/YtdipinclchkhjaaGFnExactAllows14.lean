import Derived.Test.YtdipinclchkhjaaGFnExactAllows11
import Derived.Test.YtdipinclchkhjaaGFnExactAllows12
import Derived.Test.YtdipinclchkhjaaGFnExactAllows13
import Derived.Test.YtdipinclchkhjaaGFnExactAllows4
import Derived.Lib.ItoaNum
import Derived.Handy
import Derived.Test.YtdipinclchkhjaaWLen64
import Derived.Sort.AtCall
namespace Go.Proofs.Ytdipinclchkhjaa.P
open Go.RowKit Go.Proofs.YtdipinclchkhjaaW.PrintWords Go.Proofs.YtdipinclchkhjaaW.PrintLast Go.Proofs.YtdipinclchkhjaaW.PrintMore
set_option linter.unusedVariables false
set_option linter.unusedSimpArgs false
/-! What a valid policy is. -/
def conU (c : S26) : Prop := (0 ≤ c.f1 ∧ c.f1 < 18446744073709551616) ∧ (0 ≤ c.f2 ∧ c.f2 < 18446744073709551616)
def polU (p : List S127) : Prop := ∀ e ∈ p, ∀ r ∈ e.f2, ∀ c ∈ r.f0, conU c
theorem conOK_is (c : S26) (h : conU c) : spec_l3conOK.f c.f0 c.f1 c.f2 = some (conOKr c) := by
  obtain ⟨⟨a0, a1⟩, b0, b1⟩ := h
  obtain ⟨a, ha⟩ := Int.eq_ofNat_of_zero_le a0
  obtain ⟨b, hb⟩ := Int.eq_ofNat_of_zero_le b0
  unfold conOKr
  rw [ha] at a1 ⊢
  rw [hb] at b1 ⊢
  exact l3conOK_is c.f0 a b (by omega) (by omega)
theorem ruleOK_iff (r : S131) : ruleOKr r = true ↔ r.f0.length = 6 ∧ ∀ c ∈ r.f0, conOKr c = true := by
  unfold ruleOKr
  rw [Bool.and_eq_true, decide_eq_true_eq, Bool.not_eq_true', List.any_eq_false]
  refine and_congr_right fun _ => ⟨fun h c hc => ?_, fun h c hc => ?_⟩
  · have := h c hc
    simpa using this
  · rw [h c hc]; decide
theorem l3ruleOK_ev (l : List S26) (h : ∀ c ∈ l, conU c) : Ev (fun k => spec_l3ruleOK.f k l) (ruleOKr ⟨l⟩) := by
  unfold spec_l3ruleOK.f
  by_cases h6 : l.length = 6
  · have key : ∀ d i : Nat, i + d = 6 → (∀ c ∈ l.take i, conOKr c = true) → Ev (fun k => spec_l3ruleOK.l0 k (i : Int) l) (ruleOKr ⟨l⟩) := by
      intro d
      induction d with
      | zero =>
        intro i hi ht
        rw [List.take_of_length_le (by omega)] at ht
        rw [(ruleOK_iff ⟨l⟩).2 ⟨h6, ht⟩]
        exact ev_end fun k => by simp only [spec_l3ruleOK.l0]; rw [if_neg (by omega)]
      | succ d ih =>
        intro i hi ht
        have hil : i < l.length := by omega
        have hc := conOK_is l[i] (h _ (List.getElem_mem hil))
        by_cases ho : conOKr l[i] = true
        · rw [ho] at hc
          refine ev_step _ (fun k => ?_) (ih (i + 1) (by omega) (by
            rw [← List.take_append_getElem hil]
            intro x hx
            rcases List.mem_append.1 hx with hx | hx
            · exact ht x hx
            · rw [List.mem_singleton.1 hx]; exact ho))
          simp only [spec_l3ruleOK.l0]
          rw [if_pos (by omega), if_pos (by omega), if_pos (by omega), rdCI l i hil, hc, Option.bind_some, if_pos rfl, wrap64_id (by omega) (by omega)]
          rfl
        · have e : ruleOKr ⟨l⟩ = false := Bool.eq_false_iff.2 fun hr => ho (((ruleOK_iff ⟨l⟩).1 hr).2 _ (List.getElem_mem hil))
          rw [Bool.eq_false_iff.2 ho] at hc
          rw [e]
          exact ev_end fun k => by
            simp only [spec_l3ruleOK.l0]
            rw [if_pos (by omega), if_pos (by omega), if_pos (by omega), rdCI l i hil, hc, Option.bind_some, if_neg (by decide)]
    refine Ev.congr (fun k => ?_) (key 6 0 (by omega) (by simp))
    rw [if_pos (by omega)]
    rfl
  · have e : ruleOKr ⟨l⟩ = false := Bool.eq_false_iff.2 fun hr => h6 ((ruleOK_iff ⟨l⟩).1 hr).1
    rw [e]
    exact ev_is fun k => by rw [if_neg (by omega)]
def totL : List S127 → Nat
  | [] => 0
  | e :: l => e.f2.length + totL l
theorem l3rules_ev (p : List S127) (hl : p.length ≤ 1048576) (hm : ∀ e ∈ p, e.f2.length ≤ 1048576) : Ev (fun k => spec_l3rules.f k p) ((totL p : Nat) : Int) := by
  have key : ∀ (d i T : Nat), i + d = p.length → T + 1048576 * d ≤ 2000000000000 → Ev (fun k => spec_l3rules.l0 k (T : Int) (i : Int) p) ((T + totL (p.drop i) : Nat) : Int) := by
    intro d
    induction d with
    | zero =>
      intro i T hi hT
      rw [List.drop_eq_nil_of_le (by omega)]
      exact ev_end fun k => by simp only [spec_l3rules.l0]; rw [if_neg (by omega)]; rfl
    | succ d ih =>
      intro i T hi hT
      have hil : i < p.length := by omega
      have hmi := hm _ (List.getElem_mem hil)
      rw [List.drop_eq_getElem_cons hil, totL]
      have h := ih (i + 1) (T + p[i].f2.length) (by omega) (by omega)
      rw [Nat.add_assoc] at h
      refine ev_step _ (fun k => ?_) h
      simp only [spec_l3rules.l0]
      rw [if_pos (by omega), if_pos (by omega), rdEI p i hil, wrap64_id (i := (T : Int) + _) (by omega) (by omega), wrap64_id (i := (i : Int) + 1) (by omega) (by omega)]
      rfl
  have h := key p.length 0 0 (by omega) (by omega)
  rw [List.drop_zero, Nat.zero_add] at h
  exact h
def ordP (d e : S127) : Prop := d.f0 < e.f0 ∨ (d.f0 = e.f0 ∧ d.f1 < e.f1)
def entP (p : List S127) (i : Nat) : Prop :=
  ∀ h : i < p.length, 1 ≤ p[i].f2.length ∧ p[i].f2.length ≤ 200 ∧ (∀ h0 : 0 < i, ordP (p[i - 1]'(by omega)) p[i]) ∧ ∀ r ∈ p[i].f2, ruleOKr r = true
theorem wrap_pred (i : Nat) (h0 : 0 < i) (h : i ≤ 1048576) : wrap64 ((i : Int) - 1) = ((i - 1 : Nat) : Int) := by rw [wrap64_id (by omega) (by omega)]; omega
theorem specValid_ev (p : List S127) (hs : SmallEI p) (hu : polU p) : ∃ b : Bool, Ev (fun k => spec_ValidPolicy.f k p) b ∧ (b = true ↔ (∀ i, entP p i) ∧ totL p ≤ 1000) := by
  obtain ⟨hl, hm⟩ := hs
  have hmt : ∀ e ∈ p, e.f2.length ≤ 1048576 := fun e he => (hm e he).1
  have rules : ∀ (x3 : Int) (a b : Int) (rs : List S131) (b' : Bool), SmallRI rs → (∀ r ∈ rs, ∀ c ∈ r.f0, conU c) → Ev (fun k => spec_ValidPolicy.l0 k (wrap64 (x3 + 1)) p) b' →
      ∀ d j : Nat, j + d = rs.length → ∃ b'' : Bool, Ev (fun k => spec_ValidPolicy.l1 k x3 (j : Int) p a b rs) b'' ∧ (b'' = true ↔ (∀ r ∈ rs.drop j, ruleOKr r = true) ∧ b' = true) := by
    intro x3 a b rs b' hrs hru hnext d
    induction d with
    | zero =>
      intro j hj
      refine ⟨b', ev_step _ (fun k => ?_) hnext, ?_⟩
      · simp only [spec_ValidPolicy.l1]; rw [if_neg (by omega)]
      · rw [List.drop_eq_nil_of_le (by omega)]; simp
    | succ d ih =>
      intro j hj
      have hjl : j < rs.length := by omega
      have hrl := hrs.1
      obtain ⟨K, hK⟩ := ev_get (l3ruleOK_ev rs[j].f0 (hru _ (List.getElem_mem hjl)))
      obtain ⟨b2, h2, i2⟩ := ih (j + 1) (by omega)
      rw [List.drop_eq_getElem_cons hjl, List.forall_mem_cons]
      by_cases ho : ruleOKr rs[j] = true
      · refine ⟨b2, ?_, i2.trans ⟨fun h => ⟨⟨ho, h.1⟩, h.2⟩, fun h => ⟨h.1.2, h.2⟩⟩⟩
        refine ev_step (fun k => (spec_l3ruleOK.f k rs[j].f0).bind fun t => if t = true then spec_ValidPolicy.l1 k x3 ((j + 1 : Nat) : Int) p a b rs else some false) (fun k => ?_) (Ev.bind (l3ruleOK_ev rs[j].f0 (hru _ (List.getElem_mem hjl))) (Ev.congr (fun k => ?_) h2))
        · simp only [spec_ValidPolicy.l1]
          rw [if_pos (by omega), if_pos (by omega), rdRI rs j hjl, wrap64_id (i := (j : Int) + 1) (by omega) (by omega)]
          rfl
        · rw [if_pos ho]
      · refine ⟨false, ?_, ⟨fun h => absurd h (by decide), fun h => absurd h.1.1 ho⟩⟩
        refine ev_step (fun k => (spec_l3ruleOK.f k rs[j].f0).bind fun t => if t = true then spec_ValidPolicy.l1 k x3 ((j + 1 : Nat) : Int) p a b rs else some false) (fun k => ?_) (Ev.bind (l3ruleOK_ev rs[j].f0 (hru _ (List.getElem_mem hjl))) (ev_is fun k => ?_))
        · simp only [spec_ValidPolicy.l1]
          rw [if_pos (by omega), if_pos (by omega), rdRI rs j hjl, wrap64_id (i := (j : Int) + 1) (by omega) (by omega)]
          rfl
        · rw [if_neg ho]
  have key : ∀ d i : Nat, i + d = p.length → ∃ b : Bool, Ev (fun k => spec_ValidPolicy.l0 k (i : Int) p) b ∧ (b = true ↔ (∀ j, i ≤ j → entP p j) ∧ totL p ≤ 1000) := by
    intro d
    induction d with
    | zero =>
      intro i hi
      refine ⟨decide (((totL p : Nat) : Int) ≤ 1000), ?_, ?_⟩
      · refine ev_step (fun k => (spec_l3rules.f k p).bind fun t => some (decide (t ≤ 1000))) (fun k => ?_) (Ev.bind (l3rules_ev p hl hmt) (ev_is fun _ => rfl))
        simp only [spec_ValidPolicy.l0]; rw [if_neg (by omega)]
      · rw [decide_eq_true_eq]
        exact ⟨fun h => ⟨fun j hj hjl => by omega, by omega⟩, fun h => by omega⟩
    | succ d ih =>
      intro i hi
      have hil : i < p.length := by omega
      obtain ⟨b', h', i'⟩ := ih (i + 1) (by omega)
      have hmi := hm _ (List.getElem_mem hil)
      have hnext : Ev (fun k => spec_ValidPolicy.l0 k (wrap64 ((i : Int) + 1)) p) b' := by rw [wrap64_id (by omega) (by omega)]; exact h'
      obtain ⟨b2, h2, i2⟩ := rules (i : Int) p[i].f0 p[i].f1 p[i].f2 b' hmi (hu _ (List.getElem_mem hil)) hnext p[i].f2.length 0 (by omega)
      rw [List.drop_zero] at i2
      have hj2 : Ev (fun k => spec_ValidPolicy.j2 k (i : Int) p p[i].f0 p[i].f1 p[i].f2) b2 := ev_step _ (fun k => by simp only [spec_ValidPolicy.j2]; rfl) h2
      have hfalse : ¬ entP p i → ∃ b : Bool, Ev (fun _ => some false) b ∧ (b = true ↔ (∀ j, i ≤ j → entP p j) ∧ totL p ≤ 1000) := fun hn => ⟨false, ev_is fun _ => rfl, ⟨fun h => absurd h (by decide), fun h => absurd (h.1 i (Nat.le_refl _)) hn⟩⟩
      have hall : entP p i → ((∀ j, i ≤ j → entP p j) ∧ totL p ≤ 1000 ↔ b' = true) := fun he => by
        rw [i']
        exact ⟨fun h => ⟨fun j hj => h.1 j (by omega), h.2⟩, fun h => ⟨fun j hj => by
          by_cases e : j = i
          · subst e; exact he
          · exact h.1 j (by omega), h.2⟩⟩
      have hj1 : ∃ b : Bool, Ev (fun k => spec_ValidPolicy.j1 k (i : Int) (decide ((p[i].f2.length : Int) < 1 ∨ (p[i].f2.length : Int) > 200)) p p[i].f0 p[i].f1 p[i].f2) b ∧ (b = true ↔ (∀ j, i ≤ j → entP p j) ∧ totL p ≤ 1000) := by
        by_cases hlen : (p[i].f2.length : Int) < 1 ∨ (p[i].f2.length : Int) > 200
        · obtain ⟨b, hb, ib⟩ := hfalse (fun he => by have := he hil; omega)
          exact ⟨b, ev_step _ (fun k => by simp only [spec_ValidPolicy.j1]; rw [if_pos (by rw [decide_eq_true hlen])]) hb, ib⟩
        · by_cases h0 : 0 < i
          · have hpred := wrap_pred i h0 (by omega)
            have hrd := rdEI p (i - 1) (by omega)
            have hb : ∀ f : Nat → Option Bool, (∀ k, (if p[i - 1].f0 > p[i].f0 then some false else (if p[i - 1].f0 = p[i].f0 then (if p[i - 1].f1 ≥ p[i].f1 then some false else spec_ValidPolicy.j2 k (i : Int) p p[i].f0 p[i].f1 p[i].f2) else spec_ValidPolicy.j2 k (i : Int) p p[i].f0 p[i].f1 p[i].f2)) = f k) → ∀ b, Ev f b → Ev (fun k => spec_ValidPolicy.j1 k (i : Int) (decide ((p[i].f2.length : Int) < 1 ∨ (p[i].f2.length : Int) > 200)) p p[i].f0 p[i].f1 p[i].f2) b := fun f hf b hb => ev_step _ (fun k => by
              simp only [spec_ValidPolicy.j1]
              rw [if_neg (by rw [decide_eq_false hlen]; decide), if_pos (by omega), hpred, if_pos (by omega), if_pos (by omega), hrd]
              exact hf k) hb
            by_cases c1 : p[i - 1].f0 > p[i].f0
            · obtain ⟨b, hb2, ib⟩ := hfalse (fun he => by rcases (he hil).2.2.1 h0 with h | h <;> omega)
              exact ⟨b, hb _ (fun k => by rw [if_pos c1]) b hb2, ib⟩
            · by_cases c2 : p[i - 1].f0 = p[i].f0
              · by_cases c3 : p[i - 1].f1 ≥ p[i].f1
                · obtain ⟨b, hb2, ib⟩ := hfalse (fun he => by rcases (he hil).2.2.1 h0 with h | h <;> omega)
                  exact ⟨b, hb _ (fun k => by rw [if_neg c1, if_pos c2, if_pos c3]) b hb2, ib⟩
                · refine ⟨b2, hb _ (fun k => by rw [if_neg c1, if_pos c2, if_neg c3]) b2 hj2, i2.trans ⟨fun h => (hall fun _ => ⟨by omega, by omega, fun _ => .inr ⟨c2, by omega⟩, h.1⟩).2 h.2, fun h => ⟨(h.1 i (Nat.le_refl _) hil).2.2.2, (hall (h.1 i (Nat.le_refl _))).1 h⟩⟩⟩
              · refine ⟨b2, hb _ (fun k => by rw [if_neg c1, if_neg c2]) b2 hj2, i2.trans ⟨fun h => (hall fun _ => ⟨by omega, by omega, fun _ => .inl (by omega), h.1⟩).2 h.2, fun h => ⟨(h.1 i (Nat.le_refl _) hil).2.2.2, (hall (h.1 i (Nat.le_refl _))).1 h⟩⟩⟩
          · refine ⟨b2, ev_step _ (fun k => ?_) hj2, i2.trans ⟨fun h => (hall fun _ => ⟨by omega, by omega, fun g => absurd g h0, h.1⟩).2 h.2, fun h => ⟨(h.1 i (Nat.le_refl _) hil).2.2.2, (hall (h.1 i (Nat.le_refl _))).1 h⟩⟩⟩
            simp only [spec_ValidPolicy.j1]
            rw [if_neg (by rw [decide_eq_false hlen]; decide), if_neg (by omega)]
      obtain ⟨b, hb, ib⟩ := hj1
      refine ⟨b, ev_step _ (fun k => ?_) hb, ib⟩
      simp only [spec_ValidPolicy.l0]
      rw [if_pos (by omega), if_pos (by omega), rdEI p i hil]
      by_cases c : (p[i].f2.length : Int) < 1
      · rw [if_pos c, decide_eq_true (Or.inl c)]
      · rw [if_neg c]
        congr 1
        rw [decide_eq_decide]
        omega
  obtain ⟨b, hb, ib⟩ := key p.length 0 (by omega)
  exact ⟨b, hb, ib.trans ⟨fun h => ⟨fun i => h.1 i (Nat.zero_le _), h.2⟩, fun h => ⟨fun i _ => h.1 i, h.2⟩⟩⟩
theorem compare_is (a b : Int) : cmp_Compare_uint32.f a b = some (if a < b then -1 else if a > b then 1 else 0) := by
  unfold cmp_Compare_uint32.f cmp_isNaN_uint32.f
  simp only [bne_self_eq_false, Option.bind_some, Bool.false_eq_true, if_false]
  split
  · rfl
  · split <;> rfl
theorem or_ev (a b : Int) : Ev (fun k => cmp_Or_int.f k [a, b]) (if a = 0 then b else a) := by
  refine ev_mk 4 fun k hk => ?_
  obtain ⟨m, rfl⟩ : ∃ m, k = m + 1 + 1 + 1 := ⟨k - 3, by omega⟩
  unfold cmp_Or_int.f
  have e1 : wrap64 (0 + 1) = 1 := wrap64_id (by decide) (by decide)
  have e2 : wrap64 (1 + 1) = 2 := wrap64_id (by decide) (by decide)
  have r0 : rd [a, b] 0 = a := rfl
  have r1 : rd [a, b] 1 = b := rfl
  simp only [cmp_Or_int.l0, List.length_cons, List.length_nil, e1, e2, r0, r1]
  by_cases ha : a = 0
  · by_cases hb : b = 0
    · simp [ha, hb]
    · simp [ha, hb]
  · simp [ha]
theorem implValid_ev (p : List S127) (hs : SmallEI p) : ∃ b : Bool, Ev (fun k => impl_ValidPolicy.f k p) b ∧ (b = true ↔ (∀ i, entP p i) ∧ totL p ≤ 1000) := by
  obtain ⟨hl, hm⟩ := hs
  have key : ∀ d i T : Nat, i + d = p.length → T ≤ 1000 → ∃ b : Bool, Ev (fun k => impl_ValidPolicy.l0 k (T : Int) p (p.length : Int) (i : Int) p) b ∧ (b = true ↔ (∀ j, i ≤ j → entP p j) ∧ T + totL (p.drop i) ≤ 1000) := by
    intro d
    induction d with
    | zero =>
      intro i T hi hT
      refine ⟨true, ev_end fun k => by simp only [impl_ValidPolicy.l0]; rw [if_neg (by omega)], ?_⟩
      rw [List.drop_eq_nil_of_le (by omega)]
      exact ⟨fun _ => ⟨fun j hj hjl => by omega, by simp only [totL]; omega⟩, fun _ => rfl⟩
    | succ d ih =>
      intro i T hi hT
      have hil : i < p.length := by omega
      have hmi := hm _ (List.getElem_mem hil)
      have hml := hmi.1
      rw [List.drop_eq_getElem_cons hil, totL]
      have hfalse : (¬ entP p i ∨ ¬ T + p[i].f2.length ≤ 1000) → ∃ b : Bool, Ev (fun _ => some false) b ∧ (b = true ↔ (∀ j, i ≤ j → entP p j) ∧ T + (p[i].f2.length + totL (p.drop (i + 1))) ≤ 1000) := fun hn => ⟨false, ev_is fun _ => rfl, ⟨fun h => absurd h (by decide), fun h => by
        rcases hn with hn | hn
        · exact absurd (h.1 i (Nat.le_refl _)) hn
        · omega⟩⟩
      have hwT : wrap64 ((T : Int) + (p[i].f2.length : Int)) = ((T + p[i].f2.length : Nat) : Int) := by rw [wrap64_id (by omega) (by omega)]; omega
      have hcon : slices_ContainsFunc_Rule.f p[i].f2 = some (p[i].f2.any fun c => !ruleOKr c) := by
        unfold slices_ContainsFunc_Rule.f
        exact if_pos ⟨by omega, fun x hx => by have := hmi.2 x hx; omega⟩
      have hj1 : (∀ h0 : 0 < i, ordP (p[i - 1]'(by omega)) p[i]) → ∃ b : Bool, Ev (fun k => impl_ValidPolicy.j1 k (T : Int) p (p.length : Int) (i : Int) p p[i].f0 p[i].f1 p[i].f2) b ∧ (b = true ↔ (∀ j, i ≤ j → entP p j) ∧ T + (p[i].f2.length + totL (p.drop (i + 1))) ≤ 1000) := by
        intro hord
        have hj2f : ∀ b : Bool, Ev (fun _ => some false) b → Ev (fun k => impl_ValidPolicy.j2 k ((T + p[i].f2.length : Nat) : Int) p (p.length : Int) (i : Int) true p p[i].f0 p[i].f1 p[i].f2) b := fun b hb => ev_step _ (fun k => by simp only [impl_ValidPolicy.j2]; rw [if_pos trivial]) hb
        by_cases c1 : (p[i].f2.length : Int) < 1
        · obtain ⟨b, hb, ib⟩ := hfalse (.inl fun he => by have := he hil; omega)
          refine ⟨b, ev_step _ (fun k => ?_) (hj2f b hb), ib⟩
          simp only [impl_ValidPolicy.j1]
          rw [if_pos c1, hwT]
        · by_cases c2 : (p[i].f2.length : Int) > 200
          · obtain ⟨b, hb, ib⟩ := hfalse (.inl fun he => by have := he hil; omega)
            refine ⟨b, ev_step _ (fun k => ?_) (hj2f b hb), ib⟩
            simp only [impl_ValidPolicy.j1]
            rw [if_neg c1, if_pos c2, hwT]
          · by_cases c3 : T + p[i].f2.length ≤ 1000
            · obtain ⟨b', h', i'⟩ := ih (i + 1) (T + p[i].f2.length) (by omega) c3
              have hj1s : ∀ b, Ev (fun k => impl_ValidPolicy.j2 k ((T + p[i].f2.length : Nat) : Int) p (p.length : Int) (i : Int) false p p[i].f0 p[i].f1 p[i].f2) b → Ev (fun k => impl_ValidPolicy.j1 k (T : Int) p (p.length : Int) (i : Int) p p[i].f0 p[i].f1 p[i].f2) b := fun b hb => ev_step _ (fun k => by
                simp only [impl_ValidPolicy.j1]
                rw [if_neg c1, if_neg c2, hwT, decide_eq_false (by omega)]) hb
              by_cases c4 : (p[i].f2.any fun c => !ruleOKr c) = true
              · obtain ⟨b, hb, ib⟩ := hfalse (.inl fun he => by
                  obtain ⟨r, hr, hn⟩ := List.any_eq_true.1 c4
                  have := (he hil).2.2.2 r hr
                  rw [this] at hn
                  exact absurd hn (by decide))
                refine ⟨b, hj1s b (ev_step _ (fun k => ?_) hb), ib⟩
                simp only [impl_ValidPolicy.j2]
                rw [if_neg (by decide), hcon, Option.bind_some, if_pos c4]
              · have hr : ∀ r ∈ p[i].f2, ruleOKr r = true := by
                  intro r hr
                  have := List.any_eq_false.1 (Bool.eq_false_iff.2 c4) r hr
                  simpa using this
                have he : entP p i := fun _ => ⟨by omega, by omega, hord, hr⟩
                refine ⟨b', hj1s b' (ev_step _ (fun k => ?_) h'), i'.trans ⟨fun h => ⟨fun j hj => by
                  by_cases e : j = i
                  · subst e; exact he
                  · exact h.1 j (by omega), by omega⟩, fun h => ⟨fun j hj => h.1 j (by omega), by omega⟩⟩⟩
                simp only [impl_ValidPolicy.j2]
                rw [if_neg (by decide), hcon, Option.bind_some, if_neg c4, wrap64_id (i := (i : Int) + 1) (by omega) (by omega)]
                rfl
            · obtain ⟨b, hb, ib⟩ := hfalse (.inr c3)
              refine ⟨b, ev_step _ (fun k => ?_) (hj2f b hb), ib⟩
              simp only [impl_ValidPolicy.j1]
              rw [if_neg c1, if_neg c2, hwT, decide_eq_true (by omega)]
      by_cases h0 : 0 < i
      · have hpred := wrap_pred i h0 (by omega)
        have hrd := rdEI p (i - 1) (by omega)
        obtain ⟨K, hK⟩ := ev_get (or_ev (if p[i - 1].f0 < p[i].f0 then -1 else if p[i - 1].f0 > p[i].f0 then 1 else 0) (if p[i - 1].f1 < p[i].f1 then -1 else if p[i - 1].f1 > p[i].f1 then 1 else 0))
        have hstep : ∀ (f : Nat → Option Bool) (b : Bool), (∀ k, (if (if (if p[i - 1].f0 < p[i].f0 then (-1 : Int) else if p[i - 1].f0 > p[i].f0 then 1 else 0) = 0 then (if p[i - 1].f1 < p[i].f1 then (-1 : Int) else if p[i - 1].f1 > p[i].f1 then 1 else 0) else (if p[i - 1].f0 < p[i].f0 then (-1 : Int) else if p[i - 1].f0 > p[i].f0 then 1 else 0)) ≥ 0 then some false else impl_ValidPolicy.j1 k (T : Int) p (p.length : Int) (i : Int) p p[i].f0 p[i].f1 p[i].f2) = f k) → Ev f b → Ev (fun k => impl_ValidPolicy.l0 k (T : Int) p (p.length : Int) (i : Int) p) b := by
          intro f b hf hb
          obtain ⟨K2, hK2⟩ := ev_get hb
          refine ev_mk (K + K2 + 1) fun k hk => ?_
          obtain ⟨m, rfl⟩ : ∃ m, k = m + 1 := ⟨k - 1, by omega⟩
          simp only [impl_ValidPolicy.l0]
          rw [if_pos (by omega), if_pos (by omega), if_pos (by omega), if_pos (by omega), hpred, if_pos (by omega), if_pos (by omega), hrd, rdEI p i hil, compare_is, Option.bind_some, compare_is, Option.bind_some, hK m (by omega), Option.bind_some, hf m]
          exact hK2 m (by omega)
        by_cases ho : ordP p[i - 1] p[i]
        · obtain ⟨b, hb, ib⟩ := hj1 fun _ => ho
          refine ⟨b, hstep _ b (fun k => ?_) hb, ib⟩
          rw [if_neg]
          rcases ho with h | ⟨h1, h2⟩
          · rw [if_pos h, if_neg (by decide)]; decide
          · rw [if_neg (by omega : ¬ p[i - 1].f0 < p[i].f0), if_neg (by omega : ¬ p[i - 1].f0 > p[i].f0), if_pos rfl, if_pos h2]; decide
        · obtain ⟨b, hb, ib⟩ := hfalse (.inl fun he => ho ((he hil).2.2.1 h0))
          refine ⟨b, hstep _ b (fun k => ?_) hb, ib⟩
          rw [if_pos]
          unfold ordP at ho
          by_cases c1 : p[i - 1].f0 < p[i].f0
          · exact absurd (.inl c1) ho
          · by_cases c2 : p[i - 1].f0 > p[i].f0
            · rw [if_neg c1, if_pos c2, if_neg (by decide)]; decide
            · rw [if_neg c1, if_neg c2, if_pos rfl]
              by_cases c3 : p[i - 1].f1 < p[i].f1
              · exact absurd (.inr ⟨by omega, c3⟩) ho
              · rw [if_neg c3]
                split <;> decide
      · obtain ⟨b, hb, ib⟩ := hj1 fun g => absurd g h0
        refine ⟨b, ev_step _ (fun k => ?_) hb, ib⟩
        simp only [impl_ValidPolicy.l0]
        rw [if_pos (by omega), if_pos (by omega), if_pos (by omega), if_neg (by omega), rdEI p i hil]
  obtain ⟨b, hb, ib⟩ := key p.length 0 0 (by omega) (by omega)
  rw [List.drop_zero, Nat.zero_add] at ib
  exact ⟨b, hb, ib.trans ⟨fun h => ⟨fun i => h.1 i (Nat.zero_le _), h.2⟩, fun h => ⟨fun i _ => h.1 i, h.2⟩⟩⟩
end Go.Proofs.Ytdipinclchkhjaa.P

namespace Go.Proofs.Ytdipinclchkhjaa.P
set_option linter.unusedVariables false
set_option linter.unusedSimpArgs false
/-! Numbers and their bits: masks, blocks, ranges. -/
theorem tb_hi {x i : Nat} (h : x < 18446744073709551616) (hi : 64 ≤ i) : x.testBit i = false :=
  Nat.testBit_lt_two_pow (Nat.lt_of_lt_of_le (by omega : x < 2 ^ 64) (Nat.pow_le_pow_right (by decide) hi))
theorem tb_ones (i : Nat) : (18446744073709551615 : Nat).testBit i = decide (i < 64) := by
  rw [show (18446744073709551615 : Nat) = 2 ^ 64 - 1 by decide, Nat.testBit_two_pow_sub_one]
theorem tb_not (x i : Nat) (h : x < 18446744073709551616) : (18446744073709551615 - x).testBit i = (decide (i < 64) && !x.testBit i) := by
  rw [← ones_xor x h, Nat.testBit_xor, tb_ones]
  by_cases hi : i < 64
  · simp [hi]
  · simp [hi, tb_hi h (by omega : 64 ≤ i)]
/-- A value's bits lie among a mask's. -/
def Sub (v m : Nat) : Prop := ∀ i, v.testBit i = true → m.testBit i = true
theorem and_sub {v m : Nat} (h : v &&& m = v) : Sub v m := by
  intro i hi
  rw [← h, Nat.testBit_and, Bool.and_eq_true] at hi
  exact hi.2
theorem or_sub {v m : Nat} (h : m ||| v = m) : Sub v m := by
  intro i hi
  rw [← h, Nat.testBit_or, hi, Bool.or_true]
theorem sub_zero {v m : Nat} (hv : v < 18446744073709551616) (hm : m < 18446744073709551616) : v &&& (18446744073709551615 - m) = 0 ↔ Sub v m := by
  rw [sub_bits m v hm hv]
  exact ⟨or_sub, fun h => by
    apply Nat.eq_of_testBit_eq
    intro i
    rw [Nat.testBit_or]
    cases hv : v.testBit i
    · rw [Bool.or_false]
    · rw [h i hv]; rfl⟩
/-- A block: what its mask's set is. -/
theorem block_set {k a z : Nat} (hk : k ≤ 64) (ha : a % 2 ^ k = 0) (hz : z < 18446744073709551616) : z &&& (18446744073709551615 - (2 ^ k - 1)) = a ↔ a ≤ z ∧ z ≤ a + (2 ^ k - 1) := by
  have hp := two_pow_le k hk
  have e : z &&& (18446744073709551615 - (2 ^ k - 1)) = 2 ^ k * (z / 2 ^ k) := by
    apply Nat.eq_of_testBit_eq
    intro j
    rw [Nat.testBit_and, tb_not _ _ (by omega), Nat.testBit_two_pow_sub_one, Nat.mul_comm, Nat.testBit_mul_two_pow, Nat.testBit_div_two_pow]
    by_cases hj : k ≤ j
    · have : ¬ j < k := by omega
      rw [Nat.sub_add_cancel hj]
      by_cases h6 : j < 64
      · simp [hj, this, h6]
      · have h7 : z.testBit j = false := tb_hi hz (by omega)
        simp [hj, this, h6, h7]
    · have : j < k := by omega
      simp [hj, this]
  rw [e]
  have h1 := Nat.div_add_mod z (2 ^ k)
  have h2 := Nat.div_add_mod a (2 ^ k)
  have h3 := Nat.mod_lt z hp.1
  generalize 2 ^ k = p at h1 h2 h3 ha hp ⊢
  constructor
  · intro h
    rw [h] at h1
    omega
  · rintro ⟨h4, h5⟩
    have hq : z / p = a / p := by
      refine Nat.div_eq_of_lt_le ?_ ?_
      · rw [Nat.mul_comm]; omega
      · rw [Nat.succ_mul, Nat.mul_comm]; omega
    rw [hq]
    omega
end Go.Proofs.Ytdipinclchkhjaa.P

namespace Go.Proofs.Ytdipinclchkhjaa.P
open Go.RowKit Go.Proofs.YtdipinclchkhjaaW.PrintWords Go.Proofs.YtdipinclchkhjaaW.PrintLast Go.Proofs.YtdipinclchkhjaaW.PrintMore
attribute [local go_sem] max2_int min2_int max_two min_two max_three min_three max_four min_four   -- for this text's walks alone
set_option linter.unusedVariables false
set_option linter.unusedSimpArgs false

def Cd.ends : Cd → Int × Int
  | .nil => (0, 0)
  | .any => (0, 18446744073709551615)
  | .mask m v => (v, bits .or .u64 v (bits .xor .u64 18446744073709551615 m))
  | .rng l h => (l, h)
def Cd.holds (c : Cd) (x : Int) : Bool := match c with
  | .nil => true
  | .any => true
  | .mask m v => bits .and .u64 x m == v
  | .rng l h => decide (l ≤ x) && decide (x ≤ h)
end Go.Proofs.Ytdipinclchkhjaa.P

namespace Go.Proofs.Ytdipinclchkhjaa.P
open Go.RowKit Go.Proofs.YtdipinclchkhjaaW.PrintWords Go.Proofs.YtdipinclchkhjaaW.PrintLast Go.Proofs.YtdipinclchkhjaaW.PrintMore
attribute [local go_sem] max2_int min2_int max_two min_two max_three min_three max_four min_four   -- for this text's walks alone
set_option linter.unusedVariables false
set_option linter.unusedSimpArgs false

end Go.Proofs.Ytdipinclchkhjaa.P

namespace Go.Proofs.Ytdipinclchkhjaa.P
open Go.RowKit Go.Proofs.YtdipinclchkhjaaW.PrintWords Go.Proofs.YtdipinclchkhjaaW.PrintLast Go.Proofs.YtdipinclchkhjaaW.PrintMore
set_option linter.unusedVariables false
set_option linter.unusedSimpArgs false
/-! A condition's set; which lies in which. -/
def InC (k : Int) (a b z : Nat) : Prop := if k = 1 then z &&& a = b else if k = 2 then a ≤ z ∧ z ≤ b else True
/-- A condition inside, and that it is sound. -/
inductive NC where
  | any
  | mask (m v : Nat)
  | rng (l h : Nat)
def NC.cd : NC → Cd
  | .any => .any
  | .mask m v => .mask m v
  | .rng l h => .rng l h
def NC.In : NC → Nat → Prop
  | .any, _ => True
  | .mask m v, z => z &&& m = v
  | .rng l h, z => l ≤ z ∧ z ≤ h
def NC.Good : NC → Prop
  | .any => True
  | .mask m v => m < 18446744073709551616 ∧ v < 18446744073709551616 ∧ m ≠ 0 ∧ Sub v m
  | .rng l h => l ≤ h ∧ h < 18446744073709551616
/-- What the program makes of a range: a sound one, and the same set. -/
theorem nrRaw_nc (a b : Nat) (hab : a ≤ b) (hb : b < 18446744073709551616) : ∃ c : NC, nrRaw (a : Int) (b : Int) = c.cd ∧ c.Good ∧ ∀ z, z < 18446744073709551616 → (c.In z ↔ a ≤ z ∧ z ≤ b) := by
  by_cases h : ∃ k, k ≤ 64 ∧ b - a = 2 ^ k - 1 ∧ a % 2 ^ k = 0
  · obtain ⟨k, hk, h1, h2⟩ := h
    have hp := two_pow_le k hk
    unfold nrRaw
    rw [nrN_is a b hab hb]
    by_cases e : k = 64
    · subst e
      have e0 : (b - a + 1) % 18446744073709551616 = 0 := by rw [h1]
      rw [e0]
      have e1 : (2 : Nat) ^ 64 - 1 = 18446744073709551615 := by decide
      rw [e1] at h1
      exact ⟨.any, by simp [NC.cd], trivial, fun z hz => ⟨fun _ => by omega, fun _ => trivial⟩⟩
    · have hk2 : k < 64 := by omega
      have hp2 := two_pow_lt k hk2
      have e1 : (b - a + 1) % 18446744073709551616 = 2 ^ k := by rw [h1, Nat.sub_add_cancel hp.1]; exact Nat.mod_eq_of_lt (by omega)
      have e2 : IntKind.u64.wrap (((2 ^ k : Nat) : Int) - 1) = ((2 ^ k - 1 : Nat) : Int) := by rw [wrap_u64_id (by omega) (by omega)]; omega
      have e3 : 2 ^ k &&& (2 ^ k - 1) = 0 := by rw [Nat.and_two_pow_sub_one_eq_mod]; exact Nat.mod_self _
      have e4 : a &&& (2 ^ k - 1) = 0 := by rw [Nat.and_two_pow_sub_one_eq_mod]; exact h2
      rw [e1, e2, and64 _ _ (by omega) (by omega), and64 _ _ (by omega) (by omega), e3, e4, not64 _ (by omega), if_neg (by omega), if_pos ⟨rfl, rfl⟩]
      refine ⟨.mask (18446744073709551615 - (2 ^ k - 1)) a, rfl, ⟨by omega, by omega, by omega, ?_⟩, fun z hz => ?_⟩
      · exact and_sub ((block_set hk h2 (by omega)).2 ⟨Nat.le_refl _, by omega⟩)
      · show z &&& _ = a ↔ _
        rw [block_set hk h2 hz]
        omega
  · refine ⟨.rng a b, nrRaw_plain a b hab hb (fun k h1 h2 h3 => h ⟨k, h1, h2, h3⟩), ⟨hab, hb⟩, fun z hz => Iff.rfl⟩
theorem normRaw_nc (k : Int) (a b : Nat) (ha : a < 18446744073709551616) (hb : b < 18446744073709551616) (hok : (normRaw k a b).2 = true) : ∃ c : NC, (normRaw k a b).1 = c.cd ∧ c.Good ∧ ∀ z, z < 18446744073709551616 → (c.In z ↔ InC k a b z) := by
  unfold normRaw at hok ⊢
  unfold InC
  by_cases h0 : k = 0
  · subst h0
    exact ⟨.any, by simp [NC.cd], trivial, fun z hz => by simp [NC.In]⟩
  · rw [if_neg h0] at hok ⊢
    by_cases h1 : k = 1
    · rw [if_pos h1] at hok ⊢
      by_cases h2 : (a : Int) = 0 ∧ (b : Int) = 0
      · rw [if_pos h2]
        refine ⟨.any, rfl, trivial, fun z hz => ?_⟩
        rw [if_pos h1, show a = 0 by omega, show b = 0 by omega, Nat.and_zero]
        simp [NC.In]
      · rw [if_neg h2] at hok ⊢
        rw [andNot64 b a hb ha] at hok
        simp only [beq_iff_eq] at hok
        have hs := (sub_zero hb ha).1 (by omega)
        refine ⟨.mask a b, rfl, ⟨ha, hb, ?_, hs⟩, fun z hz => ?_⟩
        · rintro rfl
          have : b = 0 := by
            apply Nat.eq_of_testBit_eq
            intro i
            rw [Nat.zero_testBit]
            cases hbi : b.testBit i
            · rfl
            · have := hs i hbi
              rw [Nat.zero_testBit] at this
              exact absurd this (by decide)
          omega
        · rw [if_pos h1]; exact Iff.rfl
    · rw [if_neg h1] at hok ⊢
      by_cases h2 : k = 2
      · rw [if_pos h2] at hok ⊢
        by_cases h3 : (a : Int) > b
        · rw [if_pos h3] at hok; exact absurd hok (by decide)
        · rw [if_neg h3]
          obtain ⟨c, c1, c2, c3⟩ := nrRaw_nc a b (by omega) hb
          refine ⟨c, c1, c2, fun z hz => ?_⟩
          rw [if_neg h1, if_pos h2]
          exact c3 z hz
      · rw [if_neg h2] at hok; exact absurd hok (by decide)
end Go.Proofs.Ytdipinclchkhjaa.P

namespace Go.Proofs.Ytdipinclchkhjaa.P
open Go.RowKit Go.Proofs.YtdipinclchkhjaaW.PrintWords Go.Proofs.YtdipinclchkhjaaW.PrintLast Go.Proofs.YtdipinclchkhjaaW.PrintMore
attribute [local go_sem] max2_int min2_int max_two min_two max_three min_three max_four min_four   -- for this text's walks alone
set_option linter.unusedVariables false
set_option linter.unusedSimpArgs false

/-! ### spec_l3holds: function 143 -/
def spec_l3holds.f (a0_0 : Int) (a0_1 : Int) (a0_2 : Int) (a1 : Int) : Option (Bool) := if a0_0 = 1 then (some ((Go.bits .and .u64 a1 a0_1) == a0_2)) else (if a0_0 = 2 then (if a0_1 ≤ a1 then (some (decide (a1 ≤ a0_2))) else (some false)) else (some true))
set_option maxHeartbeats 8000000 in
set_option maxRecDepth 100000 in
theorem spec_l3holds.calls (a0_0 : Int) (a0_1 : Int) (a0_2 : Int) (a1 : Int) (r : Bool) (w : World) (h : spec_l3holds.f a0_0 a0_1 a0_2 a1 = some r) :
    Calls Try.prog 143 #[.agg #[.int .i64 a0_0, .int .u64 a0_1, .int .u64 a0_2], .int .u64 a1] w fun e w' => e = .returned (.bool r) ∧ Below w.heap.size w w' := by
  have hu26 := Try.underlying26
  have HB := Aside0.mk (Below.refl w.heap.size w)
  have H : (if a0_0 = 1 then (some ((Go.bits .and .u64 a1 a0_1) == a0_2)) else (if a0_0 = 2 then (if a0_1 ≤ a1 then (some (decide (a1 ≤ a0_2))) else (some false)) else (some true))) = some r := h
  clear h
  by_cases c3 : a0_0 = 1
  · rw [if_pos c3] at H
    have c3b0 : (a0_0 == 1) = true := beq_iff_eq.mpr c3
    have c3b1 : (a0_0 != 1) = false := bne_eq_false_iff_eq.mpr c3
    clear c3
    obtain rfl := Option.some.inj H
    go_enter Try.func143, Try.ntmps143
    go_wp2_with (first | ((with_reducible refine gate_dst (N := 2) rfl ?_); refine box_event ?hg (N := 2) ?hd (cs := #[.int .i64 a0_0, .int .u64 a0_1, .int .u64 a0_2]) (t := 26) ?hr ?_; (case hd => rfl); (case hg => rfl); (case hr => first | (go_simp; done) | (go_simp; rfl)); intro gb104 hg w4 hbox hb; have n0_ := Aside0.mk (below_step (by repeat (first | (with_reducible first | exact HB.out | apply below_alloc | apply pw_below_drewN | apply below_drew1) | exact HB.out)) hb); have n1_ := Aside0.mk (hbox); have n2_ := Aside0.mk ((by rw [hg]; exact (below_size (by repeat (first | (with_reducible first | exact HB.out | apply below_alloc | apply pw_below_drewN | apply below_drew1) | exact HB.out))) : w.heap.size ≤ gb104)); have n3_ := Aside0.mk ((by rw [hg]; exact (below_size (by repeat (first | (with_reducible first | exact HB.out | apply below_alloc | apply pw_below_drewN | apply below_drew1) | exact HB.out))) : w.heap.size ≤ gb104)); clear HB; have HB := n0_; have BK104 := n1_; have GW104 := n2_; have GE104 := n3_; clear n0_ n1_ n2_ n3_; clear hb hbox hg; have hcz5_0 : w4.cell? ⟨gb104, 0, none⟩ = some (.int .i64 a0_0) := (blk_cell BK104.out 0).trans rfl; have hcz5_1 : w4.cell? ⟨gb104, 1, none⟩ = some (.int .u64 a0_1) := (blk_cell BK104.out 1).trans rfl; have hcz5_2 : w4.cell? ⟨gb104, 2, none⟩ = some (.int .u64 a0_2) := (blk_cell BK104.out 2).trans rfl; have hfz5_0 := blk_frozen BK104.out 0; have hfz5_1 := blk_frozen BK104.out 1; have hfz5_2 := blk_frozen BK104.out 2))
    go_ret
    exact ⟨by first | rfl | (simp [errW_none, errW_some] <;> rfl) | (simp [*, errW_none, errW_some] <;> rfl), by repeat (first | (with_reducible first | exact HB.out | apply below_alloc | apply pw_below_drewN | apply below_drew1 | refine below_set ?_ GE104.out) | exact HB.out)⟩
  · rw [if_neg c3] at H
    have c3b0 : (a0_0 == 1) = false := beq_eq_false_iff_ne.mpr c3
    have c3b1 : (a0_0 != 1) = true := bne_iff_ne.mpr c3
    by_cases c6 : a0_0 = 2
    · rw [if_pos c6] at H
      have c6b0 : (a0_0 == 2) = true := beq_iff_eq.mpr c6
      have c6b1 : (a0_0 != 2) = false := bne_eq_false_iff_eq.mpr c6
      clear c6
      by_cases c7 : a0_1 ≤ a1
      · rw [if_pos c7] at H
        have c7b0 : decide (a0_1 ≤ a1) = true := decide_eq_true c7
        clear c7
        obtain rfl := Option.some.inj H
        go_enter Try.func143, Try.ntmps143
        go_wp2_with (first | ((with_reducible refine gate_dst (N := 2) rfl ?_); refine box_event ?hg (N := 2) ?hd (cs := #[.int .i64 a0_0, .int .u64 a0_1, .int .u64 a0_2]) (t := 26) ?hr ?_; (case hd => rfl); (case hg => rfl); (case hr => first | (go_simp; done) | (go_simp; rfl)); intro gb104 hg w8 hbox hb; have n0_ := Aside0.mk (below_step (by repeat (first | (with_reducible first | exact HB.out | apply below_alloc | apply pw_below_drewN | apply below_drew1) | exact HB.out)) hb); have n1_ := Aside0.mk (hbox); have n2_ := Aside0.mk ((by rw [hg]; exact (below_size (by repeat (first | (with_reducible first | exact HB.out | apply below_alloc | apply pw_below_drewN | apply below_drew1) | exact HB.out))) : w.heap.size ≤ gb104)); have n3_ := Aside0.mk ((by rw [hg]; exact (below_size (by repeat (first | (with_reducible first | exact HB.out | apply below_alloc | apply pw_below_drewN | apply below_drew1) | exact HB.out))) : w.heap.size ≤ gb104)); clear HB; have HB := n0_; have BK104 := n1_; have GW104 := n2_; have GE104 := n3_; clear n0_ n1_ n2_ n3_; clear hb hbox hg; have hcz9_0 : w8.cell? ⟨gb104, 0, none⟩ = some (.int .i64 a0_0) := (blk_cell BK104.out 0).trans rfl; have hcz9_1 : w8.cell? ⟨gb104, 1, none⟩ = some (.int .u64 a0_1) := (blk_cell BK104.out 1).trans rfl; have hcz9_2 : w8.cell? ⟨gb104, 2, none⟩ = some (.int .u64 a0_2) := (blk_cell BK104.out 2).trans rfl; have hfz9_0 := blk_frozen BK104.out 0; have hfz9_1 := blk_frozen BK104.out 1; have hfz9_2 := blk_frozen BK104.out 2))
        go_ret
        exact ⟨by first | rfl | (simp [errW_none, errW_some] <;> rfl) | (simp [*, errW_none, errW_some] <;> rfl), by repeat (first | (with_reducible first | exact HB.out | apply below_alloc | apply pw_below_drewN | apply below_drew1 | refine below_set ?_ GE104.out) | exact HB.out)⟩
      · rw [if_neg c7] at H
        have c7b0 : decide (a0_1 ≤ a1) = false := decide_eq_false c7
        clear c7
        obtain rfl := Option.some.inj H
        go_enter Try.func143, Try.ntmps143
        go_wp2_with (first | ((with_reducible refine gate_dst (N := 2) rfl ?_); refine box_event ?hg (N := 2) ?hd (cs := #[.int .i64 a0_0, .int .u64 a0_1, .int .u64 a0_2]) (t := 26) ?hr ?_; (case hd => rfl); (case hg => rfl); (case hr => first | (go_simp; done) | (go_simp; rfl)); intro gb104 hg w10 hbox hb; have n0_ := Aside0.mk (below_step (by repeat (first | (with_reducible first | exact HB.out | apply below_alloc | apply pw_below_drewN | apply below_drew1) | exact HB.out)) hb); have n1_ := Aside0.mk (hbox); have n2_ := Aside0.mk ((by rw [hg]; exact (below_size (by repeat (first | (with_reducible first | exact HB.out | apply below_alloc | apply pw_below_drewN | apply below_drew1) | exact HB.out))) : w.heap.size ≤ gb104)); have n3_ := Aside0.mk ((by rw [hg]; exact (below_size (by repeat (first | (with_reducible first | exact HB.out | apply below_alloc | apply pw_below_drewN | apply below_drew1) | exact HB.out))) : w.heap.size ≤ gb104)); clear HB; have HB := n0_; have BK104 := n1_; have GW104 := n2_; have GE104 := n3_; clear n0_ n1_ n2_ n3_; clear hb hbox hg; have hcz11_0 : w10.cell? ⟨gb104, 0, none⟩ = some (.int .i64 a0_0) := (blk_cell BK104.out 0).trans rfl; have hcz11_1 : w10.cell? ⟨gb104, 1, none⟩ = some (.int .u64 a0_1) := (blk_cell BK104.out 1).trans rfl; have hcz11_2 : w10.cell? ⟨gb104, 2, none⟩ = some (.int .u64 a0_2) := (blk_cell BK104.out 2).trans rfl; have hfz11_0 := blk_frozen BK104.out 0; have hfz11_1 := blk_frozen BK104.out 1; have hfz11_2 := blk_frozen BK104.out 2))
        go_ret
        exact ⟨by first | rfl | (simp [errW_none, errW_some] <;> rfl) | (simp [*, errW_none, errW_some] <;> rfl), by repeat (first | (with_reducible first | exact HB.out | apply below_alloc | apply pw_below_drewN | apply below_drew1 | refine below_set ?_ GE104.out) | exact HB.out)⟩
    · rw [if_neg c6] at H
      have c6b0 : (a0_0 == 2) = false := beq_eq_false_iff_ne.mpr c6
      have c6b1 : (a0_0 != 2) = true := bne_iff_ne.mpr c6
      obtain rfl := Option.some.inj H
      go_enter Try.func143, Try.ntmps143
      go_wp2_with (first | ((with_reducible refine gate_dst (N := 2) rfl ?_); refine box_event ?hg (N := 2) ?hd (cs := #[.int .i64 a0_0, .int .u64 a0_1, .int .u64 a0_2]) (t := 26) ?hr ?_; (case hd => rfl); (case hg => rfl); (case hr => first | (go_simp; done) | (go_simp; rfl)); intro gb104 hg w12 hbox hb; have n0_ := Aside0.mk (below_step (by repeat (first | (with_reducible first | exact HB.out | apply below_alloc | apply pw_below_drewN | apply below_drew1) | exact HB.out)) hb); have n1_ := Aside0.mk (hbox); have n2_ := Aside0.mk ((by rw [hg]; exact (below_size (by repeat (first | (with_reducible first | exact HB.out | apply below_alloc | apply pw_below_drewN | apply below_drew1) | exact HB.out))) : w.heap.size ≤ gb104)); have n3_ := Aside0.mk ((by rw [hg]; exact (below_size (by repeat (first | (with_reducible first | exact HB.out | apply below_alloc | apply pw_below_drewN | apply below_drew1) | exact HB.out))) : w.heap.size ≤ gb104)); clear HB; have HB := n0_; have BK104 := n1_; have GW104 := n2_; have GE104 := n3_; clear n0_ n1_ n2_ n3_; clear hb hbox hg; have hcz13_0 : w12.cell? ⟨gb104, 0, none⟩ = some (.int .i64 a0_0) := (blk_cell BK104.out 0).trans rfl; have hcz13_1 : w12.cell? ⟨gb104, 1, none⟩ = some (.int .u64 a0_1) := (blk_cell BK104.out 1).trans rfl; have hcz13_2 : w12.cell? ⟨gb104, 2, none⟩ = some (.int .u64 a0_2) := (blk_cell BK104.out 2).trans rfl; have hfz13_0 := blk_frozen BK104.out 0; have hfz13_1 := blk_frozen BK104.out 1; have hfz13_2 := blk_frozen BK104.out 2))
      go_ret
      exact ⟨by first | rfl | (simp [errW_none, errW_some] <;> rfl) | (simp [*, errW_none, errW_some] <;> rfl), by repeat (first | (with_reducible first | exact HB.out | apply below_alloc | apply pw_below_drewN | apply below_drew1 | refine below_set ?_ GE104.out) | exact HB.out)⟩

end Go.Proofs.Ytdipinclchkhjaa.P

namespace Go.Proofs.Ytdipinclchkhjaa.P
open Go.RowKit Go.Proofs.YtdipinclchkhjaaW.PrintWords Go.Proofs.YtdipinclchkhjaaW.PrintLast Go.Proofs.YtdipinclchkhjaaW.PrintMore
attribute [local go_sem] max2_int min2_int max_two min_two max_three min_three max_four min_four   -- for this text's walks alone
set_option linter.unusedVariables false
set_option linter.unusedSimpArgs false

/-! ### spec_l3ruleHolds: function 140 -/
def spec_l3ruleHolds.l0 : Nat → List Int → Int → List (S26) → Option (Bool)
  | 0, _, _, _ => none
  | k + 1, x1, x5, x898000 => if x5 < 6 then (if 0 ≤ x5 then (if x5 < (x898000.length : Int) then (if x5 < (x1.length : Int) then ((spec_l3holds.f ((rd_T26 x898000 x5).f0) ((rd_T26 x898000 x5).f1) ((rd_T26 x898000 x5).f2) (rd x1 x5)).bind fun t900 => (if t900 = true then (spec_l3ruleHolds.l0 k x1 (wrap64 (x5 + 1)) x898000) else (some false))) else (none)) else (none)) else (none)) else (some true)
def spec_l3ruleHolds.f (k : Nat) (l0_0 : List (S26)) (l1 : List Int) : Option (Bool) := spec_l3ruleHolds.l0 k l1 0 l0_0
def spec_l3ruleHolds.T4 : Bool × List (List Nat × List Nat) := (true, [([], []), ([0], [0]), ([], []), ([1, 2], [1, 2]), ([3], [3]), ([], []), ([], []), ([5, 6], [5, 6]), ([7], [7]), ([4, 8], [4, 8]), ([9], [9])])
def spec_l3ruleHolds.B4 : List Nat := [0, 1, 0, 7, 15, 0, 0, 96, 224, 511, 1023]
theorem spec_l3ruleHolds.tab4 : rtab .any (opsOf Try.f140 4) = spec_l3ruleHolds.T4 := by kernel_rfl
theorem spec_l3ruleHolds.bits4 : waitsOk spec_l3ruleHolds.T4.2 spec_l3ruleHolds.B4 = true := by kernel_rfl
set_option maxHeartbeats 8000000 in
set_option maxRecDepth 100000 in
theorem spec_l3ruleHolds.calls (k : Nat) (A0_0 : Option Addr) (c0_0 : Nat) (l0_0 : List (S26)) (A1 : Option Addr) (c1 : Nat) (l1 : List Int) (r : Bool) (w : World) (hr0_0 : Kd.C k26 w A0_0 l0_0.length l0_0) (hc0_0 : l0_0.length ≤ c0_0) (hr1 : Kd.C (Kd.int .u64) w A1 l1.length l1) (hc1 : l1.length ≤ c1) (h : spec_l3ruleHolds.f k l0_0 l1 = some r) :
    Calls Try.prog 140 #[.agg #[.slice A0_0 l0_0.length c0_0], .slice A1 l1.length c1] w fun e w' => e = .returned (.bool r) ∧ Below w.heap.size w w' := by
  have hu131 := Try.underlying131
  have hu26 := Try.underlying26
  have HR0_0 := Aside0.mk hr0_0
  have HC0_0 := Aside0.mk hc0_0
  clear hr0_0 hc0_0
  have HR1 := Aside0.mk hr1
  have HC1 := Aside0.mk hc1
  clear hr1 hc1
  have HB := Aside0.mk (Below.refl w.heap.size w)
  have H : (spec_l3ruleHolds.l0 k l1 0 l0_0) = some r := h
  clear h
  have H' := Aside0.mk H
  clear H
  go_enter Try.func140, Try.ntmps140
  go_wp2_with (first | ((with_reducible refine gate_dst (N := 2) rfl ?_); refine box_event ?hg (N := 2) ?hd (cs := #[.slice A0_0 l0_0.length c0_0]) (t := 131) ?hr ?_; (case hd => rfl); (case hg => rfl); (case hr => first | (go_simp; done) | (go_simp; rfl)); intro gb897 hg w3 hbox hb; have n0_ := Aside0.mk (below_step (by repeat (first | (with_reducible first | exact HB.out | apply below_alloc | apply pw_below_drewN | apply below_drew1) | exact HB.out)) hb); have n1_ := Aside0.mk (hbox); have n2_ := Aside0.mk ((by rw [hg]; exact (below_size (by repeat (first | (with_reducible first | exact HB.out | apply below_alloc | apply pw_below_drewN | apply below_drew1) | exact HB.out))) : w.heap.size ≤ gb897)); have n3_ := Aside0.mk ((by rw [hg]; exact (below_size (by repeat (first | (with_reducible first | exact HB.out | apply below_alloc | apply pw_below_drewN | apply below_drew1) | exact HB.out))) : w.heap.size ≤ gb897)); clear HB; have HB := n0_; have BK897 := n1_; have GW897 := n2_; have GE897 := n3_; clear n0_ n1_ n2_ n3_; clear hb hbox hg))
  go_loopg [5] k (fun kq v5 w' => ∃ (x5_1 : Int), v5 = .int .i64 x5_1 ∧ Aside0 (spec_l3ruleHolds.l0 kq l1 x5_1 l0_0 = some r) ∧ Aside0 (kq ≤ k) ∧ Aside0 (w'.heap[gb897]? = some (.cells #[(.slice A0_0 l0_0.length c0_0)] 131 (0, 0))) ∧ Aside0 (Below w.heap.size w w'))
  case atStart => exact ⟨(0), (by first | rfl | (simp; done) | (simp [*]; done)), H', ⟨Nat.le_refl _⟩, ⟨by (with_reducible repeat (first | refine blk_drewN ?_ _ | refine blk_drew ?_ | refine blk_alloc ?_ _)); exact BK897.out⟩, ⟨by repeat (first | (with_reducible first | exact HB.out | apply below_alloc | apply pw_below_drewN | apply below_drew1 | refine below_set ?_ GE897.out) | exact HB.out)⟩⟩
  case round =>
    clear H'
    try clear c1
    try clear p2
    obtain ⟨x5_1, rfl, HA, HK1, BK897, HB⟩ := hrel
    cases gk with
    | zero => exact absurd HA.out (by simp [spec_l3ruleHolds.l0])
    | succ k1 =>
      have H := HA.out
      clear HA
      simp only [spec_l3ruleHolds.l0] at H
      by_cases c4 : x5_1 < 6
      · rw [if_pos c4] at H
        have c4b0 : decide (x5_1 < 6) = true := decide_eq_true c4
        clear c4
        by_cases c5 : 0 ≤ x5_1
        · rw [if_pos c5] at H
          have c5b0 : decide (0 ≤ x5_1) = true := decide_eq_true c5
          clear c5
          by_cases c6 : x5_1 < (l0_0.length : Int)
          · rw [if_pos c6] at H
            have c6b0 : decide (x5_1 < (l0_0.length : Int)) = true := decide_eq_true c6
            clear c6
            by_cases c7 : x5_1 < (l1.length : Int)
            · rw [if_pos c7] at H
              have c7b0 : decide (x5_1 < (l1.length : Int)) = true := decide_eq_true c7
              clear c7
              replace H := Option.bind_eq_some_iff.mp H
              obtain ⟨t900, A80, H⟩ := H
              replace H : (if t900 = true then (spec_l3ruleHolds.l0 k1 l1 (wrap64 (x5_1 + 1)) l0_0) else (some false)) = some r := H
              have A8 := Aside0.mk A80
              clear A80
              by_cases c9 : t900 = true
              · subst c9
                have H1 : (spec_l3ruleHolds.l0 k1 l1 (wrap64 (x5_1 + 1)) l0_0) = some r := by rw [if_pos rfl] at H; exact H
                clear H
                have H := H1
                clear H1
                have H' := Aside0.mk H
                clear H
                try go_wp2
                have n0_ := Aside0.mk (blk_drew BK897.out)
                have n1_ := Aside0.mk (below_drew1 HB.out)
                clear BK897
                clear HB
                have BK897 := n0_
                have HB := n1_
                clear n0_ n1_
                have p898 : 0 ≤ (x5_1 : Int) := of_decide_eq_true (by first | (with_reducible assumption) | assumption)
                have q898 : x5_1 < (l0_0.length : Int) := of_decide_eq_true (by first | (with_reducible assumption) | assumption)
                obtain ⟨ad898, e898, hx898_0, hx898_1, hx898_2⟩ := at_T26 HR0_0.out x5_1 p898 q898
                have hw898_2 := hx898_2
                have hw898_1 := hx898_1
                have hw898_0 := hx898_0
                cases e898
                replace hx898_0 := (HB.out.cell (World.block_lt_of_cell? w _ hx898_0)).trans hx898_0
                replace hx898_1 := (HB.out.cell (World.block_lt_of_cell? w _ hx898_1)).trans hx898_1
                replace hx898_2 := (HB.out.cell (World.block_lt_of_cell? w _ hx898_2)).trans hx898_2
                replace p898 := eq_true p898
                replace q898 := eq_true q898
                have p899 : 0 ≤ (x5_1 : Int) := of_decide_eq_true (by first | (with_reducible assumption) | assumption)
                have q899 : x5_1 < (l1.length : Int) := of_decide_eq_true (by first | (with_reducible assumption) | assumption)
                obtain ⟨ad899, e899, hx899_0⟩ := Kd.at_int HR1.out x5_1 p899 q899
                have hw899_0 := hx899_0
                cases e899
                replace hx899_0 := (HB.out.cell (World.block_lt_of_cell? w _ hx899_0)).trans hx899_0
                replace p899 := eq_true p899
                replace q899 := eq_true q899
                refine start_ (n := 11) (S := fun w' => w'.cell? ⟨gb897, 0, none⟩ = some (.slice (some ad898) l0_0.length c0_0) ∧ w'.cell? (ad898.add ((x5_1).toNat * 3)) = some (.int .i64 ((rd_T26 l0_0 x5_1).f0)) ∧ w'.cell? ⟨(ad898.add ((x5_1).toNat * 3)).block, (ad898.add ((x5_1).toNat * 3)).off + 1, none⟩ = some (.int .u64 ((rd_T26 l0_0 x5_1).f1)) ∧ w'.cell? ⟨(ad898.add ((x5_1).toNat * 3)).block, (ad898.add ((x5_1).toNat * 3)).off + 2, none⟩ = some (.int .u64 ((rd_T26 l0_0 x5_1).f2)) ∧ w'.cell? (ad899.add (x5_1).toNat) = some (.int .u64 (rd l1 x5_1))) (ds := []) #[false, false, false, false, false, false, false, false, false, false, false] (by kernel_rfl) rfl rfl ⟨(blk_cell BK897.out 0).trans rfl, ((HB.out.cell (World.block_lt_of_cell? w _ hw898_0)).trans hw898_0), ((HB.out.cell (World.block_lt_of_cell? w _ hw898_1)).trans hw898_1), ((HB.out.cell (World.block_lt_of_cell? w _ hw898_2)).trans hw898_2), ((HB.out.cell (World.block_lt_of_cell? w _ hw899_0)).trans hw899_0)⟩ (fun hHeld => ?_); refine with_tabW spec_l3ruleHolds.tab4 spec_l3ruleHolds.bits4 (fun HT_ HW_ => ?_)
                generalize wr.drew = w10 at BK897 HB hx898_0 hx898_1 hx898_2 hx899_0 hHeld ⊢
                refine pure_ (i := 0) (N := some 10) (v := ?_) (a' := ?_) #[true, false, false, false, false, false, false, false, false, false, false] rfl rfl (any_of HT_.out (by kernel_rfl)) (fun _ _ _ h => h) (Or.inl ⟨by rfl, ?_⟩) ?_ ?_
                rotate_left
                · intro w'
                  go_simp
                  with_reducible rfl
                rotate_left
                · simp only [Act.put, List.setIfInBounds_toArray, List.set_cons_zero, List.set_cons_succ, i64_w, i32_w]
                  rfl
                refine pure_ (i := 2) (N := some 12) (v := ?_) (a' := ?_) #[true, false, true, false, false, false, false, false, false, false, false] rfl rfl (any_of HT_.out (by kernel_rfl)) (fun _ _ _ h => h) (Or.inl ⟨by rfl, ?_⟩) ?_ ?_
                rotate_left
                · intro w'
                  go_simp
                  with_reducible rfl
                rotate_left
                · simp only [Act.put, List.setIfInBounds_toArray, List.set_cons_zero, List.set_cons_succ, i64_w, i32_w]
                  rfl
                refine pure_ (i := 5) (N := some 15) (v := ?_) (a' := ?_) #[true, false, true, false, false, true, false, false, false, false, false] rfl rfl (any_of HT_.out (by kernel_rfl)) (fun _ _ _ h => h) (Or.inl ⟨by rfl, ?_⟩) ?_ ?_
                rotate_left
                · intro w'
                  go_simp
                  with_reducible rfl
                rotate_left
                · simp only [Act.put, List.setIfInBounds_toArray, List.set_cons_zero, List.set_cons_succ, i64_w, i32_w]
                  rfl
                refine pure_ (i := 6) (N := some 16) (v := ?_) (a' := ?_) #[true, false, true, false, false, true, true, false, false, false, false] rfl rfl (any_of HT_.out (by kernel_rfl)) (fun _ _ _ h => h) (Or.inl ⟨by rfl, ?_⟩) ?_ ?_
                rotate_left
                · intro w'
                  go_simp
                  with_reducible rfl
                rotate_left
                · simp only [Act.put, List.setIfInBounds_toArray, List.set_cons_zero, List.set_cons_succ, i64_w, i32_w]
                  rfl
                refine pure_ (i := 7) (N := some 17) (v := ?_) (a' := ?_) #[true, false, true, false, false, true, true, true, false, false, false] rfl rfl (any_of HT_.out (by kernel_rfl)) (fun _ _ _ h => h) (Or.inl ⟨by rfl, ?_⟩) ?_ ?_
                rotate_left
                · intro w'
                  go_simp
                  with_reducible rfl
                rotate_left
                · simp only [Act.put, List.setIfInBounds_toArray, List.set_cons_zero, List.set_cons_succ, i64_w, i32_w]
                  rfl
                refine take_ (i := 1) (N := some 11) (v := ?_) (a' := ?_) #[true, true, true, false, false, true, true, true, false, false, false] rfl rfl (take_ofW HT_.out HW_.out (by kernel_rfl)) (fun _ _ _ h => h) (Or.inl ⟨by rfl, ?_⟩) hHeld ?_ ?_
                rotate_left
                · rintro w' ⟨s0, s1, s2, s3, s4⟩
                  go_simp
                  with_reducible rfl
                rotate_left
                · simp only [Act.put, List.setIfInBounds_toArray, List.set_cons_zero, List.set_cons_succ, i64_w, i32_w]
                  rfl
                refine pure_ (i := 3) (N := some 13) (v := ?_) (a' := ?_) #[true, true, true, true, false, true, true, true, false, false, false] rfl rfl (any_of HT_.out (by kernel_rfl)) (fun _ _ _ h => h) (Or.inl ⟨by rfl, ?_⟩) ?_ ?_
                rotate_left
                · intro w'
                  go_simp
                  with_reducible rfl
                rotate_left
                · simp only [Act.put, List.setIfInBounds_toArray, List.set_cons_zero, List.set_cons_succ, i64_w, i32_w]
                  rfl
                refine take_ (i := 4) (N := some 14) (v := ?_) (a' := ?_) #[true, true, true, true, true, true, true, true, false, false, false] rfl rfl (take_ofW HT_.out HW_.out (by kernel_rfl)) (fun _ _ _ h => h) (Or.inl ⟨by rfl, ?_⟩) hHeld ?_ ?_
                rotate_left
                · rintro w' ⟨s0, s1, s2, s3, s4⟩
                  go_simp
                  with_reducible rfl
                rotate_left
                · simp only [Act.put, List.setIfInBounds_toArray, List.set_cons_zero, List.set_cons_succ, i64_w, i32_w]
                  rfl
                refine take_ (i := 8) (N := some 18) (v := ?_) (a' := ?_) #[true, true, true, true, true, true, true, true, true, false, false] rfl rfl (take_ofW HT_.out HW_.out (by kernel_rfl)) (fun _ _ _ h => h) (Or.inl ⟨by rfl, ?_⟩) hHeld ?_ ?_
                rotate_left
                · rintro w' ⟨s0, s1, s2, s3, s4⟩
                  go_simp
                  with_reducible rfl
                rotate_left
                · simp only [Act.put, List.setIfInBounds_toArray, List.set_cons_zero, List.set_cons_succ, i64_w, i32_w]
                  rfl
                refine one_ (i := 9) (N := some 19) #[true, true, true, true, true, true, true, true, true, true, false] rfl rfl (one_of HT_.out (by kernel_rfl)) (by decide) (fun K hK => ?_)
                refine goes_ Try.func143 (by kernel_rfl) rfl #[.agg #[.int .i64 ((rd_T26 l0_0 x5_1).f0), .int .u64 ((rd_T26 l0_0 x5_1).f1), .int .u64 ((rd_T26 l0_0 x5_1).f2)], .int .u64 (rd l1 x5_1)] (by rfl) rfl rfl (by (try simp only [List.map_toArray, List.map_cons, List.map_nil]); first | done | rfl | (simp only [List.length_drop, List.length_take]; rfl)) ?_
                with_reducible refine (spec_l3holds.calls ((rd_T26 l0_0 x5_1).f0) ((rd_T26 l0_0 x5_1).f1) ((rd_T26 l0_0 x5_1).f2) (rd l1 x5_1) true _ A8.out).mono ?_
                rintro e w11 ⟨rfl, hb⟩
                refine ⟨_, rfl, ?_⟩
                have n0_ := Aside0.mk (blk_below (g := gb897) (o := .cells #[.slice (some ad898) l0_0.length c0_0] 131 (0, 0)) (by (with_reducible repeat (first | refine blk_drewN ?_ _ | refine blk_drew ?_ | refine blk_alloc ?_ _)); exact BK897.out) hb)
                have n1_ := Aside0.mk (below_step (by repeat (first | (with_reducible first | exact HB.out | apply below_alloc | apply pw_below_drewN | apply below_drew1 | refine below_set ?_ GE897.out) | exact HB.out)) hb)
                clear BK897
                clear HB
                have BK897 := n0_
                have HB := n1_
                clear n0_ n1_
                (try clear hb)
                (try clear hb2)
                (try clear hk)
                (try clear hi)
                refine hK.out _ _ ⟨(blk_cell BK897.out 0).trans rfl, ((HB.out.cell (World.block_lt_of_cell? w _ hw898_0)).trans hw898_0), ((HB.out.cell (World.block_lt_of_cell? w _ hw898_1)).trans hw898_1), ((HB.out.cell (World.block_lt_of_cell? w _ hw898_2)).trans hw898_2), ((HB.out.cell (World.block_lt_of_cell? w _ hw899_0)).trans hw899_0)⟩ (fun hHeld => ?_)
                clear hK K
                refine norm_ (a' := ?_) ?_ ?_
                rotate_left
                · show Act.put _ (some 19) _ = _
                  simp only [Act.put, List.setIfInBounds_toArray, List.set_cons_zero, List.set_cons_succ, i64_w, i32_w]
                  rfl
                refine pure_ (i := 10) (N := some 20) (v := ?_) (a' := ?_) #[true, true, true, true, true, true, true, true, true, true, true] rfl rfl (any_of HT_.out (by kernel_rfl)) (fun _ _ _ h => h) (Or.inl ⟨by rfl, ?_⟩) ?_ ?_
                rotate_left
                · intro w'
                  go_simp
                  with_reducible rfl
                rotate_left
                · simp only [Act.put, List.setIfInBounds_toArray, List.set_cons_zero, List.set_cons_succ, i64_w, i32_w]
                  rfl
                refine done_ (done_of HT_.out (by kernel_rfl)) ?_
                try go_wp2
                go_roundg k1
                case measure => have := HK1.out; omega
                case rel => exact ⟨(wrap64 (x5_1 + 1)), (by first | rfl | (simp; done) | (simp [*]; done)), H', ⟨by have := HK1.out; omega⟩, ⟨by (with_reducible repeat (first | refine blk_drewN ?_ _ | refine blk_drew ?_ | refine blk_alloc ?_ _)); exact BK897.out⟩, ⟨by repeat (first | (with_reducible first | exact HB.out | apply below_alloc | apply pw_below_drewN | apply below_drew1 | refine below_set ?_ GE897.out) | exact HB.out)⟩⟩
              · replace c9 := Bool.eq_false_iff.mpr c9
                subst c9
                have H1 : (some false) = some r := by rw [if_neg (show ¬ (false = true) by decide)] at H; exact H
                clear H
                have H := H1
                clear H1
                obtain rfl := Option.some.inj H
                try go_wp2
                have n0_ := Aside0.mk (blk_drew BK897.out)
                have n1_ := Aside0.mk (below_drew1 HB.out)
                clear BK897
                clear HB
                have BK897 := n0_
                have HB := n1_
                clear n0_ n1_
                have p898 : 0 ≤ (x5_1 : Int) := of_decide_eq_true (by first | (with_reducible assumption) | assumption)
                have q898 : x5_1 < (l0_0.length : Int) := of_decide_eq_true (by first | (with_reducible assumption) | assumption)
                obtain ⟨ad898, e898, hx898_0, hx898_1, hx898_2⟩ := at_T26 HR0_0.out x5_1 p898 q898
                have hw898_2 := hx898_2
                have hw898_1 := hx898_1
                have hw898_0 := hx898_0
                cases e898
                replace hx898_0 := (HB.out.cell (World.block_lt_of_cell? w _ hx898_0)).trans hx898_0
                replace hx898_1 := (HB.out.cell (World.block_lt_of_cell? w _ hx898_1)).trans hx898_1
                replace hx898_2 := (HB.out.cell (World.block_lt_of_cell? w _ hx898_2)).trans hx898_2
                replace p898 := eq_true p898
                replace q898 := eq_true q898
                have p899 : 0 ≤ (x5_1 : Int) := of_decide_eq_true (by first | (with_reducible assumption) | assumption)
                have q899 : x5_1 < (l1.length : Int) := of_decide_eq_true (by first | (with_reducible assumption) | assumption)
                obtain ⟨ad899, e899, hx899_0⟩ := Kd.at_int HR1.out x5_1 p899 q899
                have hw899_0 := hx899_0
                cases e899
                replace hx899_0 := (HB.out.cell (World.block_lt_of_cell? w _ hx899_0)).trans hx899_0
                replace p899 := eq_true p899
                replace q899 := eq_true q899
                refine start_ (n := 11) (S := fun w' => w'.cell? ⟨gb897, 0, none⟩ = some (.slice (some ad898) l0_0.length c0_0) ∧ w'.cell? (ad898.add ((x5_1).toNat * 3)) = some (.int .i64 ((rd_T26 l0_0 x5_1).f0)) ∧ w'.cell? ⟨(ad898.add ((x5_1).toNat * 3)).block, (ad898.add ((x5_1).toNat * 3)).off + 1, none⟩ = some (.int .u64 ((rd_T26 l0_0 x5_1).f1)) ∧ w'.cell? ⟨(ad898.add ((x5_1).toNat * 3)).block, (ad898.add ((x5_1).toNat * 3)).off + 2, none⟩ = some (.int .u64 ((rd_T26 l0_0 x5_1).f2)) ∧ w'.cell? (ad899.add (x5_1).toNat) = some (.int .u64 (rd l1 x5_1))) (ds := []) #[false, false, false, false, false, false, false, false, false, false, false] (by kernel_rfl) rfl rfl ⟨(blk_cell BK897.out 0).trans rfl, ((HB.out.cell (World.block_lt_of_cell? w _ hw898_0)).trans hw898_0), ((HB.out.cell (World.block_lt_of_cell? w _ hw898_1)).trans hw898_1), ((HB.out.cell (World.block_lt_of_cell? w _ hw898_2)).trans hw898_2), ((HB.out.cell (World.block_lt_of_cell? w _ hw899_0)).trans hw899_0)⟩ (fun hHeld => ?_); refine with_tabW spec_l3ruleHolds.tab4 spec_l3ruleHolds.bits4 (fun HT_ HW_ => ?_)
                generalize wr.drew = w12 at BK897 HB hx898_0 hx898_1 hx898_2 hx899_0 hHeld ⊢
                refine pure_ (i := 0) (N := some 10) (v := ?_) (a' := ?_) #[true, false, false, false, false, false, false, false, false, false, false] rfl rfl (any_of HT_.out (by kernel_rfl)) (fun _ _ _ h => h) (Or.inl ⟨by rfl, ?_⟩) ?_ ?_
                rotate_left
                · intro w'
                  go_simp
                  with_reducible rfl
                rotate_left
                · simp only [Act.put, List.setIfInBounds_toArray, List.set_cons_zero, List.set_cons_succ, i64_w, i32_w]
                  rfl
                refine pure_ (i := 2) (N := some 12) (v := ?_) (a' := ?_) #[true, false, true, false, false, false, false, false, false, false, false] rfl rfl (any_of HT_.out (by kernel_rfl)) (fun _ _ _ h => h) (Or.inl ⟨by rfl, ?_⟩) ?_ ?_
                rotate_left
                · intro w'
                  go_simp
                  with_reducible rfl
                rotate_left
                · simp only [Act.put, List.setIfInBounds_toArray, List.set_cons_zero, List.set_cons_succ, i64_w, i32_w]
                  rfl
                refine pure_ (i := 5) (N := some 15) (v := ?_) (a' := ?_) #[true, false, true, false, false, true, false, false, false, false, false] rfl rfl (any_of HT_.out (by kernel_rfl)) (fun _ _ _ h => h) (Or.inl ⟨by rfl, ?_⟩) ?_ ?_
                rotate_left
                · intro w'
                  go_simp
                  with_reducible rfl
                rotate_left
                · simp only [Act.put, List.setIfInBounds_toArray, List.set_cons_zero, List.set_cons_succ, i64_w, i32_w]
                  rfl
                refine pure_ (i := 6) (N := some 16) (v := ?_) (a' := ?_) #[true, false, true, false, false, true, true, false, false, false, false] rfl rfl (any_of HT_.out (by kernel_rfl)) (fun _ _ _ h => h) (Or.inl ⟨by rfl, ?_⟩) ?_ ?_
                rotate_left
                · intro w'
                  go_simp
                  with_reducible rfl
                rotate_left
                · simp only [Act.put, List.setIfInBounds_toArray, List.set_cons_zero, List.set_cons_succ, i64_w, i32_w]
                  rfl
                refine pure_ (i := 7) (N := some 17) (v := ?_) (a' := ?_) #[true, false, true, false, false, true, true, true, false, false, false] rfl rfl (any_of HT_.out (by kernel_rfl)) (fun _ _ _ h => h) (Or.inl ⟨by rfl, ?_⟩) ?_ ?_
                rotate_left
                · intro w'
                  go_simp
                  with_reducible rfl
                rotate_left
                · simp only [Act.put, List.setIfInBounds_toArray, List.set_cons_zero, List.set_cons_succ, i64_w, i32_w]
                  rfl
                refine take_ (i := 1) (N := some 11) (v := ?_) (a' := ?_) #[true, true, true, false, false, true, true, true, false, false, false] rfl rfl (take_ofW HT_.out HW_.out (by kernel_rfl)) (fun _ _ _ h => h) (Or.inl ⟨by rfl, ?_⟩) hHeld ?_ ?_
                rotate_left
                · rintro w' ⟨s0, s1, s2, s3, s4⟩
                  go_simp
                  with_reducible rfl
                rotate_left
                · simp only [Act.put, List.setIfInBounds_toArray, List.set_cons_zero, List.set_cons_succ, i64_w, i32_w]
                  rfl
                refine pure_ (i := 3) (N := some 13) (v := ?_) (a' := ?_) #[true, true, true, true, false, true, true, true, false, false, false] rfl rfl (any_of HT_.out (by kernel_rfl)) (fun _ _ _ h => h) (Or.inl ⟨by rfl, ?_⟩) ?_ ?_
                rotate_left
                · intro w'
                  go_simp
                  with_reducible rfl
                rotate_left
                · simp only [Act.put, List.setIfInBounds_toArray, List.set_cons_zero, List.set_cons_succ, i64_w, i32_w]
                  rfl
                refine take_ (i := 4) (N := some 14) (v := ?_) (a' := ?_) #[true, true, true, true, true, true, true, true, false, false, false] rfl rfl (take_ofW HT_.out HW_.out (by kernel_rfl)) (fun _ _ _ h => h) (Or.inl ⟨by rfl, ?_⟩) hHeld ?_ ?_
                rotate_left
                · rintro w' ⟨s0, s1, s2, s3, s4⟩
                  go_simp
                  with_reducible rfl
                rotate_left
                · simp only [Act.put, List.setIfInBounds_toArray, List.set_cons_zero, List.set_cons_succ, i64_w, i32_w]
                  rfl
                refine take_ (i := 8) (N := some 18) (v := ?_) (a' := ?_) #[true, true, true, true, true, true, true, true, true, false, false] rfl rfl (take_ofW HT_.out HW_.out (by kernel_rfl)) (fun _ _ _ h => h) (Or.inl ⟨by rfl, ?_⟩) hHeld ?_ ?_
                rotate_left
                · rintro w' ⟨s0, s1, s2, s3, s4⟩
                  go_simp
                  with_reducible rfl
                rotate_left
                · simp only [Act.put, List.setIfInBounds_toArray, List.set_cons_zero, List.set_cons_succ, i64_w, i32_w]
                  rfl
                refine one_ (i := 9) (N := some 19) #[true, true, true, true, true, true, true, true, true, true, false] rfl rfl (one_of HT_.out (by kernel_rfl)) (by decide) (fun K hK => ?_)
                refine goes_ Try.func143 (by kernel_rfl) rfl #[.agg #[.int .i64 ((rd_T26 l0_0 x5_1).f0), .int .u64 ((rd_T26 l0_0 x5_1).f1), .int .u64 ((rd_T26 l0_0 x5_1).f2)], .int .u64 (rd l1 x5_1)] (by rfl) rfl rfl (by (try simp only [List.map_toArray, List.map_cons, List.map_nil]); first | done | rfl | (simp only [List.length_drop, List.length_take]; rfl)) ?_
                with_reducible refine (spec_l3holds.calls ((rd_T26 l0_0 x5_1).f0) ((rd_T26 l0_0 x5_1).f1) ((rd_T26 l0_0 x5_1).f2) (rd l1 x5_1) false _ A8.out).mono ?_
                rintro e w13 ⟨rfl, hb⟩
                refine ⟨_, rfl, ?_⟩
                have n0_ := Aside0.mk (blk_below (g := gb897) (o := .cells #[.slice (some ad898) l0_0.length c0_0] 131 (0, 0)) (by (with_reducible repeat (first | refine blk_drewN ?_ _ | refine blk_drew ?_ | refine blk_alloc ?_ _)); exact BK897.out) hb)
                have n1_ := Aside0.mk (below_step (by repeat (first | (with_reducible first | exact HB.out | apply below_alloc | apply pw_below_drewN | apply below_drew1 | refine below_set ?_ GE897.out) | exact HB.out)) hb)
                clear BK897
                clear HB
                have BK897 := n0_
                have HB := n1_
                clear n0_ n1_
                (try clear hb)
                (try clear hb2)
                (try clear hk)
                (try clear hi)
                refine hK.out _ _ ⟨(blk_cell BK897.out 0).trans rfl, ((HB.out.cell (World.block_lt_of_cell? w _ hw898_0)).trans hw898_0), ((HB.out.cell (World.block_lt_of_cell? w _ hw898_1)).trans hw898_1), ((HB.out.cell (World.block_lt_of_cell? w _ hw898_2)).trans hw898_2), ((HB.out.cell (World.block_lt_of_cell? w _ hw899_0)).trans hw899_0)⟩ (fun hHeld => ?_)
                clear hK K
                refine norm_ (a' := ?_) ?_ ?_
                rotate_left
                · show Act.put _ (some 19) _ = _
                  simp only [Act.put, List.setIfInBounds_toArray, List.set_cons_zero, List.set_cons_succ, i64_w, i32_w]
                  rfl
                refine pure_ (i := 10) (N := some 20) (v := ?_) (a' := ?_) #[true, true, true, true, true, true, true, true, true, true, true] rfl rfl (any_of HT_.out (by kernel_rfl)) (fun _ _ _ h => h) (Or.inl ⟨by rfl, ?_⟩) ?_ ?_
                rotate_left
                · intro w'
                  go_simp
                  with_reducible rfl
                rotate_left
                · simp only [Act.put, List.setIfInBounds_toArray, List.set_cons_zero, List.set_cons_succ, i64_w, i32_w]
                  rfl
                refine done_ (done_of HT_.out (by kernel_rfl)) ?_
                try go_wp2
                go_ret
                exact ⟨by first | rfl | (simp [errW_none, errW_some] <;> rfl) | (simp [*, errW_none, errW_some] <;> rfl), by repeat (first | (with_reducible first | exact HB.out | apply below_alloc | apply pw_below_drewN | apply below_drew1 | refine below_set ?_ GE897.out) | exact HB.out)⟩
            · rw [if_neg c7] at H
              exact absurd H (by simp)
          · rw [if_neg c6] at H
            exact absurd H (by simp)
        · rw [if_neg c5] at H
          exact absurd H (by simp)
      · rw [if_neg c4] at H
        have c4b0 : decide (x5_1 < 6) = false := decide_eq_false c4
        clear c4
        obtain rfl := Option.some.inj H
        go_wp2
        go_ret
        exact ⟨by first | rfl | (simp [errW_none, errW_some] <;> rfl) | (simp [*, errW_none, errW_some] <;> rfl), by repeat (first | (with_reducible first | exact HB.out | apply below_alloc | apply pw_below_drewN | apply below_drew1 | refine below_set ?_ GE897.out) | exact HB.out)⟩

end Go.Proofs.Ytdipinclchkhjaa.P
