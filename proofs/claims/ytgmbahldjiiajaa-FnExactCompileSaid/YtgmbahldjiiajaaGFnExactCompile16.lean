import Derived.Test.YtgmbahldjiiajaaGFnExactCompile12
import Derived.Test.YtgmbahldjiiajaaGFnExactCompile14
import Derived.Test.YtgmbahldjiiajaaGFnExactCompile15
import Derived.Test.YtgmbahldjiiajaaGFnExactCompile4
namespace Go.Proofs.Ytgmbahldjiiajaa.P
open Go.RowKit Go.Proofs.YtgmbahldjiiajaaW.PrintWords Go.Proofs.YtgmbahldjiiajaaW.PrintLast Go.Proofs.YtgmbahldjiiajaaW.PrintMore
set_option linter.unusedVariables false
set_option linter.unusedSimpArgs false
def conU (c : S95) : Prop := (0 ≤ c.f1 ∧ c.f1 < 18446744073709551616) ∧ (0 ≤ c.f2 ∧ c.f2 < 18446744073709551616)
def polU (p : List S61) : Prop := ∀ e ∈ p, ∀ r ∈ e.f2, ∀ c ∈ r.f0, conU c
theorem conOK_is (c : S95) (h : conU c) : spec_l3conOK.f c.f0 c.f1 c.f2 = some (conOKr c) := by
 obtain ⟨⟨a0, a1⟩, b0, b1⟩ := h
 obtain ⟨a, ha⟩ := Int.eq_ofNat_of_zero_le a0
 obtain ⟨b, hb⟩ := Int.eq_ofNat_of_zero_le b0
 unfold conOKr
 rw [ha] at a1 ⊢
 rw [hb] at b1 ⊢
 exact l3conOK_is c.f0 a b (by omega) (by omega)
theorem ruleOK_iff (r : S65) : ruleOKr r = true ↔ r.f0.length = 6 ∧ ∀ c ∈ r.f0, conOKr c = true := by
 unfold ruleOKr
 rw [Bool.and_eq_true, decide_eq_true_eq, Bool.not_eq_true', List.any_eq_false]
 refine and_congr_right fun _ => ⟨fun h c hc => ?_, fun h c hc => ?_⟩
 ·have := h c hc
  simpa using this
 ·rw [h c hc]; decide
theorem l3ruleOK_ev (l : List S95) (h : ∀ c ∈ l, conU c) : Ev (fun k => Zbu.f k l) (ruleOKr ⟨l⟩) := by
 unfold Zbu.f
 by_cases h6 : l.length = 6
 ·have key : ∀ d i : Nat, i + d = 6 → (∀ c ∈ l.take i, conOKr c = true) → Ev (fun k => Zbu.l0 k (i : Int) l) (ruleOKr ⟨l⟩) := by
   intro d
   induction d with
   | zero =>
    intro i hi ht
    rw [List.take_of_length_le (by omega)] at ht
    rw [(ruleOK_iff ⟨l⟩).2 ⟨h6, ht⟩]
    exact ev_end fun k => by simp only [Zbu.l0]; rw [if_neg (by omega)]
   | succ d ih =>
    intro i hi ht
    have hil : i < l.length := by omega
    have hc := conOK_is l[i] (h _ (List.getElem_mem hil))
    by_cases ho : conOKr l[i] = true
    ·rw [ho] at hc
     refine Zbe _ (fun k => ?_) (ih (i + 1) (by omega) (by
      rw [← List.take_append_getElem hil]
      intro x hx
      rcases List.mem_append.1 hx with hx | hx
      ·exact ht x hx
      ·rw [List.mem_singleton.1 hx]; exact ho))
     simp only [Zbu.l0]
     rw [if_pos (by omega), if_pos (by omega), if_pos (by omega), rdCI l i hil, hc, Option.bind_some, if_pos rfl, Zae (by omega) (by omega)]
     rfl
    ·have e : ruleOKr ⟨l⟩ = false := Bool.eq_false_iff.2 fun hr => ho (((ruleOK_iff ⟨l⟩).1 hr).2 _ (List.getElem_mem hil))
     rw [Bool.eq_false_iff.2 ho] at hc
     rw [e]
     exact ev_end fun k => by
      simp only [Zbu.l0]
      rw [if_pos (by omega), if_pos (by omega), if_pos (by omega), rdCI l i hil, hc, Option.bind_some, if_neg (by decide)]
  refine Ev.congr (fun k => ?_) (key 6 0 (by omega) (by simp))
  rw [if_pos (by omega)]
  rfl
 ·have e : ruleOKr ⟨l⟩ = false := Bool.eq_false_iff.2 fun hr => h6 ((ruleOK_iff ⟨l⟩).1 hr).1
  rw [e]
  exact ev_is fun k => by rw [if_neg (by omega)]
def totL : List S61 → Nat
 | [] => 0
 | e :: l => e.f2.length + totL l
theorem l3rules_ev (p : List S61) (hl : p.length ≤ 1048576) (hm : ∀ e ∈ p, e.f2.length ≤ 1048576) : Ev (fun k => Zcg.f k p) ((totL p : Nat) : Int) := by
 have key : ∀ (d i T : Nat), i + d = p.length → T + 1048576 * d ≤ 2000000000000 → Ev (fun k => Zcg.l0 k (T : Int) (i : Int) p) ((T + totL (p.drop i) : Nat) : Int) := by
  intro d
  induction d with
  | zero =>
   intro i T hi hT
   rw [List.drop_eq_nil_of_le (by omega)]
   exact ev_end fun k => by simp only [Zcg.l0]; rw [if_neg (by omega)]; rfl
  | succ d ih =>
   intro i T hi hT
   have hil : i < p.length := by omega
   have hmi := hm _ (List.getElem_mem hil)
   rw [List.drop_eq_getElem_cons hil, totL]
   have h := ih (i + 1) (T + p[i].f2.length) (by omega) (by omega)
   rw [Nat.add_assoc] at h
   refine Zbe _ (fun k => ?_) h
   simp only [Zcg.l0]
   rw [if_pos (by omega), if_pos (by omega), rdEI p i hil, Zae (i := (T : Int) + _) (by omega) (by omega), Zae (i := (i : Int) + 1) (by omega) (by omega)]
   rfl
 have h := key p.length 0 0 (by omega) (by omega)
 rw [List.drop_zero, Nat.zero_add] at h
 exact h
def ordP (d e : S61) : Prop := d.f0 < e.f0 ∨ (d.f0 = e.f0 ∧ d.f1 < e.f1)
def entP (p : List S61) (i : Nat) : Prop :=
 ∀ h : i < p.length, 1 ≤ p[i].f2.length ∧ p[i].f2.length ≤ 200 ∧ (∀ h0 : 0 < i, ordP (p[i - 1]'(by omega)) p[i]) ∧ ∀ r ∈ p[i].f2, ruleOKr r = true
theorem wrap_pred (i : Nat) (h0 : 0 < i) (h : i ≤ 1048576) : wrap64 ((i : Int) - 1) = ((i - 1 : Nat) : Int) := by rw [Zae (by omega) (by omega)]; omega
theorem specValid_ev (p : List S61) (hs : SmallEI p) (hu : polU p) : ∃ b : Bool, Ev (fun k => Zar.f k p) b ∧ (b = true ↔ (∀ i, entP p i) ∧ totL p ≤ 1000) := by
 obtain ⟨hl, hm⟩ := hs
 have hmt : ∀ e ∈ p, e.f2.length ≤ 1048576 := fun e he => (hm e he).1
 have rules : ∀ (x3 : Int) (a b : Int) (rs : List S65) (b' : Bool), SmallRI rs → (∀ r ∈ rs, ∀ c ∈ r.f0, conU c) → Ev (fun k => Zar.l0 k (wrap64 (x3 + 1)) p) b' →
   ∀ d j : Nat, j + d = rs.length → ∃ b'' : Bool, Ev (fun k => Zar.l1 k x3 (j : Int) p a b rs) b'' ∧ (b'' = true ↔ (∀ r ∈ rs.drop j, ruleOKr r = true) ∧ b' = true) := by
  intro x3 a b rs b' hrs hru hnext d
  induction d with
  | zero =>
   intro j hj
   refine ⟨b', Zbe _ (fun k => ?_) hnext, ?_⟩
   ·simp only [Zar.l1]; rw [if_neg (by omega)]
   ·rw [List.drop_eq_nil_of_le (by omega)]; simp
  | succ d ih =>
   intro j hj
   have hjl : j < rs.length := by omega
   have hrl := hrs.1
   obtain ⟨K, hK⟩ := ev_get (l3ruleOK_ev rs[j].f0 (hru _ (List.getElem_mem hjl)))
   obtain ⟨b2, h2, i2⟩ := ih (j + 1) (by omega)
   rw [List.drop_eq_getElem_cons hjl, List.forall_mem_cons]
   by_cases ho : ruleOKr rs[j] = true
   ·refine ⟨b2, ?_, i2.trans ⟨fun h => ⟨⟨ho, h.1⟩, h.2⟩, fun h => ⟨h.1.2, h.2⟩⟩⟩
    refine Zbe (fun k => (Zbu.f k rs[j].f0).bind fun t => if t = true then Zar.l1 k x3 ((j + 1 : Nat) : Int) p a b rs else some false) (fun k => ?_) (Ev.bind (l3ruleOK_ev rs[j].f0 (hru _ (List.getElem_mem hjl))) (Ev.congr (fun k => ?_) h2))
    ·simp only [Zar.l1]
     rw [if_pos (by omega), if_pos (by omega), rdRI rs j hjl, Zae (i := (j : Int) + 1) (by omega) (by omega)]
     rfl
    ·rw [if_pos ho]
   ·refine ⟨false, ?_, ⟨fun h => absurd h (by decide), fun h => absurd h.1.1 ho⟩⟩
    refine Zbe (fun k => (Zbu.f k rs[j].f0).bind fun t => if t = true then Zar.l1 k x3 ((j + 1 : Nat) : Int) p a b rs else some false) (fun k => ?_) (Ev.bind (l3ruleOK_ev rs[j].f0 (hru _ (List.getElem_mem hjl))) (ev_is fun k => ?_))
    ·simp only [Zar.l1]
     rw [if_pos (by omega), if_pos (by omega), rdRI rs j hjl, Zae (i := (j : Int) + 1) (by omega) (by omega)]
     rfl
    ·rw [if_neg ho]
 have key : ∀ d i : Nat, i + d = p.length → ∃ b : Bool, Ev (fun k => Zar.l0 k (i : Int) p) b ∧ (b = true ↔ (∀ j, i ≤ j → entP p j) ∧ totL p ≤ 1000) := by
  intro d
  induction d with
  | zero =>
   intro i hi
   refine ⟨decide (((totL p : Nat) : Int) ≤ 1000), ?_, ?_⟩
   ·refine Zbe (fun k => (Zcg.f k p).bind fun t => some (decide (t ≤ 1000))) (fun k => ?_) (Ev.bind (l3rules_ev p hl hmt) (ev_is fun _ => rfl))
    simp only [Zar.l0]; rw [if_neg (by omega)]
   ·rw [decide_eq_true_eq]
    exact ⟨fun h => ⟨fun j hj hjl => by omega, by omega⟩, fun h => by omega⟩
  | succ d ih =>
   intro i hi
   have hil : i < p.length := by omega
   obtain ⟨b', h', i'⟩ := ih (i + 1) (by omega)
   have hmi := hm _ (List.getElem_mem hil)
   have hnext : Ev (fun k => Zar.l0 k (wrap64 ((i : Int) + 1)) p) b' := by rw [Zae (by omega) (by omega)]; exact h'
   obtain ⟨b2, h2, i2⟩ := rules (i : Int) p[i].f0 p[i].f1 p[i].f2 b' hmi (hu _ (List.getElem_mem hil)) hnext p[i].f2.length 0 (by omega)
   rw [List.drop_zero] at i2
   have hj2 : Ev (fun k => Zar.j2 k (i : Int) p p[i].f0 p[i].f1 p[i].f2) b2 := Zbe _ (fun k => by simp only [Zar.j2]; rfl) h2
   have hfalse : ¬ entP p i → ∃ b : Bool, Ev (fun _ => some false) b ∧ (b = true ↔ (∀ j, i ≤ j → entP p j) ∧ totL p ≤ 1000) := fun hn => ⟨false, ev_is fun _ => rfl, ⟨fun h => absurd h (by decide), fun h => absurd (h.1 i (Nat.le_refl _)) hn⟩⟩
   have hall : entP p i → ((∀ j, i ≤ j → entP p j) ∧ totL p ≤ 1000 ↔ b' = true) := fun he => by
    rw [i']
    exact ⟨fun h => ⟨fun j hj => h.1 j (by omega), h.2⟩, fun h => ⟨fun j hj => by
     by_cases e : j = i
     ·subst e; exact he
     ·exact h.1 j (by omega), h.2⟩⟩
   have hj1 : ∃ b : Bool, Ev (fun k => Zar.j1 k (i : Int) (decide ((p[i].f2.length : Int) < 1 ∨ (p[i].f2.length : Int) > 200)) p p[i].f0 p[i].f1 p[i].f2) b ∧ (b = true ↔ (∀ j, i ≤ j → entP p j) ∧ totL p ≤ 1000) := by
    by_cases hlen : (p[i].f2.length : Int) < 1 ∨ (p[i].f2.length : Int) > 200
    ·obtain ⟨b, hb, ib⟩ := hfalse (fun he => by have := he hil; omega)
     exact ⟨b, Zbe _ (fun k => by simp only [Zar.j1]; rw [if_pos (by rw [decide_eq_true hlen])]) hb, ib⟩
    ·by_cases h0 : 0 < i
     ·have hpred := wrap_pred i h0 (by omega)
      have hrd := rdEI p (i - 1) (by omega)
      have hb : ∀ f : Nat → Option Bool, (∀ k, (if p[i - 1].f0 > p[i].f0 then some false else (if p[i - 1].f0 = p[i].f0 then (if p[i - 1].f1 ≥ p[i].f1 then some false else Zar.j2 k (i : Int) p p[i].f0 p[i].f1 p[i].f2) else Zar.j2 k (i : Int) p p[i].f0 p[i].f1 p[i].f2)) = f k) → ∀ b, Ev f b → Ev (fun k => Zar.j1 k (i : Int) (decide ((p[i].f2.length : Int) < 1 ∨ (p[i].f2.length : Int) > 200)) p p[i].f0 p[i].f1 p[i].f2) b := fun f hf b hb => Zbe _ (fun k => by
       simp only [Zar.j1]
       rw [if_neg (by rw [decide_eq_false hlen]; decide), if_pos (by omega), hpred, if_pos (by omega), if_pos (by omega), hrd]
       exact hf k) hb
      by_cases c1 : p[i - 1].f0 > p[i].f0
      ·obtain ⟨b, hb2, ib⟩ := hfalse (fun he => by rcases (he hil).2.2.1 h0 with h | h <;> omega)
       exact ⟨b, hb _ (fun k => by rw [if_pos c1]) b hb2, ib⟩
      ·by_cases c2 : p[i - 1].f0 = p[i].f0
       ·by_cases c3 : p[i - 1].f1 ≥ p[i].f1
        ·obtain ⟨b, hb2, ib⟩ := hfalse (fun he => by rcases (he hil).2.2.1 h0 with h | h <;> omega)
         exact ⟨b, hb _ (fun k => by rw [if_neg c1, if_pos c2, if_pos c3]) b hb2, ib⟩
        ·refine ⟨b2, hb _ (fun k => by rw [if_neg c1, if_pos c2, if_neg c3]) b2 hj2, i2.trans ⟨fun h => (hall fun _ => ⟨by omega, by omega, fun _ => .inr ⟨c2, by omega⟩, h.1⟩).2 h.2, fun h => ⟨(h.1 i (Nat.le_refl _) hil).2.2.2, (hall (h.1 i (Nat.le_refl _))).1 h⟩⟩⟩
       ·refine ⟨b2, hb _ (fun k => by rw [if_neg c1, if_neg c2]) b2 hj2, i2.trans ⟨fun h => (hall fun _ => ⟨by omega, by omega, fun _ => .inl (by omega), h.1⟩).2 h.2, fun h => ⟨(h.1 i (Nat.le_refl _) hil).2.2.2, (hall (h.1 i (Nat.le_refl _))).1 h⟩⟩⟩
     ·refine ⟨b2, Zbe _ (fun k => ?_) hj2, i2.trans ⟨fun h => (hall fun _ => ⟨by omega, by omega, fun g => absurd g h0, h.1⟩).2 h.2, fun h => ⟨(h.1 i (Nat.le_refl _) hil).2.2.2, (hall (h.1 i (Nat.le_refl _))).1 h⟩⟩⟩
      simp only [Zar.j1]
      rw [if_neg (by rw [decide_eq_false hlen]; decide), if_neg (by omega)]
   obtain ⟨b, hb, ib⟩ := hj1
   refine ⟨b, Zbe _ (fun k => ?_) hb, ib⟩
   simp only [Zar.l0]
   rw [if_pos (by omega), if_pos (by omega), rdEI p i hil]
   by_cases c : (p[i].f2.length : Int) < 1
   ·rw [if_pos c, decide_eq_true (Or.inl c)]
   ·rw [if_neg c]
    congr 1
    rw [decide_eq_decide]
    omega
 obtain ⟨b, hb, ib⟩ := key p.length 0 (by omega)
 exact ⟨b, hb, ib.trans ⟨fun h => ⟨fun i => h.1 i (Nat.zero_le _), h.2⟩, fun h => ⟨fun i _ => h.1 i, h.2⟩⟩⟩
theorem compare_is (a b : Int) : Zck.f a b = some (if a < b then -1 else if a > b then 1 else 0) := by
 unfold Zck.f Zce.f
 simp only [bne_self_eq_false, Option.bind_some, Bool.false_eq_true, if_false]
 split
 ·rfl
 ·split <;> rfl
theorem or_ev (a b : Int) : Ev (fun k => Zca.f k [a, b]) (if a = 0 then b else a) := by
 refine ev_mk 4 fun k hk => ?_
 obtain ⟨m, rfl⟩ : ∃ m, k = m + 1 + 1 + 1 := ⟨k - 3, by omega⟩
 unfold Zca.f
 have e1 : wrap64 (0 + 1) = 1 := Zae (by decide) (by decide)
 have e2 : wrap64 (1 + 1) = 2 := Zae (by decide) (by decide)
 have r0 : rd [a, b] 0 = a := rfl
 have r1 : rd [a, b] 1 = b := rfl
 simp only [Zca.l0, List.length_cons, List.length_nil, e1, e2, r0, r1]
 by_cases ha : a = 0
 ·by_cases hb : b = 0
  ·simp [ha, hb]
  ·simp [ha, hb]
 ·simp [ha]
theorem implValid_ev (p : List S61) (hs : SmallEI p) : ∃ b : Bool, Ev (fun k => Zaq.f k p) b ∧ (b = true ↔ (∀ i, entP p i) ∧ totL p ≤ 1000) := by
 obtain ⟨hl, hm⟩ := hs
 have key : ∀ d i T : Nat, i + d = p.length → T ≤ 1000 → ∃ b : Bool, Ev (fun k => Zaq.l0 k (T : Int) p (p.length : Int) (i : Int) p) b ∧ (b = true ↔ (∀ j, i ≤ j → entP p j) ∧ T + totL (p.drop i) ≤ 1000) := by
  intro d
  induction d with
  | zero =>
   intro i T hi hT
   refine ⟨true, ev_end fun k => by simp only [Zaq.l0]; rw [if_neg (by omega)], ?_⟩
   rw [List.drop_eq_nil_of_le (by omega)]
   exact ⟨fun _ => ⟨fun j hj hjl => by omega, by simp only [totL]; omega⟩, fun _ => rfl⟩
  | succ d ih =>
   intro i T hi hT
   have hil : i < p.length := by omega
   have hmi := hm _ (List.getElem_mem hil)
   have hml := hmi.1
   rw [List.drop_eq_getElem_cons hil, totL]
   have hfalse : (¬ entP p i ∨ ¬ T + p[i].f2.length ≤ 1000) → ∃ b : Bool, Ev (fun _ => some false) b ∧ (b = true ↔ (∀ j, i ≤ j → entP p j) ∧ T + (p[i].f2.length + totL (p.drop (i + 1))) ≤ 1000) := fun hn => ⟨false, ev_is fun _ => rfl, ⟨fun h => absurd h (by decide), fun h => by
    rcases hn with hn | hn
    ·exact absurd (h.1 i (Nat.le_refl _)) hn
    ·omega⟩⟩
   have hwT : wrap64 ((T : Int) + (p[i].f2.length : Int)) = ((T + p[i].f2.length : Nat) : Int) := by rw [Zae (by omega) (by omega)]; omega
   have hcon : Zcn.f p[i].f2 = some (p[i].f2.any fun c => !ruleOKr c) := by
    unfold Zcn.f
    exact if_pos ⟨by omega, fun x hx => by have := hmi.2 x hx; omega⟩
   have hj1 : (∀ h0 : 0 < i, ordP (p[i - 1]'(by omega)) p[i]) → ∃ b : Bool, Ev (fun k => Zaq.j1 k (T : Int) p (p.length : Int) (i : Int) p p[i].f0 p[i].f1 p[i].f2) b ∧ (b = true ↔ (∀ j, i ≤ j → entP p j) ∧ T + (p[i].f2.length + totL (p.drop (i + 1))) ≤ 1000) := by
    intro hord
    have hj2f : ∀ b : Bool, Ev (fun _ => some false) b → Ev (fun k => Zaq.j2 k ((T + p[i].f2.length : Nat) : Int) p (p.length : Int) (i : Int) true p p[i].f0 p[i].f1 p[i].f2) b := fun b hb => Zbe _ (fun k => by simp only [Zaq.j2]; rw [if_pos trivial]) hb
    by_cases c1 : (p[i].f2.length : Int) < 1
    ·obtain ⟨b, hb, ib⟩ := hfalse (.inl fun he => by have := he hil; omega)
     refine ⟨b, Zbe _ (fun k => ?_) (hj2f b hb), ib⟩
     simp only [Zaq.j1]
     rw [if_pos c1, hwT]
    ·by_cases c2 : (p[i].f2.length : Int) > 200
     ·obtain ⟨b, hb, ib⟩ := hfalse (.inl fun he => by have := he hil; omega)
      refine ⟨b, Zbe _ (fun k => ?_) (hj2f b hb), ib⟩
      simp only [Zaq.j1]
      rw [if_neg c1, if_pos c2, hwT]
     ·by_cases c3 : T + p[i].f2.length ≤ 1000
      ·obtain ⟨b', h', i'⟩ := ih (i + 1) (T + p[i].f2.length) (by omega) c3
       have hj1s : ∀ b, Ev (fun k => Zaq.j2 k ((T + p[i].f2.length : Nat) : Int) p (p.length : Int) (i : Int) false p p[i].f0 p[i].f1 p[i].f2) b → Ev (fun k => Zaq.j1 k (T : Int) p (p.length : Int) (i : Int) p p[i].f0 p[i].f1 p[i].f2) b := fun b hb => Zbe _ (fun k => by
        simp only [Zaq.j1]
        rw [if_neg c1, if_neg c2, hwT, decide_eq_false (by omega)]) hb
       by_cases c4 : (p[i].f2.any fun c => !ruleOKr c) = true
       ·obtain ⟨b, hb, ib⟩ := hfalse (.inl fun he => by
         obtain ⟨r, hr, hn⟩ := List.any_eq_true.1 c4
         have := (he hil).2.2.2 r hr
         rw [this] at hn
         exact absurd hn (by decide))
        refine ⟨b, hj1s b (Zbe _ (fun k => ?_) hb), ib⟩
        simp only [Zaq.j2]
        rw [if_neg (by decide), hcon, Option.bind_some, if_pos c4]
       ·have hr : ∀ r ∈ p[i].f2, ruleOKr r = true := by
         intro r hr
         have := List.any_eq_false.1 (Bool.eq_false_iff.2 c4) r hr
         simpa using this
        have he : entP p i := fun _ => ⟨by omega, by omega, hord, hr⟩
        refine ⟨b', hj1s b' (Zbe _ (fun k => ?_) h'), i'.trans ⟨fun h => ⟨fun j hj => by
         by_cases e : j = i
         ·subst e; exact he
         ·exact h.1 j (by omega), by omega⟩, fun h => ⟨fun j hj => h.1 j (by omega), by omega⟩⟩⟩
        simp only [Zaq.j2]
        rw [if_neg (by decide), hcon, Option.bind_some, if_neg c4, Zae (i := (i : Int) + 1) (by omega) (by omega)]
        rfl
      ·obtain ⟨b, hb, ib⟩ := hfalse (.inr c3)
       refine ⟨b, Zbe _ (fun k => ?_) (hj2f b hb), ib⟩
       simp only [Zaq.j1]
       rw [if_neg c1, if_neg c2, hwT, decide_eq_true (by omega)]
   by_cases h0 : 0 < i
   ·have hpred := wrap_pred i h0 (by omega)
    have hrd := rdEI p (i - 1) (by omega)
    obtain ⟨K, hK⟩ := ev_get (or_ev (if p[i - 1].f0 < p[i].f0 then -1 else if p[i - 1].f0 > p[i].f0 then 1 else 0) (if p[i - 1].f1 < p[i].f1 then -1 else if p[i - 1].f1 > p[i].f1 then 1 else 0))
    have hstep : ∀ (f : Nat → Option Bool) (b : Bool), (∀ k, (if (if (if p[i - 1].f0 < p[i].f0 then (-1 : Int) else if p[i - 1].f0 > p[i].f0 then 1 else 0) = 0 then (if p[i - 1].f1 < p[i].f1 then (-1 : Int) else if p[i - 1].f1 > p[i].f1 then 1 else 0) else (if p[i - 1].f0 < p[i].f0 then (-1 : Int) else if p[i - 1].f0 > p[i].f0 then 1 else 0)) ≥ 0 then some false else Zaq.j1 k (T : Int) p (p.length : Int) (i : Int) p p[i].f0 p[i].f1 p[i].f2) = f k) → Ev f b → Ev (fun k => Zaq.l0 k (T : Int) p (p.length : Int) (i : Int) p) b := by
     intro f b hf hb
     obtain ⟨K2, hK2⟩ := ev_get hb
     refine ev_mk (K + K2 + 1) fun k hk => ?_
     obtain ⟨m, rfl⟩ : ∃ m, k = m + 1 := ⟨k - 1, by omega⟩
     simp only [Zaq.l0]
     rw [if_pos (by omega), if_pos (by omega), if_pos (by omega), if_pos (by omega), hpred, if_pos (by omega), if_pos (by omega), hrd, rdEI p i hil, compare_is, Option.bind_some, compare_is, Option.bind_some, hK m (by omega), Option.bind_some, hf m]
     exact hK2 m (by omega)
    by_cases ho : ordP p[i - 1] p[i]
    ·obtain ⟨b, hb, ib⟩ := hj1 fun _ => ho
     refine ⟨b, hstep _ b (fun k => ?_) hb, ib⟩
     rw [if_neg]
     rcases ho with h | ⟨h1, h2⟩
     ·rw [if_pos h, if_neg (by decide)]; decide
     ·rw [if_neg (by omega : ¬ p[i - 1].f0 < p[i].f0), if_neg (by omega : ¬ p[i - 1].f0 > p[i].f0), if_pos rfl, if_pos h2]; decide
    ·obtain ⟨b, hb, ib⟩ := hfalse (.inl fun he => ho ((he hil).2.2.1 h0))
     refine ⟨b, hstep _ b (fun k => ?_) hb, ib⟩
     rw [if_pos]
     unfold ordP at ho
     by_cases c1 : p[i - 1].f0 < p[i].f0
     ·exact absurd (.inl c1) ho
     ·by_cases c2 : p[i - 1].f0 > p[i].f0
      ·rw [if_neg c1, if_pos c2, if_neg (by decide)]; decide
      ·rw [if_neg c1, if_neg c2, if_pos rfl]
       by_cases c3 : p[i - 1].f1 < p[i].f1
       ·exact absurd (.inr ⟨by omega, c3⟩) ho
       ·rw [if_neg c3]
        split <;> decide
   ·obtain ⟨b, hb, ib⟩ := hj1 fun g => absurd g h0
    refine ⟨b, Zbe _ (fun k => ?_) hb, ib⟩
    simp only [Zaq.l0]
    rw [if_pos (by omega), if_pos (by omega), if_pos (by omega), if_neg (by omega), rdEI p i hil]
 obtain ⟨b, hb, ib⟩ := key p.length 0 0 (by omega) (by omega)
 rw [List.drop_zero, Nat.zero_add] at ib
 exact ⟨b, hb, ib.trans ⟨fun h => ⟨fun i => h.1 i (Nat.zero_le _), h.2⟩, fun h => ⟨fun i _ => h.1 i, h.2⟩⟩⟩
end Go.Proofs.Ytgmbahldjiiajaa.P

namespace Go.Proofs.Ytgmbahldjiiajaa.P
open Go.RowKit Go.Proofs.YtgmbahldjiiajaaW.PrintWords Go.Proofs.YtgmbahldjiiajaaW.PrintLast Go.Proofs.YtgmbahldjiiajaaW.PrintMore
attribute [local go_sem] max2_int min2_int max_two min_two max_three min_three max_four min_four
set_option linter.unusedVariables false
set_option linter.unusedSimpArgs false

def Zbs.f (a0 : Int) (a1 : Int) : Option (Int × Int × Int × Int × Int × Int) := some (0, a0, 0, 0, a1, 0)
set_option maxHeartbeats 8000000 in
set_option maxRecDepth 100000 in
theorem Zbs.calls (a0 : Int) (a1 : Int) (r1 : Int) (r2 : Int) (r3 : Int) (r4 : Int) (r5 : Int) (r6 : Int) (w : World) (h : Zbs.f a0 a1 = some (r1, r2, r3, r4, r5, r6)) :
  Calls Try.prog 28 #[.int .u16 a0, .int .u32 a1] w fun e w' => e = .returned (.agg #[.int .i64 r1, .int .u16 r2, .int .u8 r3, .int .u8 r4, .int .u32 r5, .int .i64 r6]) ∧ Below w.heap.size w w' := by
 have hu69 := Try.underlying69
 have hu52 := Try.underlying52
 have HB := Za.mk (Below.refl w.heap.size w)
 have H : (some (0, a0, 0, 0, a1, 0)) = some (r1, r2, r3, r4, r5, r6) := h
 clear h
 simp only [Option.some.injEq, Prod.mk.injEq] at H
 obtain ⟨rfl, rfl, rfl, rfl, rfl, rfl⟩ := H
 go_enter Try.func28, Try.ntmps28
 go_wp2_with (first | ((with_reducible refine Zab (N := 4) rfl ?_); refine Zac ?hg (N := 4) ?hd (cs := #[.int .i64 0, .int .u16 0, .int .u8 0, .int .u8 0, .int .u32 0, .int .i64 0]) (t := 69) ?hr ?_; (case hd => rfl); (case hg => rfl); (case hr => go_simp <;> rfl); intro gb134 hg w3 hbox hb; have BK134 := Za.mk (hbox); have GW134 := Za.mk ((by rw [hg]; exact (Zl (by with_reducible repeat first | exact HB.out | apply Zc | apply Ze | apply Zd)) : w.heap.size ≤ gb134)); have GE134 := Za.mk ((by rw [hg]; exact (Zl (by with_reducible repeat first | exact HB.out | apply Zc | apply Ze | apply Zd)) : w.heap.size ≤ gb134)); replace HB := Za.mk (Zo (by with_reducible repeat first | exact HB.out | apply Zc | apply Ze | apply Zd) hb); clear hb hbox hg; have hcz4_0 : w3.cell? ⟨gb134, 0, none⟩ = some (.int .i64 0) := (Zb BK134.out 0).trans rfl; have hcz4_1 : w3.cell? ⟨gb134, 1, none⟩ = some (.int .u16 0) := (Zb BK134.out 1).trans rfl; have hcz4_2 : w3.cell? ⟨gb134, 2, none⟩ = some (.int .u8 0) := (Zb BK134.out 2).trans rfl; have hcz4_3 : w3.cell? ⟨gb134, 3, none⟩ = some (.int .u8 0) := (Zb BK134.out 3).trans rfl; have hcz4_4 : w3.cell? ⟨gb134, 4, none⟩ = some (.int .u32 0) := (Zb BK134.out 4).trans rfl; have hcz4_5 : w3.cell? ⟨gb134, 5, none⟩ = some (.int .i64 0) := (Zb BK134.out 5).trans rfl; have hfz4_0 := Zj BK134.out 0; have hfz4_1 := Zj BK134.out 1; have hfz4_2 := Zj BK134.out 2; have hfz4_3 := Zj BK134.out 3; have hfz4_4 := Zj BK134.out 4; have hfz4_5 := Zj BK134.out 5))
 refine bodyPost_ret (results_cell_row rfl _ _ gb134 69 #[.int .i64 0, .int .u16 a0, .int .u8 0, .int .u8 0, .int .u32 a1, .int .i64 0] (0, 0) _ rfl (by (with_reducible repeat first | apply Zg | apply Zf | apply Zh); refine Zw (cs := #[.int .i64 0, .int .u16 a0, .int .u8 0, .int .u8 0, .int .u32 a1, .int .i64 0]) ?_ 5 _ rfl; (with_reducible repeat first | apply Zg | apply Zf | apply Zh); refine Zw (cs := #[.int .i64 0, .int .u16 a0, .int .u8 0, .int .u8 0, .int .u32 0, .int .i64 0]) ?_ 4 _ rfl; (with_reducible repeat first | apply Zg | apply Zf | apply Zh); refine Zw (cs := #[.int .i64 0, .int .u16 a0, .int .u8 0, .int .u8 0, .int .u32 0, .int .i64 0]) ?_ 3 _ rfl; (with_reducible repeat first | apply Zg | apply Zf | apply Zh); refine Zw (cs := #[.int .i64 0, .int .u16 a0, .int .u8 0, .int .u8 0, .int .u32 0, .int .i64 0]) ?_ 2 _ rfl; (with_reducible repeat first | apply Zg | apply Zf | apply Zh); refine Zw (cs := #[.int .i64 0, .int .u16 0, .int .u8 0, .int .u8 0, .int .u32 0, .int .i64 0]) ?_ 1 _ rfl; (with_reducible repeat first | apply Zg | apply Zf | apply Zh); refine Zw (cs := #[.int .i64 0, .int .u16 0, .int .u8 0, .int .u8 0, .int .u32 0, .int .i64 0]) ?_ 0 _ rfl; (with_reducible repeat first | apply Zg | apply Zf | apply Zh); exact BK134.out) Try.underlying69 rfl (by kernel_rfl)) rfl ?_
 exact ⟨by first | rfl | (simp [Zm, Zn] <;> rfl) | (simp [*, Zm, Zn] <;> rfl), by with_reducible repeat first | exact HB.out | apply Zc | apply Ze | apply Zd | refine Zk ?_ GE134.out⟩
def Zbh.f (a0 : Int) : Option (Int × Int × Int × Int × Int × Int) := (Zbs.f 32 ((a0) % 4294967296)).bind fun bt136 => (some (bt136.1, bt136.2.1, bt136.2.2.1, bt136.2.2.2.1, bt136.2.2.2.2.1, bt136.2.2.2.2.2))
set_option maxHeartbeats 8000000 in
set_option maxRecDepth 100000 in
theorem Zbh.calls (a0 : Int) (r1 : Int) (r2 : Int) (r3 : Int) (r4 : Int) (r5 : Int) (r6 : Int) (w : World) (h : Zbh.f a0 = some (r1, r2, r3, r4, r5, r6)) :
  Calls Try.prog 29 #[.int .i64 a0] w fun e w' => e = .returned (.agg #[.int .i64 r1, .int .u16 r2, .int .u8 r3, .int .u8 r4, .int .u32 r5, .int .i64 r6]) ∧ Below w.heap.size w w' := by
 have hu69 := Try.underlying69
 have HB := Za.mk (Below.refl w.heap.size w)
 have H : ((Zbs.f 32 ((a0) % 4294967296)).bind fun bt136 => (some (bt136.1, bt136.2.1, bt136.2.2.1, bt136.2.2.2.1, bt136.2.2.2.2.1, bt136.2.2.2.2.2))) = some (r1, r2, r3, r4, r5, r6) := h
 clear h
 replace H := Option.bind_eq_some_iff.mp H
 obtain ⟨⟨t136, t137, t138, t139, t140, t141⟩, A20, H⟩ := H
 replace H : (some (t136, t137, t138, t139, t140, t141)) = some (r1, r2, r3, r4, r5, r6) := H
 have A2 := Za.mk A20
 clear A20
 simp only [Option.some.injEq, Prod.mk.injEq] at H
 obtain ⟨rfl, rfl, rfl, rfl, rfl, rfl⟩ := H
 go_enter Try.func29, Try.ntmps29
 go_wp2_with (first | ((with_reducible refine Zab (N := 2) rfl ?_); refine Zac ?hg (N := 2) ?hd (cs := #[.int .i64 0, .int .u16 0, .int .u8 0, .int .u8 0, .int .u32 0, .int .i64 0]) (t := 69) ?hr ?_; (case hd => rfl); (case hg => rfl); (case hr => go_simp <;> rfl); intro gb135 hg w3 hbox hb; have BK135 := Za.mk (hbox); have GW135 := Za.mk ((by rw [hg]; exact (Zl (by with_reducible repeat first | exact HB.out | apply Zc | apply Ze | apply Zd)) : w.heap.size ≤ gb135)); have GE135 := Za.mk ((by rw [hg]; exact (Zl (by with_reducible repeat first | exact HB.out | apply Zc | apply Ze | apply Zd)) : w.heap.size ≤ gb135)); replace HB := Za.mk (Zo (by with_reducible repeat first | exact HB.out | apply Zc | apply Ze | apply Zd) hb); clear hb hbox hg) | ((with_reducible refine Zaj (f := 28) rfl ?_); refine Zai (some 5) rfl rfl Try.func28 (by kernel_rfl) rfl #[.int .u16 32, .int .u32 ((a0) % 4294967296)] rfl (by (try simp only [ZA, ZB, ZC]); first | done | rfl) ?_; (with_reducible refine (Zbs.calls 32 ((a0) % 4294967296) t136 t137 t138 t139 t140 t141 _ A2.out).mono ?_); rintro e w4 ⟨rfl, hb⟩; refine ⟨_, rfl, ?_⟩; replace BK135 := Za.mk (Zp (g := gb135) (o := .cells #[.int .i64 0, .int .u16 0, .int .u8 0, .int .u8 0, .int .u32 0, .int .i64 0] 69 (0, 0)) (by (with_reducible repeat first | apply Zg | apply Zf | apply Zh); exact BK135.out) hb); replace HB := Za.mk (Zo (by with_reducible repeat first | exact HB.out | apply Zc | apply Ze | apply Zd | refine Zk ?_ GE135.out) hb); (try clear hb); (try clear hb2); (try clear hk); (try clear hi); have hcz5_0 : w4.cell? ⟨gb135, 0, none⟩ = some (.int .i64 0) := (Zb BK135.out 0).trans rfl; have hcz5_1 : w4.cell? ⟨gb135, 1, none⟩ = some (.int .u16 0) := (Zb BK135.out 1).trans rfl; have hcz5_2 : w4.cell? ⟨gb135, 2, none⟩ = some (.int .u8 0) := (Zb BK135.out 2).trans rfl; have hcz5_3 : w4.cell? ⟨gb135, 3, none⟩ = some (.int .u8 0) := (Zb BK135.out 3).trans rfl; have hcz5_4 : w4.cell? ⟨gb135, 4, none⟩ = some (.int .u32 0) := (Zb BK135.out 4).trans rfl; have hcz5_5 : w4.cell? ⟨gb135, 5, none⟩ = some (.int .i64 0) := (Zb BK135.out 5).trans rfl; have hfz5_0 := Zj BK135.out 0; have hfz5_1 := Zj BK135.out 1; have hfz5_2 := Zj BK135.out 2; have hfz5_3 := Zj BK135.out 3; have hfz5_4 := Zj BK135.out 4; have hfz5_5 := Zj BK135.out 5))
 refine bodyPost_ret (results_cell_row rfl _ _ gb135 69 #[.int .i64 t136, .int .u16 t137, .int .u8 t138, .int .u8 t139, .int .u32 t140, .int .i64 t141] (0, 0) _ rfl (by (with_reducible repeat first | apply Zg | apply Zf | apply Zh); refine Zw (cs := #[.int .i64 t136, .int .u16 t137, .int .u8 t138, .int .u8 t139, .int .u32 t140, .int .i64 0]) ?_ 5 _ rfl; (with_reducible repeat first | apply Zg | apply Zf | apply Zh); refine Zw (cs := #[.int .i64 t136, .int .u16 t137, .int .u8 t138, .int .u8 t139, .int .u32 0, .int .i64 0]) ?_ 4 _ rfl; (with_reducible repeat first | apply Zg | apply Zf | apply Zh); refine Zw (cs := #[.int .i64 t136, .int .u16 t137, .int .u8 t138, .int .u8 0, .int .u32 0, .int .i64 0]) ?_ 3 _ rfl; (with_reducible repeat first | apply Zg | apply Zf | apply Zh); refine Zw (cs := #[.int .i64 t136, .int .u16 t137, .int .u8 0, .int .u8 0, .int .u32 0, .int .i64 0]) ?_ 2 _ rfl; (with_reducible repeat first | apply Zg | apply Zf | apply Zh); refine Zw (cs := #[.int .i64 t136, .int .u16 0, .int .u8 0, .int .u8 0, .int .u32 0, .int .i64 0]) ?_ 1 _ rfl; (with_reducible repeat first | apply Zg | apply Zf | apply Zh); refine Zw (cs := #[.int .i64 0, .int .u16 0, .int .u8 0, .int .u8 0, .int .u32 0, .int .i64 0]) ?_ 0 _ rfl; (with_reducible repeat first | apply Zg | apply Zf | apply Zh); exact BK135.out) Try.underlying69 rfl (by kernel_rfl)) rfl ?_
 exact ⟨by first | rfl | (simp [Zm, Zn] <;> rfl) | (simp [*, Zm, Zn] <;> rfl), by with_reducible repeat first | exact HB.out | apply Zc | apply Ze | apply Zd | refine Zk ?_ GE135.out⟩
def Zak.f (a0 : Int) (a1 : Int) (a2 : Int) (a3 : Int) : Option (Int × Int × Int × Int × Int × Int) := some (a0, a1, 0, 0, a2, a3)
set_option maxHeartbeats 8000000 in
set_option maxRecDepth 100000 in
theorem Zak.calls (a0 : Int) (a1 : Int) (a2 : Int) (a3 : Int) (r1 : Int) (r2 : Int) (r3 : Int) (r4 : Int) (r5 : Int) (r6 : Int) (w : World) (h : Zak.f a0 a1 a2 a3 = some (r1, r2, r3, r4, r5, r6)) :
  Calls Try.prog 30 #[.int .i64 a0, .int .u16 a1, .int .u32 a2, .int .i64 a3] w fun e w' => e = .returned (.agg #[.int .i64 r1, .int .u16 r2, .int .u8 r3, .int .u8 r4, .int .u32 r5, .int .i64 r6]) ∧ Below w.heap.size w w' := by
 have hu69 := Try.underlying69
 have hu52 := Try.underlying52
 have HB := Za.mk (Below.refl w.heap.size w)
 have H : (some (a0, a1, 0, 0, a2, a3)) = some (r1, r2, r3, r4, r5, r6) := h
 clear h
 simp only [Option.some.injEq, Prod.mk.injEq] at H
 obtain ⟨rfl, rfl, rfl, rfl, rfl, rfl⟩ := H
 go_enter Try.func30, Try.ntmps30
 go_wp2_with (first | ((with_reducible refine Zab (N := 8) rfl ?_); refine Zac ?hg (N := 8) ?hd (cs := #[.int .i64 0, .int .u16 0, .int .u8 0, .int .u8 0, .int .u32 0, .int .i64 0]) (t := 69) ?hr ?_; (case hd => rfl); (case hg => rfl); (case hr => go_simp <;> rfl); intro gb142 hg w5 hbox hb; have BK142 := Za.mk (hbox); have GW142 := Za.mk ((by rw [hg]; exact (Zl (by with_reducible repeat first | exact HB.out | apply Zc | apply Ze | apply Zd)) : w.heap.size ≤ gb142)); have GE142 := Za.mk ((by rw [hg]; exact (Zl (by with_reducible repeat first | exact HB.out | apply Zc | apply Ze | apply Zd)) : w.heap.size ≤ gb142)); replace HB := Za.mk (Zo (by with_reducible repeat first | exact HB.out | apply Zc | apply Ze | apply Zd) hb); clear hb hbox hg; have hcz6_0 : w5.cell? ⟨gb142, 0, none⟩ = some (.int .i64 0) := (Zb BK142.out 0).trans rfl; have hcz6_1 : w5.cell? ⟨gb142, 1, none⟩ = some (.int .u16 0) := (Zb BK142.out 1).trans rfl; have hcz6_2 : w5.cell? ⟨gb142, 2, none⟩ = some (.int .u8 0) := (Zb BK142.out 2).trans rfl; have hcz6_3 : w5.cell? ⟨gb142, 3, none⟩ = some (.int .u8 0) := (Zb BK142.out 3).trans rfl; have hcz6_4 : w5.cell? ⟨gb142, 4, none⟩ = some (.int .u32 0) := (Zb BK142.out 4).trans rfl; have hcz6_5 : w5.cell? ⟨gb142, 5, none⟩ = some (.int .i64 0) := (Zb BK142.out 5).trans rfl; have hfz6_0 := Zj BK142.out 0; have hfz6_1 := Zj BK142.out 1; have hfz6_2 := Zj BK142.out 2; have hfz6_3 := Zj BK142.out 3; have hfz6_4 := Zj BK142.out 4; have hfz6_5 := Zj BK142.out 5))
 refine bodyPost_ret (results_cell_row rfl _ _ gb142 69 #[.int .i64 a0, .int .u16 a1, .int .u8 0, .int .u8 0, .int .u32 a2, .int .i64 a3] (0, 0) _ rfl (by (with_reducible repeat first | apply Zg | apply Zf | apply Zh); refine Zw (cs := #[.int .i64 a0, .int .u16 a1, .int .u8 0, .int .u8 0, .int .u32 a2, .int .i64 0]) ?_ 5 _ rfl; (with_reducible repeat first | apply Zg | apply Zf | apply Zh); refine Zw (cs := #[.int .i64 a0, .int .u16 a1, .int .u8 0, .int .u8 0, .int .u32 0, .int .i64 0]) ?_ 4 _ rfl; (with_reducible repeat first | apply Zg | apply Zf | apply Zh); refine Zw (cs := #[.int .i64 a0, .int .u16 a1, .int .u8 0, .int .u8 0, .int .u32 0, .int .i64 0]) ?_ 3 _ rfl; (with_reducible repeat first | apply Zg | apply Zf | apply Zh); refine Zw (cs := #[.int .i64 a0, .int .u16 a1, .int .u8 0, .int .u8 0, .int .u32 0, .int .i64 0]) ?_ 2 _ rfl; (with_reducible repeat first | apply Zg | apply Zf | apply Zh); refine Zw (cs := #[.int .i64 a0, .int .u16 0, .int .u8 0, .int .u8 0, .int .u32 0, .int .i64 0]) ?_ 1 _ rfl; (with_reducible repeat first | apply Zg | apply Zf | apply Zh); refine Zw (cs := #[.int .i64 0, .int .u16 0, .int .u8 0, .int .u8 0, .int .u32 0, .int .i64 0]) ?_ 0 _ rfl; (with_reducible repeat first | apply Zg | apply Zf | apply Zh); exact BK142.out) Try.underlying69 rfl (by kernel_rfl)) rfl ?_
 exact ⟨by first | rfl | (simp [Zm, Zn] <;> rfl) | (simp [*, Zm, Zn] <;> rfl), by with_reducible repeat first | exact HB.out | apply Zc | apply Ze | apply Zd | refine Zk ?_ GE142.out⟩
def Zax.f (a0 : Int) : Option (Int × Int × Int × Int × Int × Int) := some (4, 0, 0, 0, 0, a0)
set_option maxHeartbeats 8000000 in
set_option maxRecDepth 100000 in
theorem Zax.calls (a0 : Int) (r1 : Int) (r2 : Int) (r3 : Int) (r4 : Int) (r5 : Int) (r6 : Int) (w : World) (h : Zax.f a0 = some (r1, r2, r3, r4, r5, r6)) :
  Calls Try.prog 32 #[.int .i64 a0] w fun e w' => e = .returned (.agg #[.int .i64 r1, .int .u16 r2, .int .u8 r3, .int .u8 r4, .int .u32 r5, .int .i64 r6]) ∧ Below w.heap.size w w' := by
 have hu69 := Try.underlying69
 have HB := Za.mk (Below.refl w.heap.size w)
 have H : (some (4, 0, 0, 0, 0, a0)) = some (r1, r2, r3, r4, r5, r6) := h
 clear h
 simp only [Option.some.injEq, Prod.mk.injEq] at H
 obtain ⟨rfl, rfl, rfl, rfl, rfl, rfl⟩ := H
 go_enter Try.func32, Try.ntmps32
 go_wp2_with (first | ((with_reducible refine Zab (N := 2) rfl ?_); refine Zac ?hg (N := 2) ?hd (cs := #[.int .i64 0, .int .u16 0, .int .u8 0, .int .u8 0, .int .u32 0, .int .i64 0]) (t := 69) ?hr ?_; (case hd => rfl); (case hg => rfl); (case hr => go_simp <;> rfl); intro gb143 hg w2 hbox hb; have BK143 := Za.mk (hbox); have GW143 := Za.mk ((by rw [hg]; exact (Zl (by with_reducible repeat first | exact HB.out | apply Zc | apply Ze | apply Zd)) : w.heap.size ≤ gb143)); have GE143 := Za.mk ((by rw [hg]; exact (Zl (by with_reducible repeat first | exact HB.out | apply Zc | apply Ze | apply Zd)) : w.heap.size ≤ gb143)); replace HB := Za.mk (Zo (by with_reducible repeat first | exact HB.out | apply Zc | apply Ze | apply Zd) hb); clear hb hbox hg; have hcz3_0 : w2.cell? ⟨gb143, 0, none⟩ = some (.int .i64 0) := (Zb BK143.out 0).trans rfl; have hcz3_1 : w2.cell? ⟨gb143, 1, none⟩ = some (.int .u16 0) := (Zb BK143.out 1).trans rfl; have hcz3_2 : w2.cell? ⟨gb143, 2, none⟩ = some (.int .u8 0) := (Zb BK143.out 2).trans rfl; have hcz3_3 : w2.cell? ⟨gb143, 3, none⟩ = some (.int .u8 0) := (Zb BK143.out 3).trans rfl; have hcz3_4 : w2.cell? ⟨gb143, 4, none⟩ = some (.int .u32 0) := (Zb BK143.out 4).trans rfl; have hcz3_5 : w2.cell? ⟨gb143, 5, none⟩ = some (.int .i64 0) := (Zb BK143.out 5).trans rfl; have hfz3_0 := Zj BK143.out 0; have hfz3_1 := Zj BK143.out 1; have hfz3_2 := Zj BK143.out 2; have hfz3_3 := Zj BK143.out 3; have hfz3_4 := Zj BK143.out 4; have hfz3_5 := Zj BK143.out 5))
 refine bodyPost_ret (results_cell_row rfl _ _ gb143 69 #[.int .i64 4, .int .u16 0, .int .u8 0, .int .u8 0, .int .u32 0, .int .i64 a0] (0, 0) _ rfl (by (with_reducible repeat first | apply Zg | apply Zf | apply Zh); refine Zw (cs := #[.int .i64 4, .int .u16 0, .int .u8 0, .int .u8 0, .int .u32 0, .int .i64 0]) ?_ 5 _ rfl; (with_reducible repeat first | apply Zg | apply Zf | apply Zh); refine Zw (cs := #[.int .i64 4, .int .u16 0, .int .u8 0, .int .u8 0, .int .u32 0, .int .i64 0]) ?_ 4 _ rfl; (with_reducible repeat first | apply Zg | apply Zf | apply Zh); refine Zw (cs := #[.int .i64 4, .int .u16 0, .int .u8 0, .int .u8 0, .int .u32 0, .int .i64 0]) ?_ 3 _ rfl; (with_reducible repeat first | apply Zg | apply Zf | apply Zh); refine Zw (cs := #[.int .i64 4, .int .u16 0, .int .u8 0, .int .u8 0, .int .u32 0, .int .i64 0]) ?_ 2 _ rfl; (with_reducible repeat first | apply Zg | apply Zf | apply Zh); refine Zw (cs := #[.int .i64 4, .int .u16 0, .int .u8 0, .int .u8 0, .int .u32 0, .int .i64 0]) ?_ 1 _ rfl; (with_reducible repeat first | apply Zg | apply Zf | apply Zh); refine Zw (cs := #[.int .i64 0, .int .u16 0, .int .u8 0, .int .u8 0, .int .u32 0, .int .i64 0]) ?_ 0 _ rfl; (with_reducible repeat first | apply Zg | apply Zf | apply Zh); exact BK143.out) Try.underlying69 rfl (by kernel_rfl)) rfl ?_
 exact ⟨by first | rfl | (simp [Zm, Zn] <;> rfl) | (simp [*, Zm, Zn] <;> rfl), by with_reducible repeat first | exact HB.out | apply Zc | apply Ze | apply Zd | refine Zk ?_ GE143.out⟩
def Zbo.l0 : Nat → List (S61) → Int → Int → Option (Int)
 | 0, _, _, _ => none
 | k + 1, x0, x3, x4 => if x4 < (x0.length : Int) then (if 0 ≤ x4 then (Zbo.l0 k x0 (wrap64 (x3 + (wrap64 (13 * (((Zi x0 x4).f2).length : Int))))) (wrap64 (x4 + 1))) else (none)) else (some x3)
def Zbo.f (k : Nat) (l0 : List (S61)) : Option (Int) := Zbo.l0 k l0 (l0.length : Int) 0
set_option maxHeartbeats 8000000 in
set_option maxRecDepth 100000 in
theorem Zbo.calls (k : Nat) (A0 : Option Addr) (c0 : Nat) (l0 : List (S61)) (r : Int) (w : World) (hr0 : Kd.C k61 w A0 l0.length l0) (hc0 : l0.length ≤ c0) (h : Zbo.f k l0 = some r) :
  Calls Try.prog 33 #[.slice A0 l0.length c0] w fun e w' => e = .returned (.int .i64 r) ∧ Zr w w' := by
 have HR0 := Za.mk hr0
 have HC0 := Za.mk hc0
 clear hr0 hc0
 have H : (Zbo.l0 k l0 (l0.length : Int) 0) = some r := h
 clear h
 have H' := Za.mk H
 clear H
 go_enter Try.func33, Try.ntmps33
 go_wp2
 go_loopg [3, 4] k (fun kq v3 v4 w' => ∃ (x3_1 : Int) (x4_1 : Int), v3 = .int .i64 x3_1 ∧ v4 = .int .i64 x4_1 ∧ Za (Zbo.l0 kq l0 x3_1 x4_1 = some r) ∧ Za (kq ≤ k) ∧ Zr w w')
 case atStart => exact ⟨((l0.length : Int)), (0), (by first | rfl | (simp; done) | (simp [*]; done)), (by first | rfl | (simp; done) | (simp [*]; done)), H', ⟨Nat.le_refl _⟩, by repeat (first | exact Zr.refl _ | apply Zr.step)⟩
 case round =>
  clear H'
  obtain ⟨x3_1, x4_1, rfl, rfl, HA, HK1, ⟨m1, rfl⟩⟩ := hrel
  cases gk with
  | zero => exact absurd HA.out (by simp [Zbo.l0])
  | succ k1 =>
   have H := HA.out
   clear HA
   simp only [Zbo.l0] at H
   by_cases c2 : x4_1 < (l0.length : Int)
   ·rw [if_pos c2] at H
    have c2b0 : decide (x4_1 < (l0.length : Int)) = true := decide_eq_true c2
    clear c2
    by_cases c3 : 0 ≤ x4_1
    ·rw [if_pos c3] at H
     have c3b0 : decide (0 ≤ x4_1) = true := decide_eq_true c3
     clear c3
     have H' := Za.mk H
     clear H
     have p144 : 0 ≤ (x4_1 : Int) := of_decide_eq_true (by assumption)
     have q144 : x4_1 < (l0.length : Int) := of_decide_eq_true (by assumption)
     obtain ⟨ad144, A144_2, c144_2, e144, hx144_0, hx144_1, hx144_2, hl144_2, hi144_2⟩ := at_T61 HR0.out x4_1 p144 q144
     cases e144
     have HR144_2 := Za.mk hi144_2
     have HC144_2 := Za.mk hl144_2
     clear hi144_2 hl144_2
     replace p144 := eq_true p144
     replace q144 := eq_true q144
     go_wp2
     go_roundg k1
     case measure => have := HK1.out; omega
     case rel => exact ⟨(wrap64 (x3_1 + (wrap64 (13 * (((Zi l0 x4_1).f2).length : Int))))), (wrap64 (x4_1 + 1)), (by first | rfl | (simp; done) | (simp [*]; done)), (by first | rfl | (simp; done) | (simp [*]; done)), H', ⟨by have := HK1.out; omega⟩, by repeat (first | exact Zr.refl _ | apply Zr.step)⟩
    rw [if_neg c3] at H
    exact absurd H (by simp)
   rw [if_neg c2] at H
   have c2b0 : decide (x4_1 < (l0.length : Int)) = false := decide_eq_false c2
   clear c2
   obtain rfl := Option.some.inj H
   go_wp2
   go_ret
   exact ⟨by first | rfl | (simp; done) | (simp [*]; done), by repeat (first | exact Zr.refl _ | apply Zr.step)⟩
def spec_l5half.f (a0 : Int) (a1 : Int) (a2 : Int) (a3 : Int) : Option ((List (S69))) := if a1 = 0 then (some ([] : List (S69))) else ((Zbh.f a0).bind fun bt145 => ((some (([(⟨bt145.1, (⟨bt145.2.1, bt145.2.2.1, bt145.2.2.2.1, bt145.2.2.2.2.1⟩ : S52), bt145.2.2.2.2.2⟩ : S69)] : List (S69)) : List (S69))).bind fun y151 => (if a1 = 4294967295 then ((Zak.f 2 21 a2 a3).bind fun bt154 => (if y151.length < 5864062014805 then (some (y151 ++ [(⟨bt154.1, (⟨bt154.2.1, bt154.2.2.1, bt154.2.2.2.1, bt154.2.2.2.2.1⟩ : S52), bt154.2.2.2.2.2⟩ : S69)])) else (none))) else ((Zbs.f 84 a1).bind fun bt163 => (if y151.length < 5864062014805 then ((some (y151 ++ [(⟨bt163.1, (⟨bt163.2.1, bt163.2.2.1, bt163.2.2.2.1, bt163.2.2.2.2.1⟩ : S52), bt163.2.2.2.2.2⟩ : S69)] : List (S69))).bind fun y169 => ((Zak.f 2 21 a2 a3).bind fun bt172 => (if y169.length < 5864062014805 then (some (y169 ++ [(⟨bt172.1, (⟨bt172.2.1, bt172.2.2.1, bt172.2.2.2.1, bt172.2.2.2.2.1⟩ : S52), bt172.2.2.2.2.2⟩ : S69)])) else (none)))) else (none))))))
set_option maxHeartbeats 8000000 in
set_option maxRecDepth 100000 in
theorem spec_l5half.calls (a0 : Int) (a1 : Int) (a2 : Int) (a3 : Int) (r : List (S69)) (w : World) (h : spec_l5half.f a0 a1 a2 a3 = some r) :
  Calls Try.prog 73 #[.int .i64 a0, .int .u32 a1, .int .u32 a2, .int .i64 a3] w fun e w' => ∃ v0_ : Value, e = .returned (v0_) ∧ Kd.R k69 69 w' w.heap.size (fun _ => True) v0_ r ∧ Below w.heap.size w w' := by
 have HB := Za.mk (Below.refl w.heap.size w)
 have H := h
 unfold spec_l5half.f at H
 clear h
 by_cases c5 : a1 = 0
 ·rw [if_pos c5] at H
  have c5b0 : (a1 == 0) = true := beq_iff_eq.mpr c5
  have c5b1 : (a1 != 0) = false := bne_eq_false_iff_eq.mpr c5
  clear c5
  obtain rfl := Option.some.inj H
  go_enter Try.func73, Try.ntmps73
  go_wp2
  go_ret
  exact ⟨_, by first | rfl | (simp [Zm, Zn] <;> rfl) | (simp [*, Zm, Zn] <;> rfl), by first | exact Kd.R_nil _ _ _ _ _ | exact Kd.N_nil _ _ _ _ _ | exact Kd.V_nil _ _ _ _ _ | exact Kd.Q_nil _ _ _ _ _ | exact Kd.S_nil _ _ _ _ _, by with_reducible repeat first | exact HB.out | apply Zc | apply Ze | apply Zd⟩
 rw [if_neg c5] at H
 have c5b0 : (a1 == 0) = false := beq_eq_false_iff_ne.mpr c5
 have c5b1 : (a1 != 0) = true := bne_iff_ne.mpr c5
 replace H := Option.bind_eq_some_iff.mp H
 obtain ⟨⟨t145, t146, t147, t148, t149, t150⟩, A60, H⟩ := H
 replace H : ((some (([(⟨t145, (⟨t146, t147, t148, t149⟩ : S52), t150⟩ : S69)] : List (S69)) : List (S69))).bind fun y151 => (if a1 = 4294967295 then ((Zak.f 2 21 a2 a3).bind fun bt154 => (if y151.length < 5864062014805 then (some (y151 ++ [(⟨bt154.1, (⟨bt154.2.1, bt154.2.2.1, bt154.2.2.2.1, bt154.2.2.2.2.1⟩ : S52), bt154.2.2.2.2.2⟩ : S69)])) else (none))) else ((Zbs.f 84 a1).bind fun bt163 => (if y151.length < 5864062014805 then ((some (y151 ++ [(⟨bt163.1, (⟨bt163.2.1, bt163.2.2.1, bt163.2.2.2.1, bt163.2.2.2.2.1⟩ : S52), bt163.2.2.2.2.2⟩ : S69)] : List (S69))).bind fun y169 => ((Zak.f 2 21 a2 a3).bind fun bt172 => (if y169.length < 5864062014805 then (some (y169 ++ [(⟨bt172.1, (⟨bt172.2.1, bt172.2.2.1, bt172.2.2.2.1, bt172.2.2.2.2.1⟩ : S52), bt172.2.2.2.2.2⟩ : S69)])) else (none)))) else (none))))) = some r := H
 have A6 := Za.mk A60
 clear A60
 obtain ⟨y151, hy151⟩ : ∃ y_ : List (S69), y_ = (([(⟨t145, (⟨t146, t147, t148, t149⟩ : S52), t150⟩ : S69)] : List (S69))) := ⟨_, rfl⟩
 replace H : (if a1 = 4294967295 then ((Zak.f 2 21 a2 a3).bind fun bt154 => (if y151.length < 5864062014805 then (some (y151 ++ [(⟨bt154.1, (⟨bt154.2.1, bt154.2.2.1, bt154.2.2.2.1, bt154.2.2.2.2.1⟩ : S52), bt154.2.2.2.2.2⟩ : S69)])) else (none))) else ((Zbs.f 84 a1).bind fun bt163 => (if y151.length < 5864062014805 then ((some (y151 ++ [(⟨bt163.1, (⟨bt163.2.1, bt163.2.2.1, bt163.2.2.2.1, bt163.2.2.2.2.1⟩ : S52), bt163.2.2.2.2.2⟩ : S69)] : List (S69))).bind fun y169 => ((Zak.f 2 21 a2 a3).bind fun bt172 => (if y169.length < 5864062014805 then (some (y169 ++ [(⟨bt172.1, (⟨bt172.2.1, bt172.2.2.1, bt172.2.2.2.1, bt172.2.2.2.2.1⟩ : S52), bt172.2.2.2.2.2⟩ : S69)])) else (none)))) else (none)))) = some r := by first | (rw [hy151]; with_reducible exact H) | (have H2_ := (Option.bind_some _ _).symm.trans H; rw [hy151]; with_reducible exact H2_) | (have H2_ := (Option.bind_some _ _).symm.trans H; with_reducible exact H2_) | with_reducible exact H | (rw [hy151]; exact H) | exact H
 have Ny151 := Za.mk hy151
 clear hy151
 by_cases c7 : a1 = 4294967295
 ·rw [if_pos c7] at H
  have c7b0 : (a1 == 4294967295) = true := beq_iff_eq.mpr c7
  have c7b1 : (a1 != 4294967295) = false := bne_eq_false_iff_eq.mpr c7
  clear c7
  replace H := Option.bind_eq_some_iff.mp H
  obtain ⟨⟨t154, t155, t156, t157, t158, t159⟩, A80, H⟩ := H
  replace H : (if y151.length < 5864062014805 then (some (y151 ++ [(⟨t154, (⟨t155, t156, t157, t158⟩ : S52), t159⟩ : S69)])) else (none)) = some r := H
  have A8 := Za.mk A80
  clear A80
  by_cases c9 : y151.length < 5864062014805
  ·rw [if_pos c9] at H
   have LMc9 := Za.mk c9
   clear c9
   obtain ⟨y160, hy160⟩ : ∃ y_ : List (S69), y_ = (y151 ++ [(⟨t154, (⟨t155, t156, t157, t158⟩ : S52), t159⟩ : S69)]) := ⟨_, rfl⟩
   replace H : (some y160) = some r := by first | (rw [hy160]; with_reducible exact H) | (have H2_ := (Option.bind_some _ _).symm.trans H; rw [hy160]; with_reducible exact H2_) | (have H2_ := (Option.bind_some _ _).symm.trans H; with_reducible exact H2_) | with_reducible exact H | (rw [hy160]; exact H) | exact H
   have Ny160 := Za.mk hy160
   clear hy160
   obtain rfl := Option.some.inj H
   go_enter Try.func73, Try.ntmps73
   go_wp2_with (first | ((with_reducible refine Zaj (f := 29) rfl ?_); refine Zai (some 13) rfl rfl Try.func29 (by kernel_rfl) rfl #[.int .i64 a0] rfl (by (try simp only [ZA, ZB, ZC]); first | done | rfl) ?_; (with_reducible refine (Zbh.calls a0 t145 t146 t147 t148 t149 t150 _ A6.out).mono ?_); rintro e w10 ⟨rfl, hb⟩; refine ⟨_, rfl, ?_⟩; replace HB := Za.mk (Zo (by with_reducible repeat first | exact HB.out | apply Zc | apply Ze | apply Zd) hb); (try clear hb); (try clear hb2); (try clear hk); (try clear hi)) | ((with_reducible refine Zab (N := 14) rfl ?_); refine Kd.R_lit k69 _ 69 ?hg (N := 14) ?hd (xs := ([(⟨t145, (⟨t146, t147, t148, t149⟩ : S52), t150⟩ : S69)] : List (S69))) (inner := [.int .i64 t145, .int .u16 t146, .int .u8 t147, .int .u8 t148, .int .u32 t149, .int .i64 t150]) (ok := fun _ => True) (okp := fun _ => True) ?hr ?hp (fun _ hk => hk) trivial (Below.refl _ _) (Nat.le_refl _) (by simp) ?_; (case hd => rfl); (case hg => rfl); (case hr => go_simp <;> rfl); (case hp => exact (Reps.c6 (show Kd.M k69 _ _ _ (⟨t145, (⟨t146, t147, t148, t149⟩ : S52), t150⟩ : S69) [.int .i64 t145, .int .u16 t146, .int .u8 t147, .int .u8 t148, .int .u32 t149, .int .i64 t150] from (Zbg _ _ _ (⟨t145, (⟨t146, t147, t148, t149⟩ : S52), t150⟩ : S69) )) (Reps.none _ _))); intro v152 w11 ho12 hb hg_ hnew_; clear hg_ hnew_; (first | rw [← Ny151.out] at ho12 | (simp only [Int.reduceToNat] at ho12; rw [← Ny151.out] at ho12)); have HO153 := Za.mk (Kd.Zbk ho12 (Zl (by with_reducible repeat first | exact HB.out | apply Zc | apply Ze | apply Zd))); replace HB := Za.mk (Zo (by with_reducible repeat first | exact HB.out | apply Zc | apply Ze | apply Zd) hb); clear hb ho12) | ((with_reducible refine Zaj (f := 30) rfl ?_); refine Zai (some 25) rfl rfl Try.func30 (by kernel_rfl) rfl #[.int .i64 2, .int .u16 21, .int .u32 a2, .int .i64 a3] rfl (by (try simp only [ZA, ZB, ZC]); first | done | rfl) ?_; (with_reducible refine (Zak.calls 2 21 a2 a3 t154 t155 t156 t157 t158 t159 _ A8.out).mono ?_); rintro e w13 ⟨rfl, hb⟩; refine ⟨_, rfl, ?_⟩; replace HO153 := Za.mk (Kd.Zam (by (with_reducible repeat (first | apply Kd.Zaa | apply Kd.Zy | apply Kd.Zz)); exact HO153.out) hb); replace HB := Za.mk (Zo (by with_reducible repeat first | exact HB.out | apply Zc | apply Ze | apply Zd) hb); (try clear hb); (try clear hb2); (try clear hk); (try clear hi)) | ((with_reducible refine Zba (b := .append) (xs := #[.tmp 22, .tmp 26]) rfl ?_); at_builtin; refine Kd.Zbb k69 (w0 := w) w.heap.size rfl (.tmp 22) (.tmp 26) 41 69 (.agg #[(.int .i64 0), (.int .u16 0), (.int .u8 0), (.int .u8 0), (.int .u32 0), (.int .i64 0)]) 24 rfl Try.underlying41 info69 rfl (by decide) (by omega) v152 y151 (⟨t154, (⟨t155, t156, t157, t158⟩ : S52), t159⟩ : S69) [.int .i64 t154, .int .u16 t155, .int .u8 t156, .int .u8 t157, .int .u32 t158, .int .i64 t159] (fun _ => True) (fun _ => False) rfl rfl ?aP (fun _ hk => hk.elim) ?aF ?aO ?aB ?aS ?aL ?_; (case aP => exact Zbg _ _ _ (⟨t154, (⟨t155, t156, t157, t158⟩ : S52), t159⟩ : S69)); (case aB => exact (by with_reducible repeat first | exact HB.out | apply Zc | apply Ze | apply Zd)); (case aF => exact (fun _ _ => trivial)); (case aO => exact (by (with_reducible repeat (first | apply Kd.Zaa | apply Kd.Zy | apply Kd.Zz)); exact HO153.out)); (case aS => exact (Zl (by with_reducible repeat first | exact HB.out | apply Zc | apply Ze | apply Zd))); (case aL => have := LMc9.out; omega); intro v161 w14 ho hb hg hat; rw [← Ny160.out] at ho; have n0_ := Za.mk (hb); have n1_ := Za.mk (ho); clear HB; clear HO153; have HB := n0_; have HO162 := n1_; clear n0_ n1_; clear ho hb hg hat))
   go_ret
   exact ⟨_, by first | rfl | (simp [Zm, Zn] <;> rfl) | (simp [*, Zm, Zn] <;> rfl), by (with_reducible repeat (first | apply Kd.Zaa | apply Kd.Zy | apply Kd.Zz)); exact HO162.out, by with_reducible repeat first | exact HB.out | apply Zc | apply Ze | apply Zd⟩
  rw [if_neg c9] at H
  exact absurd H (by simp)
 rw [if_neg c7] at H
 have c7b0 : (a1 == 4294967295) = false := beq_eq_false_iff_ne.mpr c7
 have c7b1 : (a1 != 4294967295) = true := bne_iff_ne.mpr c7
 replace H := Option.bind_eq_some_iff.mp H
 obtain ⟨⟨t163, t164, t165, t166, t167, t168⟩, A150, H⟩ := H
 replace H : (if y151.length < 5864062014805 then ((some (y151 ++ [(⟨t163, (⟨t164, t165, t166, t167⟩ : S52), t168⟩ : S69)] : List (S69))).bind fun y169 => ((Zak.f 2 21 a2 a3).bind fun bt172 => (if y169.length < 5864062014805 then (some (y169 ++ [(⟨bt172.1, (⟨bt172.2.1, bt172.2.2.1, bt172.2.2.2.1, bt172.2.2.2.2.1⟩ : S52), bt172.2.2.2.2.2⟩ : S69)])) else (none)))) else (none)) = some r := H
 have A15 := Za.mk A150
 clear A150
 by_cases c16 : y151.length < 5864062014805
 ·rw [if_pos c16] at H
  have LMc16 := Za.mk c16
  clear c16
  obtain ⟨y169, hy169⟩ : ∃ y_ : List (S69), y_ = (y151 ++ [(⟨t163, (⟨t164, t165, t166, t167⟩ : S52), t168⟩ : S69)]) := ⟨_, rfl⟩
  replace H : ((Zak.f 2 21 a2 a3).bind fun bt172 => (if y169.length < 5864062014805 then (some (y169 ++ [(⟨bt172.1, (⟨bt172.2.1, bt172.2.2.1, bt172.2.2.2.1, bt172.2.2.2.2.1⟩ : S52), bt172.2.2.2.2.2⟩ : S69)])) else (none))) = some r := by first | (rw [hy169]; with_reducible exact H) | (have H2_ := (Option.bind_some _ _).symm.trans H; rw [hy169]; with_reducible exact H2_) | (have H2_ := (Option.bind_some _ _).symm.trans H; with_reducible exact H2_) | with_reducible exact H | (rw [hy169]; exact H) | exact H
  have Ny169 := Za.mk hy169
  clear hy169
  replace H := Option.bind_eq_some_iff.mp H
  obtain ⟨⟨t172, t173, t174, t175, t176, t177⟩, A170, H⟩ := H
  replace H : (if y169.length < 5864062014805 then (some (y169 ++ [(⟨t172, (⟨t173, t174, t175, t176⟩ : S52), t177⟩ : S69)])) else (none)) = some r := H
  have A17 := Za.mk A170
  clear A170
  by_cases c18 : y169.length < 5864062014805
  ·rw [if_pos c18] at H
   have LMc18 := Za.mk c18
   clear c18
   obtain ⟨y178, hy178⟩ : ∃ y_ : List (S69), y_ = (y169 ++ [(⟨t172, (⟨t173, t174, t175, t176⟩ : S52), t177⟩ : S69)]) := ⟨_, rfl⟩
   replace H : (some y178) = some r := by first | (rw [hy178]; with_reducible exact H) | (have H2_ := (Option.bind_some _ _).symm.trans H; rw [hy178]; with_reducible exact H2_) | (have H2_ := (Option.bind_some _ _).symm.trans H; with_reducible exact H2_) | with_reducible exact H | (rw [hy178]; exact H) | exact H
   have Ny178 := Za.mk hy178
   clear hy178
   obtain rfl := Option.some.inj H
   go_enter Try.func73, Try.ntmps73
   go_wp2_with (first | ((with_reducible refine Zaj (f := 29) rfl ?_); refine Zai (some 13) rfl rfl Try.func29 (by kernel_rfl) rfl #[.int .i64 a0] rfl (by (try simp only [ZA, ZB, ZC]); first | done | rfl) ?_; (with_reducible refine (Zbh.calls a0 t145 t146 t147 t148 t149 t150 _ A6.out).mono ?_); rintro e w19 ⟨rfl, hb⟩; refine ⟨_, rfl, ?_⟩; replace HB := Za.mk (Zo (by with_reducible repeat first | exact HB.out | apply Zc | apply Ze | apply Zd) hb); (try clear hb); (try clear hb2); (try clear hk); (try clear hi)) | ((with_reducible refine Zab (N := 14) rfl ?_); refine Kd.R_lit k69 _ 69 ?hg (N := 14) ?hd (xs := ([(⟨t145, (⟨t146, t147, t148, t149⟩ : S52), t150⟩ : S69)] : List (S69))) (inner := [.int .i64 t145, .int .u16 t146, .int .u8 t147, .int .u8 t148, .int .u32 t149, .int .i64 t150]) (ok := fun _ => True) (okp := fun _ => True) ?hr ?hp (fun _ hk => hk) trivial (Below.refl _ _) (Nat.le_refl _) (by simp) ?_; (case hd => rfl); (case hg => rfl); (case hr => go_simp <;> rfl); (case hp => exact (Reps.c6 (show Kd.M k69 _ _ _ (⟨t145, (⟨t146, t147, t148, t149⟩ : S52), t150⟩ : S69) [.int .i64 t145, .int .u16 t146, .int .u8 t147, .int .u8 t148, .int .u32 t149, .int .i64 t150] from (Zbg _ _ _ (⟨t145, (⟨t146, t147, t148, t149⟩ : S52), t150⟩ : S69) )) (Reps.none _ _))); intro v152 w20 ho21 hb hg_ hnew_; clear hg_ hnew_; (first | rw [← Ny151.out] at ho21 | (simp only [Int.reduceToNat] at ho21; rw [← Ny151.out] at ho21)); have HO153 := Za.mk (Kd.Zbk ho21 (Zl (by with_reducible repeat first | exact HB.out | apply Zc | apply Ze | apply Zd))); replace HB := Za.mk (Zo (by with_reducible repeat first | exact HB.out | apply Zc | apply Ze | apply Zd) hb); clear hb ho21) | ((with_reducible refine Zaj (f := 28) rfl ?_); refine Zai (some 19) rfl rfl Try.func28 (by kernel_rfl) rfl #[.int .u16 84, .int .u32 a1] rfl (by (try simp only [ZA, ZB, ZC]); first | done | rfl) ?_; (with_reducible refine (Zbs.calls 84 a1 t163 t164 t165 t166 t167 t168 _ A15.out).mono ?_); rintro e w22 ⟨rfl, hb⟩; refine ⟨_, rfl, ?_⟩; replace HO153 := Za.mk (Kd.Zam (by (with_reducible repeat (first | apply Kd.Zaa | apply Kd.Zy | apply Kd.Zz)); exact HO153.out) hb); replace HB := Za.mk (Zo (by with_reducible repeat first | exact HB.out | apply Zc | apply Ze | apply Zd) hb); (try clear hb); (try clear hb2); (try clear hk); (try clear hi)) | ((with_reducible refine Zba (b := .append) (xs := #[.tmp 17, .tmp 20]) rfl ?_); at_builtin; refine Kd.Zbb k69 (w0 := w) w.heap.size rfl (.tmp 17) (.tmp 20) 41 69 (.agg #[(.int .i64 0), (.int .u16 0), (.int .u8 0), (.int .u8 0), (.int .u32 0), (.int .i64 0)]) 24 rfl Try.underlying41 info69 rfl (by decide) (by omega) v152 y151 (⟨t163, (⟨t164, t165, t166, t167⟩ : S52), t168⟩ : S69) [.int .i64 t163, .int .u16 t164, .int .u8 t165, .int .u8 t166, .int .u32 t167, .int .i64 t168] (fun _ => True) (fun _ => False) rfl rfl ?aP (fun _ hk => hk.elim) ?aF ?aO ?aB ?aS ?aL ?_; (case aP => exact Zbg _ _ _ (⟨t163, (⟨t164, t165, t166, t167⟩ : S52), t168⟩ : S69)); (case aB => exact (by with_reducible repeat first | exact HB.out | apply Zc | apply Ze | apply Zd)); (case aF => exact (fun _ _ => trivial)); (case aO => exact (by (with_reducible repeat (first | apply Kd.Zaa | apply Kd.Zy | apply Kd.Zz)); exact HO153.out)); (case aS => exact (Zl (by with_reducible repeat first | exact HB.out | apply Zc | apply Ze | apply Zd))); (case aL => have := LMc16.out; omega); intro v170 w23 ho hb hg hat; rw [← Ny169.out] at ho; have n0_ := Za.mk (hb); have n1_ := Za.mk (ho); clear HB; clear HO153; have HB := n0_; have HO171 := n1_; clear n0_ n1_; clear ho hb hg hat) | ((with_reducible refine Zaj (f := 30) rfl ?_); refine Zai (some 25) rfl rfl Try.func30 (by kernel_rfl) rfl #[.int .i64 2, .int .u16 21, .int .u32 a2, .int .i64 a3] rfl (by (try simp only [ZA, ZB, ZC]); first | done | rfl) ?_; (with_reducible refine (Zak.calls 2 21 a2 a3 t172 t173 t174 t175 t176 t177 _ A17.out).mono ?_); rintro e w24 ⟨rfl, hb⟩; refine ⟨_, rfl, ?_⟩; replace HO171 := Za.mk (Kd.Zam (by (with_reducible repeat (first | apply Kd.Zaa | apply Kd.Zy | apply Kd.Zz)); exact HO171.out) hb); replace HB := Za.mk (Zo (by with_reducible repeat first | exact HB.out | apply Zc | apply Ze | apply Zd) hb); (try clear hb); (try clear hb2); (try clear hk); (try clear hi)) | ((with_reducible refine Zba (b := .append) (xs := #[.tmp 22, .tmp 26]) rfl ?_); at_builtin; refine Kd.Zbb k69 (w0 := w) w.heap.size rfl (.tmp 22) (.tmp 26) 41 69 (.agg #[(.int .i64 0), (.int .u16 0), (.int .u8 0), (.int .u8 0), (.int .u32 0), (.int .i64 0)]) 24 rfl Try.underlying41 info69 rfl (by decide) (by omega) v170 y169 (⟨t172, (⟨t173, t174, t175, t176⟩ : S52), t177⟩ : S69) [.int .i64 t172, .int .u16 t173, .int .u8 t174, .int .u8 t175, .int .u32 t176, .int .i64 t177] (fun _ => True) (fun _ => False) rfl rfl ?aP (fun _ hk => hk.elim) ?aF ?aO ?aB ?aS ?aL ?_; (case aP => exact Zbg _ _ _ (⟨t172, (⟨t173, t174, t175, t176⟩ : S52), t177⟩ : S69)); (case aB => exact (by with_reducible repeat first | exact HB.out | apply Zc | apply Ze | apply Zd)); (case aF => exact (fun _ _ => trivial)); (case aO => exact (by (with_reducible repeat (first | apply Kd.Zaa | apply Kd.Zy | apply Kd.Zz)); exact HO171.out)); (case aS => exact (Zl (by with_reducible repeat first | exact HB.out | apply Zc | apply Ze | apply Zd))); (case aL => have := LMc18.out; omega); intro v179 w25 ho hb hg hat; rw [← Ny178.out] at ho; have n0_ := Za.mk (hb); have n1_ := Za.mk (ho); clear HB; clear HO171; have HB := n0_; have HO180 := n1_; clear n0_ n1_; clear ho hb hg hat))
   go_ret
   exact ⟨_, by first | rfl | (simp [Zm, Zn] <;> rfl) | (simp [*, Zm, Zn] <;> rfl), by (with_reducible repeat (first | apply Kd.Zaa | apply Kd.Zy | apply Kd.Zz)); exact HO180.out, by with_reducible repeat first | exact HB.out | apply Zc | apply Ze | apply Zd⟩
  rw [if_neg c18] at H
  exact absurd H (by simp)
 rw [if_neg c16] at H
 exact absurd H (by simp)

end Go.Proofs.Ytgmbahldjiiajaa.P
