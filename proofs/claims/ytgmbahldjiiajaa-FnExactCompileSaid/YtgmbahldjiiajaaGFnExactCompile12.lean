import Derived.Test.YtgmbahldjiiajaaGFnExactCompile4
import Derived.Test.YtgmbahldjiiajaaGFnExactCompile11
import Derived.Test.YtgmbahldjiiajaaGFnExactCompile8
import Derived.Test.YtgmbahldjiiajaaGFnExactCompile10
import Derived.Test.YtgmbahldjiiajaaGFnExactCompile6
import Derived.Carry
import Derived.WalkArith
import Derived.Deep.LoopGhost
namespace Go.Proofs.Ytgmbahldjiiajaa.P
open Go.RowKit Go.Proofs.YtgmbahldjiiajaaW.PrintWords Go.Proofs.YtgmbahldjiiajaaW.PrintLast Go.Proofs.YtgmbahldjiiajaaW.PrintMore
attribute [local go_sem] max2_int min2_int max_two min_two max_three min_three max_four min_four
set_option linter.unusedVariables false
set_option linter.unusedSimpArgs false

def laws_eqPolicy.f (k : Nat) (l0_0 : List (S61)) (l1_0 : List (S61)) : Option (Bool) := (Zbn.f k l0_0 l1_0).bind fun t519 => (if t519 = true then (some true) else (some false))
set_option maxHeartbeats 8000000 in
set_option maxRecDepth 100000 in
theorem laws_eqPolicy.calls (k : Nat) (A0_0 : Option Addr) (c0_0 : Nat) (l0_0 : List (S61)) (A1_0 : Option Addr) (c1_0 : Nat) (l1_0 : List (S61)) (r : Bool) (w : World) (hr0_0 : Kd.C k61 w A0_0 l0_0.length l0_0) (hc0_0 : l0_0.length ≤ c0_0) (hr1_0 : Kd.C k61 w A1_0 l1_0.length l1_0) (hc1_0 : l1_0.length ≤ c1_0) (h : laws_eqPolicy.f k l0_0 l1_0 = some r) :
  Calls Try.prog 9 #[.agg #[.slice A0_0 l0_0.length c0_0], .agg #[.slice A1_0 l1_0.length c1_0]] w fun e w' => e = .returned (.bool r) ∧ Below w.heap.size w w' := by
 have hu31 := Try.underlying31
 have HR0_0 := Za.mk hr0_0
 have HC0_0 := Za.mk hc0_0
 clear hr0_0 hc0_0
 have HR1_0 := Za.mk hr1_0
 have HC1_0 := Za.mk hc1_0
 clear hr1_0 hc1_0
 have HB := Za.mk (Below.refl w.heap.size w)
 have H : ((Zbn.f k l0_0 l1_0).bind fun t519 => (if t519 = true then (some true) else (some false))) = some r := h
 clear h
 replace H := Option.bind_eq_some_iff.mp H
 obtain ⟨t519, A30, H⟩ := H
 replace H : (if t519 = true then (some true) else (some false)) = some r := H
 have A3 := Za.mk A30
 clear A30
 by_cases c4 : t519 = true
 ·subst c4
  have H1 : (some true) = some r := by rw [if_pos rfl] at H; exact H
  clear H
  have H := H1
  clear H1
  obtain rfl := Option.some.inj H
  go_enter Try.func9, Try.ntmps9
  go_wp2_with (first | ((with_reducible refine Zab (N := 2) rfl ?_); refine Zac ?hg (N := 2) ?hd (cs := #[.slice A0_0 l0_0.length c0_0]) (t := 31) ?hr ?_; (case hd => rfl); (case hg => rfl); (case hr => go_simp <;> rfl); intro gb517 hg w5 hbox hb; have BK517 := Za.mk (hbox); have GW517 := Za.mk ((by rw [hg]; exact (Zl (by with_reducible repeat first | exact HB.out | apply Zc | apply Ze | apply Zd)) : w.heap.size ≤ gb517)); have GE517 := Za.mk ((by rw [hg]; exact (Zl (by with_reducible repeat first | exact HB.out | apply Zc | apply Ze | apply Zd)) : w.heap.size ≤ gb517)); replace HB := Za.mk (Zo (by with_reducible repeat first | exact HB.out | apply Zc | apply Ze | apply Zd) hb); clear hb hbox hg) | ((with_reducible refine Zab (N := 3) rfl ?_); refine Zac ?hg (N := 3) ?hd (cs := #[.slice A1_0 l1_0.length c1_0]) (t := 31) ?hr ?_; (case hd => rfl); (case hg => rfl); (case hr => go_simp <;> rfl); intro gb518 hg w6 hbox hb; have BK518 := Za.mk (hbox); have GW518 := Za.mk ((by rw [hg]; exact (Zl (by with_reducible repeat first | exact HB.out | apply Zc | apply Ze | apply Zd | refine Zk ?_ GE517.out)) : w.heap.size ≤ gb518)); have GE518 := Za.mk ((by rw [hg]; exact (Zl (by with_reducible repeat first | exact HB.out | apply Zc | apply Ze | apply Zd | refine Zk ?_ GE517.out)) : w.heap.size ≤ gb518)); replace HB := Za.mk (Zo (by with_reducible repeat first | exact HB.out | apply Zc | apply Ze | apply Zd | refine Zk ?_ GE517.out) hb); have NB517_518 := Za.mk ((by rw [hg]; exact Nat.ne_of_lt (Zs (g := gb517) (o := .cells #[.slice A0_0 l0_0.length c0_0] 31 (0, 0)) (by (with_reducible repeat first | apply Zg | apply Zf | apply Zh); exact BK517.out)) : gb517 ≠ gb518)); have NB518_517 := Za.mk ((by rw [hg]; exact Nat.ne_of_gt (Zs (g := gb517) (o := .cells #[.slice A0_0 l0_0.length c0_0] 31 (0, 0)) (by (with_reducible repeat first | apply Zg | apply Zf | apply Zh); exact BK517.out)) : gb518 ≠ gb517)); replace BK517 := Za.mk (Zp (g := gb517) (o := .cells #[.slice A0_0 l0_0.length c0_0] 31 (0, 0)) (by (with_reducible repeat first | apply Zg | apply Zf | apply Zh); exact BK517.out) hb); clear hb hbox hg; have hnb7 := NB517_518.out; have hnc7 := NB518_517.out; have hcz8_0 : w6.cell? ⟨gb517, 0, none⟩ = some (.slice A0_0 l0_0.length c0_0) := (Zb BK517.out 0).trans rfl; have hfz8_0 := Zj BK517.out 0; have hcz9_0 : w6.cell? ⟨gb518, 0, none⟩ = some (.slice A1_0 l1_0.length c1_0) := (Zb BK518.out 0).trans rfl; have hfz9_0 := Zj BK518.out 0) | ((with_reducible refine Zaj (f := 22) rfl ?_); refine Zai (some 9) rfl rfl Try.func22 (by kernel_rfl) rfl #[.slice A0_0 l0_0.length c0_0, .slice A1_0 l1_0.length c1_0] rfl (by (try simp only [ZA, ZB, ZC]); first | done | rfl) ?_; (with_reducible refine (Zbn.calls k _ _ l0_0 _ _ l1_0 true _ ?side1 ?side2 ?side3 ?side4 A3.out).mono ?_); (case side1 => repeat (first | exact (Kd.Zan HR0_0.out HB.out) | (with_reducible refine Kd.Zau ?_ _) | (with_reducible refine Kd.Zaw ?_ _) | (with_reducible refine Kd.Zav ?_))); (case side2 => exact HC0_0.out); (case side3 => repeat (first | exact (Kd.Zan HR1_0.out HB.out) | (with_reducible refine Kd.Zau ?_ _) | (with_reducible refine Kd.Zaw ?_ _) | (with_reducible refine Kd.Zav ?_))); (case side4 => exact HC1_0.out); rintro e w10 ⟨rfl, hb⟩; refine ⟨_, rfl, ?_⟩; replace BK517 := Za.mk (Zp (g := gb517) (o := .cells #[.slice A0_0 l0_0.length c0_0] 31 (0, 0)) (by (with_reducible repeat first | apply Zg | apply Zf | apply Zh); exact BK517.out) hb); replace BK518 := Za.mk (Zp (g := gb518) (o := .cells #[.slice A1_0 l1_0.length c1_0] 31 (0, 0)) (by (with_reducible repeat first | apply Zg | apply Zf | apply Zh); exact BK518.out) hb); replace HB := Za.mk (Zo (by with_reducible repeat first | exact HB.out | apply Zc | apply Ze | apply Zd | refine Zk ?_ GE517.out | refine Zk ?_ GE518.out) hb); (try clear hb); (try clear hb2); (try clear hk); (try clear hi)))
  go_ret
  exact ⟨by first | rfl | (simp [Zm, Zn] <;> rfl) | (simp [*, Zm, Zn] <;> rfl), by with_reducible repeat first | exact HB.out | apply Zc | apply Ze | apply Zd | refine Zk ?_ GE517.out | refine Zk ?_ GE518.out⟩
 replace c4 := Bool.eq_false_iff.mpr c4
 subst c4
 have H1 : (some false) = some r := by rw [if_neg (show ¬ (false = true) by decide)] at H; exact H
 clear H
 have H := H1
 clear H1
 obtain rfl := Option.some.inj H
 go_enter Try.func9, Try.ntmps9
 go_wp2_with (first | ((with_reducible refine Zab (N := 2) rfl ?_); refine Zac ?hg (N := 2) ?hd (cs := #[.slice A0_0 l0_0.length c0_0]) (t := 31) ?hr ?_; (case hd => rfl); (case hg => rfl); (case hr => go_simp <;> rfl); intro gb517 hg w11 hbox hb; have BK517 := Za.mk (hbox); have GW517 := Za.mk ((by rw [hg]; exact (Zl (by with_reducible repeat first | exact HB.out | apply Zc | apply Ze | apply Zd)) : w.heap.size ≤ gb517)); have GE517 := Za.mk ((by rw [hg]; exact (Zl (by with_reducible repeat first | exact HB.out | apply Zc | apply Ze | apply Zd)) : w.heap.size ≤ gb517)); replace HB := Za.mk (Zo (by with_reducible repeat first | exact HB.out | apply Zc | apply Ze | apply Zd) hb); clear hb hbox hg) | ((with_reducible refine Zab (N := 3) rfl ?_); refine Zac ?hg (N := 3) ?hd (cs := #[.slice A1_0 l1_0.length c1_0]) (t := 31) ?hr ?_; (case hd => rfl); (case hg => rfl); (case hr => go_simp <;> rfl); intro gb518 hg w12 hbox hb; have BK518 := Za.mk (hbox); have GW518 := Za.mk ((by rw [hg]; exact (Zl (by with_reducible repeat first | exact HB.out | apply Zc | apply Ze | apply Zd | refine Zk ?_ GE517.out)) : w.heap.size ≤ gb518)); have GE518 := Za.mk ((by rw [hg]; exact (Zl (by with_reducible repeat first | exact HB.out | apply Zc | apply Ze | apply Zd | refine Zk ?_ GE517.out)) : w.heap.size ≤ gb518)); replace HB := Za.mk (Zo (by with_reducible repeat first | exact HB.out | apply Zc | apply Ze | apply Zd | refine Zk ?_ GE517.out) hb); have NB517_518 := Za.mk ((by rw [hg]; exact Nat.ne_of_lt (Zs (g := gb517) (o := .cells #[.slice A0_0 l0_0.length c0_0] 31 (0, 0)) (by (with_reducible repeat first | apply Zg | apply Zf | apply Zh); exact BK517.out)) : gb517 ≠ gb518)); have NB518_517 := Za.mk ((by rw [hg]; exact Nat.ne_of_gt (Zs (g := gb517) (o := .cells #[.slice A0_0 l0_0.length c0_0] 31 (0, 0)) (by (with_reducible repeat first | apply Zg | apply Zf | apply Zh); exact BK517.out)) : gb518 ≠ gb517)); replace BK517 := Za.mk (Zp (g := gb517) (o := .cells #[.slice A0_0 l0_0.length c0_0] 31 (0, 0)) (by (with_reducible repeat first | apply Zg | apply Zf | apply Zh); exact BK517.out) hb); clear hb hbox hg; have hnb13 := NB517_518.out; have hnc13 := NB518_517.out; have hcz14_0 : w12.cell? ⟨gb517, 0, none⟩ = some (.slice A0_0 l0_0.length c0_0) := (Zb BK517.out 0).trans rfl; have hfz14_0 := Zj BK517.out 0; have hcz15_0 : w12.cell? ⟨gb518, 0, none⟩ = some (.slice A1_0 l1_0.length c1_0) := (Zb BK518.out 0).trans rfl; have hfz15_0 := Zj BK518.out 0) | ((with_reducible refine Zaj (f := 22) rfl ?_); refine Zai (some 9) rfl rfl Try.func22 (by kernel_rfl) rfl #[.slice A0_0 l0_0.length c0_0, .slice A1_0 l1_0.length c1_0] rfl (by (try simp only [ZA, ZB, ZC]); first | done | rfl) ?_; (with_reducible refine (Zbn.calls k _ _ l0_0 _ _ l1_0 false _ ?side1 ?side2 ?side3 ?side4 A3.out).mono ?_); (case side1 => repeat (first | exact (Kd.Zan HR0_0.out HB.out) | (with_reducible refine Kd.Zau ?_ _) | (with_reducible refine Kd.Zaw ?_ _) | (with_reducible refine Kd.Zav ?_))); (case side2 => exact HC0_0.out); (case side3 => repeat (first | exact (Kd.Zan HR1_0.out HB.out) | (with_reducible refine Kd.Zau ?_ _) | (with_reducible refine Kd.Zaw ?_ _) | (with_reducible refine Kd.Zav ?_))); (case side4 => exact HC1_0.out); rintro e w16 ⟨rfl, hb⟩; refine ⟨_, rfl, ?_⟩; replace BK517 := Za.mk (Zp (g := gb517) (o := .cells #[.slice A0_0 l0_0.length c0_0] 31 (0, 0)) (by (with_reducible repeat first | apply Zg | apply Zf | apply Zh); exact BK517.out) hb); replace BK518 := Za.mk (Zp (g := gb518) (o := .cells #[.slice A1_0 l1_0.length c1_0] 31 (0, 0)) (by (with_reducible repeat first | apply Zg | apply Zf | apply Zh); exact BK518.out) hb); replace HB := Za.mk (Zo (by with_reducible repeat first | exact HB.out | apply Zc | apply Ze | apply Zd | refine Zk ?_ GE517.out | refine Zk ?_ GE518.out) hb); (try clear hb); (try clear hb2); (try clear hk); (try clear hi)))
 go_ret
 exact ⟨by first | rfl | (simp [Zm, Zn] <;> rfl) | (simp [*, Zm, Zn] <;> rfl), by with_reducible repeat first | exact HB.out | apply Zc | apply Ze | apply Zd | refine Zk ?_ GE517.out | refine Zk ?_ GE518.out⟩
def cOf (x : S139) : S95 := ⟨x.f0, x.f1, x.f2⟩
def rOf (x : S117) : S65 := ⟨x.f0.map cOf⟩
def eOf (x : S58) : S61 := ⟨x.f0, x.f1, x.f2.map rOf⟩
theorem rdCL (l : List S139) (i : Nat) (h : i < l.length) : rd_T139 l (i : Int) = l[i] := by
 simp [rd_T139, List.getD_eq_getElem?_getD, List.getElem?_eq_getElem h]
theorem rdRL (l : List S117) (i : Nat) (h : i < l.length) : rd_T117 l (i : Int) = l[i] := by
 simp [rd_T117, List.getD_eq_getElem?_getD, List.getElem?_eq_getElem h]
theorem rdEL (l : List S58) (i : Nat) (h : i < l.length) : rd_T58 l (i : Int) = l[i] := by
 simp [rd_T58, List.getD_eq_getElem?_getD, List.getElem?_eq_getElem h]
theorem rdCI (l : List S95) (i : Nat) (h : i < l.length) : Zx l (i : Int) = l[i] := by
 simp [Zx, List.getD_eq_getElem?_getD, List.getElem?_eq_getElem h]
theorem rdRI (l : List S65) (i : Nat) (h : i < l.length) : Zao l (i : Int) = l[i] := by
 simp [Zao, List.getD_eq_getElem?_getD, List.getElem?_eq_getElem h]
theorem rdEI (l : List S61) (i : Nat) (h : i < l.length) : Zi l (i : Int) = l[i] := by
 simp [Zi, List.getD_eq_getElem?_getD, List.getElem?_eq_getElem h]
def Left (left : Int) (small : Prop) (t : Int) : Prop := t = -1 ∨ (0 ≤ t ∧ t ≤ left ∧ small)
theorem szConS_t (l : List S139) (left : Int) (hl : l.length ≤ maxLen) (h0 : 0 ≤ left) (h1 : left ≤ 1048576) : EvT (fun _ => laws_szConS.f l left) (Left left (l.length ≤ 1048576)) := by
 unfold maxLen at hl
 unfold laws_szConS.f
 rw [Zae (by omega) (by omega)]
 exact evt_ite (fun _ => evt_some (.inl rfl)) fun c => evt_some (.inr ⟨by omega, by omega, by omega⟩)
theorem szRule_t (l : List S139) (left : Int) (hl : l.length ≤ maxLen) (h0 : 0 ≤ left) (h1 : left ≤ 1048576) : EvT (fun _ => laws_szRule.f l left) (Left left (l.length ≤ 1048576)) := by
 unfold laws_szRule.f
 refine evt_bind (szConS_t l left hl h0 h1) fun t ht => ?_
 exact evt_ite (fun _ => evt_some (.inl rfl)) fun c => evt_some ht
theorem szRuleS_t (l : List S117) (left : Int) (hl : l.length ≤ maxLen) (hm : ∀ x ∈ l, x.f0.length ≤ maxLen) (h0 : 0 ≤ left) (h1 : left ≤ 1048576) :
  EvT (fun k => Zby.f k l left) (Left left (l.length ≤ 1048576 ∧ ∀ x ∈ l, x.f0.length ≤ 1048576)) := by
 unfold maxLen at hl
 unfold Zby.f
 rw [Zae (by omega) (by omega)]
 refine evt_ite (fun _ => evt_some (.inl rfl)) fun c => ?_
 have key : ∀ (d i : Nat) (lf : Int), i + d = l.length → 0 ≤ lf → lf ≤ left → (∀ x ∈ l.take i, x.f0.length ≤ 1048576) → EvT (fun k => Zby.l0 k l lf (i : Int)) (Left left (l.length ≤ 1048576 ∧ ∀ x ∈ l, x.f0.length ≤ 1048576)) := by
  intro d
  induction d with
  | zero =>
   intro i lf hi g0 g1 g2
   refine evt_ev (r := lf) (ev_end fun k => by simp only [Zby.l0]; rw [if_neg (by omega)]) (.inr ⟨g0, g1, by omega, ?_⟩)
   rw [List.take_of_length_le (by omega)] at g2
   exact g2
  | succ d ih =>
   intro i lf hi g0 g1 g2
   have hil : i < l.length := by omega
   refine evt_step _ (fun k => by simp only [Zby.l0]; rw [if_pos (by omega), if_pos (by omega), rdRL l i hil, Zae (i := (i : Int) + 1) (by omega) (by omega)]) (evt_bind (szRule_t l[i].f0 lf (hm _ (List.getElem_mem hil)) g0 (by omega)) ?_)
   rintro t (rfl | ⟨t0, t1, t2⟩)
   ·exact evt_ite (fun _ => evt_some (.inl rfl)) fun c => absurd (by decide) c
   ·refine evt_ite (fun c => absurd c (by omega)) fun _ => ?_
    refine ih (i + 1) t (by omega) t0 (by omega) ?_
    rw [← List.take_append_getElem hil]
    intro x hx
    rcases List.mem_append.1 hx with hx | hx
    ·exact g2 x hx
    ·rw [List.mem_singleton.1 hx]; exact t2
 obtain ⟨t, ht, hp⟩ := key l.length 0 (left - (l.length : Int)) (by omega) (by omega) (by omega) (by simp)
 exact ⟨t, ht, hp⟩
def SmallR (l : List S117) : Prop := l.length ≤ 1048576 ∧ ∀ x ∈ l, x.f0.length ≤ 1048576
theorem szEntry_t (a b : Int) (l : List S117) (left : Int) (hl : l.length ≤ maxLen) (hm : ∀ x ∈ l, x.f0.length ≤ maxLen) (h0 : 0 ≤ left) (h1 : left ≤ 1048576) :
  EvT (fun k => laws_szEntry.f k a b l left) (Left left (SmallR l)) := by
 unfold laws_szEntry.f
 refine evt_bind (szRuleS_t l left hl hm h0 h1) fun t ht => ?_
 exact evt_ite (fun _ => evt_some (.inl rfl)) fun c => evt_some ht
def SmallE (l : List S58) : Prop := l.length ≤ 1048576 ∧ ∀ x ∈ l, SmallR x.f2
theorem szEntryS_t (l : List S58) (left : Int) (hl : l.length ≤ maxLen) (hm : ∀ x ∈ l, x.f2.length ≤ maxLen ∧ ∀ y ∈ x.f2, y.f0.length ≤ maxLen) (h0 : 0 ≤ left) (h1 : left ≤ 1048576) :
  EvT (fun k => Zbz.f k l left) (Left left (SmallE l)) := by
 unfold maxLen at hl
 unfold Zbz.f
 rw [Zae (by omega) (by omega)]
 refine evt_ite (fun _ => evt_some (.inl rfl)) fun c => ?_
 have key : ∀ (d i : Nat) (lf : Int), i + d = l.length → 0 ≤ lf → lf ≤ left → (∀ x ∈ l.take i, SmallR x.f2) → EvT (fun k => Zbz.l0 k l lf (i : Int)) (Left left (SmallE l)) := by
  intro d
  induction d with
  | zero =>
   intro i lf hi g0 g1 g2
   refine evt_ev (r := lf) (ev_end fun k => by simp only [Zbz.l0]; rw [if_neg (by omega)]) (.inr ⟨g0, g1, by omega, ?_⟩)
   rw [List.take_of_length_le (by omega)] at g2
   exact g2
  | succ d ih =>
   intro i lf hi g0 g1 g2
   have hil : i < l.length := by omega
   have hmi := hm _ (List.getElem_mem hil)
   refine evt_step _ (fun k => by simp only [Zbz.l0]; rw [if_pos (by omega), if_pos (by omega), rdEL l i hil, Zae (i := (i : Int) + 1) (by omega) (by omega)]) (evt_bind (szEntry_t l[i].f0 l[i].f1 l[i].f2 lf hmi.1 hmi.2 g0 (by omega)) ?_)
   rintro t (rfl | ⟨t0, t1, t2⟩)
   ·exact evt_ite (fun _ => evt_some (.inl rfl)) fun c => absurd (by decide) c
   ·refine evt_ite (fun c => absurd c (by omega)) fun _ => ?_
    refine ih (i + 1) t (by omega) t0 (by omega) ?_
    rw [← List.take_append_getElem hil]
    intro x hx
    rcases List.mem_append.1 hx with hx | hx
    ·exact g2 x hx
    ·rw [List.mem_singleton.1 hx]; exact t2
 obtain ⟨t, ht, hp⟩ := key l.length 0 (left - (l.length : Int)) (by omega) (by omega) (by omega) (by simp)
 exact ⟨t, ht, hp⟩
theorem szPolicy_t (l : List S58) (left : Int) (hl : l.length ≤ maxLen) (hm : ∀ x ∈ l, x.f2.length ≤ maxLen ∧ ∀ y ∈ x.f2, y.f0.length ≤ maxLen) (h0 : 0 ≤ left) (h1 : left ≤ 1048576) :
  EvT (fun k => laws_szPolicy.f k l left) (Left left (SmallE l)) := by
 unfold laws_szPolicy.f
 refine evt_bind (szEntryS_t l left hl hm h0 h1) fun t ht => ?_
 exact evt_ite (fun _ => evt_some (.inl rfl)) fun c => evt_some ht
theorem toConS_ev (l : List S139) (hl : l.length ≤ 1048576) : Ev (fun k => Zbw.f k l) (l.map cOf) := by
 have key := ev_loop (fun k s i => Zbw.l0 k l s i) l.length (filled cOf l z95) _ _ (filled_zero cOf l z95) (filled_all cOf l z95) (fun i hi r hr => by
  have hf := filled_length cOf l z95 i (by omega)
  have hs := filled_set cOf l z95 i hi
  refine Zbe _ (fun k => ?_) hr
  simp only [Zbw.l0, laws_toCon.f, Option.bind_some]
  rw [if_pos (by omega), if_pos (by omega), if_pos (by omega), rdCL l i hi, Zae (by omega) (by omega), Int.toNat_natCast]
  have e : (⟨l[i].f0, l[i].f1, l[i].f2⟩ : S95) = cOf l[i] := rfl
  rw [e, hs]
  rfl) (l.map cOf) (ev_end fun k => by simp only [Zbw.l0]; rw [if_neg (by omega)])
 refine Ev.congr (fun k => ?_) key
 unfold Zbw.f
 rw [if_pos (by omega), if_pos (by omega), Int.toNat_natCast]
theorem toRuleS_ev (l : List S117) (hs : SmallR l) : Ev (fun k => Zbv.f k l) (l.map rOf) := by
 obtain ⟨hl, hm⟩ := hs
 have key := ev_loop (fun k s i => Zbv.l0 k l s i) l.length (filled rOf l z65) _ _ (filled_zero rOf l z65) (filled_all rOf l z65) (fun i hi r hr => by
  have hf := filled_length rOf l z65 i (by omega)
  have hs := filled_set rOf l z65 i hi
  refine Zbe (fun k => (laws_toRule.f k l[i].f0).bind fun t => Zbv.l0 k l ((filled rOf l z65 i).set i (⟨t⟩ : S65)) ((i + 1 : Nat) : Int)) (fun k => ?_) (Ev.bind (a := l[i].f0.map cOf) ?_ (Ev.congr (fun k => ?_) hr))
  ·simp only [Zbv.l0]
   rw [if_pos (by omega), if_pos (by omega), rdRL l i hi, Zae (by omega) (by omega), Int.toNat_natCast]
   congr 1
   funext bt
   rw [if_pos (by omega)]
   rfl
  ·unfold laws_toRule.f
   exact Ev.bind (toConS_ev _ (hm _ (List.getElem_mem hi))) (ev_is fun _ => rfl)
  ·have e : (⟨l[i].f0.map cOf⟩ : S65) = rOf l[i] := rfl
   rw [e, hs]) (l.map rOf) (ev_end fun k => by simp only [Zbv.l0]; rw [if_neg (by omega)])
 refine Ev.congr (fun k => ?_) key
 unfold Zbv.f
 rw [if_pos (by omega), if_pos (by omega), Int.toNat_natCast]
theorem toPolicy_ev (l : List S58) (hs : SmallE l) : Ev (fun k => Zcl.f k l) (l.map eOf) := by
 obtain ⟨hl, hm⟩ := hs
 have key := ev_loop (fun k s i => Zcd.l0 k l s i) l.length (filled eOf l z61) _ _ (filled_zero eOf l z61) (filled_all eOf l z61) (fun i hi r hr => by
  have hf := filled_length eOf l z61 i (by omega)
  have hs := filled_set eOf l z61 i hi
  refine Zbe (fun k => (laws_toEntry.f k l[i].f0 l[i].f1 l[i].f2).bind fun t => Zcd.l0 k l ((filled eOf l z61 i).set i (⟨t.1, t.2.1, t.2.2⟩ : S61)) ((i + 1 : Nat) : Int)) (fun k => ?_) (Ev.bind (a := (l[i].f0, l[i].f1, l[i].f2.map rOf)) ?_ (Ev.congr (fun k => ?_) hr))
  ·simp only [Zcd.l0]
   rw [if_pos (by omega), if_pos (by omega), rdEL l i hi, Zae (by omega) (by omega), Int.toNat_natCast]
   congr 1
   funext bt
   rw [if_pos (by omega)]
   rfl
  ·unfold laws_toEntry.f
   exact Ev.bind (toRuleS_ev _ (hm _ (List.getElem_mem hi))) (ev_is fun _ => rfl)
  ·have e : (⟨l[i].f0, l[i].f1, l[i].f2.map rOf⟩ : S61) = eOf l[i] := rfl
   simp only
   rw [e, hs]) (l.map eOf) (ev_end fun k => by simp only [Zcd.l0]; rw [if_neg (by omega)])
 unfold Zcl.f
 refine Ev.bind (a := l.map eOf) (Ev.congr (fun k => ?_) key) (ev_is fun _ => rfl)
 unfold Zcd.f
 rw [if_pos (by omega), if_pos (by omega), Int.toNat_natCast]
theorem eqConS_ev (a : List S95) (hl : a.length ≤ 1048576) : Ev (fun k => Zbl.f k a a) true := by
 have key := ev_loop (fun k (s : Unit) i => Zbl.l0 k a a i) a.length (fun _ => ()) () () rfl rfl (fun i hi r hr => by
  refine Zbe _ (fun k => ?_) hr
  simp only [Zbl.l0, laws_eqCon.f]
  rw [if_pos (by omega), if_pos (by omega), if_pos (by omega), if_pos trivial, if_pos trivial, if_pos trivial, Option.bind_some, if_pos rfl, Zae (by omega) (by omega)]
  rfl) true (ev_end fun k => by simp only [Zbl.l0]; rw [if_neg (by omega)])
 refine Ev.congr (fun k => ?_) key
 unfold Zbl.f
 rw [if_pos rfl]
def SmallRI (l : List S65) : Prop := l.length ≤ 1048576 ∧ ∀ x ∈ l, x.f0.length ≤ 1048576
def SmallEI (l : List S61) : Prop := l.length ≤ 1048576 ∧ ∀ x ∈ l, SmallRI x.f2
theorem eqRuleS_ev (a : List S65) (hs : SmallRI a) : Ev (fun k => Zbm.f k a a) true := by
 obtain ⟨hl, hm⟩ := hs
 have key := ev_loop (fun k (s : Unit) i => Zbm.l0 k a a i) a.length (fun _ => ()) () () rfl rfl (fun i hi r hr => by
  refine Zbe (fun k => (laws_eqRule.f k a[i].f0 a[i].f0).bind fun t => if t = true then Zbm.l0 k a a ((i + 1 : Nat) : Int) else some false) (fun k => ?_) (Ev.bind (a := true) ?_ (Ev.congr (fun k => ?_) hr))
  ·simp only [Zbm.l0]
   rw [if_pos (by omega), if_pos (by omega), if_pos (by omega), rdRI a i hi, Zae (by omega) (by omega)]
   rfl
  ·unfold laws_eqRule.f
   exact Ev.bind (eqConS_ev _ (hm _ (List.getElem_mem hi))) (ev_is fun _ => by rw [if_pos rfl])
  ·rw [if_pos rfl]) true (ev_end fun k => by simp only [Zbm.l0]; rw [if_neg (by omega)])
 refine Ev.congr (fun k => ?_) key
 unfold Zbm.f
 rw [if_pos rfl]
theorem eqPolicy_ev (a : List S61) (hs : SmallEI a) : Ev (fun k => laws_eqPolicy.f k a a) true := by
 obtain ⟨hl, hm⟩ := hs
 have key := ev_loop (fun k (s : Unit) i => Zbn.l0 k a a i) a.length (fun _ => ()) () () rfl rfl (fun i hi r hr => by
  refine Zbe (fun k => (laws_eqEntry.f k a[i].f0 a[i].f1 a[i].f2 a[i].f0 a[i].f1 a[i].f2).bind fun t => if t = true then Zbn.l0 k a a ((i + 1 : Nat) : Int) else some false) (fun k => ?_) (Ev.bind (a := true) ?_ (Ev.congr (fun k => ?_) hr))
  ·simp only [Zbn.l0]
   rw [if_pos (by omega), if_pos (by omega), if_pos (by omega), rdEI a i hi, Zae (by omega) (by omega)]
   rfl
  ·unfold laws_eqEntry.f
   refine Ev.congr (fun k => ?_) (Ev.bind (eqRuleS_ev _ (hm _ (List.getElem_mem hi))) (f := fun _ t => if t = true then some true else some false) (ev_is fun _ => by rw [if_pos rfl]))
   rw [if_pos rfl, if_pos rfl]
  ·rw [if_pos rfl]) true (ev_end fun k => by simp only [Zbn.l0]; rw [if_neg (by omega)])
 unfold laws_eqPolicy.f
 refine Ev.bind (a := true) (Ev.congr (fun k => ?_) key) (ev_is fun _ => by rw [if_pos rfl])
 unfold Zbn.f
 rw [if_pos rfl]
theorem small_map (l : List S58) (hs : SmallE l) : SmallEI (l.map eOf) := by
 refine ⟨by rw [List.length_map]; exact hs.1, fun x hx => ?_⟩
 obtain ⟨y, hy, rfl⟩ := List.mem_map.1 hx
 have h := hs.2 y hy
 refine ⟨by show (y.f2.map rOf).length ≤ _; rw [List.length_map]; exact h.1, fun r hr => ?_⟩
 obtain ⟨z, hz, rfl⟩ := List.mem_map.1 (show r ∈ y.f2.map rOf from hr)
 show (z.f0.map cOf).length ≤ _
 rw [List.length_map]
 exact h.2 z hz
structure IsW (w0 W : World) (g : Nat) (v : Value) (items : List S69) (lab : Int) : Prop where
 blk : W.heap[g]? = some (.cells #[v, .int .i64 lab] 46 (0, 0))
 row : Kd.R k69 69 W w0.heap.size (fun k => k ≠ g) v items
 ge : w0.heap.size ≤ g
 bel : Below w0.heap.size w0 W
structure KeepW (W W' : World) (g : Nat) (v v' : Value) : Prop where
 size : W.heap.size ≤ W'.heap.size
 blk : ∀ k, k < W.heap.size → k ≠ g → some k ≠ v.ownBlock → W'.heap[k]? = W.heap[k]?
 own : v'.ownBlock = v.ownBlock ∨ ∃ b, v'.ownBlock = some b ∧ W.heap.size ≤ b
theorem KeepW.refl (W : World) (g : Nat) (v : Value) : KeepW W W g v v := ⟨Nat.le_refl _, fun _ _ _ _ => rfl, .inl rfl⟩
theorem KeepW.trans {W W1 W2 : World} {g : Nat} {v v1 v2 : Value} (h : KeepW W W1 g v v1) (k : KeepW W1 W2 g v1 v2) : KeepW W W2 g v v2 where
 size := Nat.le_trans h.size k.size
 blk j hj hg hv := by
  rw [k.blk j (Nat.lt_of_lt_of_le hj h.size) hg (fun e => by
   rcases h.own with h1 | ⟨b, h1, h2⟩
   ·exact hv (e.trans h1)
   ·rw [h1] at e; injection e with e; omega)]
  exact h.blk j hj hg hv
 own := by
  rcases k.own with h1 | ⟨b, h1, h2⟩
  ·rcases h.own with h3 | ⟨b, h3, h4⟩
   ·exact .inl (h1.trans h3)
   ·exact .inr ⟨b, h1.trans h3, h4⟩
  ·exact .inr ⟨b, h1, Nat.le_trans h.size h2⟩
theorem KeepW.below {W W1 W2 : World} {g : Nat} {v v1 : Value} (h : KeepW W W1 g v v1) (hb : Below W1.heap.size W1 W2) : KeepW W W2 g v v1 where
 size := Nat.le_trans h.size hb.size
 blk j hj hg hv := by
  rw [hb.block j (Nat.lt_of_lt_of_le hj h.size)]
  exact h.blk j hj hg hv
 own := h.own
theorem KeepW.box {W W' : World} {g bx : Nat} {v v' : Value} {o : Obj} (h : KeepW W W' g v v') (hb : W.heap[bx]? = some o) (h1 : bx ≠ g) (h2 : some bx ≠ v.ownBlock) : W'.heap[bx]? = some o ∧ some bx ≠ v'.ownBlock := by
 have hlt : bx < W.heap.size := (Array.getElem?_eq_some_iff.1 hb).1
 refine ⟨(h.blk bx hlt h1 h2).trans hb, fun e => ?_⟩
 rcases h.own with h3 | ⟨b, h3, h4⟩
 ·exact h2 (e.trans h3)
 ·rw [h3] at e
  injection e with e
  omega
theorem IsW.to {w0 W W' : World} {g : Nat} {v : Value} {items : List S69} {lab : Int} (h : IsW w0 W g v items lab) (hb : Below W.heap.size W W') : IsW w0 W' g v items lab :=
 ⟨Zp (o := .cells #[v, .int .i64 lab] 46 (0, 0)) h.blk hb, Kd.Zam h.row hb, h.ge, h.bel.trans (hb.mono h.bel.size)⟩
theorem IsW.lt {w0 W : World} {g : Nat} {v : Value} {items : List S69} {lab : Int} (h : IsW w0 W g v items lab) : g < W.heap.size := (Array.getElem?_eq_some_iff.1 h.blk).1
theorem IsW.ne {w0 W : World} {g : Nat} {v : Value} {items : List S69} {lab : Int} (h : IsW w0 W g v items lab) : v.ownBlock ≠ some g := fun e => h.row.1 g e rfl
theorem IsW.put {w0 W W1 : World} {g : Nat} {v v1 : Value} {items items1 : List S69} {lab : Int} (h : IsW w0 W g v items lab) (ho : Kd.R k69 69 W1 w0.heap.size (fun k => k ≠ g) v1 items1) (hb : Below w0.heap.size w0 W1) (hg : W.grownBy W1 v.ownBlock) (hat : v1.ownBlock = v.ownBlock ∨ ∃ b, v1.ownBlock = some b ∧ W.heap.size ≤ b) : IsW w0 (W1.setCell ⟨g, 0, none⟩ v1) g v1 items1 lab ∧ KeepW W (W1.setCell ⟨g, 0, none⟩ v1) g v v1 := by
 have hblk : W1.heap[g]? = some (.cells #[v, .int .i64 lab] 46 (0, 0)) := (hg.block g h.lt (fun e => h.ne e.symm)).trans h.blk
 refine ⟨⟨by simpa using blk_set hblk 0 v1, Kd.R_far (p := ⟨g, 0, none⟩) ho (fun k hk => hk) _, h.ge, hb.setCell (p := ⟨g, 0, none⟩) h.ge _⟩, ⟨?_, fun k hk h1 h2 => ?_, hat⟩⟩
 ·have := hg.size; simpa using this
 ·rw [Below.heap_setCell W1 ⟨g, 0, none⟩ _ k h1]
  exact hg.block k hk h2
set_option maxHeartbeats 4000000 in
theorem writer_label.does {w0 w : World} {g : Nat} {v : Value} {items : List S69} {lab : Int} (h : IsW w0 w g v items lab) : Calls Try.prog 41 #[.pointer (some ⟨g, 0, none⟩)] w fun e w' => e = .returned (.int .i64 (wrap64 (lab + 1))) ∧ IsW w0 w' g v items (wrap64 (lab + 1)) ∧ KeepW w w' g v v := by
 have c1 : w.cell? ⟨g, 1, none⟩ = some (.int .i64 lab) := (Zb h.blk 1).trans rfl
 have f1 := Zj h.blk 1
 have HW := Za.mk h
 clear h
 go_enter Try.func41, Try.ntmps41
 go_wp2
 go_ret
 refine ⟨rfl, ⟨by simpa using blk_set HW.out.blk 1 (.int .i64 (wrap64 (lab + 1))), Kd.R_far (p := ⟨g, 1, none⟩) HW.out.row (fun k hk => hk) _, HW.out.ge, HW.out.bel.setCell (p := ⟨g, 1, none⟩) HW.out.ge _⟩, ⟨by simp, fun k _ hg _ => Below.heap_setCell w ⟨g, 1, none⟩ _ k hg, .inl rfl⟩⟩
def wIns (c x : Int) : S69 := ⟨0, ⟨c, 0, 0, x⟩, 0⟩
def wBranch (kd c x far : Int) : S69 := ⟨kd, ⟨c, 0, 0, x⟩, far⟩
def wHere (far : Int) : S69 := ⟨4, ⟨0, 0, 0, 0⟩, far⟩
def wLoad (n : Int) : S69 := wIns 32 (n % 4294967296)
def Wrote (w0 w : World) (g : Nat) (v : Value) (items : List S69) (lab : Int) (e : Ending) (w' : World) : Prop := e = .returned (.tuple #[]) ∧ ∃ v', IsW w0 w' g v' items lab ∧ KeepW w w' g v v'
set_option maxHeartbeats 8000000 in
set_option maxRecDepth 100000 in
theorem writer_ins.does {w0 w : World} {g : Nat} {v : Value} {items : List S69} {lab : Int} (h : IsW w0 w g v items lab) (c x : Int) (hl : items.length < 1073741824) : Calls Try.prog 45 #[.pointer (some ⟨g, 0, none⟩), .int .u16 c, .int .u32 x] w (Wrote w0 w g v (items ++ [wIns c x]) lab) := by
 have hu := Try.underlying41
 obtain ⟨Ao, co, eo⟩ := Kd.Zay h.row
 subst eo
 have c0 : w.cell? ⟨g, 0, none⟩ = some (.slice Ao items.length co) := (Zb h.blk 0).trans rfl
 have f0 := Zj h.blk 0
 have HW := Za.mk h
 clear h
 go_enter Try.func45, Try.ntmps45
 go_wp2_with (first | ((with_reducible refine Zba (b := .append) (xs := #[.tmp 10, .tmp 15]) rfl ?_); at_builtin; refine Kd.Zbb k69 (w0 := w0) w0.heap.size rfl (.tmp 10) (.tmp 15) 41 69 (.agg #[(.int .i64 0), (.int .u16 0), (.int .u8 0), (.int .u8 0), (.int .u32 0), (.int .i64 0)]) 24 rfl Try.underlying41 info69 rfl (by decide) (by omega) (.slice Ao items.length co) items (wIns c x) [.int .i64 0, .int .u16 c, .int .u8 0, .int .u8 0, .int .u32 x, .int .i64 0] (fun k => k ≠ g) (fun _ => False) rfl rfl ?aP (fun _ hk => hk.elim) ?aF ?aO ?aB ?aS ?aL ?_; (case aP => exact Zbg _ _ _ (wIns c x)); (case aB => exact HW.out.bel); (case aF => exact (fun k hk e => by have := HW.out.lt; subst e; omega)); (case aO => exact HW.out.row); (case aS => exact Zl HW.out.bel); (case aL => omega); intro v1 w1 ho hb hg hat; obtain ⟨A1, c1, rfl⟩ := Kd.Zay ho; have hbk := (hg.block g HW.out.lt (fun e => HW.out.ne e.symm)).trans HW.out.blk; have f0 := Zj hbk 0; have c00 : w1.cell? ⟨g, 0, none⟩ = some (.slice Ao items.length co) := (Zb hbk 0).trans rfl; have HP := Za.mk (HW.out.put ho hb hg hat); clear ho hb hg hat hbk))
 go_end0
 have hP := HP.out
 rw [List.length_append, List.length_singleton] at hP
 exact ⟨rfl, _, hP⟩
set_option maxHeartbeats 8000000 in
set_option maxRecDepth 100000 in
theorem writer_branch.does {w0 w : World} {g : Nat} {v : Value} {items : List S69} {lab : Int} (h : IsW w0 w g v items lab) (kd c x far : Int) (hl : items.length < 1073741824) : Calls Try.prog 42 #[.pointer (some ⟨g, 0, none⟩), .int .i64 kd, .int .u16 c, .int .u32 x, .int .i64 far] w (Wrote w0 w g v (items ++ [wBranch kd c x far]) lab) := by
 have hu := Try.underlying41
 obtain ⟨Ao, co, eo⟩ := Kd.Zay h.row
 subst eo
 have c0 : w.cell? ⟨g, 0, none⟩ = some (.slice Ao items.length co) := (Zb h.blk 0).trans rfl
 have f0 := Zj h.blk 0
 have HW := Za.mk h
 clear h
 go_enter Try.func42, Try.ntmps42
 go_wp2_with (first | ((with_reducible refine Zba (b := .append) (xs := #[.tmp 14, .tmp 21]) rfl ?_); at_builtin; refine Kd.Zbb k69 (w0 := w0) w0.heap.size rfl (.tmp 14) (.tmp 21) 41 69 (.agg #[(.int .i64 0), (.int .u16 0), (.int .u8 0), (.int .u8 0), (.int .u32 0), (.int .i64 0)]) 24 rfl Try.underlying41 info69 rfl (by decide) (by omega) (.slice Ao items.length co) items (wBranch kd c x far) [.int .i64 kd, .int .u16 c, .int .u8 0, .int .u8 0, .int .u32 x, .int .i64 far] (fun k => k ≠ g) (fun _ => False) rfl rfl ?aP (fun _ hk => hk.elim) ?aF ?aO ?aB ?aS ?aL ?_; (case aP => exact Zbg _ _ _ (wBranch kd c x far)); (case aB => exact HW.out.bel); (case aF => exact (fun k hk e => by have := HW.out.lt; subst e; omega)); (case aO => exact HW.out.row); (case aS => exact Zl HW.out.bel); (case aL => omega); intro v1 w1 ho hb hg hat; obtain ⟨A1, c1, rfl⟩ := Kd.Zay ho; have hbk := (hg.block g HW.out.lt (fun e => HW.out.ne e.symm)).trans HW.out.blk; have f0 := Zj hbk 0; have c00 : w1.cell? ⟨g, 0, none⟩ = some (.slice Ao items.length co) := (Zb hbk 0).trans rfl; have HP := Za.mk (HW.out.put ho hb hg hat); clear ho hb hg hat hbk))
 go_end0
 have hP := HP.out
 rw [List.length_append, List.length_singleton] at hP
 exact ⟨rfl, _, hP⟩
set_option maxHeartbeats 8000000 in
set_option maxRecDepth 100000 in
theorem writer_here.does {w0 w : World} {g : Nat} {v : Value} {items : List S69} {lab : Int} (h : IsW w0 w g v items lab) (far : Int) (hl : items.length < 1073741824) : Calls Try.prog 44 #[.pointer (some ⟨g, 0, none⟩), .int .i64 far] w (Wrote w0 w g v (items ++ [wHere far]) lab) := by
 have hu := Try.underlying41
 obtain ⟨Ao, co, eo⟩ := Kd.Zay h.row
 subst eo
 have c0 : w.cell? ⟨g, 0, none⟩ = some (.slice Ao items.length co) := (Zb h.blk 0).trans rfl
 have f0 := Zj h.blk 0
 have HW := Za.mk h
 clear h
 go_enter Try.func44, Try.ntmps44
 go_wp2_with (first | ((with_reducible refine Zba (b := .append) (xs := #[.tmp 8, .tmp 11]) rfl ?_); at_builtin; refine Kd.Zbb k69 (w0 := w0) w0.heap.size rfl (.tmp 8) (.tmp 11) 41 69 (.agg #[(.int .i64 0), (.int .u16 0), (.int .u8 0), (.int .u8 0), (.int .u32 0), (.int .i64 0)]) 24 rfl Try.underlying41 info69 rfl (by decide) (by omega) (.slice Ao items.length co) items (wHere far) [.int .i64 4, .int .u16 0, .int .u8 0, .int .u8 0, .int .u32 0, .int .i64 far] (fun k => k ≠ g) (fun _ => False) rfl rfl ?aP (fun _ hk => hk.elim) ?aF ?aO ?aB ?aS ?aL ?_; (case aP => exact Zbg _ _ _ (wHere far)); (case aB => exact HW.out.bel); (case aF => exact (fun k hk e => by have := HW.out.lt; subst e; omega)); (case aO => exact HW.out.row); (case aS => exact Zl HW.out.bel); (case aL => omega); intro v1 w1 ho hb hg hat; obtain ⟨A1, c1, rfl⟩ := Kd.Zay ho; have hbk := (hg.block g HW.out.lt (fun e => HW.out.ne e.symm)).trans HW.out.blk; have f0 := Zj hbk 0; have c00 : w1.cell? ⟨g, 0, none⟩ = some (.slice Ao items.length co) := (Zb hbk 0).trans rfl; have HP := Za.mk (HW.out.put ho hb hg hat); clear ho hb hg hat hbk))
 go_end0
 have hP := HP.out
 rw [List.length_append, List.length_singleton] at hP
 exact ⟨rfl, _, hP⟩
set_option maxHeartbeats 8000000 in
set_option maxRecDepth 100000 in
theorem writer_load.does {w0 w : World} {g : Nat} {v : Value} {items : List S69} {lab : Int} (h : IsW w0 w g v items lab) (n : Int) (hl : items.length < 1073741824) : Calls Try.prog 40 #[.pointer (some ⟨g, 0, none⟩), .int .i64 n] w (Wrote w0 w g v (items ++ [wLoad n]) lab) := by
 have HW := Za.mk h
 clear h
 go_enter Try.func40, Try.ntmps40
 go_wp2_with (go_at_call 45; refine (writer_ins.does HW.out 32 (n % 4294967296) hl).mono ?_; rintro e w1 ⟨rfl, hP⟩; have HP := Za.mk hP; clear hP)
 go_end0
 exact ⟨rfl, HP.out⟩
def wHalf (at_ m b far : Int) : List S69 := if m = 0 then [] else wLoad at_ :: ((if m = 4294967295 then [] else [wIns 84 m]) ++ [wBranch 2 21 b far])
def wMaskTo (m b low far : Int) (i : Nat) : List S69 := (if 0 < i then wHalf (wrap64 (low + 4)) (m / 4294967296 % 4294967296) (b / 4294967296 % 4294967296) far else []) ++ (if 1 < i then wHalf low (m % 4294967296) (b % 4294967296) far else [])
def wMask (m b low far : Int) : List S69 := wMaskTo m b low far 2
theorem wHalf_length (at_ m b far : Int) : (wHalf at_ m b far).length ≤ 3 := by
 unfold wHalf
 split
 ·simp
 ·split <;> simp
theorem wMaskTo_length (m b low far : Int) (i : Nat) : (wMaskTo m b low far i).length ≤ 6 := by
 unfold wMaskTo
 have h1 := wHalf_length (wrap64 (low + 4)) (m / 4294967296 % 4294967296) (b / 4294967296 % 4294967296) far
 have h2 := wHalf_length low (m % 4294967296) (b % 4294967296) far
 rw [List.length_append]
 split <;> split <;> (try simp only [List.length_nil]) <;> omega
theorem IsW.ne_new {w0 w : World} {g : Nat} {v : Value} {items : List S69} {lab : Int} (h : IsW w0 w g v items lab) {k : Nat} (hk : w.heap.size ≤ k) : k ≠ g ∧ some k ≠ v.ownBlock := by
 refine ⟨fun e => by have := h.lt; omega, fun e => ?_⟩
 have := own_lt h.row.2.choose_spec.1 k e.symm
 omega
set_option maxHeartbeats 8000000 in
set_option maxRecDepth 100000 in
theorem writer_mask.does {w0 w : World} {g : Nat} {v : Value} {items : List S69} {lab : Int} (h : IsW w0 w g v items lab) (m b low far : Int) (hl : items.length + 16 < 1073741824) : Calls Try.prog 69 #[.pointer (some ⟨g, 0, none⟩), .agg #[.int .u64 m, .int .u64 b], .int .i64 low, .int .i64 far] w (Wrote w0 w g v (items ++ wMask m b low far) lab) := by
 have hB0 : Below w.heap.size w ((w.alloc (Obj.cells #[Value.int IntKind.u64 m, Value.int IntKind.u64 b] 124)).alloc (Obj.cells #[Value.int IntKind.i64 (wrap64 (low + 4)), Value.int IntKind.u32 (m / 4294967296 % 4294967296), Value.int IntKind.u32 (b / 4294967296 % 4294967296), Value.int IntKind.i64 low, Value.int IntKind.u32 (m % 4294967296), Value.int IntKind.u32 (b % 4294967296)] 135)) := Zc (Zc (Below.refl _ _) _) _
 have HK0 := Za.mk ((KeepW.refl w g v).below hB0)
 have HN0 := Za.mk (h.ne_new (Nat.le_add_right w.heap.size 1))
 have HW := Za.mk (h.to hB0)
 have HL := Za.mk hl
 clear h hB0 hl
 go_enter Try.func69, Try.ntmps69
 go_wp2
 go_loopg [31] 2 (fun kq v31 w' => ∃ (i : Nat) (v' : Value), v31 = .int .i64 (i:Int) ∧ Za (kq + i = 2) ∧ Za (IsW w0 w' g v' (items ++ wMaskTo m b low far i) lab) ∧ Za (KeepW w w' g v v') ∧ Za (w'.heap[w.heap.size + 1]? = some (.cells #[Value.int IntKind.i64 (wrap64 (low + 4)), Value.int IntKind.u32 (m / 4294967296 % 4294967296), Value.int IntKind.u32 (b / 4294967296 % 4294967296), Value.int IntKind.i64 low, Value.int IntKind.u32 (m % 4294967296), Value.int IntKind.u32 (b % 4294967296)] 135 (0, 0)) ∧ some (w.heap.size + 1) ≠ v'.ownBlock))
 case atStart => exact ⟨0, v, rfl, ⟨rfl⟩, ⟨by simpa [wMaskTo] using HW.out⟩, HK0, ⟨by simpa using blk_new (w.alloc (Obj.cells #[Value.int IntKind.u64 m, Value.int IntKind.u64 b] 124)) (Obj.cells #[Value.int IntKind.i64 (wrap64 (low + 4)), Value.int IntKind.u32 (m / 4294967296 % 4294967296), Value.int IntKind.u32 (b / 4294967296 % 4294967296), Value.int IntKind.i64 low, Value.int IntKind.u32 (m % 4294967296), Value.int IntKind.u32 (b % 4294967296)] 135), HN0.out.2⟩⟩
 case round =>
  clear HW HK0
  obtain ⟨i, v1, rfl, HK, HW, HKW, HB⟩ := hrel
  have HN1 := Za.mk (HW.out.ne_new (Nat.le_refl _))
  have HLi := Za.mk (wMaskTo_length m b low far i)
  obtain hi | hi | hi : i = 0 ∨ i = 1 ∨ i = 2 := by have := HK.out; omega
  ·subst hi
   obtain ⟨k1, hk⟩ : ∃ n, gk = n + 1 := ⟨gk - 1, by have := HK.out; omega⟩
   subst hk
   have q0 := (Zb HB.out.1 0).trans rfl
   have q1 := (Zb HB.out.1 1).trans rfl
   have q2 := (Zb HB.out.1 2).trans rfl
   have EL := Za.mk (show wMaskTo m b low far 1 = wMaskTo m b low far 0 ++ wHalf (wrap64 (low + 4)) (m / 4294967296 % 4294967296) (b / 4294967296 % 4294967296) far from by simp [wMaskTo])
   have EM : (m / 4294967296 % 4294967296) < 4294967296 := by omega
   generalize (m / 4294967296 % 4294967296) = mh at *
   generalize (b / 4294967296 % 4294967296) = bh at *
   by_cases hm : mh = 0
   ·have hm0 : (mh == 0) = true := beq_iff_eq.2 hm
    have hb1 : Below wr.heap.size wr (wr.alloc (Obj.cells #[Value.int IntKind.i64 (wrap64 (low + 4)), Value.int IntKind.u32 mh, Value.int IntKind.u32 bh] 135)) := Zc (Below.refl _ _) _
    have HS := Za.mk (show wHalf (wrap64 (low + 4)) mh bh far = [] from if_pos hm)
    have HW1 := Za.mk (HW.out.to hb1)
    have HK1 := Za.mk (HKW.out.below hb1)
    have HB1 := Za.mk (Zp HB.out.1 hb1)
    clear hb1 hm
    go_wp2_with fail
    go_roundg k1
    case measure => omega
    case rel => exact ⟨1, v1, by first | rfl | (simp; done), ⟨by have := HK.out; omega⟩, ⟨by rw [EL.out, HS.out, List.append_nil]; exact HW1.out⟩, HK1, ⟨HB1.out, HB.out.2⟩⟩
   ·have hm0 : (mh == 0) = false := beq_eq_false_iff_ne.2 hm
    have hb1 : Below wr.heap.size wr (wr.alloc (Obj.cells #[Value.int IntKind.i64 (wrap64 (low + 4)), Value.int IntKind.u32 mh, Value.int IntKind.u32 bh] 135)) := Zc (Below.refl _ _) _
    have HW1 := Za.mk (HW.out.to hb1)
    have HK1 := Za.mk (HKW.out.below hb1)
    have HB1 := Za.mk (Zp HB.out.1 hb1)
    have HP1 := Za.mk (show (wr.alloc (Obj.cells #[Value.int IntKind.i64 (wrap64 (low + 4)), Value.int IntKind.u32 mh, Value.int IntKind.u32 bh] 135)).heap[wr.heap.size]? = some (.cells #[Value.int IntKind.i64 (wrap64 (low + 4)), Value.int IntKind.u32 mh, Value.int IntKind.u32 bh] 135 (0, 0)) from blk_new _ _)
    clear hb1
    by_cases ho : mh = 4294967295
    ·have ho0 : (mh == 4294967295) = true := beq_iff_eq.2 ho
     have ho1 : (mh != 4294967295) = false := by simp [ho]
     have HS := Za.mk (show wHalf (wrap64 (low + 4)) mh bh far = [wLoad (wrap64 (low + 4)), wBranch 2 21 bh far] from by unfold wHalf; rw [if_neg hm, if_pos ho]; rfl)
     clear hm ho
     go_wp2_with (first | (go_at_call 40; refine (writer_load.does HW1.out (wrap64 (low + 4)) (by rw [List.length_append]; have := HL.out; have := HLi.out; (try simp only [List.length_cons, List.length_nil]); omega)).mono ?_; rintro e w5 ⟨rfl, v5, hW5, hK5⟩; have HB5 := Za.mk (hK5.box (HB1.out) HN0.out.1 (HB.out.2)); have HP5 := Za.mk (hK5.box (HP1.out) HN1.out.1 (HN1.out.2)); have p0 := (Zb HP5.out.1 0).trans rfl; have p1 := (Zb HP5.out.1 1).trans rfl; have p2 := (Zb HP5.out.1 2).trans rfl; have HW5 := Za.mk hW5; have HK5 := Za.mk (HK1.out.trans hK5); clear hW5 hK5) | (go_at_call 42; refine (writer_branch.does HW5.out 2 21 bh far (by rw [List.length_append, List.length_append]; have := HL.out; have := HLi.out; (try simp only [List.length_cons, List.length_nil]); omega)).mono ?_; rintro e w6 ⟨rfl, v6, hW6, hK6⟩; have HB6 := Za.mk (hK6.box (HB5.out.1) HN0.out.1 (HB5.out.2)); have HP6 := Za.mk (hK6.box (HP5.out.1) HN1.out.1 (HP5.out.2)); have p0 := (Zb HP6.out.1 0).trans rfl; have p1 := (Zb HP6.out.1 1).trans rfl; have p2 := (Zb HP6.out.1 2).trans rfl; have HW6 := Za.mk hW6; have HK6 := Za.mk (HK5.out.trans hK6); clear hW6 hK6))
     go_roundg k1
     case measure => omega
     case rel => exact ⟨1, v6, by first | rfl | (simp; done), ⟨by have := HK.out; omega⟩, ⟨by rw [EL.out, HS.out]; simpa using HW6.out⟩, HK6, ⟨HB6.out.1, HB6.out.2⟩⟩
    ·have ho0 : (mh == 4294967295) = false := beq_eq_false_iff_ne.2 ho
     have ho1 : (mh != 4294967295) = true := by simp [ho]
     have HS := Za.mk (show wHalf (wrap64 (low + 4)) mh bh far = [wLoad (wrap64 (low + 4)), wIns 84 mh, wBranch 2 21 bh far] from by unfold wHalf; rw [if_neg hm, if_neg ho]; rfl)
     clear hm ho
     go_wp2_with (first | (go_at_call 40; refine (writer_load.does HW1.out (wrap64 (low + 4)) (by rw [List.length_append]; have := HL.out; have := HLi.out; (try simp only [List.length_cons, List.length_nil]); omega)).mono ?_; rintro e w5 ⟨rfl, v5, hW5, hK5⟩; have HB5 := Za.mk (hK5.box (HB1.out) HN0.out.1 (HB.out.2)); have HP5 := Za.mk (hK5.box (HP1.out) HN1.out.1 (HN1.out.2)); have p0 := (Zb HP5.out.1 0).trans rfl; have p1 := (Zb HP5.out.1 1).trans rfl; have p2 := (Zb HP5.out.1 2).trans rfl; have HW5 := Za.mk hW5; have HK5 := Za.mk (HK1.out.trans hK5); clear hW5 hK5) | (go_at_call 45; refine (writer_ins.does HW5.out 84 mh (by rw [List.length_append, List.length_append]; have := HL.out; have := HLi.out; (try simp only [List.length_cons, List.length_nil]); omega)).mono ?_; rintro e w6 ⟨rfl, v6, hW6, hK6⟩; have HB6 := Za.mk (hK6.box (HB5.out.1) HN0.out.1 (HB5.out.2)); have HP6 := Za.mk (hK6.box (HP5.out.1) HN1.out.1 (HP5.out.2)); have p0 := (Zb HP6.out.1 0).trans rfl; have p1 := (Zb HP6.out.1 1).trans rfl; have p2 := (Zb HP6.out.1 2).trans rfl; have HW6 := Za.mk hW6; have HK6 := Za.mk (HK5.out.trans hK6); clear hW6 hK6) | (go_at_call 42; refine (writer_branch.does HW6.out 2 21 bh far (by rw [List.length_append, List.length_append, List.length_append]; have := HL.out; have := HLi.out; (try simp only [List.length_cons, List.length_nil]); omega)).mono ?_; rintro e w7 ⟨rfl, v7, hW7, hK7⟩; have HB7 := Za.mk (hK7.box (HB6.out.1) HN0.out.1 (HB6.out.2)); have HP7 := Za.mk (hK7.box (HP6.out.1) HN1.out.1 (HP6.out.2)); have p0 := (Zb HP7.out.1 0).trans rfl; have p1 := (Zb HP7.out.1 1).trans rfl; have p2 := (Zb HP7.out.1 2).trans rfl; have HW7 := Za.mk hW7; have HK7 := Za.mk (HK6.out.trans hK7); clear hW7 hK7))
     go_roundg k1
     case measure => omega
     case rel => exact ⟨1, v7, by first | rfl | (simp; done), ⟨by have := HK.out; omega⟩, ⟨by rw [EL.out, HS.out]; simpa using HW7.out⟩, HK7, ⟨HB7.out.1, HB7.out.2⟩⟩
  ·subst hi
   obtain ⟨k1, hk⟩ : ∃ n, gk = n + 1 := ⟨gk - 1, by have := HK.out; omega⟩
   subst hk
   have q0 := (Zb HB.out.1 3).trans rfl
   have q1 := (Zb HB.out.1 4).trans rfl
   have q2 := (Zb HB.out.1 5).trans rfl
   have EL := Za.mk (show wMaskTo m b low far 2 = wMaskTo m b low far 1 ++ wHalf low (m % 4294967296) (b % 4294967296) far from by simp [wMaskTo])
   have EM : (m % 4294967296) < 4294967296 := by omega
   generalize (m % 4294967296) = mh at *
   generalize (b % 4294967296) = bh at *
   by_cases hm : mh = 0
   ·have hm0 : (mh == 0) = true := beq_iff_eq.2 hm
    have hb1 : Below wr.heap.size wr (wr.alloc (Obj.cells #[Value.int IntKind.i64 low, Value.int IntKind.u32 mh, Value.int IntKind.u32 bh] 135)) := Zc (Below.refl _ _) _
    have HS := Za.mk (show wHalf low mh bh far = [] from if_pos hm)
    have HW1 := Za.mk (HW.out.to hb1)
    have HK1 := Za.mk (HKW.out.below hb1)
    have HB1 := Za.mk (Zp HB.out.1 hb1)
    clear hb1 hm
    go_wp2_with fail
    go_roundg k1
    case measure => omega
    case rel => exact ⟨2, v1, by first | rfl | (simp; done), ⟨by have := HK.out; omega⟩, ⟨by rw [EL.out, HS.out, List.append_nil]; exact HW1.out⟩, HK1, ⟨HB1.out, HB.out.2⟩⟩
   ·have hm0 : (mh == 0) = false := beq_eq_false_iff_ne.2 hm
    have hb1 : Below wr.heap.size wr (wr.alloc (Obj.cells #[Value.int IntKind.i64 low, Value.int IntKind.u32 mh, Value.int IntKind.u32 bh] 135)) := Zc (Below.refl _ _) _
    have HW1 := Za.mk (HW.out.to hb1)
    have HK1 := Za.mk (HKW.out.below hb1)
    have HB1 := Za.mk (Zp HB.out.1 hb1)
    have HP1 := Za.mk (show (wr.alloc (Obj.cells #[Value.int IntKind.i64 low, Value.int IntKind.u32 mh, Value.int IntKind.u32 bh] 135)).heap[wr.heap.size]? = some (.cells #[Value.int IntKind.i64 low, Value.int IntKind.u32 mh, Value.int IntKind.u32 bh] 135 (0, 0)) from blk_new _ _)
    clear hb1
    by_cases ho : mh = 4294967295
    ·have ho0 : (mh == 4294967295) = true := beq_iff_eq.2 ho
     have ho1 : (mh != 4294967295) = false := by simp [ho]
     have HS := Za.mk (show wHalf low mh bh far = [wLoad low, wBranch 2 21 bh far] from by unfold wHalf; rw [if_neg hm, if_pos ho]; rfl)
     clear hm ho
     go_wp2_with (first | (go_at_call 40; refine (writer_load.does HW1.out low (by rw [List.length_append]; have := HL.out; have := HLi.out; (try simp only [List.length_cons, List.length_nil]); omega)).mono ?_; rintro e w5 ⟨rfl, v5, hW5, hK5⟩; have HB5 := Za.mk (hK5.box (HB1.out) HN0.out.1 (HB.out.2)); have HP5 := Za.mk (hK5.box (HP1.out) HN1.out.1 (HN1.out.2)); have p0 := (Zb HP5.out.1 0).trans rfl; have p1 := (Zb HP5.out.1 1).trans rfl; have p2 := (Zb HP5.out.1 2).trans rfl; have HW5 := Za.mk hW5; have HK5 := Za.mk (HK1.out.trans hK5); clear hW5 hK5) | (go_at_call 42; refine (writer_branch.does HW5.out 2 21 bh far (by rw [List.length_append, List.length_append]; have := HL.out; have := HLi.out; (try simp only [List.length_cons, List.length_nil]); omega)).mono ?_; rintro e w6 ⟨rfl, v6, hW6, hK6⟩; have HB6 := Za.mk (hK6.box (HB5.out.1) HN0.out.1 (HB5.out.2)); have HP6 := Za.mk (hK6.box (HP5.out.1) HN1.out.1 (HP5.out.2)); have p0 := (Zb HP6.out.1 0).trans rfl; have p1 := (Zb HP6.out.1 1).trans rfl; have p2 := (Zb HP6.out.1 2).trans rfl; have HW6 := Za.mk hW6; have HK6 := Za.mk (HK5.out.trans hK6); clear hW6 hK6))
     go_roundg k1
     case measure => omega
     case rel => exact ⟨2, v6, by first | rfl | (simp; done), ⟨by have := HK.out; omega⟩, ⟨by rw [EL.out, HS.out]; simpa using HW6.out⟩, HK6, ⟨HB6.out.1, HB6.out.2⟩⟩
    ·have ho0 : (mh == 4294967295) = false := beq_eq_false_iff_ne.2 ho
     have ho1 : (mh != 4294967295) = true := by simp [ho]
     have HS := Za.mk (show wHalf low mh bh far = [wLoad low, wIns 84 mh, wBranch 2 21 bh far] from by unfold wHalf; rw [if_neg hm, if_neg ho]; rfl)
     clear hm ho
     go_wp2_with (first | (go_at_call 40; refine (writer_load.does HW1.out low (by rw [List.length_append]; have := HL.out; have := HLi.out; (try simp only [List.length_cons, List.length_nil]); omega)).mono ?_; rintro e w5 ⟨rfl, v5, hW5, hK5⟩; have HB5 := Za.mk (hK5.box (HB1.out) HN0.out.1 (HB.out.2)); have HP5 := Za.mk (hK5.box (HP1.out) HN1.out.1 (HN1.out.2)); have p0 := (Zb HP5.out.1 0).trans rfl; have p1 := (Zb HP5.out.1 1).trans rfl; have p2 := (Zb HP5.out.1 2).trans rfl; have HW5 := Za.mk hW5; have HK5 := Za.mk (HK1.out.trans hK5); clear hW5 hK5) | (go_at_call 45; refine (writer_ins.does HW5.out 84 mh (by rw [List.length_append, List.length_append]; have := HL.out; have := HLi.out; (try simp only [List.length_cons, List.length_nil]); omega)).mono ?_; rintro e w6 ⟨rfl, v6, hW6, hK6⟩; have HB6 := Za.mk (hK6.box (HB5.out.1) HN0.out.1 (HB5.out.2)); have HP6 := Za.mk (hK6.box (HP5.out.1) HN1.out.1 (HP5.out.2)); have p0 := (Zb HP6.out.1 0).trans rfl; have p1 := (Zb HP6.out.1 1).trans rfl; have p2 := (Zb HP6.out.1 2).trans rfl; have HW6 := Za.mk hW6; have HK6 := Za.mk (HK5.out.trans hK6); clear hW6 hK6) | (go_at_call 42; refine (writer_branch.does HW6.out 2 21 bh far (by rw [List.length_append, List.length_append, List.length_append]; have := HL.out; have := HLi.out; (try simp only [List.length_cons, List.length_nil]); omega)).mono ?_; rintro e w7 ⟨rfl, v7, hW7, hK7⟩; have HB7 := Za.mk (hK7.box (HB6.out.1) HN0.out.1 (HB6.out.2)); have HP7 := Za.mk (hK7.box (HP6.out.1) HN1.out.1 (HP6.out.2)); have p0 := (Zb HP7.out.1 0).trans rfl; have p1 := (Zb HP7.out.1 1).trans rfl; have p2 := (Zb HP7.out.1 2).trans rfl; have HW7 := Za.mk hW7; have HK7 := Za.mk (HK6.out.trans hK7); clear hW7 hK7))
     go_roundg k1
     case measure => omega
     case rel => exact ⟨2, v7, by first | rfl | (simp; done), ⟨by have := HK.out; omega⟩, ⟨by rw [EL.out, HS.out]; simpa using HW7.out⟩, HK7, ⟨HB7.out.1, HB7.out.2⟩⟩
  ·subst hi
   go_wp2_with fail
   go_end0
   exact ⟨rfl, v1, HW.out, HKW.out⟩

end Go.Proofs.Ytgmbahldjiiajaa.P
