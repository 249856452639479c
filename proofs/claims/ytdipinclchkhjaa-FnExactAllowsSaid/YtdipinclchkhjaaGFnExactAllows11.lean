import Derived.Test.YtdipinclchkhjaaGFnExactAllows4
import Derived.Test.YtdipinclchkhjaaGFnExactAllows5
import Derived.Test.YtdipinclchkhjaaGFnExactAllows7
import Derived.Test.YtdipinclchkhjaaGFnExactAllows10
namespace Go.Proofs.Ytdipinclchkhjaa.P
open Go.RowKit Go.Proofs.YtdipinclchkhjaaW.PrintWords Go.Proofs.YtdipinclchkhjaaW.PrintLast Go.Proofs.YtdipinclchkhjaaW.PrintMore
set_option linter.unusedVariables false
set_option linter.unusedSimpArgs false
/-! A policy, copied and compared. -/
def cOf (x : S24) : S26 := ⟨x.f0, x.f1, x.f2⟩
def rOf (x : S219) : S131 := ⟨x.f0.map cOf⟩
def eOf (x : S180) : S127 := ⟨x.f0, x.f1, x.f2.map rOf⟩
theorem rdCL (l : List S24) (i : Nat) (h : i < l.length) : rd_T24 l (i : Int) = l[i] := by
  simp [rd_T24, List.getD_eq_getElem?_getD, List.getElem?_eq_getElem h]
theorem rdRL (l : List S219) (i : Nat) (h : i < l.length) : rd_T219 l (i : Int) = l[i] := by
  simp [rd_T219, List.getD_eq_getElem?_getD, List.getElem?_eq_getElem h]
theorem rdEL (l : List S180) (i : Nat) (h : i < l.length) : rd_T180 l (i : Int) = l[i] := by
  simp [rd_T180, List.getD_eq_getElem?_getD, List.getElem?_eq_getElem h]
theorem rdCI (l : List S26) (i : Nat) (h : i < l.length) : rd_T26 l (i : Int) = l[i] := by
  simp [rd_T26, List.getD_eq_getElem?_getD, List.getElem?_eq_getElem h]
theorem rdRI (l : List S131) (i : Nat) (h : i < l.length) : rd_T131 l (i : Int) = l[i] := by
  simp [rd_T131, List.getD_eq_getElem?_getD, List.getElem?_eq_getElem h]
theorem rdEI (l : List S127) (i : Nat) (h : i < l.length) : rd_T127 l (i : Int) = l[i] := by
  simp [rd_T127, List.getD_eq_getElem?_getD, List.getElem?_eq_getElem h]
/-- What is left of a size, or -1. -/
def Left (left : Int) (small : Prop) (t : Int) : Prop := t = -1 ∨ (0 ≤ t ∧ t ≤ left ∧ small)
theorem szConS_t (l : List S24) (left : Int) (hl : l.length ≤ maxLen) (h0 : 0 ≤ left) (h1 : left ≤ 1048576) : EvT (fun _ => laws_szConS.f l left) (Left left (l.length ≤ 1048576)) := by
  unfold maxLen at hl
  unfold laws_szConS.f
  rw [wrap64_id (by omega) (by omega)]
  exact evt_ite (fun _ => evt_some (.inl rfl)) fun c => evt_some (.inr ⟨by omega, by omega, by omega⟩)
theorem szRule_t (l : List S24) (left : Int) (hl : l.length ≤ maxLen) (h0 : 0 ≤ left) (h1 : left ≤ 1048576) : EvT (fun _ => laws_szRule.f l left) (Left left (l.length ≤ 1048576)) := by
  unfold laws_szRule.f
  refine evt_bind (szConS_t l left hl h0 h1) fun t ht => ?_
  exact evt_ite (fun _ => evt_some (.inl rfl)) fun c => evt_some ht
theorem szRuleS_t (l : List S219) (left : Int) (hl : l.length ≤ maxLen) (hm : ∀ x ∈ l, x.f0.length ≤ maxLen) (h0 : 0 ≤ left) (h1 : left ≤ 1048576) :
    EvT (fun k => laws_szRuleS.f k l left) (Left left (l.length ≤ 1048576 ∧ ∀ x ∈ l, x.f0.length ≤ 1048576)) := by
  unfold maxLen at hl
  unfold laws_szRuleS.f
  rw [wrap64_id (by omega) (by omega)]
  refine evt_ite (fun _ => evt_some (.inl rfl)) fun c => ?_
  have key : ∀ (d i : Nat) (lf : Int), i + d = l.length → 0 ≤ lf → lf ≤ left → (∀ x ∈ l.take i, x.f0.length ≤ 1048576) → EvT (fun k => laws_szRuleS.l0 k l lf (i : Int)) (Left left (l.length ≤ 1048576 ∧ ∀ x ∈ l, x.f0.length ≤ 1048576)) := by
    intro d
    induction d with
    | zero =>
      intro i lf hi g0 g1 g2
      refine evt_ev (r := lf) (ev_end fun k => by simp only [laws_szRuleS.l0]; rw [if_neg (by omega)]) (.inr ⟨g0, g1, by omega, ?_⟩)
      rw [List.take_of_length_le (by omega)] at g2
      exact g2
    | succ d ih =>
      intro i lf hi g0 g1 g2
      have hil : i < l.length := by omega
      refine evt_step _ (fun k => by simp only [laws_szRuleS.l0]; rw [if_pos (by omega), if_pos (by omega), rdRL l i hil, wrap64_id (i := (i : Int) + 1) (by omega) (by omega)]) (evt_bind (szRule_t l[i].f0 lf (hm _ (List.getElem_mem hil)) g0 (by omega)) ?_)
      rintro t (rfl | ⟨t0, t1, t2⟩)
      · exact evt_ite (fun _ => evt_some (.inl rfl)) fun c => absurd (by decide) c
      · refine evt_ite (fun c => absurd c (by omega)) fun _ => ?_
        refine ih (i + 1) t (by omega) t0 (by omega) ?_
        rw [← List.take_append_getElem hil]
        intro x hx
        rcases List.mem_append.1 hx with hx | hx
        · exact g2 x hx
        · rw [List.mem_singleton.1 hx]; exact t2
  obtain ⟨t, ht, hp⟩ := key l.length 0 (left - (l.length : Int)) (by omega) (by omega) (by omega) (by simp)
  exact ⟨t, ht, hp⟩
def SmallR (l : List S219) : Prop := l.length ≤ 1048576 ∧ ∀ x ∈ l, x.f0.length ≤ 1048576
theorem szEntry_t (a b : Int) (l : List S219) (left : Int) (hl : l.length ≤ maxLen) (hm : ∀ x ∈ l, x.f0.length ≤ maxLen) (h0 : 0 ≤ left) (h1 : left ≤ 1048576) :
    EvT (fun k => laws_szEntry.f k a b l left) (Left left (SmallR l)) := by
  unfold laws_szEntry.f
  refine evt_bind (szRuleS_t l left hl hm h0 h1) fun t ht => ?_
  exact evt_ite (fun _ => evt_some (.inl rfl)) fun c => evt_some ht
def SmallE (l : List S180) : Prop := l.length ≤ 1048576 ∧ ∀ x ∈ l, SmallR x.f2
theorem szEntryS_t (l : List S180) (left : Int) (hl : l.length ≤ maxLen) (hm : ∀ x ∈ l, x.f2.length ≤ maxLen ∧ ∀ y ∈ x.f2, y.f0.length ≤ maxLen) (h0 : 0 ≤ left) (h1 : left ≤ 1048576) :
    EvT (fun k => laws_szEntryS.f k l left) (Left left (SmallE l)) := by
  unfold maxLen at hl
  unfold laws_szEntryS.f
  rw [wrap64_id (by omega) (by omega)]
  refine evt_ite (fun _ => evt_some (.inl rfl)) fun c => ?_
  have key : ∀ (d i : Nat) (lf : Int), i + d = l.length → 0 ≤ lf → lf ≤ left → (∀ x ∈ l.take i, SmallR x.f2) → EvT (fun k => laws_szEntryS.l0 k l lf (i : Int)) (Left left (SmallE l)) := by
    intro d
    induction d with
    | zero =>
      intro i lf hi g0 g1 g2
      refine evt_ev (r := lf) (ev_end fun k => by simp only [laws_szEntryS.l0]; rw [if_neg (by omega)]) (.inr ⟨g0, g1, by omega, ?_⟩)
      rw [List.take_of_length_le (by omega)] at g2
      exact g2
    | succ d ih =>
      intro i lf hi g0 g1 g2
      have hil : i < l.length := by omega
      have hmi := hm _ (List.getElem_mem hil)
      refine evt_step _ (fun k => by simp only [laws_szEntryS.l0]; rw [if_pos (by omega), if_pos (by omega), rdEL l i hil, wrap64_id (i := (i : Int) + 1) (by omega) (by omega)]) (evt_bind (szEntry_t l[i].f0 l[i].f1 l[i].f2 lf hmi.1 hmi.2 g0 (by omega)) ?_)
      rintro t (rfl | ⟨t0, t1, t2⟩)
      · exact evt_ite (fun _ => evt_some (.inl rfl)) fun c => absurd (by decide) c
      · refine evt_ite (fun c => absurd c (by omega)) fun _ => ?_
        refine ih (i + 1) t (by omega) t0 (by omega) ?_
        rw [← List.take_append_getElem hil]
        intro x hx
        rcases List.mem_append.1 hx with hx | hx
        · exact g2 x hx
        · rw [List.mem_singleton.1 hx]; exact t2
  obtain ⟨t, ht, hp⟩ := key l.length 0 (left - (l.length : Int)) (by omega) (by omega) (by omega) (by simp)
  exact ⟨t, ht, hp⟩
theorem szPolicy_t (l : List S180) (left : Int) (hl : l.length ≤ maxLen) (hm : ∀ x ∈ l, x.f2.length ≤ maxLen ∧ ∀ y ∈ x.f2, y.f0.length ≤ maxLen) (h0 : 0 ≤ left) (h1 : left ≤ 1048576) :
    EvT (fun k => laws_szPolicy.f k l left) (Left left (SmallE l)) := by
  unfold laws_szPolicy.f
  refine evt_bind (szEntryS_t l left hl hm h0 h1) fun t ht => ?_
  exact evt_ite (fun _ => evt_some (.inl rfl)) fun c => evt_some ht
theorem toConS_ev (l : List S24) (hl : l.length ≤ 1048576) : Ev (fun k => laws_toConS.f k l) (l.map cOf) := by
  have key := ev_loop (fun k s i => laws_toConS.l0 k l s i) l.length (filled cOf l z26) _ _ (filled_zero cOf l z26) (filled_all cOf l z26) (fun i hi r hr => by
    have hf := filled_length cOf l z26 i (by omega)
    have hs := filled_set cOf l z26 i hi
    refine ev_step _ (fun k => ?_) hr
    simp only [laws_toConS.l0, laws_toCon.f, Option.bind_some]
    rw [if_pos (by omega), if_pos (by omega), if_pos (by omega), rdCL l i hi, wrap64_id (by omega) (by omega), Int.toNat_natCast]
    have e : (⟨l[i].f0, l[i].f1, l[i].f2⟩ : S26) = cOf l[i] := rfl
    rw [e, hs]
    rfl) (l.map cOf) (ev_end fun k => by simp only [laws_toConS.l0]; rw [if_neg (by omega)])
  refine Ev.congr (fun k => ?_) key
  unfold laws_toConS.f
  rw [if_pos (by omega), if_pos (by omega), Int.toNat_natCast]
theorem toRuleS_ev (l : List S219) (hs : SmallR l) : Ev (fun k => laws_toRuleS.f k l) (l.map rOf) := by
  obtain ⟨hl, hm⟩ := hs
  have key := ev_loop (fun k s i => laws_toRuleS.l0 k l s i) l.length (filled rOf l z131) _ _ (filled_zero rOf l z131) (filled_all rOf l z131) (fun i hi r hr => by
    have hf := filled_length rOf l z131 i (by omega)
    have hs := filled_set rOf l z131 i hi
    refine ev_step (fun k => (laws_toRule.f k l[i].f0).bind fun t => laws_toRuleS.l0 k l ((filled rOf l z131 i).set i (⟨t⟩ : S131)) ((i + 1 : Nat) : Int)) (fun k => ?_) (Ev.bind (a := l[i].f0.map cOf) ?_ (Ev.congr (fun k => ?_) hr))
    · simp only [laws_toRuleS.l0]
      rw [if_pos (by omega), if_pos (by omega), rdRL l i hi, wrap64_id (by omega) (by omega), Int.toNat_natCast]
      congr 1
      funext bt
      rw [if_pos (by omega)]
      rfl
    · unfold laws_toRule.f
      exact Ev.bind (toConS_ev _ (hm _ (List.getElem_mem hi))) (ev_is fun _ => rfl)
    · have e : (⟨l[i].f0.map cOf⟩ : S131) = rOf l[i] := rfl
      rw [e, hs]) (l.map rOf) (ev_end fun k => by simp only [laws_toRuleS.l0]; rw [if_neg (by omega)])
  refine Ev.congr (fun k => ?_) key
  unfold laws_toRuleS.f
  rw [if_pos (by omega), if_pos (by omega), Int.toNat_natCast]
theorem toPolicy_ev (l : List S180) (hs : SmallE l) : Ev (fun k => laws_toPolicy.f k l) (l.map eOf) := by
  obtain ⟨hl, hm⟩ := hs
  have key := ev_loop (fun k s i => laws_toEntryS.l0 k l s i) l.length (filled eOf l z127) _ _ (filled_zero eOf l z127) (filled_all eOf l z127) (fun i hi r hr => by
    have hf := filled_length eOf l z127 i (by omega)
    have hs := filled_set eOf l z127 i hi
    refine ev_step (fun k => (laws_toEntry.f k l[i].f0 l[i].f1 l[i].f2).bind fun t => laws_toEntryS.l0 k l ((filled eOf l z127 i).set i (⟨t.1, t.2.1, t.2.2⟩ : S127)) ((i + 1 : Nat) : Int)) (fun k => ?_) (Ev.bind (a := (l[i].f0, l[i].f1, l[i].f2.map rOf)) ?_ (Ev.congr (fun k => ?_) hr))
    · simp only [laws_toEntryS.l0]
      rw [if_pos (by omega), if_pos (by omega), rdEL l i hi, wrap64_id (by omega) (by omega), Int.toNat_natCast]
      congr 1
      funext bt
      rw [if_pos (by omega)]
      rfl
    · unfold laws_toEntry.f
      exact Ev.bind (toRuleS_ev _ (hm _ (List.getElem_mem hi))) (ev_is fun _ => rfl)
    · have e : (⟨l[i].f0, l[i].f1, l[i].f2.map rOf⟩ : S127) = eOf l[i] := rfl
      simp only
      rw [e, hs]) (l.map eOf) (ev_end fun k => by simp only [laws_toEntryS.l0]; rw [if_neg (by omega)])
  unfold laws_toPolicy.f
  refine Ev.bind (a := l.map eOf) (Ev.congr (fun k => ?_) key) (ev_is fun _ => rfl)
  unfold laws_toEntryS.f
  rw [if_pos (by omega), if_pos (by omega), Int.toNat_natCast]
theorem eqConS_ev (a : List S26) (hl : a.length ≤ 1048576) : Ev (fun k => laws_eqConS.f k a a) true := by
  have key := ev_loop (fun k (s : Unit) i => laws_eqConS.l0 k a a i) a.length (fun _ => ()) () () rfl rfl (fun i hi r hr => by
    refine ev_step _ (fun k => ?_) hr
    simp only [laws_eqConS.l0, laws_eqCon.f]
    rw [if_pos (by omega), if_pos (by omega), if_pos (by omega), if_pos trivial, if_pos trivial, if_pos trivial, Option.bind_some, if_pos rfl, wrap64_id (by omega) (by omega)]
    rfl) true (ev_end fun k => by simp only [laws_eqConS.l0]; rw [if_neg (by omega)])
  refine Ev.congr (fun k => ?_) key
  unfold laws_eqConS.f
  rw [if_pos rfl]
def SmallRI (l : List S131) : Prop := l.length ≤ 1048576 ∧ ∀ x ∈ l, x.f0.length ≤ 1048576
def SmallEI (l : List S127) : Prop := l.length ≤ 1048576 ∧ ∀ x ∈ l, SmallRI x.f2
theorem eqRuleS_ev (a : List S131) (hs : SmallRI a) : Ev (fun k => laws_eqRuleS.f k a a) true := by
  obtain ⟨hl, hm⟩ := hs
  have key := ev_loop (fun k (s : Unit) i => laws_eqRuleS.l0 k a a i) a.length (fun _ => ()) () () rfl rfl (fun i hi r hr => by
    refine ev_step (fun k => (laws_eqRule.f k a[i].f0 a[i].f0).bind fun t => if t = true then laws_eqRuleS.l0 k a a ((i + 1 : Nat) : Int) else some false) (fun k => ?_) (Ev.bind (a := true) ?_ (Ev.congr (fun k => ?_) hr))
    · simp only [laws_eqRuleS.l0]
      rw [if_pos (by omega), if_pos (by omega), if_pos (by omega), rdRI a i hi, wrap64_id (by omega) (by omega)]
      rfl
    · unfold laws_eqRule.f
      exact Ev.bind (eqConS_ev _ (hm _ (List.getElem_mem hi))) (ev_is fun _ => by rw [if_pos rfl])
    · rw [if_pos rfl]) true (ev_end fun k => by simp only [laws_eqRuleS.l0]; rw [if_neg (by omega)])
  refine Ev.congr (fun k => ?_) key
  unfold laws_eqRuleS.f
  rw [if_pos rfl]
theorem eqPolicy_ev (a : List S127) (hs : SmallEI a) : Ev (fun k => laws_eqPolicy.f k a a) true := by
  obtain ⟨hl, hm⟩ := hs
  have key := ev_loop (fun k (s : Unit) i => laws_eqEntryS.l0 k a a i) a.length (fun _ => ()) () () rfl rfl (fun i hi r hr => by
    refine ev_step (fun k => (laws_eqEntry.f k a[i].f0 a[i].f1 a[i].f2 a[i].f0 a[i].f1 a[i].f2).bind fun t => if t = true then laws_eqEntryS.l0 k a a ((i + 1 : Nat) : Int) else some false) (fun k => ?_) (Ev.bind (a := true) ?_ (Ev.congr (fun k => ?_) hr))
    · simp only [laws_eqEntryS.l0]
      rw [if_pos (by omega), if_pos (by omega), if_pos (by omega), rdEI a i hi, wrap64_id (by omega) (by omega)]
      rfl
    · unfold laws_eqEntry.f
      refine Ev.congr (fun k => ?_) (Ev.bind (eqRuleS_ev _ (hm _ (List.getElem_mem hi))) (f := fun _ t => if t = true then some true else some false) (ev_is fun _ => by rw [if_pos rfl]))
      rw [if_pos rfl, if_pos rfl]
    · rw [if_pos rfl]) true (ev_end fun k => by simp only [laws_eqEntryS.l0]; rw [if_neg (by omega)])
  unfold laws_eqPolicy.f
  refine Ev.bind (a := true) (Ev.congr (fun k => ?_) key) (ev_is fun _ => by rw [if_pos rfl])
  unfold laws_eqEntryS.f
  rw [if_pos rfl]
theorem small_map (l : List S180) (hs : SmallE l) : SmallEI (l.map eOf) := by
  refine ⟨by rw [List.length_map]; exact hs.1, fun x hx => ?_⟩
  obtain ⟨y, hy, rfl⟩ := List.mem_map.1 hx
  have h := hs.2 y hy
  refine ⟨by show (y.f2.map rOf).length ≤ _; rw [List.length_map]; exact h.1, fun r hr => ?_⟩
  obtain ⟨z, hz, rfl⟩ := List.mem_map.1 (show r ∈ y.f2.map rOf from hr)
  show (z.f0.map cOf).length ≤ _
  rw [List.length_map]
  exact h.2 z hz
end Go.Proofs.Ytdipinclchkhjaa.P

namespace Go.Proofs.Ytdipinclchkhjaa.P
open Go.RowKit Go.Proofs.YtdipinclchkhjaaW.PrintWords Go.Proofs.YtdipinclchkhjaaW.PrintLast Go.Proofs.YtdipinclchkhjaaW.PrintMore
attribute [local go_sem] max2_int min2_int max_two min_two max_three min_three max_four min_four   -- for this text's walks alone
set_option linter.unusedVariables false
set_option linter.unusedSimpArgs false

/-! ### spec_l3low: function 86 -/
end Go.Proofs.Ytdipinclchkhjaa.P

namespace Go.Proofs.Ytdipinclchkhjaa.P
open Go.RowKit Go.Proofs.YtdipinclchkhjaaW.PrintWords Go.Proofs.YtdipinclchkhjaaW.PrintLast Go.Proofs.YtdipinclchkhjaaW.PrintMore
attribute [local go_sem] max2_int min2_int max_two min_two max_three min_three max_four min_four   -- for this text's walks alone
set_option linter.unusedVariables false
set_option linter.unusedSimpArgs false

/-! ### spec_l3block: function 105 -/
end Go.Proofs.Ytdipinclchkhjaa.P

namespace Go.Proofs.Ytdipinclchkhjaa.P
open Go.RowKit Go.Proofs.YtdipinclchkhjaaW.PrintWords Go.Proofs.YtdipinclchkhjaaW.PrintLast Go.Proofs.YtdipinclchkhjaaW.PrintMore
attribute [local go_sem] max2_int min2_int max_two min_two max_three min_three max_four min_four   -- for this text's walks alone
set_option linter.unusedVariables false
set_option linter.unusedSimpArgs false

/-! ### spec_l3conOK: function 60 -/
def spec_l3conOK.f (a0_0 : Int) (a0_1 : Int) (a0_2 : Int) : Option (Bool) := if a0_0 = 0 then (if a0_1 = 0 then (some (a0_2 == 0)) else (some false)) else (if a0_0 = 1 then (some ((Go.bits .or .u64 a0_1 a0_2) == a0_1)) else (if a0_0 = 2 then (some (decide (a0_1 ≤ a0_2))) else (some false)))
set_option maxHeartbeats 8000000 in
set_option maxRecDepth 100000 in
theorem spec_l3conOK.calls (a0_0 : Int) (a0_1 : Int) (a0_2 : Int) (r : Bool) (w : World) (h : spec_l3conOK.f a0_0 a0_1 a0_2 = some r) :
    Calls Try.prog 60 #[.agg #[.int .i64 a0_0, .int .u64 a0_1, .int .u64 a0_2]] w fun e w' => e = .returned (.bool r) ∧ Below w.heap.size w w' := by
  have hu26 := Try.underlying26
  have HB := Aside0.mk (Below.refl w.heap.size w)
  have H : (if a0_0 = 0 then (if a0_1 = 0 then (some (a0_2 == 0)) else (some false)) else (if a0_0 = 1 then (some ((Go.bits .or .u64 a0_1 a0_2) == a0_1)) else (if a0_0 = 2 then (some (decide (a0_1 ≤ a0_2))) else (some false)))) = some r := h
  clear h
  by_cases c2 : a0_0 = 0
  · rw [if_pos c2] at H
    have c2b0 : (a0_0 == 0) = true := beq_iff_eq.mpr c2
    have c2b1 : (a0_0 != 0) = false := bne_eq_false_iff_eq.mpr c2
    clear c2
    by_cases c3 : a0_1 = 0
    · rw [if_pos c3] at H
      have c3b0 : (a0_1 == 0) = true := beq_iff_eq.mpr c3
      have c3b1 : (a0_1 != 0) = false := bne_eq_false_iff_eq.mpr c3
      clear c3
      obtain rfl := Option.some.inj H
      go_enter Try.func60, Try.ntmps60
      go_wp2_with (first | ((with_reducible refine gate_dst (N := 1) rfl ?_); refine box_event ?hg (N := 1) ?hd (cs := #[.int .i64 a0_0, .int .u64 a0_1, .int .u64 a0_2]) (t := 26) ?hr ?_; (case hd => rfl); (case hg => rfl); (case hr => first | (go_simp; done) | (go_simp; rfl)); intro gb101 hg w4 hbox hb; have n0_ := Aside0.mk (below_step (by repeat (first | (with_reducible first | exact HB.out | apply below_alloc | apply pw_below_drewN | apply below_drew1) | exact HB.out)) hb); have n1_ := Aside0.mk (hbox); have n2_ := Aside0.mk ((by rw [hg]; exact (below_size (by repeat (first | (with_reducible first | exact HB.out | apply below_alloc | apply pw_below_drewN | apply below_drew1) | exact HB.out))) : w.heap.size ≤ gb101)); have n3_ := Aside0.mk ((by rw [hg]; exact (below_size (by repeat (first | (with_reducible first | exact HB.out | apply below_alloc | apply pw_below_drewN | apply below_drew1) | exact HB.out))) : w.heap.size ≤ gb101)); clear HB; have HB := n0_; have BK101 := n1_; have GW101 := n2_; have GE101 := n3_; clear n0_ n1_ n2_ n3_; clear hb hbox hg; have hcz5_0 : w4.cell? ⟨gb101, 0, none⟩ = some (.int .i64 a0_0) := (blk_cell BK101.out 0).trans rfl; have hcz5_1 : w4.cell? ⟨gb101, 1, none⟩ = some (.int .u64 a0_1) := (blk_cell BK101.out 1).trans rfl; have hcz5_2 : w4.cell? ⟨gb101, 2, none⟩ = some (.int .u64 a0_2) := (blk_cell BK101.out 2).trans rfl; have hfz5_0 := blk_frozen BK101.out 0; have hfz5_1 := blk_frozen BK101.out 1; have hfz5_2 := blk_frozen BK101.out 2))
      go_ret
      exact ⟨by first | rfl | (simp [errW_none, errW_some] <;> rfl) | (simp [*, errW_none, errW_some] <;> rfl), by repeat (first | (with_reducible first | exact HB.out | apply below_alloc | apply pw_below_drewN | apply below_drew1 | refine below_set ?_ GE101.out) | exact HB.out)⟩
    · rw [if_neg c3] at H
      have c3b0 : (a0_1 == 0) = false := beq_eq_false_iff_ne.mpr c3
      have c3b1 : (a0_1 != 0) = true := bne_iff_ne.mpr c3
      obtain rfl := Option.some.inj H
      go_enter Try.func60, Try.ntmps60
      go_wp2_with (first | ((with_reducible refine gate_dst (N := 1) rfl ?_); refine box_event ?hg (N := 1) ?hd (cs := #[.int .i64 a0_0, .int .u64 a0_1, .int .u64 a0_2]) (t := 26) ?hr ?_; (case hd => rfl); (case hg => rfl); (case hr => first | (go_simp; done) | (go_simp; rfl)); intro gb101 hg w6 hbox hb; have n0_ := Aside0.mk (below_step (by repeat (first | (with_reducible first | exact HB.out | apply below_alloc | apply pw_below_drewN | apply below_drew1) | exact HB.out)) hb); have n1_ := Aside0.mk (hbox); have n2_ := Aside0.mk ((by rw [hg]; exact (below_size (by repeat (first | (with_reducible first | exact HB.out | apply below_alloc | apply pw_below_drewN | apply below_drew1) | exact HB.out))) : w.heap.size ≤ gb101)); have n3_ := Aside0.mk ((by rw [hg]; exact (below_size (by repeat (first | (with_reducible first | exact HB.out | apply below_alloc | apply pw_below_drewN | apply below_drew1) | exact HB.out))) : w.heap.size ≤ gb101)); clear HB; have HB := n0_; have BK101 := n1_; have GW101 := n2_; have GE101 := n3_; clear n0_ n1_ n2_ n3_; clear hb hbox hg; have hcz7_0 : w6.cell? ⟨gb101, 0, none⟩ = some (.int .i64 a0_0) := (blk_cell BK101.out 0).trans rfl; have hcz7_1 : w6.cell? ⟨gb101, 1, none⟩ = some (.int .u64 a0_1) := (blk_cell BK101.out 1).trans rfl; have hcz7_2 : w6.cell? ⟨gb101, 2, none⟩ = some (.int .u64 a0_2) := (blk_cell BK101.out 2).trans rfl; have hfz7_0 := blk_frozen BK101.out 0; have hfz7_1 := blk_frozen BK101.out 1; have hfz7_2 := blk_frozen BK101.out 2))
      go_ret
      exact ⟨by first | rfl | (simp [errW_none, errW_some] <;> rfl) | (simp [*, errW_none, errW_some] <;> rfl), by repeat (first | (with_reducible first | exact HB.out | apply below_alloc | apply pw_below_drewN | apply below_drew1 | refine below_set ?_ GE101.out) | exact HB.out)⟩
  · rw [if_neg c2] at H
    have c2b0 : (a0_0 == 0) = false := beq_eq_false_iff_ne.mpr c2
    have c2b1 : (a0_0 != 0) = true := bne_iff_ne.mpr c2
    by_cases c8 : a0_0 = 1
    · rw [if_pos c8] at H
      have c8b0 : (a0_0 == 1) = true := beq_iff_eq.mpr c8
      have c8b1 : (a0_0 != 1) = false := bne_eq_false_iff_eq.mpr c8
      clear c8
      obtain rfl := Option.some.inj H
      go_enter Try.func60, Try.ntmps60
      go_wp2_with (first | ((with_reducible refine gate_dst (N := 1) rfl ?_); refine box_event ?hg (N := 1) ?hd (cs := #[.int .i64 a0_0, .int .u64 a0_1, .int .u64 a0_2]) (t := 26) ?hr ?_; (case hd => rfl); (case hg => rfl); (case hr => first | (go_simp; done) | (go_simp; rfl)); intro gb101 hg w9 hbox hb; have n0_ := Aside0.mk (below_step (by repeat (first | (with_reducible first | exact HB.out | apply below_alloc | apply pw_below_drewN | apply below_drew1) | exact HB.out)) hb); have n1_ := Aside0.mk (hbox); have n2_ := Aside0.mk ((by rw [hg]; exact (below_size (by repeat (first | (with_reducible first | exact HB.out | apply below_alloc | apply pw_below_drewN | apply below_drew1) | exact HB.out))) : w.heap.size ≤ gb101)); have n3_ := Aside0.mk ((by rw [hg]; exact (below_size (by repeat (first | (with_reducible first | exact HB.out | apply below_alloc | apply pw_below_drewN | apply below_drew1) | exact HB.out))) : w.heap.size ≤ gb101)); clear HB; have HB := n0_; have BK101 := n1_; have GW101 := n2_; have GE101 := n3_; clear n0_ n1_ n2_ n3_; clear hb hbox hg; have hcz10_0 : w9.cell? ⟨gb101, 0, none⟩ = some (.int .i64 a0_0) := (blk_cell BK101.out 0).trans rfl; have hcz10_1 : w9.cell? ⟨gb101, 1, none⟩ = some (.int .u64 a0_1) := (blk_cell BK101.out 1).trans rfl; have hcz10_2 : w9.cell? ⟨gb101, 2, none⟩ = some (.int .u64 a0_2) := (blk_cell BK101.out 2).trans rfl; have hfz10_0 := blk_frozen BK101.out 0; have hfz10_1 := blk_frozen BK101.out 1; have hfz10_2 := blk_frozen BK101.out 2))
      go_ret
      exact ⟨by first | rfl | (simp [errW_none, errW_some] <;> rfl) | (simp [*, errW_none, errW_some] <;> rfl), by repeat (first | (with_reducible first | exact HB.out | apply below_alloc | apply pw_below_drewN | apply below_drew1 | refine below_set ?_ GE101.out) | exact HB.out)⟩
    · rw [if_neg c8] at H
      have c8b0 : (a0_0 == 1) = false := beq_eq_false_iff_ne.mpr c8
      have c8b1 : (a0_0 != 1) = true := bne_iff_ne.mpr c8
      by_cases c11 : a0_0 = 2
      · rw [if_pos c11] at H
        have c11b0 : (a0_0 == 2) = true := beq_iff_eq.mpr c11
        have c11b1 : (a0_0 != 2) = false := bne_eq_false_iff_eq.mpr c11
        clear c11
        obtain rfl := Option.some.inj H
        go_enter Try.func60, Try.ntmps60
        go_wp2_with (first | ((with_reducible refine gate_dst (N := 1) rfl ?_); refine box_event ?hg (N := 1) ?hd (cs := #[.int .i64 a0_0, .int .u64 a0_1, .int .u64 a0_2]) (t := 26) ?hr ?_; (case hd => rfl); (case hg => rfl); (case hr => first | (go_simp; done) | (go_simp; rfl)); intro gb101 hg w12 hbox hb; have n0_ := Aside0.mk (below_step (by repeat (first | (with_reducible first | exact HB.out | apply below_alloc | apply pw_below_drewN | apply below_drew1) | exact HB.out)) hb); have n1_ := Aside0.mk (hbox); have n2_ := Aside0.mk ((by rw [hg]; exact (below_size (by repeat (first | (with_reducible first | exact HB.out | apply below_alloc | apply pw_below_drewN | apply below_drew1) | exact HB.out))) : w.heap.size ≤ gb101)); have n3_ := Aside0.mk ((by rw [hg]; exact (below_size (by repeat (first | (with_reducible first | exact HB.out | apply below_alloc | apply pw_below_drewN | apply below_drew1) | exact HB.out))) : w.heap.size ≤ gb101)); clear HB; have HB := n0_; have BK101 := n1_; have GW101 := n2_; have GE101 := n3_; clear n0_ n1_ n2_ n3_; clear hb hbox hg; have hcz13_0 : w12.cell? ⟨gb101, 0, none⟩ = some (.int .i64 a0_0) := (blk_cell BK101.out 0).trans rfl; have hcz13_1 : w12.cell? ⟨gb101, 1, none⟩ = some (.int .u64 a0_1) := (blk_cell BK101.out 1).trans rfl; have hcz13_2 : w12.cell? ⟨gb101, 2, none⟩ = some (.int .u64 a0_2) := (blk_cell BK101.out 2).trans rfl; have hfz13_0 := blk_frozen BK101.out 0; have hfz13_1 := blk_frozen BK101.out 1; have hfz13_2 := blk_frozen BK101.out 2))
        go_ret
        exact ⟨by first | rfl | (simp [errW_none, errW_some] <;> rfl) | (simp [*, errW_none, errW_some] <;> rfl), by repeat (first | (with_reducible first | exact HB.out | apply below_alloc | apply pw_below_drewN | apply below_drew1 | refine below_set ?_ GE101.out) | exact HB.out)⟩
      · rw [if_neg c11] at H
        have c11b0 : (a0_0 == 2) = false := beq_eq_false_iff_ne.mpr c11
        have c11b1 : (a0_0 != 2) = true := bne_iff_ne.mpr c11
        obtain rfl := Option.some.inj H
        go_enter Try.func60, Try.ntmps60
        go_wp2_with (first | ((with_reducible refine gate_dst (N := 1) rfl ?_); refine box_event ?hg (N := 1) ?hd (cs := #[.int .i64 a0_0, .int .u64 a0_1, .int .u64 a0_2]) (t := 26) ?hr ?_; (case hd => rfl); (case hg => rfl); (case hr => first | (go_simp; done) | (go_simp; rfl)); intro gb101 hg w14 hbox hb; have n0_ := Aside0.mk (below_step (by repeat (first | (with_reducible first | exact HB.out | apply below_alloc | apply pw_below_drewN | apply below_drew1) | exact HB.out)) hb); have n1_ := Aside0.mk (hbox); have n2_ := Aside0.mk ((by rw [hg]; exact (below_size (by repeat (first | (with_reducible first | exact HB.out | apply below_alloc | apply pw_below_drewN | apply below_drew1) | exact HB.out))) : w.heap.size ≤ gb101)); have n3_ := Aside0.mk ((by rw [hg]; exact (below_size (by repeat (first | (with_reducible first | exact HB.out | apply below_alloc | apply pw_below_drewN | apply below_drew1) | exact HB.out))) : w.heap.size ≤ gb101)); clear HB; have HB := n0_; have BK101 := n1_; have GW101 := n2_; have GE101 := n3_; clear n0_ n1_ n2_ n3_; clear hb hbox hg; have hcz15_0 : w14.cell? ⟨gb101, 0, none⟩ = some (.int .i64 a0_0) := (blk_cell BK101.out 0).trans rfl; have hcz15_1 : w14.cell? ⟨gb101, 1, none⟩ = some (.int .u64 a0_1) := (blk_cell BK101.out 1).trans rfl; have hcz15_2 : w14.cell? ⟨gb101, 2, none⟩ = some (.int .u64 a0_2) := (blk_cell BK101.out 2).trans rfl; have hfz15_0 := blk_frozen BK101.out 0; have hfz15_1 := blk_frozen BK101.out 1; have hfz15_2 := blk_frozen BK101.out 2))
        go_ret
        exact ⟨by first | rfl | (simp [errW_none, errW_some] <;> rfl) | (simp [*, errW_none, errW_some] <;> rfl), by repeat (first | (with_reducible first | exact HB.out | apply below_alloc | apply pw_below_drewN | apply below_drew1 | refine below_set ?_ GE101.out) | exact HB.out)⟩

end Go.Proofs.Ytdipinclchkhjaa.P

namespace Go.Proofs.Ytdipinclchkhjaa.P
open Go.RowKit Go.Proofs.YtdipinclchkhjaaW.PrintWords Go.Proofs.YtdipinclchkhjaaW.PrintLast Go.Proofs.YtdipinclchkhjaaW.PrintMore
set_option linter.unusedVariables false
set_option linter.unusedSimpArgs false
theorem l3conOK_is (k : Int) (a b : Nat) (ha : a < 18446744073709551616) (hb : b < 18446744073709551616) : spec_l3conOK.f k a b = some (normRaw k a b).2 := by
  unfold spec_l3conOK.f normRaw
  by_cases h0 : k = 0
  · rw [if_pos h0, if_pos h0]
    by_cases h1 : (a : Int) = 0
    · rw [if_pos h1, h1]; rfl
    · rw [if_neg h1, beq_eq_false_iff_ne.mpr h1]; rfl
  · rw [if_neg h0, if_neg h0]
    by_cases h1 : k = 1
    · rw [if_pos h1, if_pos h1, or64 a b ha hb]
      have hs := sub_bits a b ha hb
      by_cases h2 : (a : Int) = 0 ∧ (b : Int) = 0
      · rw [if_pos h2]
        have ea : a = 0 := by omega
        have eb : b = 0 := by omega
        subst ea; subst eb; rfl
      · rw [if_neg h2, andNot64 b a hb ha]
        congr 1
        rw [Bool.eq_iff_iff, beq_iff_eq, beq_iff_eq]
        constructor
        · intro h
          have := hs.2 (by omega)
          omega
        · intro h
          have := hs.1 (by omega)
          omega
    · rw [if_neg h1, if_neg h1]
      by_cases h2 : k = 2
      · rw [if_pos h2, if_pos h2]
        by_cases h3 : (a : Int) > b
        · rw [if_pos h3, decide_eq_false (by omega)]
        · rw [if_neg h3, decide_eq_true (by omega)]
      · rw [if_neg h2, if_neg h2]
end Go.Proofs.Ytdipinclchkhjaa.P

namespace Go.Proofs.Ytdipinclchkhjaa.P
open Go.RowKit Go.Proofs.YtdipinclchkhjaaW.PrintWords Go.Proofs.YtdipinclchkhjaaW.PrintLast Go.Proofs.YtdipinclchkhjaaW.PrintMore
attribute [local go_sem] max2_int min2_int max_two min_two max_three min_three max_four min_four   -- for this text's walks alone
set_option linter.unusedVariables false
set_option linter.unusedSimpArgs false

set_option maxHeartbeats 400000 in
theorem impl_normalRange.does (a b : Int) (w : World) : Calls Try.prog 113 #[.int .u64 a, .int .u64 b] w fun e w' => e = .returned (nrRaw a b).v ∧ w' = w := by
  have hmax : IntKind.u64.max = 18446744073709551615 := rfl
  go_enter Try.func113, Try.ntmps113
  go_wp2
  all_goals (go_ret)
  all_goals (refine ⟨?_, rfl⟩; simp_all [nrRaw, nrN, Cd.v])

end Go.Proofs.Ytdipinclchkhjaa.P

namespace Go.Proofs.Ytdipinclchkhjaa.P
open Go.RowKit Go.Proofs.YtdipinclchkhjaaW.PrintWords Go.Proofs.YtdipinclchkhjaaW.PrintLast Go.Proofs.YtdipinclchkhjaaW.PrintMore
attribute [local go_sem] max2_int min2_int max_two min_two max_three min_three max_four min_four   -- for this text's walks alone
set_option linter.unusedVariables false
set_option linter.unusedSimpArgs false

set_option maxHeartbeats 1000000 in
theorem impl_normal.does (k a b : Int) (w : World) : Calls Try.prog 62 #[.agg #[.int .i64 k, .int .u64 a, .int .u64 b]] w fun e w' => e = .returned (.tuple #[(normRaw k a b).1.v, .bool (normRaw k a b).2]) ∧ Below w.heap.size w w' := by
  by_cases c0 : k = 0
  · subst c0
    by_cases c1 : a = 0
    · subst c1
      go_enter Try.func62, Try.ntmps62
      go_wp2
      repeat (go_quiet (fail); try go_wp2)
      go_ret2
      exact ⟨by simp [normRaw, Cd.v], pw_below_drewN (below_alloc (Below.refl _ _) _) _⟩
    · have c1b : (a == 0) = false := beq_eq_false_iff_ne.mpr c1
      go_enter Try.func62, Try.ntmps62
      go_wp2
      repeat (go_quiet (fail); try go_wp2)
      go_ret2
      exact ⟨by simp [normRaw, Cd.v, c1b], pw_below_drewN (below_alloc (Below.refl _ _) _) _⟩
  · have c0b : (k == 0) = false := beq_eq_false_iff_ne.mpr c0
    by_cases c1 : k = 1
    · subst c1
      by_cases c2 : a = 0
      · subst c2
        by_cases c3 : b = 0
        · subst c3
          go_enter Try.func62, Try.ntmps62
          go_wp2
          go_ret2
          exact ⟨by simp [normRaw, Cd.v], below_alloc (Below.refl _ _) _⟩
        · have c3b : (b == 0) = false := beq_eq_false_iff_ne.mpr c3
          go_enter Try.func62, Try.ntmps62
          go_wp2
          repeat (go_quiet (fail); try go_wp2)
          go_ret2
          exact ⟨by simp [normRaw, Cd.v, c3], pw_below_drewN (below_alloc (Below.refl _ _) _) _⟩
      · have c2b : (a == 0) = false := beq_eq_false_iff_ne.mpr c2
        go_enter Try.func62, Try.ntmps62
        go_wp2
        repeat (go_quiet (fail); try go_wp2)
        go_ret2
        exact ⟨by simp [normRaw, Cd.v, c2], pw_below_drewN (below_alloc (Below.refl _ _) _) _⟩
    · have c1b : (k == 1) = false := beq_eq_false_iff_ne.mpr c1
      by_cases c2 : k = 2
      · subst c2
        by_cases c3 : b < a
        · go_enter Try.func62, Try.ntmps62
          go_wp2
          go_ret2
          exact ⟨by simp [normRaw, Cd.v, c3], below_alloc (Below.refl _ _) _⟩
        · have c3b : decide (b < a) = false := decide_eq_false c3
          go_enter Try.func62, Try.ntmps62
          go_wp2_with (go_at_call 113; refine (impl_normalRange.does _ _ _).mono ?_; rintro e w' ⟨rfl, rfl⟩)
          go_ret2
          have c3n : ¬ b < a := by simpa using c3b
          exact ⟨by simp [normRaw, c3n], below_alloc (Below.refl _ _) _⟩
      · have c2b : (k == 2) = false := beq_eq_false_iff_ne.mpr c2
        go_enter Try.func62, Try.ntmps62
        go_wp2
        go_ret2
        exact ⟨by simp [normRaw, Cd.v, c0, c1, c2], below_alloc (Below.refl _ _) _⟩

end Go.Proofs.Ytdipinclchkhjaa.P

namespace Go.Proofs.Ytdipinclchkhjaa.P
open Go.RowKit Go.Proofs.YtdipinclchkhjaaW.PrintWords Go.Proofs.YtdipinclchkhjaaW.PrintLast Go.Proofs.YtdipinclchkhjaaW.PrintMore
set_option linter.unusedVariables false
set_option linter.unusedSimpArgs false

/-! Rules and their conditions, asked by the library's ContainsFunc. -/
def conOKr (c : S26) : Bool := (normRaw c.f0 c.f1 c.f2).2
def ruleOKr (r : S131) : Bool := decide (r.f0.length = 6) && !(r.f0.any fun c => !conOKr c)
set_option maxHeartbeats 2000000 in
theorem validRule1_does (k a b : Int) (w : World) : Calls Try.prog 131 #[.agg #[.int .i64 k, .int .u64 a, .int .u64 b]] w fun e w' => e = .returned (.bool (!(normRaw k a b).2)) ∧ Below w.heap.size w w' := by
  have HN := Aside0.mk (impl_normal.does k a b)
  obtain ⟨v, hv⟩ : ∃ v, v = (normRaw k a b).1.v := ⟨_, rfl⟩
  obtain ⟨p, hp⟩ : ∃ p, p = (normRaw k a b).2 := ⟨_, rfl⟩
  rw [← hv, ← hp] at HN
  rw [← hp]
  clear hv hp
  go_enter Try.func131, Try.ntmps131
  go_wp2_with (go_at_call 62; refine (HN.out _).mono ?_; rintro e w1 ⟨rfl, hb⟩; have HB := Aside0.mk hb; clear hb)
  go_ret
  exact ⟨rfl, below_call (below_alloc (Below.refl _ _) _) HB.out (by simp)⟩
theorem rdCon_eq (l : List S26) (i : Nat) (h : i < l.length) : rd_T26 l (i : Int) = l[i] := by
  simp [rd_T26, List.getD_eq_getElem?_getD, List.getElem?_eq_getElem h]
theorem rdRule_eq (l : List S131) (i : Nat) (h : i < l.length) : rd_T131 l (i : Int) = l[i] := by
  simp [rd_T131, List.getD_eq_getElem?_getD, List.getElem?_eq_getElem h]
def IdxPost (P : Bool) (w : World) (e : Ending) (w' : World) : Prop := ∃ i : Int, e = .returned (.int .i64 i) ∧ (0 ≤ i ↔ P = true) ∧ Below w.heap.size w w'
set_option maxHeartbeats 4000000 in
set_option maxRecDepth 100000 in
theorem indexCon_does (A : Option Addr) (c : Nat) (l : List S26) (w : World) (hr : Kd.C k26 w A l.length l) (hl : l.length ≤ 140737488355328) :
    Calls Try.prog 150 #[.slice A l.length c, .func (.func 131) #[] #[]] w (IdxPost (l.any fun c => !conOKr c) w) := by
  have HR := Aside0.mk hr
  have HL := Aside0.mk hl
  have HB0 := Aside0.mk (Below.refl w.heap.size w)
  have H0 := Aside0.mk (show ∀ j (h : j < l.length), j < 0 → conOKr l[j] = true from fun j h h0 => absurd h0 (Nat.not_lt_zero _))
  clear hr hl
  go_enter Try.func150, Try.ntmps150
  go_wp2
  go_loopg [8] l.length (fun kq v8 w' => ∃ i : Nat, v8 = .int .i64 (i : Int) ∧ Aside0 (kq + i = l.length) ∧ Aside0 (∀ j (h : j < l.length), j < i → conOKr l[j] = true) ∧ Aside0 (Below w.heap.size w w'))
  case atStart => exact ⟨0, rfl, ⟨rfl⟩, H0, HB0⟩
  case round =>
    clear H0 HB0
    obtain ⟨i, rfl, HI, HA, HB⟩ := hrel
    by_cases hi : i < l.length
    · obtain ⟨k1, rfl⟩ : ∃ m, gk = m + 1 := ⟨gk - 1, by have := HI.out; omega⟩
      obtain ⟨ad, rfl, g0, g1, g2⟩ := at_T26 HR.out (i : Int) (by omega) (by omega)
      simp only [Int.toNat_natCast] at g0 g1 g2
      replace g0 := (HB.out.cell (World.block_lt_of_cell? w _ g0)).trans g0
      replace g1 := (HB.out.cell (World.block_lt_of_cell? w _ g1)).trans g1
      replace g2 := (HB.out.cell (World.block_lt_of_cell? w _ g2)).trans g2
      have hib : decide ((i : Int) < (l.length : Int)) = true := decide_eq_true (by omega)
      have hlm : l.length ≤ 140737488355328 := HL.out
      have he := rdCon_eq l i hi
      have hv := validRule1_does (rd_T26 l i).f0 (rd_T26 l i).f1 (rd_T26 l i).f2
      obtain ⟨b, hb⟩ : ∃ b, b = conOKr (rd_T26 l i) := ⟨_, rfl⟩
      have hb2 : (normRaw (rd_T26 l i).f0 (rd_T26 l i).f1 (rd_T26 l i).f2).2 = b := hb.symm
      rw [hb2] at hv
      have HV := Aside0.mk hv
      have HBB := Aside0.mk hb
      clear hv hb hb2
      have HE := Aside0.mk he
      have HII := Aside0.mk hi
      have hibn : decide (i < l.length) = true := decide_eq_true hi
      clear he
      cases b with
      | false =>
        go_wp2_with (go_at_call 131; refine (HV.out _ ).mono ?_; clear HV; rintro e w2 ⟨rfl, hb2⟩; have HB2 := Aside0.mk hb2; clear hb2)
        go_ret
        exact ⟨(i : Int), rfl, ⟨fun _ => List.any_eq_true.2 ⟨l[i]'HII.out, List.getElem_mem _, by rw [← HE.out, ← HBB.out]; rfl⟩, fun _ => Int.natCast_nonneg _⟩, below_call HB.out HB2.out HB.out.size⟩
      | true =>
        go_wp2_with (go_at_call 131; refine (HV.out _ ).mono ?_; clear HV; rintro e w2 ⟨rfl, hb2⟩; have HB2 := Aside0.mk hb2; clear hb2)
        have HA2 := Aside0.mk (show ∀ j (h : j < l.length), j < i + 1 → conOKr l[j] = true from fun j h hj => by
          by_cases hji : j = i
          · subst hji; rw [← HE.out, ← HBB.out]
          · exact HA.out j h (by omega))
        have HI2 := Aside0.mk (show k1 + (i + 1) = l.length by have := HI.out; omega)
        have HB3 := Aside0.mk (below_call HB.out HB2.out HB.out.size)
        go_roundg k1
        case measure => omega
        case rel => exact ⟨i + 1, by first | rfl | (simp; done) | (simp [*]; done), HI2, HA2, HB3⟩
    · have hie : i = l.length := by have := HI.out; omega
      have HA3 := Aside0.mk (show (l.any fun c => !conOKr c) = false from by
        rw [List.any_eq_false]
        intro x hx
        obtain ⟨j, hj, rfl⟩ := List.mem_iff_getElem.1 hx
        rw [HA.out j hj (by omega)]
        decide)
      have hib : decide ((i : Int) < (l.length : Int)) = false := decide_eq_false (by omega)
      have hibn : decide (i < l.length) = false := decide_eq_false (by omega)
      clear hie hi HA HI
      go_wp2
      go_ret
      exact ⟨-1, rfl, ⟨fun h => absurd h (by decide), fun h => by rw [HA3.out] at h; exact absurd h (by decide)⟩, HB.out⟩
set_option maxHeartbeats 4000000 in
theorem containsCon_does (A : Option Addr) (c : Nat) (l : List S26) (w : World) (hr : Kd.C k26 w A l.length l) (hl : l.length ≤ 140737488355328) :
    Calls Try.prog 130 #[.slice A l.length c, .func (.func 131) #[] #[]] w fun e w' => e = .returned (.bool (l.any fun c => !conOKr c)) ∧ Below w.heap.size w w' := by
  have HC := Aside0.mk (indexCon_does A c l w hr hl)
  obtain ⟨p, hp⟩ : ∃ p, p = (l.any fun c => !conOKr c) := ⟨_, rfl⟩
  rw [← hp] at HC
  rw [← hp]
  clear hp hr hl
  go_enter Try.func130, Try.ntmps130
  go_wp2_with (go_at_call 150; refine HC.out.mono ?_; clear HC; rintro e w1 ⟨i, rfl, hi, hb⟩; have HI := Aside0.mk hi; have HB := Aside0.mk hb; clear hi hb)
  go_ret
  have hp3 : decide (0 ≤ i) = p := by rw [Bool.eq_iff_iff, decide_eq_true_eq]; exact HI.out
  exact ⟨congrArg (fun b => Ending.returned (.bool b)) hp3, HB.out⟩
set_option maxHeartbeats 4000000 in
theorem validRule_does (A : Option Addr) (c : Nat) (l : List S26) (w : World) (hr : Kd.C k26 w A l.length l) (hl : l.length ≤ 140737488355328) :
    Calls Try.prog 96 #[.agg #[.slice A l.length c]] w fun e w' => e = .returned (.bool (decide (l.length = 6) && !(l.any fun c => !conOKr c))) ∧ Below w.heap.size w w' := by
  have HC := Aside0.mk (fun W h => containsCon_does A c l W h hl)
  obtain ⟨p, hp⟩ : ∃ p, p = (l.any fun c => !conOKr c) := ⟨_, rfl⟩
  rw [← hp] at HC
  rw [← hp]
  have HR := Aside0.mk hr
  clear hp hr
  by_cases h6 : l.length = 6
  · have h6b : ((l.length : Int) == 6) = true := by rw [beq_iff_eq]; omega
    rw [decide_eq_true h6, Bool.true_and]
    clear h6 hl
    go_enter Try.func96, Try.ntmps96
    go_wp2_with (go_at_call 130; refine (HC.out _ (Kd.C_below HR.out (below_alloc (Below.refl _ _) _))).mono ?_; clear HC; rintro e w1 ⟨rfl, hb⟩; have HB := Aside0.mk hb; clear hb)
    go_ret
    exact ⟨rfl, below_call (below_alloc (Below.refl _ _) _) HB.out (by simp)⟩
  · have h6b : ((l.length : Int) == 6) = false := by rw [beq_eq_false_iff_ne]; omega
    rw [decide_eq_false h6, Bool.false_and]
    clear h6 hl HC
    go_enter Try.func96, Try.ntmps96
    go_wp2
    go_ret
    exact ⟨rfl, below_alloc (Below.refl _ _) _⟩
set_option maxHeartbeats 4000000 in
theorem validPolicy1_does (A : Option Addr) (c : Nat) (l : List S26) (w : World) (hr : Kd.C k26 w A l.length l) (hl : l.length ≤ 140737488355328) :
    Calls Try.prog 95 #[.agg #[.slice A l.length c]] w fun e w' => e = .returned (.bool (!ruleOKr ⟨l⟩)) ∧ Below w.heap.size w w' := by
  have HC := Aside0.mk (fun W h => validRule_does A c l W h hl)
  obtain ⟨p, hp⟩ : ∃ p, p = (decide (l.length = 6) && !(l.any fun c => !conOKr c)) := ⟨_, rfl⟩
  rw [← hp] at HC
  have hp2 : ruleOKr ⟨l⟩ = p := hp.symm
  rw [hp2]
  have HR := Aside0.mk hr
  clear hp hp2 hr hl
  go_enter Try.func95, Try.ntmps95
  go_wp2_with (go_at_call 96; refine (HC.out _ (Kd.C_below HR.out (below_alloc (Below.refl _ _) _))).mono ?_; clear HC; rintro e w1 ⟨rfl, hb⟩; have HB := Aside0.mk hb; clear hb)
  go_ret
  exact ⟨rfl, below_call (below_alloc (Below.refl _ _) _) HB.out (by simp)⟩
set_option maxHeartbeats 4000000 in
set_option maxRecDepth 100000 in
theorem indexRule_does (A : Option Addr) (c : Nat) (l : List S131) (w : World) (hr : Kd.C k131 w A l.length l) (hl : l.length ≤ 140737488355328) (hm : ∀ x ∈ l, x.f0.length ≤ 140737488355328) :
    Calls Try.prog 129 #[.slice A l.length c, .func (.func 95) #[] #[]] w (IdxPost (l.any fun c => !ruleOKr c) w) := by
  have HR := Aside0.mk hr
  have HL := Aside0.mk hl
  have HM := Aside0.mk hm
  have HB0 := Aside0.mk (Below.refl w.heap.size w)
  have H0 := Aside0.mk (show ∀ j (h : j < l.length), j < 0 → ruleOKr l[j] = true from fun j h h0 => absurd h0 (Nat.not_lt_zero _))
  clear hr hl hm
  go_enter Try.func129, Try.ntmps129
  go_wp2
  go_loopg [8] l.length (fun kq v8 w' => ∃ i : Nat, v8 = .int .i64 (i : Int) ∧ Aside0 (kq + i = l.length) ∧ Aside0 (∀ j (h : j < l.length), j < i → ruleOKr l[j] = true) ∧ Aside0 (Below w.heap.size w w'))
  case atStart => exact ⟨0, rfl, ⟨rfl⟩, H0, HB0⟩
  case round =>
    clear H0 HB0
    obtain ⟨i, rfl, HI, HA, HB⟩ := hrel
    by_cases hi : i < l.length
    · obtain ⟨k1, rfl⟩ : ∃ m, gk = m + 1 := ⟨gk - 1, by have := HI.out; omega⟩
      obtain ⟨ad, A1, c1, rfl, g0, g1, g2⟩ := at_T131 HR.out (i : Int) (by omega) (by omega)
      simp only [Int.toNat_natCast] at g0
      replace g0 := (HB.out.cell (World.block_lt_of_cell? w _ g0)).trans g0
      have HG2 := Aside0.mk g2
      clear g1 g2
      have hib : decide ((i : Int) < (l.length : Int)) = true := decide_eq_true (by omega)
      have hlm : l.length ≤ 140737488355328 := HL.out
      have he := rdRule_eq l i hi
      have hle : (rd_T131 l i).f0.length ≤ 140737488355328 := HM.out _ (by rw [he]; exact List.getElem_mem _)
      have hv := fun W h => validPolicy1_does A1 c1 (rd_T131 l i).f0 W h hle
      obtain ⟨b, hb⟩ : ∃ b, b = ruleOKr (rd_T131 l i) := ⟨_, rfl⟩
      have hb2 : ruleOKr ⟨(rd_T131 l i).f0⟩ = b := hb.symm
      rw [hb2] at hv
      have HV := Aside0.mk hv
      have HBB := Aside0.mk hb
      clear hv hb hb2 hle
      have HE := Aside0.mk he
      have HII := Aside0.mk hi
      have hibn : decide (i < l.length) = true := decide_eq_true hi
      clear he
      cases b with
      | false =>
        go_wp2_with (go_at_call 95; refine (HV.out _ (Kd.C_below HG2.out HB.out)).mono ?_; clear HV; rintro e w2 ⟨rfl, hb2⟩; have HB2 := Aside0.mk hb2; clear hb2)
        go_ret
        exact ⟨(i : Int), rfl, ⟨fun _ => List.any_eq_true.2 ⟨l[i]'HII.out, List.getElem_mem _, by rw [← HE.out, ← HBB.out]; rfl⟩, fun _ => Int.natCast_nonneg _⟩, below_call HB.out HB2.out HB.out.size⟩
      | true =>
        go_wp2_with (go_at_call 95; refine (HV.out _ (Kd.C_below HG2.out HB.out)).mono ?_; clear HV; rintro e w2 ⟨rfl, hb2⟩; have HB2 := Aside0.mk hb2; clear hb2)
        have HA2 := Aside0.mk (show ∀ j (h : j < l.length), j < i + 1 → ruleOKr l[j] = true from fun j h hj => by
          by_cases hji : j = i
          · subst hji; rw [← HE.out, ← HBB.out]
          · exact HA.out j h (by omega))
        have HI2 := Aside0.mk (show k1 + (i + 1) = l.length by have := HI.out; omega)
        have HB3 := Aside0.mk (below_call HB.out HB2.out HB.out.size)
        go_roundg k1
        case measure => omega
        case rel => exact ⟨i + 1, by first | rfl | (simp; done) | (simp [*]; done), HI2, HA2, HB3⟩
    · have hie : i = l.length := by have := HI.out; omega
      have HA3 := Aside0.mk (show (l.any fun c => !ruleOKr c) = false from by
        rw [List.any_eq_false]
        intro x hx
        obtain ⟨j, hj, rfl⟩ := List.mem_iff_getElem.1 hx
        rw [HA.out j hj (by omega)]
        decide)
      have hib : decide ((i : Int) < (l.length : Int)) = false := decide_eq_false (by omega)
      have hibn : decide (i < l.length) = false := decide_eq_false (by omega)
      clear hie hi HA HI
      go_wp2
      go_ret
      exact ⟨-1, rfl, ⟨fun h => absurd h (by decide), fun h => by rw [HA3.out] at h; exact absurd h (by decide)⟩, HB.out⟩
set_option maxHeartbeats 4000000 in
theorem containsRule_does (A : Option Addr) (c : Nat) (l : List S131) (w : World) (hr : Kd.C k131 w A l.length l) (hl : l.length ≤ 140737488355328) (hm : ∀ x ∈ l, x.f0.length ≤ 140737488355328) :
    Calls Try.prog 94 #[.slice A l.length c, .func (.func 95) #[] #[]] w fun e w' => e = .returned (.bool (l.any fun c => !ruleOKr c)) ∧ Below w.heap.size w w' := by
  have HC := Aside0.mk (indexRule_does A c l w hr hl hm)
  obtain ⟨p, hp⟩ : ∃ p, p = (l.any fun c => !ruleOKr c) := ⟨_, rfl⟩
  rw [← hp] at HC
  rw [← hp]
  clear hp hr hl hm
  go_enter Try.func94, Try.ntmps94
  go_wp2_with (go_at_call 129; refine HC.out.mono ?_; clear HC; rintro e w1 ⟨i, rfl, hi, hb⟩; have HI := Aside0.mk hi; have HB := Aside0.mk hb; clear hi hb)
  go_ret
  have hp3 : decide (0 ≤ i) = p := by rw [Bool.eq_iff_iff, decide_eq_true_eq]; exact HI.out
  exact ⟨congrArg (fun b => Ending.returned (.bool b)) hp3, HB.out⟩

end Go.Proofs.Ytdipinclchkhjaa.P
