import Derived.Test.YtgodbniphkfgfaaGFnExactAssemble8
import Derived.Test.YtgodbniphkfgfaaGFnExactAssemble9
import Derived.Test.YtgodbniphkfgfaaGFnExactAssemble12
import Derived.Test.YtgodbniphkfgfaaGFnExactAssemble14
import Derived.Test.YtgodbniphkfgfaaGFnExactAssemble4
namespace Go.Proofs.Ytgodbniphkfgfaa.P
open Go.RowKit Go.Proofs.YtgodbniphkfgfaaW.PrintWords Go.Proofs.YtgodbniphkfgfaaW.PrintLast Go.Proofs.YtgodbniphkfgfaaW.PrintMore
set_option linter.unusedVariables false
set_option linter.unusedSimpArgs false
/-! Laying items out. -/
def ItR (x : S64) : Prop := (-9223372036854775808 ≤ x.f0 ∧ x.f0 < 9223372036854775808) ∧ InsR x.f1 ∧ -9223372036854775808 ≤ x.f2 ∧ x.f2 < 9223372036854775808
def jumpC (c : Int) : Prop := c = 21 ∨ c = 37 ∨ c = 53 ∨ c = 69
instance : DecidablePred jumpC := fun c => by unfold jumpC; infer_instance
def okI (it : S64) : Bool := if it.f0 = 0 then decide (sortN it.f1.f0 = 1 ∨ sortN it.f1.f0 = 4) else if it.f0 = 1 ∨ it.f0 = 2 then decide (jumpC it.f1.f0) else decide (it.f0 = 3 ∨ it.f0 = 4)
theorem sort_cases (c : Int) : sortN c = 0 ∨ sortN c = 1 ∨ sortN c = 2 ∨ sortN c = 3 ∨ sortN c = 4 := by
  unfold sortN
  split
  · simp
  · split
    · simp
    · split
      · simp
      · split <;> simp
theorem sort_is3 (c : Int) : sortN c = 3 ↔ c = 5 := by
  unfold sortN
  split
  · rename_i h
    simp only [plainCodes, List.mem_cons, List.not_mem_nil, or_false] at h
    constructor
    · intro h2; exact absurd h2 (by decide)
    · intro h2; subst h2; exact absurd h (by decide)
  · split
    · rename_i h; simp [h]
    · rename_i h
      split
      · simp [h]
      · split <;> simp [h]
theorem implValid_ev (it : S64) : Ev (fun k => impl_validItem.f k it.f0 it.f1.f0 it.f1.f1 it.f1.f2 it.f1.f3 it.f2) (okI it) := by
  refine ev_mk 2 fun k hk => ?_
  unfold impl_validItem.f okI
  by_cases h0 : it.f0 = 0
  · rw [if_pos h0, if_pos h0, sortOf_is _ k hk, Option.bind_some]
    rcases sort_cases it.f1.f0 with e | e | e | e | e <;> simp [e]
  · rw [if_neg h0, if_neg h0]
    by_cases h1 : it.f0 = 1
    · rw [if_pos h1, if_pos (Or.inl h1 : it.f0 = 1 ∨ it.f0 = 2)]
      unfold jumpC
      by_cases a : it.f1.f0 = 21 <;> by_cases b : it.f1.f0 = 37 <;> by_cases c : it.f1.f0 = 53 <;> by_cases d : it.f1.f0 = 69 <;> simp [a, b, c, d]
    · rw [if_neg h1]
      by_cases h2 : it.f0 = 2
      · rw [if_pos h2, if_pos (Or.inr h2 : it.f0 = 1 ∨ it.f0 = 2)]
        unfold jumpC
        by_cases a : it.f1.f0 = 21 <;> by_cases b : it.f1.f0 = 37 <;> by_cases c : it.f1.f0 = 53 <;> by_cases d : it.f1.f0 = 69 <;> simp [a, b, c, d]
      · rw [if_neg h2, if_neg (show ¬ (it.f0 = 1 ∨ it.f0 = 2) from fun h => h.elim h1 h2)]
        by_cases h3 : it.f0 = 3 <;> by_cases h4 : it.f0 = 4 <;> simp [h3, h4]
theorem specOK_ev (it : S64) (hR : ItR it) : Ev (fun k => spec_l5itemOK.f k it.f0 it.f1.f0 it.f1.f1 it.f1.f2 it.f1.f3 it.f2) (okI it) := by
  obtain ⟨_, ⟨⟨c0, c1⟩, _⟩, _⟩ := hR
  obtain ⟨K1, h1⟩ := ev_get (l1known_ev it.f1.f0)
  obtain ⟨K2, h2⟩ := ev_get (l1isTest_ev it.f1.f0 c0)
  have w : wrap64 it.f1.f0 = it.f1.f0 := wrap64_id (by omega) (by omega)
  refine ev_mk (K1 + K2 + 1) fun k hk => ?_
  obtain ⟨k, rfl⟩ : ∃ m, k = m + 1 := ⟨k - 1, by omega⟩
  have hj : spec_l5itemOK.f (k + 1) it.f0 it.f1.f0 it.f1.f1 it.f1.f2 it.f1.f3 it.f2 = spec_l5itemOK.j0 (k + 1) (decide (it.f0 < 0 ∨ it.f0 > 4)) it.f0 it.f1.f0 it.f1.f1 it.f1.f2 it.f1.f3 it.f2 := by
    unfold spec_l5itemOK.f
    by_cases h : it.f0 < 0
    · rw [if_pos h, decide_eq_true (.inl h)]
    · rw [if_neg h]
      congr 1
      by_cases h2 : it.f0 > 4 <;> simp [h, h2]
  rw [hj, spec_l5itemOK.j0, w, h1 k (by omega), h2 k (by omega), Option.bind_some, Option.bind_some]
  unfold okI
  by_cases hb : it.f0 < 0 ∨ it.f0 > 4
  · rw [if_pos (by simp [hb]), if_neg (by omega), if_neg (by omega), decide_eq_false (by omega)]
  · rw [if_neg (by simp only [decide_eq_true_eq]; exact hb)]
    by_cases h0 : it.f0 = 0
    · rw [if_pos h0, if_pos h0]
      have s3 := sort_is3 it.f1.f0
      rcases sort_cases it.f1.f0 with e | e | e | e | e
      · simp [e]
      · rw [if_pos (by simp [e]), if_neg (fun h => by rw [s3.2 h] at e; exact absurd e (by decide))]; simp [e]
      · rw [if_pos (by simp [e]), if_neg (fun h => by rw [s3.2 h] at e; exact absurd e (by decide))]; simp [e]
      · rw [if_pos (by simp [e]), if_pos (s3.1 e)]; simp [e]
      · rw [if_pos (by simp [e]), if_neg (fun h => by rw [s3.2 h] at e; exact absurd e (by decide))]; simp [e]
    · rw [if_neg h0, if_neg h0]
      by_cases h1 : it.f0 = 1
      · rw [if_pos h1, if_pos (Or.inl h1 : it.f0 = 1 ∨ it.f0 = 2)]
        unfold jumpC
        by_cases a : it.f1.f0 = 21 <;> by_cases b : it.f1.f0 = 37 <;> by_cases c : it.f1.f0 = 53 <;> by_cases d : it.f1.f0 = 69 <;> simp [a, b, c, d]
      · rw [if_neg h1]
        by_cases h2 : it.f0 = 2
        · rw [if_pos h2, if_pos (Or.inr h2 : it.f0 = 1 ∨ it.f0 = 2)]
          unfold jumpC
          by_cases a : it.f1.f0 = 21 <;> by_cases b : it.f1.f0 = 37 <;> by_cases c : it.f1.f0 = 53 <;> by_cases d : it.f1.f0 = 69 <;> simp [a, b, c, d]
        · rw [if_neg h2, if_neg (show ¬ (it.f0 = 1 ∨ it.f0 = 2) from fun h => h.elim h1 h2), decide_eq_true (by omega)]
/-- The instructions of an item. -/
def madeN (it : S64) (d : Int) : List S54 :=
  if it.f0 = 0 then [it.f1] else if it.f0 = 3 then [⟨5, 0, 0, d % 4294967296⟩]
  else if d ≤ 255 then (if it.f0 = 1 then [⟨it.f1.f0, d % 256, 0, it.f1.f3⟩] else [⟨it.f1.f0, 0, d % 256, it.f1.f3⟩])
  else (if it.f0 = 1 then [⟨it.f1.f0, 0, 1, it.f1.f3⟩, ⟨5, 0, 0, d % 4294967296⟩] else [⟨it.f1.f0, 1, 0, it.f1.f3⟩, ⟨5, 0, 0, d % 4294967296⟩])
theorem made_ev (it : S64) (d : Int) : Ev (fun k => impl_made.f k it.f0 it.f1.f0 it.f1.f1 it.f1.f2 it.f1.f3 it.f2 d) (madeN it d) := by
  refine ev_mk 1 fun k hk => ?_
  obtain ⟨k, rfl⟩ : ∃ m, k = m + 1 := ⟨k - 1, by omega⟩
  unfold impl_made.f madeN
  by_cases h0 : it.f0 = 0
  · rw [if_pos h0, if_pos h0]
  · rw [if_neg h0, if_neg h0]
    by_cases h3 : it.f0 = 3
    · rw [if_pos h3, if_pos h3]
    · rw [if_neg h3, if_neg h3]
      by_cases h1 : it.f0 = 1 <;> by_cases hd : d ≤ 255 <;> simp [impl_made.j0, h1, hd]
theorem madeN_length (it : S64) (d : Int) : (madeN it d).length ≤ 2 := by
  unfold madeN
  repeat' split
  all_goals simp
/-- The layout, from the end: what has been counted, and the parts. -/
def layN (l : List S64) : Nat → List (Int × Int) → Int → List (List S54) → Option (Int × List (List S54))
  | 0, _, n, ps => some (n, ps)
  | i + 1, marks, n, ps => if okI (rd_T64 l (i : Int)) = true then (if (rd_T64 l (i : Int)).f0 = 4 then (match lkp marks (rd_T64 l (i : Int)).f2 with | some _ => none | none => layN l i (((rd_T64 l (i : Int)).f2, n) :: marks) n ([] :: ps)) else if (rd_T64 l (i : Int)).f0 = 0 then layN l i marks (n + ((madeN (rd_T64 l (i : Int)) 0).length : Int)) (madeN (rd_T64 l (i : Int)) 0 :: ps) else (match lkp marks (rd_T64 l (i : Int)).f2 with | none => none | some a => layN l i marks (n + ((madeN (rd_T64 l (i : Int)) (n - a)).length : Int)) (madeN (rd_T64 l (i : Int)) (n - a) :: ps))) else none
theorem lkp_mem {marks : List (Int × Int)} {x v : Int} (h : lkp marks x = some v) : ∃ p ∈ marks, p.2 = v := by
  unfold lkp at h
  obtain ⟨p, hp, e⟩ := Option.map_eq_some_iff.1 h
  exact ⟨p, List.mem_of_find?_eq_some hp, e⟩
theorem ev_bindl {α β : Type} {f : Nat → Option α} {g : Nat → α → Option β} {x : α} {r : β} (h : Ev f x) (h2 : Ev (fun k => g k x) r) : Ev (fun k => (f k).bind (g k)) r := by
  obtain ⟨K1, h1⟩ := ev_get h
  obtain ⟨K2, h2⟩ := ev_get h2
  exact ev_mk (K1 + K2) fun k hk => bo (h1 k (by omega)) (h2 k (by omega))
theorem layF_ev (l : List S64) (hR : ∀ x ∈ l, ItR x) : ∀ (i : Nat) (marks : List (Int × Int)) (n : Int) (ps : List (List S54)), i ≤ l.length → 0 ≤ n → n + 2 * (i : Int) ≤ 100000 → (∀ p ∈ marks, 0 ≤ p.2 ∧ p.2 ≤ n) → Ev (fun k => layF k l i marks n ps) (layN l i marks n ps)
  | 0, marks, n, ps, _, _, _, _ => ev_is fun k => rfl
  | i + 1, marks, n, ps, hi, h0, h1, hm => by
    have ih := layF_ev l hR i
    have hit := hR _ (List.getElem_mem (show i < l.length by omega))
    have hrd := rdItem_eq l i (by omega)
    rw [← hrd] at hit
    simp only [layF, layN]
    clear hrd
    generalize rd_T64 l (i : Int) = it at hit ⊢
    have hwf : (Lit.int .i64 it.f2).wf = true := by
      obtain ⟨_, _, a, b⟩ := hit
      simp only [Lit.wf, IntKind.min, IntKind.max, IntKind.signed, IntKind.bits, Bool.and_eq_true]
      simp
      omega
    simp only [hwf, if_true]
    have hml := fun d => madeN_length it d
    have part : ∀ d : Int, Ev (fun k => (impl_made.f k it.f0 it.f1.f0 it.f1.f1 it.f1.f2 it.f1.f3 it.f2 d).bind fun p => layF k l i marks (wrap64 (n + (p.length : Int))) (p :: ps)) (layN l i marks (n + ((madeN it d).length : Int)) (madeN it d :: ps)) := fun d => by
      have := hml d
      refine ev_bindl (made_ev it d) ?_
      rw [wrap64_id (by omega) (by omega)]
      exact ih marks _ _ (by omega) (by omega) (by omega) (fun p hp => by have := hm p hp; omega)
    refine ev_bindl (implValid_ev it) ?_
    cases okI it with
    | false => exact ev_is fun k => rfl
    | true =>
      simp only [if_true]
      by_cases h4 : it.f0 = 4
      · simp only [if_pos h4]
        cases hk : lkp marks it.f2 with
        | some a => exact ev_is fun k => rfl
        | none => exact ih _ _ _ (by omega) h0 (by omega) (fun p hp => by
            rcases List.mem_cons.1 hp with rfl | hp
            · exact ⟨h0, Int.le_refl _⟩
            · exact hm p hp)
      · simp only [if_neg h4]
        by_cases hz : it.f0 = 0
        · simp only [if_pos hz]
          exact part 0
        · simp only [if_neg hz]
          cases hk : lkp marks it.f2 with
          | none => exact ev_is fun k => rfl
          | some a =>
            obtain ⟨p, hp, e⟩ := lkp_mem hk
            have := hm p hp
            simp only [wrap64_id (i := n - a) (by omega) (by omega)]
            exact part (n - a)
/-! The reference's search. -/
def findN (m : List S88) (x : Int) : Int := match m.reverse.find? (fun p => p.f0 == x) with | some p => p.f1 | none => -1
theorem rdMark_eq (l : List S88) (i : Nat) (h : i < l.length) : rd_T88 l (i : Int) = l[i] := by
  simp [rd_T88, List.getD_eq_getElem?_getD, List.getElem?_eq_getElem h]
theorem find_ev (m : List S88) (x : Int) (hl : m.length ≤ 1000000) : Ev (fun k => spec_l5find.f k m x) (findN m x) := by
  have key : ∀ j : Nat, j ≤ m.length → Ev (fun k => spec_l5find.l0 k m x ((j : Int) - 1)) (findN (m.take j) x) := by
    intro j
    induction j with
    | zero => intro _; exact ev_end fun k => by simp only [spec_l5find.l0]; rw [if_neg (by omega)]; rfl
    | succ j ih =>
      intro hj
      have hlt : j < m.length := by omega
      have e1 : ((j + 1 : Nat) : Int) - 1 = (j : Int) := by omega
      rw [e1]
      have et : findN (m.take (j + 1)) x = if m[j].f0 = x then m[j].f1 else findN (m.take j) x := by
        unfold findN
        rw [List.take_succ_eq_append_getElem hlt, List.reverse_append, List.reverse_cons, List.reverse_nil, List.nil_append, List.singleton_append, List.find?_cons]
        by_cases h : m[j].f0 = x
        · rw [if_pos h, beq_iff_eq.2 h]
        · rw [if_neg h, beq_eq_false_iff_ne.2 h]
      rw [et]
      by_cases h : m[j].f0 = x
      · rw [if_pos h]
        exact ev_end fun k => by simp only [spec_l5find.l0]; rw [if_pos (by omega), if_pos (by omega), if_pos (by omega), rdMark_eq m j hlt, if_pos h]
      · rw [if_neg h]
        exact ev_step _ (fun k => by simp only [spec_l5find.l0]; rw [if_pos (by omega), if_pos (by omega), if_pos (by omega), rdMark_eq m j hlt, if_neg h, wrap64_id (by omega) (by omega)]) (ih (by omega))
  have h := key m.length (Nat.le_refl _)
  rw [List.take_length] at h
  refine Ev.congr (fun k => ?_) h
  unfold spec_l5find.f
  rw [wrap64_id (by omega) (by omega)]
def mk88 (g : Int → Int) (marks : List (Int × Int)) : List S88 := marks.reverse.map fun p => ⟨p.1, g p.2⟩
theorem mk88_cons (g : Int → Int) (marks : List (Int × Int)) (x v : Int) : mk88 g ((x, v) :: marks) = mk88 g marks ++ [⟨x, g v⟩] := by simp [mk88]
theorem mk88_length (g : Int → Int) (marks : List (Int × Int)) : (mk88 g marks).length = marks.length := by simp [mk88]
theorem findN_mk (g : Int → Int) (marks : List (Int × Int)) (x : Int) : findN (mk88 g marks) x = match lkp marks x with | some v => g v | none => -1 := by
  unfold findN mk88 lkp
  rw [← List.map_reverse, List.reverse_reverse, List.find?_map]
  cases h : List.find? ((fun p : S88 => p.f0 == x) ∘ fun p : Int × Int => ⟨p.1, g p.2⟩) marks with
  | none =>
    have h2 : List.find? (fun p : Int × Int => p.1 == x) marks = none := h
    rw [h2]; rfl
  | some p =>
    have h2 : List.find? (fun p : Int × Int => p.1 == x) marks = some p := h
    rw [h2]; rfl
theorem branch_is (c : Int) : spec_l5isBranch.f c = some (decide (c = 1 ∨ c = 2 ∨ c = 3)) := by
  unfold spec_l5isBranch.f
  by_cases h1 : c = 1 <;> by_cases h2 : c = 2 <;> by_cases h3 : c = 3 <;> simp [h1, h2, h3]
theorem okI_kind {it : S64} (h : okI it = true) : it.f0 = 0 ∨ it.f0 = 1 ∨ it.f0 = 2 ∨ it.f0 = 3 ∨ it.f0 = 4 := by
  unfold okI at h
  split at h
  · exact .inl ‹_›
  · split at h
    · omega
    · have := of_decide_eq_true h
      omega
theorem itemsOK_ev (l : List S64) (hR : ∀ x ∈ l, ItR x) (hl : l.length ≤ 20000) : ∀ (i : Nat) (marks : List (Int × Int)) (n : Int) (ps : List (List S54)), i ≤ l.length → marks.length + i ≤ l.length → Ev (fun k => spec_l5itemsOK.l0 k l (mk88 (fun _ => 0) marks) ((i : Int) - 1)) (layN l i marks n ps).isSome
  | 0, marks, n, ps, _, _ => ev_end fun k => by simp only [spec_l5itemsOK.l0]; rw [if_neg (by omega)]; rfl
  | i + 1, marks, n, ps, hi, hm => by
    have ih := itemsOK_ev l hR hl i
    have hit := hR _ (List.getElem_mem (show i < l.length by omega))
    have hrd := rdItem_eq l i (by omega)
    rw [← hrd] at hit
    have e1 : ((i + 1 : Nat) : Int) - 1 = (i : Int) := by omega
    have w : wrap64 ((i : Int) - 1) = (i : Int) - 1 := wrap64_id (by omega) (by omega)
    rw [e1]
    refine ev_step _ (fun k => by simp only [spec_l5itemsOK.l0]; rw [if_pos (by omega), if_pos (by omega), if_pos (by omega), w]) ?_
    simp only [layN]
    clear hrd
    generalize rd_T64 l (i : Int) = it at hit ⊢
    have hfd := findN_mk (fun _ => 0) marks it.f2
    have hfe := find_ev (mk88 (fun _ => 0) marks) it.f2 (by rw [mk88_length]; omega)
    rw [hfd] at hfe
    refine ev_bindl (specOK_ev it hit) ?_
    cases hok : okI it with
    | false => exact ev_is fun k => rfl
    | true =>
      simp only [if_true]
      have hkd := okI_kind hok
      by_cases h4 : it.f0 = 4
      · simp only [if_pos h4]
        cases hk : lkp marks it.f2 with
        | some a =>
          rw [hk] at hfe
          have hfe2 : Ev (fun k => spec_l5find.f k (mk88 (fun _ => 0) marks) it.f2) (0 : Int) := hfe
          refine ev_bindl hfe2 ?_
          exact ev_is fun k => by rw [if_pos (show (0 : Int) ≥ 0 by decide)]; rfl
        | none =>
          rw [hk] at hfe
          have hfe2 : Ev (fun k => spec_l5find.f k (mk88 (fun _ => 0) marks) it.f2) (-1 : Int) := hfe
          refine ev_bindl hfe2 ?_
          have hlen : (mk88 (fun _ => 0) marks).length < 8796093022208 := by rw [mk88_length]; omega
          refine Ev.congr (fun k => ?_) (ih ((it.f2, n) :: marks) n ([] :: ps) (by omega) (by simp only [List.length_cons]; omega))
          rw [mk88_cons, if_neg (show ¬ (-1 : Int) ≥ 0 by decide), if_pos hlen]
      · simp only [if_neg h4, branch_is, Option.bind_some]
        by_cases hz : it.f0 = 0
        · simp only [if_pos hz]
          refine Ev.congr (fun k => ?_) (ih marks _ _ (by omega) (by omega))
          rw [decide_eq_false (by omega), if_neg (by decide)]
        · simp only [if_neg hz]
          have hb : decide (it.f0 = 1 ∨ it.f0 = 2 ∨ it.f0 = 3) = true := decide_eq_true (by omega)
          simp only [hb, if_true]
          cases hk : lkp marks it.f2 with
          | none =>
            rw [hk] at hfe
            have hfe2 : Ev (fun k => spec_l5find.f k (mk88 (fun _ => 0) marks) it.f2) (-1 : Int) := hfe
            refine ev_bindl hfe2 ?_
            exact ev_is fun k => by rw [if_pos (show (-1 : Int) < 0 by decide)]; rfl
          | some a =>
            rw [hk] at hfe
            have hfe2 : Ev (fun k => spec_l5find.f k (mk88 (fun _ => 0) marks) it.f2) (0 : Int) := hfe
            refine ev_bindl hfe2 ?_
            refine Ev.congr (fun k => ?_) (ih marks (n + ((madeN it (n - a)).length : Int)) (madeN it (n - a) :: ps) (by omega) (by omega))
            rw [if_neg (show ¬ (0 : Int) < 0 by decide)]
/-! The reference's layout, backwards. -/
theorem layN_len (l : List S64) : ∀ (i : Nat) (marks : List (Int × Int)) (n : Int) (ps : List (List S54)) (n' : Int) (ps' : List (List S54)), layN l i marks n ps = some (n', ps') → n = (ps.flatten.length : Int) → n' = (ps'.flatten.length : Int) ∧ n ≤ n'
  | 0, marks, n, ps, n', ps', h, hn => by
    simp only [layN, Option.some.injEq, Prod.mk.injEq] at h
    obtain ⟨rfl, rfl⟩ := h
    exact ⟨hn, Int.le_refl _⟩
  | i + 1, marks, n, ps, n', ps', h, hn => by
    have ih := layN_len l i
    simp only [layN] at h
    generalize rd_T64 l (i : Int) = it at h
    cases hok : okI it with
    | false => rw [hok, if_neg (by decide)] at h; exact absurd h (by simp)
    | true =>
      rw [hok, if_pos rfl] at h
      have fl : ∀ p : List S54, n + (p.length : Int) = ((p :: ps).flatten.length : Int) := fun p => by rw [List.flatten_cons, List.length_append, hn]; omega
      by_cases h4 : it.f0 = 4
      · rw [if_pos h4] at h
        cases hk : lkp marks it.f2 with
        | some a => rw [hk] at h; exact absurd h (by simp)
        | none => rw [hk] at h; exact ih _ _ _ _ _ h (by simpa using hn)
      · rw [if_neg h4] at h
        by_cases hz : it.f0 = 0
        · rw [if_pos hz] at h
          have := ih _ _ _ _ _ h (fl _)
          exact ⟨this.1, by omega⟩
        · rw [if_neg hz] at h
          cases hk : lkp marks it.f2 with
          | none => rw [hk] at h; exact absurd h (by simp)
          | some a =>
            rw [hk] at h
            have := ih _ _ _ _ _ h (fl _)
            exact ⟨this.1, by omega⟩
theorem laid_stop (l : List S64) (out : List S54) (m : List S88) (i : Int) (h : (out.length : Int) > 4096) : Ev (fun k => spec_l5laid.l0 k l out m i) out := by
  refine ev_mk 2 fun k hk => ?_
  obtain ⟨k, rfl⟩ : ∃ j, k = j + 2 := ⟨k - 2, by omega⟩
  simp only [spec_l5laid.l0, spec_l5laid.j1]
  by_cases hi : i ≥ 0
  · rw [if_pos hi, decide_eq_false (by omega), if_neg (by decide)]
  · rw [if_neg hi, if_neg (by decide)]
theorem laid_ev (l : List S64) (hR : ∀ x ∈ l, ItR x) (hl : l.length ≤ 20000) : ∀ (i : Nat) (marks : List (Int × Int)) (n : Int) (ps : List (List S54)) (n' : Int) (ps' : List (List S54)), i ≤ l.length → marks.length + i ≤ l.length → n = (ps.flatten.length : Int) → (∀ p ∈ marks, 0 ≤ p.2 ∧ p.2 ≤ n) → layN l i marks n ps = some (n', ps') →
    ∃ out, Ev (fun k => spec_l5laid.l0 k l ps.flatten.reverse (mk88 id marks) ((i : Int) - 1)) out ∧ (n' ≤ 4096 → out = ps'.flatten.reverse) ∧ (n' > 4096 → (out.length : Int) > 4096)
  | 0, marks, n, ps, n', ps', _, _, hn, _, h => by
    simp only [layN, Option.some.injEq, Prod.mk.injEq] at h
    obtain ⟨rfl, rfl⟩ := h
    refine ⟨ps.flatten.reverse, ev_mk 2 fun k hk => ?_, fun _ => rfl, fun h => by rw [List.length_reverse]; omega⟩
    obtain ⟨k, rfl⟩ : ∃ j, k = j + 2 := ⟨k - 2, by omega⟩
    simp only [spec_l5laid.l0, spec_l5laid.j1]
    rw [if_neg (by omega), if_neg (by decide)]
  | i + 1, marks, n, ps, n', ps', hi, hm, hn, hmr, h => by
    have ih := laid_ev l hR hl i
    have hit := hR _ (List.getElem_mem (show i < l.length by omega))
    have hrd := rdItem_eq l i (by omega)
    rw [← hrd] at hit
    have hmono := layN_len l (i + 1) marks n ps n' ps' h hn
    by_cases hbig : n > 4096
    · exact ⟨_, laid_stop l _ _ _ (by rw [List.length_reverse]; omega), fun h2 => by omega, fun _ => by rw [List.length_reverse]; omega⟩
    have e1 : ((i + 1 : Nat) : Int) - 1 = (i : Int) := by omega
    have w : wrap64 ((i : Int) - 1) = (i : Int) - 1 := wrap64_id (by omega) (by omega)
    have hlo : (ps.flatten.reverse.length : Int) = n := by rw [List.length_reverse]; omega
    have hlo2 : ps.flatten.reverse.length < 17592186044416 := by omega
    rw [e1]
    simp only [layN] at h
    have hstep : ∀ k, spec_l5laid.l0 (k + 2) l ps.flatten.reverse (mk88 id marks) (i : Int) = spec_l5laid.j1 (k + 1) l ps.flatten.reverse (mk88 id marks) (i : Int) true := fun k => by
      rw [show k + 2 = (k + 1) + 1 from rfl, spec_l5laid.l0, if_pos (by omega), decide_eq_true (by omega)]
    obtain ⟨it, hite⟩ : ∃ it, rd_T64 l (i : Int) = it := ⟨_, rfl⟩
    rw [hite] at hit h
    have hfd := findN_mk id marks it.f2
    have hfe := find_ev (mk88 id marks) it.f2 (by rw [mk88_length]; omega)
    rw [hfd] at hfe
    have c1 : (0 : Int) ≤ (i : Int) := by omega
    have c2 : (i : Int) < (l.length : Int) := by omega
    have hj : ∀ out, Ev (fun k => spec_l5laid.j1 (k + 1) l ps.flatten.reverse (mk88 id marks) (i : Int) true) out → Ev (fun k => spec_l5laid.l0 k l ps.flatten.reverse (mk88 id marks) (i : Int)) out := fun out ho => by
      obtain ⟨K, hK⟩ := ev_get ho
      refine ev_mk (K + 2) fun k hk => ?_
      obtain ⟨k, rfl⟩ : ∃ j, k = j + 2 := ⟨k - 2, by omega⟩
      rw [hstep]
      exact hK k (by omega)
    cases hok : okI it with
    | false => rw [hok, if_neg (by decide)] at h; exact absurd h (by simp)
    | true =>
      rw [hok, if_pos rfl] at h
      have hkd := okI_kind hok
      have fl : ∀ p : List S54, n + (p.length : Int) = ((p :: ps).flatten.length : Int) := fun p => by rw [List.flatten_cons, List.length_append, hn]; omega
      have fr : ∀ p : List S54, (p :: ps).flatten.reverse = ps.flatten.reverse ++ p.reverse := fun p => by rw [List.flatten_cons, List.reverse_append]
      have mr : ∀ p : List S54, ∀ q ∈ marks, 0 ≤ q.2 ∧ q.2 ≤ n + (p.length : Int) := fun p q hq => by have := hmr q hq; omega
      by_cases h4 : it.f0 = 4
      · rw [if_pos h4] at h
        cases hk : lkp marks it.f2 with
        | some a => rw [hk] at h; exact absurd h (by simp)
        | none =>
          rw [hk] at h
          obtain ⟨out, o1, o2, o3⟩ := ih _ _ _ _ _ (by omega) (by simp only [List.length_cons]; omega) (by simpa using hn) (fun p hp => by
            rcases List.mem_cons.1 hp with rfl | hp
            · exact ⟨by omega, Int.le_refl _⟩
            · exact hmr p hp) h
          refine ⟨out, hj out ?_, o2, o3⟩
          simp only [spec_l5laid.j1, hite, if_true, if_pos c1, if_pos c2, w, if_pos h4]
          refine Ev.congr (fun k => ?_) o1
          rw [if_pos (by rw [mk88_length]; omega), mk88_cons, hlo]
          rfl
      · rw [if_neg h4] at h
        by_cases hz : it.f0 = 0
        · rw [if_pos hz] at h
          obtain ⟨out, o1, o2, o3⟩ := ih _ _ _ _ _ (by omega) (by omega) (fl _) (mr _) h
          refine ⟨out, hj out ?_, o2, o3⟩
          simp only [spec_l5laid.j1, hite, if_true, if_pos c1, if_pos c2, w, if_neg h4, if_pos hz]
          refine Ev.congr (fun k => ?_) o1
          have em : madeN it 0 = [it.f1] := by unfold madeN; rw [if_pos hz]
          rw [if_pos hlo2, fr, em]
          rfl
        · rw [if_neg hz] at h
          cases hk : lkp marks it.f2 with
          | none => rw [hk] at h; exact absurd h (by simp)
          | some a =>
            rw [hk] at h
            rw [hk] at hfe
            have hfe2 : Ev (fun k => spec_l5find.f k (mk88 id marks) it.f2) a := hfe
            obtain ⟨p, hp, ea⟩ := lkp_mem hk
            have ha := hmr p hp
            have wd : wrap64 (n - a) = n - a := wrap64_id (by omega) (by omega)
            obtain ⟨out, o1, o2, o3⟩ := ih _ _ _ _ _ (by omega) (by omega) (fl _) (mr _) h
            refine ⟨out, hj out ?_, o2, o3⟩
            simp only [spec_l5laid.j1, hite, if_true, if_pos c1, if_pos c2, w, if_neg h4, if_neg hz, hlo]
            refine ev_bindl hfe2 ?_
            refine Ev.congr (fun k => ?_) o1
            have hlo3 : ∀ x : S54, (ps.flatten.reverse ++ [x]).length < 17592186044416 := fun x => by rw [List.length_append, List.length_singleton]; omega
            rw [wd, fr]
            by_cases h3 : it.f0 = 3
            · have em : madeN it (n - a) = [⟨5, 0, 0, (n - a) % 4294967296⟩] := by unfold madeN; rw [if_neg hz, if_pos h3]
              rw [if_pos h3, if_pos hlo2, em]
              rfl
            · rw [if_neg h3]
              by_cases hd : n - a ≤ 255
              · rw [if_pos hd]
                by_cases h1 : it.f0 = 1
                · have em : madeN it (n - a) = [⟨it.f1.f0, (n - a) % 256, 0, it.f1.f3⟩] := by unfold madeN; rw [if_neg hz, if_neg h3, if_pos hd, if_pos h1]
                  rw [if_pos h1, if_pos hlo2, em]
                  rfl
                · have em : madeN it (n - a) = [⟨it.f1.f0, 0, (n - a) % 256, it.f1.f3⟩] := by unfold madeN; rw [if_neg hz, if_neg h3, if_pos hd, if_neg h1]
                  rw [if_neg h1, if_pos hlo2, em]
                  rfl
              · rw [if_neg hd, if_pos hlo2, Option.bind_some]
                by_cases h1 : it.f0 = 1
                · have em : madeN it (n - a) = [⟨it.f1.f0, 0, 1, it.f1.f3⟩, ⟨5, 0, 0, (n - a) % 4294967296⟩] := by unfold madeN; rw [if_neg hz, if_neg h3, if_neg hd, if_pos h1]
                  rw [if_pos h1, if_pos (hlo3 _), em, List.append_assoc]
                  rfl
                · have em : madeN it (n - a) = [⟨it.f1.f0, 1, 0, it.f1.f3⟩, ⟨5, 0, 0, (n - a) % 4294967296⟩] := by unfold madeN; rw [if_neg hz, if_neg h3, if_neg hd, if_neg h1]
                  rw [if_neg h1, if_pos (hlo3 _), em, List.append_assoc]
                  rfl
theorem lay_copy (out : List S54) (hl : out.length ≤ 100000) : Ev (fun k => spec_l5lay.l0 k out [] ((out.length : Int) - 1)) (out.reverse, 0) := by
  have key : ∀ j : Nat, j ≤ out.length → ∀ acc : List S54, acc.length + j ≤ 100000 → Ev (fun k => spec_l5lay.l0 k out acc ((j : Int) - 1)) (acc ++ (out.take j).reverse, 0) := by
    intro j
    induction j with
    | zero => intro _ acc _; exact ev_end fun k => by simp only [spec_l5lay.l0]; rw [if_neg (by omega)]; simp
    | succ j ih =>
      intro hj acc hacc
      have hlt : j < out.length := by omega
      have e1 : ((j + 1 : Nat) : Int) - 1 = (j : Int) := by omega
      rw [e1]
      have := ih (by omega) (acc ++ [out[j]]) (by rw [List.length_append, List.length_singleton]; omega)
      rw [List.take_succ_eq_append_getElem hlt, List.reverse_append, List.reverse_singleton, ← List.append_assoc]
      refine ev_step _ (fun k => ?_) this
      simp only [spec_l5lay.l0]
      rw [if_pos (by omega), if_pos (by omega), if_pos (by omega), if_pos (by omega), rdIns_eq out j hlt, wrap64_id (by omega) (by omega)]
  have h := key out.length (Nat.le_refl _) [] (by simpa using hl)
  rw [List.take_length] at h
  exact h
/-- Assemble, on both sides. -/
theorem assemble_ev (l : List S64) (hR : ∀ x ∈ l, ItR x) (hlm : l.length ≤ 1048576) : ∃ r : List S54 × Int, r.1.length ≤ 4096 ∧ Ev (fun k => spec_Assemble.f k l) r ∧ Ev (fun k => impl_Assemble.f k l) r := by
  by_cases hl : l.length ≤ 20000
  case neg =>
    refine ⟨([], 1), by simp, ev_is fun k => ?_, ev_is fun k => ?_⟩
    · unfold spec_Assemble.f; rw [if_pos (by omega)]
    · unfold impl_Assemble.f; rw [if_pos (by omega)]
  have hw : wrap64 ((l.length : Int) - 1) = (l.length : Int) - 1 := wrap64_id (by omega) (by omega)
  have hF := layF_ev l hR l.length [] 0 [] (Nat.le_refl _) (by decide) (by omega) (by simp)
  have hO := itemsOK_ev l hR hl l.length [] 0 [] (Nat.le_refl _) (by simp)
  have hO2 : Ev (fun k => spec_l5itemsOK.f k l) (layN l l.length [] 0 []).isSome := by
    refine Ev.congr (fun k => ?_) hO
    unfold spec_l5itemsOK.f
    rw [hw]
    rfl
  cases hN : layN l l.length [] 0 [] with
  | none =>
    rw [hN] at hF hO2
    refine ⟨([], 1), by simp, ?_, ?_⟩
    · unfold spec_Assemble.f
      refine Ev.congr (fun k => by rw [if_neg (by omega)]) ?_
      exact ev_bindl hO2 (ev_is fun k => rfl)
    · unfold impl_Assemble.f
      refine Ev.congr (fun k => by rw [if_neg (by omega)]) ?_
      have : Ev (fun k => impl_layout.f k l) (([] : List S54), (1 : Int)) := by
        unfold impl_layout.f
        refine Ev.congr (fun k => by rw [if_pos hl]) ?_
        exact ev_bindl hF (ev_is fun k => rfl)
      exact ev_bindl this (ev_is fun k => rfl)
  | some q =>
    obtain ⟨n, ps⟩ := q
    rw [hN] at hF hO2
    obtain ⟨hn, hn0⟩ := layN_len l l.length [] 0 [] n ps hN (by simp)
    obtain ⟨out, o1, o2, o3⟩ := laid_ev l hR hl l.length [] 0 [] n ps (Nat.le_refl _) (by simp) (by simp) (by simp) hN
    have hL : Ev (fun k => spec_l5laid.f k l) out := by
      refine Ev.congr (fun k => ?_) o1
      unfold spec_l5laid.f
      rw [hw]
      rfl
    by_cases hbig : n > 4096
    · have h3 := o3 hbig
      refine ⟨([], 10), by simp, ?_, ?_⟩
      · unfold spec_Assemble.f
        refine Ev.congr (fun k => by rw [if_neg (by omega)]) ?_
        refine ev_bindl hO2 ?_
        have : Ev (fun k => spec_l5lay.f k l) (([] : List S54), (10 : Int)) := by
          unfold spec_l5lay.f
          exact ev_bindl hL (ev_is fun k => by rw [if_pos h3])
        exact ev_bindl this (ev_is fun k => rfl)
      · unfold impl_Assemble.f
        refine Ev.congr (fun k => by rw [if_neg (by omega)]) ?_
        have : Ev (fun k => impl_layout.f k l) (([] : List S54), (10 : Int)) := by
          unfold impl_layout.f
          refine Ev.congr (fun k => by rw [if_pos hl]) ?_
          exact ev_bindl hF (ev_is fun k => if_pos hbig)
        exact ev_bindl this (ev_is fun k => rfl)
    · have h2 := o2 (by omega)
      subst h2
      have hfl : ps.flatten.length ≤ 4096 := by omega
      refine ⟨(ps.flatten, 0), hfl, ?_, ?_⟩
      · unfold spec_Assemble.f
        refine Ev.congr (fun k => by rw [if_neg (by omega)]) ?_
        refine ev_bindl hO2 ?_
        have hc := lay_copy ps.flatten.reverse (by rw [List.length_reverse]; omega)
        rw [List.reverse_reverse] at hc
        have : Ev (fun k => spec_l5lay.f k l) (ps.flatten, (0 : Int)) := by
          unfold spec_l5lay.f
          refine ev_bindl hL (Ev.congr (fun k => ?_) hc)
          rw [if_neg (by rw [List.length_reverse]; omega), wrap64_id (by rw [List.length_reverse]; omega) (by rw [List.length_reverse]; omega)]
        exact ev_bindl this (ev_is fun k => rfl)
      · unfold impl_Assemble.f
        refine Ev.congr (fun k => by rw [if_neg (by omega)]) ?_
        have : Ev (fun k => impl_layout.f k l) (ps.flatten, (0 : Int)) := by
          unfold impl_layout.f
          refine Ev.congr (fun k => by rw [if_pos hl]) ?_
          exact ev_bindl hF (ev_is fun k => by dsimp only; rw [if_neg hbig, if_pos (by omega)])
        exact ev_bindl this (ev_is fun k => rfl)
end Go.Proofs.Ytgodbniphkfgfaa.P

namespace Go.Proofs.Ytgodbniphkfgfaa.P
open Go.RowKit Go.Proofs.YtgodbniphkfgfaaW.PrintWords Go.Proofs.YtgodbniphkfgfaaW.PrintLast Go.Proofs.YtgodbniphkfgfaaW.PrintMore
attribute [local go_sem] max2_int min2_int max_two min_two max_three min_three max_four min_four   -- for this text's walks alone
set_option linter.unusedVariables false
set_option linter.unusedSimpArgs false

/-! ### laws_markInsS: function 13 -/
def laws_markInsS.l0 : Nat → List (S54) → Int → Int → Option (Int × (List (S54)))
  | 0, _, _, _ => none
  | k + 1, x0, x1, x5 => if x5 < (x0.length : Int) then (if 0 ≤ x5 then ((some (x0.set (x5 : Int).toNat (⟨IntKind.u16.wrap (x1), (rd_T54 x0 x5).f1, (rd_T54 x0 x5).f2, (rd_T54 x0 x5).f3⟩ : S54) : List (S54))).bind fun y124 => ((some (y124.set (x5 : Int).toNat (⟨(rd_T54 y124 x5).f0, (wrap64 (x1 + 1)) % 256, (rd_T54 y124 x5).f2, (rd_T54 y124 x5).f3⟩ : S54) : List (S54))).bind fun y125 => ((some (y125.set (x5 : Int).toNat (⟨(rd_T54 y125 x5).f0, (rd_T54 y125 x5).f1, (wrap64 ((wrap64 (x1 + 1)) + 1)) % 256, (rd_T54 y125 x5).f3⟩ : S54) : List (S54))).bind fun y126 => (laws_markInsS.l0 k (y126.set (x5 : Int).toNat (⟨(rd_T54 y126 x5).f0, (rd_T54 y126 x5).f1, (rd_T54 y126 x5).f2, (wrap64 ((wrap64 ((wrap64 (x1 + 1)) + 1)) + 1)) % 4294967296⟩ : S54)) (wrap64 ((wrap64 ((wrap64 ((wrap64 (x1 + 1)) + 1)) + 1)) + 1)) (wrap64 (x5 + 1)))))) else (none)) else (some (x1, x0))
def laws_markInsS.f (k : Nat) (l0 : List (S54)) (a1 : Int) : Option (Int × (List (S54))) := laws_markInsS.l0 k l0 a1 0
set_option maxHeartbeats 8000000 in
set_option maxRecDepth 100000 in
theorem laws_markInsS.calls (k : Nat) (P0_ : Nat → Prop) (u9000_ : Value) (l0 : List (S54)) (a1 : Int) (r1 : Int) (r2 : List (S54)) (w0 w : World) (hB : Below w0.heap.size w0 w) (ho0 : Kd.R k54 54 w w0.heap.size P0_ u9000_ l0) (h : laws_markInsS.f k l0 a1 = some (r1, r2)) :
    Calls Try.prog 13 #[u9000_, .int .i64 a1] w fun e w' => e = .returned (.int .i64 r1) ∧ Kd.R k54 54 w' w0.heap.size (fun k_ => (P0_ k_ ∨ w.heap.size ≤ k_)) u9000_ r2 ∧ Below w0.heap.size w0 w' ∧ Kept w w' (fun k_ => P0_ k_) := by
  have HO0 := Aside0.mk (show Kd.R k54 54 w w0.heap.size (fun k_ => (P0_ k_ ∨ w.heap.size ≤ k_)) u9000_ l0 from Kd.R_mono ho0 (fun k_ hk => (.inl hk)))
  have HK := Aside0.mk (Kept.refl w (fun k_ => P0_ k_))
  have HW0 := Aside0.mk hB.size
  have HB := Aside0.mk hB
  clear hB
  have H : (laws_markInsS.l0 k l0 a1 0) = some (r1, r2) := h
  clear h
  have H' := Aside0.mk H
  clear H
  go_enter Try.func13, Try.ntmps13
  go_wp2
  go_loopg [1, 5] k (fun kq v1 v5 w' => ∃ (x0_1 : List (S54)) (x1_1 : Int) (x5_1 : Int), v1 = .int .i64 x1_1 ∧ v5 = .int .i64 x5_1 ∧ Aside0 (laws_markInsS.l0 kq x0_1 x1_1 x5_1 = some (r1, r2)) ∧ Aside0 (kq ≤ k) ∧ Aside0 (Kd.R k54 54 w' w0.heap.size (fun k_ => (P0_ k_ ∨ w.heap.size ≤ k_)) u9000_ x0_1) ∧ Aside0 (Kept w w' (fun k_ => P0_ k_)) ∧ Aside0 (Below w0.heap.size w0 w'))
  case atStart => exact ⟨(l0), (a1), (0), (by first | rfl | (simp; done) | (simp [*]; done)), (by first | rfl | (simp; done) | (simp [*]; done)), H', ⟨Nat.le_refl _⟩, ⟨by (with_reducible repeat (first | apply Kd.R_alloc | apply Kd.R_drewN | apply Kd.R_drew)); exact HO0.out⟩, ⟨by repeat (first | (with_reducible first | exact HK.out | apply Kept.alloc | apply Kept.drewN | apply Kept.drew) | exact HK.out)⟩, ⟨by repeat (first | (with_reducible first | exact HB.out | apply below_alloc | apply pw_below_drewN | apply below_drew1) | exact HB.out)⟩⟩
  case round =>
    clear H'
    try clear c1
    try clear p2
    obtain ⟨x0_1, x1_1, x5_1, rfl, rfl, HA, HK1, HO_0, HK, HB⟩ := hrel
    cases gk with
    | zero => exact absurd HA.out (by simp [laws_markInsS.l0])
    | succ k1 =>
      have H := HA.out
      clear HA
      simp only [laws_markInsS.l0] at H
      by_cases c3 : x5_1 < (x0_1.length : Int)
      · rw [if_pos c3] at H
        have c3b0 : decide (x5_1 < (x0_1.length : Int)) = true := decide_eq_true c3
        clear c3
        by_cases c4 : 0 ≤ x5_1
        · rw [if_pos c4] at H
          have c4b0 : decide (0 ≤ x5_1) = true := decide_eq_true c4
          clear c4
          obtain ⟨y124, hy124⟩ : ∃ y_ : List (S54), y_ = (x0_1.set (x5_1 : Int).toNat (⟨IntKind.u16.wrap (x1_1), (rd_T54 x0_1 x5_1).f1, (rd_T54 x0_1 x5_1).f2, (rd_T54 x0_1 x5_1).f3⟩ : S54)) := ⟨_, rfl⟩
          replace H : ((some (y124.set (x5_1 : Int).toNat (⟨(rd_T54 y124 x5_1).f0, (wrap64 (x1_1 + 1)) % 256, (rd_T54 y124 x5_1).f2, (rd_T54 y124 x5_1).f3⟩ : S54) : List (S54))).bind fun y125 => ((some (y125.set (x5_1 : Int).toNat (⟨(rd_T54 y125 x5_1).f0, (rd_T54 y125 x5_1).f1, (wrap64 ((wrap64 (x1_1 + 1)) + 1)) % 256, (rd_T54 y125 x5_1).f3⟩ : S54) : List (S54))).bind fun y126 => (laws_markInsS.l0 k1 (y126.set (x5_1 : Int).toNat (⟨(rd_T54 y126 x5_1).f0, (rd_T54 y126 x5_1).f1, (rd_T54 y126 x5_1).f2, (wrap64 ((wrap64 ((wrap64 (x1_1 + 1)) + 1)) + 1)) % 4294967296⟩ : S54)) (wrap64 ((wrap64 ((wrap64 ((wrap64 (x1_1 + 1)) + 1)) + 1)) + 1)) (wrap64 (x5_1 + 1))))) = some (r1, r2) := by first | (rw [hy124]; with_reducible exact H) | (have H2_ := (Option.bind_some _ _).symm.trans H; rw [hy124]; with_reducible exact H2_) | (have H2_ := (Option.bind_some _ _).symm.trans H; with_reducible exact H2_) | with_reducible exact H | (rw [hy124]; exact H) | exact H
          have Ny124 := Aside0.mk hy124
          clear hy124
          obtain ⟨y125, hy125⟩ : ∃ y_ : List (S54), y_ = (y124.set (x5_1 : Int).toNat (⟨(rd_T54 y124 x5_1).f0, (wrap64 (x1_1 + 1)) % 256, (rd_T54 y124 x5_1).f2, (rd_T54 y124 x5_1).f3⟩ : S54)) := ⟨_, rfl⟩
          replace H : ((some (y125.set (x5_1 : Int).toNat (⟨(rd_T54 y125 x5_1).f0, (rd_T54 y125 x5_1).f1, (wrap64 ((wrap64 (x1_1 + 1)) + 1)) % 256, (rd_T54 y125 x5_1).f3⟩ : S54) : List (S54))).bind fun y126 => (laws_markInsS.l0 k1 (y126.set (x5_1 : Int).toNat (⟨(rd_T54 y126 x5_1).f0, (rd_T54 y126 x5_1).f1, (rd_T54 y126 x5_1).f2, (wrap64 ((wrap64 ((wrap64 (x1_1 + 1)) + 1)) + 1)) % 4294967296⟩ : S54)) (wrap64 ((wrap64 ((wrap64 ((wrap64 (x1_1 + 1)) + 1)) + 1)) + 1)) (wrap64 (x5_1 + 1)))) = some (r1, r2) := by first | (rw [hy125]; with_reducible exact H) | (have H2_ := (Option.bind_some _ _).symm.trans H; rw [hy125]; with_reducible exact H2_) | (have H2_ := (Option.bind_some _ _).symm.trans H; with_reducible exact H2_) | with_reducible exact H | (rw [hy125]; exact H) | exact H
          have Ny125 := Aside0.mk hy125
          clear hy125
          obtain ⟨y126, hy126⟩ : ∃ y_ : List (S54), y_ = (y125.set (x5_1 : Int).toNat (⟨(rd_T54 y125 x5_1).f0, (rd_T54 y125 x5_1).f1, (wrap64 ((wrap64 (x1_1 + 1)) + 1)) % 256, (rd_T54 y125 x5_1).f3⟩ : S54)) := ⟨_, rfl⟩
          replace H : (laws_markInsS.l0 k1 (y126.set (x5_1 : Int).toNat (⟨(rd_T54 y126 x5_1).f0, (rd_T54 y126 x5_1).f1, (rd_T54 y126 x5_1).f2, (wrap64 ((wrap64 ((wrap64 (x1_1 + 1)) + 1)) + 1)) % 4294967296⟩ : S54)) (wrap64 ((wrap64 ((wrap64 ((wrap64 (x1_1 + 1)) + 1)) + 1)) + 1)) (wrap64 (x5_1 + 1))) = some (r1, r2) := by first | (rw [hy126]; with_reducible exact H) | (have H2_ := (Option.bind_some _ _).symm.trans H; rw [hy126]; with_reducible exact H2_) | (have H2_ := (Option.bind_some _ _).symm.trans H; with_reducible exact H2_) | with_reducible exact H | (rw [hy126]; exact H) | exact H
          have Ny126 := Aside0.mk hy126
          clear hy126
          obtain ⟨y127, hy127⟩ : ∃ y_ : List (S54), y_ = (y126.set (x5_1 : Int).toNat (⟨(rd_T54 y126 x5_1).f0, (rd_T54 y126 x5_1).f1, (rd_T54 y126 x5_1).f2, (wrap64 ((wrap64 ((wrap64 (x1_1 + 1)) + 1)) + 1)) % 4294967296⟩ : S54)) := ⟨_, rfl⟩
          replace H : (laws_markInsS.l0 k1 y127 (wrap64 ((wrap64 ((wrap64 ((wrap64 (x1_1 + 1)) + 1)) + 1)) + 1)) (wrap64 (x5_1 + 1))) = some (r1, r2) := by first | (rw [hy127]; with_reducible exact H) | (have H2_ := (Option.bind_some _ _).symm.trans H; rw [hy127]; with_reducible exact H2_) | (have H2_ := (Option.bind_some _ _).symm.trans H; with_reducible exact H2_) | with_reducible exact H | (rw [hy127]; exact H) | exact H
          have Ny127 := Aside0.mk hy127
          clear hy127
          have H' := Aside0.mk H
          clear H
          obtain ⟨Ao9, co9, eo9⟩ := Kd.R_slice HO_0.out
          subst eo9
          have p5 : 0 ≤ (x5_1 : Int) := of_decide_eq_true (by first | (with_reducible assumption) | assumption)
          have q5 : (x5_1 : Int) < ((x0_1.length : Int) : Int) := of_decide_eq_true (by first | (with_reducible assumption) | assumption)
          obtain ⟨go5, co5, eo5, gb5, gl5, cl5, HG5⟩ := Kd.R_form HO_0.out (by omega)
          (first | cases eo5 | (injection eo5 with ea_ en_ ec_; (first | subst ea_ | (injection ea_ with ea_; subst ea_)); subst ec_; clear en_))
          have GB5 := Aside0.mk gb5
          have GG5 := Aside0.mk HG5
          clear gb5 gl5 HG5
          have HMgo5 := Aside0.mk (show (P0_ go5 ∨ w.heap.size ≤ go5) from (HO_0.out.1 _ rfl))
          obtain ⟨ce5, hcl5, hM5, hcc5, hfr5⟩ := Kd.R_elem HO_0.out z54 (x5_1 : Int) p5 q5
          obtain rfl := k54_openM hM5
          have hx5_0 : wr.cell? ⟨go5, (x5_1 : Int).toNat * 4, none⟩ = some (.int .u16 ((rd_T54 x0_1 x5_1).f0)) := hcc5 0 _ rfl
          have hx5_1 : wr.cell? ⟨go5, (x5_1 : Int).toNat * 4 + 1, none⟩ = some (.int .u8 ((rd_T54 x0_1 x5_1).f1)) := hcc5 1 _ rfl
          have hx5_2 : wr.cell? ⟨go5, (x5_1 : Int).toNat * 4 + 2, none⟩ = some (.int .u8 ((rd_T54 x0_1 x5_1).f2)) := hcc5 2 _ rfl
          have hx5_3 : wr.cell? ⟨go5, (x5_1 : Int).toNat * 4 + 3, none⟩ = some (.int .u32 ((rd_T54 x0_1 x5_1).f3)) := hcc5 3 _ rfl
          have hf5_0 : wr.frozen? ⟨go5, (x5_1 : Int).toNat * 4, none⟩ = false := hfr5 0
          have hf5_1 : wr.frozen? ⟨go5, (x5_1 : Int).toNat * 4 + 1, none⟩ = false := hfr5 1
          have hf5_2 : wr.frozen? ⟨go5, (x5_1 : Int).toNat * 4 + 2, none⟩ = false := hfr5 2
          have hf5_3 : wr.frozen? ⟨go5, (x5_1 : Int).toNat * 4 + 3, none⟩ = false := hfr5 3
          clear hcl5 hcc5 hfr5 hM5
          replace p5 := eq_true p5
          replace q5 := eq_true q5
          have HX10 := Aside0.mk (show Kd.R k54 54 wr w0.heap.size (fun k_ => (P0_ k_ ∨ w.heap.size ≤ k_)) (.slice (some ⟨go5, 0, none⟩) x0_1.length co9) x0_1 from (by (with_reducible repeat (first | apply Kd.R_alloc | apply Kd.R_drewN | apply Kd.R_drew)); exact HO_0.out))
          obtain ⟨ce10, hcl10, hM10, hcc10, hfr10⟩ := Kd.R_elem HX10.out z54 (x5_1 : Int) (of_decide_eq_true (by first | (with_reducible assumption) | assumption)) (by have h_ : (x5_1 : Int) < ((x0_1.length : Int) : Int) := of_decide_eq_true (by first | (with_reducible assumption) | assumption); first | exact h_ | (have e_ := (Kd.R_reads' HO_0.out).1; omega) | simpa using h_)
          obtain rfl := k54_openM hM10
          have HP10 := Kd.R_seg HX10.out (x5_1 : Int) (of_decide_eq_true (by first | (with_reducible assumption) | assumption)) (by have h_ : (x5_1 : Int) < ((x0_1.length : Int) : Int) := of_decide_eq_true (by first | (with_reducible assumption) | assumption); first | exact h_ | (have e_ := (Kd.R_reads' HO_0.out).1; omega) | simpa using h_) (seg := [.int .u16 (IntKind.u16.wrap (x1_1))]) (j := 0) hcl10 hcc10 (show 1 ≤ 4 from by decide) (x' := (⟨IntKind.u16.wrap (x1_1), (rd_T54 x0_1 x5_1).f1, (rd_T54 x0_1 x5_1).f2, (rd_T54 x0_1 x5_1).f3⟩ : S54)) (k54_mkM _ _ _ (⟨IntKind.u16.wrap (x1_1), (rd_T54 x0_1 x5_1).f1, (rd_T54 x0_1 x5_1).f2, (rd_T54 x0_1 x5_1).f3⟩ : S54) ) (fun _ hk => hk)
          have hx10_0 := hcc10 0 _ rfl
          (try simp only [show (k54).sz = 4 from rfl, Nat.mul_one, Nat.add_zero] at hx10_0)
          have hf10_0 := hfr10 0
          (try simp only [show (k54).sz = 4 from rfl, Nat.mul_one, Nat.add_zero] at hf10_0)
          clear hcl10 hcc10 hfr10 hM10
          go_wp2_with (first | ((with_reducible refine gate_store (t := 52) (p := 17) rfl ?_); refine store_event (t := 52) (p := 17) (v := ?vo_w11) (w1 := (wr.setCell ⟨go5, (x5_1 : Int).toNat * 4, none⟩ (.int .u16 (IntKind.u16.wrap (x1_1))))) ?hg ?ho ?hn ?hr ?_; (case ho => rfl); (case hg => rfl); (case hn => rfl); (case hr => first | (go_simp; done) | (go_simp; rfl)); intro w11 hw; have hg : wr.grownBy w11 (some go5) := (by rw [hw]; exact HP10.2); have hp_ : Kd.R k54 54 w11 w0.heap.size (fun k_ => (P0_ k_ ∨ w.heap.size ≤ k_)) (.slice (some ⟨go5, 0, none⟩) x0_1.length co9) y124 := (by rw [hw, Ny124.out]; exact HP10.1); clear HP10; have n0_ := Aside0.mk (hp_); have n1_ := Aside0.mk ((by rw [hw]; exact below_set (HB.out) GB5.out : Below w0.heap.size w0 w11)); have n2_ := Aside0.mk (Kept.of_grown (S := (fun k_ => P0_ k_)) hg (by repeat (first | (with_reducible first | exact HK.out | apply Kept.alloc | apply Kept.drewN | apply Kept.drew) | exact HK.out)) (fun k_ e_ => (HO_0.out.1 k_ e_))); clear HO_0; clear HB; clear HK; have HO_0 := n0_; have HB := n1_; have HK := n2_; clear n0_ n1_ n2_; clear hg hw hp_; have p6 : 0 ≤ (x5_1 : Int) := of_decide_eq_true (by first | (with_reducible assumption) | assumption); have q6 : (x5_1 : Int) < ((x0_1.length : Int) : Int) := of_decide_eq_true (by first | (with_reducible assumption) | assumption); obtain ⟨ce6, hcl6, hM6, hcc6, hfr6⟩ := Kd.R_elem HO_0.out z54 (x5_1 : Int) p6 q6; obtain rfl := k54_openM hM6; have hx6_0 : w11.cell? ⟨go5, (x5_1 : Int).toNat * 4, none⟩ = some (.int .u16 ((rd_T54 y124 x5_1).f0)) := hcc6 0 _ rfl; have hx6_1 : w11.cell? ⟨go5, (x5_1 : Int).toNat * 4 + 1, none⟩ = some (.int .u8 ((rd_T54 y124 x5_1).f1)) := hcc6 1 _ rfl; have hx6_2 : w11.cell? ⟨go5, (x5_1 : Int).toNat * 4 + 2, none⟩ = some (.int .u8 ((rd_T54 y124 x5_1).f2)) := hcc6 2 _ rfl; have hx6_3 : w11.cell? ⟨go5, (x5_1 : Int).toNat * 4 + 3, none⟩ = some (.int .u32 ((rd_T54 y124 x5_1).f3)) := hcc6 3 _ rfl; have hf6_0 : w11.frozen? ⟨go5, (x5_1 : Int).toNat * 4, none⟩ = false := hfr6 0; have hf6_1 : w11.frozen? ⟨go5, (x5_1 : Int).toNat * 4 + 1, none⟩ = false := hfr6 1; have hf6_2 : w11.frozen? ⟨go5, (x5_1 : Int).toNat * 4 + 2, none⟩ = false := hfr6 2; have hf6_3 : w11.frozen? ⟨go5, (x5_1 : Int).toNat * 4 + 3, none⟩ = false := hfr6 3; clear hcl6 hcc6 hfr6 hM6; replace p6 := eq_true p6; replace q6 := eq_true q6; have HX12 := Aside0.mk (show Kd.R k54 54 w11 w0.heap.size (fun k_ => (P0_ k_ ∨ w.heap.size ≤ k_)) (.slice (some ⟨go5, 0, none⟩) x0_1.length co9) y124 from (by (with_reducible repeat (first | apply Kd.R_alloc | apply Kd.R_drewN | apply Kd.R_drew)); exact HO_0.out)); obtain ⟨ce12, hcl12, hM12, hcc12, hfr12⟩ := Kd.R_elem HX12.out z54 (x5_1 : Int) (of_decide_eq_true (by first | (with_reducible assumption) | assumption)) (by have h_ : (x5_1 : Int) < ((x0_1.length : Int) : Int) := of_decide_eq_true (by first | (with_reducible assumption) | assumption); first | exact h_ | (have e_ := (Kd.R_reads' HO_0.out).1; omega) | simpa using h_); obtain rfl := k54_openM hM12; have HP12 := Kd.R_seg HX12.out (x5_1 : Int) (of_decide_eq_true (by first | (with_reducible assumption) | assumption)) (by have h_ : (x5_1 : Int) < ((x0_1.length : Int) : Int) := of_decide_eq_true (by first | (with_reducible assumption) | assumption); first | exact h_ | (have e_ := (Kd.R_reads' HO_0.out).1; omega) | simpa using h_) (seg := [.int .u8 ((wrap64 (x1_1 + 1)) % 256)]) (j := 1) hcl12 hcc12 (show 2 ≤ 4 from by decide) (x' := (⟨(rd_T54 y124 x5_1).f0, (wrap64 (x1_1 + 1)) % 256, (rd_T54 y124 x5_1).f2, (rd_T54 y124 x5_1).f3⟩ : S54)) (k54_mkM _ _ _ (⟨(rd_T54 y124 x5_1).f0, (wrap64 (x1_1 + 1)) % 256, (rd_T54 y124 x5_1).f2, (rd_T54 y124 x5_1).f3⟩ : S54) ) (fun _ hk => hk); have hx12_1 := hcc12 1 _ rfl; (try simp only [show (k54).sz = 4 from rfl, Nat.mul_one, Nat.add_zero] at hx12_1); have hf12_1 := hfr12 1; (try simp only [show (k54).sz = 4 from rfl, Nat.mul_one, Nat.add_zero] at hf12_1); clear hcl12 hcc12 hfr12 hM12) | ((with_reducible refine gate_store (t := 5) (p := 25) rfl ?_); refine store_event (t := 5) (p := 25) (v := ?vo_w13) (w1 := (w11.setCell ⟨go5, (x5_1 : Int).toNat * 4 + 1, none⟩ (.int .u8 ((wrap64 (x1_1 + 1)) % 256)))) ?hg ?ho ?hn ?hr ?_; (case ho => rfl); (case hg => rfl); (case hn => rfl); (case hr => first | (go_simp; done) | (go_simp; rfl)); intro w13 hw; have hg : w11.grownBy w13 (some go5) := (by rw [hw]; exact HP12.2); have hp_ : Kd.R k54 54 w13 w0.heap.size (fun k_ => (P0_ k_ ∨ w.heap.size ≤ k_)) (.slice (some ⟨go5, 0, none⟩) x0_1.length co9) y125 := (by rw [hw, Ny125.out]; exact HP12.1); clear HP12; have n0_ := Aside0.mk (hp_); have n1_ := Aside0.mk ((by rw [hw]; exact below_set (HB.out) GB5.out : Below w0.heap.size w0 w13)); have n2_ := Aside0.mk (Kept.of_grown (S := (fun k_ => P0_ k_)) hg (by repeat (first | (with_reducible first | exact HK.out | apply Kept.alloc | apply Kept.drewN | apply Kept.drew) | exact HK.out)) (fun k_ e_ => (HO_0.out.1 k_ e_))); clear HO_0; clear HB; clear HK; have HO_0 := n0_; have HB := n1_; have HK := n2_; clear n0_ n1_ n2_; clear hg hw hp_; have p7 : 0 ≤ (x5_1 : Int) := of_decide_eq_true (by first | (with_reducible assumption) | assumption); have q7 : (x5_1 : Int) < ((x0_1.length : Int) : Int) := of_decide_eq_true (by first | (with_reducible assumption) | assumption); obtain ⟨ce7, hcl7, hM7, hcc7, hfr7⟩ := Kd.R_elem HO_0.out z54 (x5_1 : Int) p7 q7; obtain rfl := k54_openM hM7; have hx7_0 : w13.cell? ⟨go5, (x5_1 : Int).toNat * 4, none⟩ = some (.int .u16 ((rd_T54 y125 x5_1).f0)) := hcc7 0 _ rfl; have hx7_1 : w13.cell? ⟨go5, (x5_1 : Int).toNat * 4 + 1, none⟩ = some (.int .u8 ((rd_T54 y125 x5_1).f1)) := hcc7 1 _ rfl; have hx7_2 : w13.cell? ⟨go5, (x5_1 : Int).toNat * 4 + 2, none⟩ = some (.int .u8 ((rd_T54 y125 x5_1).f2)) := hcc7 2 _ rfl; have hx7_3 : w13.cell? ⟨go5, (x5_1 : Int).toNat * 4 + 3, none⟩ = some (.int .u32 ((rd_T54 y125 x5_1).f3)) := hcc7 3 _ rfl; have hf7_0 : w13.frozen? ⟨go5, (x5_1 : Int).toNat * 4, none⟩ = false := hfr7 0; have hf7_1 : w13.frozen? ⟨go5, (x5_1 : Int).toNat * 4 + 1, none⟩ = false := hfr7 1; have hf7_2 : w13.frozen? ⟨go5, (x5_1 : Int).toNat * 4 + 2, none⟩ = false := hfr7 2; have hf7_3 : w13.frozen? ⟨go5, (x5_1 : Int).toNat * 4 + 3, none⟩ = false := hfr7 3; clear hcl7 hcc7 hfr7 hM7; replace p7 := eq_true p7; replace q7 := eq_true q7; have HX14 := Aside0.mk (show Kd.R k54 54 w13 w0.heap.size (fun k_ => (P0_ k_ ∨ w.heap.size ≤ k_)) (.slice (some ⟨go5, 0, none⟩) x0_1.length co9) y125 from (by (with_reducible repeat (first | apply Kd.R_alloc | apply Kd.R_drewN | apply Kd.R_drew)); exact HO_0.out)); obtain ⟨ce14, hcl14, hM14, hcc14, hfr14⟩ := Kd.R_elem HX14.out z54 (x5_1 : Int) (of_decide_eq_true (by first | (with_reducible assumption) | assumption)) (by have h_ : (x5_1 : Int) < ((x0_1.length : Int) : Int) := of_decide_eq_true (by first | (with_reducible assumption) | assumption); first | exact h_ | (have e_ := (Kd.R_reads' HO_0.out).1; omega) | simpa using h_); obtain rfl := k54_openM hM14; have HP14 := Kd.R_seg HX14.out (x5_1 : Int) (of_decide_eq_true (by first | (with_reducible assumption) | assumption)) (by have h_ : (x5_1 : Int) < ((x0_1.length : Int) : Int) := of_decide_eq_true (by first | (with_reducible assumption) | assumption); first | exact h_ | (have e_ := (Kd.R_reads' HO_0.out).1; omega) | simpa using h_) (seg := [.int .u8 ((wrap64 ((wrap64 (x1_1 + 1)) + 1)) % 256)]) (j := 2) hcl14 hcc14 (show 3 ≤ 4 from by decide) (x' := (⟨(rd_T54 y125 x5_1).f0, (rd_T54 y125 x5_1).f1, (wrap64 ((wrap64 (x1_1 + 1)) + 1)) % 256, (rd_T54 y125 x5_1).f3⟩ : S54)) (k54_mkM _ _ _ (⟨(rd_T54 y125 x5_1).f0, (rd_T54 y125 x5_1).f1, (wrap64 ((wrap64 (x1_1 + 1)) + 1)) % 256, (rd_T54 y125 x5_1).f3⟩ : S54) ) (fun _ hk => hk); have hx14_2 := hcc14 2 _ rfl; (try simp only [show (k54).sz = 4 from rfl, Nat.mul_one, Nat.add_zero] at hx14_2); have hf14_2 := hfr14 2; (try simp only [show (k54).sz = 4 from rfl, Nat.mul_one, Nat.add_zero] at hf14_2); clear hcl14 hcc14 hfr14 hM14) | ((with_reducible refine gate_store (t := 5) (p := 33) rfl ?_); refine store_event (t := 5) (p := 33) (v := ?vo_w15) (w1 := (w13.setCell ⟨go5, (x5_1 : Int).toNat * 4 + 2, none⟩ (.int .u8 ((wrap64 ((wrap64 (x1_1 + 1)) + 1)) % 256)))) ?hg ?ho ?hn ?hr ?_; (case ho => rfl); (case hg => rfl); (case hn => rfl); (case hr => first | (go_simp; done) | (go_simp; rfl)); intro w15 hw; have hg : w13.grownBy w15 (some go5) := (by rw [hw]; exact HP14.2); have hp_ : Kd.R k54 54 w15 w0.heap.size (fun k_ => (P0_ k_ ∨ w.heap.size ≤ k_)) (.slice (some ⟨go5, 0, none⟩) x0_1.length co9) y126 := (by rw [hw, Ny126.out]; exact HP14.1); clear HP14; have n0_ := Aside0.mk (hp_); have n1_ := Aside0.mk ((by rw [hw]; exact below_set (HB.out) GB5.out : Below w0.heap.size w0 w15)); have n2_ := Aside0.mk (Kept.of_grown (S := (fun k_ => P0_ k_)) hg (by repeat (first | (with_reducible first | exact HK.out | apply Kept.alloc | apply Kept.drewN | apply Kept.drew) | exact HK.out)) (fun k_ e_ => (HO_0.out.1 k_ e_))); clear HO_0; clear HB; clear HK; have HO_0 := n0_; have HB := n1_; have HK := n2_; clear n0_ n1_ n2_; clear hg hw hp_; have p8 : 0 ≤ (x5_1 : Int) := of_decide_eq_true (by first | (with_reducible assumption) | assumption); have q8 : (x5_1 : Int) < ((x0_1.length : Int) : Int) := of_decide_eq_true (by first | (with_reducible assumption) | assumption); obtain ⟨ce8, hcl8, hM8, hcc8, hfr8⟩ := Kd.R_elem HO_0.out z54 (x5_1 : Int) p8 q8; obtain rfl := k54_openM hM8; have hx8_0 : w15.cell? ⟨go5, (x5_1 : Int).toNat * 4, none⟩ = some (.int .u16 ((rd_T54 y126 x5_1).f0)) := hcc8 0 _ rfl; have hx8_1 : w15.cell? ⟨go5, (x5_1 : Int).toNat * 4 + 1, none⟩ = some (.int .u8 ((rd_T54 y126 x5_1).f1)) := hcc8 1 _ rfl; have hx8_2 : w15.cell? ⟨go5, (x5_1 : Int).toNat * 4 + 2, none⟩ = some (.int .u8 ((rd_T54 y126 x5_1).f2)) := hcc8 2 _ rfl; have hx8_3 : w15.cell? ⟨go5, (x5_1 : Int).toNat * 4 + 3, none⟩ = some (.int .u32 ((rd_T54 y126 x5_1).f3)) := hcc8 3 _ rfl; have hf8_0 : w15.frozen? ⟨go5, (x5_1 : Int).toNat * 4, none⟩ = false := hfr8 0; have hf8_1 : w15.frozen? ⟨go5, (x5_1 : Int).toNat * 4 + 1, none⟩ = false := hfr8 1; have hf8_2 : w15.frozen? ⟨go5, (x5_1 : Int).toNat * 4 + 2, none⟩ = false := hfr8 2; have hf8_3 : w15.frozen? ⟨go5, (x5_1 : Int).toNat * 4 + 3, none⟩ = false := hfr8 3; clear hcl8 hcc8 hfr8 hM8; replace p8 := eq_true p8; replace q8 := eq_true q8; have HX16 := Aside0.mk (show Kd.R k54 54 w15 w0.heap.size (fun k_ => (P0_ k_ ∨ w.heap.size ≤ k_)) (.slice (some ⟨go5, 0, none⟩) x0_1.length co9) y126 from (by (with_reducible repeat (first | apply Kd.R_alloc | apply Kd.R_drewN | apply Kd.R_drew)); exact HO_0.out)); obtain ⟨ce16, hcl16, hM16, hcc16, hfr16⟩ := Kd.R_elem HX16.out z54 (x5_1 : Int) (of_decide_eq_true (by first | (with_reducible assumption) | assumption)) (by have h_ : (x5_1 : Int) < ((x0_1.length : Int) : Int) := of_decide_eq_true (by first | (with_reducible assumption) | assumption); first | exact h_ | (have e_ := (Kd.R_reads' HO_0.out).1; omega) | simpa using h_); obtain rfl := k54_openM hM16; have HP16 := Kd.R_seg HX16.out (x5_1 : Int) (of_decide_eq_true (by first | (with_reducible assumption) | assumption)) (by have h_ : (x5_1 : Int) < ((x0_1.length : Int) : Int) := of_decide_eq_true (by first | (with_reducible assumption) | assumption); first | exact h_ | (have e_ := (Kd.R_reads' HO_0.out).1; omega) | simpa using h_) (seg := [.int .u32 ((wrap64 ((wrap64 ((wrap64 (x1_1 + 1)) + 1)) + 1)) % 4294967296)]) (j := 3) hcl16 hcc16 (show 4 ≤ 4 from by decide) (x' := (⟨(rd_T54 y126 x5_1).f0, (rd_T54 y126 x5_1).f1, (rd_T54 y126 x5_1).f2, (wrap64 ((wrap64 ((wrap64 (x1_1 + 1)) + 1)) + 1)) % 4294967296⟩ : S54)) (k54_mkM _ _ _ (⟨(rd_T54 y126 x5_1).f0, (rd_T54 y126 x5_1).f1, (rd_T54 y126 x5_1).f2, (wrap64 ((wrap64 ((wrap64 (x1_1 + 1)) + 1)) + 1)) % 4294967296⟩ : S54) ) (fun _ hk => hk); have hx16_3 := hcc16 3 _ rfl; (try simp only [show (k54).sz = 4 from rfl, Nat.mul_one, Nat.add_zero] at hx16_3); have hf16_3 := hfr16 3; (try simp only [show (k54).sz = 4 from rfl, Nat.mul_one, Nat.add_zero] at hf16_3); clear hcl16 hcc16 hfr16 hM16) | ((with_reducible refine gate_store (t := 42) (p := 41) rfl ?_); refine store_event (t := 42) (p := 41) (v := ?vo_w17) (w1 := (w15.setCell ⟨go5, (x5_1 : Int).toNat * 4 + 3, none⟩ (.int .u32 ((wrap64 ((wrap64 ((wrap64 (x1_1 + 1)) + 1)) + 1)) % 4294967296)))) ?hg ?ho ?hn ?hr ?_; (case ho => rfl); (case hg => rfl); (case hn => rfl); (case hr => first | (go_simp; done) | (go_simp; rfl)); intro w17 hw; have hg : w15.grownBy w17 (some go5) := (by rw [hw]; exact HP16.2); have hp_ : Kd.R k54 54 w17 w0.heap.size (fun k_ => (P0_ k_ ∨ w.heap.size ≤ k_)) (.slice (some ⟨go5, 0, none⟩) x0_1.length co9) y127 := (by rw [hw, Ny127.out]; exact HP16.1); clear HP16; have n0_ := Aside0.mk (hp_); have n1_ := Aside0.mk ((by rw [hw]; exact below_set (HB.out) GB5.out : Below w0.heap.size w0 w17)); have n2_ := Aside0.mk (Kept.of_grown (S := (fun k_ => P0_ k_)) hg (by repeat (first | (with_reducible first | exact HK.out | apply Kept.alloc | apply Kept.drewN | apply Kept.drew) | exact HK.out)) (fun k_ e_ => (HO_0.out.1 k_ e_))); clear HO_0; clear HB; clear HK; have HO_0 := n0_; have HB := n1_; have HK := n2_; clear n0_ n1_ n2_; clear hg hw hp_))
          go_roundg k1
          case measure => have := HK1.out; omega
          case rel => exact ⟨(y127), (wrap64 ((wrap64 ((wrap64 ((wrap64 (x1_1 + 1)) + 1)) + 1)) + 1)), (wrap64 (x5_1 + 1)), (by first | rfl | (simp; done) | (simp [*]; done)), (by first | rfl | (simp; done) | (simp [*]; done)), H', ⟨by have := HK1.out; omega⟩, ⟨by (with_reducible repeat (first | apply Kd.R_alloc | apply Kd.R_drewN | apply Kd.R_drew)); exact HO_0.out⟩, ⟨by repeat (first | (with_reducible first | exact HK.out | apply Kept.alloc | apply Kept.drewN | apply Kept.drew) | exact HK.out)⟩, ⟨by repeat (first | (with_reducible first | exact HB.out | apply below_alloc | apply pw_below_drewN | apply below_drew1) | exact HB.out)⟩⟩
        · rw [if_neg c4] at H
          exact absurd H (by simp)
      · rw [if_neg c3] at H
        have c3b0 : decide (x5_1 < (x0_1.length : Int)) = false := decide_eq_false c3
        clear c3
        simp only [Option.some.injEq, Prod.mk.injEq] at H
        obtain ⟨rfl, rfl⟩ := H
        obtain ⟨Ao18, co18, eo18⟩ := Kd.R_slice HO_0.out
        subst eo18
        go_wp2
        go_ret
        exact ⟨by first | rfl | (simp [errW_none, errW_some] <;> rfl) | (simp [*, errW_none, errW_some] <;> rfl), by (with_reducible repeat (first | apply Kd.R_alloc | apply Kd.R_drewN | apply Kd.R_drew)); exact HO_0.out, by repeat (first | (with_reducible first | exact HB.out | apply below_alloc | apply pw_below_drewN | apply below_drew1) | exact HB.out), by repeat (first | (with_reducible first | exact HK.out | apply Kept.alloc | apply Kept.drewN | apply Kept.drew) | exact HK.out)⟩

end Go.Proofs.Ytgodbniphkfgfaa.P
