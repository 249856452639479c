import Derived.Test.YtgodbniphkfgfaaGFnExactAssemble4
import Derived.Test.YtgodbniphkfgfaaGFnExactAssemble12
import Derived.Test.YtgodbniphkfgfaaGFnExactAssemble13
import Derived.Test.YtgodbniphkfgfaaGFnExactAssemble8
import Derived.Maps.Own
import Derived.Maps.OwnOps
import Derived.Maps.OwnSet
import Derived.Maps.Views
import Derived.Handy
import Derived.Carry
import Derived.WalkArith
import Derived.Deep.LoopGhost
namespace Go.Proofs.Ytgodbniphkfgfaa.P
open Go.RowKit Go.Proofs.YtgodbniphkfgfaaW.PrintWords Go.Proofs.YtgodbniphkfgfaaW.PrintLast Go.Proofs.YtgodbniphkfgfaaW.PrintMore
attribute [local go_sem] max2_int min2_int max_two min_two max_three min_three max_four min_four   -- for this text's walks alone
set_option linter.unusedVariables false
set_option linter.unusedSimpArgs false

/-! Laying items out: from the end, with a map of the labels. -/
def lkp (marks : List (Int × Int)) (x : Int) : Option Int := (marks.find? fun p => p.1 == x).map (·.2)
def layF (k : Nat) (l : List S64) : Nat → List (Int × Int) → Int → List (List S54) → Option (Option (Int × List (List S54)))
  | 0, _, n, ps => some (some (n, ps))
  | i + 1, marks, n, ps => if (Lit.int .i64 (rd_T64 l (i : Int)).f2).wf = true then ((impl_validItem.f k (rd_T64 l (i : Int)).f0 (rd_T64 l (i : Int)).f1.f0 (rd_T64 l (i : Int)).f1.f1 (rd_T64 l (i : Int)).f1.f2 (rd_T64 l (i : Int)).f1.f3 (rd_T64 l (i : Int)).f2).bind fun v => if v = true then (if (rd_T64 l (i : Int)).f0 = 4 then (match lkp marks (rd_T64 l (i : Int)).f2 with | some _ => some none | none => layF k l i (((rd_T64 l (i : Int)).f2, n) :: marks) n ([] :: ps)) else if (rd_T64 l (i : Int)).f0 = 0 then ((impl_made.f k (rd_T64 l (i : Int)).f0 (rd_T64 l (i : Int)).f1.f0 (rd_T64 l (i : Int)).f1.f1 (rd_T64 l (i : Int)).f1.f2 (rd_T64 l (i : Int)).f1.f3 (rd_T64 l (i : Int)).f2 0).bind fun p => layF k l i marks (wrap64 (n + (p.length : Int))) (p :: ps)) else (match lkp marks (rd_T64 l (i : Int)).f2 with | none => some none | some a => (impl_made.f k (rd_T64 l (i : Int)).f0 (rd_T64 l (i : Int)).f1.f0 (rd_T64 l (i : Int)).f1.f1 (rd_T64 l (i : Int)).f1.f2 (rd_T64 l (i : Int)).f1.f3 (rd_T64 l (i : Int)).f2 (wrap64 (n - a))).bind fun p => layF k l i marks (wrap64 (n + (p.length : Int))) (p :: ps))) else some none) else none
def impl_layout.f (k : Nat) (l0 : List S64) : Option (List S54 × Int) := if l0.length ≤ 20000 then ((layF k l0 l0.length [] 0 []).bind fun r => match r with | none => some ([], 1) | some q => if q.1 > 4096 then some ([], 10) else if q.2.flatten.length ≤ 100000 then some (q.2.flatten, 0) else none) else none
/-! The parts' row: slice values. -/
abbrev SV := Option Addr × Nat × Nat
def encS (s : SV) : Value := .slice s.1 s.2.1 s.2.2
theorem encS_one (s : SV) : (encS s).oneCell' = true := rfl
/-- The map of the labels reads as the marks. -/
def MapRel (D : DataW Unit) (marks : List (Int × Int)) : Prop := Go.Maps.IsMap D ∧ ∀ x : Int, Go.Maps.has D (.int .i64 x) = (lkp marks x).isSome ∧ ∀ v, lkp marks x = some v → D.atKey (.int .i64 x) (.lit (.int .i64 0)) = .lit (.int .i64 v)
theorem mapRel_nil : MapRel (.map []) [] := ⟨Go.Maps.isMap_empty, fun x => ⟨rfl, fun v h => by simp [lkp] at h⟩⟩
theorem mapRel_put {D : DataW Unit} {marks : List (Int × Int)} (h : MapRel D marks) (x v : Int) : MapRel (D.put (.int .i64 x) (.lit (.int .i64 v))) ((x, v) :: marks) := by
  refine ⟨h.1.put _ _, fun y => ?_⟩
  by_cases e : y = x
  · subst e
    refine ⟨?_, fun u hu => ?_⟩
    · rw [Go.Maps.has_put_same h.1 (show WideAt.IsKeyLit (.int .i64 y) from trivial)]
      simp [lkp]
    · simp [lkp] at hu
      subst hu
      exact Go.Maps.atKey_put_same h.1 (show WideAt.IsKeyLit (.int .i64 y) from trivial) _ _
  · have hne : (Lit.int .i64 y) ≠ .int .i64 x := fun h => e (by injection h)
    have hl : lkp ((x, v) :: marks) y = lkp marks y := by
      unfold lkp
      rw [List.find?_cons]
      have : (x == y) = false := by simp; exact fun h => e h.symm
      rw [this]
    rw [hl, Go.Maps.has_put_other hne]
    exact ⟨(h.2 y).1, fun u hu => by rw [Go.Maps.atKey_put_other hne]; exact (h.2 y).2 u hu⟩
theorem map_below {w w1 : World} {k : TypeId} {R : Value → Option (DataW Unit × List MemPlace)} {b n : Nat} {D : DataW Unit} (h : w.ownsMap Try.prog k R b n D) (hb : Below w.heap.size w w1) : w1.ownsMap Try.prog k R b n D := by
  obtain ⟨es, c, h1, r⟩ := h
  exact ⟨es, c, (hb.block b (Array.getElem?_eq_some_iff.1 h1).1).trans h1, r⟩
theorem map_far {w : World} {k : TypeId} {R : Value → Option (DataW Unit × List MemPlace)} {b n : Nat} {D : DataW Unit} (h : w.ownsMap Try.prog k R b n D) {p : Addr} {cs : Array Value} {t : TypeId} (hp : w.heap[p.block]? = some (.cells cs t (0, 0))) (u : Value) : (w.setCell p u).ownsMap Try.prog k R b n D := by
  obtain ⟨es, c, h1, r⟩ := h
  refine ⟨es, c, (Below.heap_setCell w p u b (fun e => ?_)).trans h1, r⟩
  rw [e, hp] at h1
  cases h1
theorem map_ne {w : World} {k : TypeId} {R : Value → Option (DataW Unit × List MemPlace)} {b n : Nat} {D : DataW Unit} (h : w.ownsMap Try.prog k R b n D) {g : Nat} {cs : Array Value} {t : TypeId} (hg : w.heap[g]? = some (.cells cs t (0, 0))) : g ≠ b := fun e => by
  obtain ⟨es, c, h1, r⟩ := h
  rw [← e, hg] at h1
  cases h1
/-- A part's row stays where another block is written. -/
theorem part_grown {W W' : World} {b : Nat} {v : Value} {xs : List S54} {row : Nat} (h : Kd.R k54 54 W b (fun _ => True) v xs) (hg : W.grownBy W' (some row)) (hne : ∀ cs, W.heap[row]? ≠ some (.cells cs 54 (0, 0))) : Kd.R k54 54 W' b (fun _ => True) v xs := by
  refine Kd.R_mono (Kd.R_grown (Kd.R_bound h) hg (fun k hk e => ?_)) (fun _ _ => trivial)
  obtain ⟨_, _, _, q, hq, cells, hc⟩ := hk
  have hE : k54.E = [] := rfl
  rw [hE, List.mem_singleton] at hq
  cases e
  rw [hq] at hc
  exact hne _ hc
def PR (W : World) (b : Nat) (pv : Value) (xs : List SV) : Prop := W.ownsRow b 23 1 pv xs.length (encs encS xs)
/-- What the loop holds: the map, the parts' row, the parts that are done. -/
structure LayI (w W : World) (mb : Nat) (pv : Value) (len q : Nat) (marks : List (Int × Int)) (ps : List (List S54)) : Prop where
  map : ∃ D, W.ownsMap Try.prog 3 (plainElem Try.prog 3) mb marks.length D ∧ MapRel D marks
  mks : marks.length + q ≤ len
  qps : q + ps.length = len
  row : ∃ xs : List SV, xs.length = len ∧ PR W w.heap.size pv xs ∧ (∀ j (h : j < xs.length) (h2 : j - q < ps.length), q ≤ j → Kd.R k54 54 W w.heap.size (fun _ => True) (encS xs[j]) ps[j - q]) ∧ (∀ j (h : j < xs.length), j < q → xs[j] = (none, 0, 0))
  below : Below w.heap.size w W
section
variable {w W : World} {mb : Nat} {pv : Value} {len q : Nat} {marks : List (Int × Int)} {ps : List (List S54)}
theorem LayI.up (h : LayI w W mb pv len q marks ps) {W' : World} (hb : Below W.heap.size W W') : LayI w W' mb pv len q marks ps := by
  obtain ⟨⟨D, hD, hR⟩, hm, hl, ⟨xs, x1, x2, x3, x4⟩, hB⟩ := h
  exact ⟨⟨D, map_below hD hb, hR⟩, hm, hl, ⟨xs, x1, own_move x2 (fun k hk => hb.block k (own_lt x2 k hk)), fun j h h2 hq => Kd.R_below (x3 j h h2 hq) hb, x4⟩, hB.trans (hb.mono hB.size)⟩
theorem part_far {W : World} {b : Nat} {v : Value} {xs : List S54} {p : Addr} {cs : Array Value} (h : Kd.R k54 54 W b (fun _ => True) v xs) (hp : W.heap[p.block]? = some (.cells cs 23 (0, 0))) (u : Value) : Kd.R k54 54 (W.setCell p u) b (fun _ => True) v xs := by
  refine Kd.R_mono (Kd.R_far (Kd.R_bound h) (fun k hk e => ?_) u) (fun _ _ => trivial)
  obtain ⟨_, _, _, q, hq, cells, hc⟩ := hk
  have hE : k54.E = [] := rfl
  rw [hE, List.mem_singleton] at hq
  rw [e, hp] at hc
  simp only [Option.some.injEq, Obj.cells.injEq] at hc
  rw [hq] at hc
  exact absurd hc.2.1 (by decide)
theorem LayI.label (h : LayI w W mb pv len (q + 1) marks ps) (hmb : w.heap.size ≤ mb) {W' : World} {D : DataW Unit} {x n : Int} (hD : MapRel D marks) (hown : W'.ownsMap Try.prog 3 (plainElem Try.prog 3) mb (marks.length + 1) (D.put (.int .i64 x) (.lit (.int .i64 n)))) (hm0 : ∃ D0 n0, W.ownsMap Try.prog 3 (plainElem (H := Unit) Try.prog 3) mb n0 D0) (hg : W.grownBy W' (some mb)) :
    LayI w W' mb pv len q ((x, n) :: marks) ([] :: ps) := by
  obtain ⟨_, hm, hl, ⟨xs, x1, x2, x3, x4⟩, hB⟩ := h
  obtain ⟨D0, n0, hm0⟩ := hm0
  have nc : ∀ cs t, W.heap[mb]? ≠ some (.cells cs t (0, 0)) := fun cs t e => map_ne hm0 e rfl
  have hq : q < len := by omega
  refine ⟨⟨_, hown, mapRel_put hD x n⟩, by simp only [List.length_cons]; omega, by simp only [List.length_cons]; omega, ⟨xs, x1, ?_, fun j h h2 hjq => ?_, fun j h hj => x4 j h (by omega)⟩, hB.grown hg hB.size (fun k e => by cases e; exact hmb)⟩
  · refine own_other x2 hg ?_
    cases hv : pv.ownBlock with
    | none => exact .inl rfl
    | some k =>
      obtain ⟨cells, hc⟩ := own_typed x2 k hv
      refine .inr (fun e => ?_)
      injection e with e
      rw [e] at hc
      exact nc _ _ hc
  · by_cases e : j = q
    · subst e
      rw [x4 j h (by omega)]
      simp only [Nat.sub_self, List.getElem_cons_zero]
      exact Kd.R_nil _ _ _ _ _
    · have e2 : ([] :: ps)[j - q]'h2 = ps[j - (q + 1)]'(by simp only [List.length_cons] at h2; omega) := by
        rw [List.getElem_cons]
        rw [dif_neg (by omega)]
        congr 1
      rw [e2]
      exact part_grown (x3 j h _ (by omega)) hg (fun cs => nc cs _)
theorem LayI.part {g cp : Nat} (h : LayI w W mb (.slice (some ⟨g, 0, none⟩) len cp) len (q + 1) marks ps) {p : List S54} {s : SV} (hR : Kd.R k54 54 W w.heap.size (fun _ => True) (encS s) p) :
    LayI w (W.setCell ⟨g, q, none⟩ (encS s)) mb (.slice (some ⟨g, 0, none⟩) len cp) len q marks (p :: ps) := by
  obtain ⟨⟨D, hD, hDR⟩, hm, hl, ⟨xs, x1, x2, x3, x4⟩, hB⟩ := h
  have hq : q < len := by omega
  obtain ⟨cells, hc⟩ := own_typed x2 g rfl
  have hge : w.heap.size ≤ g := own_base x2 g rfl
  refine ⟨⟨D, map_far hD (p := ⟨g, q, none⟩) hc _, hDR⟩, by omega, by simp only [List.length_cons]; omega, ⟨xs.set q s, by rw [List.length_set]; exact x1, ?_, fun j h h2 hjq => ?_, fun j h hj => ?_⟩, hB.setCell (p := ⟨g, q, none⟩) hge _⟩
  · unfold PR at x2 ⊢
    have := own_put_of (enc := encS) (xs := xs) (g := g) (cap := cp) (by rw [x1]; rw [x1] at x2; exact x2) (q : Int) s
    rw [Int.toNat_natCast, x1] at this
    exact this
  · rw [List.length_set] at h
    by_cases e : j = q
    · subst e
      rw [List.getElem_set_self]
      simp only [Nat.sub_self, List.getElem_cons_zero]
      exact part_far hR (p := ⟨g, j, none⟩) hc _
    · have e2 : (p :: ps)[j - q]'h2 = ps[j - (q + 1)]'(by simp only [List.length_cons] at h2; omega) := by
        rw [List.getElem_cons]
        rw [dif_neg (by omega)]
        congr 1
      rw [e2, List.getElem_set_ne (by omega)]
      exact part_far (x3 j h _ (by omega)) (p := ⟨g, q, none⟩) hc _
  · rw [List.length_set] at h
    rw [List.getElem_set_ne (by omega)]
    exact x4 j h (by omega)
theorem LayI.cell {g cp : Nat} (h : LayI w W mb (.slice (some ⟨g, 0, none⟩) len cp) len (q + 1) marks ps) : W.cell? ⟨g, q, none⟩ = some (.slice none 0 0) ∧ W.frozen? ⟨g, q, none⟩ = false := by
  obtain ⟨_, hm, hl, ⟨xs, x1, x2, x3, x4⟩, hB⟩ := h
  have hq : q < len := by omega
  have x2' := x2
  unfold PR at x2'
  rw [x1] at x2'
  have := own_at_of (d := ((none, 0, 0) : SV)) x2' (q : Int) (by omega) (by omega)
  rw [Int.toNat_natCast] at this
  refine ⟨this.1.trans ?_, this.2⟩
  have e : rdOf ((none, 0, 0) : SV) xs (q : Int) = xs[q] := by
    unfold rdOf
    rw [Int.toNat_natCast, List.getD_eq_getElem?_getD, List.getElem?_eq_getElem (by omega)]
    rfl
  rw [e, x4 q (by omega) (by omega)]
  rfl
theorem LayI.at0 {g cp : Nat} (h : LayI w W mb (.slice (some ⟨g, 0, none⟩) len cp) len 0 marks ps) (j : Nat) (hj : j < len) (hp : j < ps.length) : ∃ s : SV, W.cell? ⟨g, j, none⟩ = some (encS s) ∧ Kd.R k54 54 W w.heap.size (fun _ => True) (encS s) ps[j] := by
  obtain ⟨_, hm, hl, ⟨xs, x1, x2, x3, x4⟩, hB⟩ := h
  have x2' := x2
  unfold PR at x2'
  rw [x1] at x2'
  have := own_at_of (d := ((none, 0, 0) : SV)) x2' (j : Int) (by omega) (by omega)
  rw [Int.toNat_natCast] at this
  refine ⟨xs[j], this.1.trans ?_, x3 j (by omega) hp (Nat.zero_le _)⟩
  unfold rdOf
  rw [Int.toNat_natCast, List.getD_eq_getElem?_getD, List.getElem?_eq_getElem (by omega)]
  rfl
theorem LayI.form {ap : Option Addr} {cp : Nat} (h : LayI w W mb (.slice ap len cp) len q marks ps) (hl : 0 < len) : ∃ g, ap = some ⟨g, 0, none⟩ := by
  obtain ⟨_, _, _, ⟨xs, x1, x2, x3, x4⟩, _⟩ := h
  rcases x2.2 with ⟨e, h0⟩ | ⟨g, cap, cur, e, _⟩
  · omega
  · injection e with e1 e2 e3
    exact ⟨g, e1⟩
end
set_option maxRecDepth 100000 in
set_option maxHeartbeats 8000000 in
theorem impl_layout.calls (k : Nat) (A0 : Option Addr) (c0 : Nat) (l0 : List S64) (r1 : List S54) (r2 : Int) (w : World) (hr0 : Kd.C k64 w A0 l0.length l0) (hc0 : l0.length ≤ c0) (h : impl_layout.f k l0 = some (r1, r2)) :
    Calls Try.prog 35 #[.slice A0 l0.length c0] w fun e w' => ∃ v0_ : Value, e = .returned (.tuple #[v0_, .int .i64 r2]) ∧ Kd.R k54 54 w' w.heap.size (fun _ => True) v0_ r1 ∧ Below w.heap.size w w' := by
  unfold impl_layout.f at h
  by_cases hl : l0.length ≤ 20000
  case neg => rw [if_neg hl] at h; exact absurd h (by simp)
  rw [if_pos hl] at h
  replace h := Option.bind_eq_some_iff.1 h
  obtain ⟨R, hF, h⟩ := h
  have HF := Aside0.mk hF
  have HE := Aside0.mk h
  have HR0 := Aside0.mk hr0
  have HC0 := Aside0.mk hc0
  have HL := Aside0.mk hl
  have hmm := @run_makeMap Try.prog
  have hw1 : wrap64 ((l0.length : Int) - 1) = (l0.length : Int) - 1 := by unfold wrap64; omega
  have h0n : (0 : Int) ≤ (l0.length : Int) := by omega
  clear hF h hr0 hc0
  go_enter Try.func35, Try.ntmps35
  go_wp2_with (first | ((with_reducible refine gate_dst (N := 20) rfl ?_); refine Kd.R_make (Kd.scalar encS encS_one) (w0 := w) w.heap.size 23 rfl (N := 20) rfl 92 _ _ rfl (l0.length : Int) rfl rfl Try.underlying92 (.slice none 0 0) 24 (by kernel_rfl) rfl (by decide) (by omega) ((none, 0, 0) : SV) (ok := fun _ => True) (okp := fun _ => True) rfl (fun _ hk => hk) trivial h0n (by omega) ((Below.refl _ _).alloc (Nat.le_refl _) _) (by simp) ?_; intro pv w4 hp hb hg hnew; have HP := Aside0.mk hp; have HB := Aside0.mk hb; have HG := Aside0.mk hg; clear hp hb hg hnew))
  have HI0 := Aside0.mk (show LayI w w4 w.heap.size pv l0.length l0.length [] [] from ⟨⟨_, (World.ownsMap_made w Try.prog 3 (plainElem Try.prog 3)).kept HG.out (by simp), mapRel_nil⟩, by simp, by simp, ⟨List.replicate l0.length (none, 0, 0), by simp, Kd.own_of_R (by simpa using HP.out), fun j h h2 hq => absurd h2 (by simp), fun j h hj => by simp⟩, HB.out⟩)
  have hkey3 := Try.underlying3
  obtain ⟨ap, cp, rfl⟩ := own_slice (Kd.own_of_R HP.out)
  have hpl : (List.replicate (l0.length : Int).toNat ((none, 0, 0) : SV)).length = l0.length := by simp
  rw [hpl] at HI0 ⊢
  clear HP HB HG hpl
  go_loopg [6, 7] l0.length (fun kq v6 v7 w' => ∃ (n j : Int) (marks : List (Int × Int)) (ps : List (List S54)), v6 = .int .i64 n ∧ v7 = .int .i64 j ∧ Aside0 (j = (kq : Int) - 1) ∧ Aside0 (layF k l0 kq marks n ps = some R) ∧ Aside0 ((Lit.int .i64 n).wf = true) ∧ Aside0 (LayI w w' w.heap.size (.slice ap l0.length cp) l0.length kq marks ps))
  case atStart => exact ⟨0, _, [], [], rfl, rfl, ⟨rfl⟩, HF, ⟨rfl⟩, HI0⟩
  case round =>
    clear HF HI0
    obtain ⟨n, j, marks, ps, rfl, rfl, HJ, HF, HW, HI⟩ := hrel
    cases gk with
    | zero =>
      obtain rfl : j = -1 := by have := HJ.out; omega
      clear HJ
      have h := HF.out
      clear HF
      simp only [layF, Option.some.injEq] at h
      subst h
      have hE := HE.out
      dsimp only at hE
      clear HE
      by_cases hn : n > 4096
      · rw [if_pos hn] at hE
        simp only [Option.some.injEq, Prod.mk.injEq] at hE
        obtain ⟨rfl, rfl⟩ := hE
        have hnb : decide (n > 4096) = true := decide_eq_true hn
        have hnc : decide (4096 < n) = true := decide_eq_true hn
        have HB1 := Aside0.mk HI.out.below
        clear hn
        go_wp2
        go_returns
        exact ⟨_, rfl, Kd.R_nil _ _ _ _ _, HB1.out⟩
      · rw [if_neg hn] at hE
        by_cases hfl : ps.flatten.length ≤ 100000
        case neg => rw [if_neg hfl] at hE; exact absurd hE (by simp)
        rw [if_pos hfl] at hE
        simp only [Option.some.injEq, Prod.mk.injEq] at hE
        obtain ⟨rfl, rfl⟩ := hE
        have hnb : decide (n > 4096) = false := decide_eq_false hn
        have hnc : decide (4096 < n) = false := decide_eq_false hn
        have HFL := Aside0.mk hfl
        obtain ⟨wo, hwo⟩ : ∃ wo : World, wo = wr := ⟨_, rfl⟩
        subst hwo
        clear hn hfl
        have HO0 := Aside0.mk (show Kd.R k54 54 (wo.alloc (.cells #[] 54)) w.heap.size (fun k => wo.heap.size ≤ k) (.slice (some ⟨wo.heap.size, 0, none⟩) 0 0) (([] : List (List S54)).flatten) from ⟨fun k hk => by cases hk; exact Nat.le_refl _, [], ⟨rfl, .inr ⟨wo.heap.size, 0, #[], rfl, HI.out.below.size, blk_new wo _, Nat.le_refl _, Nat.zero_le _, rfl, rfl⟩⟩, Reps.none _ _⟩)
        go_wp2
        go_loopg [14, 83] l0.length (fun kq v14 v83 w' => ∃ (jx : Nat) (A : Option Addr) (nn c : Nat), v14 = .slice A nn c ∧ v83 = .int .i64 (jx : Int) ∧ Aside0 (kq + jx = l0.length) ∧ Aside0 (Kd.R k54 54 w' w.heap.size (fun k => wo.heap.size ≤ k) (.slice A nn c) ((ps.take jx).flatten)) ∧ Aside0 (Below wo.heap.size wo w'))
        case atStart => exact ⟨0, _, _, _, rfl, rfl, ⟨rfl⟩, HO0, ⟨below_alloc (Below.refl _ wo) _⟩⟩
        case round =>
          clear HO0
          obtain ⟨jx, A, nn, c, rfl, rfl, HK, HO, HB2⟩ := hrel
          by_cases hlt : jx < l0.length
          · obtain ⟨g, hg⟩ := HI.out.form (by omega)
            subst hg
            have hjp : jx < ps.length := by have := HI.out.qps; omega
            obtain ⟨s, hc1, hs⟩ := LayI.at0 (HI.out.up HB2.out) jx hlt hjp
            obtain ⟨As, ns, cs⟩ := s
            obtain ⟨hns, _, hCs⟩ := Kd.R_reads' hs
            have HCs := Aside0.mk hCs
            have c1 : decide ((jx : Int) < (l0.length : Int)) = true := decide_eq_true (by omega)
            have c2 : decide (jx < l0.length) = true := decide_eq_true hlt
            have c3 : decide ((0 : Int) ≤ (jx : Int)) = true := decide_eq_true (by omega)
            have et : ps.take (jx + 1) = ps.take jx ++ [ps[jx]] := List.take_succ_eq_append_getElem hjp
            have ef : (ps.take (jx + 1)).flatten = (ps.take jx).flatten ++ ps[jx] := by rw [et, List.flatten_append]; simp
            have el : ((ps.take jx).flatten.length + ns) * 8 ≤ 140737488355328 := by
              have h1 := congrArg List.length ef
              have h2 : (ps.take (jx + 1)).flatten.length ≤ ps.flatten.length := by
                have h3 : ps.flatten = (ps.take (jx + 1)).flatten ++ (ps.drop (jx + 1)).flatten := by rw [← List.flatten_append, List.take_append_drop]
                rw [h3, List.length_append]
                omega
              rw [List.length_append] at h1
              have := HFL.out
              have hns' : ns = ps[jx].length := hns
              omega
            have EF := Aside0.mk ef
            have EL := Aside0.mk el
            rw [← hns] at HCs
            have hwj : wrap64 ((jx : Int) + 1) = ((jx + 1 : Nat) : Int) := by unfold wrap64; have := HL.out; omega
            have hc1' : wr.cell? ⟨g, jx, none⟩ = some (.slice As ns cs) := hc1
            obtain ⟨k2, hk2⟩ : ∃ k2, gk = k2 + 1 := ⟨gk - 1, by have := HK.out; omega⟩
            subst hk2
            clear hs hns hCs et ef el hc1
            go_wp2_with (first | ((with_reducible refine gate_dst (N := 89) rfl ?_); refine Kd.R_append_rows k54 (Rr := k54.K _) (w0 := w) w.heap.size rfl (.tmp 87) (.tmp 88) 23 54 (.agg #[(.int .u16 0), (.int .u8 0), (.int .u8 0), (.int .u32 0)]) 8 rfl Try.underlying23 info54 rfl (by decide) (by omega) (.slice A nn c) _ ps[jx] As ns cs (fun k => wo.heap.size ≤ k) (fun _ => False) rfl rfl HO.out HCs.out (fun x cs h => by have := k54_open h; subst this; exact k54_mkM _ _ _ x) (fun _ hk => hk.elim) (fun k hk => Nat.le_trans HB2.out.size hk) (HI.out.below.trans (HB2.out.mono HI.out.below.size)) (Nat.le_trans HI.out.below.size HB2.out.size) EL.out ?_; intro v1 w1 ho hb hg hat; obtain ⟨A1, n1, c1, rfl⟩ : ∃ A nn c, v1 = .slice A nn c := (by obtain ⟨A, c, e, _, _⟩ := Kd.R_reads ho; exact ⟨A, _, c, e⟩); have HO1 := Aside0.mk ho; have HB3 := Aside0.mk (HB2.out.grown hg HB2.out.size (fun k e => HO.out.1 k e)); clear ho hb hg hat))
            go_roundg k2
            case measure => omega
            case rel => exact ⟨jx + 1, _, _, _, rfl, by first | rfl | (rw [← hwj]; done) | (simp [hwj]; done) | (simp; done), ⟨by have := HK.out; omega⟩, ⟨by rw [EF.out]; exact HO1.out⟩, HB3⟩
          · have hjx : jx = l0.length := by have := HK.out; omega
            subst hjx
            have c1 : decide ((l0.length : Int) < (l0.length : Int)) = false := decide_eq_false (by omega)
            go_wp2
            go_returns
            have e : ps.take l0.length = ps := List.take_of_length_le (by have := HI.out.qps; omega)
            have hO := HO.out
            rw [e] at hO
            refine ⟨_, rfl, Kd.R_mono hO (fun _ _ => trivial), HI.out.below.trans (HB2.out.mono HI.out.below.size)⟩
    | succ q =>
      obtain rfl : j = (q : Int) := by have := HJ.out; omega
      clear HJ
      have h := HF.out
      clear HF
      simp only [layF] at h
      have hql : q < l0.length := by have := HI.out.qps; omega
      obtain ⟨ad, rfl, g0, g1, g2, g3, g4, g5⟩ := at_T64 HR0.out (q : Int) (by omega) (by omega)
      obtain ⟨it, hit⟩ : ∃ it, rd_T64 l0 (q : Int) = it := ⟨_, rfl⟩
      rw [hit] at h g0 g1 g2 g3 g4 g5
      rw [Int.toNat_natCast] at g0 g1 g2 g3 g4 g5
      by_cases hwf : (Lit.int .i64 it.f2).wf = true
      case neg => rw [if_neg hwf] at h; exact absurd h (by simp)
      rw [if_pos hwf] at h
      replace h := Option.bind_eq_some_iff.1 h
      obtain ⟨v, hv, h⟩ := h
      have HV := Aside0.mk hv
      have HH := Aside0.mk h
      have HWF := Aside0.mk hwf
      have c0e : ((q : Int) ≥ 0) := by omega
      have c0b : decide ((q : Int) ≥ 0) = true := decide_eq_true c0e
      have c1b : decide ((q : Int) < (l0.length : Int)) = true := decide_eq_true (by omega)
      have c2b : decide (q < l0.length) = true := decide_eq_true hql
      have HB1 := Aside0.mk HI.out.below
      have g0' := (HB1.out.cell (World.block_lt_of_cell? w _ g0)).trans g0
      have g1' := (HB1.out.cell (World.block_lt_of_cell? w _ g1)).trans g1
      have g2' := (HB1.out.cell (World.block_lt_of_cell? w _ g2)).trans g2
      have g3' := (HB1.out.cell (World.block_lt_of_cell? w _ g3)).trans g3
      have g4' := (HB1.out.cell (World.block_lt_of_cell? w _ g4)).trans g4
      have g5' := (HB1.out.cell (World.block_lt_of_cell? w _ g5)).trans g5
      obtain ⟨i0, ⟨i1, i2, i3, i4⟩, i5⟩ := it
      dsimp only at g0' g1' g2' g3' g4' g5'
      clear g0 g1 g2 g3 g4 g5 h hv hwf
      have HBK := Aside0.mk (fun (w5 : World) (hb : Below (wr.alloc (.cells #[.int .i64 i0, .int .u16 i1, .int .u8 i2, .int .u8 i3, .int .u32 i4, .int .i64 i5] 64)).heap.size (wr.alloc (.cells #[.int .i64 i0, .int .u16 i1, .int .u8 i2, .int .u8 i3, .int .u32 i4, .int .i64 i5] 64)) w5) => blk_below (blk_new wr (.cells #[.int .i64 i0, .int .u16 i1, .int .u8 i2, .int .u8 i3, .int .u32 i4, .int .i64 i5] 64)) hb)
      have HBW := Aside0.mk (fun (w5 : World) (hb : Below (wr.alloc (.cells #[.int .i64 i0, .int .u16 i1, .int .u8 i2, .int .u8 i3, .int .u32 i4, .int .i64 i5] 64)).heap.size (wr.alloc (.cells #[.int .i64 i0, .int .u16 i1, .int .u8 i2, .int .u8 i3, .int .u32 i4, .int .i64 i5] 64)) w5) => show Below wr.heap.size wr w5 from (below_alloc (Below.refl _ wr) _).trans (hb.mono (by simp)))
      obtain ⟨D, hD, hDR⟩ := HI.out.map
      have HD := Aside0.mk hD
      have HDR := Aside0.mk hDR
      have hkey := Go.Maps.keyOf_int_mk Try.underlying3 HWF.out
      have hlaw := @Go.Maps.int_keyed Try.prog 3 .i64 Try.underlying3
      have hzero : ∀ w : World, (zeroValue 3).run Try.prog w = .ok (.int .i64 0) w := fun w => by kernel_rfl
      have hwq : wrap64 ((q : Int) - 1) = (q : Int) - 1 := by unfold wrap64; omega
      clear hD hDR
      cases v with
      | false =>
        have hH := HH.out
        rw [if_neg (by decide)] at hH
        obtain rfl := Option.some.inj hH
        have hE := HE.out
        simp only [Option.some.injEq, Prod.mk.injEq] at hE
        obtain ⟨rfl, rfl⟩ := hE
        go_wp2_with (go_at_call 52; refine (impl_validItem.calls k i0 i1 i2 i3 i4 i5 false _ HV.out).mono ?_; rintro e w5 ⟨rfl, hb5⟩; have HB5 := Aside0.mk (HB1.out.trans ((HBW.out _ hb5).mono HB1.out.size)); clear hb5)
        go_returns
        exact ⟨_, rfl, Kd.R_nil _ _ _ _ _, HB5.out⟩
      | true =>
        have hH := HH.out
        rw [if_pos rfl] at hH
        clear HH
        by_cases e4 : i0 = 4
        · rw [if_pos e4] at hH
          have e4b : (i0 == 4) = true := beq_iff_eq.2 e4
          cases hk : lkp marks i5 with
          | some a =>
            rw [hk] at hH
            obtain rfl := Option.some.inj hH
            have hE := HE.out
            simp only [Option.some.injEq, Prod.mk.injEq] at hE
            obtain ⟨rfl, rfl⟩ := hE
            have hhas : Go.Maps.has D (.int .i64 i5) = true := by rw [(HDR.out.2 i5).1, hk]; rfl
            clear hk hH e4
            go_wp2_with (first | (go_at_call 52; refine (impl_validItem.calls k i0 i1 i2 i3 i4 i5 true _ HV.out).mono ?_; rintro e w5 ⟨rfl, hb5⟩; have HB5 := Aside0.mk (HB1.out.trans ((HBW.out _ hb5).mono HB1.out.size)); have BK := Aside0.mk (HBK.out _ hb5); have b0 := (blk_cell BK.out 0).trans rfl; have b5 := (blk_cell BK.out 5).trans rfl; have HM5 := Aside0.mk (map_below HD.out (HBW.out _ hb5)); clear hb5) | (at_lookup; refine wpList_lookup_own_ok_int _ rfl _ _ 91 rfl 3 3 .i64 hlaw Try.underlying91 Try.underlying3 (hzero _) w.heap.size marks.length D rfl HM5.out _ _ rfl hkey ?_; intro c hat hwc; rw [hhas]; clear hat hwc))
            go_returns
            exact ⟨_, rfl, Kd.R_nil _ _ _ _ _, HB5.out⟩
          | none =>
            rw [hk] at hH
            have HN := Aside0.mk hH
            have hhas : Go.Maps.has D (.int .i64 i5) = false := by rw [(HDR.out.2 i5).1, hk]; rfl
            have hml : marks.length < maxLen := by have := HI.out.mks; unfold maxLen; omega
            clear hk hH e4
            go_wp2_with (first | (go_at_call 52; refine (impl_validItem.calls k i0 i1 i2 i3 i4 i5 true _ HV.out).mono ?_; rintro e w5 ⟨rfl, hb5⟩; have HI5 := Aside0.mk (HI.out.up (HBW.out _ hb5)); have BK := Aside0.mk (HBK.out _ hb5); have b0 := (blk_cell BK.out 0).trans rfl; have b5 := (blk_cell BK.out 5).trans rfl; have HM5 := Aside0.mk (map_below HD.out (HBW.out _ hb5)); clear hb5) | (at_lookup; refine wpList_lookup_own_ok_int _ rfl _ _ 91 rfl 3 3 .i64 hlaw Try.underlying91 Try.underlying3 (hzero _) w.heap.size marks.length D rfl HM5.out _ _ rfl hkey ?_; intro c hat hwc; rw [hhas]; clear hat hwc) | (at_mapUpdate; refine wpList_mapUpdate_own _ rfl _ _ _ 91 rfl 3 3 hlaw Try.underlying91 _ w.heap.size marks.length D rfl HM5.out hml _ _ _ rfl rfl hkey _ [] (plainElem_int Try.underlying3 HW.out) ?_; intro w6 hown6 hg6; have HI6 := Aside0.mk (LayI.label HI5.out (Nat.le_refl _) HDR.out hown6 ⟨_, _, HM5.out⟩ hg6); clear hown6 hg6))
            go_roundg q
            case measure => omega
            case rel => exact ⟨n, _, _, _, rfl, rfl, ⟨rfl⟩, HN, HW, HI6⟩
        · rw [if_neg e4] at hH
          have e4b : (i0 == 4) = false := beq_eq_false_iff_ne.2 e4
          obtain ⟨g, hg⟩ := HI.out.form (by omega)
          subst hg
          by_cases e0 : i0 = 0
          · rw [if_pos e0] at hH
            have e0b : (i0 != 0) = false := by rw [bne_eq_false_iff_eq]; exact e0
            replace hH := Option.bind_eq_some_iff.1 hH
            obtain ⟨p, hp, hH⟩ := hH
            have HN := Aside0.mk hH
            have HP := Aside0.mk hp
            clear hH hp e4 e0
            go_wp2_with (first | (go_at_call 52; refine (impl_validItem.calls k i0 i1 i2 i3 i4 i5 true _ HV.out).mono ?_; rintro e w5 ⟨rfl, hb5⟩; have HI5 := Aside0.mk (HI.out.up (HBW.out _ hb5)); have BK := Aside0.mk (HBK.out _ hb5); have b0 := (blk_cell BK.out 0).trans rfl; have b1 := (blk_cell BK.out 1).trans rfl; have b2 := (blk_cell BK.out 2).trans rfl; have b3 := (blk_cell BK.out 3).trans rfl; have b4 := (blk_cell BK.out 4).trans rfl; have b5 := (blk_cell BK.out 5).trans rfl; clear hb5) | (go_at_call 53; refine (impl_made.calls k i0 i1 i2 i3 i4 i5 0 p _ HP.out).mono ?_; rintro e w6 ⟨v0, rfl, hR6, hb6⟩; obtain ⟨ao, cap, rfl, _, _⟩ := Kd.R_reads hR6; have HR6 := Aside0.mk (Kd.R_lower hR6 HI5.out.below.size); have HI6 := Aside0.mk (HI5.out.up hb6); have q0 := HI6.out.cell.1; have q1 := HI6.out.cell.2; clear hb6 hR6))
            have HI7 := Aside0.mk (LayI.part (s := (ao, p.length, cap)) HI6.out HR6.out)
            go_roundg q
            case measure => omega
            case rel => exact ⟨_, _, _, _, rfl, rfl, ⟨rfl⟩, HN, ⟨wrap64_wf _⟩, HI7⟩
          · rw [if_neg e0] at hH
            have e0b : (i0 != 0) = true := bne_iff_ne.2 e0
            cases hk : lkp marks i5 with
            | none =>
              rw [hk] at hH
              obtain rfl := Option.some.inj hH
              have hE := HE.out
              simp only [Option.some.injEq, Prod.mk.injEq] at hE
              obtain ⟨rfl, rfl⟩ := hE
              have hhas : Go.Maps.has D (.int .i64 i5) = false := by rw [(HDR.out.2 i5).1, hk]; rfl
              clear hk hH e4 e0
              go_wp2_with (first | (go_at_call 52; refine (impl_validItem.calls k i0 i1 i2 i3 i4 i5 true _ HV.out).mono ?_; rintro e w5 ⟨rfl, hb5⟩; have HB5 := Aside0.mk (HB1.out.trans ((HBW.out _ hb5).mono HB1.out.size)); have BK := Aside0.mk (HBK.out _ hb5); have b0 := (blk_cell BK.out 0).trans rfl; have b5 := (blk_cell BK.out 5).trans rfl; have HM5 := Aside0.mk (map_below HD.out (HBW.out _ hb5)); clear hb5) | (at_lookup; refine wpList_lookup_own_ok_int _ rfl _ _ 91 rfl 3 3 .i64 hlaw Try.underlying91 Try.underlying3 (hzero _) w.heap.size marks.length D rfl HM5.out _ _ rfl hkey ?_; intro c hat hwc; rw [hhas]; clear hat hwc))
              go_returns
              exact ⟨_, rfl, Kd.R_nil _ _ _ _ _, HB5.out⟩
            | some a =>
              rw [hk] at hH
              replace hH := Option.bind_eq_some_iff.1 hH
              obtain ⟨p, hp, hH⟩ := hH
              have HN := Aside0.mk hH
              have HP := Aside0.mk hp
              have hhas : Go.Maps.has D (.int .i64 i5) = true := by rw [(HDR.out.2 i5).1, hk]; rfl
              have hatk := (HDR.out.2 i5).2 a hk
              clear hk hH hp e4 e0
              go_wp2_with (first | (go_at_call 52; refine (impl_validItem.calls k i0 i1 i2 i3 i4 i5 true _ HV.out).mono ?_; rintro e w5 ⟨rfl, hb5⟩; have HI5 := Aside0.mk (HI.out.up (HBW.out _ hb5)); have BK := Aside0.mk (HBK.out _ hb5); have b0 := (blk_cell BK.out 0).trans rfl; have b1 := (blk_cell BK.out 1).trans rfl; have b2 := (blk_cell BK.out 2).trans rfl; have b3 := (blk_cell BK.out 3).trans rfl; have b4 := (blk_cell BK.out 4).trans rfl; have b5 := (blk_cell BK.out 5).trans rfl; have HM5 := Aside0.mk (map_below HD.out (HBW.out _ hb5)); clear hb5) | (at_lookup; refine wpList_lookup_own_ok_int _ rfl _ _ 91 rfl 3 3 .i64 hlaw Try.underlying91 Try.underlying3 (hzero _) w.heap.size marks.length D rfl HM5.out _ _ rfl hkey ?_; intro c hat hwc; rw [hhas]; rw [hatk] at hat; obtain rfl : a = c := by simpa using hat) | (go_at_call 53; refine (impl_made.calls k i0 i1 i2 i3 i4 i5 _ p _ HP.out).mono ?_; rintro e w6 ⟨v0, rfl, hR6, hb6⟩; obtain ⟨ao, cap, rfl, _, _⟩ := Kd.R_reads hR6; have HR6 := Aside0.mk (Kd.R_lower hR6 HI5.out.below.size); have HI6 := Aside0.mk (HI5.out.up hb6); have q0 := HI6.out.cell.1; have q1 := HI6.out.cell.2; clear hb6 hR6))
              have HI7 := Aside0.mk (LayI.part (s := (ao, p.length, cap)) HI6.out HR6.out)
              go_roundg q
              case measure => omega
              case rel => exact ⟨_, _, _, _, rfl, rfl, ⟨rfl⟩, HN, ⟨wrap64_wf _⟩, HI7⟩

end Go.Proofs.Ytgodbniphkfgfaa.P

namespace Go.Proofs.Ytgodbniphkfgfaa.P
open Go.RowKit Go.Proofs.YtgodbniphkfgfaaW.PrintWords Go.Proofs.YtgodbniphkfgfaaW.PrintLast Go.Proofs.YtgodbniphkfgfaaW.PrintMore
attribute [local go_sem] max2_int min2_int max_two min_two max_three min_three max_four min_four   -- for this text's walks alone
set_option linter.unusedVariables false
set_option linter.unusedSimpArgs false

/-! ### impl_Assemble: function 18 -/
def impl_Assemble.f (k : Nat) (l0 : List (S64)) : Option ((List (S54)) × Int) := if (l0.length : Int) > 20000 then (some (([] : List (S54)), 1)) else ((impl_layout.f k l0).bind fun bt273 => (some (bt273.1, bt273.2)))
set_option maxHeartbeats 8000000 in
set_option maxRecDepth 100000 in
theorem impl_Assemble.calls (k : Nat) (A0 : Option Addr) (c0 : Nat) (l0 : List (S64)) (r1 : List (S54)) (r2 : Int) (w : World) (hr0 : Kd.C k64 w A0 l0.length l0) (hc0 : l0.length ≤ c0) (h : impl_Assemble.f k l0 = some (r1, r2)) :
    Calls Try.prog 18 #[.slice A0 l0.length c0] w fun e w' => ∃ v0_ : Value, e = .returned (.tuple #[v0_, .int .i64 r2]) ∧ Kd.R k54 54 w' w.heap.size (fun _ => True) v0_ r1 ∧ Below w.heap.size w w' := by
  have HR0 := Aside0.mk hr0
  have HC0 := Aside0.mk hc0
  clear hr0 hc0
  have HB := Aside0.mk (Below.refl w.heap.size w)
  have H : (if (l0.length : Int) > 20000 then (some (([] : List (S54)), 1)) else ((impl_layout.f k l0).bind fun bt273 => (some (bt273.1, bt273.2)))) = some (r1, r2) := h
  clear h
  by_cases c2 : (l0.length : Int) > 20000
  · rw [if_pos c2] at H
    have c2b0 : decide (20000 < (l0.length : Int)) = true := decide_eq_true c2
    have c2b1 : decide (20000 < l0.length) = true := decide_eq_true (by omega)
    clear c2
    simp only [Option.some.injEq, Prod.mk.injEq] at H
    obtain ⟨rfl, rfl⟩ := H
    go_enter Try.func18, Try.ntmps18
    go_wp2
    go_ret2
    exact ⟨_, by first | rfl | (simp [errW_none, errW_some] <;> rfl) | (simp [*, errW_none, errW_some] <;> rfl), by first | exact Kd.R_nil _ _ _ _ _ | exact Kd.N_nil _ _ _ _ _ | exact Kd.V_nil _ _ _ _ _ | exact Kd.Q_nil _ _ _ _ _ | exact Kd.S_nil _ _ _ _ _, by repeat (first | (with_reducible first | exact HB.out | apply below_alloc | apply pw_below_drewN | apply below_drew1) | exact HB.out)⟩
  · rw [if_neg c2] at H
    have c2b0 : decide (20000 < (l0.length : Int)) = false := decide_eq_false c2
    have c2b1 : decide (20000 < l0.length) = false := decide_eq_false (by omega)
    clear c2
    replace H := Option.bind_eq_some_iff.mp H
    obtain ⟨⟨t273, t274⟩, A30, H⟩ := H
    replace H : (some (t273, t274)) = some (r1, r2) := H
    have A3 := Aside0.mk A30
    clear A30
    simp only [Option.some.injEq, Prod.mk.injEq] at H
    obtain ⟨rfl, rfl⟩ := H
    go_enter Try.func18, Try.ntmps18
    go_wp2_with (first | ((with_reducible refine gate_callee (f := 35) rfl ?_); refine goesL_ (some 8) rfl rfl Try.func35 (by kernel_rfl) rfl #[.slice A0 l0.length c0] rfl (by (try simp only [List.map_toArray, List.map_cons, List.map_nil]); first | done | rfl | (simp only [List.length_drop, List.length_take]; rfl)) ?_; (with_reducible refine (impl_layout.calls k _ _ l0 t273 t274 _ ?side1 ?side2 A3.out).mono ?_); (case side1 => repeat (first | exact HR0.out | (with_reducible refine Kd.C_alloc ?_ _) | (with_reducible refine Kd.C_drewN ?_ _) | (with_reducible refine Kd.C_drew ?_))); (case side2 => exact HC0.out); rintro e w4 ⟨v275, rfl, ho0, hb⟩; refine ⟨_, rfl, ?_⟩; have n0_ := Aside0.mk (Kd.R_lower ho0 (below_size (by repeat (first | (with_reducible first | exact HB.out | apply below_alloc | apply pw_below_drewN | apply below_drew1) | exact HB.out)))); have n1_ := Aside0.mk (below_step (by repeat (first | (with_reducible first | exact HB.out | apply below_alloc | apply pw_below_drewN | apply below_drew1) | exact HB.out)) hb); clear HB; have HO276 := n0_; have HB := n1_; clear n0_ n1_; (try clear hb); (try clear hb2); (try clear hk); (try clear hi); (try clear ho0)))
    go_ret2
    exact ⟨_, by first | rfl | (simp [errW_none, errW_some] <;> rfl) | (simp [*, errW_none, errW_some] <;> rfl), by (with_reducible repeat (first | apply Kd.R_alloc | apply Kd.R_drewN | apply Kd.R_drew)); exact HO276.out, by repeat (first | (with_reducible first | exact HB.out | apply below_alloc | apply pw_below_drewN | apply below_drew1) | exact HB.out)⟩

end Go.Proofs.Ytgodbniphkfgfaa.P
