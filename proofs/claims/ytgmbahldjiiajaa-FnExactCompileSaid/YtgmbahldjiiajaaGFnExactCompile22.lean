import Derived.Test.YtgmbahldjiiajaaGFnExactCompile4
import Derived.Test.YtgmbahldjiiajaaGFnExactCompile6
import Derived.Test.YtgmbahldjiiajaaGFnExactCompile7
import Derived.Maps.Own
import Derived.Maps.OwnOps
import Derived.Maps.OwnSet
import Derived.Maps.Views
import Derived.Handy
import Derived.Carry
import Derived.WalkArith
import Derived.Deep.LoopGhost
import Derived.Test.YtgmbahldjiiajaaGFnExactCompile12
import Derived.Test.YtgmbahldjiiajaaGFnExactCompile13
namespace Go.Proofs.Ytgmbahldjiiajaa.P
open Go.RowKit Go.Proofs.YtgmbahldjiiajaaW.PrintWords Go.Proofs.YtgmbahldjiiajaaW.PrintLast Go.Proofs.YtgmbahldjiiajaaW.PrintMore
attribute [local go_sem] max2_int min2_int max_two min_two max_three min_three max_four min_four
set_option linter.unusedVariables false
set_option linter.unusedSimpArgs false

def lkp (marks : List (Int × Int)) (x : Int) : Option Int := (marks.find? fun p => p.1 == x).map (·.2)
def layF (k : Nat) (l : List S69) : Nat → List (Int × Int) → Int → List (List S52) → Option (Option (Int × List (List S52)))
 | 0, _, n, ps => some (some (n, ps))
 | i + 1, marks, n, ps => if (Lit.int .i64 (Zah l (i : Int)).f2).wf = true then ((Zcm.f k (Zah l (i : Int)).f0 (Zah l (i : Int)).f1.f0 (Zah l (i : Int)).f1.f1 (Zah l (i : Int)).f1.f2 (Zah l (i : Int)).f1.f3 (Zah l (i : Int)).f2).bind fun v => if v = true then (if (Zah l (i : Int)).f0 = 4 then (match lkp marks (Zah l (i : Int)).f2 with | some _ => some none | none => layF k l i (((Zah l (i : Int)).f2, n) :: marks) n ([] :: ps)) else if (Zah l (i : Int)).f0 = 0 then ((impl_made.f k (Zah l (i : Int)).f0 (Zah l (i : Int)).f1.f0 (Zah l (i : Int)).f1.f1 (Zah l (i : Int)).f1.f2 (Zah l (i : Int)).f1.f3 (Zah l (i : Int)).f2 0).bind fun p => layF k l i marks (wrap64 (n + (p.length : Int))) (p :: ps)) else (match lkp marks (Zah l (i : Int)).f2 with | none => some none | some a => (impl_made.f k (Zah l (i : Int)).f0 (Zah l (i : Int)).f1.f0 (Zah l (i : Int)).f1.f1 (Zah l (i : Int)).f1.f2 (Zah l (i : Int)).f1.f3 (Zah l (i : Int)).f2 (wrap64 (n - a))).bind fun p => layF k l i marks (wrap64 (n + (p.length : Int))) (p :: ps))) else some none) else none
def impl_layout.f (k : Nat) (l0 : List S69) : Option (List S52 × Int) := if l0.length ≤ 1073741824 then ((layF k l0 l0.length [] 0 []).bind fun r => match r with | none => some ([], 1) | some q => if q.1 > 4096 then some ([], 10) else if q.2.flatten.length ≤ 4294967296 then some (q.2.flatten, 0) else none) else none
abbrev SV := Option Addr × Nat × Nat
def encS (s : SV) : Value := .slice s.1 s.2.1 s.2.2
theorem encS_one (s : SV) : (encS s).oneCell' = true := rfl
def MapRel (D : DataW Unit) (marks : List (Int × Int)) : Prop := Go.Maps.IsMap D ∧ ∀ x : Int, Go.Maps.has D (.int .i64 x) = (lkp marks x).isSome ∧ ∀ v, lkp marks x = some v → D.atKey (.int .i64 x) (.lit (.int .i64 0)) = .lit (.int .i64 v)
theorem mapRel_nil : MapRel (.map []) [] := ⟨Go.Maps.isMap_empty, fun x => ⟨rfl, fun v h => by simp [lkp] at h⟩⟩
theorem mapRel_put {D : DataW Unit} {marks : List (Int × Int)} (h : MapRel D marks) (x v : Int) : MapRel (D.put (.int .i64 x) (.lit (.int .i64 v))) ((x, v) :: marks) := by
 refine ⟨h.1.put _ _, fun y => ?_⟩
 by_cases e : y = x
 ·subst e
  refine ⟨?_, fun u hu => ?_⟩
  ·rw [Go.Maps.has_put_same h.1 (show WideAt.IsKeyLit (.int .i64 y) from trivial)]
   simp [lkp]
  ·simp [lkp] at hu
   subst hu
   exact Go.Maps.atKey_put_same h.1 (show WideAt.IsKeyLit (.int .i64 y) from trivial) _ _
 ·have hne : (Lit.int .i64 y) ≠ .int .i64 x := fun h => e (by injection h)
  have hl : lkp ((x, v) :: marks) y = lkp marks y := by
   unfold lkp
   rw [List.find?_cons]
   have : (x == y) = false := by simp; exact fun h => e h.symm
   rw [this]
  rw [hl, Go.Maps.has_put_other hne]
  exact ⟨(h.2 y).1, fun u hu => by rw [Go.Maps.atKey_put_other hne]; exact (h.2 y).2 u hu⟩
theorem map_below {w w1 : World} {k : TypeId} {R : Value → Option (DataW Unit × List MemPlace)} {b n : Nat} {D : DataW Unit} (h : w.ownsMap Try.prog k R b n D) (hb : Below w.heap.size w w1) : w1.ownsMap Try.prog k R b n D := by
 obtain ⟨es, c, h1, r⟩ := h
 exact ⟨es, c, (hb.block b (Array.getElem?_eq_some_iff.1 h1).1).trans h1, r⟩
theorem map_far {w : World} {k : TypeId} {R : Value → Option (DataW Unit × List MemPlace)} {b n : Nat} {D : DataW Unit} (h : w.ownsMap Try.prog k R b n D) {p : Addr} {cs : Array Value} {t : TypeId} (hp : w.heap[p.block]? = some (.cells cs t (0, 0))) (u : Value) : (w.setCell p u).ownsMap Try.prog k R b n D := by
 obtain ⟨es, c, h1, r⟩ := h
 refine ⟨es, c, (Below.heap_setCell w p u b (fun e => ?_)).trans h1, r⟩
 rw [e, hp] at h1
 cases h1
theorem map_ne {w : World} {k : TypeId} {R : Value → Option (DataW Unit × List MemPlace)} {b n : Nat} {D : DataW Unit} (h : w.ownsMap Try.prog k R b n D) {g : Nat} {cs : Array Value} {t : TypeId} (hg : w.heap[g]? = some (.cells cs t (0, 0))) : g ≠ b := fun e => by
 obtain ⟨es, c, h1, r⟩ := h
 rw [← e, hg] at h1
 cases h1
theorem part_grown {W W' : World} {b : Nat} {v : Value} {xs : List S52} {row : Nat} (h : Kd.R k52 52 W b (fun _ => True) v xs) (hg : W.grownBy W' (some row)) (hne : ∀ cs, W.heap[row]? ≠ some (.cells cs 52 (0, 0))) : Kd.R k52 52 W' b (fun _ => True) v xs := by
 refine Kd.Zas (Kd.R_grown (Kd.R_bound h) hg (fun k hk e => ?_)) (fun _ _ => trivial)
 obtain ⟨_, _, _, q, hq, cells, hc⟩ := hk
 have hE : k52.E = [] := rfl
 rw [hE, List.mem_singleton] at hq
 cases e
 rw [hq] at hc
 exact hne _ hc
def PR (W : World) (b : Nat) (pv : Value) (xs : List SV) : Prop := W.ownsRow b 26 1 pv xs.length (encs encS xs)
structure LayI (w W : World) (mb : Nat) (pv : Value) (len q : Nat) (marks : List (Int × Int)) (ps : List (List S52)) : Prop where
 map : ∃ D, W.ownsMap Try.prog 3 (plainElem Try.prog 3) mb marks.length D ∧ MapRel D marks
 mks : marks.length + q ≤ len
 qps : q + ps.length = len
 row : ∃ xs : List SV, xs.length = len ∧ PR W w.heap.size pv xs ∧ (∀ j (h : j < xs.length) (h2 : j - q < ps.length), q ≤ j → Kd.R k52 52 W w.heap.size (fun _ => True) (encS xs[j]) ps[j - q]) ∧ (∀ j (h : j < xs.length), j < q → xs[j] = (none, 0, 0))
 below : Below w.heap.size w W
section
variable {w W : World} {mb : Nat} {pv : Value} {len q : Nat} {marks : List (Int × Int)} {ps : List (List S52)}
theorem LayI.up (h : LayI w W mb pv len q marks ps) {W' : World} (hb : Below W.heap.size W W') : LayI w W' mb pv len q marks ps := by
 obtain ⟨⟨D, hD, hR⟩, hm, hl, ⟨xs, x1, x2, x3, x4⟩, hB⟩ := h
 exact ⟨⟨D, map_below hD hb, hR⟩, hm, hl, ⟨xs, x1, own_move x2 (fun k hk => hb.block k (own_lt x2 k hk)), fun j h h2 hq => Kd.Zam (x3 j h h2 hq) hb, x4⟩, hB.trans (hb.mono hB.size)⟩
theorem part_far {W : World} {b : Nat} {v : Value} {xs : List S52} {p : Addr} {cs : Array Value} (h : Kd.R k52 52 W b (fun _ => True) v xs) (hp : W.heap[p.block]? = some (.cells cs 26 (0, 0))) (u : Value) : Kd.R k52 52 (W.setCell p u) b (fun _ => True) v xs := by
 refine Kd.Zas (Kd.R_far (Kd.R_bound h) (fun k hk e => ?_) u) (fun _ _ => trivial)
 obtain ⟨_, _, _, q, hq, cells, hc⟩ := hk
 have hE : k52.E = [] := rfl
 rw [hE, List.mem_singleton] at hq
 rw [e, hp] at hc
 simp only [Option.some.injEq, Obj.cells.injEq] at hc
 rw [hq] at hc
 exact absurd hc.2.1 (by decide)
theorem LayI.label (h : LayI w W mb pv len (q + 1) marks ps) (hmb : w.heap.size ≤ mb) {W' : World} {D : DataW Unit} {x n : Int} (hD : MapRel D marks) (hown : W'.ownsMap Try.prog 3 (plainElem Try.prog 3) mb (marks.length + 1) (D.put (.int .i64 x) (.lit (.int .i64 n)))) (hm0 : ∃ D0 n0, W.ownsMap Try.prog 3 (plainElem (H := Unit) Try.prog 3) mb n0 D0) (hg : W.grownBy W' (some mb)) :
  LayI w W' mb pv len q ((x, n) :: marks) ([] :: ps) := by
 obtain ⟨_, hm, hl, ⟨xs, x1, x2, x3, x4⟩, hB⟩ := h
 obtain ⟨D0, n0, hm0⟩ := hm0
 have nc : ∀ cs t, W.heap[mb]? ≠ some (.cells cs t (0, 0)) := fun cs t e => map_ne hm0 e rfl
 have hq : q < len := by omega
 refine ⟨⟨_, hown, mapRel_put hD x n⟩, by simp only [List.length_cons]; omega, by simp only [List.length_cons]; omega, ⟨xs, x1, ?_, fun j h h2 hjq => ?_, fun j h hj => x4 j h (by omega)⟩, hB.grown hg hB.size (fun k e => by cases e; exact hmb)⟩
 ·refine own_other x2 hg ?_
  cases hv : pv.ownBlock with
  | none => exact .inl rfl
  | some k =>
   obtain ⟨cells, hc⟩ := own_typed x2 k hv
   refine .inr (fun e => ?_)
   injection e with e
   rw [e] at hc
   exact nc _ _ hc
 ·by_cases e : j = q
  ·subst e
   rw [x4 j h (by omega)]
   simp only [Nat.sub_self, List.getElem_cons_zero]
   exact Kd.R_nil _ _ _ _ _
  ·have e2 : ([] :: ps)[j - q]'h2 = ps[j - (q + 1)]'(by simp only [List.length_cons] at h2; omega) := by
    rw [List.getElem_cons]
    rw [dif_neg (by omega)]
    congr 1
   rw [e2]
   exact part_grown (x3 j h _ (by omega)) hg (fun cs => nc cs _)
theorem LayI.part {g cp : Nat} (h : LayI w W mb (.slice (some ⟨g, 0, none⟩) len cp) len (q + 1) marks ps) {p : List S52} {s : SV} (hR : Kd.R k52 52 W w.heap.size (fun _ => True) (encS s) p) :
  LayI w (W.setCell ⟨g, q, none⟩ (encS s)) mb (.slice (some ⟨g, 0, none⟩) len cp) len q marks (p :: ps) := by
 obtain ⟨⟨D, hD, hDR⟩, hm, hl, ⟨xs, x1, x2, x3, x4⟩, hB⟩ := h
 have hq : q < len := by omega
 obtain ⟨cells, hc⟩ := own_typed x2 g rfl
 have hge : w.heap.size ≤ g := own_base x2 g rfl
 refine ⟨⟨D, map_far hD (p := ⟨g, q, none⟩) hc _, hDR⟩, by omega, by simp only [List.length_cons]; omega, ⟨xs.set q s, by rw [List.length_set]; exact x1, ?_, fun j h h2 hjq => ?_, fun j h hj => ?_⟩, hB.setCell (p := ⟨g, q, none⟩) hge _⟩
 ·unfold PR at x2 ⊢
  have := own_put_of (enc := encS) (xs := xs) (g := g) (cap := cp) (by rw [x1]; rw [x1] at x2; exact x2) (q : Int) s
  rw [Int.toNat_natCast, x1] at this
  exact this
 ·rw [List.length_set] at h
  by_cases e : j = q
  ·subst e
   rw [List.getElem_set_self]
   simp only [Nat.sub_self, List.getElem_cons_zero]
   exact part_far hR (p := ⟨g, j, none⟩) hc _
  ·have e2 : (p :: ps)[j - q]'h2 = ps[j - (q + 1)]'(by simp only [List.length_cons] at h2; omega) := by
    rw [List.getElem_cons]
    rw [dif_neg (by omega)]
    congr 1
   rw [e2, List.getElem_set_ne (by omega)]
   exact part_far (x3 j h _ (by omega)) (p := ⟨g, q, none⟩) hc _
 ·rw [List.length_set] at h
  rw [List.getElem_set_ne (by omega)]
  exact x4 j h (by omega)
theorem LayI.cell {g cp : Nat} (h : LayI w W mb (.slice (some ⟨g, 0, none⟩) len cp) len (q + 1) marks ps) : W.cell? ⟨g, q, none⟩ = some (.slice none 0 0) ∧ W.frozen? ⟨g, q, none⟩ = false := by
 obtain ⟨_, hm, hl, ⟨xs, x1, x2, x3, x4⟩, hB⟩ := h
 have hq : q < len := by omega
 have x2' := x2
 unfold PR at x2'
 rw [x1] at x2'
 have := own_at_of (d := ((none, 0, 0) : SV)) x2' (q : Int) (by omega) (by omega)
 rw [Int.toNat_natCast] at this
 refine ⟨this.1.trans ?_, this.2⟩
 have e : rdOf ((none, 0, 0) : SV) xs (q : Int) = xs[q] := by
  unfold rdOf
  rw [Int.toNat_natCast, List.getD_eq_getElem?_getD, List.getElem?_eq_getElem (by omega)]
  rfl
 rw [e, x4 q (by omega) (by omega)]
 rfl
theorem LayI.at0 {g cp : Nat} (h : LayI w W mb (.slice (some ⟨g, 0, none⟩) len cp) len 0 marks ps) (j : Nat) (hj : j < len) (hp : j < ps.length) : ∃ s : SV, W.cell? ⟨g, j, none⟩ = some (encS s) ∧ Kd.R k52 52 W w.heap.size (fun _ => True) (encS s) ps[j] := by
 obtain ⟨_, hm, hl, ⟨xs, x1, x2, x3, x4⟩, hB⟩ := h
 have x2' := x2
 unfold PR at x2'
 rw [x1] at x2'
 have := own_at_of (d := ((none, 0, 0) : SV)) x2' (j : Int) (by omega) (by omega)
 rw [Int.toNat_natCast] at this
 refine ⟨xs[j], this.1.trans ?_, x3 j (by omega) hp (Nat.zero_le _)⟩
 unfold rdOf
 rw [Int.toNat_natCast, List.getD_eq_getElem?_getD, List.getElem?_eq_getElem (by omega)]
 rfl
theorem LayI.form {ap : Option Addr} {cp : Nat} (h : LayI w W mb (.slice ap len cp) len q marks ps) (hl : 0 < len) : ∃ g, ap = some ⟨g, 0, none⟩ := by
 obtain ⟨_, _, _, ⟨xs, x1, x2, x3, x4⟩, _⟩ := h
 rcases x2.2 with ⟨e, h0⟩ | ⟨g, cap, cur, e, _⟩
 ·omega
 ·injection e with e1 e2 e3
  exact ⟨g, e1⟩
end
set_option maxRecDepth 100000 in
set_option maxHeartbeats 8000000 in
theorem impl_layout.calls (k : Nat) (A0 : Option Addr) (c0 : Nat) (l0 : List S69) (r1 : List S52) (r2 : Int) (w : World) (hr0 : Kd.C k69 w A0 l0.length l0) (hc0 : l0.length ≤ c0) (h : impl_layout.f k l0 = some (r1, r2)) :
  Calls Try.prog 20 #[.slice A0 l0.length c0] w fun e w' => ∃ v0_ : Value, e = .returned (.tuple #[v0_, .int .i64 r2]) ∧ Kd.R k52 52 w' w.heap.size (fun _ => True) v0_ r1 ∧ Below w.heap.size w w' := by
 unfold impl_layout.f at h
 by_cases hl : l0.length ≤ 1073741824
 case neg => rw [if_neg hl] at h; exact absurd h (by simp)
 rw [if_pos hl] at h
 replace h := Option.bind_eq_some_iff.1 h
 obtain ⟨R, hF, h⟩ := h
 have HF := Za.mk hF
 have HE := Za.mk h
 have HR0 := Za.mk hr0
 have HC0 := Za.mk hc0
 have HL := Za.mk hl
 have hmm := @run_makeMap Try.prog
 have hw1 : wrap64 ((l0.length : Int) - 1) = (l0.length : Int) - 1 := by unfold wrap64; omega
 have h0n : (0 : Int) ≤ (l0.length : Int) := by omega
 clear hF h hr0 hc0
 go_enter Try.func20, Try.ntmps20
 go_wp2_with (first | ((with_reducible refine Zab (N := 20) rfl ?_); refine Kd.R_make (Kd.scalar encS encS_one) (w0 := w) w.heap.size 26 rfl (N := 20) rfl 85 _ _ rfl (l0.length : Int) rfl rfl Try.underlying85 (.slice none 0 0) 24 (by kernel_rfl) rfl (by decide) (by omega) ((none, 0, 0) : SV) (ok := fun _ => True) (okp := fun _ => True) rfl (fun _ hk => hk) trivial h0n (by omega) ((Below.refl _ _).alloc (Nat.le_refl _) _) (by simp) ?_; intro pv w4 hp hb hg hnew; have HP := Za.mk hp; have HB := Za.mk hb; have HG := Za.mk hg; clear hp hb hg hnew))
 have HI0 := Za.mk (show LayI w w4 w.heap.size pv l0.length l0.length [] [] from ⟨⟨_, (World.ownsMap_made w Try.prog 3 (plainElem Try.prog 3)).kept HG.out (by simp), mapRel_nil⟩, by simp, by simp, ⟨List.replicate l0.length (none, 0, 0), by simp, Kd.own_of_R (by simpa using HP.out), fun j h h2 hq => absurd h2 (by simp), fun j h hj => by simp⟩, HB.out⟩)
 have hkey3 := Try.underlying3
 obtain ⟨ap, cp, rfl⟩ := own_slice (Kd.own_of_R HP.out)
 have hpl : (List.replicate (l0.length : Int).toNat ((none, 0, 0) : SV)).length = l0.length := by simp
 rw [hpl] at HI0 ⊢
 clear HP HB HG hpl
 go_loopg [6, 7] l0.length (fun kq v6 v7 w' => ∃ (n j : Int) (marks : List (Int × Int)) (ps : List (List S52)), v6 = .int .i64 n ∧ v7 = .int .i64 j ∧ Za (j = (kq : Int) - 1) ∧ Za (layF k l0 kq marks n ps = some R) ∧ Za ((Lit.int .i64 n).wf = true) ∧ Za (LayI w w' w.heap.size (.slice ap l0.length cp) l0.length kq marks ps))
 case atStart => exact ⟨0, _, [], [], rfl, rfl, ⟨rfl⟩, HF, ⟨rfl⟩, HI0⟩
 case round =>
  clear HF HI0
  obtain ⟨n, j, marks, ps, rfl, rfl, HJ, HF, HW, HI⟩ := hrel
  cases gk with
  | zero =>
   obtain rfl : j = -1 := by have := HJ.out; omega
   clear HJ
   have h := HF.out
   clear HF
   simp only [layF, Option.some.injEq] at h
   subst h
   have hE := HE.out
   dsimp only at hE
   clear HE
   by_cases hn : n > 4096
   ·rw [if_pos hn] at hE
    simp only [Option.some.injEq, Prod.mk.injEq] at hE
    obtain ⟨rfl, rfl⟩ := hE
    have hnb : decide (n > 4096) = true := decide_eq_true hn
    have hnc : decide (4096 < n) = true := decide_eq_true hn
    have HB1 := Za.mk HI.out.below
    clear hn
    go_wp2
    go_returns
    exact ⟨_, rfl, Kd.R_nil _ _ _ _ _, HB1.out⟩
   rw [if_neg hn] at hE
   by_cases hfl : ps.flatten.length ≤ 4294967296
   case neg => rw [if_neg hfl] at hE; exact absurd hE (by simp)
   rw [if_pos hfl] at hE
   simp only [Option.some.injEq, Prod.mk.injEq] at hE
   obtain ⟨rfl, rfl⟩ := hE
   have hnb : decide (n > 4096) = false := decide_eq_false hn
   have hnc : decide (4096 < n) = false := decide_eq_false hn
   have HFL := Za.mk hfl
   obtain ⟨wo, hwo⟩ : ∃ wo : World, wo = wr := ⟨_, rfl⟩
   subst hwo
   clear hn hfl
   have HO0 := Za.mk (show Kd.R k52 52 (wo.alloc (.cells #[] 52)) w.heap.size (fun k => wo.heap.size ≤ k) (.slice (some ⟨wo.heap.size, 0, none⟩) 0 0) (([] : List (List S52)).flatten) from ⟨fun k hk => by cases hk; exact Nat.le_refl _, [], ⟨rfl, .inr ⟨wo.heap.size, 0, #[], rfl, HI.out.below.size, blk_new wo _, Nat.le_refl _, Nat.zero_le _, rfl, rfl⟩⟩, Reps.none _ _⟩)
   go_wp2
   go_loopg [14, 83] l0.length (fun kq v14 v83 w' => ∃ (jx : Nat) (A : Option Addr) (nn c : Nat), v14 = .slice A nn c ∧ v83 = .int .i64 (jx : Int) ∧ Za (kq + jx = l0.length) ∧ Za (Kd.R k52 52 w' w.heap.size (fun k => wo.heap.size ≤ k) (.slice A nn c) ((ps.take jx).flatten)) ∧ Za (Below wo.heap.size wo w'))
   case atStart => exact ⟨0, _, _, _, rfl, rfl, ⟨rfl⟩, HO0, ⟨Zc (Below.refl _ wo) _⟩⟩
   case round =>
    clear HO0
    obtain ⟨jx, A, nn, c, rfl, rfl, HK, HO, HB2⟩ := hrel
    by_cases hlt : jx < l0.length
    ·obtain ⟨g, hg⟩ := HI.out.form (by omega)
     subst hg
     have hjp : jx < ps.length := by have := HI.out.qps; omega
     obtain ⟨s, hc1, hs⟩ := LayI.at0 (HI.out.up HB2.out) jx hlt hjp
     obtain ⟨As, ns, cs⟩ := s
     obtain ⟨hns, _, hCs⟩ := Kd.Zat hs
     have HCs := Za.mk hCs
     have c1 : decide ((jx : Int) < (l0.length : Int)) = true := decide_eq_true (by omega)
     have c2 : decide (jx < l0.length) = true := decide_eq_true hlt
     have c3 : decide ((0 : Int) ≤ (jx : Int)) = true := decide_eq_true (by omega)
     have et : ps.take (jx + 1) = ps.take jx ++ [ps[jx]] := List.take_succ_eq_append_getElem hjp
     have ef : (ps.take (jx + 1)).flatten = (ps.take jx).flatten ++ ps[jx] := by rw [et, List.flatten_append]; simp
     have el : ((ps.take jx).flatten.length + ns) * 8 ≤ 140737488355328 := by
      have h1 := congrArg List.length ef
      have h2 : (ps.take (jx + 1)).flatten.length ≤ ps.flatten.length := by
       have h3 : ps.flatten = (ps.take (jx + 1)).flatten ++ (ps.drop (jx + 1)).flatten := by rw [← List.flatten_append, List.take_append_drop]
       rw [h3, List.length_append]
       omega
      rw [List.length_append] at h1
      have := HFL.out
      have hns' : ns = ps[jx].length := hns
      omega
     have EF := Za.mk ef
     have EL := Za.mk el
     rw [← hns] at HCs
     have hwj : wrap64 ((jx : Int) + 1) = ((jx + 1 : Nat) : Int) := by unfold wrap64; have := HL.out; omega
     have hc1' : wr.cell? ⟨g, jx, none⟩ = some (.slice As ns cs) := hc1
     obtain ⟨k2, hk2⟩ : ∃ k2, gk = k2 + 1 := ⟨gk - 1, by have := HK.out; omega⟩
     subst hk2
     clear hs hns hCs et ef el hc1
     go_wp2_with (first | ((with_reducible refine Zab (N := 89) rfl ?_); refine Kd.R_append_rows k52 (Rr := k52.K _) (w0 := w) w.heap.size rfl (.tmp 87) (.tmp 88) 26 52 (.agg #[(.int .u16 0), (.int .u8 0), (.int .u8 0), (.int .u32 0)]) 8 rfl Try.underlying26 info52 rfl (by decide) (by omega) (.slice A nn c) _ ps[jx] As ns cs (fun k => wo.heap.size ≤ k) (fun _ => False) rfl rfl HO.out HCs.out (fun x cs h => by have := k52_open h; subst this; exact k52_mkM _ _ _ x) (fun _ hk => hk.elim) (fun k hk => Nat.le_trans HB2.out.size hk) (HI.out.below.trans (HB2.out.mono HI.out.below.size)) (Nat.le_trans HI.out.below.size HB2.out.size) EL.out ?_; intro v1 w1 ho hb hg hat; obtain ⟨A1, n1, c1, rfl⟩ : ∃ A nn c, v1 = .slice A nn c := (by obtain ⟨A, c, e, _, _⟩ := Kd.R_reads ho; exact ⟨A, _, c, e⟩); have HO1 := Za.mk ho; have HB3 := Za.mk (HB2.out.grown hg HB2.out.size (fun k e => HO.out.1 k e)); clear ho hb hg hat))
     go_roundg k2
     case measure => omega
     case rel => exact ⟨jx + 1, _, _, _, rfl, by first | rfl | (rw [← hwj]; done) | (simp [hwj]; done) | (simp; done), ⟨by have := HK.out; omega⟩, ⟨by rw [EF.out]; exact HO1.out⟩, HB3⟩
    have hjx : jx = l0.length := by have := HK.out; omega
    subst hjx
    have c1 : decide ((l0.length : Int) < (l0.length : Int)) = false := decide_eq_false (by omega)
    go_wp2
    go_returns
    have e : ps.take l0.length = ps := List.take_of_length_le (by have := HI.out.qps; omega)
    have hO := HO.out
    rw [e] at hO
    refine ⟨_, rfl, Kd.Zas hO (fun _ _ => trivial), HI.out.below.trans (HB2.out.mono HI.out.below.size)⟩
  | succ q =>
   obtain rfl : j = (q : Int) := by have := HJ.out; omega
   clear HJ
   have h := HF.out
   clear HF
   simp only [layF] at h
   have hql : q < l0.length := by have := HI.out.qps; omega
   obtain ⟨ad, rfl, g0, g1, g2, g3, g4, g5⟩ := at_T69 HR0.out (q : Int) (by omega) (by omega)
   obtain ⟨it, hit⟩ : ∃ it, Zah l0 (q : Int) = it := ⟨_, rfl⟩
   rw [hit] at h g0 g1 g2 g3 g4 g5
   rw [Int.toNat_natCast] at g0 g1 g2 g3 g4 g5
   by_cases hwf : (Lit.int .i64 it.f2).wf = true
   case neg => rw [if_neg hwf] at h; exact absurd h (by simp)
   rw [if_pos hwf] at h
   replace h := Option.bind_eq_some_iff.1 h
   obtain ⟨v, hv, h⟩ := h
   have HV := Za.mk hv
   have HH := Za.mk h
   have HWF := Za.mk hwf
   have c0e : ((q : Int) ≥ 0) := by omega
   have c0b : decide ((q : Int) ≥ 0) = true := decide_eq_true c0e
   have c1b : decide ((q : Int) < (l0.length : Int)) = true := decide_eq_true (by omega)
   have c2b : decide (q < l0.length) = true := decide_eq_true hql
   have HB1 := Za.mk HI.out.below
   have g0' := (HB1.out.cell (World.block_lt_of_cell? w _ g0)).trans g0
   have g1' := (HB1.out.cell (World.block_lt_of_cell? w _ g1)).trans g1
   have g2' := (HB1.out.cell (World.block_lt_of_cell? w _ g2)).trans g2
   have g3' := (HB1.out.cell (World.block_lt_of_cell? w _ g3)).trans g3
   have g4' := (HB1.out.cell (World.block_lt_of_cell? w _ g4)).trans g4
   have g5' := (HB1.out.cell (World.block_lt_of_cell? w _ g5)).trans g5
   obtain ⟨i0, ⟨i1, i2, i3, i4⟩, i5⟩ := it
   dsimp only at g0' g1' g2' g3' g4' g5'
   clear g0 g1 g2 g3 g4 g5 h hv hwf
   have HBK := Za.mk (fun (w5 : World) (hb : Below (wr.alloc (.cells #[.int .i64 i0, .int .u16 i1, .int .u8 i2, .int .u8 i3, .int .u32 i4, .int .i64 i5] 69)).heap.size (wr.alloc (.cells #[.int .i64 i0, .int .u16 i1, .int .u8 i2, .int .u8 i3, .int .u32 i4, .int .i64 i5] 69)) w5) => Zp (blk_new wr (.cells #[.int .i64 i0, .int .u16 i1, .int .u8 i2, .int .u8 i3, .int .u32 i4, .int .i64 i5] 69)) hb)
   have HBW := Za.mk (fun (w5 : World) (hb : Below (wr.alloc (.cells #[.int .i64 i0, .int .u16 i1, .int .u8 i2, .int .u8 i3, .int .u32 i4, .int .i64 i5] 69)).heap.size (wr.alloc (.cells #[.int .i64 i0, .int .u16 i1, .int .u8 i2, .int .u8 i3, .int .u32 i4, .int .i64 i5] 69)) w5) => show Below wr.heap.size wr w5 from (Zc (Below.refl _ wr) _).trans (hb.mono (by simp)))
   obtain ⟨D, hD, hDR⟩ := HI.out.map
   have HD := Za.mk hD
   have HDR := Za.mk hDR
   have hkey := Go.Maps.keyOf_int_mk Try.underlying3 HWF.out
   have hlaw := @Go.Maps.int_keyed Try.prog 3 .i64 Try.underlying3
   have hzero : ∀ w : World, (zeroValue 3).run Try.prog w = .ok (.int .i64 0) w := fun w => by kernel_rfl
   have hwq : wrap64 ((q : Int) - 1) = (q : Int) - 1 := by unfold wrap64; omega
   clear hD hDR
   cases v with
   | false =>
    have hH := HH.out
    rw [if_neg (by decide)] at hH
    obtain rfl := Option.some.inj hH
    have hE := HE.out
    simp only [Option.some.injEq, Prod.mk.injEq] at hE
    obtain ⟨rfl, rfl⟩ := hE
    go_wp2_with (go_at_call 46; refine (Zcm.calls k i0 i1 i2 i3 i4 i5 false _ HV.out).mono ?_; rintro e w5 ⟨rfl, hb5⟩; have HB5 := Za.mk (HB1.out.trans ((HBW.out _ hb5).mono HB1.out.size)); clear hb5)
    go_returns
    exact ⟨_, rfl, Kd.R_nil _ _ _ _ _, HB5.out⟩
   | true =>
    have hH := HH.out
    rw [if_pos rfl] at hH
    clear HH
    by_cases e4 : i0 = 4
    ·rw [if_pos e4] at hH
     have e4b : (i0 == 4) = true := beq_iff_eq.2 e4
     cases hk : lkp marks i5 with
     | some a =>
      rw [hk] at hH
      obtain rfl := Option.some.inj hH
      have hE := HE.out
      simp only [Option.some.injEq, Prod.mk.injEq] at hE
      obtain ⟨rfl, rfl⟩ := hE
      have hhas : Go.Maps.has D (.int .i64 i5) = true := by rw [(HDR.out.2 i5).1, hk]; rfl
      clear hk hH e4
      go_wp2_with (first | (go_at_call 46; refine (Zcm.calls k i0 i1 i2 i3 i4 i5 true _ HV.out).mono ?_; rintro e w5 ⟨rfl, hb5⟩; have HB5 := Za.mk (HB1.out.trans ((HBW.out _ hb5).mono HB1.out.size)); have BK := Za.mk (HBK.out _ hb5); have b0 := (Zb BK.out 0).trans rfl; have b5 := (Zb BK.out 5).trans rfl; have HM5 := Za.mk (map_below HD.out (HBW.out _ hb5)); clear hb5) | (at_lookup; refine wpList_lookup_own_ok_int _ rfl _ _ 84 rfl 3 3 .i64 hlaw Try.underlying84 Try.underlying3 (hzero _) w.heap.size marks.length D rfl HM5.out _ _ rfl hkey ?_; intro c hat hwc; rw [hhas]; clear hat hwc))
      go_returns
      exact ⟨_, rfl, Kd.R_nil _ _ _ _ _, HB5.out⟩
     | none =>
      rw [hk] at hH
      have HN := Za.mk hH
      have hhas : Go.Maps.has D (.int .i64 i5) = false := by rw [(HDR.out.2 i5).1, hk]; rfl
      have hml : marks.length < maxLen := by have := HI.out.mks; unfold maxLen; omega
      clear hk hH e4
      go_wp2_with (first | (go_at_call 46; refine (Zcm.calls k i0 i1 i2 i3 i4 i5 true _ HV.out).mono ?_; rintro e w5 ⟨rfl, hb5⟩; have HI5 := Za.mk (HI.out.up (HBW.out _ hb5)); have BK := Za.mk (HBK.out _ hb5); have b0 := (Zb BK.out 0).trans rfl; have b5 := (Zb BK.out 5).trans rfl; have HM5 := Za.mk (map_below HD.out (HBW.out _ hb5)); clear hb5) | (at_lookup; refine wpList_lookup_own_ok_int _ rfl _ _ 84 rfl 3 3 .i64 hlaw Try.underlying84 Try.underlying3 (hzero _) w.heap.size marks.length D rfl HM5.out _ _ rfl hkey ?_; intro c hat hwc; rw [hhas]; clear hat hwc) | (at_mapUpdate; refine wpList_mapUpdate_own _ rfl _ _ _ 84 rfl 3 3 hlaw Try.underlying84 _ w.heap.size marks.length D rfl HM5.out hml _ _ _ rfl rfl hkey _ [] (plainElem_int Try.underlying3 HW.out) ?_; intro w6 hown6 hg6; have HI6 := Za.mk (LayI.label HI5.out (Nat.le_refl _) HDR.out hown6 ⟨_, _, HM5.out⟩ hg6); clear hown6 hg6))
      go_roundg q
      case measure => omega
      case rel => exact ⟨n, _, _, _, rfl, rfl, ⟨rfl⟩, HN, HW, HI6⟩
    rw [if_neg e4] at hH
    have e4b : (i0 == 4) = false := beq_eq_false_iff_ne.2 e4
    obtain ⟨g, hg⟩ := HI.out.form (by omega)
    subst hg
    by_cases e0 : i0 = 0
    ·rw [if_pos e0] at hH
     have e0b : (i0 != 0) = false := by rw [bne_eq_false_iff_eq]; exact e0
     replace hH := Option.bind_eq_some_iff.1 hH
     obtain ⟨p, hp, hH⟩ := hH
     have HN := Za.mk hH
     have HP := Za.mk hp
     clear hH hp e4 e0
     go_wp2_with (first | (go_at_call 46; refine (Zcm.calls k i0 i1 i2 i3 i4 i5 true _ HV.out).mono ?_; rintro e w5 ⟨rfl, hb5⟩; have HI5 := Za.mk (HI.out.up (HBW.out _ hb5)); have BK := Za.mk (HBK.out _ hb5); have b0 := (Zb BK.out 0).trans rfl; have b1 := (Zb BK.out 1).trans rfl; have b2 := (Zb BK.out 2).trans rfl; have b3 := (Zb BK.out 3).trans rfl; have b4 := (Zb BK.out 4).trans rfl; have b5 := (Zb BK.out 5).trans rfl; clear hb5) | (go_at_call 47; refine (impl_made.calls k i0 i1 i2 i3 i4 i5 0 p _ HP.out).mono ?_; rintro e w6 ⟨v0, rfl, hR6, hb6⟩; obtain ⟨ao, cap, rfl, _, _⟩ := Kd.R_reads hR6; have HR6 := Za.mk (Kd.Zbk hR6 HI5.out.below.size); have HI6 := Za.mk (HI5.out.up hb6); have q0 := HI6.out.cell.1; have q1 := HI6.out.cell.2; clear hb6 hR6))
     have HI7 := Za.mk (LayI.part (s := (ao, p.length, cap)) HI6.out HR6.out)
     go_roundg q
     case measure => omega
     case rel => exact ⟨_, _, _, _, rfl, rfl, ⟨rfl⟩, HN, ⟨wrap64_wf _⟩, HI7⟩
    rw [if_neg e0] at hH
    have e0b : (i0 != 0) = true := bne_iff_ne.2 e0
    cases hk : lkp marks i5 with
    | none =>
     rw [hk] at hH
     obtain rfl := Option.some.inj hH
     have hE := HE.out
     simp only [Option.some.injEq, Prod.mk.injEq] at hE
     obtain ⟨rfl, rfl⟩ := hE
     have hhas : Go.Maps.has D (.int .i64 i5) = false := by rw [(HDR.out.2 i5).1, hk]; rfl
     clear hk hH e4 e0
     go_wp2_with (first | (go_at_call 46; refine (Zcm.calls k i0 i1 i2 i3 i4 i5 true _ HV.out).mono ?_; rintro e w5 ⟨rfl, hb5⟩; have HB5 := Za.mk (HB1.out.trans ((HBW.out _ hb5).mono HB1.out.size)); have BK := Za.mk (HBK.out _ hb5); have b0 := (Zb BK.out 0).trans rfl; have b5 := (Zb BK.out 5).trans rfl; have HM5 := Za.mk (map_below HD.out (HBW.out _ hb5)); clear hb5) | (at_lookup; refine wpList_lookup_own_ok_int _ rfl _ _ 84 rfl 3 3 .i64 hlaw Try.underlying84 Try.underlying3 (hzero _) w.heap.size marks.length D rfl HM5.out _ _ rfl hkey ?_; intro c hat hwc; rw [hhas]; clear hat hwc))
     go_returns
     exact ⟨_, rfl, Kd.R_nil _ _ _ _ _, HB5.out⟩
    | some a =>
     rw [hk] at hH
     replace hH := Option.bind_eq_some_iff.1 hH
     obtain ⟨p, hp, hH⟩ := hH
     have HN := Za.mk hH
     have HP := Za.mk hp
     have hhas : Go.Maps.has D (.int .i64 i5) = true := by rw [(HDR.out.2 i5).1, hk]; rfl
     have hatk := (HDR.out.2 i5).2 a hk
     clear hk hH hp e4 e0
     go_wp2_with (first | (go_at_call 46; refine (Zcm.calls k i0 i1 i2 i3 i4 i5 true _ HV.out).mono ?_; rintro e w5 ⟨rfl, hb5⟩; have HI5 := Za.mk (HI.out.up (HBW.out _ hb5)); have BK := Za.mk (HBK.out _ hb5); have b0 := (Zb BK.out 0).trans rfl; have b1 := (Zb BK.out 1).trans rfl; have b2 := (Zb BK.out 2).trans rfl; have b3 := (Zb BK.out 3).trans rfl; have b4 := (Zb BK.out 4).trans rfl; have b5 := (Zb BK.out 5).trans rfl; have HM5 := Za.mk (map_below HD.out (HBW.out _ hb5)); clear hb5) | (at_lookup; refine wpList_lookup_own_ok_int _ rfl _ _ 84 rfl 3 3 .i64 hlaw Try.underlying84 Try.underlying3 (hzero _) w.heap.size marks.length D rfl HM5.out _ _ rfl hkey ?_; intro c hat hwc; rw [hhas]; rw [hatk] at hat; obtain rfl : a = c := by simpa using hat) | (go_at_call 47; refine (impl_made.calls k i0 i1 i2 i3 i4 i5 _ p _ HP.out).mono ?_; rintro e w6 ⟨v0, rfl, hR6, hb6⟩; obtain ⟨ao, cap, rfl, _, _⟩ := Kd.R_reads hR6; have HR6 := Za.mk (Kd.Zbk hR6 HI5.out.below.size); have HI6 := Za.mk (HI5.out.up hb6); have q0 := HI6.out.cell.1; have q1 := HI6.out.cell.2; clear hb6 hR6))
     have HI7 := Za.mk (LayI.part (s := (ao, p.length, cap)) HI6.out HR6.out)
     go_roundg q
     case measure => omega
     case rel => exact ⟨_, _, _, _, rfl, rfl, ⟨rfl⟩, HN, ⟨wrap64_wf _⟩, HI7⟩
def jumpC (c : Int) : Prop := c = 21 ∨ c = 37 ∨ c = 53 ∨ c = 69
instance : DecidablePred jumpC := fun c => by unfold jumpC; infer_instance
def okI (it : S69) : Bool := if it.f0 = 0 then decide (sortN it.f1.f0 = 1 ∨ sortN it.f1.f0 = 4) else if it.f0 = 1 ∨ it.f0 = 2 then decide (jumpC it.f1.f0) else decide (it.f0 = 3 ∨ it.f0 = 4)
theorem sort_cases (c : Int) : sortN c = 0 ∨ sortN c = 1 ∨ sortN c = 2 ∨ sortN c = 3 ∨ sortN c = 4 := by
 unfold sortN
 split
 ·simp
 ·split
  ·simp
  ·split
   ·simp
   ·split <;> simp
theorem implValidI_ev (it : S69) : Ev (fun k => Zcm.f k it.f0 it.f1.f0 it.f1.f1 it.f1.f2 it.f1.f3 it.f2) (okI it) := by
 refine ev_mk 2 fun k hk => ?_
 unfold Zcm.f okI
 by_cases h0 : it.f0 = 0
 ·rw [if_pos h0, if_pos h0, sortOf_is _ k hk, Option.bind_some]
  rcases sort_cases it.f1.f0 with e | e | e | e | e <;> simp [e]
 ·rw [if_neg h0, if_neg h0]
  by_cases h1 : it.f0 = 1
  ·rw [if_pos h1, if_pos (Or.inl h1 : it.f0 = 1 ∨ it.f0 = 2)]
   unfold jumpC
   by_cases a : it.f1.f0 = 21 <;> by_cases b : it.f1.f0 = 37 <;> by_cases c : it.f1.f0 = 53 <;> by_cases d : it.f1.f0 = 69 <;> simp [a, b, c, d]
  ·rw [if_neg h1]
   by_cases h2 : it.f0 = 2
   ·rw [if_pos h2, if_pos (Or.inr h2 : it.f0 = 1 ∨ it.f0 = 2)]
    unfold jumpC
    by_cases a : it.f1.f0 = 21 <;> by_cases b : it.f1.f0 = 37 <;> by_cases c : it.f1.f0 = 53 <;> by_cases d : it.f1.f0 = 69 <;> simp [a, b, c, d]
   ·rw [if_neg h2, if_neg (show ¬ (it.f0 = 1 ∨ it.f0 = 2) from fun h => h.elim h1 h2)]
    by_cases h3 : it.f0 = 3 <;> by_cases h4 : it.f0 = 4 <;> simp [h3, h4]
def madeN (it : S69) (d : Int) : List S52 :=
 if it.f0 = 0 then [it.f1] else if it.f0 = 3 then [⟨5, 0, 0, d % 4294967296⟩]
 else if d ≤ 255 then (if it.f0 = 1 then [⟨it.f1.f0, d % 256, 0, it.f1.f3⟩] else [⟨it.f1.f0, 0, d % 256, it.f1.f3⟩])
 else (if it.f0 = 1 then [⟨it.f1.f0, 0, 1, it.f1.f3⟩, ⟨5, 0, 0, d % 4294967296⟩] else [⟨it.f1.f0, 1, 0, it.f1.f3⟩, ⟨5, 0, 0, d % 4294967296⟩])
theorem made_ev (it : S69) (d : Int) : Ev (fun k => impl_made.f k it.f0 it.f1.f0 it.f1.f1 it.f1.f2 it.f1.f3 it.f2 d) (madeN it d) := by
 refine ev_mk 1 fun k hk => ?_
 obtain ⟨k, rfl⟩ : ∃ m, k = m + 1 := ⟨k - 1, by omega⟩
 unfold impl_made.f madeN
 by_cases h0 : it.f0 = 0
 ·rw [if_pos h0, if_pos h0]
 ·rw [if_neg h0, if_neg h0]
  by_cases h3 : it.f0 = 3
  ·rw [if_pos h3, if_pos h3]
  ·rw [if_neg h3, if_neg h3]
   by_cases h1 : it.f0 = 1 <;> by_cases hd : d ≤ 255 <;> simp [impl_made.j0, h1, hd]
theorem madeN_length (it : S69) (d : Int) : (madeN it d).length ≤ 2 := by
 unfold madeN
 repeat' split
 all_goals simp
def layN (l : List S69) : Nat → List (Int × Int) → Int → List (List S52) → Option (Int × List (List S52))
 | 0, _, n, ps => some (n, ps)
 | i + 1, marks, n, ps => if okI (Zah l (i : Int)) = true then (if (Zah l (i : Int)).f0 = 4 then (match lkp marks (Zah l (i : Int)).f2 with | some _ => none | none => layN l i (((Zah l (i : Int)).f2, n) :: marks) n ([] :: ps)) else if (Zah l (i : Int)).f0 = 0 then layN l i marks (n + ((madeN (Zah l (i : Int)) 0).length : Int)) (madeN (Zah l (i : Int)) 0 :: ps) else (match lkp marks (Zah l (i : Int)).f2 with | none => none | some a => layN l i marks (n + ((madeN (Zah l (i : Int)) (n - a)).length : Int)) (madeN (Zah l (i : Int)) (n - a) :: ps))) else none
theorem lkp_mem {marks : List (Int × Int)} {x v : Int} (h : lkp marks x = some v) : ∃ p ∈ marks, p.2 = v := by
 unfold lkp at h
 obtain ⟨p, hp, e⟩ := Option.map_eq_some_iff.1 h
 exact ⟨p, List.mem_of_find?_eq_some hp, e⟩
theorem ev_bindl {α β : Type} {f : Nat → Option α} {g : Nat → α → Option β} {x : α} {r : β} (h : Ev f x) (h2 : Ev (fun k => g k x) r) : Ev (fun k => (f k).bind (g k)) r := by
 obtain ⟨K1, h1⟩ := ev_get h
 obtain ⟨K2, h2⟩ := ev_get h2
 exact ev_mk (K1 + K2) fun k hk => bo (h1 k (by omega)) (h2 k (by omega))
def ItT (x : S69) : Prop := -9223372036854775808 ≤ x.f2 ∧ x.f2 < 9223372036854775808
theorem layF_ev (l : List S69) (hR : ∀ x ∈ l, ItT x) : ∀ (i : Nat) (marks : List (Int × Int)) (n : Int) (ps : List (List S52)), i ≤ l.length → 0 ≤ n → n + 2 * (i : Int) ≤ 1000000000 → (∀ p ∈ marks, 0 ≤ p.2 ∧ p.2 ≤ n) → Ev (fun k => layF k l i marks n ps) (layN l i marks n ps)
 | 0, marks, n, ps, _, _, _, _ => ev_is fun k => rfl
 | i + 1, marks, n, ps, hi, h0, h1, hm => by
  have ih := layF_ev l hR i
  have hit := hR _ (List.getElem_mem (show i < l.length by omega))
  have hrd := rdItem_eq l i (by omega)
  rw [← hrd] at hit
  simp only [layF, layN]
  clear hrd
  generalize Zah l (i : Int) = it at hit ⊢
  have hwf : (Lit.int .i64 it.f2).wf = true := by
   obtain ⟨a, b⟩ := hit
   simp only [Lit.wf, IntKind.min, IntKind.max, IntKind.signed, IntKind.bits, Bool.and_eq_true]
   simp
   omega
  simp only [hwf, if_true]
  have hml := fun d => madeN_length it d
  have part : ∀ d : Int, Ev (fun k => (impl_made.f k it.f0 it.f1.f0 it.f1.f1 it.f1.f2 it.f1.f3 it.f2 d).bind fun p => layF k l i marks (wrap64 (n + (p.length : Int))) (p :: ps)) (layN l i marks (n + ((madeN it d).length : Int)) (madeN it d :: ps)) := fun d => by
   have := hml d
   refine ev_bindl (made_ev it d) ?_
   rw [Zae (by omega) (by omega)]
   exact ih marks _ _ (by omega) (by omega) (by omega) (fun p hp => by have := hm p hp; omega)
  refine ev_bindl (implValidI_ev it) ?_
  cases okI it with
  | false => exact ev_is fun k => rfl
  | true =>
   simp only [if_true]
   by_cases h4 : it.f0 = 4
   ·simp only [if_pos h4]
    cases hk : lkp marks it.f2 with
    | some a => exact ev_is fun k => rfl
    | none => exact ih _ _ _ (by omega) h0 (by omega) (fun p hp => by
      rcases List.mem_cons.1 hp with rfl | hp
      ·exact ⟨h0, Int.le_refl _⟩
      ·exact hm p hp)
   ·simp only [if_neg h4]
    by_cases hz : it.f0 = 0
    ·simp only [if_pos hz]
     exact part 0
    ·simp only [if_neg hz]
     cases hk : lkp marks it.f2 with
     | none => exact ev_is fun k => rfl
     | some a =>
      obtain ⟨p, hp, e⟩ := lkp_mem hk
      have := hm p hp
      simp only [Zae (i := n - a) (by omega) (by omega)]
      exact part (n - a)
def findN (m : List S98) (x : Int) : Int := match m.reverse.find? (fun p => p.f0 == x) with | some p => p.f1 | none => -1
theorem rdMark_eq (l : List S98) (i : Nat) (h : i < l.length) : rd_T98 l (i : Int) = l[i] := by
 simp [rd_T98, List.getD_eq_getElem?_getD, List.getElem?_eq_getElem h]
theorem find_ev (m : List S98) (x : Int) (hl : m.length ≤ 1000000) : Ev (fun k => Zcc.f k m x) (findN m x) := by
 have key : ∀ j : Nat, j ≤ m.length → Ev (fun k => Zcc.l0 k m x ((j : Int) - 1)) (findN (m.take j) x) := by
  intro j
  induction j with
  | zero => intro _; exact ev_end fun k => by simp only [Zcc.l0]; rw [if_neg (by omega)]; rfl
  | succ j ih =>
   intro hj
   have hlt : j < m.length := by omega
   have e1 : ((j + 1 : Nat) : Int) - 1 = (j : Int) := by omega
   rw [e1]
   have et : findN (m.take (j + 1)) x = if m[j].f0 = x then m[j].f1 else findN (m.take j) x := by
    unfold findN
    rw [List.take_succ_eq_append_getElem hlt, List.reverse_append, List.reverse_cons, List.reverse_nil, List.nil_append, List.singleton_append, List.find?_cons]
    by_cases h : m[j].f0 = x
    ·rw [if_pos h, beq_iff_eq.2 h]
    ·rw [if_neg h, beq_eq_false_iff_ne.2 h]
   rw [et]
   by_cases h : m[j].f0 = x
   ·rw [if_pos h]
    exact ev_end fun k => by simp only [Zcc.l0]; rw [if_pos (by omega), if_pos (by omega), if_pos (by omega), rdMark_eq m j hlt, if_pos h]
   ·rw [if_neg h]
    exact Zbe _ (fun k => by simp only [Zcc.l0]; rw [if_pos (by omega), if_pos (by omega), if_pos (by omega), rdMark_eq m j hlt, if_neg h, Zae (by omega) (by omega)]) (ih (by omega))
 have h := key m.length (Nat.le_refl _)
 rw [List.take_length] at h
 refine Ev.congr (fun k => ?_) h
 unfold Zcc.f
 rw [Zae (by omega) (by omega)]
def mk88 (g : Int → Int) (marks : List (Int × Int)) : List S98 := marks.reverse.map fun p => ⟨p.1, g p.2⟩
theorem mk88_cons (g : Int → Int) (marks : List (Int × Int)) (x v : Int) : mk88 g ((x, v) :: marks) = mk88 g marks ++ [⟨x, g v⟩] := by simp [mk88]
theorem mk88_length (g : Int → Int) (marks : List (Int × Int)) : (mk88 g marks).length = marks.length := by simp [mk88]
theorem findN_mk (g : Int → Int) (marks : List (Int × Int)) (x : Int) : findN (mk88 g marks) x = match lkp marks x with | some v => g v | none => -1 := by
 unfold findN mk88 lkp
 rw [← List.map_reverse, List.reverse_reverse, List.find?_map]
 cases h : List.find? ((fun p : S98 => p.f0 == x) ∘ fun p : Int × Int => ⟨p.1, g p.2⟩) marks with
 | none =>
  have h2 : List.find? (fun p : Int × Int => p.1 == x) marks = none := h
  rw [h2]; rfl
 | some p =>
  have h2 : List.find? (fun p : Int × Int => p.1 == x) marks = some p := h
  rw [h2]; rfl
theorem okI_kind {it : S69} (h : okI it = true) : it.f0 = 0 ∨ it.f0 = 1 ∨ it.f0 = 2 ∨ it.f0 = 3 ∨ it.f0 = 4 := by
 unfold okI at h
 split at h
 ·exact .inl ‹_›
 ·split at h
  ·omega
  ·have := of_decide_eq_true h
   omega
def layM (l : List S69) : Nat → List (Int × Int) → Int → List (List S52) → Option (Int × List (List S52))
 | 0, _, n, ps => some (n, ps)
 | i + 1, marks, n, ps => if okI (Zah l (i : Int)) = true then (if (Zah l (i : Int)).f0 = 4 then layM l i (((Zah l (i : Int)).f2, n) :: marks) n ([] :: ps) else if (Zah l (i : Int)).f0 = 0 then layM l i marks (n + ((madeN (Zah l (i : Int)) 0).length : Int)) (madeN (Zah l (i : Int)) 0 :: ps) else (match lkp marks (Zah l (i : Int)).f2 with | none => none | some a => layM l i marks (n + ((madeN (Zah l (i : Int)) (n - a)).length : Int)) (madeN (Zah l (i : Int)) (n - a) :: ps))) else none
theorem layM_len (l : List S69) : ∀ (i : Nat) (marks : List (Int × Int)) (n : Int) (ps : List (List S52)) (n' : Int) (ps' : List (List S52)), layM l i marks n ps = some (n', ps') → n = (ps.flatten.length : Int) → n' = (ps'.flatten.length : Int) ∧ n ≤ n'
 | 0, marks, n, ps, n', ps', h, hn => by
  simp only [layM, Option.some.injEq, Prod.mk.injEq] at h
  obtain ⟨rfl, rfl⟩ := h
  exact ⟨hn, Int.le_refl _⟩
 | i + 1, marks, n, ps, n', ps', h, hn => by
  have ih := layM_len l i
  simp only [layM] at h
  generalize Zah l (i : Int) = it at h
  cases hok : okI it with
  | false => rw [hok, if_neg (by decide)] at h; exact absurd h (by simp)
  | true =>
   rw [hok, if_pos rfl] at h
   have fl : ∀ p : List S52, n + (p.length : Int) = ((p :: ps).flatten.length : Int) := fun p => by rw [List.flatten_cons, List.length_append, hn]; omega
   by_cases h4 : it.f0 = 4
   ·rw [if_pos h4] at h
    exact ih _ _ _ _ _ h (by simpa using hn)
   ·rw [if_neg h4] at h
    by_cases hz : it.f0 = 0
    ·rw [if_pos hz] at h
     have := ih _ _ _ _ _ h (fl _)
     exact ⟨this.1, by omega⟩
    ·rw [if_neg hz] at h
     cases hk : lkp marks it.f2 with
     | none => rw [hk] at h; exact absurd h (by simp)
     | some a =>
      rw [hk] at h
      have := ih _ _ _ _ _ h (fl _)
      exact ⟨this.1, by omega⟩
theorem laid_stop (l : List S69) (out : List S52) (m : List S98) (i : Int) (h : (out.length : Int) > 4096) : Ev (fun k => Zbc.l0 k l out m i) out := by
 refine ev_mk 2 fun k hk => ?_
 obtain ⟨k, rfl⟩ : ∃ j, k = j + 2 := ⟨k - 2, by omega⟩
 simp only [Zbc.l0, Zbc.j1]
 by_cases hi : i ≥ 0
 ·rw [if_pos hi, decide_eq_false (by omega), if_neg (by decide)]
 ·rw [if_neg hi, if_neg (by decide)]
theorem laid_ev (l : List S69) (hl : l.length ≤ 1000000) : ∀ (i : Nat) (marks : List (Int × Int)) (n : Int) (ps : List (List S52)) (n' : Int) (ps' : List (List S52)), i ≤ l.length → marks.length + i ≤ l.length → n = (ps.flatten.length : Int) → (∀ p ∈ marks, 0 ≤ p.2 ∧ p.2 ≤ n) → layM l i marks n ps = some (n', ps') →
  ∃ out, Ev (fun k => Zbc.l0 k l ps.flatten.reverse (mk88 id marks) ((i : Int) - 1)) out ∧ (n' ≤ 4096 → out = ps'.flatten.reverse) ∧ (n' > 4096 → (out.length : Int) > 4096)
 | 0, marks, n, ps, n', ps', _, _, hn, _, h => by
  simp only [layM, Option.some.injEq, Prod.mk.injEq] at h
  obtain ⟨rfl, rfl⟩ := h
  refine ⟨ps.flatten.reverse, ev_mk 2 fun k hk => ?_, fun _ => rfl, fun h => by rw [List.length_reverse]; omega⟩
  obtain ⟨k, rfl⟩ : ∃ j, k = j + 2 := ⟨k - 2, by omega⟩
  simp only [Zbc.l0, Zbc.j1]
  rw [if_neg (by omega), if_neg (by decide)]
 | i + 1, marks, n, ps, n', ps', hi, hm, hn, hmr, h => by
  have ih := laid_ev l hl i
  have hrd := rdItem_eq l i (by omega)
  have hmono := layM_len l (i + 1) marks n ps n' ps' h hn
  by_cases hbig : n > 4096
  ·exact ⟨_, laid_stop l _ _ _ (by rw [List.length_reverse]; omega), fun h2 => by omega, fun _ => by rw [List.length_reverse]; omega⟩
  have e1 : ((i + 1 : Nat) : Int) - 1 = (i : Int) := by omega
  have w : wrap64 ((i : Int) - 1) = (i : Int) - 1 := Zae (by omega) (by omega)
  have hlo : (ps.flatten.reverse.length : Int) = n := by rw [List.length_reverse]; omega
  have hlo2 : ps.flatten.reverse.length < 17592186044416 := by omega
  rw [e1]
  simp only [layM] at h
  have hstep : ∀ k, Zbc.l0 (k + 2) l ps.flatten.reverse (mk88 id marks) (i : Int) = Zbc.j1 (k + 1) l ps.flatten.reverse (mk88 id marks) (i : Int) true := fun k => by
   rw [show k + 2 = (k + 1) + 1 from rfl, Zbc.l0, if_pos (by omega), decide_eq_true (by omega)]
  obtain ⟨it, hite⟩ : ∃ it, Zah l (i : Int) = it := ⟨_, rfl⟩
  rw [hite] at h
  have hfd := findN_mk id marks it.f2
  have hfe := find_ev (mk88 id marks) it.f2 (by rw [mk88_length]; omega)
  rw [hfd] at hfe
  have c1 : (0 : Int) ≤ (i : Int) := by omega
  have c2 : (i : Int) < (l.length : Int) := by omega
  have hj : ∀ out, Ev (fun k => Zbc.j1 (k + 1) l ps.flatten.reverse (mk88 id marks) (i : Int) true) out → Ev (fun k => Zbc.l0 k l ps.flatten.reverse (mk88 id marks) (i : Int)) out := fun out ho => by
   obtain ⟨K, hK⟩ := ev_get ho
   refine ev_mk (K + 2) fun k hk => ?_
   obtain ⟨k, rfl⟩ : ∃ j, k = j + 2 := ⟨k - 2, by omega⟩
   rw [hstep]
   exact hK k (by omega)
  cases hok : okI it with
  | false => rw [hok, if_neg (by decide)] at h; exact absurd h (by simp)
  | true =>
   rw [hok, if_pos rfl] at h
   have hkd := okI_kind hok
   have fl : ∀ p : List S52, n + (p.length : Int) = ((p :: ps).flatten.length : Int) := fun p => by rw [List.flatten_cons, List.length_append, hn]; omega
   have fr : ∀ p : List S52, (p :: ps).flatten.reverse = ps.flatten.reverse ++ p.reverse := fun p => by rw [List.flatten_cons, List.reverse_append]
   have mr : ∀ p : List S52, ∀ q ∈ marks, 0 ≤ q.2 ∧ q.2 ≤ n + (p.length : Int) := fun p q hq => by have := hmr q hq; omega
   by_cases h4 : it.f0 = 4
   ·rw [if_pos h4] at h
    ·obtain ⟨out, o1, o2, o3⟩ := ih _ _ _ _ _ (by omega) (by simp only [List.length_cons]; omega) (by simpa using hn) (fun p hp => by
      rcases List.mem_cons.1 hp with rfl | hp
      ·exact ⟨by omega, Int.le_refl _⟩
      ·exact hmr p hp) h
     refine ⟨out, hj out ?_, o2, o3⟩
     simp only [Zbc.j1, hite, if_true, if_pos c1, if_pos c2, w, if_pos h4]
     refine Ev.congr (fun k => ?_) o1
     rw [if_pos (by rw [mk88_length]; omega), mk88_cons, hlo]
     rfl
   ·rw [if_neg h4] at h
    by_cases hz : it.f0 = 0
    ·rw [if_pos hz] at h
     obtain ⟨out, o1, o2, o3⟩ := ih _ _ _ _ _ (by omega) (by omega) (fl _) (mr _) h
     refine ⟨out, hj out ?_, o2, o3⟩
     simp only [Zbc.j1, hite, if_true, if_pos c1, if_pos c2, w, if_neg h4, if_pos hz]
     refine Ev.congr (fun k => ?_) o1
     have em : madeN it 0 = [it.f1] := by unfold madeN; rw [if_pos hz]
     rw [if_pos hlo2, fr, em]
     rfl
    ·rw [if_neg hz] at h
     cases hk : lkp marks it.f2 with
     | none => rw [hk] at h; exact absurd h (by simp)
     | some a =>
      rw [hk] at h
      rw [hk] at hfe
      have hfe2 : Ev (fun k => Zcc.f k (mk88 id marks) it.f2) a := hfe
      obtain ⟨p, hp, ea⟩ := lkp_mem hk
      have ha := hmr p hp
      have wd : wrap64 (n - a) = n - a := Zae (by omega) (by omega)
      obtain ⟨out, o1, o2, o3⟩ := ih _ _ _ _ _ (by omega) (by omega) (fl _) (mr _) h
      refine ⟨out, hj out ?_, o2, o3⟩
      simp only [Zbc.j1, hite, if_true, if_pos c1, if_pos c2, w, if_neg h4, if_neg hz, hlo]
      refine ev_bindl hfe2 ?_
      refine Ev.congr (fun k => ?_) o1
      have hlo3 : ∀ x : S52, (ps.flatten.reverse ++ [x]).length < 17592186044416 := fun x => by rw [List.length_append, List.length_singleton]; omega
      rw [wd, fr]
      by_cases h3 : it.f0 = 3
      ·have em : madeN it (n - a) = [⟨5, 0, 0, (n - a) % 4294967296⟩] := by unfold madeN; rw [if_neg hz, if_pos h3]
       rw [if_pos h3, if_pos hlo2, em]
       rfl
      ·rw [if_neg h3]
       by_cases hd : n - a ≤ 255
       ·rw [if_pos hd]
        by_cases h1 : it.f0 = 1
        ·have em : madeN it (n - a) = [⟨it.f1.f0, (n - a) % 256, 0, it.f1.f3⟩] := by unfold madeN; rw [if_neg hz, if_neg h3, if_pos hd, if_pos h1]
         rw [if_pos h1, if_pos hlo2, em]
         rfl
        ·have em : madeN it (n - a) = [⟨it.f1.f0, 0, (n - a) % 256, it.f1.f3⟩] := by unfold madeN; rw [if_neg hz, if_neg h3, if_pos hd, if_neg h1]
         rw [if_neg h1, if_pos hlo2, em]
         rfl
       ·rw [if_neg hd, if_pos hlo2, Option.bind_some]
        by_cases h1 : it.f0 = 1
        ·have em : madeN it (n - a) = [⟨it.f1.f0, 0, 1, it.f1.f3⟩, ⟨5, 0, 0, (n - a) % 4294967296⟩] := by unfold madeN; rw [if_neg hz, if_neg h3, if_neg hd, if_pos h1]
         rw [if_pos h1, if_pos (hlo3 _), em, List.append_assoc]
         rfl
        ·have em : madeN it (n - a) = [⟨it.f1.f0, 1, 0, it.f1.f3⟩, ⟨5, 0, 0, (n - a) % 4294967296⟩] := by unfold madeN; rw [if_neg hz, if_neg h3, if_neg hd, if_neg h1]
         rw [if_neg h1, if_pos (hlo3 _), em, List.append_assoc]
         rfl
theorem lay_copy (out : List S52) (hl : out.length ≤ 100000) : Ev (fun k => Zbq.l0 k out [] ((out.length : Int) - 1)) (out.reverse, 0) := by
 have key : ∀ j : Nat, j ≤ out.length → ∀ acc : List S52, acc.length + j ≤ 100000 → Ev (fun k => Zbq.l0 k out acc ((j : Int) - 1)) (acc ++ (out.take j).reverse, 0) := by
  intro j
  induction j with
  | zero => intro _ acc _; exact ev_end fun k => by simp only [Zbq.l0]; rw [if_neg (by omega)]; simp
  | succ j ih =>
   intro hj acc hacc
   have hlt : j < out.length := by omega
   have e1 : ((j + 1 : Nat) : Int) - 1 = (j : Int) := by omega
   rw [e1]
   have := ih (by omega) (acc ++ [out[j]]) (by rw [List.length_append, List.length_singleton]; omega)
   rw [List.take_succ_eq_append_getElem hlt, List.reverse_append, List.reverse_singleton, ← List.append_assoc]
   refine Zbe _ (fun k => ?_) this
   simp only [Zbq.l0]
   rw [if_pos (by omega), if_pos (by omega), if_pos (by omega), if_pos (by omega), rdIns_eq out j hlt, Zae (by omega) (by omega)]
 have h := key out.length (Nat.le_refl _) [] (by simpa using hl)
 rw [List.take_length] at h
 exact h
structure PIt where
 kd : Int
 c : Int
 x : Int
 t : Int × Int
def PIt.one (p : PIt) : S69 := ⟨p.kd, ⟨p.c, 0, 0, p.x⟩, p.t.1⟩
def PIt.two (p : PIt) : S69 := ⟨p.kd, ⟨p.c, 0, 0, p.x⟩, p.t.2⟩
def gIns (c x : Int) : PIt := ⟨0, c, x, (0, 0)⟩
def gBr (kd c x : Int) (t : Int × Int) : PIt := ⟨kd, c, x, t⟩
def Zal (t : Int × Int) : PIt := ⟨4, 0, 0, t⟩
def gLoad (n : Int) : PIt := gIns 32 (n % 4294967296)
def hi32 (x : Int) : Int := x / 4294967296 % 4294967296
def lo32 (x : Int) : Int := x % 4294967296
def gHalf (at_ m b : Int) (far : Int × Int) : List PIt := if m = 0 then [] else gLoad at_ :: ((if m = 4294967295 then [] else [gIns 84 m]) ++ [gBr 2 21 b far])
def gMask (m b low : Int) (far : Int × Int) : List PIt := gHalf (low + 4) (hi32 m) (hi32 b) far ++ gHalf low (lo32 m) (lo32 b) far
def gLow (a low : Int) (far p : Int × Int) : List PIt := [gLoad (low + 4), gBr 1 37 (hi32 a) p, gBr 2 21 (hi32 a) far, gLoad low, gBr 2 53 (lo32 a) far, Zal p]
def gHigh (b low : Int) (far p : Int × Int) : List PIt := [gLoad (low + 4), gBr 1 37 (hi32 b) far, gBr 2 21 (hi32 b) p, gLoad low, gBr 1 37 (lo32 b) far, Zal p]
def gBet1 (a lab : Int) : Int := if a = 0 then lab else lab + 1
def gBetL (a b lab : Int) : Int := if b = 18446744073709551615 then gBet1 a lab else gBet1 a lab + 1
def gBet (a b low : Int) (far : Int × Int) (lab free : Int) : List PIt := (if a = 0 then [] else gLow a low far (lab + 1, free)) ++ (if b = 18446744073709551615 then [] else gHigh b low far (gBet1 a lab + 1, free + 1))
def gCon (c : S95) (k : Int) (far : Int × Int) (lab free : Int) : List PIt × Int := if c.f0 = 1 then (gMask c.f1 c.f2 (16 + 8 * k) far, lab) else if c.f0 = 2 then (gBet c.f1 c.f2 (16 + 8 * k) far lab free, gBetL c.f1 c.f2 lab) else ([], lab)
def gCons (far : Int × Int) (base : Int) : List S95 → Int → Int → List PIt × Int
 | [], _, lab => ([], lab)
 | c :: cs, k, lab => ((gCon c k far lab (base + 1 + 2 * k)).1 ++ (gCons far base cs (k + 1) (gCon c k far lab (base + 1 + 2 * k)).2).1, (gCons far base cs (k + 1) (gCon c k far lab (base + 1 + 2 * k)).2).2)
def gBody : List S65 → Int → Int → List PIt × Int
 | [], lab, _ => ([], lab)
 | [r], lab, free => ((gCons (0, 0) free r.f0 0 lab).1 ++ [gIns 6 2147418112], (gCons (0, 0) free r.f0 0 lab).2)
 | r :: r2 :: rs, lab, free => ((gCons (lab + 1, free) free r.f0 0 (lab + 1)).1 ++ ([gIns 6 2147418112, Zal (lab + 1, free)] ++ (gBody (r2 :: rs) (gCons (lab + 1, free) free r.f0 0 (lab + 1)).2 (free + 13)).1), (gBody (r2 :: rs) (gCons (lab + 1, free) free r.f0 0 (lab + 1)).2 (free + 13)).2)
def Zad : List S61 → Nat
 | [] => 0
 | e :: l => 1 + 13 * e.f2.length + Zad l
def gTree : Nat → List S61 → Int → Int → List PIt × Int
 | 0, _, lab, _ => ([], lab)
 | n + 1, l, lab, free => if l.length = 1 then (gBr 2 21 (Zi l 0).f1 (0, 0) :: (gBody (Zi l 0).f2 lab free).1, (gBody (Zi l 0).f2 lab free).2)
  else (gBr 1 53 (Zi l ((l.length / 2 : Nat) : Int)).f1 (lab + 1, free) :: ((gTree n (l.take (l.length / 2)) (lab + 1) (free + 1)).1 ++ (Zal (lab + 1, free) :: (gTree n (l.drop (l.length / 2)) (gTree n (l.take (l.length / 2)) (lab + 1) (free + 1)).2 (free + 1 + (Zad (l.take (l.length / 2)) : Int))).1)), (gTree n (l.drop (l.length / 2)) (gTree n (l.take (l.length / 2)) (lab + 1) (free + 1)).2 (free + 1 + (Zad (l.take (l.length / 2)) : Int))).2)
def gPol : Nat → List S61 → Int → Int → List PIt × Int
 | 0, _, lab, _ => ([], lab)
 | n + 1, l, lab, free => if l.length = 0 then ([], lab) else
  ([gBr 2 21 (Zi l 0).f0 (lab + 1, free), gLoad 0] ++ ((gTree (runN l) (l.take (runN l)) (lab + 1) (free + 1)).1 ++ (Zal (lab + 1, free) :: (gPol n (l.drop (runN l)) (gTree (runN l) (l.take (runN l)) (lab + 1) (free + 1)).2 (free + 1 + (Zad (l.take (runN l)) : Int))).1)), (gPol n (l.drop (runN l)) (gTree (runN l) (l.take (runN l)) (lab + 1) (free + 1)).2 (free + 1 + (Zad (l.take (runN l)) : Int))).2)
theorem gBet1_r (a lab : Int) : lab ≤ gBet1 a lab ∧ gBet1 a lab ≤ lab + 1 := by unfold gBet1; split <;> omega
theorem gBetL_r (a b lab : Int) : lab ≤ gBetL a b lab ∧ gBetL a b lab ≤ lab + 2 := by
 have := gBet1_r a lab
 unfold gBetL
 split <;> omega
theorem gCon_r (c : S95) (k : Int) (far : Int × Int) (lab free : Int) : lab ≤ (gCon c k far lab free).2 ∧ (gCon c k far lab free).2 ≤ lab + 2 := by
 unfold gCon
 split
 ·exact ⟨Int.le_refl _, by dsimp only; omega⟩
 ·split
  ·exact gBetL_r _ _ _
  ·exact ⟨Int.le_refl _, by dsimp only; omega⟩
theorem gCons_r (far : Int × Int) (base : Int) : ∀ (cs : List S95) (k lab : Int), lab ≤ (gCons far base cs k lab).2 ∧ (gCons far base cs k lab).2 ≤ lab + 2 * (cs.length : Int)
 | [], _, lab => ⟨Int.le_refl _, by simp [gCons]⟩
 | c :: cs, k, lab => by
  have h1 := gCon_r c k far lab (base + 1 + 2 * k)
  have h2 := gCons_r far base cs (k + 1) (gCon c k far lab (base + 1 + 2 * k)).2
  rw [gCons]
  simp only [List.length_cons]
  omega
def six (l : List S65) : Prop := ∀ r ∈ l, r.f0.length = 6
theorem six_tail {r : S65} {l : List S65} (h : six (r :: l)) : six l := fun x hx => h x (List.mem_cons_of_mem _ hx)
theorem gBody_r : ∀ (l : List S65) (lab free : Int), six l → lab ≤ (gBody l lab free).2 ∧ (gBody l lab free).2 ≤ lab + 13 * (l.length : Int)
 | [], lab, _, _ => ⟨Int.le_refl _, by simp [gBody]⟩
 | [r], lab, free, h => by
  have h1 := gCons_r (0, 0) free r.f0 0 lab
  rw [h r (by simp)] at h1
  rw [gBody]
  simp only [List.length_cons, List.length_nil]
  omega
 | r :: r2 :: rs, lab, free, h => by
  have h1 := gCons_r (lab + 1, free) free r.f0 0 (lab + 1)
  rw [h r (by simp)] at h1
  have h2 := gBody_r (r2 :: rs) (gCons (lab + 1, free) free r.f0 0 (lab + 1)).2 (free + 13) (six_tail h)
  rw [gBody]
  simp only [List.length_cons] at h2 ⊢
  omega
def sixE (l : List S61) : Prop := ∀ e ∈ l, six e.f2
theorem sixE_take {l : List S61} (h : sixE l) (n : Nat) : sixE (l.take n) := fun e he => h e (List.mem_of_mem_take he)
theorem sixE_drop {l : List S61} (h : sixE l) (n : Nat) : sixE (l.drop n) := fun e he => h e (List.mem_of_mem_drop he)
theorem needN_append : ∀ (a b : List S61), Zad (a ++ b) = Zad a + Zad b
 | [], b => by simp [Zad]
 | e :: a, b => by rw [List.cons_append, Zad, Zad, needN_append a b]; omega
theorem needN_cut (l : List S61) (n : Nat) : Zad l = Zad (l.take n) + Zad (l.drop n) := by
 have := needN_append (l.take n) (l.drop n)
 rwa [List.take_append_drop] at this
theorem needN_len : ∀ l : List S61, l.length ≤ Zad l
 | [] => Nat.le_refl _
 | e :: l => by rw [Zad, List.length_cons]; have := needN_len l; omega
theorem rdE0 (l : List S61) (h : l.length = 1) : ∃ e, l = [e] ∧ Zi l 0 = e := by
 match l, h with
 | [e], _ => exact ⟨e, rfl, rfl⟩
theorem gTree_r : ∀ (n : Nat) (l : List S61) (lab free : Int), sixE l → 0 < l.length → l.length ≤ n → lab ≤ (gTree n l lab free).2 ∧ (gTree n l lab free).2 + 1 ≤ lab + (Zad l : Int)
 | 0, l, lab, free, h, h0, hn => by omega
 | n + 1, l, lab, free, h, h0, hn => by
  rw [gTree]
  by_cases h1 : l.length = 1
  ·obtain ⟨e, rfl, he⟩ := rdE0 l h1
   rw [if_pos h1, he]
   have h2 := gBody_r e.f2 lab free (h e (by simp))
   simp only [Zad]
   omega
  ·rw [if_neg h1]
   have hl1 : (l.take (l.length / 2)).length = l.length / 2 := by rw [List.length_take]; omega
   have hl2 : (l.drop (l.length / 2)).length = l.length - l.length / 2 := List.length_drop
   have ha := gTree_r n (l.take (l.length / 2)) (lab + 1) (free + 1) (sixE_take h _) (by omega) (by omega)
   have hb := gTree_r n (l.drop (l.length / 2)) (gTree n (l.take (l.length / 2)) (lab + 1) (free + 1)).2 (free + 1 + (Zad (l.take (l.length / 2)) : Int)) (sixE_drop h _) (by omega) (by omega)
   have hc := needN_cut l (l.length / 2)
   dsimp only
   omega
theorem runN_r (l : List S61) (h : 0 < l.length) : 1 ≤ runN l ∧ runN l ≤ l.length := ⟨scanN_ge _ _ _ _, scanN_le _ _ _ _ (by omega)⟩
theorem gPol_r : ∀ (n : Nat) (l : List S61) (lab free : Int), sixE l → lab ≤ (gPol n l lab free).2 ∧ (gPol n l lab free).2 ≤ lab + (Zad l : Int)
 | 0, l, lab, free, h => ⟨Int.le_refl _, by simp only [gPol]; omega⟩
 | n + 1, l, lab, free, h => by
  rw [gPol]
  by_cases h1 : l.length = 0
  ·rw [if_pos h1]
   exact ⟨Int.le_refl _, by dsimp only; omega⟩
  ·rw [if_neg h1]
   obtain ⟨r1, r2⟩ := runN_r l (by omega)
   have hl1 : (l.take (runN l)).length = runN l := by rw [List.length_take]; omega
   have ha := gTree_r (runN l) (l.take (runN l)) (lab + 1) (free + 1) (sixE_take h _) (by omega) (by omega)
   have hb := gPol_r n (l.drop (runN l)) (gTree (runN l) (l.take (runN l)) (lab + 1) (free + 1)).2 (free + 1 + (Zad (l.take (runN l)) : Int)) (sixE_drop h _)
   have hc := needN_cut l (runN l)
   dsimp only
   omega
def ones (l : List PIt) : List S69 := l.map PIt.one
theorem ones_append (a b : List PIt) : ones (a ++ b) = ones a ++ ones b := List.map_append
theorem ones_cons (a : PIt) (b : List PIt) : ones (a :: b) = a.one :: ones b := rfl
theorem half_one (at_ m b : Int) (far : Int × Int) : wHalf at_ m b far.1 = ones (gHalf at_ m b far) := by
 unfold wHalf gHalf
 by_cases h : m = 0
 ·rw [if_pos h, if_pos h]; rfl
 ·rw [if_neg h, if_neg h]
  by_cases h2 : m = 4294967295
  ·rw [if_pos h2, if_pos h2]; rfl
  ·rw [if_neg h2, if_neg h2]; rfl
def lowP (low : Int) : Prop := 0 ≤ low ∧ low < 1000000000000
theorem mask_one (m b low : Int) (far : Int × Int) (hl : lowP low) : wMask m b low far.1 = ones (gMask m b low far) := by
 unfold lowP at hl
 unfold wMask wMaskTo gMask
 rw [if_pos (by decide), if_pos (by decide), ones_append, Zae (by omega) (by omega), half_one, half_one]
 rfl
theorem bet_one (a b low : Int) (far : Int × Int) (lab free : Int) (hl : lowP low) (h0 : 0 ≤ lab) (h1 : lab < 1000000000000) : wBet a b low far.1 lab = ones (gBet a b low far lab free) ∧ wBetL a b lab = gBetL a b lab := by
 unfold lowP at hl
 have e1 : wrap64 (lab + 1) = lab + 1 := Zae (by omega) (by omega)
 have e2 : wrap64 (lab + 1 + 1) = lab + 1 + 1 := Zae (by omega) (by omega)
 have el : wrap64 (low + 4) = low + 4 := Zae (by omega) (by omega)
 unfold wBet gBet wBetL gBetL gBet1
 rw [ones_append]
 by_cases ha : a = 0 <;> by_cases hb : b = 18446744073709551615
 all_goals simp only [ha, hb, if_true, if_false, e1, e2, wLow, wHigh, gLow, gHigh, el]
 all_goals first | exact ⟨rfl, trivial⟩ | exact ⟨rfl, rfl⟩ | rfl
theorem con_one (c : S95) (k : Int) (far : Int × Int) (lab free : Int) (hk : 0 ≤ k ∧ k < 1000000) (h0 : 0 ≤ lab) (h1 : lab < 1000000000000) : wCon c k far.1 lab = (ones (gCon c k far lab free).1, (gCon c k far lab free).2) := by
 unfold wCon gCon
 have hl : lowP (16 + 8 * k) := by unfold lowP; omega
 by_cases c1 : c.f0 = 1
 ·rw [if_pos c1, if_pos c1]
  show (_, _) = (_, _)
  rw [show wLowOf k = 16 + 8 * k from rfl, mask_one _ _ _ _ hl]
 ·rw [if_neg c1, if_neg c1]
  by_cases c2 : c.f0 = 2
  ·rw [if_pos c2, if_pos c2]
   obtain ⟨e1, e2⟩ := bet_one c.f1 c.f2 (16 + 8 * k) far lab free hl h0 h1
   rw [show wLowOf k = 16 + 8 * k from rfl, e1, e2]
  ·rw [if_neg c2, if_neg c2]; rfl
theorem cons_one (far : Int × Int) (base : Int) : ∀ (cs : List S95) (k lab : Int), 0 ≤ k → k + (cs.length : Int) < 1000000 → 0 ≤ lab → lab + 2 * (cs.length : Int) < 1000000000000 → wCons far.1 cs k lab = (ones (gCons far base cs k lab).1, (gCons far base cs k lab).2)
 | [], _, _, _, _, _, _ => rfl
 | c :: cs, k, lab, hk, hk2, h0, h1 => by
  simp only [List.length_cons] at hk2 h1
  have hr := gCon_r c k far lab (base + 1 + 2 * k)
  have hc := con_one c k far lab (base + 1 + 2 * k) ⟨hk, by omega⟩ h0 (by omega)
  have ih := cons_one far base cs (k + 1) (gCon c k far lab (base + 1 + 2 * k)).2 (by omega) (by omega) (by omega) (by omega)
  rw [wCons, gCons, hc]
  dsimp only
  rw [ih, ones_append]
theorem body_one : ∀ (l : List S65) (lab free : Int), six l → 0 ≤ lab → lab + 13 * (l.length : Int) < 100000000000 → wBody l lab = (ones (gBody l lab free).1, (gBody l lab free).2)
 | [], _, _, _, _, _ => rfl
 | [r], lab, free, h, h0, h1 => by
  have h6 := h r (by simp)
  simp only [List.length_cons, List.length_nil] at h1
  have hc := cons_one (0, 0) free r.f0 0 lab (by omega) (by omega) h0 (by omega)
  rw [wBody, gBody, hc]
  dsimp only
  rw [ones_append]
  rfl
 | r :: r2 :: rs, lab, free, h, h0, h1 => by
  have h6 := h r (by simp)
  simp only [List.length_cons] at h1
  have e1 : wrap64 (lab + 1) = lab + 1 := Zae (by omega) (by omega)
  have hr := gCons_r (lab + 1, free) free r.f0 0 (lab + 1)
  rw [h6] at hr
  have hc := cons_one (lab + 1, free) free r.f0 0 (lab + 1) (by omega) (by omega) (by omega) (by omega)
  have ih := body_one (r2 :: rs) (gCons (lab + 1, free) free r.f0 0 (lab + 1)).2 (free + 13) (six_tail h) (by omega) (by simp only [List.length_cons]; omega)
  rw [wBody, gBody, e1, hc]
  dsimp only
  rw [ih, ones_append, ones_append]
  rfl
theorem need_rd0 (l : List S61) (h : l.length = 1) : ((Zi l 0).f2.length : Nat) * 13 ≤ Zad l := by
 obtain ⟨e, rfl, he⟩ := rdE0 l h
 rw [he]
 simp only [Zad]
 omega
theorem tree_one : ∀ (n : Nat) (l : List S61) (lab free : Int), sixE l → 0 < l.length → l.length ≤ n → 0 ≤ lab → lab + (Zad l : Int) < 10000000000 → wTree n l lab = (ones (gTree n l lab free).1, (gTree n l lab free).2)
 | 0, l, lab, free, h, hl, hn, h0, h1 => by omega
 | n + 1, l, lab, free, h, hl, hn, h0, h1 => by
  rw [wTree, gTree]
  by_cases c1 : l.length = 1
  ·have hnd := need_rd0 l c1
   obtain ⟨e, rfl, he⟩ := rdE0 l c1
   rw [he] at hnd ⊢
   rw [if_pos c1, if_pos c1]
   have hb := body_one e.f2 lab free (h e (by simp)) h0 (by omega)
   rw [hb]
   rfl
  ·rw [if_neg c1, if_neg c1]
   have hl1 : (l.take (l.length / 2)).length = l.length / 2 := by rw [List.length_take]; omega
   have hl2 : (l.drop (l.length / 2)).length = l.length - l.length / 2 := List.length_drop
   have hc := needN_cut l (l.length / 2)
   have e1 : wrap64 (lab + 1) = lab + 1 := Zae (by omega) (by omega)
   have hln := needN_len (l.drop (l.length / 2))
   have hr := gTree_r n (l.take (l.length / 2)) (lab + 1) (free + 1) (sixE_take h _) (by omega) (by omega)
   have ha := tree_one n (l.take (l.length / 2)) (lab + 1) (free + 1) (sixE_take h _) (by omega) (by omega) (by omega) (by omega)
   have hb := tree_one n (l.drop (l.length / 2)) (gTree n (l.take (l.length / 2)) (lab + 1) (free + 1)).2 (free + 1 + (Zad (l.take (l.length / 2)) : Int)) (sixE_drop h _) (by omega) (by omega) (by omega) (by omega)
   rw [e1, ha]
   dsimp only
   rw [hb, ones_cons, ones_append, ones_cons]
   rfl
theorem pol_one : ∀ (n : Nat) (l : List S61) (lab free : Int), sixE l → 0 ≤ lab → lab + (Zad l : Int) < 1000000000 → wPol n l lab = (ones (gPol n l lab free).1, (gPol n l lab free).2)
 | 0, l, lab, free, h, h0, h1 => rfl
 | n + 1, l, lab, free, h, h0, h1 => by
  rw [wPol, gPol]
  by_cases c1 : l.length = 0
  ·rw [if_pos c1, if_pos c1]; rfl
  ·rw [if_neg c1, if_neg c1]
   obtain ⟨r1, r2⟩ := runN_r l (by omega)
   have hl1 : (l.take (runN l)).length = runN l := by rw [List.length_take]; omega
   have hc := needN_cut l (runN l)
   have e1 : wrap64 (lab + 1) = lab + 1 := Zae (by omega) (by omega)
   have hln := needN_len (l.take (runN l))
   have hr := gTree_r (runN l) (l.take (runN l)) (lab + 1) (free + 1) (sixE_take h _) (by omega) (by omega)
   have ha := tree_one (runN l) (l.take (runN l)) (lab + 1) (free + 1) (sixE_take h _) (by omega) (by omega) (by omega) (by omega)
   have hb := pol_one n (l.drop (runN l)) (gTree (runN l) (l.take (runN l)) (lab + 1) (free + 1)).2 (free + 1 + (Zad (l.take (runN l)) : Int)) (sixE_drop h _) (by omega) (by omega)
   rw [e1, ha]
   dsimp only
   rw [hb, ones_append, ones_append, ones_cons]
   rfl
def gItems (l : List S61) : List PIt := gLoad 4 :: ((gPol l.length l 0 1).1 ++ [Zal (0, 0), gIns 6 2147483648])
theorem items_one (l : List S61) (h : sixE l) (hl : l.length ≠ 0) (hn : Zad l < 1000000) : wPolicy l 0 = ones (gItems l) := by
 unfold wPolicy gItems
 rw [if_neg hl, pol_one l.length l 0 1 h (by omega) (by omega), ones_cons, ones_append]
 rfl
end Go.Proofs.Ytgmbahldjiiajaa.P
