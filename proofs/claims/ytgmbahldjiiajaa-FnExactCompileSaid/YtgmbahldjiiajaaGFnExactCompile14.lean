import Derived.Test.YtgmbahldjiiajaaGFnExactCompile4
import Derived.Test.YtgmbahldjiiajaaGFnExactCompile8
namespace Go.Proofs.Ytgmbahldjiiajaa.P
open Go.RowKit Go.Proofs.YtgmbahldjiiajaaW.PrintWords Go.Proofs.YtgmbahldjiiajaaW.PrintLast Go.Proofs.YtgmbahldjiiajaaW.PrintMore
attribute [local go_sem] max2_int min2_int max_two min_two max_three min_three max_four min_four
set_option linter.unusedVariables false
set_option linter.unusedSimpArgs false

def spec_l3conOK.f (a0_0 : Int) (a0_1 : Int) (a0_2 : Int) : Option (Bool) := if a0_0 = 0 then (if a0_1 = 0 then (some (a0_2 == 0)) else (some false)) else (if a0_0 = 1 then (some ((Go.bits .or .u64 a0_1 a0_2) == a0_1)) else (if a0_0 = 2 then (some (decide (a0_1 ≤ a0_2))) else (some false)))
set_option maxHeartbeats 8000000 in
set_option maxRecDepth 100000 in
theorem spec_l3conOK.calls (a0_0 : Int) (a0_1 : Int) (a0_2 : Int) (r : Bool) (w : World) (h : spec_l3conOK.f a0_0 a0_1 a0_2 = some r) :
  Calls Try.prog 51 #[.agg #[.int .i64 a0_0, .int .u64 a0_1, .int .u64 a0_2]] w fun e w' => e = .returned (.bool r) ∧ Below w.heap.size w w' := by
 have hu95 := Try.underlying95
 have HB := Za.mk (Below.refl w.heap.size w)
 have H := h
 unfold spec_l3conOK.f at H
 clear h
 by_cases c2 : a0_0 = 0
 ·rw [if_pos c2] at H
  have c2b0 : (a0_0 == 0) = true := beq_iff_eq.mpr c2
  have c2b1 : (a0_0 != 0) = false := bne_eq_false_iff_eq.mpr c2
  clear c2
  by_cases c3 : a0_1 = 0
  ·rw [if_pos c3] at H
   have c3b0 : (a0_1 == 0) = true := beq_iff_eq.mpr c3
   have c3b1 : (a0_1 != 0) = false := bne_eq_false_iff_eq.mpr c3
   clear c3
   obtain rfl := Option.some.inj H
   go_enter Try.func51, Try.ntmps51
   go_wp2_with (first | ((with_reducible refine Zab (N := 1) rfl ?_); refine Zac ?hg (N := 1) ?hd (cs := #[.int .i64 a0_0, .int .u64 a0_1, .int .u64 a0_2]) (t := 95) ?hr ?_; (case hd => rfl); (case hg => rfl); (case hr => go_simp <;> rfl); intro gb111 hg w4 hbox hb; have BK111 := Za.mk (hbox); have GW111 := Za.mk ((by rw [hg]; exact (Zl (by with_reducible repeat first | exact HB.out | apply Zc | apply Ze | apply Zd)) : w.heap.size ≤ gb111)); have GE111 := Za.mk ((by rw [hg]; exact (Zl (by with_reducible repeat first | exact HB.out | apply Zc | apply Ze | apply Zd)) : w.heap.size ≤ gb111)); replace HB := Za.mk (Zo (by with_reducible repeat first | exact HB.out | apply Zc | apply Ze | apply Zd) hb); clear hb hbox hg; have hcz5_0 : w4.cell? ⟨gb111, 0, none⟩ = some (.int .i64 a0_0) := (Zb BK111.out 0).trans rfl; have hcz5_1 : w4.cell? ⟨gb111, 1, none⟩ = some (.int .u64 a0_1) := (Zb BK111.out 1).trans rfl; have hcz5_2 : w4.cell? ⟨gb111, 2, none⟩ = some (.int .u64 a0_2) := (Zb BK111.out 2).trans rfl; have hfz5_0 := Zj BK111.out 0; have hfz5_1 := Zj BK111.out 1; have hfz5_2 := Zj BK111.out 2))
   go_ret
   exact ⟨by first | rfl | (simp [Zm, Zn] <;> rfl) | (simp [*, Zm, Zn] <;> rfl), by with_reducible repeat first | exact HB.out | apply Zc | apply Ze | apply Zd | refine Zk ?_ GE111.out⟩
  rw [if_neg c3] at H
  have c3b0 : (a0_1 == 0) = false := beq_eq_false_iff_ne.mpr c3
  have c3b1 : (a0_1 != 0) = true := bne_iff_ne.mpr c3
  obtain rfl := Option.some.inj H
  go_enter Try.func51, Try.ntmps51
  go_wp2_with (first | ((with_reducible refine Zab (N := 1) rfl ?_); refine Zac ?hg (N := 1) ?hd (cs := #[.int .i64 a0_0, .int .u64 a0_1, .int .u64 a0_2]) (t := 95) ?hr ?_; (case hd => rfl); (case hg => rfl); (case hr => go_simp <;> rfl); intro gb111 hg w6 hbox hb; have BK111 := Za.mk (hbox); have GW111 := Za.mk ((by rw [hg]; exact (Zl (by with_reducible repeat first | exact HB.out | apply Zc | apply Ze | apply Zd)) : w.heap.size ≤ gb111)); have GE111 := Za.mk ((by rw [hg]; exact (Zl (by with_reducible repeat first | exact HB.out | apply Zc | apply Ze | apply Zd)) : w.heap.size ≤ gb111)); replace HB := Za.mk (Zo (by with_reducible repeat first | exact HB.out | apply Zc | apply Ze | apply Zd) hb); clear hb hbox hg; have hcz7_0 : w6.cell? ⟨gb111, 0, none⟩ = some (.int .i64 a0_0) := (Zb BK111.out 0).trans rfl; have hcz7_1 : w6.cell? ⟨gb111, 1, none⟩ = some (.int .u64 a0_1) := (Zb BK111.out 1).trans rfl; have hcz7_2 : w6.cell? ⟨gb111, 2, none⟩ = some (.int .u64 a0_2) := (Zb BK111.out 2).trans rfl; have hfz7_0 := Zj BK111.out 0; have hfz7_1 := Zj BK111.out 1; have hfz7_2 := Zj BK111.out 2))
  go_ret
  exact ⟨by first | rfl | (simp [Zm, Zn] <;> rfl) | (simp [*, Zm, Zn] <;> rfl), by with_reducible repeat first | exact HB.out | apply Zc | apply Ze | apply Zd | refine Zk ?_ GE111.out⟩
 rw [if_neg c2] at H
 have c2b0 : (a0_0 == 0) = false := beq_eq_false_iff_ne.mpr c2
 have c2b1 : (a0_0 != 0) = true := bne_iff_ne.mpr c2
 by_cases c8 : a0_0 = 1
 ·rw [if_pos c8] at H
  have c8b0 : (a0_0 == 1) = true := beq_iff_eq.mpr c8
  have c8b1 : (a0_0 != 1) = false := bne_eq_false_iff_eq.mpr c8
  clear c8
  obtain rfl := Option.some.inj H
  go_enter Try.func51, Try.ntmps51
  go_wp2_with (first | ((with_reducible refine Zab (N := 1) rfl ?_); refine Zac ?hg (N := 1) ?hd (cs := #[.int .i64 a0_0, .int .u64 a0_1, .int .u64 a0_2]) (t := 95) ?hr ?_; (case hd => rfl); (case hg => rfl); (case hr => go_simp <;> rfl); intro gb111 hg w9 hbox hb; have BK111 := Za.mk (hbox); have GW111 := Za.mk ((by rw [hg]; exact (Zl (by with_reducible repeat first | exact HB.out | apply Zc | apply Ze | apply Zd)) : w.heap.size ≤ gb111)); have GE111 := Za.mk ((by rw [hg]; exact (Zl (by with_reducible repeat first | exact HB.out | apply Zc | apply Ze | apply Zd)) : w.heap.size ≤ gb111)); replace HB := Za.mk (Zo (by with_reducible repeat first | exact HB.out | apply Zc | apply Ze | apply Zd) hb); clear hb hbox hg; have hcz10_0 : w9.cell? ⟨gb111, 0, none⟩ = some (.int .i64 a0_0) := (Zb BK111.out 0).trans rfl; have hcz10_1 : w9.cell? ⟨gb111, 1, none⟩ = some (.int .u64 a0_1) := (Zb BK111.out 1).trans rfl; have hcz10_2 : w9.cell? ⟨gb111, 2, none⟩ = some (.int .u64 a0_2) := (Zb BK111.out 2).trans rfl; have hfz10_0 := Zj BK111.out 0; have hfz10_1 := Zj BK111.out 1; have hfz10_2 := Zj BK111.out 2))
  go_ret
  exact ⟨by first | rfl | (simp [Zm, Zn] <;> rfl) | (simp [*, Zm, Zn] <;> rfl), by with_reducible repeat first | exact HB.out | apply Zc | apply Ze | apply Zd | refine Zk ?_ GE111.out⟩
 rw [if_neg c8] at H
 have c8b0 : (a0_0 == 1) = false := beq_eq_false_iff_ne.mpr c8
 have c8b1 : (a0_0 != 1) = true := bne_iff_ne.mpr c8
 by_cases c11 : a0_0 = 2
 ·rw [if_pos c11] at H
  have c11b0 : (a0_0 == 2) = true := beq_iff_eq.mpr c11
  have c11b1 : (a0_0 != 2) = false := bne_eq_false_iff_eq.mpr c11
  clear c11
  obtain rfl := Option.some.inj H
  go_enter Try.func51, Try.ntmps51
  go_wp2_with (first | ((with_reducible refine Zab (N := 1) rfl ?_); refine Zac ?hg (N := 1) ?hd (cs := #[.int .i64 a0_0, .int .u64 a0_1, .int .u64 a0_2]) (t := 95) ?hr ?_; (case hd => rfl); (case hg => rfl); (case hr => go_simp <;> rfl); intro gb111 hg w12 hbox hb; have BK111 := Za.mk (hbox); have GW111 := Za.mk ((by rw [hg]; exact (Zl (by with_reducible repeat first | exact HB.out | apply Zc | apply Ze | apply Zd)) : w.heap.size ≤ gb111)); have GE111 := Za.mk ((by rw [hg]; exact (Zl (by with_reducible repeat first | exact HB.out | apply Zc | apply Ze | apply Zd)) : w.heap.size ≤ gb111)); replace HB := Za.mk (Zo (by with_reducible repeat first | exact HB.out | apply Zc | apply Ze | apply Zd) hb); clear hb hbox hg; have hcz13_0 : w12.cell? ⟨gb111, 0, none⟩ = some (.int .i64 a0_0) := (Zb BK111.out 0).trans rfl; have hcz13_1 : w12.cell? ⟨gb111, 1, none⟩ = some (.int .u64 a0_1) := (Zb BK111.out 1).trans rfl; have hcz13_2 : w12.cell? ⟨gb111, 2, none⟩ = some (.int .u64 a0_2) := (Zb BK111.out 2).trans rfl; have hfz13_0 := Zj BK111.out 0; have hfz13_1 := Zj BK111.out 1; have hfz13_2 := Zj BK111.out 2))
  go_ret
  exact ⟨by first | rfl | (simp [Zm, Zn] <;> rfl) | (simp [*, Zm, Zn] <;> rfl), by with_reducible repeat first | exact HB.out | apply Zc | apply Ze | apply Zd | refine Zk ?_ GE111.out⟩
 rw [if_neg c11] at H
 have c11b0 : (a0_0 == 2) = false := beq_eq_false_iff_ne.mpr c11
 have c11b1 : (a0_0 != 2) = true := bne_iff_ne.mpr c11
 obtain rfl := Option.some.inj H
 go_enter Try.func51, Try.ntmps51
 go_wp2_with (first | ((with_reducible refine Zab (N := 1) rfl ?_); refine Zac ?hg (N := 1) ?hd (cs := #[.int .i64 a0_0, .int .u64 a0_1, .int .u64 a0_2]) (t := 95) ?hr ?_; (case hd => rfl); (case hg => rfl); (case hr => go_simp <;> rfl); intro gb111 hg w14 hbox hb; have BK111 := Za.mk (hbox); have GW111 := Za.mk ((by rw [hg]; exact (Zl (by with_reducible repeat first | exact HB.out | apply Zc | apply Ze | apply Zd)) : w.heap.size ≤ gb111)); have GE111 := Za.mk ((by rw [hg]; exact (Zl (by with_reducible repeat first | exact HB.out | apply Zc | apply Ze | apply Zd)) : w.heap.size ≤ gb111)); replace HB := Za.mk (Zo (by with_reducible repeat first | exact HB.out | apply Zc | apply Ze | apply Zd) hb); clear hb hbox hg; have hcz15_0 : w14.cell? ⟨gb111, 0, none⟩ = some (.int .i64 a0_0) := (Zb BK111.out 0).trans rfl; have hcz15_1 : w14.cell? ⟨gb111, 1, none⟩ = some (.int .u64 a0_1) := (Zb BK111.out 1).trans rfl; have hcz15_2 : w14.cell? ⟨gb111, 2, none⟩ = some (.int .u64 a0_2) := (Zb BK111.out 2).trans rfl; have hfz15_0 := Zj BK111.out 0; have hfz15_1 := Zj BK111.out 1; have hfz15_2 := Zj BK111.out 2))
 go_ret
 exact ⟨by first | rfl | (simp [Zm, Zn] <;> rfl) | (simp [*, Zm, Zn] <;> rfl), by with_reducible repeat first | exact HB.out | apply Zc | apply Ze | apply Zd | refine Zk ?_ GE111.out⟩
theorem l3conOK_is (k : Int) (a b : Nat) (ha : a < 18446744073709551616) (hb : b < 18446744073709551616) : spec_l3conOK.f k a b = some (normRaw k a b).2 := by
 unfold spec_l3conOK.f normRaw
 by_cases h0 : k = 0
 ·rw [if_pos h0, if_pos h0]
  by_cases h1 : (a : Int) = 0
  ·rw [if_pos h1, h1]; rfl
  ·rw [if_neg h1, beq_eq_false_iff_ne.mpr h1]; rfl
 ·rw [if_neg h0, if_neg h0]
  by_cases h1 : k = 1
  ·rw [if_pos h1, if_pos h1, or64 a b ha hb]
   have hs := sub_bits a b ha hb
   by_cases h2 : (a : Int) = 0 ∧ (b : Int) = 0
   ·rw [if_pos h2]
    have ea : a = 0 := by omega
    have eb : b = 0 := by omega
    subst ea; subst eb; rfl
   ·rw [if_neg h2, andNot64 b a hb ha]
    congr 1
    rw [Bool.eq_iff_iff, beq_iff_eq, beq_iff_eq]
    constructor
    ·intro h
     have := hs.2 (by omega)
     omega
    ·intro h
     have := hs.1 (by omega)
     omega
  ·rw [if_neg h1, if_neg h1]
   by_cases h2 : k = 2
   ·rw [if_pos h2, if_pos h2]
    by_cases h3 : (a : Int) > b
    ·rw [if_pos h3, decide_eq_false (by omega)]
    ·rw [if_neg h3, decide_eq_true (by omega)]
   ·rw [if_neg h2, if_neg h2]
set_option maxHeartbeats 400000 in
theorem impl_normalRange.does (a b : Int) (w : World) : Calls Try.prog 68 #[.int .u64 a, .int .u64 b] w fun e w' => e = .returned (nrRaw a b).v ∧ w' = w := by
 have hmax : IntKind.u64.max = 18446744073709551615 := rfl
 go_enter Try.func68, Try.ntmps68
 go_wp2
 all_goals (go_ret)
 all_goals (refine ⟨?_, rfl⟩; simp_all [nrRaw, nrN, Cd.v])
set_option maxHeartbeats 1000000 in
theorem impl_normal.does (k a b : Int) (w : World) : Calls Try.prog 59 #[.agg #[.int .i64 k, .int .u64 a, .int .u64 b]] w fun e w' => e = .returned (.tuple #[(normRaw k a b).1.v, .bool (normRaw k a b).2]) ∧ Below w.heap.size w w' := by
 by_cases c0 : k = 0
 ·subst c0
  by_cases c1 : a = 0
  ·subst c1
   go_enter Try.func59, Try.ntmps59
   go_wp2
   repeat (go_quiet (fail); try go_wp2)
   go_ret2
   exact ⟨by simp [normRaw, Cd.v], Ze (Zc (Below.refl _ _) _) _⟩
  ·have c1b : (a == 0) = false := beq_eq_false_iff_ne.mpr c1
   go_enter Try.func59, Try.ntmps59
   go_wp2
   repeat (go_quiet (fail); try go_wp2)
   go_ret2
   exact ⟨by simp [normRaw, Cd.v, c1b], Ze (Zc (Below.refl _ _) _) _⟩
 ·have c0b : (k == 0) = false := beq_eq_false_iff_ne.mpr c0
  by_cases c1 : k = 1
  ·subst c1
   by_cases c2 : a = 0
   ·subst c2
    by_cases c3 : b = 0
    ·subst c3
     go_enter Try.func59, Try.ntmps59
     go_wp2
     go_ret2
     exact ⟨by simp [normRaw, Cd.v], Zc (Below.refl _ _) _⟩
    ·have c3b : (b == 0) = false := beq_eq_false_iff_ne.mpr c3
     go_enter Try.func59, Try.ntmps59
     go_wp2
     repeat (go_quiet (fail); try go_wp2)
     go_ret2
     exact ⟨by simp [normRaw, Cd.v, c3], Ze (Zc (Below.refl _ _) _) _⟩
   ·have c2b : (a == 0) = false := beq_eq_false_iff_ne.mpr c2
    go_enter Try.func59, Try.ntmps59
    go_wp2
    repeat (go_quiet (fail); try go_wp2)
    go_ret2
    exact ⟨by simp [normRaw, Cd.v, c2], Ze (Zc (Below.refl _ _) _) _⟩
  ·have c1b : (k == 1) = false := beq_eq_false_iff_ne.mpr c1
   by_cases c2 : k = 2
   ·subst c2
    by_cases c3 : b < a
    ·go_enter Try.func59, Try.ntmps59
     go_wp2
     go_ret2
     exact ⟨by simp [normRaw, Cd.v, c3], Zc (Below.refl _ _) _⟩
    ·have c3b : decide (b < a) = false := decide_eq_false c3
     go_enter Try.func59, Try.ntmps59
     go_wp2_with (go_at_call 68; refine (impl_normalRange.does _ _ _).mono ?_; rintro e w' ⟨rfl, rfl⟩)
     go_ret2
     have c3n : ¬ b < a := by simpa using c3b
     exact ⟨by simp [normRaw, c3n], Zc (Below.refl _ _) _⟩
   ·have c2b : (k == 2) = false := beq_eq_false_iff_ne.mpr c2
    go_enter Try.func59, Try.ntmps59
    go_wp2
    go_ret2
    exact ⟨by simp [normRaw, Cd.v, c0, c1, c2], Zc (Below.refl _ _) _⟩
def conOKr (c : S95) : Bool := (normRaw c.f0 c.f1 c.f2).2
def ruleOKr (r : S65) : Bool := decide (r.f0.length = 6) && !(r.f0.any fun c => !conOKr c)
set_option maxHeartbeats 2000000 in
theorem validRule1_does (k a b : Int) (w : World) : Calls Try.prog 58 #[.agg #[.int .i64 k, .int .u64 a, .int .u64 b]] w fun e w' => e = .returned (.bool (!(normRaw k a b).2)) ∧ Below w.heap.size w w' := by
 have HN := Za.mk (impl_normal.does k a b)
 obtain ⟨v, hv⟩ : ∃ v, v = (normRaw k a b).1.v := ⟨_, rfl⟩
 obtain ⟨p, hp⟩ : ∃ p, p = (normRaw k a b).2 := ⟨_, rfl⟩
 rw [← hv, ← hp] at HN
 rw [← hp]
 clear hv hp
 go_enter Try.func58, Try.ntmps58
 go_wp2_with (go_at_call 59; refine (HN.out _).mono ?_; rintro e w1 ⟨rfl, hb⟩; have HB := Za.mk hb; clear hb)
 go_ret
 exact ⟨rfl, Zbp (Zc (Below.refl _ _) _) HB.out (by simp)⟩
theorem rdCon_eq (l : List S95) (i : Nat) (h : i < l.length) : Zx l (i : Int) = l[i] := by
 simp [Zx, List.getD_eq_getElem?_getD, List.getElem?_eq_getElem h]
theorem rdRule_eq (l : List S65) (i : Nat) (h : i < l.length) : Zao l (i : Int) = l[i] := by
 simp [Zao, List.getD_eq_getElem?_getD, List.getElem?_eq_getElem h]
def IdxPost (P : Bool) (w : World) (e : Ending) (w' : World) : Prop := ∃ i : Int, e = .returned (.int .i64 i) ∧ (0 ≤ i ↔ P = true) ∧ Below w.heap.size w w'
set_option maxHeartbeats 4000000 in
set_option maxRecDepth 100000 in
theorem indexCon_does (A : Option Addr) (c : Nat) (l : List S95) (w : World) (hr : Kd.C k95 w A l.length l) (hl : l.length ≤ 140737488355328) :
  Calls Try.prog 67 #[.slice A l.length c, .func (.func 58) #[] #[]] w (IdxPost (l.any fun c => !conOKr c) w) := by
 have HR := Za.mk hr
 have HL := Za.mk hl
 have HB0 := Za.mk (Below.refl w.heap.size w)
 have H0 := Za.mk (show ∀ j (h : j < l.length), j < 0 → conOKr l[j] = true from fun j h h0 => absurd h0 (Nat.not_lt_zero _))
 clear hr hl
 go_enter Try.func67, Try.ntmps67
 go_wp2
 go_loopg [8] l.length (fun kq v8 w' => ∃ i : Nat, v8 = .int .i64 (i : Int) ∧ Za (kq + i = l.length) ∧ Za (∀ j (h : j < l.length), j < i → conOKr l[j] = true) ∧ Za (Below w.heap.size w w'))
 case atStart => exact ⟨0, rfl, ⟨rfl⟩, H0, HB0⟩
 case round =>
  clear H0 HB0
  obtain ⟨i, rfl, HI, HA, HB⟩ := hrel
  by_cases hi : i < l.length
  ·obtain ⟨k1, rfl⟩ : ∃ m, gk = m + 1 := ⟨gk - 1, by have := HI.out; omega⟩
   obtain ⟨ad, rfl, g0, g1, g2⟩ := at_T95 HR.out (i : Int) (by omega) (by omega)
   simp only [Int.toNat_natCast] at g0 g1 g2
   replace g0 := (HB.out.cell (World.block_lt_of_cell? w _ g0)).trans g0
   replace g1 := (HB.out.cell (World.block_lt_of_cell? w _ g1)).trans g1
   replace g2 := (HB.out.cell (World.block_lt_of_cell? w _ g2)).trans g2
   have hib : decide ((i : Int) < (l.length : Int)) = true := decide_eq_true (by omega)
   have hlm : l.length ≤ 140737488355328 := HL.out
   have he := rdCon_eq l i hi
   have hv := validRule1_does (Zx l i).f0 (Zx l i).f1 (Zx l i).f2
   obtain ⟨b, hb⟩ : ∃ b, b = conOKr (Zx l i) := ⟨_, rfl⟩
   have hb2 : (normRaw (Zx l i).f0 (Zx l i).f1 (Zx l i).f2).2 = b := hb.symm
   rw [hb2] at hv
   have HV := Za.mk hv
   have HBB := Za.mk hb
   clear hv hb hb2
   have HE := Za.mk he
   have HII := Za.mk hi
   have hibn : decide (i < l.length) = true := decide_eq_true hi
   clear he
   cases b with
   | false =>
    go_wp2_with (go_at_call 58; refine (HV.out _ ).mono ?_; clear HV; rintro e w2 ⟨rfl, hb2⟩; have HB2 := Za.mk hb2; clear hb2)
    go_ret
    exact ⟨(i : Int), rfl, ⟨fun _ => List.any_eq_true.2 ⟨l[i]'HII.out, List.getElem_mem _, by rw [← HE.out, ← HBB.out]; rfl⟩, fun _ => Int.natCast_nonneg _⟩, Zbp HB.out HB2.out HB.out.size⟩
   | true =>
    go_wp2_with (go_at_call 58; refine (HV.out _ ).mono ?_; clear HV; rintro e w2 ⟨rfl, hb2⟩; have HB2 := Za.mk hb2; clear hb2)
    have HA2 := Za.mk (show ∀ j (h : j < l.length), j < i + 1 → conOKr l[j] = true from fun j h hj => by
     by_cases hji : j = i
     ·subst hji; rw [← HE.out, ← HBB.out]
     ·exact HA.out j h (by omega))
    have HI2 := Za.mk (show k1 + (i + 1) = l.length by have := HI.out; omega)
    have HB3 := Za.mk (Zbp HB.out HB2.out HB.out.size)
    go_roundg k1
    case measure => omega
    case rel => exact ⟨i + 1, by first | rfl | (simp; done) | (simp [*]; done), HI2, HA2, HB3⟩
  ·have hie : i = l.length := by have := HI.out; omega
   have HA3 := Za.mk (show (l.any fun c => !conOKr c) = false from by
    rw [List.any_eq_false]
    intro x hx
    obtain ⟨j, hj, rfl⟩ := List.mem_iff_getElem.1 hx
    rw [HA.out j hj (by omega)]
    decide)
   have hib : decide ((i : Int) < (l.length : Int)) = false := decide_eq_false (by omega)
   have hibn : decide (i < l.length) = false := decide_eq_false (by omega)
   clear hie hi HA HI
   go_wp2
   go_ret
   exact ⟨-1, rfl, ⟨fun h => absurd h (by decide), fun h => by rw [HA3.out] at h; exact absurd h (by decide)⟩, HB.out⟩
set_option maxHeartbeats 4000000 in
theorem containsCon_does (A : Option Addr) (c : Nat) (l : List S95) (w : World) (hr : Kd.C k95 w A l.length l) (hl : l.length ≤ 140737488355328) :
  Calls Try.prog 57 #[.slice A l.length c, .func (.func 58) #[] #[]] w fun e w' => e = .returned (.bool (l.any fun c => !conOKr c)) ∧ Below w.heap.size w w' := by
 have HC := Za.mk (indexCon_does A c l w hr hl)
 obtain ⟨p, hp⟩ : ∃ p, p = (l.any fun c => !conOKr c) := ⟨_, rfl⟩
 rw [← hp] at HC
 rw [← hp]
 clear hp hr hl
 go_enter Try.func57, Try.ntmps57
 go_wp2_with (go_at_call 67; refine HC.out.mono ?_; clear HC; rintro e w1 ⟨i, rfl, hi, hb⟩; have HI := Za.mk hi; have HB := Za.mk hb; clear hi hb)
 go_ret
 have hp3 : decide (0 ≤ i) = p := by rw [Bool.eq_iff_iff, decide_eq_true_eq]; exact HI.out
 exact ⟨congrArg (fun b => Ending.returned (.bool b)) hp3, HB.out⟩
set_option maxHeartbeats 4000000 in
theorem validRule_does (A : Option Addr) (c : Nat) (l : List S95) (w : World) (hr : Kd.C k95 w A l.length l) (hl : l.length ≤ 140737488355328) :
  Calls Try.prog 39 #[.agg #[.slice A l.length c]] w fun e w' => e = .returned (.bool (decide (l.length = 6) && !(l.any fun c => !conOKr c))) ∧ Below w.heap.size w w' := by
 have HC := Za.mk (fun W h => containsCon_does A c l W h hl)
 obtain ⟨p, hp⟩ : ∃ p, p = (l.any fun c => !conOKr c) := ⟨_, rfl⟩
 rw [← hp] at HC
 rw [← hp]
 have HR := Za.mk hr
 clear hp hr
 by_cases h6 : l.length = 6
 ·have h6b : ((l.length : Int) == 6) = true := by rw [beq_iff_eq]; omega
  rw [decide_eq_true h6, Bool.true_and]
  clear h6 hl
  go_enter Try.func39, Try.ntmps39
  go_wp2_with (go_at_call 57; refine (HC.out _ (Kd.Zan HR.out (Zc (Below.refl _ _) _))).mono ?_; clear HC; rintro e w1 ⟨rfl, hb⟩; have HB := Za.mk hb; clear hb)
  go_ret
  exact ⟨rfl, Zbp (Zc (Below.refl _ _) _) HB.out (by simp)⟩
 ·have h6b : ((l.length : Int) == 6) = false := by rw [beq_eq_false_iff_ne]; omega
  rw [decide_eq_false h6, Bool.false_and]
  clear h6 hl HC
  go_enter Try.func39, Try.ntmps39
  go_wp2
  go_ret
  exact ⟨rfl, Zc (Below.refl _ _) _⟩
set_option maxHeartbeats 4000000 in
theorem validPolicy1_does (A : Option Addr) (c : Nat) (l : List S95) (w : World) (hr : Kd.C k95 w A l.length l) (hl : l.length ≤ 140737488355328) :
  Calls Try.prog 38 #[.agg #[.slice A l.length c]] w fun e w' => e = .returned (.bool (!ruleOKr ⟨l⟩)) ∧ Below w.heap.size w w' := by
 have HC := Za.mk (fun W h => validRule_does A c l W h hl)
 obtain ⟨p, hp⟩ : ∃ p, p = (decide (l.length = 6) && !(l.any fun c => !conOKr c)) := ⟨_, rfl⟩
 rw [← hp] at HC
 have hp2 : ruleOKr ⟨l⟩ = p := hp.symm
 rw [hp2]
 have HR := Za.mk hr
 clear hp hp2 hr hl
 go_enter Try.func38, Try.ntmps38
 go_wp2_with (go_at_call 39; refine (HC.out _ (Kd.Zan HR.out (Zc (Below.refl _ _) _))).mono ?_; clear HC; rintro e w1 ⟨rfl, hb⟩; have HB := Za.mk hb; clear hb)
 go_ret
 exact ⟨rfl, Zbp (Zc (Below.refl _ _) _) HB.out (by simp)⟩
set_option maxHeartbeats 4000000 in
set_option maxRecDepth 100000 in
theorem indexRule_does (A : Option Addr) (c : Nat) (l : List S65) (w : World) (hr : Kd.C k65 w A l.length l) (hl : l.length ≤ 140737488355328) (hm : ∀ x ∈ l, x.f0.length ≤ 140737488355328) :
  Calls Try.prog 56 #[.slice A l.length c, .func (.func 38) #[] #[]] w (IdxPost (l.any fun c => !ruleOKr c) w) := by
 have HR := Za.mk hr
 have HL := Za.mk hl
 have HM := Za.mk hm
 have HB0 := Za.mk (Below.refl w.heap.size w)
 have H0 := Za.mk (show ∀ j (h : j < l.length), j < 0 → ruleOKr l[j] = true from fun j h h0 => absurd h0 (Nat.not_lt_zero _))
 clear hr hl hm
 go_enter Try.func56, Try.ntmps56
 go_wp2
 go_loopg [8] l.length (fun kq v8 w' => ∃ i : Nat, v8 = .int .i64 (i : Int) ∧ Za (kq + i = l.length) ∧ Za (∀ j (h : j < l.length), j < i → ruleOKr l[j] = true) ∧ Za (Below w.heap.size w w'))
 case atStart => exact ⟨0, rfl, ⟨rfl⟩, H0, HB0⟩
 case round =>
  clear H0 HB0
  obtain ⟨i, rfl, HI, HA, HB⟩ := hrel
  by_cases hi : i < l.length
  ·obtain ⟨k1, rfl⟩ : ∃ m, gk = m + 1 := ⟨gk - 1, by have := HI.out; omega⟩
   obtain ⟨ad, A1, c1, rfl, g0, g1, g2⟩ := at_T65 HR.out (i : Int) (by omega) (by omega)
   simp only [Int.toNat_natCast] at g0
   replace g0 := (HB.out.cell (World.block_lt_of_cell? w _ g0)).trans g0
   have HG2 := Za.mk g2
   clear g1 g2
   have hib : decide ((i : Int) < (l.length : Int)) = true := decide_eq_true (by omega)
   have hlm : l.length ≤ 140737488355328 := HL.out
   have he := rdRule_eq l i hi
   have hle : (Zao l i).f0.length ≤ 140737488355328 := HM.out _ (by rw [he]; exact List.getElem_mem _)
   have hv := fun W h => validPolicy1_does A1 c1 (Zao l i).f0 W h hle
   obtain ⟨b, hb⟩ : ∃ b, b = ruleOKr (Zao l i) := ⟨_, rfl⟩
   have hb2 : ruleOKr ⟨(Zao l i).f0⟩ = b := hb.symm
   rw [hb2] at hv
   have HV := Za.mk hv
   have HBB := Za.mk hb
   clear hv hb hb2 hle
   have HE := Za.mk he
   have HII := Za.mk hi
   have hibn : decide (i < l.length) = true := decide_eq_true hi
   clear he
   cases b with
   | false =>
    go_wp2_with (go_at_call 38; refine (HV.out _ (Kd.Zan HG2.out HB.out)).mono ?_; clear HV; rintro e w2 ⟨rfl, hb2⟩; have HB2 := Za.mk hb2; clear hb2)
    go_ret
    exact ⟨(i : Int), rfl, ⟨fun _ => List.any_eq_true.2 ⟨l[i]'HII.out, List.getElem_mem _, by rw [← HE.out, ← HBB.out]; rfl⟩, fun _ => Int.natCast_nonneg _⟩, Zbp HB.out HB2.out HB.out.size⟩
   | true =>
    go_wp2_with (go_at_call 38; refine (HV.out _ (Kd.Zan HG2.out HB.out)).mono ?_; clear HV; rintro e w2 ⟨rfl, hb2⟩; have HB2 := Za.mk hb2; clear hb2)
    have HA2 := Za.mk (show ∀ j (h : j < l.length), j < i + 1 → ruleOKr l[j] = true from fun j h hj => by
     by_cases hji : j = i
     ·subst hji; rw [← HE.out, ← HBB.out]
     ·exact HA.out j h (by omega))
    have HI2 := Za.mk (show k1 + (i + 1) = l.length by have := HI.out; omega)
    have HB3 := Za.mk (Zbp HB.out HB2.out HB.out.size)
    go_roundg k1
    case measure => omega
    case rel => exact ⟨i + 1, by first | rfl | (simp; done) | (simp [*]; done), HI2, HA2, HB3⟩
  ·have hie : i = l.length := by have := HI.out; omega
   have HA3 := Za.mk (show (l.any fun c => !ruleOKr c) = false from by
    rw [List.any_eq_false]
    intro x hx
    obtain ⟨j, hj, rfl⟩ := List.mem_iff_getElem.1 hx
    rw [HA.out j hj (by omega)]
    decide)
   have hib : decide ((i : Int) < (l.length : Int)) = false := decide_eq_false (by omega)
   have hibn : decide (i < l.length) = false := decide_eq_false (by omega)
   clear hie hi HA HI
   go_wp2
   go_ret
   exact ⟨-1, rfl, ⟨fun h => absurd h (by decide), fun h => by rw [HA3.out] at h; exact absurd h (by decide)⟩, HB.out⟩
set_option maxHeartbeats 4000000 in
theorem containsRule_does (A : Option Addr) (c : Nat) (l : List S65) (w : World) (hr : Kd.C k65 w A l.length l) (hl : l.length ≤ 140737488355328) (hm : ∀ x ∈ l, x.f0.length ≤ 140737488355328) :
  Calls Try.prog 37 #[.slice A l.length c, .func (.func 38) #[] #[]] w fun e w' => e = .returned (.bool (l.any fun c => !ruleOKr c)) ∧ Below w.heap.size w w' := by
 have HC := Za.mk (indexRule_does A c l w hr hl hm)
 obtain ⟨p, hp⟩ : ∃ p, p = (l.any fun c => !ruleOKr c) := ⟨_, rfl⟩
 rw [← hp] at HC
 rw [← hp]
 clear hp hr hl hm
 go_enter Try.func37, Try.ntmps37
 go_wp2_with (go_at_call 56; refine HC.out.mono ?_; clear HC; rintro e w1 ⟨i, rfl, hi, hb⟩; have HI := Za.mk hi; have HB := Za.mk hb; clear hi hb)
 go_ret
 have hp3 : decide (0 ≤ i) = p := by rw [Bool.eq_iff_iff, decide_eq_true_eq]; exact HI.out
 exact ⟨congrArg (fun b => Ending.returned (.bool b)) hp3, HB.out⟩
def Zbu.l0 : Nat → Int → List (S95) → Option (Bool)
 | 0, _, _ => none
 | k + 1, x3, x113000 => if x3 < 6 then (if 0 ≤ x3 then (if x3 < (x113000.length : Int) then ((spec_l3conOK.f ((Zx x113000 x3).f0) ((Zx x113000 x3).f1) ((Zx x113000 x3).f2)).bind fun t114 => (if t114 = true then (Zbu.l0 k (wrap64 (x3 + 1)) x113000) else (some false))) else (none)) else (none)) else (some true)
def Zbu.f (k : Nat) (l0_0 : List (S95)) : Option (Bool) := if (l0_0.length : Int) = 6 then (Zbu.l0 k 0 l0_0) else (some false)
set_option maxHeartbeats 8000000 in
set_option maxRecDepth 100000 in
theorem Zbu.calls (k : Nat) (A0_0 : Option Addr) (c0_0 : Nat) (l0_0 : List (S95)) (r : Bool) (w : World) (hr0_0 : Kd.C k95 w A0_0 l0_0.length l0_0) (hc0_0 : l0_0.length ≤ c0_0) (h : Zbu.f k l0_0 = some r) :
  Calls Try.prog 25 #[.agg #[.slice A0_0 l0_0.length c0_0]] w fun e w' => e = .returned (.bool r) ∧ Below w.heap.size w w' := by
 have hu65 := Try.underlying65
 have hu95 := Try.underlying95
 have HR0_0 := Za.mk hr0_0
 have HC0_0 := Za.mk hc0_0
 clear hr0_0 hc0_0
 have HB := Za.mk (Below.refl w.heap.size w)
 have H : (if (l0_0.length : Int) = 6 then (Zbu.l0 k 0 l0_0) else (some false)) = some r := h
 clear h
 by_cases c2 : (l0_0.length : Int) = 6
 ·rw [if_pos c2] at H
  have c2b0 : ((l0_0.length : Int) == 6) = true := beq_iff_eq.mpr c2
  have c2b1 : ((l0_0.length : Int) != 6) = false := bne_eq_false_iff_eq.mpr c2
  clear c2
  have H' := Za.mk H
  clear H
  go_enter Try.func25, Try.ntmps25
  go_wp2_with (first | ((with_reducible refine Zab (N := 1) rfl ?_); refine Zac ?hg (N := 1) ?hd (cs := #[.slice A0_0 l0_0.length c0_0]) (t := 65) ?hr ?_; (case hd => rfl); (case hg => rfl); (case hr => go_simp <;> rfl); intro gb112 hg w3 hbox hb; have BK112 := Za.mk (hbox); have GW112 := Za.mk ((by rw [hg]; exact (Zl (by with_reducible repeat first | exact HB.out | apply Zc | apply Ze | apply Zd)) : w.heap.size ≤ gb112)); have GE112 := Za.mk ((by rw [hg]; exact (Zl (by with_reducible repeat first | exact HB.out | apply Zc | apply Ze | apply Zd)) : w.heap.size ≤ gb112)); replace HB := Za.mk (Zo (by with_reducible repeat first | exact HB.out | apply Zc | apply Ze | apply Zd) hb); clear hb hbox hg; have hcz4_0 : w3.cell? ⟨gb112, 0, none⟩ = some (.slice A0_0 l0_0.length c0_0) := (Zb BK112.out 0).trans rfl; have hfz4_0 := Zj BK112.out 0))
  go_loopg [3] k (fun kq v3 w' => ∃ (x3_1 : Int), v3 = .int .i64 x3_1 ∧ Za (Zbu.l0 kq x3_1 l0_0 = some r) ∧ Za (kq ≤ k) ∧ Za (w'.heap[gb112]? = some (.cells #[(.slice A0_0 l0_0.length c0_0)] 65 (0, 0))) ∧ Za (Below w.heap.size w w'))
  case atStart => exact ⟨(0), (by first | rfl | (simp; done) | (simp [*]; done)), H', ⟨Nat.le_refl _⟩, ⟨by (with_reducible repeat first | apply Zg | apply Zf | apply Zh); exact BK112.out⟩, ⟨by with_reducible repeat first | exact HB.out | apply Zc | apply Ze | apply Zd | refine Zk ?_ GE112.out⟩⟩
  case round =>
   clear H'
   try clear c2
   try clear c2b0
   try clear c2b1
   try clear p2
   try clear hcz4_0
   try clear hfz4_0
   obtain ⟨x3_1, rfl, HA, HK1, BK112, HB⟩ := hrel
   cases gk with
   | zero => exact absurd HA.out (by simp [Zbu.l0])
   | succ k1 =>
    have H := HA.out
    clear HA
    simp only [Zbu.l0] at H
    by_cases c5 : x3_1 < 6
    ·rw [if_pos c5] at H
     have c5b0 : decide (x3_1 < 6) = true := decide_eq_true c5
     clear c5
     by_cases c6 : 0 ≤ x3_1
     ·rw [if_pos c6] at H
      have c6b0 : decide (0 ≤ x3_1) = true := decide_eq_true c6
      clear c6
      by_cases c7 : x3_1 < (l0_0.length : Int)
      ·rw [if_pos c7] at H
       have c7b0 : decide (x3_1 < (l0_0.length : Int)) = true := decide_eq_true c7
       clear c7
       replace H := Option.bind_eq_some_iff.mp H
       obtain ⟨t114, A80, H⟩ := H
       replace H : (if t114 = true then (Zbu.l0 k1 (wrap64 (x3_1 + 1)) l0_0) else (some false)) = some r := H
       have A8 := Za.mk A80
       clear A80
       by_cases c9 : t114 = true
       ·subst c9
        have H1 : (Zbu.l0 k1 (wrap64 (x3_1 + 1)) l0_0) = some r := by rw [if_pos rfl] at H; exact H
        clear H
        have H := H1
        clear H1
        have H' := Za.mk H
        clear H
        have hcz10_0 : wr.cell? ⟨gb112, 0, none⟩ = some (.slice A0_0 l0_0.length c0_0) := (Zb BK112.out 0).trans rfl
        have hfz10_0 := Zj BK112.out 0
        have p113 : 0 ≤ (x3_1 : Int) := of_decide_eq_true (by assumption)
        have q113 : x3_1 < (l0_0.length : Int) := of_decide_eq_true (by assumption)
        obtain ⟨ad113, e113, hx113_0, hx113_1, hx113_2⟩ := at_T95 HR0_0.out x3_1 p113 q113
        cases e113
        replace hx113_0 := (HB.out.cell (World.block_lt_of_cell? w _ hx113_0)).trans hx113_0
        replace hx113_1 := (HB.out.cell (World.block_lt_of_cell? w _ hx113_1)).trans hx113_1
        replace hx113_2 := (HB.out.cell (World.block_lt_of_cell? w _ hx113_2)).trans hx113_2
        replace p113 := eq_true p113
        replace q113 := eq_true q113
        go_wp2_with (first | ((with_reducible refine Zaj (f := 51) rfl ?_); refine Zai (some 17) rfl rfl Try.func51 (by kernel_rfl) rfl #[.agg #[.int .i64 ((Zx l0_0 x3_1).f0), .int .u64 ((Zx l0_0 x3_1).f1), .int .u64 ((Zx l0_0 x3_1).f2)]] rfl (by (try simp only [ZA, ZB, ZC]); first | done | rfl) ?_; (with_reducible refine (spec_l3conOK.calls ((Zx l0_0 x3_1).f0) ((Zx l0_0 x3_1).f1) ((Zx l0_0 x3_1).f2) true _ A8.out).mono ?_); rintro e w11 ⟨rfl, hb⟩; refine ⟨_, rfl, ?_⟩; replace BK112 := Za.mk (Zp (g := gb112) (o := .cells #[.slice (some ad113) l0_0.length c0_0] 65 (0, 0)) (by (with_reducible repeat first | apply Zg | apply Zf | apply Zh); exact BK112.out) hb); replace HB := Za.mk (Zo (by with_reducible repeat first | exact HB.out | apply Zc | apply Ze | apply Zd | refine Zk ?_ GE112.out) hb); (try clear hb); (try clear hb2); (try clear hk); (try clear hi)))
        go_roundg k1
        case measure => have := HK1.out; omega
        case rel => exact ⟨(wrap64 (x3_1 + 1)), (by first | rfl | (simp; done) | (simp [*]; done)), H', ⟨by have := HK1.out; omega⟩, ⟨by (with_reducible repeat first | apply Zg | apply Zf | apply Zh); exact BK112.out⟩, ⟨by with_reducible repeat first | exact HB.out | apply Zc | apply Ze | apply Zd | refine Zk ?_ GE112.out⟩⟩
       replace c9 := Bool.eq_false_iff.mpr c9
       subst c9
       have H1 : (some false) = some r := by rw [if_neg (show ¬ (false = true) by decide)] at H; exact H
       clear H
       have H := H1
       clear H1
       obtain rfl := Option.some.inj H
       have hcz12_0 : wr.cell? ⟨gb112, 0, none⟩ = some (.slice A0_0 l0_0.length c0_0) := (Zb BK112.out 0).trans rfl
       have hfz12_0 := Zj BK112.out 0
       have p113 : 0 ≤ (x3_1 : Int) := of_decide_eq_true (by assumption)
       have q113 : x3_1 < (l0_0.length : Int) := of_decide_eq_true (by assumption)
       obtain ⟨ad113, e113, hx113_0, hx113_1, hx113_2⟩ := at_T95 HR0_0.out x3_1 p113 q113
       cases e113
       replace hx113_0 := (HB.out.cell (World.block_lt_of_cell? w _ hx113_0)).trans hx113_0
       replace hx113_1 := (HB.out.cell (World.block_lt_of_cell? w _ hx113_1)).trans hx113_1
       replace hx113_2 := (HB.out.cell (World.block_lt_of_cell? w _ hx113_2)).trans hx113_2
       replace p113 := eq_true p113
       replace q113 := eq_true q113
       go_wp2_with (first | ((with_reducible refine Zaj (f := 51) rfl ?_); refine Zai (some 17) rfl rfl Try.func51 (by kernel_rfl) rfl #[.agg #[.int .i64 ((Zx l0_0 x3_1).f0), .int .u64 ((Zx l0_0 x3_1).f1), .int .u64 ((Zx l0_0 x3_1).f2)]] rfl (by (try simp only [ZA, ZB, ZC]); first | done | rfl) ?_; (with_reducible refine (spec_l3conOK.calls ((Zx l0_0 x3_1).f0) ((Zx l0_0 x3_1).f1) ((Zx l0_0 x3_1).f2) false _ A8.out).mono ?_); rintro e w13 ⟨rfl, hb⟩; refine ⟨_, rfl, ?_⟩; replace BK112 := Za.mk (Zp (g := gb112) (o := .cells #[.slice (some ad113) l0_0.length c0_0] 65 (0, 0)) (by (with_reducible repeat first | apply Zg | apply Zf | apply Zh); exact BK112.out) hb); replace HB := Za.mk (Zo (by with_reducible repeat first | exact HB.out | apply Zc | apply Ze | apply Zd | refine Zk ?_ GE112.out) hb); (try clear hb); (try clear hb2); (try clear hk); (try clear hi)))
       go_ret
       exact ⟨by first | rfl | (simp [Zm, Zn] <;> rfl) | (simp [*, Zm, Zn] <;> rfl), by with_reducible repeat first | exact HB.out | apply Zc | apply Ze | apply Zd | refine Zk ?_ GE112.out⟩
      rw [if_neg c7] at H
      exact absurd H (by simp)
     rw [if_neg c6] at H
     exact absurd H (by simp)
    rw [if_neg c5] at H
    have c5b0 : decide (x3_1 < 6) = false := decide_eq_false c5
    clear c5
    obtain rfl := Option.some.inj H
    go_wp2
    go_ret
    exact ⟨by first | rfl | (simp [Zm, Zn] <;> rfl) | (simp [*, Zm, Zn] <;> rfl), by with_reducible repeat first | exact HB.out | apply Zc | apply Ze | apply Zd | refine Zk ?_ GE112.out⟩
 rw [if_neg c2] at H
 have c2b0 : ((l0_0.length : Int) == 6) = false := beq_eq_false_iff_ne.mpr c2
 have c2b1 : ((l0_0.length : Int) != 6) = true := bne_iff_ne.mpr c2
 obtain rfl := Option.some.inj H
 go_enter Try.func25, Try.ntmps25
 go_wp2_with (first | ((with_reducible refine Zab (N := 1) rfl ?_); refine Zac ?hg (N := 1) ?hd (cs := #[.slice A0_0 l0_0.length c0_0]) (t := 65) ?hr ?_; (case hd => rfl); (case hg => rfl); (case hr => go_simp <;> rfl); intro gb112 hg w14 hbox hb; have BK112 := Za.mk (hbox); have GW112 := Za.mk ((by rw [hg]; exact (Zl (by with_reducible repeat first | exact HB.out | apply Zc | apply Ze | apply Zd)) : w.heap.size ≤ gb112)); have GE112 := Za.mk ((by rw [hg]; exact (Zl (by with_reducible repeat first | exact HB.out | apply Zc | apply Ze | apply Zd)) : w.heap.size ≤ gb112)); replace HB := Za.mk (Zo (by with_reducible repeat first | exact HB.out | apply Zc | apply Ze | apply Zd) hb); clear hb hbox hg; have hcz15_0 : w14.cell? ⟨gb112, 0, none⟩ = some (.slice A0_0 l0_0.length c0_0) := (Zb BK112.out 0).trans rfl; have hfz15_0 := Zj BK112.out 0))
 go_ret
 exact ⟨by first | rfl | (simp [Zm, Zn] <;> rfl) | (simp [*, Zm, Zn] <;> rfl), by with_reducible repeat first | exact HB.out | apply Zc | apply Ze | apply Zd | refine Zk ?_ GE112.out⟩
def Zcg.l0 : Nat → Int → Int → List (S61) → Option (Int)
 | 0, _, _, _ => none
 | k + 1, x3, x4, x116000 => if x4 < (x116000.length : Int) then (if 0 ≤ x4 then (Zcg.l0 k (wrap64 (x3 + (((Zi x116000 x4).f2).length : Int))) (wrap64 (x4 + 1)) x116000) else (none)) else (some x3)
def Zcg.f (k : Nat) (l0_0 : List (S61)) : Option (Int) := Zcg.l0 k 0 0 l0_0
set_option maxHeartbeats 8000000 in
set_option maxRecDepth 100000 in
theorem Zcg.calls (k : Nat) (A0_0 : Option Addr) (c0_0 : Nat) (l0_0 : List (S61)) (r : Int) (w : World) (hr0_0 : Kd.C k61 w A0_0 l0_0.length l0_0) (hc0_0 : l0_0.length ≤ c0_0) (h : Zcg.f k l0_0 = some r) :
  Calls Try.prog 26 #[.agg #[.slice A0_0 l0_0.length c0_0]] w fun e w' => e = .returned (.int .i64 r) ∧ Below w.heap.size w w' := by
 have hu31 := Try.underlying31
 have HR0_0 := Za.mk hr0_0
 have HC0_0 := Za.mk hc0_0
 clear hr0_0 hc0_0
 have HB := Za.mk (Below.refl w.heap.size w)
 have H : (Zcg.l0 k 0 0 l0_0) = some r := h
 clear h
 have H' := Za.mk H
 clear H
 go_enter Try.func26, Try.ntmps26
 go_wp2_with (first | ((with_reducible refine Zab (N := 1) rfl ?_); refine Zac ?hg (N := 1) ?hd (cs := #[.slice A0_0 l0_0.length c0_0]) (t := 31) ?hr ?_; (case hd => rfl); (case hg => rfl); (case hr => go_simp <;> rfl); intro gb115 hg w2 hbox hb; have BK115 := Za.mk (hbox); have GW115 := Za.mk ((by rw [hg]; exact (Zl (by with_reducible repeat first | exact HB.out | apply Zc | apply Ze | apply Zd)) : w.heap.size ≤ gb115)); have GE115 := Za.mk ((by rw [hg]; exact (Zl (by with_reducible repeat first | exact HB.out | apply Zc | apply Ze | apply Zd)) : w.heap.size ≤ gb115)); replace HB := Za.mk (Zo (by with_reducible repeat first | exact HB.out | apply Zc | apply Ze | apply Zd) hb); clear hb hbox hg))
 go_loopg [3, 4] k (fun kq v3 v4 w' => ∃ (x3_1 : Int) (x4_1 : Int), v3 = .int .i64 x3_1 ∧ v4 = .int .i64 x4_1 ∧ Za (Zcg.l0 kq x3_1 x4_1 l0_0 = some r) ∧ Za (kq ≤ k) ∧ Za (w'.heap[gb115]? = some (.cells #[(.slice A0_0 l0_0.length c0_0)] 31 (0, 0))) ∧ Za (Below w.heap.size w w'))
 case atStart => exact ⟨(0), (0), (by first | rfl | (simp; done) | (simp [*]; done)), (by first | rfl | (simp; done) | (simp [*]; done)), H', ⟨Nat.le_refl _⟩, ⟨by (with_reducible repeat first | apply Zg | apply Zf | apply Zh); exact BK115.out⟩, ⟨by with_reducible repeat first | exact HB.out | apply Zc | apply Ze | apply Zd | refine Zk ?_ GE115.out⟩⟩
 case round =>
  clear H'
  try clear c2
  try clear p2
  obtain ⟨x3_1, x4_1, rfl, rfl, HA, HK1, BK115, HB⟩ := hrel
  cases gk with
  | zero => exact absurd HA.out (by simp [Zcg.l0])
  | succ k1 =>
   have H := HA.out
   clear HA
   simp only [Zcg.l0] at H
   by_cases c3 : x4_1 < (l0_0.length : Int)
   ·rw [if_pos c3] at H
    have c3b0 : decide (x4_1 < (l0_0.length : Int)) = true := decide_eq_true c3
    clear c3
    by_cases c4 : 0 ≤ x4_1
    ·rw [if_pos c4] at H
     have c4b0 : decide (0 ≤ x4_1) = true := decide_eq_true c4
     clear c4
     have H' := Za.mk H
     clear H
     have hcz5_0 : wr.cell? ⟨gb115, 0, none⟩ = some (.slice A0_0 l0_0.length c0_0) := (Zb BK115.out 0).trans rfl
     have hfz5_0 := Zj BK115.out 0
     have p116 : 0 ≤ (x4_1 : Int) := of_decide_eq_true (by assumption)
     have q116 : x4_1 < (l0_0.length : Int) := of_decide_eq_true (by assumption)
     obtain ⟨ad116, A116_2, c116_2, e116, hx116_0, hx116_1, hx116_2, hl116_2, hi116_2⟩ := at_T61 HR0_0.out x4_1 p116 q116
     cases e116
     replace hx116_0 := (HB.out.cell (World.block_lt_of_cell? w _ hx116_0)).trans hx116_0
     replace hx116_1 := (HB.out.cell (World.block_lt_of_cell? w _ hx116_1)).trans hx116_1
     replace hx116_2 := (HB.out.cell (World.block_lt_of_cell? w _ hx116_2)).trans hx116_2
     have HR116_2 := Za.mk hi116_2
     have HC116_2 := Za.mk hl116_2
     clear hi116_2 hl116_2
     replace p116 := eq_true p116
     replace q116 := eq_true q116
     go_wp2
     go_roundg k1
     case measure => have := HK1.out; omega
     case rel => exact ⟨(wrap64 (x3_1 + (((Zi l0_0 x4_1).f2).length : Int))), (wrap64 (x4_1 + 1)), (by first | rfl | (simp; done) | (simp [*]; done)), (by first | rfl | (simp; done) | (simp [*]; done)), H', ⟨by have := HK1.out; omega⟩, ⟨by (with_reducible repeat first | apply Zg | apply Zf | apply Zh); exact BK115.out⟩, ⟨by with_reducible repeat first | exact HB.out | apply Zc | apply Ze | apply Zd | refine Zk ?_ GE115.out⟩⟩
    rw [if_neg c4] at H
    exact absurd H (by simp)
   rw [if_neg c3] at H
   have c3b0 : decide (x4_1 < (l0_0.length : Int)) = false := decide_eq_false c3
   clear c3
   obtain rfl := Option.some.inj H
   have hcz6_0 : wr.cell? ⟨gb115, 0, none⟩ = some (.slice A0_0 l0_0.length c0_0) := (Zb BK115.out 0).trans rfl
   have hfz6_0 := Zj BK115.out 0
   go_wp2
   go_ret
   exact ⟨by first | rfl | (simp [Zm, Zn] <;> rfl) | (simp [*, Zm, Zn] <;> rfl), by with_reducible repeat first | exact HB.out | apply Zc | apply Ze | apply Zd | refine Zk ?_ GE115.out⟩
mutual
def Zar.l0 : Nat → Int → List (S61) → Option (Bool)
 | 0, _, _ => none
 | k + 1, x3, x118000 => if x3 < (x118000.length : Int) then (if 0 ≤ x3 then (if (((Zi x118000 x3).f2).length : Int) < 1 then (Zar.j1 k x3 true x118000 ((Zi x118000 x3).f0) ((Zi x118000 x3).f1) ((Zi x118000 x3).f2)) else (Zar.j1 k x3 (decide ((((Zi x118000 x3).f2).length : Int) > 200)) x118000 ((Zi x118000 x3).f0) ((Zi x118000 x3).f1) ((Zi x118000 x3).f2))) else (none)) else ((Zcg.f k x118000).bind fun t118 => (some (decide (t118 ≤ 1000))))
def Zar.j1 : Nat → Int → Bool → List (S61) → Int → Int → List (S65) → Option (Bool)
 | 0, _, _, _, _, _, _ => none
 | k + 1, x3, x28, x118000, x121000, x121001, x121002 => if x28 = true then (some false) else (if x3 > 0 then (if 0 ≤ (wrap64 (x3 - 1)) then (if (wrap64 (x3 - 1)) < (x118000.length : Int) then (if ((Zi x118000 (wrap64 (x3 - 1))).f0) > x121000 then (some false) else (if ((Zi x118000 (wrap64 (x3 - 1))).f0) = x121000 then (if ((Zi x118000 (wrap64 (x3 - 1))).f1) ≥ x121001 then (some false) else (Zar.j2 k x3 x118000 x121000 x121001 x121002)) else (Zar.j2 k x3 x118000 x121000 x121001 x121002))) else (none)) else (none)) else (Zar.j2 k x3 x118000 x121000 x121001 x121002))
def Zar.j2 : Nat → Int → List (S61) → Int → Int → List (S65) → Option (Bool)
 | 0, _, _, _, _, _ => none
 | k + 1, x3, x118000, x121000, x121001, x121002 => Zar.l1 k x3 0 x118000 x121000 x121001 x121002
def Zar.l1 : Nat → Int → Int → List (S61) → Int → Int → List (S65) → Option (Bool)
 | 0, _, _, _, _, _, _ => none
 | k + 1, x3, x6, x118000, x121000, x121001, x121002 => if x6 < (x121002.length : Int) then (if 0 ≤ x6 then ((Zbu.f k ((Zao x121002 x6).f0)).bind fun t124 => (if t124 = true then (Zar.l1 k x3 (wrap64 (x6 + 1)) x118000 x121000 x121001 x121002) else (some false))) else (none)) else (Zar.l0 k (wrap64 (x3 + 1)) x118000)
end
def Zar.f (k : Nat) (l0_0 : List (S61)) : Option (Bool) := Zar.l0 k 0 l0_0
set_option maxHeartbeats 8000000 in
set_option maxRecDepth 100000 in
theorem Zar.calls (k : Nat) (A0_0 : Option Addr) (c0_0 : Nat) (l0_0 : List (S61)) (r : Bool) (w : World) (hr0_0 : Kd.C k61 w A0_0 l0_0.length l0_0) (hc0_0 : l0_0.length ≤ c0_0) (h : Zar.f k l0_0 = some r) :
  Calls Try.prog 14 #[.agg #[.slice A0_0 l0_0.length c0_0]] w fun e w' => e = .returned (.bool r) ∧ Below w.heap.size w w' := by
 have hu31 := Try.underlying31
 have hu61 := Try.underlying61
 have hu65 := Try.underlying65
 have HR0_0 := Za.mk hr0_0
 have HC0_0 := Za.mk hc0_0
 clear hr0_0 hc0_0
 have HB := Za.mk (Below.refl w.heap.size w)
 have H : (Zar.l0 k 0 l0_0) = some r := h
 clear h
 have H' := Za.mk H
 clear H
 go_enter Try.func14, Try.ntmps14
 go_wp2_with (first | ((with_reducible refine Zab (N := 1) rfl ?_); (try (refine gate_guard (by rfl) ?_; dsimp only)); refine Zac ?hg (N := 1) ?hd (cs := #[.slice A0_0 l0_0.length c0_0]) (t := 31) ?hr ?_; (case hd => rfl); (case hg => rfl); (case hr => go_simp <;> rfl); intro gb117 hg w2 hbox hb; have BK117 := Za.mk (hbox); have GW117 := Za.mk ((by rw [hg]; exact (Zl (by with_reducible repeat first | exact HB.out | apply Zc | apply Ze | apply Zd)) : w.heap.size ≤ gb117)); have GE117 := Za.mk ((by rw [hg]; exact (Zl (by with_reducible repeat first | exact HB.out | apply Zc | apply Ze | apply Zd)) : w.heap.size ≤ gb117)); replace HB := Za.mk (Zo (by with_reducible repeat first | exact HB.out | apply Zc | apply Ze | apply Zd) hb); clear hb hbox hg))
 go_loopg [3] k (fun kq v3 w' => ∃ (x3_1 : Int), v3 = .int .i64 x3_1 ∧ Za (Zar.l0 kq x3_1 l0_0 = some r) ∧ Za (kq ≤ k) ∧ Za (w'.heap[gb117]? = some (.cells #[(.slice A0_0 l0_0.length c0_0)] 31 (0, 0))) ∧ Za (Below w.heap.size w w'))
 case atStart => exact ⟨(0), (by first | rfl | (simp; done) | (simp [*]; done)), H', ⟨Nat.le_refl _⟩, ⟨by (with_reducible repeat first | apply Zg | apply Zf | apply Zh); exact BK117.out⟩, ⟨by with_reducible repeat first | exact HB.out | apply Zc | apply Ze | apply Zd | refine Zk ?_ GE117.out⟩⟩
 case round =>
  clear H'
  try clear c1
  try clear p2
  obtain ⟨x3_1, rfl, HA, HK1, BK117, HB⟩ := hrel
  cases gk with
  | zero => exact absurd HA.out (by simp [Zar.l0])
  | succ k1 =>
   have H := HA.out
   clear HA
   simp only [Zar.l0] at H
   by_cases c3 : x3_1 < (l0_0.length : Int)
   ·rw [if_pos c3] at H
    have c3b0 : decide (x3_1 < (l0_0.length : Int)) = true := decide_eq_true c3
    clear c3
    by_cases c4 : 0 ≤ x3_1
    ·rw [if_pos c4] at H
     have c4b0 : decide (0 ≤ x3_1) = true := decide_eq_true c4
     clear c4
     have HC5 := Za.mk H
     clear H
     have hcz6_0 : wr.cell? ⟨gb117, 0, none⟩ = some (.slice A0_0 l0_0.length c0_0) := (Zb BK117.out 0).trans rfl
     have hfz6_0 := Zj BK117.out 0
     have p119 : 0 ≤ (x3_1 : Int) := of_decide_eq_true (by assumption)
     have q119 : x3_1 < (l0_0.length : Int) := of_decide_eq_true (by assumption)
     obtain ⟨ad119, A119_2, c119_2, e119, hx119_0, hx119_1, hx119_2, hl119_2, hi119_2⟩ := at_T61 HR0_0.out x3_1 p119 q119
     cases e119
     replace hx119_0 := (HB.out.cell (World.block_lt_of_cell? w _ hx119_0)).trans hx119_0
     replace hx119_1 := (HB.out.cell (World.block_lt_of_cell? w _ hx119_1)).trans hx119_1
     replace hx119_2 := (HB.out.cell (World.block_lt_of_cell? w _ hx119_2)).trans hx119_2
     have HR119_2 := Za.mk hi119_2
     have HC119_2 := Za.mk hl119_2
     clear hi119_2 hl119_2
     replace p119 := eq_true p119
     replace q119 := eq_true q119
     go_upto_region 5 with (first | ((with_reducible refine Zab (N := 4) rfl ?_); (try (refine gate_guard (by rfl) ?_; dsimp only)); refine Zac ?hg (N := 4) ?hd (cs := #[.int .u32 0, .int .u32 0, .slice none 0 0]) (t := 61) ?hr ?_; (case hd => rfl); (case hg => rfl); (case hr => go_simp <;> rfl); intro gb120 hg w7 hbox hb; have BK120 := Za.mk (hbox); have GW120 := Za.mk ((by rw [hg]; exact (Zl (by with_reducible repeat first | exact HB.out | apply Zc | apply Ze | apply Zd | refine Zk ?_ GE117.out)) : w.heap.size ≤ gb120)); have GE120 := Za.mk ((by rw [hg]; exact (Zl (by with_reducible repeat first | exact HB.out | apply Zc | apply Ze | apply Zd | refine Zk ?_ GE117.out)) : w.heap.size ≤ gb120)); replace HB := Za.mk (Zo (by with_reducible repeat first | exact HB.out | apply Zc | apply Ze | apply Zd | refine Zk ?_ GE117.out) hb); have NB117_120 := Za.mk ((by rw [hg]; exact Nat.ne_of_lt (Zs (g := gb117) (o := .cells #[.slice (some ad119) l0_0.length c0_0] 31 (0, 0)) (by (with_reducible repeat first | apply Zg | apply Zf | apply Zh); exact BK117.out)) : gb117 ≠ gb120)); have NB120_117 := Za.mk ((by rw [hg]; exact Nat.ne_of_gt (Zs (g := gb117) (o := .cells #[.slice (some ad119) l0_0.length c0_0] 31 (0, 0)) (by (with_reducible repeat first | apply Zg | apply Zf | apply Zh); exact BK117.out)) : gb120 ≠ gb117)); replace BK117 := Za.mk (Zp (g := gb117) (o := .cells #[.slice (some ad119) l0_0.length c0_0] 31 (0, 0)) (by (with_reducible repeat first | apply Zg | apply Zf | apply Zh); exact BK117.out) hb); clear hb hbox hg; have hnb8 := NB120_117.out; have hnc8 := NB117_120.out; have hcz9_0 : w7.cell? ⟨gb120, 0, none⟩ = some (.int .u32 0) := (Zb BK120.out 0).trans rfl; have hcz9_1 : w7.cell? ⟨gb120, 1, none⟩ = some (.int .u32 0) := (Zb BK120.out 1).trans rfl; have hcz9_2 : w7.cell? ⟨gb120, 2, none⟩ = some (.slice none 0 0) := (Zb BK120.out 2).trans rfl; have hfz9_0 := Zj BK120.out 0; have hfz9_1 := Zj BK120.out 1; have hfz9_2 := Zj BK120.out 2))
     (try simp only [Act.put, ZD, ZE, ZF])
     go_cut [28] (fun v28 wc => ∃ (kq : Nat) (x28_4 : Bool), v28 = .bool x28_4 ∧ Za (Zar.j1 kq x3_1 x28_4 l0_0 ((Zi l0_0 x3_1).f0) ((Zi l0_0 x3_1).f1) ((Zi l0_0 x3_1).f2) = some r) ∧ Za (kq ≤ k1) ∧ Za (wc.heap[gb117]? = some (.cells #[(.slice (some ad119) l0_0.length c0_0)] 31 (0, 0))) ∧ Za (wc.heap[gb120]? = some (.cells #[.int .u32 ((Zi l0_0 x3_1).f0), .int .u32 ((Zi l0_0 x3_1).f1), (.slice A119_2 ((Zi l0_0 x3_1).f2).length c119_2)] 61 (0, 0))) ∧ Za (Below w.heap.size w wc))
     case first =>
      have H := HC5.out
      clear HC5
      by_cases c10 : (((Zi l0_0 x3_1).f2).length : Int) < 1
      ·rw [if_pos c10] at H
       have c10b0 : decide ((((Zi l0_0 x3_1).f2).length : Int) < 1) = true := decide_eq_true c10
       have c10b1 : decide (((Zi l0_0 x3_1).f2).length < 1) = true := decide_eq_true (by omega)
       clear c10
       (first | rw [c10b0] | (simp only [Zu, Zv]; rw [c10b0]) | skip)
       have H' := Za.mk H
       clear H
       have hnb11 := NB120_117.out
       have hnc11 := NB117_120.out
       have hcz12_0 : w7.cell? ⟨gb120, 0, none⟩ = some (.int .u32 0) := (Zb BK120.out 0).trans rfl
       have hcz12_1 : w7.cell? ⟨gb120, 1, none⟩ = some (.int .u32 0) := (Zb BK120.out 1).trans rfl
       have hcz12_2 : w7.cell? ⟨gb120, 2, none⟩ = some (.slice none 0 0) := (Zb BK120.out 2).trans rfl
       have hfz12_0 := Zj BK120.out 0
       have hfz12_1 := Zj BK120.out 1
       have hfz12_2 := Zj BK120.out 2
       go_wp2
       go_meet
       case rel => exact ⟨_, (true), (by first | rfl | (simp; done) | (simp [*]; done)), H', ⟨by have := HK1.out; first | omega | exact Nat.le_refl _⟩, ⟨by (with_reducible repeat first | apply Zg | apply Zf | apply Zh); refine Zt ?_ NB117_120.out _; (with_reducible repeat first | apply Zg | apply Zf | apply Zh); refine Zt ?_ NB117_120.out _; (with_reducible repeat first | apply Zg | apply Zf | apply Zh); refine Zt ?_ NB117_120.out _; (with_reducible repeat first | apply Zg | apply Zf | apply Zh); exact BK117.out⟩, ⟨by (with_reducible repeat first | apply Zg | apply Zf | apply Zh); refine Zw (cs := #[.int .u32 ((Zi l0_0 x3_1).f0), .int .u32 ((Zi l0_0 x3_1).f1), .slice none 0 0]) ?_ 2 _ rfl; (with_reducible repeat first | apply Zg | apply Zf | apply Zh); refine Zw (cs := #[.int .u32 ((Zi l0_0 x3_1).f0), .int .u32 0, .slice none 0 0]) ?_ 1 _ rfl; (with_reducible repeat first | apply Zg | apply Zf | apply Zh); refine Zw (cs := #[.int .u32 0, .int .u32 0, .slice none 0 0]) ?_ 0 _ rfl; (with_reducible repeat first | apply Zg | apply Zf | apply Zh); exact BK120.out⟩, ⟨by with_reducible repeat first | exact HB.out | apply Zc | apply Ze | apply Zd | refine Zk ?_ GE117.out | refine Zk ?_ GE120.out⟩⟩
      rw [if_neg c10] at H
      have c10b0 : decide ((((Zi l0_0 x3_1).f2).length : Int) < 1) = false := decide_eq_false c10
      have c10b1 : decide (((Zi l0_0 x3_1).f2).length < 1) = false := decide_eq_false (by omega)
      clear c10
      (first | rw [c10b0] | (simp only [Zu, Zv]; rw [c10b0]) | skip)
      have H' := Za.mk H
      clear H
      have hnb13 := NB120_117.out
      have hnc13 := NB117_120.out
      have hcz14_0 : w7.cell? ⟨gb120, 0, none⟩ = some (.int .u32 0) := (Zb BK120.out 0).trans rfl
      have hcz14_1 : w7.cell? ⟨gb120, 1, none⟩ = some (.int .u32 0) := (Zb BK120.out 1).trans rfl
      have hcz14_2 : w7.cell? ⟨gb120, 2, none⟩ = some (.slice none 0 0) := (Zb BK120.out 2).trans rfl
      have hfz14_0 := Zj BK120.out 0
      have hfz14_1 := Zj BK120.out 1
      have hfz14_2 := Zj BK120.out 2
      go_wp2
      go_meet
      case rel => exact ⟨_, (decide ((((Zi l0_0 x3_1).f2).length : Int) > 200)), (by first | rfl | (simp; done) | (simp [*]; done)), H', ⟨by have := HK1.out; first | omega | exact Nat.le_refl _⟩, ⟨by (with_reducible repeat first | apply Zg | apply Zf | apply Zh); refine Zt ?_ NB117_120.out _; (with_reducible repeat first | apply Zg | apply Zf | apply Zh); refine Zt ?_ NB117_120.out _; (with_reducible repeat first | apply Zg | apply Zf | apply Zh); refine Zt ?_ NB117_120.out _; (with_reducible repeat first | apply Zg | apply Zf | apply Zh); exact BK117.out⟩, ⟨by (with_reducible repeat first | apply Zg | apply Zf | apply Zh); refine Zw (cs := #[.int .u32 ((Zi l0_0 x3_1).f0), .int .u32 ((Zi l0_0 x3_1).f1), .slice none 0 0]) ?_ 2 _ rfl; (with_reducible repeat first | apply Zg | apply Zf | apply Zh); refine Zw (cs := #[.int .u32 ((Zi l0_0 x3_1).f0), .int .u32 0, .slice none 0 0]) ?_ 1 _ rfl; (with_reducible repeat first | apply Zg | apply Zf | apply Zh); refine Zw (cs := #[.int .u32 0, .int .u32 0, .slice none 0 0]) ?_ 0 _ rfl; (with_reducible repeat first | apply Zg | apply Zf | apply Zh); exact BK120.out⟩, ⟨by with_reducible repeat first | exact HB.out | apply Zc | apply Ze | apply Zd | refine Zk ?_ GE117.out | refine Zk ?_ GE120.out⟩⟩
     case rest =>
      clear HC5
      try clear c1
      try clear p1
      try clear q1
      try clear hx1
      try clear p2
      try clear c3
      try clear c3b0
      try clear c4
      try clear c4b0
      try clear c8
      try clear c10
      try clear c10b0
      try clear c10b1
      try clear c11
      try clear p11
      try clear q11
      try clear hx11
      try clear c13
      try clear c14
      try clear hcz12_0
      try clear hcz12_1
      try clear hcz12_2
      try clear hcz14_0
      try clear hcz14_1
      try clear hcz14_2
      try clear hcz6_0
      try clear hcz9_0
      try clear hcz9_1
      try clear hcz9_2
      try clear hfz12_0
      try clear hfz12_1
      try clear hfz12_2
      try clear hfz14_0
      try clear hfz14_1
      try clear hfz14_2
      try clear hfz6_0
      try clear hfz9_0
      try clear hfz9_1
      try clear hfz9_2
      try clear hx119_0
      try clear hx119_1
      try clear hx119_2
      try clear p119
      try clear p2
      try clear q119
      obtain ⟨kq, x28_4, rfl, HA, HJ4, BK117, BK120, HB⟩ := hcut
      cases kq with
      | zero => exact absurd HA.out (by simp [Zar.j1])
      | succ kj4 =>
       have H := HA.out
       clear HA
       simp only [Zar.j1] at H
       by_cases c15 : x28_4 = true
       ·subst c15
        have H1 : (some false) = some r := by rw [if_pos rfl] at H; exact H
        clear H
        have H := H1
        clear H1
        obtain rfl := Option.some.inj H
        go_wp2
        go_ret
        exact ⟨by first | rfl | (simp [Zm, Zn] <;> rfl) | (simp [*, Zm, Zn] <;> rfl), by with_reducible repeat first | exact HB.out | apply Zc | apply Ze | apply Zd | refine Zk ?_ GE117.out | refine Zk ?_ GE120.out⟩
       replace c15 := Bool.eq_false_iff.mpr c15
       subst c15
       have H1 : (if x3_1 > 0 then (if 0 ≤ (wrap64 (x3_1 - 1)) then (if (wrap64 (x3_1 - 1)) < (l0_0.length : Int) then (if ((Zi l0_0 (wrap64 (x3_1 - 1))).f0) > ((Zi l0_0 x3_1).f0) then (some false) else (if ((Zi l0_0 (wrap64 (x3_1 - 1))).f0) = ((Zi l0_0 x3_1).f0) then (if ((Zi l0_0 (wrap64 (x3_1 - 1))).f1) ≥ ((Zi l0_0 x3_1).f1) then (some false) else (Zar.j2 kj4 x3_1 l0_0 ((Zi l0_0 x3_1).f0) ((Zi l0_0 x3_1).f1) ((Zi l0_0 x3_1).f2))) else (Zar.j2 kj4 x3_1 l0_0 ((Zi l0_0 x3_1).f0) ((Zi l0_0 x3_1).f1) ((Zi l0_0 x3_1).f2)))) else (none)) else (none)) else (Zar.j2 kj4 x3_1 l0_0 ((Zi l0_0 x3_1).f0) ((Zi l0_0 x3_1).f1) ((Zi l0_0 x3_1).f2))) = some r := by rw [if_neg (show ¬ (false = true) by decide)] at H; exact H
       clear H
       have H := H1
       clear H1
       have HC16 := Za.mk H
       clear H
       go_upto_if 30 with (fail)
       go_cut [] (fun wc => ∃ (kq : Nat), Za (Zar.j2 kq x3_1 l0_0 ((Zi l0_0 x3_1).f0) ((Zi l0_0 x3_1).f1) ((Zi l0_0 x3_1).f2) = some r) ∧ Za (kq ≤ kj4) ∧ Za (wc.heap[gb117]? = some (.cells #[(.slice (some ad119) l0_0.length c0_0)] 31 (0, 0))) ∧ Za (wc.heap[gb120]? = some (.cells #[.int .u32 ((Zi l0_0 x3_1).f0), .int .u32 ((Zi l0_0 x3_1).f1), (.slice A119_2 ((Zi l0_0 x3_1).f2).length c119_2)] 61 (0, 0))) ∧ Za (Below w.heap.size w wc))
       case first =>
        have H := HC16.out
        clear HC16
        by_cases c17 : x3_1 > 0
        ·rw [if_pos c17] at H
         have c17b0 : decide (0 < x3_1) = true := decide_eq_true c17
         clear c17
         (first | rw [c17b0] | (simp only [Zu, Zv]; rw [c17b0]) | skip)
         obtain ⟨ji18, hji18⟩ : ∃ j_ : Int, (wrap64 (x3_1 - 1)) = j_ := ⟨_, rfl⟩
         replace H : (if 0 ≤ (ji18) then (if (ji18) < (l0_0.length : Int) then (if ((Zi l0_0 (ji18)).f0) > ((Zi l0_0 x3_1).f0) then (some false) else (if ((Zi l0_0 (ji18)).f0) = ((Zi l0_0 x3_1).f0) then (if ((Zi l0_0 (ji18)).f1) ≥ ((Zi l0_0 x3_1).f1) then (some false) else (Zar.j2 kj4 x3_1 l0_0 ((Zi l0_0 x3_1).f0) ((Zi l0_0 x3_1).f1) ((Zi l0_0 x3_1).f2))) else (Zar.j2 kj4 x3_1 l0_0 ((Zi l0_0 x3_1).f0) ((Zi l0_0 x3_1).f1) ((Zi l0_0 x3_1).f2)))) else (none)) else (none)) = some r := by first | (rw [hji18] at H; exact H) | (simp only [hji18] at H ⊢; exact H)
         have hji18w : (IntKind.i64.wrap (x3_1 - 1)) = ji18 := (Zu _).trans hji18
         by_cases c19 : 0 ≤ (ji18)
         ·rw [if_pos c19] at H
          have c19b0 : decide (0 ≤ (ji18)) = true := decide_eq_true c19
          clear c19
          by_cases c20 : (ji18) < (l0_0.length : Int)
          ·rw [if_pos c20] at H
           have c20b0 : decide ((ji18) < (l0_0.length : Int)) = true := decide_eq_true c20
           clear c20
           by_cases c21 : ((Zi l0_0 (ji18)).f0) > ((Zi l0_0 x3_1).f0)
           ·rw [if_pos c21] at H
            have c21b0 : decide (((Zi l0_0 x3_1).f0) < ((Zi l0_0 (ji18)).f0)) = true := decide_eq_true c21
            clear c21
            obtain rfl := Option.some.inj H
            have hnb22 := NB117_120.out
            have hnc22 := NB120_117.out
            have hcz23_0 : wc.cell? ⟨gb117, 0, none⟩ = some (.slice (some ad119) l0_0.length c0_0) := (Zb BK117.out 0).trans rfl
            have hfz23_0 := Zj BK117.out 0
            have p121 : 0 ≤ ((ji18) : Int) := of_decide_eq_true (by assumption)
            have q121 : (ji18) < (l0_0.length : Int) := of_decide_eq_true (by assumption)
            obtain ⟨ad121, A121_2, c121_2, e121, hx121_0, hx121_1, hx121_2, hl121_2, hi121_2⟩ := at_T61 HR0_0.out (ji18) p121 q121
            obtain rfl : ad119 = ad121 := (by injection e121)
            replace hx121_0 := (HB.out.cell (World.block_lt_of_cell? w _ hx121_0)).trans hx121_0
            replace hx121_1 := (HB.out.cell (World.block_lt_of_cell? w _ hx121_1)).trans hx121_1
            replace hx121_2 := (HB.out.cell (World.block_lt_of_cell? w _ hx121_2)).trans hx121_2
            have HR121_2 := Za.mk hi121_2
            have HC121_2 := Za.mk hl121_2
            clear hi121_2 hl121_2
            replace p121 := eq_true p121
            replace q121 := eq_true q121
            go_wp2_with (first | ((with_reducible refine Zab (N := 5) rfl ?_); (try (refine gate_guard (by rfl) ?_; dsimp only)); refine Zac ?hg (N := 5) ?hd (cs := #[.int .u32 0, .int .u32 0, .slice none 0 0]) (t := 61) ?hr ?_; (case hd => rfl); (case hg => rfl); (case hr => go_simp <;> rfl); intro gb122 hg w24 hbox hb; have BK122 := Za.mk (hbox); have GW122 := Za.mk ((by rw [hg]; exact (Zl (by with_reducible repeat first | exact HB.out | apply Zc | apply Ze | apply Zd | refine Zk ?_ GE117.out | refine Zk ?_ GE120.out)) : w.heap.size ≤ gb122)); have GE122 := Za.mk ((by rw [hg]; exact (Zl (by with_reducible repeat first | exact HB.out | apply Zc | apply Ze | apply Zd | refine Zk ?_ GE117.out | refine Zk ?_ GE120.out)) : w.heap.size ≤ gb122)); replace HB := Za.mk (Zo (by with_reducible repeat first | exact HB.out | apply Zc | apply Ze | apply Zd | refine Zk ?_ GE117.out | refine Zk ?_ GE120.out) hb); have NB117_122 := Za.mk ((by rw [hg]; exact Nat.ne_of_lt (Zs (g := gb117) (o := .cells #[.slice (some ad119) l0_0.length c0_0] 31 (0, 0)) (by (with_reducible repeat first | apply Zg | apply Zf | apply Zh); exact BK117.out)) : gb117 ≠ gb122)); have NB122_117 := Za.mk ((by rw [hg]; exact Nat.ne_of_gt (Zs (g := gb117) (o := .cells #[.slice (some ad119) l0_0.length c0_0] 31 (0, 0)) (by (with_reducible repeat first | apply Zg | apply Zf | apply Zh); exact BK117.out)) : gb122 ≠ gb117)); replace BK117 := Za.mk (Zp (g := gb117) (o := .cells #[.slice (some ad119) l0_0.length c0_0] 31 (0, 0)) (by (with_reducible repeat first | apply Zg | apply Zf | apply Zh); exact BK117.out) hb); have NB120_122 := Za.mk ((by rw [hg]; exact Nat.ne_of_lt (Zs (g := gb120) (o := .cells #[.int .u32 ((Zi l0_0 x3_1).f0), .int .u32 ((Zi l0_0 x3_1).f1), .slice A119_2 ((Zi l0_0 x3_1).f2).length c119_2] 61 (0, 0)) (by (with_reducible repeat first | apply Zg | apply Zf | apply Zh); exact BK120.out)) : gb120 ≠ gb122)); have NB122_120 := Za.mk ((by rw [hg]; exact Nat.ne_of_gt (Zs (g := gb120) (o := .cells #[.int .u32 ((Zi l0_0 x3_1).f0), .int .u32 ((Zi l0_0 x3_1).f1), .slice A119_2 ((Zi l0_0 x3_1).f2).length c119_2] 61 (0, 0)) (by (with_reducible repeat first | apply Zg | apply Zf | apply Zh); exact BK120.out)) : gb122 ≠ gb120)); replace BK120 := Za.mk (Zp (g := gb120) (o := .cells #[.int .u32 ((Zi l0_0 x3_1).f0), .int .u32 ((Zi l0_0 x3_1).f1), .slice A119_2 ((Zi l0_0 x3_1).f2).length c119_2] 61 (0, 0)) (by (with_reducible repeat first | apply Zg | apply Zf | apply Zh); exact BK120.out) hb); clear hb hbox hg; have hnb25 := NB122_117.out; have hnc25 := NB117_122.out; have hnb26 := NB122_120.out; have hnc26 := NB120_122.out; have hcz27_0 : w24.cell? ⟨gb122, 0, none⟩ = some (.int .u32 0) := (Zb BK122.out 0).trans rfl; have hcz27_1 : w24.cell? ⟨gb122, 1, none⟩ = some (.int .u32 0) := (Zb BK122.out 1).trans rfl; have hcz27_2 : w24.cell? ⟨gb122, 2, none⟩ = some (.slice none 0 0) := (Zb BK122.out 2).trans rfl; have hfz27_0 := Zj BK122.out 0; have hfz27_1 := Zj BK122.out 1; have hfz27_2 := Zj BK122.out 2; have hcz28_0 : w24.cell? ⟨gb120, 0, none⟩ = some (.int .u32 ((Zi l0_0 x3_1).f0)) := (Zb BK120.out 0).trans rfl; have hcz28_1 : w24.cell? ⟨gb120, 1, none⟩ = some (.int .u32 ((Zi l0_0 x3_1).f1)) := (Zb BK120.out 1).trans rfl; have hcz28_2 : w24.cell? ⟨gb120, 2, none⟩ = some (.slice A119_2 ((Zi l0_0 x3_1).f2).length c119_2) := (Zb BK120.out 2).trans rfl; have hfz28_0 := Zj BK120.out 0; have hfz28_1 := Zj BK120.out 1; have hfz28_2 := Zj BK120.out 2))
            go_ret
            exact ⟨by first | rfl | (simp [Zm, Zn] <;> rfl) | (simp only [← hji18]; first | rfl | (simp [Zm, Zn] <;> rfl)) | (simp [*, Zm, Zn] <;> rfl), by with_reducible repeat first | exact HB.out | apply Zc | apply Ze | apply Zd | refine Zk ?_ GE117.out | refine Zk ?_ GE120.out | refine Zk ?_ GE122.out⟩
           rw [if_neg c21] at H
           have c21b0 : decide (((Zi l0_0 x3_1).f0) < ((Zi l0_0 (ji18)).f0)) = false := decide_eq_false c21
           clear c21
           by_cases c29 : ((Zi l0_0 (ji18)).f0) = ((Zi l0_0 x3_1).f0)
           ·rw [if_pos c29] at H
            have c29b0 : (((Zi l0_0 (ji18)).f0) == ((Zi l0_0 x3_1).f0)) = true := beq_iff_eq.mpr c29
            have c29b1 : (((Zi l0_0 (ji18)).f0) != ((Zi l0_0 x3_1).f0)) = false := bne_eq_false_iff_eq.mpr c29
            clear c29
            by_cases c30 : ((Zi l0_0 (ji18)).f1) ≥ ((Zi l0_0 x3_1).f1)
            ·rw [if_pos c30] at H
             have c30b0 : decide (((Zi l0_0 x3_1).f1) ≤ ((Zi l0_0 (ji18)).f1)) = true := decide_eq_true c30
             clear c30
             obtain rfl := Option.some.inj H
             have hnb31 := NB117_120.out
             have hnc31 := NB120_117.out
             have hcz32_0 : wc.cell? ⟨gb117, 0, none⟩ = some (.slice (some ad119) l0_0.length c0_0) := (Zb BK117.out 0).trans rfl
             have hfz32_0 := Zj BK117.out 0
             have p121 : 0 ≤ ((ji18) : Int) := of_decide_eq_true (by assumption)
             have q121 : (ji18) < (l0_0.length : Int) := of_decide_eq_true (by assumption)
             obtain ⟨ad121, A121_2, c121_2, e121, hx121_0, hx121_1, hx121_2, hl121_2, hi121_2⟩ := at_T61 HR0_0.out (ji18) p121 q121
             obtain rfl : ad119 = ad121 := (by injection e121)
             replace hx121_0 := (HB.out.cell (World.block_lt_of_cell? w _ hx121_0)).trans hx121_0
             replace hx121_1 := (HB.out.cell (World.block_lt_of_cell? w _ hx121_1)).trans hx121_1
             replace hx121_2 := (HB.out.cell (World.block_lt_of_cell? w _ hx121_2)).trans hx121_2
             have HR121_2 := Za.mk hi121_2
             have HC121_2 := Za.mk hl121_2
             clear hi121_2 hl121_2
             replace p121 := eq_true p121
             replace q121 := eq_true q121
             go_wp2_with (first | ((with_reducible refine Zab (N := 5) rfl ?_); (try (refine gate_guard (by rfl) ?_; dsimp only)); refine Zac ?hg (N := 5) ?hd (cs := #[.int .u32 0, .int .u32 0, .slice none 0 0]) (t := 61) ?hr ?_; (case hd => rfl); (case hg => rfl); (case hr => go_simp <;> rfl); intro gb122 hg w33 hbox hb; have BK122 := Za.mk (hbox); have GW122 := Za.mk ((by rw [hg]; exact (Zl (by with_reducible repeat first | exact HB.out | apply Zc | apply Ze | apply Zd | refine Zk ?_ GE117.out | refine Zk ?_ GE120.out)) : w.heap.size ≤ gb122)); have GE122 := Za.mk ((by rw [hg]; exact (Zl (by with_reducible repeat first | exact HB.out | apply Zc | apply Ze | apply Zd | refine Zk ?_ GE117.out | refine Zk ?_ GE120.out)) : w.heap.size ≤ gb122)); replace HB := Za.mk (Zo (by with_reducible repeat first | exact HB.out | apply Zc | apply Ze | apply Zd | refine Zk ?_ GE117.out | refine Zk ?_ GE120.out) hb); have NB117_122 := Za.mk ((by rw [hg]; exact Nat.ne_of_lt (Zs (g := gb117) (o := .cells #[.slice (some ad119) l0_0.length c0_0] 31 (0, 0)) (by (with_reducible repeat first | apply Zg | apply Zf | apply Zh); exact BK117.out)) : gb117 ≠ gb122)); have NB122_117 := Za.mk ((by rw [hg]; exact Nat.ne_of_gt (Zs (g := gb117) (o := .cells #[.slice (some ad119) l0_0.length c0_0] 31 (0, 0)) (by (with_reducible repeat first | apply Zg | apply Zf | apply Zh); exact BK117.out)) : gb122 ≠ gb117)); replace BK117 := Za.mk (Zp (g := gb117) (o := .cells #[.slice (some ad119) l0_0.length c0_0] 31 (0, 0)) (by (with_reducible repeat first | apply Zg | apply Zf | apply Zh); exact BK117.out) hb); have NB120_122 := Za.mk ((by rw [hg]; exact Nat.ne_of_lt (Zs (g := gb120) (o := .cells #[.int .u32 ((Zi l0_0 x3_1).f0), .int .u32 ((Zi l0_0 x3_1).f1), .slice A119_2 ((Zi l0_0 x3_1).f2).length c119_2] 61 (0, 0)) (by (with_reducible repeat first | apply Zg | apply Zf | apply Zh); exact BK120.out)) : gb120 ≠ gb122)); have NB122_120 := Za.mk ((by rw [hg]; exact Nat.ne_of_gt (Zs (g := gb120) (o := .cells #[.int .u32 ((Zi l0_0 x3_1).f0), .int .u32 ((Zi l0_0 x3_1).f1), .slice A119_2 ((Zi l0_0 x3_1).f2).length c119_2] 61 (0, 0)) (by (with_reducible repeat first | apply Zg | apply Zf | apply Zh); exact BK120.out)) : gb122 ≠ gb120)); replace BK120 := Za.mk (Zp (g := gb120) (o := .cells #[.int .u32 ((Zi l0_0 x3_1).f0), .int .u32 ((Zi l0_0 x3_1).f1), .slice A119_2 ((Zi l0_0 x3_1).f2).length c119_2] 61 (0, 0)) (by (with_reducible repeat first | apply Zg | apply Zf | apply Zh); exact BK120.out) hb); clear hb hbox hg; have hnb34 := NB122_117.out; have hnc34 := NB117_122.out; have hnb35 := NB122_120.out; have hnc35 := NB120_122.out; have hcz36_0 : w33.cell? ⟨gb122, 0, none⟩ = some (.int .u32 0) := (Zb BK122.out 0).trans rfl; have hcz36_1 : w33.cell? ⟨gb122, 1, none⟩ = some (.int .u32 0) := (Zb BK122.out 1).trans rfl; have hcz36_2 : w33.cell? ⟨gb122, 2, none⟩ = some (.slice none 0 0) := (Zb BK122.out 2).trans rfl; have hfz36_0 := Zj BK122.out 0; have hfz36_1 := Zj BK122.out 1; have hfz36_2 := Zj BK122.out 2; have hcz37_0 : w33.cell? ⟨gb120, 0, none⟩ = some (.int .u32 ((Zi l0_0 x3_1).f0)) := (Zb BK120.out 0).trans rfl; have hcz37_1 : w33.cell? ⟨gb120, 1, none⟩ = some (.int .u32 ((Zi l0_0 x3_1).f1)) := (Zb BK120.out 1).trans rfl; have hcz37_2 : w33.cell? ⟨gb120, 2, none⟩ = some (.slice A119_2 ((Zi l0_0 x3_1).f2).length c119_2) := (Zb BK120.out 2).trans rfl; have hfz37_0 := Zj BK120.out 0; have hfz37_1 := Zj BK120.out 1; have hfz37_2 := Zj BK120.out 2))
             go_ret
             exact ⟨by first | rfl | (simp [Zm, Zn] <;> rfl) | (simp only [← hji18]; first | rfl | (simp [Zm, Zn] <;> rfl)) | (simp [*, Zm, Zn] <;> rfl), by with_reducible repeat first | exact HB.out | apply Zc | apply Ze | apply Zd | refine Zk ?_ GE117.out | refine Zk ?_ GE120.out | refine Zk ?_ GE122.out⟩
            rw [if_neg c30] at H
            have c30b0 : decide (((Zi l0_0 x3_1).f1) ≤ ((Zi l0_0 (ji18)).f1)) = false := decide_eq_false c30
            clear c30
            have H' := Za.mk H
            clear H
            have hnb38 := NB117_120.out
            have hnc38 := NB120_117.out
            have hcz39_0 : wc.cell? ⟨gb117, 0, none⟩ = some (.slice (some ad119) l0_0.length c0_0) := (Zb BK117.out 0).trans rfl
            have hfz39_0 := Zj BK117.out 0
            have p121 : 0 ≤ ((ji18) : Int) := of_decide_eq_true (by assumption)
            have q121 : (ji18) < (l0_0.length : Int) := of_decide_eq_true (by assumption)
            obtain ⟨ad121, A121_2, c121_2, e121, hx121_0, hx121_1, hx121_2, hl121_2, hi121_2⟩ := at_T61 HR0_0.out (ji18) p121 q121
            obtain rfl : ad119 = ad121 := (by injection e121)
            replace hx121_0 := (HB.out.cell (World.block_lt_of_cell? w _ hx121_0)).trans hx121_0
            replace hx121_1 := (HB.out.cell (World.block_lt_of_cell? w _ hx121_1)).trans hx121_1
            replace hx121_2 := (HB.out.cell (World.block_lt_of_cell? w _ hx121_2)).trans hx121_2
            have HR121_2 := Za.mk hi121_2
            have HC121_2 := Za.mk hl121_2
            clear hi121_2 hl121_2
            replace p121 := eq_true p121
            replace q121 := eq_true q121
            go_wp2_with (first | ((with_reducible refine Zab (N := 5) rfl ?_); (try (refine gate_guard (by rfl) ?_; dsimp only)); refine Zac ?hg (N := 5) ?hd (cs := #[.int .u32 0, .int .u32 0, .slice none 0 0]) (t := 61) ?hr ?_; (case hd => rfl); (case hg => rfl); (case hr => go_simp <;> rfl); intro gb122 hg w40 hbox hb; have BK122 := Za.mk (hbox); have GW122 := Za.mk ((by rw [hg]; exact (Zl (by with_reducible repeat first | exact HB.out | apply Zc | apply Ze | apply Zd | refine Zk ?_ GE117.out | refine Zk ?_ GE120.out)) : w.heap.size ≤ gb122)); have GE122 := Za.mk ((by rw [hg]; exact (Zl (by with_reducible repeat first | exact HB.out | apply Zc | apply Ze | apply Zd | refine Zk ?_ GE117.out | refine Zk ?_ GE120.out)) : w.heap.size ≤ gb122)); replace HB := Za.mk (Zo (by with_reducible repeat first | exact HB.out | apply Zc | apply Ze | apply Zd | refine Zk ?_ GE117.out | refine Zk ?_ GE120.out) hb); have NB117_122 := Za.mk ((by rw [hg]; exact Nat.ne_of_lt (Zs (g := gb117) (o := .cells #[.slice (some ad119) l0_0.length c0_0] 31 (0, 0)) (by (with_reducible repeat first | apply Zg | apply Zf | apply Zh); exact BK117.out)) : gb117 ≠ gb122)); have NB122_117 := Za.mk ((by rw [hg]; exact Nat.ne_of_gt (Zs (g := gb117) (o := .cells #[.slice (some ad119) l0_0.length c0_0] 31 (0, 0)) (by (with_reducible repeat first | apply Zg | apply Zf | apply Zh); exact BK117.out)) : gb122 ≠ gb117)); replace BK117 := Za.mk (Zp (g := gb117) (o := .cells #[.slice (some ad119) l0_0.length c0_0] 31 (0, 0)) (by (with_reducible repeat first | apply Zg | apply Zf | apply Zh); exact BK117.out) hb); have NB120_122 := Za.mk ((by rw [hg]; exact Nat.ne_of_lt (Zs (g := gb120) (o := .cells #[.int .u32 ((Zi l0_0 x3_1).f0), .int .u32 ((Zi l0_0 x3_1).f1), .slice A119_2 ((Zi l0_0 x3_1).f2).length c119_2] 61 (0, 0)) (by (with_reducible repeat first | apply Zg | apply Zf | apply Zh); exact BK120.out)) : gb120 ≠ gb122)); have NB122_120 := Za.mk ((by rw [hg]; exact Nat.ne_of_gt (Zs (g := gb120) (o := .cells #[.int .u32 ((Zi l0_0 x3_1).f0), .int .u32 ((Zi l0_0 x3_1).f1), .slice A119_2 ((Zi l0_0 x3_1).f2).length c119_2] 61 (0, 0)) (by (with_reducible repeat first | apply Zg | apply Zf | apply Zh); exact BK120.out)) : gb122 ≠ gb120)); replace BK120 := Za.mk (Zp (g := gb120) (o := .cells #[.int .u32 ((Zi l0_0 x3_1).f0), .int .u32 ((Zi l0_0 x3_1).f1), .slice A119_2 ((Zi l0_0 x3_1).f2).length c119_2] 61 (0, 0)) (by (with_reducible repeat first | apply Zg | apply Zf | apply Zh); exact BK120.out) hb); clear hb hbox hg; have hnb41 := NB122_117.out; have hnc41 := NB117_122.out; have hnb42 := NB122_120.out; have hnc42 := NB120_122.out; have hcz43_0 : w40.cell? ⟨gb122, 0, none⟩ = some (.int .u32 0) := (Zb BK122.out 0).trans rfl; have hcz43_1 : w40.cell? ⟨gb122, 1, none⟩ = some (.int .u32 0) := (Zb BK122.out 1).trans rfl; have hcz43_2 : w40.cell? ⟨gb122, 2, none⟩ = some (.slice none 0 0) := (Zb BK122.out 2).trans rfl; have hfz43_0 := Zj BK122.out 0; have hfz43_1 := Zj BK122.out 1; have hfz43_2 := Zj BK122.out 2; have hcz44_0 : w40.cell? ⟨gb120, 0, none⟩ = some (.int .u32 ((Zi l0_0 x3_1).f0)) := (Zb BK120.out 0).trans rfl; have hcz44_1 : w40.cell? ⟨gb120, 1, none⟩ = some (.int .u32 ((Zi l0_0 x3_1).f1)) := (Zb BK120.out 1).trans rfl; have hcz44_2 : w40.cell? ⟨gb120, 2, none⟩ = some (.slice A119_2 ((Zi l0_0 x3_1).f2).length c119_2) := (Zb BK120.out 2).trans rfl; have hfz44_0 := Zj BK120.out 0; have hfz44_1 := Zj BK120.out 1; have hfz44_2 := Zj BK120.out 2))
            go_meet
            case rel => exact ⟨_, H', ⟨by have := HK1.out; have := HJ4.out; first | omega | exact Nat.le_refl _⟩, ⟨by (with_reducible repeat first | apply Zg | apply Zf | apply Zh); refine Zt ?_ NB117_122.out _; (with_reducible repeat first | apply Zg | apply Zf | apply Zh); refine Zt ?_ NB117_122.out _; (with_reducible repeat first | apply Zg | apply Zf | apply Zh); refine Zt ?_ NB117_122.out _; (with_reducible repeat first | apply Zg | apply Zf | apply Zh); exact BK117.out⟩, ⟨by (with_reducible repeat first | apply Zg | apply Zf | apply Zh); refine Zt ?_ NB120_122.out _; (with_reducible repeat first | apply Zg | apply Zf | apply Zh); refine Zt ?_ NB120_122.out _; (with_reducible repeat first | apply Zg | apply Zf | apply Zh); refine Zt ?_ NB120_122.out _; (with_reducible repeat first | apply Zg | apply Zf | apply Zh); exact BK120.out⟩, ⟨by with_reducible repeat first | exact HB.out | apply Zc | apply Ze | apply Zd | refine Zk ?_ GE117.out | refine Zk ?_ GE120.out | refine Zk ?_ GE122.out⟩⟩
           rw [if_neg c29] at H
           have c29b0 : (((Zi l0_0 (ji18)).f0) == ((Zi l0_0 x3_1).f0)) = false := beq_eq_false_iff_ne.mpr c29
           have c29b1 : (((Zi l0_0 (ji18)).f0) != ((Zi l0_0 x3_1).f0)) = true := bne_iff_ne.mpr c29
           have H' := Za.mk H
           clear H
           have hnb45 := NB117_120.out
           have hnc45 := NB120_117.out
           have hcz46_0 : wc.cell? ⟨gb117, 0, none⟩ = some (.slice (some ad119) l0_0.length c0_0) := (Zb BK117.out 0).trans rfl
           have hfz46_0 := Zj BK117.out 0
           have p121 : 0 ≤ ((ji18) : Int) := of_decide_eq_true (by assumption)
           have q121 : (ji18) < (l0_0.length : Int) := of_decide_eq_true (by assumption)
           obtain ⟨ad121, A121_2, c121_2, e121, hx121_0, hx121_1, hx121_2, hl121_2, hi121_2⟩ := at_T61 HR0_0.out (ji18) p121 q121
           obtain rfl : ad119 = ad121 := (by injection e121)
           replace hx121_0 := (HB.out.cell (World.block_lt_of_cell? w _ hx121_0)).trans hx121_0
           replace hx121_1 := (HB.out.cell (World.block_lt_of_cell? w _ hx121_1)).trans hx121_1
           replace hx121_2 := (HB.out.cell (World.block_lt_of_cell? w _ hx121_2)).trans hx121_2
           have HR121_2 := Za.mk hi121_2
           have HC121_2 := Za.mk hl121_2
           clear hi121_2 hl121_2
           replace p121 := eq_true p121
           replace q121 := eq_true q121
           go_wp2_with (first | ((with_reducible refine Zab (N := 5) rfl ?_); (try (refine gate_guard (by rfl) ?_; dsimp only)); refine Zac ?hg (N := 5) ?hd (cs := #[.int .u32 0, .int .u32 0, .slice none 0 0]) (t := 61) ?hr ?_; (case hd => rfl); (case hg => rfl); (case hr => go_simp <;> rfl); intro gb122 hg w47 hbox hb; have BK122 := Za.mk (hbox); have GW122 := Za.mk ((by rw [hg]; exact (Zl (by with_reducible repeat first | exact HB.out | apply Zc | apply Ze | apply Zd | refine Zk ?_ GE117.out | refine Zk ?_ GE120.out)) : w.heap.size ≤ gb122)); have GE122 := Za.mk ((by rw [hg]; exact (Zl (by with_reducible repeat first | exact HB.out | apply Zc | apply Ze | apply Zd | refine Zk ?_ GE117.out | refine Zk ?_ GE120.out)) : w.heap.size ≤ gb122)); replace HB := Za.mk (Zo (by with_reducible repeat first | exact HB.out | apply Zc | apply Ze | apply Zd | refine Zk ?_ GE117.out | refine Zk ?_ GE120.out) hb); have NB117_122 := Za.mk ((by rw [hg]; exact Nat.ne_of_lt (Zs (g := gb117) (o := .cells #[.slice (some ad119) l0_0.length c0_0] 31 (0, 0)) (by (with_reducible repeat first | apply Zg | apply Zf | apply Zh); exact BK117.out)) : gb117 ≠ gb122)); have NB122_117 := Za.mk ((by rw [hg]; exact Nat.ne_of_gt (Zs (g := gb117) (o := .cells #[.slice (some ad119) l0_0.length c0_0] 31 (0, 0)) (by (with_reducible repeat first | apply Zg | apply Zf | apply Zh); exact BK117.out)) : gb122 ≠ gb117)); replace BK117 := Za.mk (Zp (g := gb117) (o := .cells #[.slice (some ad119) l0_0.length c0_0] 31 (0, 0)) (by (with_reducible repeat first | apply Zg | apply Zf | apply Zh); exact BK117.out) hb); have NB120_122 := Za.mk ((by rw [hg]; exact Nat.ne_of_lt (Zs (g := gb120) (o := .cells #[.int .u32 ((Zi l0_0 x3_1).f0), .int .u32 ((Zi l0_0 x3_1).f1), .slice A119_2 ((Zi l0_0 x3_1).f2).length c119_2] 61 (0, 0)) (by (with_reducible repeat first | apply Zg | apply Zf | apply Zh); exact BK120.out)) : gb120 ≠ gb122)); have NB122_120 := Za.mk ((by rw [hg]; exact Nat.ne_of_gt (Zs (g := gb120) (o := .cells #[.int .u32 ((Zi l0_0 x3_1).f0), .int .u32 ((Zi l0_0 x3_1).f1), .slice A119_2 ((Zi l0_0 x3_1).f2).length c119_2] 61 (0, 0)) (by (with_reducible repeat first | apply Zg | apply Zf | apply Zh); exact BK120.out)) : gb122 ≠ gb120)); replace BK120 := Za.mk (Zp (g := gb120) (o := .cells #[.int .u32 ((Zi l0_0 x3_1).f0), .int .u32 ((Zi l0_0 x3_1).f1), .slice A119_2 ((Zi l0_0 x3_1).f2).length c119_2] 61 (0, 0)) (by (with_reducible repeat first | apply Zg | apply Zf | apply Zh); exact BK120.out) hb); clear hb hbox hg; have hnb48 := NB122_117.out; have hnc48 := NB117_122.out; have hnb49 := NB122_120.out; have hnc49 := NB120_122.out; have hcz50_0 : w47.cell? ⟨gb122, 0, none⟩ = some (.int .u32 0) := (Zb BK122.out 0).trans rfl; have hcz50_1 : w47.cell? ⟨gb122, 1, none⟩ = some (.int .u32 0) := (Zb BK122.out 1).trans rfl; have hcz50_2 : w47.cell? ⟨gb122, 2, none⟩ = some (.slice none 0 0) := (Zb BK122.out 2).trans rfl; have hfz50_0 := Zj BK122.out 0; have hfz50_1 := Zj BK122.out 1; have hfz50_2 := Zj BK122.out 2; have hcz51_0 : w47.cell? ⟨gb120, 0, none⟩ = some (.int .u32 ((Zi l0_0 x3_1).f0)) := (Zb BK120.out 0).trans rfl; have hcz51_1 : w47.cell? ⟨gb120, 1, none⟩ = some (.int .u32 ((Zi l0_0 x3_1).f1)) := (Zb BK120.out 1).trans rfl; have hcz51_2 : w47.cell? ⟨gb120, 2, none⟩ = some (.slice A119_2 ((Zi l0_0 x3_1).f2).length c119_2) := (Zb BK120.out 2).trans rfl; have hfz51_0 := Zj BK120.out 0; have hfz51_1 := Zj BK120.out 1; have hfz51_2 := Zj BK120.out 2))
           go_meet
           case rel => exact ⟨_, H', ⟨by have := HK1.out; have := HJ4.out; first | omega | exact Nat.le_refl _⟩, ⟨by (with_reducible repeat first | apply Zg | apply Zf | apply Zh); refine Zt ?_ NB117_122.out _; (with_reducible repeat first | apply Zg | apply Zf | apply Zh); refine Zt ?_ NB117_122.out _; (with_reducible repeat first | apply Zg | apply Zf | apply Zh); refine Zt ?_ NB117_122.out _; (with_reducible repeat first | apply Zg | apply Zf | apply Zh); exact BK117.out⟩, ⟨by (with_reducible repeat first | apply Zg | apply Zf | apply Zh); refine Zt ?_ NB120_122.out _; (with_reducible repeat first | apply Zg | apply Zf | apply Zh); refine Zt ?_ NB120_122.out _; (with_reducible repeat first | apply Zg | apply Zf | apply Zh); refine Zt ?_ NB120_122.out _; (with_reducible repeat first | apply Zg | apply Zf | apply Zh); exact BK120.out⟩, ⟨by with_reducible repeat first | exact HB.out | apply Zc | apply Ze | apply Zd | refine Zk ?_ GE117.out | refine Zk ?_ GE120.out | refine Zk ?_ GE122.out⟩⟩
          rw [if_neg c20] at H
          exact absurd H (by simp)
         rw [if_neg c19] at H
         exact absurd H (by simp)
        rw [if_neg c17] at H
        have c17b0 : decide (0 < x3_1) = false := decide_eq_false c17
        clear c17
        (first | rw [c17b0] | (simp only [Zu, Zv]; rw [c17b0]) | skip)
        have H' := Za.mk H
        clear H
        go_wp2
        go_meet
        case rel => exact ⟨_, H', ⟨by have := HK1.out; have := HJ4.out; first | omega | exact Nat.le_refl _⟩, ⟨by (with_reducible repeat first | apply Zg | apply Zf | apply Zh); exact BK117.out⟩, ⟨by (with_reducible repeat first | apply Zg | apply Zf | apply Zh); exact BK120.out⟩, ⟨by with_reducible repeat first | exact HB.out | apply Zc | apply Ze | apply Zd | refine Zk ?_ GE117.out | refine Zk ?_ GE120.out⟩⟩
       case rest =>
        clear HC16
        try clear c1
        try clear p1
        try clear q1
        try clear hx1
        try clear c2
        try clear p2
        try clear c3
        try clear c3b0
        try clear c4
        try clear c4b0
        try clear p6
        try clear c8
        try clear c10
        try clear c10b0
        try clear c10b1
        try clear c11
        try clear p11
        try clear q11
        try clear hx11
        try clear c12
        try clear p12
        try clear q12
        try clear hx12
        try clear c13
        try clear c14
        try clear c15
        try clear c17
        try clear c17b0
        try clear c19
        try clear c19b0
        try clear c20
        try clear c20b0
        try clear c21
        try clear c21b0
        try clear c22
        try clear c25
        try clear c26
        try clear c29
        try clear c29b0
        try clear c29b1
        try clear c30
        try clear c30b0
        try clear c31
        try clear c34
        try clear c35
        try clear c38
        try clear c41
        try clear c42
        try clear c45
        try clear c48
        try clear c49
        try clear hcz12_0
        try clear hcz12_1
        try clear hcz12_2
        try clear hcz14_0
        try clear hcz14_1
        try clear hcz14_2
        try clear hcz23_0
        try clear hcz27_0
        try clear hcz27_1
        try clear hcz27_2
        try clear hcz28_0
        try clear hcz28_1
        try clear hcz28_2
        try clear hcz32_0
        try clear hcz36_0
        try clear hcz36_1
        try clear hcz36_2
        try clear hcz37_0
        try clear hcz37_1
        try clear hcz37_2
        try clear hcz39_0
        try clear hcz43_0
        try clear hcz43_1
        try clear hcz43_2
        try clear hcz44_0
        try clear hcz44_1
        try clear hcz44_2
        try clear hcz46_0
        try clear hcz50_0
        try clear hcz50_1
        try clear hcz50_2
        try clear hcz51_0
        try clear hcz51_1
        try clear hcz51_2
        try clear hcz6_0
        try clear hcz9_0
        try clear hcz9_1
        try clear hcz9_2
        try clear hfz12_0
        try clear hfz12_1
        try clear hfz12_2
        try clear hfz14_0
        try clear hfz14_1
        try clear hfz14_2
        try clear hfz23_0
        try clear hfz27_0
        try clear hfz27_1
        try clear hfz27_2
        try clear hfz28_0
        try clear hfz28_1
        try clear hfz28_2
        try clear hfz32_0
        try clear hfz36_0
        try clear hfz36_1
        try clear hfz36_2
        try clear hfz37_0
        try clear hfz37_1
        try clear hfz37_2
        try clear hfz39_0
        try clear hfz43_0
        try clear hfz43_1
        try clear hfz43_2
        try clear hfz44_0
        try clear hfz44_1
        try clear hfz44_2
        try clear hfz46_0
        try clear hfz50_0
        try clear hfz50_1
        try clear hfz50_2
        try clear hfz51_0
        try clear hfz51_1
        try clear hfz51_2
        try clear hfz6_0
        try clear hfz9_0
        try clear hfz9_1
        try clear hfz9_2
        try clear hx119_0
        try clear hx119_1
        try clear hx119_2
        try clear hx121_0
        try clear hx121_1
        try clear hx121_2
        try clear p1
        try clear p11
        try clear p119
        try clear p121
        try clear p2
        try clear q1
        try clear q11
        try clear q119
        try clear q121
        obtain ⟨kq, HA, HJ15, BK117, BK120, HB⟩ := hcut
        cases kq with
        | zero => exact absurd HA.out (by simp [Zar.j2])
        | succ kj15 =>
         have H := HA.out
         clear HA
         simp only [Zar.j2] at H
         have H' := Za.mk H
         clear H
         go_wp2
         go_loopg [6] kj15 (fun kq v6 w' => ∃ (x6_4 : Int), v6 = .int .i64 x6_4 ∧ Za (Zar.l1 kq x3_1 x6_4 l0_0 ((Zi l0_0 x3_1).f0) ((Zi l0_0 x3_1).f1) ((Zi l0_0 x3_1).f2) = some r) ∧ Za (kq ≤ kj15) ∧ Za (w'.heap[gb117]? = some (.cells #[(.slice (some ad119) l0_0.length c0_0)] 31 (0, 0))) ∧ Za (w'.heap[gb120]? = some (.cells #[.int .u32 ((Zi l0_0 x3_1).f0), .int .u32 ((Zi l0_0 x3_1).f1), (.slice A119_2 ((Zi l0_0 x3_1).f2).length c119_2)] 61 (0, 0))) ∧ Za (Below w.heap.size w w'))
         case atStart => exact ⟨(0), (by first | rfl | (simp; done) | (simp [*]; done)), H', ⟨Nat.le_refl _⟩, ⟨by (with_reducible repeat first | apply Zg | apply Zf | apply Zh); exact BK117.out⟩, ⟨by (with_reducible repeat first | apply Zg | apply Zf | apply Zh); exact BK120.out⟩, ⟨by with_reducible repeat first | exact HB.out | apply Zc | apply Ze | apply Zd | refine Zk ?_ GE117.out | refine Zk ?_ GE120.out⟩⟩
         case round =>
          clear H'
          try clear c1
          try clear p1
          try clear q1
          try clear hx1
          try clear c2
          try clear p2
          try clear c3
          try clear c3b0
          try clear c4
          try clear c4b0
          try clear p6
          try clear c8
          try clear c10
          try clear c10b0
          try clear c10b1
          try clear c11
          try clear p11
          try clear q11
          try clear hx11
          try clear c12
          try clear p12
          try clear q12
          try clear hx12
          try clear c13
          try clear c14
          try clear c15
          try clear c17
          try clear c17b0
          try clear c19
          try clear c19b0
          try clear c20
          try clear c20b0
          try clear c21
          try clear c21b0
          try clear c22
          try clear c25
          try clear c26
          try clear c29
          try clear c29b0
          try clear c29b1
          try clear c30
          try clear c30b0
          try clear c31
          try clear c34
          try clear c35
          try clear c38
          try clear c41
          try clear c42
          try clear c45
          try clear c48
          try clear c49
          try clear hcz12_0
          try clear hcz12_1
          try clear hcz12_2
          try clear hcz14_0
          try clear hcz14_1
          try clear hcz14_2
          try clear hcz23_0
          try clear hcz27_0
          try clear hcz27_1
          try clear hcz27_2
          try clear hcz28_0
          try clear hcz28_1
          try clear hcz28_2
          try clear hcz32_0
          try clear hcz36_0
          try clear hcz36_1
          try clear hcz36_2
          try clear hcz37_0
          try clear hcz37_1
          try clear hcz37_2
          try clear hcz39_0
          try clear hcz43_0
          try clear hcz43_1
          try clear hcz43_2
          try clear hcz44_0
          try clear hcz44_1
          try clear hcz44_2
          try clear hcz46_0
          try clear hcz50_0
          try clear hcz50_1
          try clear hcz50_2
          try clear hcz51_0
          try clear hcz51_1
          try clear hcz51_2
          try clear hcz6_0
          try clear hcz9_0
          try clear hcz9_1
          try clear hcz9_2
          try clear hfz12_0
          try clear hfz12_1
          try clear hfz12_2
          try clear hfz14_0
          try clear hfz14_1
          try clear hfz14_2
          try clear hfz23_0
          try clear hfz27_0
          try clear hfz27_1
          try clear hfz27_2
          try clear hfz28_0
          try clear hfz28_1
          try clear hfz28_2
          try clear hfz32_0
          try clear hfz36_0
          try clear hfz36_1
          try clear hfz36_2
          try clear hfz37_0
          try clear hfz37_1
          try clear hfz37_2
          try clear hfz39_0
          try clear hfz43_0
          try clear hfz43_1
          try clear hfz43_2
          try clear hfz44_0
          try clear hfz44_1
          try clear hfz44_2
          try clear hfz46_0
          try clear hfz50_0
          try clear hfz50_1
          try clear hfz50_2
          try clear hfz51_0
          try clear hfz51_1
          try clear hfz51_2
          try clear hfz6_0
          try clear hfz9_0
          try clear hfz9_1
          try clear hfz9_2
          try clear hx119_0
          try clear hx119_1
          try clear hx119_2
          try clear hx121_0
          try clear hx121_1
          try clear hx121_2
          try clear p1
          try clear p11
          try clear p119
          try clear p12
          try clear p121
          try clear p2
          try clear p6
          try clear q1
          try clear q11
          try clear q119
          try clear q12
          try clear q121
          obtain ⟨x6_4, rfl, HA, HK4, BK117, BK120, HB⟩ := hrel
          cases gk with
          | zero => exact absurd HA.out (by simp [Zar.l1])
          | succ k4 =>
           have H := HA.out
           clear HA
           simp only [Zar.l1] at H
           by_cases c52 : x6_4 < (((Zi l0_0 x3_1).f2).length : Int)
           ·rw [if_pos c52] at H
            have c52b0 : decide (x6_4 < (((Zi l0_0 x3_1).f2).length : Int)) = true := decide_eq_true c52
            clear c52
            by_cases c53 : 0 ≤ x6_4
            ·rw [if_pos c53] at H
             have c53b0 : decide (0 ≤ x6_4) = true := decide_eq_true c53
             clear c53
             replace H := Option.bind_eq_some_iff.mp H
             obtain ⟨t124, A540, H⟩ := H
             replace H : (if t124 = true then (Zar.l1 k4 x3_1 (wrap64 (x6_4 + 1)) l0_0 ((Zi l0_0 x3_1).f0) ((Zi l0_0 x3_1).f1) ((Zi l0_0 x3_1).f2)) else (some false)) = some r := H
             have A54 := Za.mk A540
             clear A540
             by_cases c55 : t124 = true
             ·subst c55
              have H1 : (Zar.l1 k4 x3_1 (wrap64 (x6_4 + 1)) l0_0 ((Zi l0_0 x3_1).f0) ((Zi l0_0 x3_1).f1) ((Zi l0_0 x3_1).f2)) = some r := by rw [if_pos rfl] at H; exact H
              clear H
              have H := H1
              clear H1
              have H' := Za.mk H
              clear H
              have hnb56 := NB120_117.out
              have hnc56 := NB117_120.out
              have hcz57_0 : wr.cell? ⟨gb120, 0, none⟩ = some (.int .u32 ((Zi l0_0 x3_1).f0)) := (Zb BK120.out 0).trans rfl
              have hcz57_1 : wr.cell? ⟨gb120, 1, none⟩ = some (.int .u32 ((Zi l0_0 x3_1).f1)) := (Zb BK120.out 1).trans rfl
              have hcz57_2 : wr.cell? ⟨gb120, 2, none⟩ = some (.slice A119_2 ((Zi l0_0 x3_1).f2).length c119_2) := (Zb BK120.out 2).trans rfl
              have hfz57_0 := Zj BK120.out 0
              have hfz57_1 := Zj BK120.out 1
              have hfz57_2 := Zj BK120.out 2
              have p123 : 0 ≤ (x6_4 : Int) := of_decide_eq_true (by assumption)
              have q123 : x6_4 < (((Zi l0_0 x3_1).f2).length : Int) := of_decide_eq_true (by assumption)
              obtain ⟨ad123, A123_0, c123_0, e123, hx123_0, hl123_0, hi123_0⟩ := at_T65 HR119_2.out x6_4 p123 q123
              cases e123
              replace hx123_0 := (HB.out.cell (World.block_lt_of_cell? w _ hx123_0)).trans hx123_0
              have HR123_0 := Za.mk hi123_0
              have HC123_0 := Za.mk hl123_0
              clear hi123_0 hl123_0
              replace p123 := eq_true p123
              replace q123 := eq_true q123
              go_wp2_with (first | ((with_reducible refine Zaj (f := 25) rfl ?_); refine Zai (some 68) rfl rfl Try.func25 (by kernel_rfl) rfl #[.agg #[.slice A123_0 ((Zao ((Zi l0_0 x3_1).f2) x6_4).f0).length c123_0]] rfl (by (try simp only [ZA, ZB, ZC]); first | done | rfl) ?_; (with_reducible refine (Zbu.calls k4 _ _ ((Zao ((Zi l0_0 x3_1).f2) x6_4).f0) true _ ?side1 ?side2 A54.out).mono ?_); (case side1 => repeat (first | exact (Kd.Zan HR123_0.out HB.out) | (with_reducible refine Kd.Zau ?_ _) | (with_reducible refine Kd.Zaw ?_ _) | (with_reducible refine Kd.Zav ?_))); (case side2 => exact HC123_0.out); rintro e w58 ⟨rfl, hb⟩; refine ⟨_, rfl, ?_⟩; replace BK117 := Za.mk (Zp (g := gb117) (o := .cells #[.slice (some ad119) l0_0.length c0_0] 31 (0, 0)) (by (with_reducible repeat first | apply Zg | apply Zf | apply Zh); exact BK117.out) hb); replace BK120 := Za.mk (Zp (g := gb120) (o := .cells #[.int .u32 ((Zi l0_0 x3_1).f0), .int .u32 ((Zi l0_0 x3_1).f1), .slice (some ad123) ((Zi l0_0 x3_1).f2).length c119_2] 61 (0, 0)) (by (with_reducible repeat first | apply Zg | apply Zf | apply Zh); exact BK120.out) hb); replace HB := Za.mk (Zo (by with_reducible repeat first | exact HB.out | apply Zc | apply Ze | apply Zd | refine Zk ?_ GE117.out | refine Zk ?_ GE120.out) hb); (try clear hb); (try clear hb2); (try clear hk); (try clear hi)))
              go_roundg k4
              case measure => have := HK1.out; have := HJ4.out; have := HJ15.out; have := HK4.out; omega
              case rel => exact ⟨(wrap64 (x6_4 + 1)), (by first | rfl | (simp; done) | (simp [*]; done)), H', ⟨by have := HK1.out; have := HJ4.out; have := HJ15.out; have := HK4.out; omega⟩, ⟨by (with_reducible repeat first | apply Zg | apply Zf | apply Zh); exact BK117.out⟩, ⟨by (with_reducible repeat first | apply Zg | apply Zf | apply Zh); exact BK120.out⟩, ⟨by with_reducible repeat first | exact HB.out | apply Zc | apply Ze | apply Zd | refine Zk ?_ GE117.out | refine Zk ?_ GE120.out⟩⟩
             replace c55 := Bool.eq_false_iff.mpr c55
             subst c55
             have H1 : (some false) = some r := by rw [if_neg (show ¬ (false = true) by decide)] at H; exact H
             clear H
             have H := H1
             clear H1
             obtain rfl := Option.some.inj H
             have hnb59 := NB120_117.out
             have hnc59 := NB117_120.out
             have hcz60_0 : wr.cell? ⟨gb120, 0, none⟩ = some (.int .u32 ((Zi l0_0 x3_1).f0)) := (Zb BK120.out 0).trans rfl
             have hcz60_1 : wr.cell? ⟨gb120, 1, none⟩ = some (.int .u32 ((Zi l0_0 x3_1).f1)) := (Zb BK120.out 1).trans rfl
             have hcz60_2 : wr.cell? ⟨gb120, 2, none⟩ = some (.slice A119_2 ((Zi l0_0 x3_1).f2).length c119_2) := (Zb BK120.out 2).trans rfl
             have hfz60_0 := Zj BK120.out 0
             have hfz60_1 := Zj BK120.out 1
             have hfz60_2 := Zj BK120.out 2
             have p123 : 0 ≤ (x6_4 : Int) := of_decide_eq_true (by assumption)
             have q123 : x6_4 < (((Zi l0_0 x3_1).f2).length : Int) := of_decide_eq_true (by assumption)
             obtain ⟨ad123, A123_0, c123_0, e123, hx123_0, hl123_0, hi123_0⟩ := at_T65 HR119_2.out x6_4 p123 q123
             cases e123
             replace hx123_0 := (HB.out.cell (World.block_lt_of_cell? w _ hx123_0)).trans hx123_0
             have HR123_0 := Za.mk hi123_0
             have HC123_0 := Za.mk hl123_0
             clear hi123_0 hl123_0
             replace p123 := eq_true p123
             replace q123 := eq_true q123
             go_wp2_with (first | ((with_reducible refine Zaj (f := 25) rfl ?_); refine Zai (some 68) rfl rfl Try.func25 (by kernel_rfl) rfl #[.agg #[.slice A123_0 ((Zao ((Zi l0_0 x3_1).f2) x6_4).f0).length c123_0]] rfl (by (try simp only [ZA, ZB, ZC]); first | done | rfl) ?_; (with_reducible refine (Zbu.calls k4 _ _ ((Zao ((Zi l0_0 x3_1).f2) x6_4).f0) false _ ?side1 ?side2 A54.out).mono ?_); (case side1 => repeat (first | exact (Kd.Zan HR123_0.out HB.out) | (with_reducible refine Kd.Zau ?_ _) | (with_reducible refine Kd.Zaw ?_ _) | (with_reducible refine Kd.Zav ?_))); (case side2 => exact HC123_0.out); rintro e w61 ⟨rfl, hb⟩; refine ⟨_, rfl, ?_⟩; replace BK117 := Za.mk (Zp (g := gb117) (o := .cells #[.slice (some ad119) l0_0.length c0_0] 31 (0, 0)) (by (with_reducible repeat first | apply Zg | apply Zf | apply Zh); exact BK117.out) hb); replace BK120 := Za.mk (Zp (g := gb120) (o := .cells #[.int .u32 ((Zi l0_0 x3_1).f0), .int .u32 ((Zi l0_0 x3_1).f1), .slice (some ad123) ((Zi l0_0 x3_1).f2).length c119_2] 61 (0, 0)) (by (with_reducible repeat first | apply Zg | apply Zf | apply Zh); exact BK120.out) hb); replace HB := Za.mk (Zo (by with_reducible repeat first | exact HB.out | apply Zc | apply Ze | apply Zd | refine Zk ?_ GE117.out | refine Zk ?_ GE120.out) hb); (try clear hb); (try clear hb2); (try clear hk); (try clear hi)))
             go_ret
             exact ⟨by first | rfl | (simp [Zm, Zn] <;> rfl) | (simp [*, Zm, Zn] <;> rfl), by with_reducible repeat first | exact HB.out | apply Zc | apply Ze | apply Zd | refine Zk ?_ GE117.out | refine Zk ?_ GE120.out⟩
            rw [if_neg c53] at H
            exact absurd H (by simp)
           rw [if_neg c52] at H
           have c52b0 : decide (x6_4 < (((Zi l0_0 x3_1).f2).length : Int)) = false := decide_eq_false c52
           clear c52
           have H' := Za.mk H
           clear H
           have hnb62 := NB120_117.out
           have hnc62 := NB117_120.out
           have hcz63_0 : wr.cell? ⟨gb120, 0, none⟩ = some (.int .u32 ((Zi l0_0 x3_1).f0)) := (Zb BK120.out 0).trans rfl
           have hcz63_1 : wr.cell? ⟨gb120, 1, none⟩ = some (.int .u32 ((Zi l0_0 x3_1).f1)) := (Zb BK120.out 1).trans rfl
           have hcz63_2 : wr.cell? ⟨gb120, 2, none⟩ = some (.slice A119_2 ((Zi l0_0 x3_1).f2).length c119_2) := (Zb BK120.out 2).trans rfl
           have hfz63_0 := Zj BK120.out 0
           have hfz63_1 := Zj BK120.out 1
           have hfz63_2 := Zj BK120.out 2
           go_wp2
           go_roundg k4
           case measure => have := HK1.out; have := HJ4.out; have := HJ15.out; have := HK4.out; omega
           case rel => exact ⟨(wrap64 (x3_1 + 1)), (by first | rfl | (simp; done) | (simp [*]; done)), H', ⟨by have := HK1.out; have := HJ4.out; have := HJ15.out; have := HK4.out; omega⟩, ⟨by (with_reducible repeat first | apply Zg | apply Zf | apply Zh); exact BK117.out⟩, ⟨by with_reducible repeat first | exact HB.out | apply Zc | apply Ze | apply Zd | refine Zk ?_ GE117.out | refine Zk ?_ GE120.out⟩⟩
    rw [if_neg c4] at H
    exact absurd H (by simp)
   rw [if_neg c3] at H
   have c3b0 : decide (x3_1 < (l0_0.length : Int)) = false := decide_eq_false c3
   clear c3
   replace H := Option.bind_eq_some_iff.mp H
   obtain ⟨t118, A640, H⟩ := H
   replace H : (some (decide (t118 ≤ 1000))) = some r := H
   have A64 := Za.mk A640
   clear A640
   obtain rfl := Option.some.inj H
   have hcz65_0 : wr.cell? ⟨gb117, 0, none⟩ = some (.slice A0_0 l0_0.length c0_0) := (Zb BK117.out 0).trans rfl
   have hfz65_0 := Zj BK117.out 0
   go_wp2_with (first | ((with_reducible refine Zaj (f := 26) rfl ?_); refine Zai (some 71) rfl rfl Try.func26 (by kernel_rfl) rfl #[.agg #[.slice A0_0 l0_0.length c0_0]] rfl (by (try simp only [ZA, ZB, ZC]); first | done | rfl) ?_; (with_reducible refine (Zcg.calls k1 _ _ l0_0 t118 _ ?side1 ?side2 A64.out).mono ?_); (case side1 => repeat (first | exact (Kd.Zan HR0_0.out HB.out) | (with_reducible refine Kd.Zau ?_ _) | (with_reducible refine Kd.Zaw ?_ _) | (with_reducible refine Kd.Zav ?_))); (case side2 => exact HC0_0.out); rintro e w66 ⟨rfl, hb⟩; refine ⟨_, rfl, ?_⟩; replace BK117 := Za.mk (Zp (g := gb117) (o := .cells #[.slice A0_0 l0_0.length c0_0] 31 (0, 0)) (by (with_reducible repeat first | apply Zg | apply Zf | apply Zh); exact BK117.out) hb); replace HB := Za.mk (Zo (by with_reducible repeat first | exact HB.out | apply Zc | apply Ze | apply Zd | refine Zk ?_ GE117.out) hb); (try clear hb); (try clear hb2); (try clear hk); (try clear hi)))
   go_ret
   exact ⟨by first | rfl | (simp [Zm, Zn] <;> rfl) | (simp [*, Zm, Zn] <;> rfl), by with_reducible repeat first | exact HB.out | apply Zc | apply Ze | apply Zd | refine Zk ?_ GE117.out⟩

end Go.Proofs.Ytgmbahldjiiajaa.P
