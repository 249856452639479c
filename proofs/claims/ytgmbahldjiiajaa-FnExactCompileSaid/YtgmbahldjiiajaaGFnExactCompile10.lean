import Derived.Test.YtgmbahldjiiajaaGFnExactCompile4
import Derived.Test.YtgmbahldjiiajaaGFnExactCompile9
namespace Go.Proofs.Ytgmbahldjiiajaa.P
open Go.RowKit Go.Proofs.YtgmbahldjiiajaaW.PrintWords Go.Proofs.YtgmbahldjiiajaaW.PrintLast Go.Proofs.YtgmbahldjiiajaaW.PrintMore
attribute [local go_sem] max2_int min2_int max_two min_two max_three min_three max_four min_four
set_option linter.unusedVariables false
set_option linter.unusedSimpArgs false

def Zcd.l0 : Nat → List (S58) → List (S61) → Int → Option ((List (S61)))
 | 0, _, _, _ => none
 | k + 1, x0, x3, x4 => if x4 < (x0.length : Int) then (if 0 ≤ x4 then ((laws_toEntry.f k ((rd_T58 x0 x4).f0) ((rd_T58 x0 x4).f1) ((rd_T58 x0 x4).f2)).bind fun bt430 => (if x4 < (x3.length : Int) then (Zcd.l0 k x0 (x3.set (x4 : Int).toNat (⟨bt430.1, bt430.2.1, bt430.2.2⟩ : S61)) (wrap64 (x4 + 1))) else (none))) else (none)) else (some x3)
def Zcd.f (k : Nat) (l0 : List (S58)) : Option ((List (S61))) := if 0 ≤ (l0.length : Int) then (if ((l0.length : Int) : Int).toNat ≤ 8796093022208 then (Zcd.l0 k l0 (List.replicate ((l0.length : Int) : Int).toNat z61) 0) else (none)) else (none)
def Zcl.f (k : Nat) (l0_0 : List (S58)) : Option ((List (S61))) := (Zcd.f k l0_0).bind fun t439 => (some t439)
def laws_eqCon.f (a0_0 : Int) (a0_1 : Int) (a0_2 : Int) (a1_0 : Int) (a1_1 : Int) (a1_2 : Int) : Option (Bool) := if a0_0 = a1_0 then (if a0_1 = a1_1 then (if a0_2 = a1_2 then (some true) else (some false)) else (some false)) else (some false)
set_option maxHeartbeats 8000000 in
set_option maxRecDepth 100000 in
theorem laws_eqCon.calls (a0_0 : Int) (a0_1 : Int) (a0_2 : Int) (a1_0 : Int) (a1_1 : Int) (a1_2 : Int) (r : Bool) (w : World) (h : laws_eqCon.f a0_0 a0_1 a0_2 a1_0 a1_1 a1_2 = some r) :
  Calls Try.prog 77 #[.agg #[.int .i64 a0_0, .int .u64 a0_1, .int .u64 a0_2], .agg #[.int .i64 a1_0, .int .u64 a1_1, .int .u64 a1_2]] w fun e w' => e = .returned (.bool r) ∧ Below w.heap.size w w' := by
 have hu95 := Try.underlying95
 have HB := Za.mk (Below.refl w.heap.size w)
 have H : (if a0_0 = a1_0 then (if a0_1 = a1_1 then (if a0_2 = a1_2 then (some true) else (some false)) else (some false)) else (some false)) = some r := h
 clear h
 by_cases c3 : a0_0 = a1_0
 ·rw [if_pos c3] at H
  have c3b0 : (a0_0 == a1_0) = true := beq_iff_eq.mpr c3
  have c3b1 : (a0_0 != a1_0) = false := bne_eq_false_iff_eq.mpr c3
  clear c3
  by_cases c4 : a0_1 = a1_1
  ·rw [if_pos c4] at H
   have c4b0 : (a0_1 == a1_1) = true := beq_iff_eq.mpr c4
   have c4b1 : (a0_1 != a1_1) = false := bne_eq_false_iff_eq.mpr c4
   clear c4
   by_cases c5 : a0_2 = a1_2
   ·rw [if_pos c5] at H
    have c5b0 : (a0_2 == a1_2) = true := beq_iff_eq.mpr c5
    have c5b1 : (a0_2 != a1_2) = false := bne_eq_false_iff_eq.mpr c5
    clear c5
    obtain rfl := Option.some.inj H
    go_enter Try.func77, Try.ntmps77
    go_wp2_with (first | ((with_reducible refine Zab (N := 2) rfl ?_); refine Zac ?hg (N := 2) ?hd (cs := #[.int .i64 a0_0, .int .u64 a0_1, .int .u64 a0_2]) (t := 95) ?hr ?_; (case hd => rfl); (case hg => rfl); (case hr => go_simp <;> rfl); intro gb500 hg w6 hbox hb; have BK500 := Za.mk (hbox); have GW500 := Za.mk ((by rw [hg]; exact (Zl (by with_reducible repeat first | exact HB.out | apply Zc | apply Ze | apply Zd)) : w.heap.size ≤ gb500)); have GE500 := Za.mk ((by rw [hg]; exact (Zl (by with_reducible repeat first | exact HB.out | apply Zc | apply Ze | apply Zd)) : w.heap.size ≤ gb500)); replace HB := Za.mk (Zo (by with_reducible repeat first | exact HB.out | apply Zc | apply Ze | apply Zd) hb); clear hb hbox hg) | ((with_reducible refine Zab (N := 3) rfl ?_); refine Zac ?hg (N := 3) ?hd (cs := #[.int .i64 a1_0, .int .u64 a1_1, .int .u64 a1_2]) (t := 95) ?hr ?_; (case hd => rfl); (case hg => rfl); (case hr => go_simp <;> rfl); intro gb501 hg w7 hbox hb; have BK501 := Za.mk (hbox); have GW501 := Za.mk ((by rw [hg]; exact (Zl (by with_reducible repeat first | exact HB.out | apply Zc | apply Ze | apply Zd | refine Zk ?_ GE500.out)) : w.heap.size ≤ gb501)); have GE501 := Za.mk ((by rw [hg]; exact (Zl (by with_reducible repeat first | exact HB.out | apply Zc | apply Ze | apply Zd | refine Zk ?_ GE500.out)) : w.heap.size ≤ gb501)); replace HB := Za.mk (Zo (by with_reducible repeat first | exact HB.out | apply Zc | apply Ze | apply Zd | refine Zk ?_ GE500.out) hb); have NB500_501 := Za.mk ((by rw [hg]; exact Nat.ne_of_lt (Zs (g := gb500) (o := .cells #[.int .i64 a0_0, .int .u64 a0_1, .int .u64 a0_2] 95 (0, 0)) (by (with_reducible repeat first | apply Zg | apply Zf | apply Zh); exact BK500.out)) : gb500 ≠ gb501)); have NB501_500 := Za.mk ((by rw [hg]; exact Nat.ne_of_gt (Zs (g := gb500) (o := .cells #[.int .i64 a0_0, .int .u64 a0_1, .int .u64 a0_2] 95 (0, 0)) (by (with_reducible repeat first | apply Zg | apply Zf | apply Zh); exact BK500.out)) : gb501 ≠ gb500)); replace BK500 := Za.mk (Zp (g := gb500) (o := .cells #[.int .i64 a0_0, .int .u64 a0_1, .int .u64 a0_2] 95 (0, 0)) (by (with_reducible repeat first | apply Zg | apply Zf | apply Zh); exact BK500.out) hb); clear hb hbox hg; have hnb8 := NB500_501.out; have hnc8 := NB501_500.out; have hcz9_0 : w7.cell? ⟨gb500, 0, none⟩ = some (.int .i64 a0_0) := (Zb BK500.out 0).trans rfl; have hcz9_1 : w7.cell? ⟨gb500, 1, none⟩ = some (.int .u64 a0_1) := (Zb BK500.out 1).trans rfl; have hcz9_2 : w7.cell? ⟨gb500, 2, none⟩ = some (.int .u64 a0_2) := (Zb BK500.out 2).trans rfl; have hfz9_0 := Zj BK500.out 0; have hfz9_1 := Zj BK500.out 1; have hfz9_2 := Zj BK500.out 2; have hcz10_0 : w7.cell? ⟨gb501, 0, none⟩ = some (.int .i64 a1_0) := (Zb BK501.out 0).trans rfl; have hcz10_1 : w7.cell? ⟨gb501, 1, none⟩ = some (.int .u64 a1_1) := (Zb BK501.out 1).trans rfl; have hcz10_2 : w7.cell? ⟨gb501, 2, none⟩ = some (.int .u64 a1_2) := (Zb BK501.out 2).trans rfl; have hfz10_0 := Zj BK501.out 0; have hfz10_1 := Zj BK501.out 1; have hfz10_2 := Zj BK501.out 2))
    go_ret
    exact ⟨by first | rfl | (simp [Zm, Zn] <;> rfl) | (simp [*, Zm, Zn] <;> rfl), by with_reducible repeat first | exact HB.out | apply Zc | apply Ze | apply Zd | refine Zk ?_ GE500.out | refine Zk ?_ GE501.out⟩
   rw [if_neg c5] at H
   have c5b0 : (a0_2 == a1_2) = false := beq_eq_false_iff_ne.mpr c5
   have c5b1 : (a0_2 != a1_2) = true := bne_iff_ne.mpr c5
   obtain rfl := Option.some.inj H
   go_enter Try.func77, Try.ntmps77
   go_wp2_with (first | ((with_reducible refine Zab (N := 2) rfl ?_); refine Zac ?hg (N := 2) ?hd (cs := #[.int .i64 a0_0, .int .u64 a0_1, .int .u64 a0_2]) (t := 95) ?hr ?_; (case hd => rfl); (case hg => rfl); (case hr => go_simp <;> rfl); intro gb500 hg w11 hbox hb; have BK500 := Za.mk (hbox); have GW500 := Za.mk ((by rw [hg]; exact (Zl (by with_reducible repeat first | exact HB.out | apply Zc | apply Ze | apply Zd)) : w.heap.size ≤ gb500)); have GE500 := Za.mk ((by rw [hg]; exact (Zl (by with_reducible repeat first | exact HB.out | apply Zc | apply Ze | apply Zd)) : w.heap.size ≤ gb500)); replace HB := Za.mk (Zo (by with_reducible repeat first | exact HB.out | apply Zc | apply Ze | apply Zd) hb); clear hb hbox hg) | ((with_reducible refine Zab (N := 3) rfl ?_); refine Zac ?hg (N := 3) ?hd (cs := #[.int .i64 a1_0, .int .u64 a1_1, .int .u64 a1_2]) (t := 95) ?hr ?_; (case hd => rfl); (case hg => rfl); (case hr => go_simp <;> rfl); intro gb501 hg w12 hbox hb; have BK501 := Za.mk (hbox); have GW501 := Za.mk ((by rw [hg]; exact (Zl (by with_reducible repeat first | exact HB.out | apply Zc | apply Ze | apply Zd | refine Zk ?_ GE500.out)) : w.heap.size ≤ gb501)); have GE501 := Za.mk ((by rw [hg]; exact (Zl (by with_reducible repeat first | exact HB.out | apply Zc | apply Ze | apply Zd | refine Zk ?_ GE500.out)) : w.heap.size ≤ gb501)); replace HB := Za.mk (Zo (by with_reducible repeat first | exact HB.out | apply Zc | apply Ze | apply Zd | refine Zk ?_ GE500.out) hb); have NB500_501 := Za.mk ((by rw [hg]; exact Nat.ne_of_lt (Zs (g := gb500) (o := .cells #[.int .i64 a0_0, .int .u64 a0_1, .int .u64 a0_2] 95 (0, 0)) (by (with_reducible repeat first | apply Zg | apply Zf | apply Zh); exact BK500.out)) : gb500 ≠ gb501)); have NB501_500 := Za.mk ((by rw [hg]; exact Nat.ne_of_gt (Zs (g := gb500) (o := .cells #[.int .i64 a0_0, .int .u64 a0_1, .int .u64 a0_2] 95 (0, 0)) (by (with_reducible repeat first | apply Zg | apply Zf | apply Zh); exact BK500.out)) : gb501 ≠ gb500)); replace BK500 := Za.mk (Zp (g := gb500) (o := .cells #[.int .i64 a0_0, .int .u64 a0_1, .int .u64 a0_2] 95 (0, 0)) (by (with_reducible repeat first | apply Zg | apply Zf | apply Zh); exact BK500.out) hb); clear hb hbox hg; have hnb13 := NB500_501.out; have hnc13 := NB501_500.out; have hcz14_0 : w12.cell? ⟨gb500, 0, none⟩ = some (.int .i64 a0_0) := (Zb BK500.out 0).trans rfl; have hcz14_1 : w12.cell? ⟨gb500, 1, none⟩ = some (.int .u64 a0_1) := (Zb BK500.out 1).trans rfl; have hcz14_2 : w12.cell? ⟨gb500, 2, none⟩ = some (.int .u64 a0_2) := (Zb BK500.out 2).trans rfl; have hfz14_0 := Zj BK500.out 0; have hfz14_1 := Zj BK500.out 1; have hfz14_2 := Zj BK500.out 2; have hcz15_0 : w12.cell? ⟨gb501, 0, none⟩ = some (.int .i64 a1_0) := (Zb BK501.out 0).trans rfl; have hcz15_1 : w12.cell? ⟨gb501, 1, none⟩ = some (.int .u64 a1_1) := (Zb BK501.out 1).trans rfl; have hcz15_2 : w12.cell? ⟨gb501, 2, none⟩ = some (.int .u64 a1_2) := (Zb BK501.out 2).trans rfl; have hfz15_0 := Zj BK501.out 0; have hfz15_1 := Zj BK501.out 1; have hfz15_2 := Zj BK501.out 2))
   go_ret
   exact ⟨by first | rfl | (simp [Zm, Zn] <;> rfl) | (simp [*, Zm, Zn] <;> rfl), by with_reducible repeat first | exact HB.out | apply Zc | apply Ze | apply Zd | refine Zk ?_ GE500.out | refine Zk ?_ GE501.out⟩
  rw [if_neg c4] at H
  have c4b0 : (a0_1 == a1_1) = false := beq_eq_false_iff_ne.mpr c4
  have c4b1 : (a0_1 != a1_1) = true := bne_iff_ne.mpr c4
  obtain rfl := Option.some.inj H
  go_enter Try.func77, Try.ntmps77
  go_wp2_with (first | ((with_reducible refine Zab (N := 2) rfl ?_); refine Zac ?hg (N := 2) ?hd (cs := #[.int .i64 a0_0, .int .u64 a0_1, .int .u64 a0_2]) (t := 95) ?hr ?_; (case hd => rfl); (case hg => rfl); (case hr => go_simp <;> rfl); intro gb500 hg w16 hbox hb; have BK500 := Za.mk (hbox); have GW500 := Za.mk ((by rw [hg]; exact (Zl (by with_reducible repeat first | exact HB.out | apply Zc | apply Ze | apply Zd)) : w.heap.size ≤ gb500)); have GE500 := Za.mk ((by rw [hg]; exact (Zl (by with_reducible repeat first | exact HB.out | apply Zc | apply Ze | apply Zd)) : w.heap.size ≤ gb500)); replace HB := Za.mk (Zo (by with_reducible repeat first | exact HB.out | apply Zc | apply Ze | apply Zd) hb); clear hb hbox hg) | ((with_reducible refine Zab (N := 3) rfl ?_); refine Zac ?hg (N := 3) ?hd (cs := #[.int .i64 a1_0, .int .u64 a1_1, .int .u64 a1_2]) (t := 95) ?hr ?_; (case hd => rfl); (case hg => rfl); (case hr => go_simp <;> rfl); intro gb501 hg w17 hbox hb; have BK501 := Za.mk (hbox); have GW501 := Za.mk ((by rw [hg]; exact (Zl (by with_reducible repeat first | exact HB.out | apply Zc | apply Ze | apply Zd | refine Zk ?_ GE500.out)) : w.heap.size ≤ gb501)); have GE501 := Za.mk ((by rw [hg]; exact (Zl (by with_reducible repeat first | exact HB.out | apply Zc | apply Ze | apply Zd | refine Zk ?_ GE500.out)) : w.heap.size ≤ gb501)); replace HB := Za.mk (Zo (by with_reducible repeat first | exact HB.out | apply Zc | apply Ze | apply Zd | refine Zk ?_ GE500.out) hb); have NB500_501 := Za.mk ((by rw [hg]; exact Nat.ne_of_lt (Zs (g := gb500) (o := .cells #[.int .i64 a0_0, .int .u64 a0_1, .int .u64 a0_2] 95 (0, 0)) (by (with_reducible repeat first | apply Zg | apply Zf | apply Zh); exact BK500.out)) : gb500 ≠ gb501)); have NB501_500 := Za.mk ((by rw [hg]; exact Nat.ne_of_gt (Zs (g := gb500) (o := .cells #[.int .i64 a0_0, .int .u64 a0_1, .int .u64 a0_2] 95 (0, 0)) (by (with_reducible repeat first | apply Zg | apply Zf | apply Zh); exact BK500.out)) : gb501 ≠ gb500)); replace BK500 := Za.mk (Zp (g := gb500) (o := .cells #[.int .i64 a0_0, .int .u64 a0_1, .int .u64 a0_2] 95 (0, 0)) (by (with_reducible repeat first | apply Zg | apply Zf | apply Zh); exact BK500.out) hb); clear hb hbox hg; have hnb18 := NB500_501.out; have hnc18 := NB501_500.out; have hcz19_0 : w17.cell? ⟨gb500, 0, none⟩ = some (.int .i64 a0_0) := (Zb BK500.out 0).trans rfl; have hcz19_1 : w17.cell? ⟨gb500, 1, none⟩ = some (.int .u64 a0_1) := (Zb BK500.out 1).trans rfl; have hcz19_2 : w17.cell? ⟨gb500, 2, none⟩ = some (.int .u64 a0_2) := (Zb BK500.out 2).trans rfl; have hfz19_0 := Zj BK500.out 0; have hfz19_1 := Zj BK500.out 1; have hfz19_2 := Zj BK500.out 2; have hcz20_0 : w17.cell? ⟨gb501, 0, none⟩ = some (.int .i64 a1_0) := (Zb BK501.out 0).trans rfl; have hcz20_1 : w17.cell? ⟨gb501, 1, none⟩ = some (.int .u64 a1_1) := (Zb BK501.out 1).trans rfl; have hcz20_2 : w17.cell? ⟨gb501, 2, none⟩ = some (.int .u64 a1_2) := (Zb BK501.out 2).trans rfl; have hfz20_0 := Zj BK501.out 0; have hfz20_1 := Zj BK501.out 1; have hfz20_2 := Zj BK501.out 2))
  go_ret
  exact ⟨by first | rfl | (simp [Zm, Zn] <;> rfl) | (simp [*, Zm, Zn] <;> rfl), by with_reducible repeat first | exact HB.out | apply Zc | apply Ze | apply Zd | refine Zk ?_ GE500.out | refine Zk ?_ GE501.out⟩
 rw [if_neg c3] at H
 have c3b0 : (a0_0 == a1_0) = false := beq_eq_false_iff_ne.mpr c3
 have c3b1 : (a0_0 != a1_0) = true := bne_iff_ne.mpr c3
 obtain rfl := Option.some.inj H
 go_enter Try.func77, Try.ntmps77
 go_wp2_with (first | ((with_reducible refine Zab (N := 2) rfl ?_); refine Zac ?hg (N := 2) ?hd (cs := #[.int .i64 a0_0, .int .u64 a0_1, .int .u64 a0_2]) (t := 95) ?hr ?_; (case hd => rfl); (case hg => rfl); (case hr => go_simp <;> rfl); intro gb500 hg w21 hbox hb; have BK500 := Za.mk (hbox); have GW500 := Za.mk ((by rw [hg]; exact (Zl (by with_reducible repeat first | exact HB.out | apply Zc | apply Ze | apply Zd)) : w.heap.size ≤ gb500)); have GE500 := Za.mk ((by rw [hg]; exact (Zl (by with_reducible repeat first | exact HB.out | apply Zc | apply Ze | apply Zd)) : w.heap.size ≤ gb500)); replace HB := Za.mk (Zo (by with_reducible repeat first | exact HB.out | apply Zc | apply Ze | apply Zd) hb); clear hb hbox hg) | ((with_reducible refine Zab (N := 3) rfl ?_); refine Zac ?hg (N := 3) ?hd (cs := #[.int .i64 a1_0, .int .u64 a1_1, .int .u64 a1_2]) (t := 95) ?hr ?_; (case hd => rfl); (case hg => rfl); (case hr => go_simp <;> rfl); intro gb501 hg w22 hbox hb; have BK501 := Za.mk (hbox); have GW501 := Za.mk ((by rw [hg]; exact (Zl (by with_reducible repeat first | exact HB.out | apply Zc | apply Ze | apply Zd | refine Zk ?_ GE500.out)) : w.heap.size ≤ gb501)); have GE501 := Za.mk ((by rw [hg]; exact (Zl (by with_reducible repeat first | exact HB.out | apply Zc | apply Ze | apply Zd | refine Zk ?_ GE500.out)) : w.heap.size ≤ gb501)); replace HB := Za.mk (Zo (by with_reducible repeat first | exact HB.out | apply Zc | apply Ze | apply Zd | refine Zk ?_ GE500.out) hb); have NB500_501 := Za.mk ((by rw [hg]; exact Nat.ne_of_lt (Zs (g := gb500) (o := .cells #[.int .i64 a0_0, .int .u64 a0_1, .int .u64 a0_2] 95 (0, 0)) (by (with_reducible repeat first | apply Zg | apply Zf | apply Zh); exact BK500.out)) : gb500 ≠ gb501)); have NB501_500 := Za.mk ((by rw [hg]; exact Nat.ne_of_gt (Zs (g := gb500) (o := .cells #[.int .i64 a0_0, .int .u64 a0_1, .int .u64 a0_2] 95 (0, 0)) (by (with_reducible repeat first | apply Zg | apply Zf | apply Zh); exact BK500.out)) : gb501 ≠ gb500)); replace BK500 := Za.mk (Zp (g := gb500) (o := .cells #[.int .i64 a0_0, .int .u64 a0_1, .int .u64 a0_2] 95 (0, 0)) (by (with_reducible repeat first | apply Zg | apply Zf | apply Zh); exact BK500.out) hb); clear hb hbox hg; have hnb23 := NB500_501.out; have hnc23 := NB501_500.out; have hcz24_0 : w22.cell? ⟨gb500, 0, none⟩ = some (.int .i64 a0_0) := (Zb BK500.out 0).trans rfl; have hcz24_1 : w22.cell? ⟨gb500, 1, none⟩ = some (.int .u64 a0_1) := (Zb BK500.out 1).trans rfl; have hcz24_2 : w22.cell? ⟨gb500, 2, none⟩ = some (.int .u64 a0_2) := (Zb BK500.out 2).trans rfl; have hfz24_0 := Zj BK500.out 0; have hfz24_1 := Zj BK500.out 1; have hfz24_2 := Zj BK500.out 2; have hcz25_0 : w22.cell? ⟨gb501, 0, none⟩ = some (.int .i64 a1_0) := (Zb BK501.out 0).trans rfl; have hcz25_1 : w22.cell? ⟨gb501, 1, none⟩ = some (.int .u64 a1_1) := (Zb BK501.out 1).trans rfl; have hcz25_2 : w22.cell? ⟨gb501, 2, none⟩ = some (.int .u64 a1_2) := (Zb BK501.out 2).trans rfl; have hfz25_0 := Zj BK501.out 0; have hfz25_1 := Zj BK501.out 1; have hfz25_2 := Zj BK501.out 2))
 go_ret
 exact ⟨by first | rfl | (simp [Zm, Zn] <;> rfl) | (simp [*, Zm, Zn] <;> rfl), by with_reducible repeat first | exact HB.out | apply Zc | apply Ze | apply Zd | refine Zk ?_ GE500.out | refine Zk ?_ GE501.out⟩
def Zbl.l0 : Nat → List (S95) → List (S95) → Int → Option (Bool)
 | 0, _, _, _ => none
 | k + 1, x0, x1, x5 => if x5 < (x0.length : Int) then (if 0 ≤ x5 then (if x5 < (x1.length : Int) then ((laws_eqCon.f ((Zx x0 x5).f0) ((Zx x0 x5).f1) ((Zx x0 x5).f2) ((Zx x1 x5).f0) ((Zx x1 x5).f1) ((Zx x1 x5).f2)).bind fun t504 => (if t504 = true then (Zbl.l0 k x0 x1 (wrap64 (x5 + 1))) else (some false))) else (none)) else (none)) else (some true)
def Zbl.f (k : Nat) (l0 : List (S95)) (l1 : List (S95)) : Option (Bool) := if (l0.length : Int) = (l1.length : Int) then (Zbl.l0 k l0 l1 0) else (some false)
def Zbl.T6 : Bool × List (List Nat × List Nat) := (true, [([], []), ([], []), ([0, 1], [0, 1]), ([2], [2]), ([], []), ([], []), ([4, 5], [4, 5]), ([6], [6]), ([3, 7], [3, 7]), ([8], [8])])
def Zbl.B6 : List Nat := [0, 0, 3, 7, 0, 0, 48, 112, 255, 511]
theorem Zbl.tab6 : rtab .any (opsOf Try.f75 6) = Zbl.T6 := by kernel_rfl
theorem Zbl.bits6 : waitsOk Zbl.T6.2 Zbl.B6 = true := by kernel_rfl
set_option maxHeartbeats 8000000 in
set_option maxRecDepth 100000 in
theorem Zbl.calls (k : Nat) (A0 : Option Addr) (c0 : Nat) (l0 : List (S95)) (A1 : Option Addr) (c1 : Nat) (l1 : List (S95)) (r : Bool) (w : World) (hr0 : Kd.C k95 w A0 l0.length l0) (hc0 : l0.length ≤ c0) (hr1 : Kd.C k95 w A1 l1.length l1) (hc1 : l1.length ≤ c1) (h : Zbl.f k l0 l1 = some r) :
  Calls Try.prog 75 #[.slice A0 l0.length c0, .slice A1 l1.length c1] w fun e w' => e = .returned (.bool r) ∧ Below w.heap.size w w' := by
 have hu95 := Try.underlying95
 have HR0 := Za.mk hr0
 have HC0 := Za.mk hc0
 clear hr0 hc0
 have HR1 := Za.mk hr1
 have HC1 := Za.mk hc1
 clear hr1 hc1
 have HB := Za.mk (Below.refl w.heap.size w)
 have H : (if (l0.length : Int) = (l1.length : Int) then (Zbl.l0 k l0 l1 0) else (some false)) = some r := h
 clear h
 by_cases c3 : (l0.length : Int) = (l1.length : Int)
 ·rw [if_pos c3] at H
  have c3b0 : ((l0.length : Int) == (l1.length : Int)) = true := beq_iff_eq.mpr c3
  have c3b1 : ((l0.length : Int) != (l1.length : Int)) = false := bne_eq_false_iff_eq.mpr c3
  have c3b2 : (l0.length == l1.length) = true := by first | simpa using c3 | (simp at c3 ⊢; omega)
  clear c3
  have H' := Za.mk H
  clear H
  go_enter Try.func75, Try.ntmps75
  go_wp2
  go_loopg [5] k (fun kq v5 w' => ∃ (x5_1 : Int), v5 = .int .i64 x5_1 ∧ Za (Zbl.l0 kq l0 l1 x5_1 = some r) ∧ Za (kq ≤ k) ∧ Za (Below w.heap.size w w'))
  case atStart => exact ⟨(0), (by first | rfl | (simp; done) | (simp [*]; done)), H', ⟨Nat.le_refl _⟩, ⟨by with_reducible repeat first | exact HB.out | apply Zc | apply Ze | apply Zd⟩⟩
  case round =>
   clear H'
   try clear c1
   try clear p2
   try clear c3
   try clear c3b0
   try clear c3b1
   try clear c3b2
   obtain ⟨x5_1, rfl, HA, HK1, HB⟩ := hrel
   cases gk with
   | zero => exact absurd HA.out (by simp [Zbl.l0])
   | succ k1 =>
    have H := HA.out
    clear HA
    simp only [Zbl.l0] at H
    by_cases c4 : x5_1 < (l0.length : Int)
    ·rw [if_pos c4] at H
     have c4b0 : decide (x5_1 < (l0.length : Int)) = true := decide_eq_true c4
     clear c4
     by_cases c5 : 0 ≤ x5_1
     ·rw [if_pos c5] at H
      have c5b0 : decide (0 ≤ x5_1) = true := decide_eq_true c5
      clear c5
      by_cases c6 : x5_1 < (l1.length : Int)
      ·rw [if_pos c6] at H
       have c6b0 : decide (x5_1 < (l1.length : Int)) = true := decide_eq_true c6
       clear c6
       replace H := Option.bind_eq_some_iff.mp H
       obtain ⟨t504, A70, H⟩ := H
       replace H : (if t504 = true then (Zbl.l0 k1 l0 l1 (wrap64 (x5_1 + 1))) else (some false)) = some r := H
       have A7 := Za.mk A70
       clear A70
       by_cases c8 : t504 = true
       ·subst c8
        have H1 : (Zbl.l0 k1 l0 l1 (wrap64 (x5_1 + 1))) = some r := by rw [if_pos rfl] at H; exact H
        clear H
        have H := H1
        clear H1
        have H' := Za.mk H
        clear H
        try go_wp2
        replace HB := Za.mk (Zd HB.out)
        have p502 : 0 ≤ (x5_1 : Int) := of_decide_eq_true (by assumption)
        have q502 : x5_1 < (l0.length : Int) := of_decide_eq_true (by assumption)
        obtain ⟨ad502, e502, hx502_0, hx502_1, hx502_2⟩ := at_T95 HR0.out x5_1 p502 q502
        have hw502_2 := hx502_2
        have hw502_1 := hx502_1
        have hw502_0 := hx502_0
        cases e502
        replace hx502_0 := (HB.out.cell (World.block_lt_of_cell? w _ hx502_0)).trans hx502_0
        replace hx502_1 := (HB.out.cell (World.block_lt_of_cell? w _ hx502_1)).trans hx502_1
        replace hx502_2 := (HB.out.cell (World.block_lt_of_cell? w _ hx502_2)).trans hx502_2
        replace p502 := eq_true p502
        replace q502 := eq_true q502
        have p503 : 0 ≤ (x5_1 : Int) := of_decide_eq_true (by assumption)
        have q503 : x5_1 < (l1.length : Int) := of_decide_eq_true (by assumption)
        obtain ⟨ad503, e503, hx503_0, hx503_1, hx503_2⟩ := at_T95 HR1.out x5_1 p503 q503
        have hw503_2 := hx503_2
        have hw503_1 := hx503_1
        have hw503_0 := hx503_0
        cases e503
        replace hx503_0 := (HB.out.cell (World.block_lt_of_cell? w _ hx503_0)).trans hx503_0
        replace hx503_1 := (HB.out.cell (World.block_lt_of_cell? w _ hx503_1)).trans hx503_1
        replace hx503_2 := (HB.out.cell (World.block_lt_of_cell? w _ hx503_2)).trans hx503_2
        replace p503 := eq_true p503
        replace q503 := eq_true q503
        refine start_ (n := 10) (S := fun w' => w'.cell? (ad502.add ((x5_1).toNat * 3)) = some (.int .i64 ((Zx l0 x5_1).f0)) ∧ w'.cell? ⟨(ad502.add ((x5_1).toNat * 3)).block, (ad502.add ((x5_1).toNat * 3)).off + 1, none⟩ = some (.int .u64 ((Zx l0 x5_1).f1)) ∧ w'.cell? ⟨(ad502.add ((x5_1).toNat * 3)).block, (ad502.add ((x5_1).toNat * 3)).off + 2, none⟩ = some (.int .u64 ((Zx l0 x5_1).f2)) ∧ w'.cell? (ad503.add ((x5_1).toNat * 3)) = some (.int .i64 ((Zx l1 x5_1).f0)) ∧ w'.cell? ⟨(ad503.add ((x5_1).toNat * 3)).block, (ad503.add ((x5_1).toNat * 3)).off + 1, none⟩ = some (.int .u64 ((Zx l1 x5_1).f1)) ∧ w'.cell? ⟨(ad503.add ((x5_1).toNat * 3)).block, (ad503.add ((x5_1).toNat * 3)).off + 2, none⟩ = some (.int .u64 ((Zx l1 x5_1).f2))) (ds := []) #[false, false, false, false, false, false, false, false, false, false] (by kernel_rfl) rfl rfl ⟨((HB.out.cell (World.block_lt_of_cell? w _ hw502_0)).trans hw502_0), ((HB.out.cell (World.block_lt_of_cell? w _ hw502_1)).trans hw502_1), ((HB.out.cell (World.block_lt_of_cell? w _ hw502_2)).trans hw502_2), ((HB.out.cell (World.block_lt_of_cell? w _ hw503_0)).trans hw503_0), ((HB.out.cell (World.block_lt_of_cell? w _ hw503_1)).trans hw503_1), ((HB.out.cell (World.block_lt_of_cell? w _ hw503_2)).trans hw503_2)⟩ (fun hHeld => ?_); refine with_tabW Zbl.tab6 Zbl.bits6 (fun HT_ HW_ => ?_)
        generalize wr.drew = w9 at HB hx502_0 hx502_1 hx502_2 hx503_0 hx503_1 hx503_2 hHeld ⊢
        refine Zaf (i := 0) (N := some 17) (v := ?_) (a' := ?_) #[true, false, false, false, false, false, false, false, false, false] rfl rfl (Zag HT_.out (by kernel_rfl)) (fun _ _ _ h => h) (Or.inl ⟨by rfl, ?_⟩) ?_ ?_
        rotate_left
        ·intro w'
         go_simp
         with_reducible rfl
        rotate_left
        ·simp only [Act.put, ZD, ZE, ZF, Zu, Zv]
         rfl
        refine Zaf (i := 1) (N := some 18) (v := ?_) (a' := ?_) #[true, true, false, false, false, false, false, false, false, false] rfl rfl (Zag HT_.out (by kernel_rfl)) (fun _ _ _ h => h) (Or.inl ⟨by rfl, ?_⟩) ?_ ?_
        rotate_left
        ·intro w'
         go_simp
         with_reducible rfl
        rotate_left
        ·simp only [Act.put, ZD, ZE, ZF, Zu, Zv]
         rfl
        refine Zaf (i := 2) (N := some 19) (v := ?_) (a' := ?_) #[true, true, true, false, false, false, false, false, false, false] rfl rfl (Zag HT_.out (by kernel_rfl)) (fun _ _ _ h => h) (Or.inl ⟨by rfl, ?_⟩) ?_ ?_
        rotate_left
        ·intro w'
         go_simp
         with_reducible rfl
        rotate_left
        ·simp only [Act.put, ZD, ZE, ZF, Zu, Zv]
         rfl
        refine Zaf (i := 4) (N := some 21) (v := ?_) (a' := ?_) #[true, true, true, false, true, false, false, false, false, false] rfl rfl (Zag HT_.out (by kernel_rfl)) (fun _ _ _ h => h) (Or.inl ⟨by rfl, ?_⟩) ?_ ?_
        rotate_left
        ·intro w'
         go_simp
         with_reducible rfl
        rotate_left
        ·simp only [Act.put, ZD, ZE, ZF, Zu, Zv]
         rfl
        refine Zaf (i := 5) (N := some 22) (v := ?_) (a' := ?_) #[true, true, true, false, true, true, false, false, false, false] rfl rfl (Zag HT_.out (by kernel_rfl)) (fun _ _ _ h => h) (Or.inl ⟨by rfl, ?_⟩) ?_ ?_
        rotate_left
        ·intro w'
         go_simp
         with_reducible rfl
        rotate_left
        ·simp only [Act.put, ZD, ZE, ZF, Zu, Zv]
         rfl
        refine Zaf (i := 6) (N := some 23) (v := ?_) (a' := ?_) #[true, true, true, false, true, true, true, false, false, false] rfl rfl (Zag HT_.out (by kernel_rfl)) (fun _ _ _ h => h) (Or.inl ⟨by rfl, ?_⟩) ?_ ?_
        rotate_left
        ·intro w'
         go_simp
         with_reducible rfl
        rotate_left
        ·simp only [Act.put, ZD, ZE, ZF, Zu, Zv]
         rfl
        refine take_ (i := 3) (N := some 20) (v := ?_) (a' := ?_) #[true, true, true, true, true, true, true, false, false, false] rfl rfl (Zbt HT_.out HW_.out (by kernel_rfl)) (fun _ _ _ h => h) (Or.inl ⟨by rfl, ?_⟩) hHeld ?_ ?_
        rotate_left
        ·rintro w' ⟨s0, s1, s2, s3, s4, s5⟩
         go_simp
         with_reducible rfl
        rotate_left
        ·simp only [Act.put, ZD, ZE, ZF, Zu, Zv]
         rfl
        refine take_ (i := 7) (N := some 24) (v := ?_) (a' := ?_) #[true, true, true, true, true, true, true, true, false, false] rfl rfl (Zbt HT_.out HW_.out (by kernel_rfl)) (fun _ _ _ h => h) (Or.inl ⟨by rfl, ?_⟩) hHeld ?_ ?_
        rotate_left
        ·rintro w' ⟨s0, s1, s2, s3, s4, s5⟩
         go_simp
         with_reducible rfl
        rotate_left
        ·simp only [Act.put, ZD, ZE, ZF, Zu, Zv]
         rfl
        refine one_ (i := 8) (N := some 25) #[true, true, true, true, true, true, true, true, true, false] rfl rfl (one_of HT_.out (by kernel_rfl)) (by decide) (fun K hK => ?_)
        refine goes_ Try.func77 (by kernel_rfl) rfl #[.agg #[.int .i64 ((Zx l0 x5_1).f0), .int .u64 ((Zx l0 x5_1).f1), .int .u64 ((Zx l0 x5_1).f2)], .agg #[.int .i64 ((Zx l1 x5_1).f0), .int .u64 ((Zx l1 x5_1).f1), .int .u64 ((Zx l1 x5_1).f2)]] (by rfl) rfl rfl (by (try simp only [ZA, ZB, ZC]); first | done | rfl) ?_
        with_reducible refine (laws_eqCon.calls ((Zx l0 x5_1).f0) ((Zx l0 x5_1).f1) ((Zx l0 x5_1).f2) ((Zx l1 x5_1).f0) ((Zx l1 x5_1).f1) ((Zx l1 x5_1).f2) true _ A7.out).mono ?_
        rintro e w10 ⟨rfl, hb⟩
        refine ⟨_, rfl, ?_⟩
        replace HB := Za.mk (Zo (by with_reducible repeat first | exact HB.out | apply Zc | apply Ze | apply Zd) hb)
        (try clear hb)
        (try clear hb2)
        (try clear hk)
        (try clear hi)
        refine hK.out _ _ ⟨((HB.out.cell (World.block_lt_of_cell? w _ hw502_0)).trans hw502_0), ((HB.out.cell (World.block_lt_of_cell? w _ hw502_1)).trans hw502_1), ((HB.out.cell (World.block_lt_of_cell? w _ hw502_2)).trans hw502_2), ((HB.out.cell (World.block_lt_of_cell? w _ hw503_0)).trans hw503_0), ((HB.out.cell (World.block_lt_of_cell? w _ hw503_1)).trans hw503_1), ((HB.out.cell (World.block_lt_of_cell? w _ hw503_2)).trans hw503_2)⟩ (fun hHeld => ?_)
        clear hK K
        refine norm_ (a' := ?_) ?_ ?_
        rotate_left
        ·show Act.put _ (some 25) _ = _
         simp only [Act.put, ZD, ZE, ZF, Zu, Zv]
         rfl
        refine Zaf (i := 9) (N := some 26) (v := ?_) (a' := ?_) #[true, true, true, true, true, true, true, true, true, true] rfl rfl (Zag HT_.out (by kernel_rfl)) (fun _ _ _ h => h) (Or.inl ⟨by rfl, ?_⟩) ?_ ?_
        rotate_left
        ·intro w'
         go_simp
         with_reducible rfl
        rotate_left
        ·simp only [Act.put, ZD, ZE, ZF, Zu, Zv]
         rfl
        refine done_ (done_of HT_.out (by kernel_rfl)) ?_
        try go_wp2
        go_roundg k1
        case measure => have := HK1.out; omega
        case rel => exact ⟨(wrap64 (x5_1 + 1)), (by first | rfl | (simp; done) | (simp [*]; done)), H', ⟨by have := HK1.out; omega⟩, ⟨by with_reducible repeat first | exact HB.out | apply Zc | apply Ze | apply Zd⟩⟩
       replace c8 := Bool.eq_false_iff.mpr c8
       subst c8
       have H1 : (some false) = some r := by rw [if_neg (show ¬ (false = true) by decide)] at H; exact H
       clear H
       have H := H1
       clear H1
       obtain rfl := Option.some.inj H
       try go_wp2
       replace HB := Za.mk (Zd HB.out)
       have p502 : 0 ≤ (x5_1 : Int) := of_decide_eq_true (by assumption)
       have q502 : x5_1 < (l0.length : Int) := of_decide_eq_true (by assumption)
       obtain ⟨ad502, e502, hx502_0, hx502_1, hx502_2⟩ := at_T95 HR0.out x5_1 p502 q502
       have hw502_2 := hx502_2
       have hw502_1 := hx502_1
       have hw502_0 := hx502_0
       cases e502
       replace hx502_0 := (HB.out.cell (World.block_lt_of_cell? w _ hx502_0)).trans hx502_0
       replace hx502_1 := (HB.out.cell (World.block_lt_of_cell? w _ hx502_1)).trans hx502_1
       replace hx502_2 := (HB.out.cell (World.block_lt_of_cell? w _ hx502_2)).trans hx502_2
       replace p502 := eq_true p502
       replace q502 := eq_true q502
       have p503 : 0 ≤ (x5_1 : Int) := of_decide_eq_true (by assumption)
       have q503 : x5_1 < (l1.length : Int) := of_decide_eq_true (by assumption)
       obtain ⟨ad503, e503, hx503_0, hx503_1, hx503_2⟩ := at_T95 HR1.out x5_1 p503 q503
       have hw503_2 := hx503_2
       have hw503_1 := hx503_1
       have hw503_0 := hx503_0
       cases e503
       replace hx503_0 := (HB.out.cell (World.block_lt_of_cell? w _ hx503_0)).trans hx503_0
       replace hx503_1 := (HB.out.cell (World.block_lt_of_cell? w _ hx503_1)).trans hx503_1
       replace hx503_2 := (HB.out.cell (World.block_lt_of_cell? w _ hx503_2)).trans hx503_2
       replace p503 := eq_true p503
       replace q503 := eq_true q503
       refine start_ (n := 10) (S := fun w' => w'.cell? (ad502.add ((x5_1).toNat * 3)) = some (.int .i64 ((Zx l0 x5_1).f0)) ∧ w'.cell? ⟨(ad502.add ((x5_1).toNat * 3)).block, (ad502.add ((x5_1).toNat * 3)).off + 1, none⟩ = some (.int .u64 ((Zx l0 x5_1).f1)) ∧ w'.cell? ⟨(ad502.add ((x5_1).toNat * 3)).block, (ad502.add ((x5_1).toNat * 3)).off + 2, none⟩ = some (.int .u64 ((Zx l0 x5_1).f2)) ∧ w'.cell? (ad503.add ((x5_1).toNat * 3)) = some (.int .i64 ((Zx l1 x5_1).f0)) ∧ w'.cell? ⟨(ad503.add ((x5_1).toNat * 3)).block, (ad503.add ((x5_1).toNat * 3)).off + 1, none⟩ = some (.int .u64 ((Zx l1 x5_1).f1)) ∧ w'.cell? ⟨(ad503.add ((x5_1).toNat * 3)).block, (ad503.add ((x5_1).toNat * 3)).off + 2, none⟩ = some (.int .u64 ((Zx l1 x5_1).f2))) (ds := []) #[false, false, false, false, false, false, false, false, false, false] (by kernel_rfl) rfl rfl ⟨((HB.out.cell (World.block_lt_of_cell? w _ hw502_0)).trans hw502_0), ((HB.out.cell (World.block_lt_of_cell? w _ hw502_1)).trans hw502_1), ((HB.out.cell (World.block_lt_of_cell? w _ hw502_2)).trans hw502_2), ((HB.out.cell (World.block_lt_of_cell? w _ hw503_0)).trans hw503_0), ((HB.out.cell (World.block_lt_of_cell? w _ hw503_1)).trans hw503_1), ((HB.out.cell (World.block_lt_of_cell? w _ hw503_2)).trans hw503_2)⟩ (fun hHeld => ?_); refine with_tabW Zbl.tab6 Zbl.bits6 (fun HT_ HW_ => ?_)
       generalize wr.drew = w11 at HB hx502_0 hx502_1 hx502_2 hx503_0 hx503_1 hx503_2 hHeld ⊢
       refine Zaf (i := 0) (N := some 17) (v := ?_) (a' := ?_) #[true, false, false, false, false, false, false, false, false, false] rfl rfl (Zag HT_.out (by kernel_rfl)) (fun _ _ _ h => h) (Or.inl ⟨by rfl, ?_⟩) ?_ ?_
       rotate_left
       ·intro w'
        go_simp
        with_reducible rfl
       rotate_left
       ·simp only [Act.put, ZD, ZE, ZF, Zu, Zv]
        rfl
       refine Zaf (i := 1) (N := some 18) (v := ?_) (a' := ?_) #[true, true, false, false, false, false, false, false, false, false] rfl rfl (Zag HT_.out (by kernel_rfl)) (fun _ _ _ h => h) (Or.inl ⟨by rfl, ?_⟩) ?_ ?_
       rotate_left
       ·intro w'
        go_simp
        with_reducible rfl
       rotate_left
       ·simp only [Act.put, ZD, ZE, ZF, Zu, Zv]
        rfl
       refine Zaf (i := 2) (N := some 19) (v := ?_) (a' := ?_) #[true, true, true, false, false, false, false, false, false, false] rfl rfl (Zag HT_.out (by kernel_rfl)) (fun _ _ _ h => h) (Or.inl ⟨by rfl, ?_⟩) ?_ ?_
       rotate_left
       ·intro w'
        go_simp
        with_reducible rfl
       rotate_left
       ·simp only [Act.put, ZD, ZE, ZF, Zu, Zv]
        rfl
       refine Zaf (i := 4) (N := some 21) (v := ?_) (a' := ?_) #[true, true, true, false, true, false, false, false, false, false] rfl rfl (Zag HT_.out (by kernel_rfl)) (fun _ _ _ h => h) (Or.inl ⟨by rfl, ?_⟩) ?_ ?_
       rotate_left
       ·intro w'
        go_simp
        with_reducible rfl
       rotate_left
       ·simp only [Act.put, ZD, ZE, ZF, Zu, Zv]
        rfl
       refine Zaf (i := 5) (N := some 22) (v := ?_) (a' := ?_) #[true, true, true, false, true, true, false, false, false, false] rfl rfl (Zag HT_.out (by kernel_rfl)) (fun _ _ _ h => h) (Or.inl ⟨by rfl, ?_⟩) ?_ ?_
       rotate_left
       ·intro w'
        go_simp
        with_reducible rfl
       rotate_left
       ·simp only [Act.put, ZD, ZE, ZF, Zu, Zv]
        rfl
       refine Zaf (i := 6) (N := some 23) (v := ?_) (a' := ?_) #[true, true, true, false, true, true, true, false, false, false] rfl rfl (Zag HT_.out (by kernel_rfl)) (fun _ _ _ h => h) (Or.inl ⟨by rfl, ?_⟩) ?_ ?_
       rotate_left
       ·intro w'
        go_simp
        with_reducible rfl
       rotate_left
       ·simp only [Act.put, ZD, ZE, ZF, Zu, Zv]
        rfl
       refine take_ (i := 3) (N := some 20) (v := ?_) (a' := ?_) #[true, true, true, true, true, true, true, false, false, false] rfl rfl (Zbt HT_.out HW_.out (by kernel_rfl)) (fun _ _ _ h => h) (Or.inl ⟨by rfl, ?_⟩) hHeld ?_ ?_
       rotate_left
       ·rintro w' ⟨s0, s1, s2, s3, s4, s5⟩
        go_simp
        with_reducible rfl
       rotate_left
       ·simp only [Act.put, ZD, ZE, ZF, Zu, Zv]
        rfl
       refine take_ (i := 7) (N := some 24) (v := ?_) (a' := ?_) #[true, true, true, true, true, true, true, true, false, false] rfl rfl (Zbt HT_.out HW_.out (by kernel_rfl)) (fun _ _ _ h => h) (Or.inl ⟨by rfl, ?_⟩) hHeld ?_ ?_
       rotate_left
       ·rintro w' ⟨s0, s1, s2, s3, s4, s5⟩
        go_simp
        with_reducible rfl
       rotate_left
       ·simp only [Act.put, ZD, ZE, ZF, Zu, Zv]
        rfl
       refine one_ (i := 8) (N := some 25) #[true, true, true, true, true, true, true, true, true, false] rfl rfl (one_of HT_.out (by kernel_rfl)) (by decide) (fun K hK => ?_)
       refine goes_ Try.func77 (by kernel_rfl) rfl #[.agg #[.int .i64 ((Zx l0 x5_1).f0), .int .u64 ((Zx l0 x5_1).f1), .int .u64 ((Zx l0 x5_1).f2)], .agg #[.int .i64 ((Zx l1 x5_1).f0), .int .u64 ((Zx l1 x5_1).f1), .int .u64 ((Zx l1 x5_1).f2)]] (by rfl) rfl rfl (by (try simp only [ZA, ZB, ZC]); first | done | rfl) ?_
       with_reducible refine (laws_eqCon.calls ((Zx l0 x5_1).f0) ((Zx l0 x5_1).f1) ((Zx l0 x5_1).f2) ((Zx l1 x5_1).f0) ((Zx l1 x5_1).f1) ((Zx l1 x5_1).f2) false _ A7.out).mono ?_
       rintro e w12 ⟨rfl, hb⟩
       refine ⟨_, rfl, ?_⟩
       replace HB := Za.mk (Zo (by with_reducible repeat first | exact HB.out | apply Zc | apply Ze | apply Zd) hb)
       (try clear hb)
       (try clear hb2)
       (try clear hk)
       (try clear hi)
       refine hK.out _ _ ⟨((HB.out.cell (World.block_lt_of_cell? w _ hw502_0)).trans hw502_0), ((HB.out.cell (World.block_lt_of_cell? w _ hw502_1)).trans hw502_1), ((HB.out.cell (World.block_lt_of_cell? w _ hw502_2)).trans hw502_2), ((HB.out.cell (World.block_lt_of_cell? w _ hw503_0)).trans hw503_0), ((HB.out.cell (World.block_lt_of_cell? w _ hw503_1)).trans hw503_1), ((HB.out.cell (World.block_lt_of_cell? w _ hw503_2)).trans hw503_2)⟩ (fun hHeld => ?_)
       clear hK K
       refine norm_ (a' := ?_) ?_ ?_
       rotate_left
       ·show Act.put _ (some 25) _ = _
        simp only [Act.put, ZD, ZE, ZF, Zu, Zv]
        rfl
       refine Zaf (i := 9) (N := some 26) (v := ?_) (a' := ?_) #[true, true, true, true, true, true, true, true, true, true] rfl rfl (Zag HT_.out (by kernel_rfl)) (fun _ _ _ h => h) (Or.inl ⟨by rfl, ?_⟩) ?_ ?_
       rotate_left
       ·intro w'
        go_simp
        with_reducible rfl
       rotate_left
       ·simp only [Act.put, ZD, ZE, ZF, Zu, Zv]
        rfl
       refine done_ (done_of HT_.out (by kernel_rfl)) ?_
       try go_wp2
       go_ret
       exact ⟨by first | rfl | (simp [Zm, Zn] <;> rfl) | (simp [*, Zm, Zn] <;> rfl), by with_reducible repeat first | exact HB.out | apply Zc | apply Ze | apply Zd⟩
      rw [if_neg c6] at H
      exact absurd H (by simp)
     rw [if_neg c5] at H
     exact absurd H (by simp)
    rw [if_neg c4] at H
    have c4b0 : decide (x5_1 < (l0.length : Int)) = false := decide_eq_false c4
    clear c4
    obtain rfl := Option.some.inj H
    go_wp2
    go_ret
    exact ⟨by first | rfl | (simp [Zm, Zn] <;> rfl) | (simp [*, Zm, Zn] <;> rfl), by with_reducible repeat first | exact HB.out | apply Zc | apply Ze | apply Zd⟩
 rw [if_neg c3] at H
 have c3b0 : ((l0.length : Int) == (l1.length : Int)) = false := beq_eq_false_iff_ne.mpr c3
 have c3b1 : ((l0.length : Int) != (l1.length : Int)) = true := bne_iff_ne.mpr c3
 have c3b2 : (l0.length == l1.length) = false := by first | simpa using c3 | (simp at c3 ⊢; omega)
 obtain rfl := Option.some.inj H
 go_enter Try.func75, Try.ntmps75
 go_wp2
 go_ret
 exact ⟨by first | rfl | (simp [Zm, Zn] <;> rfl) | (simp [*, Zm, Zn] <;> rfl), by with_reducible repeat first | exact HB.out | apply Zc | apply Ze | apply Zd⟩
def laws_eqRule.f (k : Nat) (l0_0 : List (S95)) (l1_0 : List (S95)) : Option (Bool) := (Zbl.f k l0_0 l1_0).bind fun t507 => (if t507 = true then (some true) else (some false))
set_option maxHeartbeats 8000000 in
set_option maxRecDepth 100000 in
theorem laws_eqRule.calls (k : Nat) (A0_0 : Option Addr) (c0_0 : Nat) (l0_0 : List (S95)) (A1_0 : Option Addr) (c1_0 : Nat) (l1_0 : List (S95)) (r : Bool) (w : World) (hr0_0 : Kd.C k95 w A0_0 l0_0.length l0_0) (hc0_0 : l0_0.length ≤ c0_0) (hr1_0 : Kd.C k95 w A1_0 l1_0.length l1_0) (hc1_0 : l1_0.length ≤ c1_0) (h : laws_eqRule.f k l0_0 l1_0 = some r) :
  Calls Try.prog 71 #[.agg #[.slice A0_0 l0_0.length c0_0], .agg #[.slice A1_0 l1_0.length c1_0]] w fun e w' => e = .returned (.bool r) ∧ Below w.heap.size w w' := by
 have hu65 := Try.underlying65
 have HR0_0 := Za.mk hr0_0
 have HC0_0 := Za.mk hc0_0
 clear hr0_0 hc0_0
 have HR1_0 := Za.mk hr1_0
 have HC1_0 := Za.mk hc1_0
 clear hr1_0 hc1_0
 have HB := Za.mk (Below.refl w.heap.size w)
 have H : ((Zbl.f k l0_0 l1_0).bind fun t507 => (if t507 = true then (some true) else (some false))) = some r := h
 clear h
 replace H := Option.bind_eq_some_iff.mp H
 obtain ⟨t507, A30, H⟩ := H
 replace H : (if t507 = true then (some true) else (some false)) = some r := H
 have A3 := Za.mk A30
 clear A30
 by_cases c4 : t507 = true
 ·subst c4
  have H1 : (some true) = some r := by rw [if_pos rfl] at H; exact H
  clear H
  have H := H1
  clear H1
  obtain rfl := Option.some.inj H
  go_enter Try.func71, Try.ntmps71
  go_wp2_with (first | ((with_reducible refine Zab (N := 2) rfl ?_); refine Zac ?hg (N := 2) ?hd (cs := #[.slice A0_0 l0_0.length c0_0]) (t := 65) ?hr ?_; (case hd => rfl); (case hg => rfl); (case hr => go_simp <;> rfl); intro gb505 hg w5 hbox hb; have BK505 := Za.mk (hbox); have GW505 := Za.mk ((by rw [hg]; exact (Zl (by with_reducible repeat first | exact HB.out | apply Zc | apply Ze | apply Zd)) : w.heap.size ≤ gb505)); have GE505 := Za.mk ((by rw [hg]; exact (Zl (by with_reducible repeat first | exact HB.out | apply Zc | apply Ze | apply Zd)) : w.heap.size ≤ gb505)); replace HB := Za.mk (Zo (by with_reducible repeat first | exact HB.out | apply Zc | apply Ze | apply Zd) hb); clear hb hbox hg) | ((with_reducible refine Zab (N := 3) rfl ?_); refine Zac ?hg (N := 3) ?hd (cs := #[.slice A1_0 l1_0.length c1_0]) (t := 65) ?hr ?_; (case hd => rfl); (case hg => rfl); (case hr => go_simp <;> rfl); intro gb506 hg w6 hbox hb; have BK506 := Za.mk (hbox); have GW506 := Za.mk ((by rw [hg]; exact (Zl (by with_reducible repeat first | exact HB.out | apply Zc | apply Ze | apply Zd | refine Zk ?_ GE505.out)) : w.heap.size ≤ gb506)); have GE506 := Za.mk ((by rw [hg]; exact (Zl (by with_reducible repeat first | exact HB.out | apply Zc | apply Ze | apply Zd | refine Zk ?_ GE505.out)) : w.heap.size ≤ gb506)); replace HB := Za.mk (Zo (by with_reducible repeat first | exact HB.out | apply Zc | apply Ze | apply Zd | refine Zk ?_ GE505.out) hb); have NB505_506 := Za.mk ((by rw [hg]; exact Nat.ne_of_lt (Zs (g := gb505) (o := .cells #[.slice A0_0 l0_0.length c0_0] 65 (0, 0)) (by (with_reducible repeat first | apply Zg | apply Zf | apply Zh); exact BK505.out)) : gb505 ≠ gb506)); have NB506_505 := Za.mk ((by rw [hg]; exact Nat.ne_of_gt (Zs (g := gb505) (o := .cells #[.slice A0_0 l0_0.length c0_0] 65 (0, 0)) (by (with_reducible repeat first | apply Zg | apply Zf | apply Zh); exact BK505.out)) : gb506 ≠ gb505)); replace BK505 := Za.mk (Zp (g := gb505) (o := .cells #[.slice A0_0 l0_0.length c0_0] 65 (0, 0)) (by (with_reducible repeat first | apply Zg | apply Zf | apply Zh); exact BK505.out) hb); clear hb hbox hg; have hnb7 := NB505_506.out; have hnc7 := NB506_505.out; have hcz8_0 : w6.cell? ⟨gb505, 0, none⟩ = some (.slice A0_0 l0_0.length c0_0) := (Zb BK505.out 0).trans rfl; have hfz8_0 := Zj BK505.out 0; have hcz9_0 : w6.cell? ⟨gb506, 0, none⟩ = some (.slice A1_0 l1_0.length c1_0) := (Zb BK506.out 0).trans rfl; have hfz9_0 := Zj BK506.out 0) | ((with_reducible refine Zaj (f := 75) rfl ?_); refine Zai (some 9) rfl rfl Try.func75 (by kernel_rfl) rfl #[.slice A0_0 l0_0.length c0_0, .slice A1_0 l1_0.length c1_0] rfl (by (try simp only [ZA, ZB, ZC]); first | done | rfl) ?_; (with_reducible refine (Zbl.calls k _ _ l0_0 _ _ l1_0 true _ ?side1 ?side2 ?side3 ?side4 A3.out).mono ?_); (case side1 => repeat (first | exact (Kd.Zan HR0_0.out HB.out) | (with_reducible refine Kd.Zau ?_ _) | (with_reducible refine Kd.Zaw ?_ _) | (with_reducible refine Kd.Zav ?_))); (case side2 => exact HC0_0.out); (case side3 => repeat (first | exact (Kd.Zan HR1_0.out HB.out) | (with_reducible refine Kd.Zau ?_ _) | (with_reducible refine Kd.Zaw ?_ _) | (with_reducible refine Kd.Zav ?_))); (case side4 => exact HC1_0.out); rintro e w10 ⟨rfl, hb⟩; refine ⟨_, rfl, ?_⟩; replace BK505 := Za.mk (Zp (g := gb505) (o := .cells #[.slice A0_0 l0_0.length c0_0] 65 (0, 0)) (by (with_reducible repeat first | apply Zg | apply Zf | apply Zh); exact BK505.out) hb); replace BK506 := Za.mk (Zp (g := gb506) (o := .cells #[.slice A1_0 l1_0.length c1_0] 65 (0, 0)) (by (with_reducible repeat first | apply Zg | apply Zf | apply Zh); exact BK506.out) hb); replace HB := Za.mk (Zo (by with_reducible repeat first | exact HB.out | apply Zc | apply Ze | apply Zd | refine Zk ?_ GE505.out | refine Zk ?_ GE506.out) hb); (try clear hb); (try clear hb2); (try clear hk); (try clear hi)))
  go_ret
  exact ⟨by first | rfl | (simp [Zm, Zn] <;> rfl) | (simp [*, Zm, Zn] <;> rfl), by with_reducible repeat first | exact HB.out | apply Zc | apply Ze | apply Zd | refine Zk ?_ GE505.out | refine Zk ?_ GE506.out⟩
 replace c4 := Bool.eq_false_iff.mpr c4
 subst c4
 have H1 : (some false) = some r := by rw [if_neg (show ¬ (false = true) by decide)] at H; exact H
 clear H
 have H := H1
 clear H1
 obtain rfl := Option.some.inj H
 go_enter Try.func71, Try.ntmps71
 go_wp2_with (first | ((with_reducible refine Zab (N := 2) rfl ?_); refine Zac ?hg (N := 2) ?hd (cs := #[.slice A0_0 l0_0.length c0_0]) (t := 65) ?hr ?_; (case hd => rfl); (case hg => rfl); (case hr => go_simp <;> rfl); intro gb505 hg w11 hbox hb; have BK505 := Za.mk (hbox); have GW505 := Za.mk ((by rw [hg]; exact (Zl (by with_reducible repeat first | exact HB.out | apply Zc | apply Ze | apply Zd)) : w.heap.size ≤ gb505)); have GE505 := Za.mk ((by rw [hg]; exact (Zl (by with_reducible repeat first | exact HB.out | apply Zc | apply Ze | apply Zd)) : w.heap.size ≤ gb505)); replace HB := Za.mk (Zo (by with_reducible repeat first | exact HB.out | apply Zc | apply Ze | apply Zd) hb); clear hb hbox hg) | ((with_reducible refine Zab (N := 3) rfl ?_); refine Zac ?hg (N := 3) ?hd (cs := #[.slice A1_0 l1_0.length c1_0]) (t := 65) ?hr ?_; (case hd => rfl); (case hg => rfl); (case hr => go_simp <;> rfl); intro gb506 hg w12 hbox hb; have BK506 := Za.mk (hbox); have GW506 := Za.mk ((by rw [hg]; exact (Zl (by with_reducible repeat first | exact HB.out | apply Zc | apply Ze | apply Zd | refine Zk ?_ GE505.out)) : w.heap.size ≤ gb506)); have GE506 := Za.mk ((by rw [hg]; exact (Zl (by with_reducible repeat first | exact HB.out | apply Zc | apply Ze | apply Zd | refine Zk ?_ GE505.out)) : w.heap.size ≤ gb506)); replace HB := Za.mk (Zo (by with_reducible repeat first | exact HB.out | apply Zc | apply Ze | apply Zd | refine Zk ?_ GE505.out) hb); have NB505_506 := Za.mk ((by rw [hg]; exact Nat.ne_of_lt (Zs (g := gb505) (o := .cells #[.slice A0_0 l0_0.length c0_0] 65 (0, 0)) (by (with_reducible repeat first | apply Zg | apply Zf | apply Zh); exact BK505.out)) : gb505 ≠ gb506)); have NB506_505 := Za.mk ((by rw [hg]; exact Nat.ne_of_gt (Zs (g := gb505) (o := .cells #[.slice A0_0 l0_0.length c0_0] 65 (0, 0)) (by (with_reducible repeat first | apply Zg | apply Zf | apply Zh); exact BK505.out)) : gb506 ≠ gb505)); replace BK505 := Za.mk (Zp (g := gb505) (o := .cells #[.slice A0_0 l0_0.length c0_0] 65 (0, 0)) (by (with_reducible repeat first | apply Zg | apply Zf | apply Zh); exact BK505.out) hb); clear hb hbox hg; have hnb13 := NB505_506.out; have hnc13 := NB506_505.out; have hcz14_0 : w12.cell? ⟨gb505, 0, none⟩ = some (.slice A0_0 l0_0.length c0_0) := (Zb BK505.out 0).trans rfl; have hfz14_0 := Zj BK505.out 0; have hcz15_0 : w12.cell? ⟨gb506, 0, none⟩ = some (.slice A1_0 l1_0.length c1_0) := (Zb BK506.out 0).trans rfl; have hfz15_0 := Zj BK506.out 0) | ((with_reducible refine Zaj (f := 75) rfl ?_); refine Zai (some 9) rfl rfl Try.func75 (by kernel_rfl) rfl #[.slice A0_0 l0_0.length c0_0, .slice A1_0 l1_0.length c1_0] rfl (by (try simp only [ZA, ZB, ZC]); first | done | rfl) ?_; (with_reducible refine (Zbl.calls k _ _ l0_0 _ _ l1_0 false _ ?side1 ?side2 ?side3 ?side4 A3.out).mono ?_); (case side1 => repeat (first | exact (Kd.Zan HR0_0.out HB.out) | (with_reducible refine Kd.Zau ?_ _) | (with_reducible refine Kd.Zaw ?_ _) | (with_reducible refine Kd.Zav ?_))); (case side2 => exact HC0_0.out); (case side3 => repeat (first | exact (Kd.Zan HR1_0.out HB.out) | (with_reducible refine Kd.Zau ?_ _) | (with_reducible refine Kd.Zaw ?_ _) | (with_reducible refine Kd.Zav ?_))); (case side4 => exact HC1_0.out); rintro e w16 ⟨rfl, hb⟩; refine ⟨_, rfl, ?_⟩; replace BK505 := Za.mk (Zp (g := gb505) (o := .cells #[.slice A0_0 l0_0.length c0_0] 65 (0, 0)) (by (with_reducible repeat first | apply Zg | apply Zf | apply Zh); exact BK505.out) hb); replace BK506 := Za.mk (Zp (g := gb506) (o := .cells #[.slice A1_0 l1_0.length c1_0] 65 (0, 0)) (by (with_reducible repeat first | apply Zg | apply Zf | apply Zh); exact BK506.out) hb); replace HB := Za.mk (Zo (by with_reducible repeat first | exact HB.out | apply Zc | apply Ze | apply Zd | refine Zk ?_ GE505.out | refine Zk ?_ GE506.out) hb); (try clear hb); (try clear hb2); (try clear hk); (try clear hi)))
 go_ret
 exact ⟨by first | rfl | (simp [Zm, Zn] <;> rfl) | (simp [*, Zm, Zn] <;> rfl), by with_reducible repeat first | exact HB.out | apply Zc | apply Ze | apply Zd | refine Zk ?_ GE505.out | refine Zk ?_ GE506.out⟩

end Go.Proofs.Ytgmbahldjiiajaa.P
