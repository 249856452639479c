import Derived.Test.YtgmbahldjiiajaaGFnExactCompile4
import Derived.Test.YtgmbahldjiiajaaGFnExactCompile6
namespace Go.Proofs.Ytgmbahldjiiajaa.P
open Go.RowKit Go.Proofs.YtgmbahldjiiajaaW.PrintWords Go.Proofs.YtgmbahldjiiajaaW.PrintLast Go.Proofs.YtgmbahldjiiajaaW.PrintMore
attribute [local go_sem] max2_int min2_int max_two min_two max_three min_three max_four min_four
set_option linter.unusedVariables false
set_option linter.unusedSimpArgs false

def Zbq.l0 : Nat → List (S52) → List (S52) → Int → Option ((List (S52)) × Int)
 | 0, _, _, _ => none
 | k + 1, x4, x5, x6 => if x6 ≥ 0 then (if 0 ≤ x6 then (if x6 < (x4.length : Int) then (if x5.length < 17592186044416 then (Zbq.l0 k x4 (x5 ++ [(⟨(Zq x4 x6).f0, (Zq x4 x6).f1, (Zq x4 x6).f2, (Zq x4 x6).f3⟩ : S52)]) (wrap64 (x6 - 1))) else (none)) else (none)) else (none)) else (some (x5, 0))
def Zbq.f (k : Nat) (l0 : List (S69)) : Option ((List (S52)) × Int) := (Zbc.f k l0).bind fun t127 => (if (t127.length : Int) > 4096 then (some (([] : List (S52)), 10)) else (Zbq.l0 k t127 ([] : List (S52)) (wrap64 ((t127.length : Int) - 1))))
set_option maxHeartbeats 8000000 in
set_option maxRecDepth 100000 in
theorem Zbq.calls (k : Nat) (A0 : Option Addr) (c0 : Nat) (l0 : List (S69)) (r1 : List (S52)) (r2 : Int) (w : World) (hr0 : Kd.C k69 w A0 l0.length l0) (hc0 : l0.length ≤ c0) (h : Zbq.f k l0 = some (r1, r2)) :
  Calls Try.prog 15 #[.slice A0 l0.length c0] w fun e w' => ∃ v0_ : Value, e = .returned (.tuple #[v0_, .int .i64 r2]) ∧ Kd.R k52 52 w' w.heap.size (fun _ => True) v0_ r1 ∧ Below w.heap.size w w' := by
 have hu52 := Try.underlying52
 have HR0 := Za.mk hr0
 have HC0 := Za.mk hc0
 clear hr0 hc0
 have HB := Za.mk (Below.refl w.heap.size w)
 have H := h
 unfold Zbq.f at H
 clear h
 replace H := Option.bind_eq_some_iff.mp H
 obtain ⟨t127, A20, H⟩ := H
 replace H : (if (t127.length : Int) > 4096 then (some (([] : List (S52)), 10)) else (Zbq.l0 k t127 ([] : List (S52)) (wrap64 ((t127.length : Int) - 1)))) = some (r1, r2) := H
 have A2 := Za.mk A20
 clear A20
 by_cases c3 : (t127.length : Int) > 4096
 ·rw [if_pos c3] at H
  have c3b0 : decide (4096 < (t127.length : Int)) = true := decide_eq_true c3
  have c3b1 : decide (4096 < t127.length) = true := decide_eq_true (by omega)
  clear c3
  simp only [Option.some.injEq, Prod.mk.injEq] at H
  obtain ⟨rfl, rfl⟩ := H
  go_enter Try.func15, Try.ntmps15
  go_wp2_with (first | ((with_reducible refine Zaj (f := 27) rfl ?_); refine Zai (some 8) rfl rfl Try.func27 (by kernel_rfl) rfl #[.slice A0 l0.length c0] rfl (by (try simp only [ZA, ZB, ZC]); first | done | rfl) ?_; (with_reducible refine (Zbc.calls k _ _ l0 t127 _ ?side1 ?side2 A2.out).mono ?_); (case side1 => repeat (first | exact HR0.out | (with_reducible refine Kd.Zau ?_ _) | (with_reducible refine Kd.Zaw ?_ _) | (with_reducible refine Kd.Zav ?_))); (case side2 => exact HC0.out); rintro e w4 ⟨v128, rfl, ho0, hb⟩; refine ⟨_, rfl, ?_⟩; have HO129 := Za.mk (Kd.Zbk ho0 (Zl (by with_reducible repeat first | exact HB.out | apply Zc | apply Ze | apply Zd))); replace HB := Za.mk (Zo (by with_reducible repeat first | exact HB.out | apply Zc | apply Ze | apply Zd) hb); (try clear hb); (try clear hb2); (try clear hk); (try clear hi); (try clear ho0); obtain ⟨Ao5, co5, eo5⟩ := Kd.Zay HO129.out; subst eo5))
  go_ret2
  exact ⟨_, by first | rfl | (simp [Zm, Zn] <;> rfl) | (simp [*, Zm, Zn] <;> rfl), by first | exact Kd.R_nil _ _ _ _ _ | exact Kd.N_nil _ _ _ _ _ | exact Kd.V_nil _ _ _ _ _ | exact Kd.Q_nil _ _ _ _ _ | exact Kd.S_nil _ _ _ _ _, by with_reducible repeat first | exact HB.out | apply Zc | apply Ze | apply Zd⟩
 rw [if_neg c3] at H
 have c3b0 : decide (4096 < (t127.length : Int)) = false := decide_eq_false c3
 have c3b1 : decide (4096 < t127.length) = false := decide_eq_false (by omega)
 clear c3
 have H' := Za.mk H
 clear H
 go_enter Try.func15, Try.ntmps15
 go_wp2_with (first | ((with_reducible refine Zaj (f := 27) rfl ?_); refine Zai (some 8) rfl rfl Try.func27 (by kernel_rfl) rfl #[.slice A0 l0.length c0] rfl (by (try simp only [ZA, ZB, ZC]); first | done | rfl) ?_; (with_reducible refine (Zbc.calls k _ _ l0 t127 _ ?side1 ?side2 A2.out).mono ?_); (case side1 => repeat (first | exact HR0.out | (with_reducible refine Kd.Zau ?_ _) | (with_reducible refine Kd.Zaw ?_ _) | (with_reducible refine Kd.Zav ?_))); (case side2 => exact HC0.out); rintro e w6 ⟨v128, rfl, ho0, hb⟩; refine ⟨_, rfl, ?_⟩; have HO129 := Za.mk (Kd.Zbk ho0 (Zl (by with_reducible repeat first | exact HB.out | apply Zc | apply Ze | apply Zd))); replace HB := Za.mk (Zo (by with_reducible repeat first | exact HB.out | apply Zc | apply Ze | apply Zd) hb); (try clear hb); (try clear hb2); (try clear hk); (try clear hi); (try clear ho0); obtain ⟨Ao7, co7, eo7⟩ := Kd.Zay HO129.out; subst eo7))
 go_loopg [5, 6] k (fun kq v5 v6 w' => ∃ (x5_1 : List (S52)) (x6_1 : Int), v6 = .int .i64 x6_1 ∧ Za (Zbq.l0 kq t127 x5_1 x6_1 = some (r1, r2)) ∧ Za (kq ≤ k) ∧ Za (Kd.R k52 52 w' w.heap.size (fun k_ => some k_ ≠ (v5 : Value).ownBlock) (.slice Ao7 t127.length co7) t127) ∧ Za (Kd.R k52 52 w' w.heap.size (fun k_ => some k_ ≠ ((.slice Ao7 t127.length co7) : Value).ownBlock) v5 x5_1) ∧ Za (Below w.heap.size w w'))
 case atStart => exact ⟨(([] : List (S52))), (wrap64 ((t127.length : Int) - 1)), (by first | rfl | (simp; done) | (simp [*]; done)), H', ⟨Nat.le_refl _⟩, ⟨by (with_reducible repeat (first | apply Kd.Zaa | apply Kd.Zy | apply Kd.Zz)); exact Kd.Zas HO129.out (fun _ hk => (by simp [Value.ownBlock]))⟩, ⟨by first | exact Kd.R_nil _ _ _ _ _ | exact Kd.N_nil _ _ _ _ _ | exact Kd.V_nil _ _ _ _ _ | exact Kd.Q_nil _ _ _ _ _ | exact Kd.S_nil _ _ _ _ _⟩, ⟨by with_reducible repeat first | exact HB.out | apply Zc | apply Ze | apply Zd⟩⟩
 case round =>
  clear H'
  try clear c1
  try clear c2
  try clear p2
  try clear c3
  try clear c3b0
  try clear c3b1
  try clear p6
  obtain ⟨x5_1, x6_1, rfl, HA, HK1, HO_4, HO_5, HB⟩ := hrel
  cases gk with
  | zero => exact absurd HA.out (by simp [Zbq.l0])
  | succ k1 =>
   have H := HA.out
   clear HA
   simp only [Zbq.l0] at H
   by_cases c8 : x6_1 ≥ 0
   ·rw [if_pos c8] at H
    have c8b0 : decide (0 ≤ x6_1) = true := decide_eq_true c8
    clear c8
    by_cases c9 : 0 ≤ x6_1
    ·rw [if_pos c9] at H
     have c9b0 : decide (0 ≤ x6_1) = true := decide_eq_true c9
     clear c9
     by_cases c10 : x6_1 < (t127.length : Int)
     ·rw [if_pos c10] at H
      have c10b0 : decide (x6_1 < (t127.length : Int)) = true := decide_eq_true c10
      clear c10
      by_cases c11 : x5_1.length < 17592186044416
      ·rw [if_pos c11] at H
       have LMc11 := Za.mk c11
       clear c11
       obtain ⟨y131, hy131⟩ : ∃ y_ : List (S52), y_ = (x5_1 ++ [(⟨(Zq t127 x6_1).f0, (Zq t127 x6_1).f1, (Zq t127 x6_1).f2, (Zq t127 x6_1).f3⟩ : S52)]) := ⟨_, rfl⟩
       replace H : (Zbq.l0 k1 t127 y131 (wrap64 (x6_1 - 1))) = some (r1, r2) := by first | (rw [hy131]; with_reducible exact H) | (have H2_ := (Option.bind_some _ _).symm.trans H; rw [hy131]; with_reducible exact H2_) | (have H2_ := (Option.bind_some _ _).symm.trans H; with_reducible exact H2_) | with_reducible exact H | (rw [hy131]; exact H) | exact H
       have Ny131 := Za.mk hy131
       clear hy131
       have H' := Za.mk H
       clear H
       have p130 : 0 ≤ (x6_1 : Int) := of_decide_eq_true (by assumption)
       have q130 : x6_1 < (t127.length : Int) := of_decide_eq_true (by assumption)
       obtain ⟨ad130, e130, hx130_0, hx130_1, hx130_2, hx130_3⟩ := at_T52 (Kd.Zat HO_4.out).2.2 x6_1 p130 q130
       cases e130
       replace p130 := eq_true p130
       replace q130 := eq_true q130
       go_wp2_with (first | ((with_reducible refine Zba (b := .append) (xs := #[.tmp 19, .tmp 24]) rfl ?_); at_builtin; refine Kd.Zbb k52 (w0 := w) w.heap.size rfl (.tmp 19) (.tmp 24) 26 52 (.agg #[(.int .u16 0), (.int .u8 0), (.int .u8 0), (.int .u32 0)]) 8 rfl Try.underlying26 info52 rfl (by decide) (by omega) u5 x5_1 (⟨(Zq t127 x6_1).f0, (Zq t127 x6_1).f1, (Zq t127 x6_1).f2, (Zq t127 x6_1).f3⟩ : S52) [.int .u16 ((Zq t127 x6_1).f0), .int .u8 ((Zq t127 x6_1).f1), .int .u8 ((Zq t127 x6_1).f2), .int .u32 ((Zq t127 x6_1).f3)] (fun k_ => some k_ ≠ (.slice (some ad130) t127.length co7 : Value).ownBlock) (fun _ => False) rfl rfl ?aP (fun _ hk => hk.elim) ?aF ?aO ?aB ?aS ?aL ?_; (case aP => exact k52_mkM _ _ _ (⟨(Zq t127 x6_1).f0, (Zq t127 x6_1).f1, (Zq t127 x6_1).f2, (Zq t127 x6_1).f3⟩ : S52)); (case aB => exact (by with_reducible repeat first | exact HB.out | apply Zc | apply Ze | apply Zd)); (case aF => exact (fun k_ hk => Kd.fresh' (Kd.R_lt (by (with_reducible repeat (first | apply Kd.Zaa | apply Kd.Zy | apply Kd.Zz)); exact HO_4.out)) k_ hk)); (case aO => exact (by (with_reducible repeat (first | apply Kd.Zaa | apply Kd.Zy | apply Kd.Zz)); exact HO_5.out)); (case aS => exact (Zl (by with_reducible repeat first | exact HB.out | apply Zc | apply Ze | apply Zd))); (case aL => have := LMc11.out; omega); intro v132 w12 ho hb hg hat; rw [← Ny131.out] at ho; have n0_ := Za.mk (Kd.R_after (ok := (fun _ => True)) (by (with_reducible repeat (first | apply Kd.Zaa | apply Kd.Zy | apply Kd.Zz)); exact Kd.Zas HO_4.out (fun _ hk => ⟨trivial, hk⟩)) hg hat); have n1_ := Za.mk (hb); have n2_ := Za.mk (ho); clear HO_4; clear HB; clear HO_5; have HO_4 := n0_; have HB := n1_; have HO133 := n2_; clear n0_ n1_ n2_; clear ho hb hg hat))
       go_roundg k1
       case measure => have := HK1.out; omega
       case rel => exact ⟨(y131), (wrap64 (x6_1 - 1)), (by first | rfl | (simp; done) | (simp [*]; done)), H', ⟨by have := HK1.out; omega⟩, ⟨by (with_reducible repeat (first | apply Kd.Zaa | apply Kd.Zy | apply Kd.Zz)); exact Kd.Zas HO_4.out (fun _ hk => hk.2)⟩, ⟨by (with_reducible repeat (first | apply Kd.Zaa | apply Kd.Zy | apply Kd.Zz)); exact HO133.out⟩, ⟨by with_reducible repeat first | exact HB.out | apply Zc | apply Ze | apply Zd⟩⟩
      rw [if_neg c11] at H
      exact absurd H (by simp)
     rw [if_neg c10] at H
     exact absurd H (by simp)
    rw [if_neg c9] at H
    exact absurd H (by simp)
   rw [if_neg c8] at H
   have c8b0 : decide (0 ≤ x6_1) = false := decide_eq_false c8
   clear c8
   simp only [Option.some.injEq, Prod.mk.injEq] at H
   obtain ⟨rfl, rfl⟩ := H
   go_wp2
   go_ret2
   exact ⟨_, by first | rfl | (simp [Zm, Zn] <;> rfl) | (simp [*, Zm, Zn] <;> rfl), by (with_reducible repeat (first | apply Kd.Zaa | apply Kd.Zy | apply Kd.Zz)); exact Kd.Zas HO_5.out (fun _ hk => trivial), by with_reducible repeat first | exact HB.out | apply Zc | apply Ze | apply Zd⟩
def impl_made.j0 : Nat → Int → Bool → Int → Int → Int → Int → Int → Int → Int → Int → Int → Int → Int → Int → Int → Int → Option ((List (S52)))
 | 0, _, _, _, _, _, _, _, _, _, _, _, _, _, _, _, _ => none
 | k + 1, x1, x30, x475000, x475001, x475002, x475003, x475004, x475005, x476000, x476001, x476002, x476003, x477000, x477001, x477002, x477003 => if x30 = true then (some (([(⟨x477000, (x1) % 256, x477002, x477003⟩ : S52)] : List (S52)))) else (if x475000 = 1 then (some (([(⟨x477000, x477001, 1, x477003⟩ : S52), (⟨x476000, x476001, x476002, x476003⟩ : S52)] : List (S52)))) else (if x1 ≤ 255 then (some (([(⟨x477000, x477001, (x1) % 256, x477003⟩ : S52)] : List (S52)))) else (some (([(⟨x477000, 1, x477002, x477003⟩ : S52), (⟨x476000, x476001, x476002, x476003⟩ : S52)] : List (S52))))))
def impl_made.f (k : Nat) (a0_0 : Int) (a0_1 : Int) (a0_2 : Int) (a0_3 : Int) (a0_4 : Int) (a0_5 : Int) (a1 : Int) : Option ((List (S52))) := if a0_0 = 0 then (some (([(⟨a0_1, a0_2, a0_3, a0_4⟩ : S52)] : List (S52)))) else (if a0_0 = 3 then (some (([(⟨5, 0, 0, (a1) % 4294967296⟩ : S52)] : List (S52)))) else (if a0_0 = 1 then (impl_made.j0 k a1 (decide (a1 ≤ 255)) a0_0 a0_1 a0_2 a0_3 a0_4 a0_5 5 0 0 ((a1) % 4294967296) a0_1 0 0 a0_4) else (impl_made.j0 k a1 false a0_0 a0_1 a0_2 a0_3 a0_4 a0_5 5 0 0 ((a1) % 4294967296) a0_1 0 0 a0_4)))
set_option maxHeartbeats 8000000 in
set_option maxRecDepth 100000 in
theorem impl_made.calls (k : Nat) (a0_0 : Int) (a0_1 : Int) (a0_2 : Int) (a0_3 : Int) (a0_4 : Int) (a0_5 : Int) (a1 : Int) (r : List (S52)) (w : World) (h : impl_made.f k a0_0 a0_1 a0_2 a0_3 a0_4 a0_5 a1 = some r) :
  Calls Try.prog 47 #[.agg #[.int .i64 a0_0, .int .u16 a0_1, .int .u8 a0_2, .int .u8 a0_3, .int .u32 a0_4, .int .i64 a0_5], .int .i64 a1] w fun e w' => ∃ v0_ : Value, e = .returned (v0_) ∧ Kd.R k52 52 w' w.heap.size (fun _ => True) v0_ r ∧ Below w.heap.size w w' := by
 have hu69 := Try.underlying69
 have hu52 := Try.underlying52
 have HB := Za.mk (Below.refl w.heap.size w)
 have H := h
 unfold impl_made.f at H
 clear h
 by_cases c3 : a0_0 = 0
 ·rw [if_pos c3] at H
  have c3b0 : (a0_0 == 0) = true := beq_iff_eq.mpr c3
  have c3b1 : (a0_0 != 0) = false := bne_eq_false_iff_eq.mpr c3
  clear c3
  obtain ⟨y477, hy477⟩ : ∃ y_ : List (S52), y_ = (([(⟨a0_1, a0_2, a0_3, a0_4⟩ : S52)] : List (S52))) := ⟨_, rfl⟩
  replace H : (some y477) = some r := by first | (rw [hy477]; with_reducible exact H) | (have H2_ := (Option.bind_some _ _).symm.trans H; rw [hy477]; with_reducible exact H2_) | (have H2_ := (Option.bind_some _ _).symm.trans H; with_reducible exact H2_) | with_reducible exact H | (rw [hy477]; exact H) | exact H
  have Ny477 := Za.mk hy477
  clear hy477
  obtain rfl := Option.some.inj H
  go_enter Try.func47, Try.ntmps47
  go_wp2_with (first | ((with_reducible refine Zab (N := 2) rfl ?_); refine Zac ?hg (N := 2) ?hd (cs := #[.int .i64 a0_0, .int .u16 a0_1, .int .u8 a0_2, .int .u8 a0_3, .int .u32 a0_4, .int .i64 a0_5]) (t := 69) ?hr ?_; (case hd => rfl); (case hg => rfl); (case hr => go_simp <;> rfl); intro gb474 hg w4 hbox hb; have BK474 := Za.mk (hbox); have GW474 := Za.mk ((by rw [hg]; exact (Zl (by with_reducible repeat first | exact HB.out | apply Zc | apply Ze | apply Zd)) : w.heap.size ≤ gb474)); have GE474 := Za.mk ((by rw [hg]; exact (Zl (by with_reducible repeat first | exact HB.out | apply Zc | apply Ze | apply Zd)) : w.heap.size ≤ gb474)); replace HB := Za.mk (Zo (by with_reducible repeat first | exact HB.out | apply Zc | apply Ze | apply Zd) hb); clear hb hbox hg) | ((with_reducible refine Zab (N := 5) rfl ?_); refine Zac ?hg (N := 5) ?hd (cs := #[.int .u16 0, .int .u8 0, .int .u8 0, .int .u32 0]) (t := 52) ?hr ?_; (case hd => rfl); (case hg => rfl); (case hr => go_simp <;> rfl); intro gb475 hg w5 hbox hb; have BK475 := Za.mk (hbox); have GW475 := Za.mk ((by rw [hg]; exact (Zl (by with_reducible repeat first | exact HB.out | apply Zc | apply Ze | apply Zd | refine Zk ?_ GE474.out)) : w.heap.size ≤ gb475)); have GE475 := Za.mk ((by rw [hg]; exact (Zl (by with_reducible repeat first | exact HB.out | apply Zc | apply Ze | apply Zd | refine Zk ?_ GE474.out)) : w.heap.size ≤ gb475)); replace HB := Za.mk (Zo (by with_reducible repeat first | exact HB.out | apply Zc | apply Ze | apply Zd | refine Zk ?_ GE474.out) hb); have NB474_475 := Za.mk ((by rw [hg]; exact Nat.ne_of_lt (Zs (g := gb474) (o := .cells #[.int .i64 a0_0, .int .u16 a0_1, .int .u8 a0_2, .int .u8 a0_3, .int .u32 a0_4, .int .i64 a0_5] 69 (0, 0)) (by (with_reducible repeat first | apply Zg | apply Zf | apply Zh); exact BK474.out)) : gb474 ≠ gb475)); have NB475_474 := Za.mk ((by rw [hg]; exact Nat.ne_of_gt (Zs (g := gb474) (o := .cells #[.int .i64 a0_0, .int .u16 a0_1, .int .u8 a0_2, .int .u8 a0_3, .int .u32 a0_4, .int .i64 a0_5] 69 (0, 0)) (by (with_reducible repeat first | apply Zg | apply Zf | apply Zh); exact BK474.out)) : gb475 ≠ gb474)); replace BK474 := Za.mk (Zp (g := gb474) (o := .cells #[.int .i64 a0_0, .int .u16 a0_1, .int .u8 a0_2, .int .u8 a0_3, .int .u32 a0_4, .int .i64 a0_5] 69 (0, 0)) (by (with_reducible repeat first | apply Zg | apply Zf | apply Zh); exact BK474.out) hb); clear hb hbox hg; have hnb6 := NB475_474.out; have hnc6 := NB474_475.out; have hcz7_0 : w5.cell? ⟨gb475, 0, none⟩ = some (.int .u16 0) := (Zb BK475.out 0).trans rfl; have hcz7_1 : w5.cell? ⟨gb475, 1, none⟩ = some (.int .u8 0) := (Zb BK475.out 1).trans rfl; have hcz7_2 : w5.cell? ⟨gb475, 2, none⟩ = some (.int .u8 0) := (Zb BK475.out 2).trans rfl; have hcz7_3 : w5.cell? ⟨gb475, 3, none⟩ = some (.int .u32 0) := (Zb BK475.out 3).trans rfl; have hfz7_0 := Zj BK475.out 0; have hfz7_1 := Zj BK475.out 1; have hfz7_2 := Zj BK475.out 2; have hfz7_3 := Zj BK475.out 3; have hcz8_0 : w5.cell? ⟨gb474, 0, none⟩ = some (.int .i64 a0_0) := (Zb BK474.out 0).trans rfl; have hcz8_1 : w5.cell? ⟨gb474, 1, none⟩ = some (.int .u16 a0_1) := (Zb BK474.out 1).trans rfl; have hcz8_2 : w5.cell? ⟨gb474, 2, none⟩ = some (.int .u8 a0_2) := (Zb BK474.out 2).trans rfl; have hcz8_3 : w5.cell? ⟨gb474, 3, none⟩ = some (.int .u8 a0_3) := (Zb BK474.out 3).trans rfl; have hcz8_4 : w5.cell? ⟨gb474, 4, none⟩ = some (.int .u32 a0_4) := (Zb BK474.out 4).trans rfl; have hcz8_5 : w5.cell? ⟨gb474, 5, none⟩ = some (.int .i64 a0_5) := (Zb BK474.out 5).trans rfl; have hfz8_0 := Zj BK474.out 0; have hfz8_1 := Zj BK474.out 1; have hfz8_2 := Zj BK474.out 2; have hfz8_3 := Zj BK474.out 3; have hfz8_4 := Zj BK474.out 4; have hfz8_5 := Zj BK474.out 5) | ((with_reducible refine Zab (N := 6) rfl ?_); refine Zac ?hg (N := 6) ?hd (cs := #[.int .u16 0, .int .u8 0, .int .u8 0, .int .u32 0]) (t := 52) ?hr ?_; (case hd => rfl); (case hg => rfl); (case hr => go_simp <;> rfl); intro gb476 hg w9 hbox hb; have BK476 := Za.mk (hbox); have GW476 := Za.mk ((by rw [hg]; exact (Zl (by with_reducible repeat first | exact HB.out | apply Zc | apply Ze | apply Zd | refine Zk ?_ GE474.out | refine Zk ?_ GE475.out)) : w.heap.size ≤ gb476)); have GE476 := Za.mk ((by rw [hg]; exact (Zl (by with_reducible repeat first | exact HB.out | apply Zc | apply Ze | apply Zd | refine Zk ?_ GE474.out | refine Zk ?_ GE475.out)) : w.heap.size ≤ gb476)); replace HB := Za.mk (Zo (by with_reducible repeat first | exact HB.out | apply Zc | apply Ze | apply Zd | refine Zk ?_ GE474.out | refine Zk ?_ GE475.out) hb); have NB474_476 := Za.mk ((by rw [hg]; exact Nat.ne_of_lt (Zs (g := gb474) (o := .cells #[.int .i64 a0_0, .int .u16 a0_1, .int .u8 a0_2, .int .u8 a0_3, .int .u32 a0_4, .int .i64 a0_5] 69 (0, 0)) (by (with_reducible repeat first | apply Zg | apply Zf | apply Zh); refine Zt ?_ NB474_475.out _; (with_reducible repeat first | apply Zg | apply Zf | apply Zh); refine Zt ?_ NB474_475.out _; (with_reducible repeat first | apply Zg | apply Zf | apply Zh); refine Zt ?_ NB474_475.out _; (with_reducible repeat first | apply Zg | apply Zf | apply Zh); refine Zt ?_ NB474_475.out _; (with_reducible repeat first | apply Zg | apply Zf | apply Zh); exact BK474.out)) : gb474 ≠ gb476)); have NB476_474 := Za.mk ((by rw [hg]; exact Nat.ne_of_gt (Zs (g := gb474) (o := .cells #[.int .i64 a0_0, .int .u16 a0_1, .int .u8 a0_2, .int .u8 a0_3, .int .u32 a0_4, .int .i64 a0_5] 69 (0, 0)) (by (with_reducible repeat first | apply Zg | apply Zf | apply Zh); refine Zt ?_ NB474_475.out _; (with_reducible repeat first | apply Zg | apply Zf | apply Zh); refine Zt ?_ NB474_475.out _; (with_reducible repeat first | apply Zg | apply Zf | apply Zh); refine Zt ?_ NB474_475.out _; (with_reducible repeat first | apply Zg | apply Zf | apply Zh); refine Zt ?_ NB474_475.out _; (with_reducible repeat first | apply Zg | apply Zf | apply Zh); exact BK474.out)) : gb476 ≠ gb474)); replace BK474 := Za.mk (Zp (g := gb474) (o := .cells #[.int .i64 a0_0, .int .u16 a0_1, .int .u8 a0_2, .int .u8 a0_3, .int .u32 a0_4, .int .i64 a0_5] 69 (0, 0)) (by (with_reducible repeat first | apply Zg | apply Zf | apply Zh); refine Zt ?_ NB474_475.out _; (with_reducible repeat first | apply Zg | apply Zf | apply Zh); refine Zt ?_ NB474_475.out _; (with_reducible repeat first | apply Zg | apply Zf | apply Zh); refine Zt ?_ NB474_475.out _; (with_reducible repeat first | apply Zg | apply Zf | apply Zh); refine Zt ?_ NB474_475.out _; (with_reducible repeat first | apply Zg | apply Zf | apply Zh); exact BK474.out) hb); have NB475_476 := Za.mk ((by rw [hg]; exact Nat.ne_of_lt (Zs (g := gb475) (o := .cells #[.int .u16 5, .int .u8 0, .int .u8 0, .int .u32 ((a1) % 4294967296)] 52 (0, 0)) (by (with_reducible repeat first | apply Zg | apply Zf | apply Zh); refine Zw (cs := #[.int .u16 5, .int .u8 0, .int .u8 0, .int .u32 0]) ?_ 3 _ rfl; (with_reducible repeat first | apply Zg | apply Zf | apply Zh); refine Zw (cs := #[.int .u16 5, .int .u8 0, .int .u8 0, .int .u32 0]) ?_ 2 _ rfl; (with_reducible repeat first | apply Zg | apply Zf | apply Zh); refine Zw (cs := #[.int .u16 5, .int .u8 0, .int .u8 0, .int .u32 0]) ?_ 1 _ rfl; (with_reducible repeat first | apply Zg | apply Zf | apply Zh); refine Zw (cs := #[.int .u16 0, .int .u8 0, .int .u8 0, .int .u32 0]) ?_ 0 _ rfl; (with_reducible repeat first | apply Zg | apply Zf | apply Zh); exact BK475.out)) : gb475 ≠ gb476)); have NB476_475 := Za.mk ((by rw [hg]; exact Nat.ne_of_gt (Zs (g := gb475) (o := .cells #[.int .u16 5, .int .u8 0, .int .u8 0, .int .u32 ((a1) % 4294967296)] 52 (0, 0)) (by (with_reducible repeat first | apply Zg | apply Zf | apply Zh); refine Zw (cs := #[.int .u16 5, .int .u8 0, .int .u8 0, .int .u32 0]) ?_ 3 _ rfl; (with_reducible repeat first | apply Zg | apply Zf | apply Zh); refine Zw (cs := #[.int .u16 5, .int .u8 0, .int .u8 0, .int .u32 0]) ?_ 2 _ rfl; (with_reducible repeat first | apply Zg | apply Zf | apply Zh); refine Zw (cs := #[.int .u16 5, .int .u8 0, .int .u8 0, .int .u32 0]) ?_ 1 _ rfl; (with_reducible repeat first | apply Zg | apply Zf | apply Zh); refine Zw (cs := #[.int .u16 0, .int .u8 0, .int .u8 0, .int .u32 0]) ?_ 0 _ rfl; (with_reducible repeat first | apply Zg | apply Zf | apply Zh); exact BK475.out)) : gb476 ≠ gb475)); replace BK475 := Za.mk (Zp (g := gb475) (o := .cells #[.int .u16 5, .int .u8 0, .int .u8 0, .int .u32 ((a1) % 4294967296)] 52 (0, 0)) (by (with_reducible repeat first | apply Zg | apply Zf | apply Zh); refine Zw (cs := #[.int .u16 5, .int .u8 0, .int .u8 0, .int .u32 0]) ?_ 3 _ rfl; (with_reducible repeat first | apply Zg | apply Zf | apply Zh); refine Zw (cs := #[.int .u16 5, .int .u8 0, .int .u8 0, .int .u32 0]) ?_ 2 _ rfl; (with_reducible repeat first | apply Zg | apply Zf | apply Zh); refine Zw (cs := #[.int .u16 5, .int .u8 0, .int .u8 0, .int .u32 0]) ?_ 1 _ rfl; (with_reducible repeat first | apply Zg | apply Zf | apply Zh); refine Zw (cs := #[.int .u16 0, .int .u8 0, .int .u8 0, .int .u32 0]) ?_ 0 _ rfl; (with_reducible repeat first | apply Zg | apply Zf | apply Zh); exact BK475.out) hb); clear hb hbox hg; have hnb10 := NB476_474.out; have hnc10 := NB474_476.out; have hnb11 := NB476_475.out; have hnc11 := NB475_476.out; have hcz12_0 : w9.cell? ⟨gb476, 0, none⟩ = some (.int .u16 0) := (Zb BK476.out 0).trans rfl; have hcz12_1 : w9.cell? ⟨gb476, 1, none⟩ = some (.int .u8 0) := (Zb BK476.out 1).trans rfl; have hcz12_2 : w9.cell? ⟨gb476, 2, none⟩ = some (.int .u8 0) := (Zb BK476.out 2).trans rfl; have hcz12_3 : w9.cell? ⟨gb476, 3, none⟩ = some (.int .u32 0) := (Zb BK476.out 3).trans rfl; have hfz12_0 := Zj BK476.out 0; have hfz12_1 := Zj BK476.out 1; have hfz12_2 := Zj BK476.out 2; have hfz12_3 := Zj BK476.out 3; have hcz13_0 : w9.cell? ⟨gb474, 0, none⟩ = some (.int .i64 a0_0) := (Zb BK474.out 0).trans rfl; have hcz13_1 : w9.cell? ⟨gb474, 1, none⟩ = some (.int .u16 a0_1) := (Zb BK474.out 1).trans rfl; have hcz13_2 : w9.cell? ⟨gb474, 2, none⟩ = some (.int .u8 a0_2) := (Zb BK474.out 2).trans rfl; have hcz13_3 : w9.cell? ⟨gb474, 3, none⟩ = some (.int .u8 a0_3) := (Zb BK474.out 3).trans rfl; have hcz13_4 : w9.cell? ⟨gb474, 4, none⟩ = some (.int .u32 a0_4) := (Zb BK474.out 4).trans rfl; have hcz13_5 : w9.cell? ⟨gb474, 5, none⟩ = some (.int .i64 a0_5) := (Zb BK474.out 5).trans rfl; have hfz13_0 := Zj BK474.out 0; have hfz13_1 := Zj BK474.out 1; have hfz13_2 := Zj BK474.out 2; have hfz13_3 := Zj BK474.out 3; have hfz13_4 := Zj BK474.out 4; have hfz13_5 := Zj BK474.out 5) | ((with_reducible refine Zab (N := 23) rfl ?_); refine Kd.R_lit k52 _ 52 ?hg (N := 23) ?hd (xs := ([(⟨a0_1, a0_2, a0_3, a0_4⟩ : S52)] : List (S52))) (inner := [.int .u16 a0_1, .int .u8 a0_2, .int .u8 a0_3, .int .u32 a0_4]) (ok := fun _ => True) (okp := fun _ => True) ?hr ?hp (fun _ hk => hk) trivial (Below.refl _ _) (Nat.le_refl _) (by simp) ?_; (case hd => rfl); (case hg => rfl); (case hr => go_simp <;> rfl); (case hp => exact (Reps.c4 (show Kd.M k52 _ _ _ (⟨a0_1, a0_2, a0_3, a0_4⟩ : S52) [.int .u16 a0_1, .int .u8 a0_2, .int .u8 a0_3, .int .u32 a0_4] from (k52_mkM _ _ _ (⟨a0_1, a0_2, a0_3, a0_4⟩ : S52) )) (Reps.none _ _))); intro v478 w14 ho15 hb hg_ hnew_; clear hg_ hnew_; (first | rw [← Ny477.out] at ho15 | (simp only [Int.reduceToNat] at ho15; rw [← Ny477.out] at ho15)); have HO479 := Za.mk (Kd.Zbk (Kd.R_newB (Kd.R_newB ho15 (g := gb475) (o := .cells #[.int .u16 5, .int .u8 0, .int .u8 0, .int .u32 ((a1) % 4294967296)] 52 (0, 0)) (by (with_reducible repeat first | apply Zg | apply Zf | apply Zh); refine Zt ?_ NB475_476.out _; (with_reducible repeat first | apply Zg | apply Zf | apply Zh); refine Zt ?_ NB475_476.out _; (with_reducible repeat first | apply Zg | apply Zf | apply Zh); refine Zt ?_ NB475_476.out _; (with_reducible repeat first | apply Zg | apply Zf | apply Zh); refine Zt ?_ NB475_476.out _; (with_reducible repeat first | apply Zg | apply Zf | apply Zh); exact BK475.out)) (g := gb476) (o := .cells #[.int .u16 a0_1, .int .u8 0, .int .u8 0, .int .u32 a0_4] 52 (0, 0)) (by (with_reducible repeat first | apply Zg | apply Zf | apply Zh); refine Zw (cs := #[.int .u16 a0_1, .int .u8 0, .int .u8 0, .int .u32 0]) ?_ 3 _ rfl; (with_reducible repeat first | apply Zg | apply Zf | apply Zh); refine Zw (cs := #[.int .u16 a0_1, .int .u8 0, .int .u8 0, .int .u32 0]) ?_ 2 _ rfl; (with_reducible repeat first | apply Zg | apply Zf | apply Zh); refine Zw (cs := #[.int .u16 a0_1, .int .u8 0, .int .u8 0, .int .u32 0]) ?_ 1 _ rfl; (with_reducible repeat first | apply Zg | apply Zf | apply Zh); refine Zw (cs := #[.int .u16 0, .int .u8 0, .int .u8 0, .int .u32 0]) ?_ 0 _ rfl; (with_reducible repeat first | apply Zg | apply Zf | apply Zh); exact BK476.out)) (Zl (by with_reducible repeat first | exact HB.out | apply Zc | apply Ze | apply Zd | refine Zk ?_ GE474.out | refine Zk ?_ GE475.out | refine Zk ?_ GE476.out))); replace BK474 := Za.mk (Zp (g := gb474) (o := .cells #[.int .i64 a0_0, .int .u16 a0_1, .int .u8 a0_2, .int .u8 a0_3, .int .u32 a0_4, .int .i64 a0_5] 69 (0, 0)) (by (with_reducible repeat first | apply Zg | apply Zf | apply Zh); refine Zt ?_ NB474_476.out _; (with_reducible repeat first | apply Zg | apply Zf | apply Zh); refine Zt ?_ NB474_476.out _; (with_reducible repeat first | apply Zg | apply Zf | apply Zh); refine Zt ?_ NB474_476.out _; (with_reducible repeat first | apply Zg | apply Zf | apply Zh); refine Zt ?_ NB474_476.out _; (with_reducible repeat first | apply Zg | apply Zf | apply Zh); exact BK474.out) hb); replace BK475 := Za.mk (Zp (g := gb475) (o := .cells #[.int .u16 5, .int .u8 0, .int .u8 0, .int .u32 ((a1) % 4294967296)] 52 (0, 0)) (by (with_reducible repeat first | apply Zg | apply Zf | apply Zh); refine Zt ?_ NB475_476.out _; (with_reducible repeat first | apply Zg | apply Zf | apply Zh); refine Zt ?_ NB475_476.out _; (with_reducible repeat first | apply Zg | apply Zf | apply Zh); refine Zt ?_ NB475_476.out _; (with_reducible repeat first | apply Zg | apply Zf | apply Zh); refine Zt ?_ NB475_476.out _; (with_reducible repeat first | apply Zg | apply Zf | apply Zh); exact BK475.out) hb); replace BK476 := Za.mk (Zp (g := gb476) (o := .cells #[.int .u16 a0_1, .int .u8 0, .int .u8 0, .int .u32 a0_4] 52 (0, 0)) (by (with_reducible repeat first | apply Zg | apply Zf | apply Zh); refine Zw (cs := #[.int .u16 a0_1, .int .u8 0, .int .u8 0, .int .u32 0]) ?_ 3 _ rfl; (with_reducible repeat first | apply Zg | apply Zf | apply Zh); refine Zw (cs := #[.int .u16 a0_1, .int .u8 0, .int .u8 0, .int .u32 0]) ?_ 2 _ rfl; (with_reducible repeat first | apply Zg | apply Zf | apply Zh); refine Zw (cs := #[.int .u16 a0_1, .int .u8 0, .int .u8 0, .int .u32 0]) ?_ 1 _ rfl; (with_reducible repeat first | apply Zg | apply Zf | apply Zh); refine Zw (cs := #[.int .u16 0, .int .u8 0, .int .u8 0, .int .u32 0]) ?_ 0 _ rfl; (with_reducible repeat first | apply Zg | apply Zf | apply Zh); exact BK476.out) hb); replace HB := Za.mk (Zo (by with_reducible repeat first | exact HB.out | apply Zc | apply Ze | apply Zd | refine Zk ?_ GE474.out | refine Zk ?_ GE475.out | refine Zk ?_ GE476.out) hb); clear hb ho15))
  go_ret
  exact ⟨_, by first | rfl | (simp [Zm, Zn] <;> rfl) | (simp [*, Zm, Zn] <;> rfl), by (with_reducible repeat (first | apply Kd.Zaa | apply Kd.Zy | apply Kd.Zz)); exact Kd.Zas HO479.out (fun _ hk => trivial), by with_reducible repeat first | exact HB.out | apply Zc | apply Ze | apply Zd | refine Zk ?_ GE474.out | refine Zk ?_ GE475.out | refine Zk ?_ GE476.out⟩
 rw [if_neg c3] at H
 have c3b0 : (a0_0 == 0) = false := beq_eq_false_iff_ne.mpr c3
 have c3b1 : (a0_0 != 0) = true := bne_iff_ne.mpr c3
 by_cases c16 : a0_0 = 3
 ·rw [if_pos c16] at H
  have c16b0 : (a0_0 == 3) = true := beq_iff_eq.mpr c16
  have c16b1 : (a0_0 != 3) = false := bne_eq_false_iff_eq.mpr c16
  clear c16
  obtain ⟨y480, hy480⟩ : ∃ y_ : List (S52), y_ = (([(⟨5, 0, 0, (a1) % 4294967296⟩ : S52)] : List (S52))) := ⟨_, rfl⟩
  replace H : (some y480) = some r := by first | (rw [hy480]; with_reducible exact H) | (have H2_ := (Option.bind_some _ _).symm.trans H; rw [hy480]; with_reducible exact H2_) | (have H2_ := (Option.bind_some _ _).symm.trans H; with_reducible exact H2_) | with_reducible exact H | (rw [hy480]; exact H) | exact H
  have Ny480 := Za.mk hy480
  clear hy480
  obtain rfl := Option.some.inj H
  go_enter Try.func47, Try.ntmps47
  go_wp2_with (first | ((with_reducible refine Zab (N := 2) rfl ?_); refine Zac ?hg (N := 2) ?hd (cs := #[.int .i64 a0_0, .int .u16 a0_1, .int .u8 a0_2, .int .u8 a0_3, .int .u32 a0_4, .int .i64 a0_5]) (t := 69) ?hr ?_; (case hd => rfl); (case hg => rfl); (case hr => go_simp <;> rfl); intro gb474 hg w17 hbox hb; have BK474 := Za.mk (hbox); have GW474 := Za.mk ((by rw [hg]; exact (Zl (by with_reducible repeat first | exact HB.out | apply Zc | apply Ze | apply Zd)) : w.heap.size ≤ gb474)); have GE474 := Za.mk ((by rw [hg]; exact (Zl (by with_reducible repeat first | exact HB.out | apply Zc | apply Ze | apply Zd)) : w.heap.size ≤ gb474)); replace HB := Za.mk (Zo (by with_reducible repeat first | exact HB.out | apply Zc | apply Ze | apply Zd) hb); clear hb hbox hg) | ((with_reducible refine Zab (N := 5) rfl ?_); refine Zac ?hg (N := 5) ?hd (cs := #[.int .u16 0, .int .u8 0, .int .u8 0, .int .u32 0]) (t := 52) ?hr ?_; (case hd => rfl); (case hg => rfl); (case hr => go_simp <;> rfl); intro gb475 hg w18 hbox hb; have BK475 := Za.mk (hbox); have GW475 := Za.mk ((by rw [hg]; exact (Zl (by with_reducible repeat first | exact HB.out | apply Zc | apply Ze | apply Zd | refine Zk ?_ GE474.out)) : w.heap.size ≤ gb475)); have GE475 := Za.mk ((by rw [hg]; exact (Zl (by with_reducible repeat first | exact HB.out | apply Zc | apply Ze | apply Zd | refine Zk ?_ GE474.out)) : w.heap.size ≤ gb475)); replace HB := Za.mk (Zo (by with_reducible repeat first | exact HB.out | apply Zc | apply Ze | apply Zd | refine Zk ?_ GE474.out) hb); have NB474_475 := Za.mk ((by rw [hg]; exact Nat.ne_of_lt (Zs (g := gb474) (o := .cells #[.int .i64 a0_0, .int .u16 a0_1, .int .u8 a0_2, .int .u8 a0_3, .int .u32 a0_4, .int .i64 a0_5] 69 (0, 0)) (by (with_reducible repeat first | apply Zg | apply Zf | apply Zh); exact BK474.out)) : gb474 ≠ gb475)); have NB475_474 := Za.mk ((by rw [hg]; exact Nat.ne_of_gt (Zs (g := gb474) (o := .cells #[.int .i64 a0_0, .int .u16 a0_1, .int .u8 a0_2, .int .u8 a0_3, .int .u32 a0_4, .int .i64 a0_5] 69 (0, 0)) (by (with_reducible repeat first | apply Zg | apply Zf | apply Zh); exact BK474.out)) : gb475 ≠ gb474)); replace BK474 := Za.mk (Zp (g := gb474) (o := .cells #[.int .i64 a0_0, .int .u16 a0_1, .int .u8 a0_2, .int .u8 a0_3, .int .u32 a0_4, .int .i64 a0_5] 69 (0, 0)) (by (with_reducible repeat first | apply Zg | apply Zf | apply Zh); exact BK474.out) hb); clear hb hbox hg; have hnb19 := NB475_474.out; have hnc19 := NB474_475.out; have hcz20_0 : w18.cell? ⟨gb475, 0, none⟩ = some (.int .u16 0) := (Zb BK475.out 0).trans rfl; have hcz20_1 : w18.cell? ⟨gb475, 1, none⟩ = some (.int .u8 0) := (Zb BK475.out 1).trans rfl; have hcz20_2 : w18.cell? ⟨gb475, 2, none⟩ = some (.int .u8 0) := (Zb BK475.out 2).trans rfl; have hcz20_3 : w18.cell? ⟨gb475, 3, none⟩ = some (.int .u32 0) := (Zb BK475.out 3).trans rfl; have hfz20_0 := Zj BK475.out 0; have hfz20_1 := Zj BK475.out 1; have hfz20_2 := Zj BK475.out 2; have hfz20_3 := Zj BK475.out 3; have hcz21_0 : w18.cell? ⟨gb474, 0, none⟩ = some (.int .i64 a0_0) := (Zb BK474.out 0).trans rfl; have hcz21_1 : w18.cell? ⟨gb474, 1, none⟩ = some (.int .u16 a0_1) := (Zb BK474.out 1).trans rfl; have hcz21_2 : w18.cell? ⟨gb474, 2, none⟩ = some (.int .u8 a0_2) := (Zb BK474.out 2).trans rfl; have hcz21_3 : w18.cell? ⟨gb474, 3, none⟩ = some (.int .u8 a0_3) := (Zb BK474.out 3).trans rfl; have hcz21_4 : w18.cell? ⟨gb474, 4, none⟩ = some (.int .u32 a0_4) := (Zb BK474.out 4).trans rfl; have hcz21_5 : w18.cell? ⟨gb474, 5, none⟩ = some (.int .i64 a0_5) := (Zb BK474.out 5).trans rfl; have hfz21_0 := Zj BK474.out 0; have hfz21_1 := Zj BK474.out 1; have hfz21_2 := Zj BK474.out 2; have hfz21_3 := Zj BK474.out 3; have hfz21_4 := Zj BK474.out 4; have hfz21_5 := Zj BK474.out 5) | ((with_reducible refine Zab (N := 6) rfl ?_); refine Zac ?hg (N := 6) ?hd (cs := #[.int .u16 0, .int .u8 0, .int .u8 0, .int .u32 0]) (t := 52) ?hr ?_; (case hd => rfl); (case hg => rfl); (case hr => go_simp <;> rfl); intro gb476 hg w22 hbox hb; have BK476 := Za.mk (hbox); have GW476 := Za.mk ((by rw [hg]; exact (Zl (by with_reducible repeat first | exact HB.out | apply Zc | apply Ze | apply Zd | refine Zk ?_ GE474.out | refine Zk ?_ GE475.out)) : w.heap.size ≤ gb476)); have GE476 := Za.mk ((by rw [hg]; exact (Zl (by with_reducible repeat first | exact HB.out | apply Zc | apply Ze | apply Zd | refine Zk ?_ GE474.out | refine Zk ?_ GE475.out)) : w.heap.size ≤ gb476)); replace HB := Za.mk (Zo (by with_reducible repeat first | exact HB.out | apply Zc | apply Ze | apply Zd | refine Zk ?_ GE474.out | refine Zk ?_ GE475.out) hb); have NB474_476 := Za.mk ((by rw [hg]; exact Nat.ne_of_lt (Zs (g := gb474) (o := .cells #[.int .i64 a0_0, .int .u16 a0_1, .int .u8 a0_2, .int .u8 a0_3, .int .u32 a0_4, .int .i64 a0_5] 69 (0, 0)) (by (with_reducible repeat first | apply Zg | apply Zf | apply Zh); refine Zt ?_ NB474_475.out _; (with_reducible repeat first | apply Zg | apply Zf | apply Zh); refine Zt ?_ NB474_475.out _; (with_reducible repeat first | apply Zg | apply Zf | apply Zh); refine Zt ?_ NB474_475.out _; (with_reducible repeat first | apply Zg | apply Zf | apply Zh); refine Zt ?_ NB474_475.out _; (with_reducible repeat first | apply Zg | apply Zf | apply Zh); exact BK474.out)) : gb474 ≠ gb476)); have NB476_474 := Za.mk ((by rw [hg]; exact Nat.ne_of_gt (Zs (g := gb474) (o := .cells #[.int .i64 a0_0, .int .u16 a0_1, .int .u8 a0_2, .int .u8 a0_3, .int .u32 a0_4, .int .i64 a0_5] 69 (0, 0)) (by (with_reducible repeat first | apply Zg | apply Zf | apply Zh); refine Zt ?_ NB474_475.out _; (with_reducible repeat first | apply Zg | apply Zf | apply Zh); refine Zt ?_ NB474_475.out _; (with_reducible repeat first | apply Zg | apply Zf | apply Zh); refine Zt ?_ NB474_475.out _; (with_reducible repeat first | apply Zg | apply Zf | apply Zh); refine Zt ?_ NB474_475.out _; (with_reducible repeat first | apply Zg | apply Zf | apply Zh); exact BK474.out)) : gb476 ≠ gb474)); replace BK474 := Za.mk (Zp (g := gb474) (o := .cells #[.int .i64 a0_0, .int .u16 a0_1, .int .u8 a0_2, .int .u8 a0_3, .int .u32 a0_4, .int .i64 a0_5] 69 (0, 0)) (by (with_reducible repeat first | apply Zg | apply Zf | apply Zh); refine Zt ?_ NB474_475.out _; (with_reducible repeat first | apply Zg | apply Zf | apply Zh); refine Zt ?_ NB474_475.out _; (with_reducible repeat first | apply Zg | apply Zf | apply Zh); refine Zt ?_ NB474_475.out _; (with_reducible repeat first | apply Zg | apply Zf | apply Zh); refine Zt ?_ NB474_475.out _; (with_reducible repeat first | apply Zg | apply Zf | apply Zh); exact BK474.out) hb); have NB475_476 := Za.mk ((by rw [hg]; exact Nat.ne_of_lt (Zs (g := gb475) (o := .cells #[.int .u16 5, .int .u8 0, .int .u8 0, .int .u32 ((a1) % 4294967296)] 52 (0, 0)) (by (with_reducible repeat first | apply Zg | apply Zf | apply Zh); refine Zw (cs := #[.int .u16 5, .int .u8 0, .int .u8 0, .int .u32 0]) ?_ 3 _ rfl; (with_reducible repeat first | apply Zg | apply Zf | apply Zh); refine Zw (cs := #[.int .u16 5, .int .u8 0, .int .u8 0, .int .u32 0]) ?_ 2 _ rfl; (with_reducible repeat first | apply Zg | apply Zf | apply Zh); refine Zw (cs := #[.int .u16 5, .int .u8 0, .int .u8 0, .int .u32 0]) ?_ 1 _ rfl; (with_reducible repeat first | apply Zg | apply Zf | apply Zh); refine Zw (cs := #[.int .u16 0, .int .u8 0, .int .u8 0, .int .u32 0]) ?_ 0 _ rfl; (with_reducible repeat first | apply Zg | apply Zf | apply Zh); exact BK475.out)) : gb475 ≠ gb476)); have NB476_475 := Za.mk ((by rw [hg]; exact Nat.ne_of_gt (Zs (g := gb475) (o := .cells #[.int .u16 5, .int .u8 0, .int .u8 0, .int .u32 ((a1) % 4294967296)] 52 (0, 0)) (by (with_reducible repeat first | apply Zg | apply Zf | apply Zh); refine Zw (cs := #[.int .u16 5, .int .u8 0, .int .u8 0, .int .u32 0]) ?_ 3 _ rfl; (with_reducible repeat first | apply Zg | apply Zf | apply Zh); refine Zw (cs := #[.int .u16 5, .int .u8 0, .int .u8 0, .int .u32 0]) ?_ 2 _ rfl; (with_reducible repeat first | apply Zg | apply Zf | apply Zh); refine Zw (cs := #[.int .u16 5, .int .u8 0, .int .u8 0, .int .u32 0]) ?_ 1 _ rfl; (with_reducible repeat first | apply Zg | apply Zf | apply Zh); refine Zw (cs := #[.int .u16 0, .int .u8 0, .int .u8 0, .int .u32 0]) ?_ 0 _ rfl; (with_reducible repeat first | apply Zg | apply Zf | apply Zh); exact BK475.out)) : gb476 ≠ gb475)); replace BK475 := Za.mk (Zp (g := gb475) (o := .cells #[.int .u16 5, .int .u8 0, .int .u8 0, .int .u32 ((a1) % 4294967296)] 52 (0, 0)) (by (with_reducible repeat first | apply Zg | apply Zf | apply Zh); refine Zw (cs := #[.int .u16 5, .int .u8 0, .int .u8 0, .int .u32 0]) ?_ 3 _ rfl; (with_reducible repeat first | apply Zg | apply Zf | apply Zh); refine Zw (cs := #[.int .u16 5, .int .u8 0, .int .u8 0, .int .u32 0]) ?_ 2 _ rfl; (with_reducible repeat first | apply Zg | apply Zf | apply Zh); refine Zw (cs := #[.int .u16 5, .int .u8 0, .int .u8 0, .int .u32 0]) ?_ 1 _ rfl; (with_reducible repeat first | apply Zg | apply Zf | apply Zh); refine Zw (cs := #[.int .u16 0, .int .u8 0, .int .u8 0, .int .u32 0]) ?_ 0 _ rfl; (with_reducible repeat first | apply Zg | apply Zf | apply Zh); exact BK475.out) hb); clear hb hbox hg; have hnb23 := NB476_474.out; have hnc23 := NB474_476.out; have hnb24 := NB476_475.out; have hnc24 := NB475_476.out; have hcz25_0 : w22.cell? ⟨gb476, 0, none⟩ = some (.int .u16 0) := (Zb BK476.out 0).trans rfl; have hcz25_1 : w22.cell? ⟨gb476, 1, none⟩ = some (.int .u8 0) := (Zb BK476.out 1).trans rfl; have hcz25_2 : w22.cell? ⟨gb476, 2, none⟩ = some (.int .u8 0) := (Zb BK476.out 2).trans rfl; have hcz25_3 : w22.cell? ⟨gb476, 3, none⟩ = some (.int .u32 0) := (Zb BK476.out 3).trans rfl; have hfz25_0 := Zj BK476.out 0; have hfz25_1 := Zj BK476.out 1; have hfz25_2 := Zj BK476.out 2; have hfz25_3 := Zj BK476.out 3; have hcz26_0 : w22.cell? ⟨gb474, 0, none⟩ = some (.int .i64 a0_0) := (Zb BK474.out 0).trans rfl; have hcz26_1 : w22.cell? ⟨gb474, 1, none⟩ = some (.int .u16 a0_1) := (Zb BK474.out 1).trans rfl; have hcz26_2 : w22.cell? ⟨gb474, 2, none⟩ = some (.int .u8 a0_2) := (Zb BK474.out 2).trans rfl; have hcz26_3 : w22.cell? ⟨gb474, 3, none⟩ = some (.int .u8 a0_3) := (Zb BK474.out 3).trans rfl; have hcz26_4 : w22.cell? ⟨gb474, 4, none⟩ = some (.int .u32 a0_4) := (Zb BK474.out 4).trans rfl; have hcz26_5 : w22.cell? ⟨gb474, 5, none⟩ = some (.int .i64 a0_5) := (Zb BK474.out 5).trans rfl; have hfz26_0 := Zj BK474.out 0; have hfz26_1 := Zj BK474.out 1; have hfz26_2 := Zj BK474.out 2; have hfz26_3 := Zj BK474.out 3; have hfz26_4 := Zj BK474.out 4; have hfz26_5 := Zj BK474.out 5; have hcz27_0 : w22.cell? ⟨gb475, 0, none⟩ = some (.int .u16 5) := (Zb BK475.out 0).trans rfl; have hcz27_1 : w22.cell? ⟨gb475, 1, none⟩ = some (.int .u8 0) := (Zb BK475.out 1).trans rfl; have hcz27_2 : w22.cell? ⟨gb475, 2, none⟩ = some (.int .u8 0) := (Zb BK475.out 2).trans rfl; have hcz27_3 : w22.cell? ⟨gb475, 3, none⟩ = some (.int .u32 ((a1) % 4294967296)) := (Zb BK475.out 3).trans rfl; have hfz27_0 := Zj BK475.out 0; have hfz27_1 := Zj BK475.out 1; have hfz27_2 := Zj BK475.out 2; have hfz27_3 := Zj BK475.out 3) | ((with_reducible refine Zab (N := 29) rfl ?_); refine Kd.R_lit k52 _ 52 ?hg (N := 29) ?hd (xs := ([(⟨5, 0, 0, (a1) % 4294967296⟩ : S52)] : List (S52))) (inner := [.int .u16 5, .int .u8 0, .int .u8 0, .int .u32 ((a1) % 4294967296)]) (ok := fun _ => True) (okp := fun _ => True) ?hr ?hp (fun _ hk => hk) trivial (Below.refl _ _) (Nat.le_refl _) (by simp) ?_; (case hd => rfl); (case hg => rfl); (case hr => go_simp <;> rfl); (case hp => exact (Reps.c4 (show Kd.M k52 _ _ _ (⟨5, 0, 0, (a1) % 4294967296⟩ : S52) [.int .u16 5, .int .u8 0, .int .u8 0, .int .u32 ((a1) % 4294967296)] from (k52_mkM _ _ _ (⟨5, 0, 0, (a1) % 4294967296⟩ : S52) )) (Reps.none _ _))); intro v481 w28 ho29 hb hg_ hnew_; clear hg_ hnew_; (first | rw [← Ny480.out] at ho29 | (simp only [Int.reduceToNat] at ho29; rw [← Ny480.out] at ho29)); have HO482 := Za.mk (Kd.Zbk (Kd.R_newB (Kd.R_newB ho29 (g := gb475) (o := .cells #[.int .u16 5, .int .u8 0, .int .u8 0, .int .u32 ((a1) % 4294967296)] 52 (0, 0)) (by (with_reducible repeat first | apply Zg | apply Zf | apply Zh); refine Zt ?_ NB475_476.out _; (with_reducible repeat first | apply Zg | apply Zf | apply Zh); refine Zt ?_ NB475_476.out _; (with_reducible repeat first | apply Zg | apply Zf | apply Zh); refine Zt ?_ NB475_476.out _; (with_reducible repeat first | apply Zg | apply Zf | apply Zh); refine Zt ?_ NB475_476.out _; (with_reducible repeat first | apply Zg | apply Zf | apply Zh); exact BK475.out)) (g := gb476) (o := .cells #[.int .u16 a0_1, .int .u8 0, .int .u8 0, .int .u32 a0_4] 52 (0, 0)) (by (with_reducible repeat first | apply Zg | apply Zf | apply Zh); refine Zw (cs := #[.int .u16 a0_1, .int .u8 0, .int .u8 0, .int .u32 0]) ?_ 3 _ rfl; (with_reducible repeat first | apply Zg | apply Zf | apply Zh); refine Zw (cs := #[.int .u16 a0_1, .int .u8 0, .int .u8 0, .int .u32 0]) ?_ 2 _ rfl; (with_reducible repeat first | apply Zg | apply Zf | apply Zh); refine Zw (cs := #[.int .u16 a0_1, .int .u8 0, .int .u8 0, .int .u32 0]) ?_ 1 _ rfl; (with_reducible repeat first | apply Zg | apply Zf | apply Zh); refine Zw (cs := #[.int .u16 0, .int .u8 0, .int .u8 0, .int .u32 0]) ?_ 0 _ rfl; (with_reducible repeat first | apply Zg | apply Zf | apply Zh); exact BK476.out)) (Zl (by with_reducible repeat first | exact HB.out | apply Zc | apply Ze | apply Zd | refine Zk ?_ GE474.out | refine Zk ?_ GE475.out | refine Zk ?_ GE476.out))); replace BK474 := Za.mk (Zp (g := gb474) (o := .cells #[.int .i64 a0_0, .int .u16 a0_1, .int .u8 a0_2, .int .u8 a0_3, .int .u32 a0_4, .int .i64 a0_5] 69 (0, 0)) (by (with_reducible repeat first | apply Zg | apply Zf | apply Zh); refine Zt ?_ NB474_476.out _; (with_reducible repeat first | apply Zg | apply Zf | apply Zh); refine Zt ?_ NB474_476.out _; (with_reducible repeat first | apply Zg | apply Zf | apply Zh); refine Zt ?_ NB474_476.out _; (with_reducible repeat first | apply Zg | apply Zf | apply Zh); refine Zt ?_ NB474_476.out _; (with_reducible repeat first | apply Zg | apply Zf | apply Zh); exact BK474.out) hb); replace BK475 := Za.mk (Zp (g := gb475) (o := .cells #[.int .u16 5, .int .u8 0, .int .u8 0, .int .u32 ((a1) % 4294967296)] 52 (0, 0)) (by (with_reducible repeat first | apply Zg | apply Zf | apply Zh); refine Zt ?_ NB475_476.out _; (with_reducible repeat first | apply Zg | apply Zf | apply Zh); refine Zt ?_ NB475_476.out _; (with_reducible repeat first | apply Zg | apply Zf | apply Zh); refine Zt ?_ NB475_476.out _; (with_reducible repeat first | apply Zg | apply Zf | apply Zh); refine Zt ?_ NB475_476.out _; (with_reducible repeat first | apply Zg | apply Zf | apply Zh); exact BK475.out) hb); replace BK476 := Za.mk (Zp (g := gb476) (o := .cells #[.int .u16 a0_1, .int .u8 0, .int .u8 0, .int .u32 a0_4] 52 (0, 0)) (by (with_reducible repeat first | apply Zg | apply Zf | apply Zh); refine Zw (cs := #[.int .u16 a0_1, .int .u8 0, .int .u8 0, .int .u32 0]) ?_ 3 _ rfl; (with_reducible repeat first | apply Zg | apply Zf | apply Zh); refine Zw (cs := #[.int .u16 a0_1, .int .u8 0, .int .u8 0, .int .u32 0]) ?_ 2 _ rfl; (with_reducible repeat first | apply Zg | apply Zf | apply Zh); refine Zw (cs := #[.int .u16 a0_1, .int .u8 0, .int .u8 0, .int .u32 0]) ?_ 1 _ rfl; (with_reducible repeat first | apply Zg | apply Zf | apply Zh); refine Zw (cs := #[.int .u16 0, .int .u8 0, .int .u8 0, .int .u32 0]) ?_ 0 _ rfl; (with_reducible repeat first | apply Zg | apply Zf | apply Zh); exact BK476.out) hb); replace HB := Za.mk (Zo (by with_reducible repeat first | exact HB.out | apply Zc | apply Ze | apply Zd | refine Zk ?_ GE474.out | refine Zk ?_ GE475.out | refine Zk ?_ GE476.out) hb); clear hb ho29))
  go_ret
  exact ⟨_, by first | rfl | (simp [Zm, Zn] <;> rfl) | (simp [*, Zm, Zn] <;> rfl), by (with_reducible repeat (first | apply Kd.Zaa | apply Kd.Zy | apply Kd.Zz)); exact Kd.Zas HO482.out (fun _ hk => trivial), by with_reducible repeat first | exact HB.out | apply Zc | apply Ze | apply Zd | refine Zk ?_ GE474.out | refine Zk ?_ GE475.out | refine Zk ?_ GE476.out⟩
 rw [if_neg c16] at H
 have c16b0 : (a0_0 == 3) = false := beq_eq_false_iff_ne.mpr c16
 have c16b1 : (a0_0 != 3) = true := bne_iff_ne.mpr c16
 have HC30 := Za.mk H
 clear H
 go_enter Try.func47, Try.ntmps47
 go_upto_region 7 with (first | ((with_reducible refine Zab (N := 2) rfl ?_); refine Zac ?hg (N := 2) ?hd (cs := #[.int .i64 a0_0, .int .u16 a0_1, .int .u8 a0_2, .int .u8 a0_3, .int .u32 a0_4, .int .i64 a0_5]) (t := 69) ?hr ?_; (case hd => rfl); (case hg => rfl); (case hr => go_simp <;> rfl); intro gb474 hg w31 hbox hb; have BK474 := Za.mk (hbox); have GW474 := Za.mk ((by rw [hg]; exact (Zl (by with_reducible repeat first | exact HB.out | apply Zc | apply Ze | apply Zd)) : w.heap.size ≤ gb474)); have GE474 := Za.mk ((by rw [hg]; exact (Zl (by with_reducible repeat first | exact HB.out | apply Zc | apply Ze | apply Zd)) : w.heap.size ≤ gb474)); replace HB := Za.mk (Zo (by with_reducible repeat first | exact HB.out | apply Zc | apply Ze | apply Zd) hb); clear hb hbox hg) | ((with_reducible refine Zab (N := 5) rfl ?_); refine Zac ?hg (N := 5) ?hd (cs := #[.int .u16 0, .int .u8 0, .int .u8 0, .int .u32 0]) (t := 52) ?hr ?_; (case hd => rfl); (case hg => rfl); (case hr => go_simp <;> rfl); intro gb475 hg w32 hbox hb; have BK475 := Za.mk (hbox); have GW475 := Za.mk ((by rw [hg]; exact (Zl (by with_reducible repeat first | exact HB.out | apply Zc | apply Ze | apply Zd | refine Zk ?_ GE474.out)) : w.heap.size ≤ gb475)); have GE475 := Za.mk ((by rw [hg]; exact (Zl (by with_reducible repeat first | exact HB.out | apply Zc | apply Ze | apply Zd | refine Zk ?_ GE474.out)) : w.heap.size ≤ gb475)); replace HB := Za.mk (Zo (by with_reducible repeat first | exact HB.out | apply Zc | apply Ze | apply Zd | refine Zk ?_ GE474.out) hb); have NB474_475 := Za.mk ((by rw [hg]; exact Nat.ne_of_lt (Zs (g := gb474) (o := .cells #[.int .i64 a0_0, .int .u16 a0_1, .int .u8 a0_2, .int .u8 a0_3, .int .u32 a0_4, .int .i64 a0_5] 69 (0, 0)) (by (with_reducible repeat first | apply Zg | apply Zf | apply Zh); exact BK474.out)) : gb474 ≠ gb475)); have NB475_474 := Za.mk ((by rw [hg]; exact Nat.ne_of_gt (Zs (g := gb474) (o := .cells #[.int .i64 a0_0, .int .u16 a0_1, .int .u8 a0_2, .int .u8 a0_3, .int .u32 a0_4, .int .i64 a0_5] 69 (0, 0)) (by (with_reducible repeat first | apply Zg | apply Zf | apply Zh); exact BK474.out)) : gb475 ≠ gb474)); replace BK474 := Za.mk (Zp (g := gb474) (o := .cells #[.int .i64 a0_0, .int .u16 a0_1, .int .u8 a0_2, .int .u8 a0_3, .int .u32 a0_4, .int .i64 a0_5] 69 (0, 0)) (by (with_reducible repeat first | apply Zg | apply Zf | apply Zh); exact BK474.out) hb); clear hb hbox hg; have hnb33 := NB475_474.out; have hnc33 := NB474_475.out; have hcz34_0 : w32.cell? ⟨gb475, 0, none⟩ = some (.int .u16 0) := (Zb BK475.out 0).trans rfl; have hcz34_1 : w32.cell? ⟨gb475, 1, none⟩ = some (.int .u8 0) := (Zb BK475.out 1).trans rfl; have hcz34_2 : w32.cell? ⟨gb475, 2, none⟩ = some (.int .u8 0) := (Zb BK475.out 2).trans rfl; have hcz34_3 : w32.cell? ⟨gb475, 3, none⟩ = some (.int .u32 0) := (Zb BK475.out 3).trans rfl; have hfz34_0 := Zj BK475.out 0; have hfz34_1 := Zj BK475.out 1; have hfz34_2 := Zj BK475.out 2; have hfz34_3 := Zj BK475.out 3; have hcz35_0 : w32.cell? ⟨gb474, 0, none⟩ = some (.int .i64 a0_0) := (Zb BK474.out 0).trans rfl; have hcz35_1 : w32.cell? ⟨gb474, 1, none⟩ = some (.int .u16 a0_1) := (Zb BK474.out 1).trans rfl; have hcz35_2 : w32.cell? ⟨gb474, 2, none⟩ = some (.int .u8 a0_2) := (Zb BK474.out 2).trans rfl; have hcz35_3 : w32.cell? ⟨gb474, 3, none⟩ = some (.int .u8 a0_3) := (Zb BK474.out 3).trans rfl; have hcz35_4 : w32.cell? ⟨gb474, 4, none⟩ = some (.int .u32 a0_4) := (Zb BK474.out 4).trans rfl; have hcz35_5 : w32.cell? ⟨gb474, 5, none⟩ = some (.int .i64 a0_5) := (Zb BK474.out 5).trans rfl; have hfz35_0 := Zj BK474.out 0; have hfz35_1 := Zj BK474.out 1; have hfz35_2 := Zj BK474.out 2; have hfz35_3 := Zj BK474.out 3; have hfz35_4 := Zj BK474.out 4; have hfz35_5 := Zj BK474.out 5) | ((with_reducible refine Zab (N := 6) rfl ?_); refine Zac ?hg (N := 6) ?hd (cs := #[.int .u16 0, .int .u8 0, .int .u8 0, .int .u32 0]) (t := 52) ?hr ?_; (case hd => rfl); (case hg => rfl); (case hr => go_simp <;> rfl); intro gb476 hg w36 hbox hb; have BK476 := Za.mk (hbox); have GW476 := Za.mk ((by rw [hg]; exact (Zl (by with_reducible repeat first | exact HB.out | apply Zc | apply Ze | apply Zd | refine Zk ?_ GE474.out | refine Zk ?_ GE475.out)) : w.heap.size ≤ gb476)); have GE476 := Za.mk ((by rw [hg]; exact (Zl (by with_reducible repeat first | exact HB.out | apply Zc | apply Ze | apply Zd | refine Zk ?_ GE474.out | refine Zk ?_ GE475.out)) : w.heap.size ≤ gb476)); replace HB := Za.mk (Zo (by with_reducible repeat first | exact HB.out | apply Zc | apply Ze | apply Zd | refine Zk ?_ GE474.out | refine Zk ?_ GE475.out) hb); have NB474_476 := Za.mk ((by rw [hg]; exact Nat.ne_of_lt (Zs (g := gb474) (o := .cells #[.int .i64 a0_0, .int .u16 a0_1, .int .u8 a0_2, .int .u8 a0_3, .int .u32 a0_4, .int .i64 a0_5] 69 (0, 0)) (by (with_reducible repeat first | apply Zg | apply Zf | apply Zh); refine Zt ?_ NB474_475.out _; (with_reducible repeat first | apply Zg | apply Zf | apply Zh); refine Zt ?_ NB474_475.out _; (with_reducible repeat first | apply Zg | apply Zf | apply Zh); refine Zt ?_ NB474_475.out _; (with_reducible repeat first | apply Zg | apply Zf | apply Zh); refine Zt ?_ NB474_475.out _; (with_reducible repeat first | apply Zg | apply Zf | apply Zh); exact BK474.out)) : gb474 ≠ gb476)); have NB476_474 := Za.mk ((by rw [hg]; exact Nat.ne_of_gt (Zs (g := gb474) (o := .cells #[.int .i64 a0_0, .int .u16 a0_1, .int .u8 a0_2, .int .u8 a0_3, .int .u32 a0_4, .int .i64 a0_5] 69 (0, 0)) (by (with_reducible repeat first | apply Zg | apply Zf | apply Zh); refine Zt ?_ NB474_475.out _; (with_reducible repeat first | apply Zg | apply Zf | apply Zh); refine Zt ?_ NB474_475.out _; (with_reducible repeat first | apply Zg | apply Zf | apply Zh); refine Zt ?_ NB474_475.out _; (with_reducible repeat first | apply Zg | apply Zf | apply Zh); refine Zt ?_ NB474_475.out _; (with_reducible repeat first | apply Zg | apply Zf | apply Zh); exact BK474.out)) : gb476 ≠ gb474)); replace BK474 := Za.mk (Zp (g := gb474) (o := .cells #[.int .i64 a0_0, .int .u16 a0_1, .int .u8 a0_2, .int .u8 a0_3, .int .u32 a0_4, .int .i64 a0_5] 69 (0, 0)) (by (with_reducible repeat first | apply Zg | apply Zf | apply Zh); refine Zt ?_ NB474_475.out _; (with_reducible repeat first | apply Zg | apply Zf | apply Zh); refine Zt ?_ NB474_475.out _; (with_reducible repeat first | apply Zg | apply Zf | apply Zh); refine Zt ?_ NB474_475.out _; (with_reducible repeat first | apply Zg | apply Zf | apply Zh); refine Zt ?_ NB474_475.out _; (with_reducible repeat first | apply Zg | apply Zf | apply Zh); exact BK474.out) hb); have NB475_476 := Za.mk ((by rw [hg]; exact Nat.ne_of_lt (Zs (g := gb475) (o := .cells #[.int .u16 5, .int .u8 0, .int .u8 0, .int .u32 ((a1) % 4294967296)] 52 (0, 0)) (by (with_reducible repeat first | apply Zg | apply Zf | apply Zh); refine Zw (cs := #[.int .u16 5, .int .u8 0, .int .u8 0, .int .u32 0]) ?_ 3 _ rfl; (with_reducible repeat first | apply Zg | apply Zf | apply Zh); refine Zw (cs := #[.int .u16 5, .int .u8 0, .int .u8 0, .int .u32 0]) ?_ 2 _ rfl; (with_reducible repeat first | apply Zg | apply Zf | apply Zh); refine Zw (cs := #[.int .u16 5, .int .u8 0, .int .u8 0, .int .u32 0]) ?_ 1 _ rfl; (with_reducible repeat first | apply Zg | apply Zf | apply Zh); refine Zw (cs := #[.int .u16 0, .int .u8 0, .int .u8 0, .int .u32 0]) ?_ 0 _ rfl; (with_reducible repeat first | apply Zg | apply Zf | apply Zh); exact BK475.out)) : gb475 ≠ gb476)); have NB476_475 := Za.mk ((by rw [hg]; exact Nat.ne_of_gt (Zs (g := gb475) (o := .cells #[.int .u16 5, .int .u8 0, .int .u8 0, .int .u32 ((a1) % 4294967296)] 52 (0, 0)) (by (with_reducible repeat first | apply Zg | apply Zf | apply Zh); refine Zw (cs := #[.int .u16 5, .int .u8 0, .int .u8 0, .int .u32 0]) ?_ 3 _ rfl; (with_reducible repeat first | apply Zg | apply Zf | apply Zh); refine Zw (cs := #[.int .u16 5, .int .u8 0, .int .u8 0, .int .u32 0]) ?_ 2 _ rfl; (with_reducible repeat first | apply Zg | apply Zf | apply Zh); refine Zw (cs := #[.int .u16 5, .int .u8 0, .int .u8 0, .int .u32 0]) ?_ 1 _ rfl; (with_reducible repeat first | apply Zg | apply Zf | apply Zh); refine Zw (cs := #[.int .u16 0, .int .u8 0, .int .u8 0, .int .u32 0]) ?_ 0 _ rfl; (with_reducible repeat first | apply Zg | apply Zf | apply Zh); exact BK475.out)) : gb476 ≠ gb475)); replace BK475 := Za.mk (Zp (g := gb475) (o := .cells #[.int .u16 5, .int .u8 0, .int .u8 0, .int .u32 ((a1) % 4294967296)] 52 (0, 0)) (by (with_reducible repeat first | apply Zg | apply Zf | apply Zh); refine Zw (cs := #[.int .u16 5, .int .u8 0, .int .u8 0, .int .u32 0]) ?_ 3 _ rfl; (with_reducible repeat first | apply Zg | apply Zf | apply Zh); refine Zw (cs := #[.int .u16 5, .int .u8 0, .int .u8 0, .int .u32 0]) ?_ 2 _ rfl; (with_reducible repeat first | apply Zg | apply Zf | apply Zh); refine Zw (cs := #[.int .u16 5, .int .u8 0, .int .u8 0, .int .u32 0]) ?_ 1 _ rfl; (with_reducible repeat first | apply Zg | apply Zf | apply Zh); refine Zw (cs := #[.int .u16 0, .int .u8 0, .int .u8 0, .int .u32 0]) ?_ 0 _ rfl; (with_reducible repeat first | apply Zg | apply Zf | apply Zh); exact BK475.out) hb); clear hb hbox hg; have hnb37 := NB476_474.out; have hnc37 := NB474_476.out; have hnb38 := NB476_475.out; have hnc38 := NB475_476.out; have hcz39_0 : w36.cell? ⟨gb476, 0, none⟩ = some (.int .u16 0) := (Zb BK476.out 0).trans rfl; have hcz39_1 : w36.cell? ⟨gb476, 1, none⟩ = some (.int .u8 0) := (Zb BK476.out 1).trans rfl; have hcz39_2 : w36.cell? ⟨gb476, 2, none⟩ = some (.int .u8 0) := (Zb BK476.out 2).trans rfl; have hcz39_3 : w36.cell? ⟨gb476, 3, none⟩ = some (.int .u32 0) := (Zb BK476.out 3).trans rfl; have hfz39_0 := Zj BK476.out 0; have hfz39_1 := Zj BK476.out 1; have hfz39_2 := Zj BK476.out 2; have hfz39_3 := Zj BK476.out 3; have hcz40_0 : w36.cell? ⟨gb474, 0, none⟩ = some (.int .i64 a0_0) := (Zb BK474.out 0).trans rfl; have hcz40_1 : w36.cell? ⟨gb474, 1, none⟩ = some (.int .u16 a0_1) := (Zb BK474.out 1).trans rfl; have hcz40_2 : w36.cell? ⟨gb474, 2, none⟩ = some (.int .u8 a0_2) := (Zb BK474.out 2).trans rfl; have hcz40_3 : w36.cell? ⟨gb474, 3, none⟩ = some (.int .u8 a0_3) := (Zb BK474.out 3).trans rfl; have hcz40_4 : w36.cell? ⟨gb474, 4, none⟩ = some (.int .u32 a0_4) := (Zb BK474.out 4).trans rfl; have hcz40_5 : w36.cell? ⟨gb474, 5, none⟩ = some (.int .i64 a0_5) := (Zb BK474.out 5).trans rfl; have hfz40_0 := Zj BK474.out 0; have hfz40_1 := Zj BK474.out 1; have hfz40_2 := Zj BK474.out 2; have hfz40_3 := Zj BK474.out 3; have hfz40_4 := Zj BK474.out 4; have hfz40_5 := Zj BK474.out 5))
 (try simp only [Act.put, ZD, ZE, ZF])
 go_cut [30] (fun v30 wc => ∃ (kq : Nat) (x30_29 : Bool), v30 = .bool x30_29 ∧ Za (impl_made.j0 kq a1 x30_29 a0_0 a0_1 a0_2 a0_3 a0_4 a0_5 5 0 0 ((a1) % 4294967296) a0_1 0 0 a0_4 = some r) ∧ Za (kq ≤ k) ∧ Za (wc.heap[gb474]? = some (.cells #[.int .i64 a0_0, .int .u16 a0_1, .int .u8 a0_2, .int .u8 a0_3, .int .u32 a0_4, .int .i64 a0_5] 69 (0, 0))) ∧ Za (wc.heap[gb475]? = some (.cells #[.int .u16 5, .int .u8 0, .int .u8 0, .int .u32 ((a1) % 4294967296)] 52 (0, 0))) ∧ Za (wc.heap[gb476]? = some (.cells #[.int .u16 a0_1, .int .u8 0, .int .u8 0, .int .u32 a0_4] 52 (0, 0))) ∧ Za (Below w.heap.size w wc))
 case first =>
  have H := HC30.out
  clear HC30
  by_cases c41 : a0_0 = 1
  ·rw [if_pos c41] at H
   have c41b0 : (a0_0 == 1) = true := beq_iff_eq.mpr c41
   have c41b1 : (a0_0 != 1) = false := bne_eq_false_iff_eq.mpr c41
   clear c41
   (first | rw [c41b0] | (simp only [Zu, Zv]; rw [c41b0]) | skip)
   have H' := Za.mk H
   clear H
   have hnb42 := NB474_475.out
   have hnc42 := NB475_474.out
   have hnb43 := NB474_476.out
   have hnc43 := NB476_474.out
   have hcz44_0 : w36.cell? ⟨gb474, 0, none⟩ = some (.int .i64 a0_0) := (Zb BK474.out 0).trans rfl
   have hcz44_1 : w36.cell? ⟨gb474, 1, none⟩ = some (.int .u16 a0_1) := (Zb BK474.out 1).trans rfl
   have hcz44_2 : w36.cell? ⟨gb474, 2, none⟩ = some (.int .u8 a0_2) := (Zb BK474.out 2).trans rfl
   have hcz44_3 : w36.cell? ⟨gb474, 3, none⟩ = some (.int .u8 a0_3) := (Zb BK474.out 3).trans rfl
   have hcz44_4 : w36.cell? ⟨gb474, 4, none⟩ = some (.int .u32 a0_4) := (Zb BK474.out 4).trans rfl
   have hcz44_5 : w36.cell? ⟨gb474, 5, none⟩ = some (.int .i64 a0_5) := (Zb BK474.out 5).trans rfl
   have hfz44_0 := Zj BK474.out 0
   have hfz44_1 := Zj BK474.out 1
   have hfz44_2 := Zj BK474.out 2
   have hfz44_3 := Zj BK474.out 3
   have hfz44_4 := Zj BK474.out 4
   have hfz44_5 := Zj BK474.out 5
   go_wp2
   go_meet
   case rel => exact ⟨_, (decide (a1 ≤ 255)), (by first | rfl | (simp; done) | (simp [*]; done)), H', ⟨by first | omega | exact Nat.le_refl _⟩, ⟨by (with_reducible repeat first | apply Zg | apply Zf | apply Zh); refine Zt ?_ NB474_476.out _; (with_reducible repeat first | apply Zg | apply Zf | apply Zh); refine Zt ?_ NB474_476.out _; (with_reducible repeat first | apply Zg | apply Zf | apply Zh); refine Zt ?_ NB474_476.out _; (with_reducible repeat first | apply Zg | apply Zf | apply Zh); refine Zt ?_ NB474_476.out _; (with_reducible repeat first | apply Zg | apply Zf | apply Zh); exact BK474.out⟩, ⟨by (with_reducible repeat first | apply Zg | apply Zf | apply Zh); refine Zt ?_ NB475_476.out _; (with_reducible repeat first | apply Zg | apply Zf | apply Zh); refine Zt ?_ NB475_476.out _; (with_reducible repeat first | apply Zg | apply Zf | apply Zh); refine Zt ?_ NB475_476.out _; (with_reducible repeat first | apply Zg | apply Zf | apply Zh); refine Zt ?_ NB475_476.out _; (with_reducible repeat first | apply Zg | apply Zf | apply Zh); exact BK475.out⟩, ⟨by (with_reducible repeat first | apply Zg | apply Zf | apply Zh); refine Zw (cs := #[.int .u16 a0_1, .int .u8 0, .int .u8 0, .int .u32 0]) ?_ 3 _ rfl; (with_reducible repeat first | apply Zg | apply Zf | apply Zh); refine Zw (cs := #[.int .u16 a0_1, .int .u8 0, .int .u8 0, .int .u32 0]) ?_ 2 _ rfl; (with_reducible repeat first | apply Zg | apply Zf | apply Zh); refine Zw (cs := #[.int .u16 a0_1, .int .u8 0, .int .u8 0, .int .u32 0]) ?_ 1 _ rfl; (with_reducible repeat first | apply Zg | apply Zf | apply Zh); refine Zw (cs := #[.int .u16 0, .int .u8 0, .int .u8 0, .int .u32 0]) ?_ 0 _ rfl; (with_reducible repeat first | apply Zg | apply Zf | apply Zh); exact BK476.out⟩, ⟨by with_reducible repeat first | exact HB.out | apply Zc | apply Ze | apply Zd | refine Zk ?_ GE474.out | refine Zk ?_ GE475.out | refine Zk ?_ GE476.out⟩⟩
  rw [if_neg c41] at H
  have c41b0 : (a0_0 == 1) = false := beq_eq_false_iff_ne.mpr c41
  have c41b1 : (a0_0 != 1) = true := bne_iff_ne.mpr c41
  (first | rw [c41b0] | (simp only [Zu, Zv]; rw [c41b0]) | skip)
  have H' := Za.mk H
  clear H
  have hnb45 := NB474_475.out
  have hnc45 := NB475_474.out
  have hnb46 := NB474_476.out
  have hnc46 := NB476_474.out
  have hcz47_0 : w36.cell? ⟨gb474, 0, none⟩ = some (.int .i64 a0_0) := (Zb BK474.out 0).trans rfl
  have hcz47_1 : w36.cell? ⟨gb474, 1, none⟩ = some (.int .u16 a0_1) := (Zb BK474.out 1).trans rfl
  have hcz47_2 : w36.cell? ⟨gb474, 2, none⟩ = some (.int .u8 a0_2) := (Zb BK474.out 2).trans rfl
  have hcz47_3 : w36.cell? ⟨gb474, 3, none⟩ = some (.int .u8 a0_3) := (Zb BK474.out 3).trans rfl
  have hcz47_4 : w36.cell? ⟨gb474, 4, none⟩ = some (.int .u32 a0_4) := (Zb BK474.out 4).trans rfl
  have hcz47_5 : w36.cell? ⟨gb474, 5, none⟩ = some (.int .i64 a0_5) := (Zb BK474.out 5).trans rfl
  have hfz47_0 := Zj BK474.out 0
  have hfz47_1 := Zj BK474.out 1
  have hfz47_2 := Zj BK474.out 2
  have hfz47_3 := Zj BK474.out 3
  have hfz47_4 := Zj BK474.out 4
  have hfz47_5 := Zj BK474.out 5
  go_wp2
  go_meet
  case rel => exact ⟨_, (false), (by first | rfl | (simp; done) | (simp [*]; done)), H', ⟨by first | omega | exact Nat.le_refl _⟩, ⟨by (with_reducible repeat first | apply Zg | apply Zf | apply Zh); refine Zt ?_ NB474_476.out _; (with_reducible repeat first | apply Zg | apply Zf | apply Zh); refine Zt ?_ NB474_476.out _; (with_reducible repeat first | apply Zg | apply Zf | apply Zh); refine Zt ?_ NB474_476.out _; (with_reducible repeat first | apply Zg | apply Zf | apply Zh); refine Zt ?_ NB474_476.out _; (with_reducible repeat first | apply Zg | apply Zf | apply Zh); exact BK474.out⟩, ⟨by (with_reducible repeat first | apply Zg | apply Zf | apply Zh); refine Zt ?_ NB475_476.out _; (with_reducible repeat first | apply Zg | apply Zf | apply Zh); refine Zt ?_ NB475_476.out _; (with_reducible repeat first | apply Zg | apply Zf | apply Zh); refine Zt ?_ NB475_476.out _; (with_reducible repeat first | apply Zg | apply Zf | apply Zh); refine Zt ?_ NB475_476.out _; (with_reducible repeat first | apply Zg | apply Zf | apply Zh); exact BK475.out⟩, ⟨by (with_reducible repeat first | apply Zg | apply Zf | apply Zh); refine Zw (cs := #[.int .u16 a0_1, .int .u8 0, .int .u8 0, .int .u32 0]) ?_ 3 _ rfl; (with_reducible repeat first | apply Zg | apply Zf | apply Zh); refine Zw (cs := #[.int .u16 a0_1, .int .u8 0, .int .u8 0, .int .u32 0]) ?_ 2 _ rfl; (with_reducible repeat first | apply Zg | apply Zf | apply Zh); refine Zw (cs := #[.int .u16 a0_1, .int .u8 0, .int .u8 0, .int .u32 0]) ?_ 1 _ rfl; (with_reducible repeat first | apply Zg | apply Zf | apply Zh); refine Zw (cs := #[.int .u16 0, .int .u8 0, .int .u8 0, .int .u32 0]) ?_ 0 _ rfl; (with_reducible repeat first | apply Zg | apply Zf | apply Zh); exact BK476.out⟩, ⟨by with_reducible repeat first | exact HB.out | apply Zc | apply Ze | apply Zd | refine Zk ?_ GE474.out | refine Zk ?_ GE475.out | refine Zk ?_ GE476.out⟩⟩
 case rest =>
  clear HC30
  try clear c1
  try clear c2
  try clear p2
  try clear c3
  try clear c3b0
  try clear c3b1
  try clear c4
  try clear c6
  try clear c10
  try clear c11
  try clear c16
  try clear c16b0
  try clear c16b1
  try clear c19
  try clear c23
  try clear c24
  try clear c33
  try clear c37
  try clear c38
  try clear c41
  try clear c41b0
  try clear c41b1
  try clear c42
  try clear c43
  try clear c45
  try clear c46
  try clear c47
  try clear hcz12_0
  try clear hcz12_1
  try clear hcz12_2
  try clear hcz12_3
  try clear hcz13_0
  try clear hcz13_1
  try clear hcz13_2
  try clear hcz13_3
  try clear hcz13_4
  try clear hcz13_5
  try clear hcz20_0
  try clear hcz20_1
  try clear hcz20_2
  try clear hcz20_3
  try clear hcz21_0
  try clear hcz21_1
  try clear hcz21_2
  try clear hcz21_3
  try clear hcz21_4
  try clear hcz21_5
  try clear hcz25_0
  try clear hcz25_1
  try clear hcz25_2
  try clear hcz25_3
  try clear hcz26_0
  try clear hcz26_1
  try clear hcz26_2
  try clear hcz26_3
  try clear hcz26_4
  try clear hcz26_5
  try clear hcz27_0
  try clear hcz27_1
  try clear hcz27_2
  try clear hcz27_3
  try clear hcz34_0
  try clear hcz34_1
  try clear hcz34_2
  try clear hcz34_3
  try clear hcz35_0
  try clear hcz35_1
  try clear hcz35_2
  try clear hcz35_3
  try clear hcz35_4
  try clear hcz35_5
  try clear hcz39_0
  try clear hcz39_1
  try clear hcz39_2
  try clear hcz39_3
  try clear hcz40_0
  try clear hcz40_1
  try clear hcz40_2
  try clear hcz40_3
  try clear hcz40_4
  try clear hcz40_5
  try clear hcz44_0
  try clear hcz44_1
  try clear hcz44_2
  try clear hcz44_3
  try clear hcz44_4
  try clear hcz44_5
  try clear hcz47_0
  try clear hcz47_1
  try clear hcz47_2
  try clear hcz47_3
  try clear hcz47_4
  try clear hcz47_5
  try clear hcz7_0
  try clear hcz7_1
  try clear hcz7_2
  try clear hcz7_3
  try clear hcz8_0
  try clear hcz8_1
  try clear hcz8_2
  try clear hcz8_3
  try clear hcz8_4
  try clear hcz8_5
  try clear hfz12_0
  try clear hfz12_1
  try clear hfz12_2
  try clear hfz12_3
  try clear hfz13_0
  try clear hfz13_1
  try clear hfz13_2
  try clear hfz13_3
  try clear hfz13_4
  try clear hfz13_5
  try clear hfz20_0
  try clear hfz20_1
  try clear hfz20_2
  try clear hfz20_3
  try clear hfz21_0
  try clear hfz21_1
  try clear hfz21_2
  try clear hfz21_3
  try clear hfz21_4
  try clear hfz21_5
  try clear hfz25_0
  try clear hfz25_1
  try clear hfz25_2
  try clear hfz25_3
  try clear hfz26_0
  try clear hfz26_1
  try clear hfz26_2
  try clear hfz26_3
  try clear hfz26_4
  try clear hfz26_5
  try clear hfz27_0
  try clear hfz27_1
  try clear hfz27_2
  try clear hfz27_3
  try clear hfz34_0
  try clear hfz34_1
  try clear hfz34_2
  try clear hfz34_3
  try clear hfz35_0
  try clear hfz35_1
  try clear hfz35_2
  try clear hfz35_3
  try clear hfz35_4
  try clear hfz35_5
  try clear hfz39_0
  try clear hfz39_1
  try clear hfz39_2
  try clear hfz39_3
  try clear hfz40_0
  try clear hfz40_1
  try clear hfz40_2
  try clear hfz40_3
  try clear hfz40_4
  try clear hfz40_5
  try clear hfz44_0
  try clear hfz44_1
  try clear hfz44_2
  try clear hfz44_3
  try clear hfz44_4
  try clear hfz44_5
  try clear hfz47_0
  try clear hfz47_1
  try clear hfz47_2
  try clear hfz47_3
  try clear hfz47_4
  try clear hfz47_5
  try clear hfz7_0
  try clear hfz7_1
  try clear hfz7_2
  try clear hfz7_3
  try clear hfz8_0
  try clear hfz8_1
  try clear hfz8_2
  try clear hfz8_3
  try clear hfz8_4
  try clear hfz8_5
  obtain ⟨kq, x30_29, rfl, HA, HJ29, BK474, BK475, BK476, HB⟩ := hcut
  cases kq with
  | zero => exact absurd HA.out (by simp [impl_made.j0])
  | succ kj29 =>
   have H := HA.out
   clear HA
   simp only [impl_made.j0] at H
   by_cases c48 : x30_29 = true
   ·subst c48
    have H1 : (some (([(⟨a0_1, (a1) % 256, 0, a0_4⟩ : S52)] : List (S52)))) = some r := by rw [if_pos rfl] at H; exact H
    clear H
    have H := H1
    clear H1
    obtain ⟨y483, hy483⟩ : ∃ y_ : List (S52), y_ = (([(⟨a0_1, (a1) % 256, 0, a0_4⟩ : S52)] : List (S52))) := ⟨_, rfl⟩
    replace H : (some y483) = some r := by first | (rw [hy483]; with_reducible exact H) | (have H2_ := (Option.bind_some _ _).symm.trans H; rw [hy483]; with_reducible exact H2_) | (have H2_ := (Option.bind_some _ _).symm.trans H; with_reducible exact H2_) | with_reducible exact H | (rw [hy483]; exact H) | exact H
    have Ny483 := Za.mk hy483
    clear hy483
    obtain rfl := Option.some.inj H
    have hnb49 := NB476_474.out
    have hnc49 := NB474_476.out
    have hnb50 := NB476_475.out
    have hnc50 := NB475_476.out
    have hcz51_0 : wc.cell? ⟨gb476, 0, none⟩ = some (.int .u16 a0_1) := (Zb BK476.out 0).trans rfl
    have hcz51_1 : wc.cell? ⟨gb476, 1, none⟩ = some (.int .u8 0) := (Zb BK476.out 1).trans rfl
    have hcz51_2 : wc.cell? ⟨gb476, 2, none⟩ = some (.int .u8 0) := (Zb BK476.out 2).trans rfl
    have hcz51_3 : wc.cell? ⟨gb476, 3, none⟩ = some (.int .u32 a0_4) := (Zb BK476.out 3).trans rfl
    have hfz51_0 := Zj BK476.out 0
    have hfz51_1 := Zj BK476.out 1
    have hfz51_2 := Zj BK476.out 2
    have hfz51_3 := Zj BK476.out 3
    go_wp2_with (first | ((with_reducible refine Zab (N := 42) rfl ?_); refine Kd.R_lit k52 _ 52 ?hg (N := 42) ?hd (xs := ([(⟨a0_1, (a1) % 256, 0, a0_4⟩ : S52)] : List (S52))) (inner := [.int .u16 a0_1, .int .u8 ((a1) % 256), .int .u8 0, .int .u32 a0_4]) (ok := fun _ => True) (okp := fun _ => True) ?hr ?hp (fun _ hk => hk) trivial (Below.refl _ _) (Nat.le_refl _) (by simp) ?_; (case hd => rfl); (case hg => rfl); (case hr => go_simp <;> rfl); (case hp => exact (Reps.c4 (show Kd.M k52 _ _ _ (⟨a0_1, (a1) % 256, 0, a0_4⟩ : S52) [.int .u16 a0_1, .int .u8 ((a1) % 256), .int .u8 0, .int .u32 a0_4] from (k52_mkM _ _ _ (⟨a0_1, (a1) % 256, 0, a0_4⟩ : S52) )) (Reps.none _ _))); intro v484 w52 ho53 hb hg_ hnew_; clear hg_ hnew_; (first | rw [← Ny483.out] at ho53 | (simp only [Int.reduceToNat] at ho53; rw [← Ny483.out] at ho53)); have HO485 := Za.mk (Kd.Zbk (Kd.R_newB (Kd.R_newB ho53 (g := gb475) (o := .cells #[.int .u16 5, .int .u8 0, .int .u8 0, .int .u32 ((a1) % 4294967296)] 52 (0, 0)) (by (with_reducible repeat first | apply Zg | apply Zf | apply Zh); refine Zt ?_ NB475_476.out _; (with_reducible repeat first | apply Zg | apply Zf | apply Zh); exact BK475.out)) (g := gb476) (o := .cells #[.int .u16 a0_1, .int .u8 ((a1) % 256), .int .u8 0, .int .u32 a0_4] 52 (0, 0)) (by (with_reducible repeat first | apply Zg | apply Zf | apply Zh); refine Zw (cs := #[.int .u16 a0_1, .int .u8 0, .int .u8 0, .int .u32 a0_4]) ?_ 1 _ rfl; (with_reducible repeat first | apply Zg | apply Zf | apply Zh); exact BK476.out)) (Zl (by with_reducible repeat first | exact HB.out | apply Zc | apply Ze | apply Zd | refine Zk ?_ GE474.out | refine Zk ?_ GE475.out | refine Zk ?_ GE476.out))); replace BK474 := Za.mk (Zp (g := gb474) (o := .cells #[.int .i64 a0_0, .int .u16 a0_1, .int .u8 a0_2, .int .u8 a0_3, .int .u32 a0_4, .int .i64 a0_5] 69 (0, 0)) (by (with_reducible repeat first | apply Zg | apply Zf | apply Zh); refine Zt ?_ NB474_476.out _; (with_reducible repeat first | apply Zg | apply Zf | apply Zh); exact BK474.out) hb); replace BK475 := Za.mk (Zp (g := gb475) (o := .cells #[.int .u16 5, .int .u8 0, .int .u8 0, .int .u32 ((a1) % 4294967296)] 52 (0, 0)) (by (with_reducible repeat first | apply Zg | apply Zf | apply Zh); refine Zt ?_ NB475_476.out _; (with_reducible repeat first | apply Zg | apply Zf | apply Zh); exact BK475.out) hb); replace BK476 := Za.mk (Zp (g := gb476) (o := .cells #[.int .u16 a0_1, .int .u8 ((a1) % 256), .int .u8 0, .int .u32 a0_4] 52 (0, 0)) (by (with_reducible repeat first | apply Zg | apply Zf | apply Zh); refine Zw (cs := #[.int .u16 a0_1, .int .u8 0, .int .u8 0, .int .u32 a0_4]) ?_ 1 _ rfl; (with_reducible repeat first | apply Zg | apply Zf | apply Zh); exact BK476.out) hb); replace HB := Za.mk (Zo (by with_reducible repeat first | exact HB.out | apply Zc | apply Ze | apply Zd | refine Zk ?_ GE474.out | refine Zk ?_ GE475.out | refine Zk ?_ GE476.out) hb); clear hb ho53))
    go_ret
    exact ⟨_, by first | rfl | (simp [Zm, Zn] <;> rfl) | (simp [*, Zm, Zn] <;> rfl), by (with_reducible repeat (first | apply Kd.Zaa | apply Kd.Zy | apply Kd.Zz)); exact Kd.Zas HO485.out (fun _ hk => trivial), by with_reducible repeat first | exact HB.out | apply Zc | apply Ze | apply Zd | refine Zk ?_ GE474.out | refine Zk ?_ GE475.out | refine Zk ?_ GE476.out⟩
   replace c48 := Bool.eq_false_iff.mpr c48
   subst c48
   have H1 : (if a0_0 = 1 then (some (([(⟨a0_1, 0, 1, a0_4⟩ : S52), (⟨5, 0, 0, ((a1) % 4294967296)⟩ : S52)] : List (S52)))) else (if a1 ≤ 255 then (some (([(⟨a0_1, 0, (a1) % 256, a0_4⟩ : S52)] : List (S52)))) else (some (([(⟨a0_1, 1, 0, a0_4⟩ : S52), (⟨5, 0, 0, ((a1) % 4294967296)⟩ : S52)] : List (S52)))))) = some r := by rw [if_neg (show ¬ (false = true) by decide)] at H; exact H
   clear H
   have H := H1
   clear H1
   by_cases c54 : a0_0 = 1
   ·rw [if_pos c54] at H
    have c54b0 : (a0_0 == 1) = true := beq_iff_eq.mpr c54
    have c54b1 : (a0_0 != 1) = false := bne_eq_false_iff_eq.mpr c54
    clear c54
    obtain ⟨y486, hy486⟩ : ∃ y_ : List (S52), y_ = (([(⟨a0_1, 0, 1, a0_4⟩ : S52), (⟨5, 0, 0, ((a1) % 4294967296)⟩ : S52)] : List (S52))) := ⟨_, rfl⟩
    replace H : (some y486) = some r := by first | (rw [hy486]; with_reducible exact H) | (have H2_ := (Option.bind_some _ _).symm.trans H; rw [hy486]; with_reducible exact H2_) | (have H2_ := (Option.bind_some _ _).symm.trans H; with_reducible exact H2_) | with_reducible exact H | (rw [hy486]; exact H) | exact H
    have Ny486 := Za.mk hy486
    clear hy486
    obtain rfl := Option.some.inj H
    have hnb55 := NB474_475.out
    have hnc55 := NB475_474.out
    have hnb56 := NB474_476.out
    have hnc56 := NB476_474.out
    have hcz57_0 : wc.cell? ⟨gb474, 0, none⟩ = some (.int .i64 a0_0) := (Zb BK474.out 0).trans rfl
    have hcz57_1 : wc.cell? ⟨gb474, 1, none⟩ = some (.int .u16 a0_1) := (Zb BK474.out 1).trans rfl
    have hcz57_2 : wc.cell? ⟨gb474, 2, none⟩ = some (.int .u8 a0_2) := (Zb BK474.out 2).trans rfl
    have hcz57_3 : wc.cell? ⟨gb474, 3, none⟩ = some (.int .u8 a0_3) := (Zb BK474.out 3).trans rfl
    have hcz57_4 : wc.cell? ⟨gb474, 4, none⟩ = some (.int .u32 a0_4) := (Zb BK474.out 4).trans rfl
    have hcz57_5 : wc.cell? ⟨gb474, 5, none⟩ = some (.int .i64 a0_5) := (Zb BK474.out 5).trans rfl
    have hfz57_0 := Zj BK474.out 0
    have hfz57_1 := Zj BK474.out 1
    have hfz57_2 := Zj BK474.out 2
    have hfz57_3 := Zj BK474.out 3
    have hfz57_4 := Zj BK474.out 4
    have hfz57_5 := Zj BK474.out 5
    have hnb58 := NB476_475.out
    have hnc58 := NB475_476.out
    have hcz59_0 : wc.cell? ⟨gb476, 0, none⟩ = some (.int .u16 a0_1) := (Zb BK476.out 0).trans rfl
    have hcz59_1 : wc.cell? ⟨gb476, 1, none⟩ = some (.int .u8 0) := (Zb BK476.out 1).trans rfl
    have hcz59_2 : wc.cell? ⟨gb476, 2, none⟩ = some (.int .u8 0) := (Zb BK476.out 2).trans rfl
    have hcz59_3 : wc.cell? ⟨gb476, 3, none⟩ = some (.int .u32 a0_4) := (Zb BK476.out 3).trans rfl
    have hfz59_0 := Zj BK476.out 0
    have hfz59_1 := Zj BK476.out 1
    have hfz59_2 := Zj BK476.out 2
    have hfz59_3 := Zj BK476.out 3
    have hcz60_0 : wc.cell? ⟨gb475, 0, none⟩ = some (.int .u16 5) := (Zb BK475.out 0).trans rfl
    have hcz60_1 : wc.cell? ⟨gb475, 1, none⟩ = some (.int .u8 0) := (Zb BK475.out 1).trans rfl
    have hcz60_2 : wc.cell? ⟨gb475, 2, none⟩ = some (.int .u8 0) := (Zb BK475.out 2).trans rfl
    have hcz60_3 : wc.cell? ⟨gb475, 3, none⟩ = some (.int .u32 ((a1) % 4294967296)) := (Zb BK475.out 3).trans rfl
    have hfz60_0 := Zj BK475.out 0
    have hfz60_1 := Zj BK475.out 1
    have hfz60_2 := Zj BK475.out 2
    have hfz60_3 := Zj BK475.out 3
    go_wp2_with (first | ((with_reducible refine Zab (N := 50) rfl ?_); refine Kd.R_lit k52 _ 52 ?hg (N := 50) ?hd (xs := ([(⟨a0_1, 0, 1, a0_4⟩ : S52), (⟨5, 0, 0, ((a1) % 4294967296)⟩ : S52)] : List (S52))) (inner := [.int .u16 a0_1, .int .u8 0, .int .u8 1, .int .u32 a0_4, .int .u16 5, .int .u8 0, .int .u8 0, .int .u32 ((a1) % 4294967296)]) (ok := fun _ => True) (okp := fun _ => True) ?hr ?hp (fun _ hk => hk) trivial (Below.refl _ _) (Nat.le_refl _) (by simp) ?_; (case hd => rfl); (case hg => rfl); (case hr => go_simp <;> rfl); (case hp => exact (Reps.c4 (show Kd.M k52 _ _ _ (⟨a0_1, 0, 1, a0_4⟩ : S52) [.int .u16 a0_1, .int .u8 0, .int .u8 1, .int .u32 a0_4] from (k52_mkM _ _ _ (⟨a0_1, 0, 1, a0_4⟩ : S52) )) (Reps.c4 (show Kd.M k52 _ _ _ (⟨5, 0, 0, ((a1) % 4294967296)⟩ : S52) [.int .u16 5, .int .u8 0, .int .u8 0, .int .u32 ((a1) % 4294967296)] from (k52_mkM _ _ _ (⟨5, 0, 0, ((a1) % 4294967296)⟩ : S52) )) (Reps.none _ _)))); intro v487 w61 ho62 hb hg_ hnew_; clear hg_ hnew_; (first | rw [← Ny486.out] at ho62 | (simp only [Int.reduceToNat] at ho62; rw [← Ny486.out] at ho62)); have HO488 := Za.mk (Kd.Zbk (Kd.R_newB (Kd.R_newB ho62 (g := gb475) (o := .cells #[.int .u16 5, .int .u8 0, .int .u8 0, .int .u32 ((a1) % 4294967296)] 52 (0, 0)) (by (with_reducible repeat first | apply Zg | apply Zf | apply Zh); refine Zt ?_ NB475_476.out _; (with_reducible repeat first | apply Zg | apply Zf | apply Zh); exact BK475.out)) (g := gb476) (o := .cells #[.int .u16 a0_1, .int .u8 0, .int .u8 1, .int .u32 a0_4] 52 (0, 0)) (by (with_reducible repeat first | apply Zg | apply Zf | apply Zh); refine Zw (cs := #[.int .u16 a0_1, .int .u8 0, .int .u8 0, .int .u32 a0_4]) ?_ 2 _ rfl; (with_reducible repeat first | apply Zg | apply Zf | apply Zh); exact BK476.out)) (Zl (by with_reducible repeat first | exact HB.out | apply Zc | apply Ze | apply Zd | refine Zk ?_ GE474.out | refine Zk ?_ GE475.out | refine Zk ?_ GE476.out))); replace BK474 := Za.mk (Zp (g := gb474) (o := .cells #[.int .i64 a0_0, .int .u16 a0_1, .int .u8 a0_2, .int .u8 a0_3, .int .u32 a0_4, .int .i64 a0_5] 69 (0, 0)) (by (with_reducible repeat first | apply Zg | apply Zf | apply Zh); refine Zt ?_ NB474_476.out _; (with_reducible repeat first | apply Zg | apply Zf | apply Zh); exact BK474.out) hb); replace BK475 := Za.mk (Zp (g := gb475) (o := .cells #[.int .u16 5, .int .u8 0, .int .u8 0, .int .u32 ((a1) % 4294967296)] 52 (0, 0)) (by (with_reducible repeat first | apply Zg | apply Zf | apply Zh); refine Zt ?_ NB475_476.out _; (with_reducible repeat first | apply Zg | apply Zf | apply Zh); exact BK475.out) hb); replace BK476 := Za.mk (Zp (g := gb476) (o := .cells #[.int .u16 a0_1, .int .u8 0, .int .u8 1, .int .u32 a0_4] 52 (0, 0)) (by (with_reducible repeat first | apply Zg | apply Zf | apply Zh); refine Zw (cs := #[.int .u16 a0_1, .int .u8 0, .int .u8 0, .int .u32 a0_4]) ?_ 2 _ rfl; (with_reducible repeat first | apply Zg | apply Zf | apply Zh); exact BK476.out) hb); replace HB := Za.mk (Zo (by with_reducible repeat first | exact HB.out | apply Zc | apply Ze | apply Zd | refine Zk ?_ GE474.out | refine Zk ?_ GE475.out | refine Zk ?_ GE476.out) hb); clear hb ho62))
    go_ret
    exact ⟨_, by first | rfl | (simp [Zm, Zn] <;> rfl) | (simp [*, Zm, Zn] <;> rfl), by (with_reducible repeat (first | apply Kd.Zaa | apply Kd.Zy | apply Kd.Zz)); exact Kd.Zas HO488.out (fun _ hk => trivial), by with_reducible repeat first | exact HB.out | apply Zc | apply Ze | apply Zd | refine Zk ?_ GE474.out | refine Zk ?_ GE475.out | refine Zk ?_ GE476.out⟩
   rw [if_neg c54] at H
   have c54b0 : (a0_0 == 1) = false := beq_eq_false_iff_ne.mpr c54
   have c54b1 : (a0_0 != 1) = true := bne_iff_ne.mpr c54
   by_cases c63 : a1 ≤ 255
   ·rw [if_pos c63] at H
    have c63b0 : decide (a1 ≤ 255) = true := decide_eq_true c63
    clear c63
    obtain ⟨y489, hy489⟩ : ∃ y_ : List (S52), y_ = (([(⟨a0_1, 0, (a1) % 256, a0_4⟩ : S52)] : List (S52))) := ⟨_, rfl⟩
    replace H : (some y489) = some r := by first | (rw [hy489]; with_reducible exact H) | (have H2_ := (Option.bind_some _ _).symm.trans H; rw [hy489]; with_reducible exact H2_) | (have H2_ := (Option.bind_some _ _).symm.trans H; with_reducible exact H2_) | with_reducible exact H | (rw [hy489]; exact H) | exact H
    have Ny489 := Za.mk hy489
    clear hy489
    obtain rfl := Option.some.inj H
    have hnb64 := NB474_475.out
    have hnc64 := NB475_474.out
    have hnb65 := NB474_476.out
    have hnc65 := NB476_474.out
    have hcz66_0 : wc.cell? ⟨gb474, 0, none⟩ = some (.int .i64 a0_0) := (Zb BK474.out 0).trans rfl
    have hcz66_1 : wc.cell? ⟨gb474, 1, none⟩ = some (.int .u16 a0_1) := (Zb BK474.out 1).trans rfl
    have hcz66_2 : wc.cell? ⟨gb474, 2, none⟩ = some (.int .u8 a0_2) := (Zb BK474.out 2).trans rfl
    have hcz66_3 : wc.cell? ⟨gb474, 3, none⟩ = some (.int .u8 a0_3) := (Zb BK474.out 3).trans rfl
    have hcz66_4 : wc.cell? ⟨gb474, 4, none⟩ = some (.int .u32 a0_4) := (Zb BK474.out 4).trans rfl
    have hcz66_5 : wc.cell? ⟨gb474, 5, none⟩ = some (.int .i64 a0_5) := (Zb BK474.out 5).trans rfl
    have hfz66_0 := Zj BK474.out 0
    have hfz66_1 := Zj BK474.out 1
    have hfz66_2 := Zj BK474.out 2
    have hfz66_3 := Zj BK474.out 3
    have hfz66_4 := Zj BK474.out 4
    have hfz66_5 := Zj BK474.out 5
    have hnb67 := NB476_475.out
    have hnc67 := NB475_476.out
    have hcz68_0 : wc.cell? ⟨gb476, 0, none⟩ = some (.int .u16 a0_1) := (Zb BK476.out 0).trans rfl
    have hcz68_1 : wc.cell? ⟨gb476, 1, none⟩ = some (.int .u8 0) := (Zb BK476.out 1).trans rfl
    have hcz68_2 : wc.cell? ⟨gb476, 2, none⟩ = some (.int .u8 0) := (Zb BK476.out 2).trans rfl
    have hcz68_3 : wc.cell? ⟨gb476, 3, none⟩ = some (.int .u32 a0_4) := (Zb BK476.out 3).trans rfl
    have hfz68_0 := Zj BK476.out 0
    have hfz68_1 := Zj BK476.out 1
    have hfz68_2 := Zj BK476.out 2
    have hfz68_3 := Zj BK476.out 3
    go_wp2_with (first | ((with_reducible refine Zab (N := 58) rfl ?_); refine Kd.R_lit k52 _ 52 ?hg (N := 58) ?hd (xs := ([(⟨a0_1, 0, (a1) % 256, a0_4⟩ : S52)] : List (S52))) (inner := [.int .u16 a0_1, .int .u8 0, .int .u8 ((a1) % 256), .int .u32 a0_4]) (ok := fun _ => True) (okp := fun _ => True) ?hr ?hp (fun _ hk => hk) trivial (Below.refl _ _) (Nat.le_refl _) (by simp) ?_; (case hd => rfl); (case hg => rfl); (case hr => go_simp <;> rfl); (case hp => exact (Reps.c4 (show Kd.M k52 _ _ _ (⟨a0_1, 0, (a1) % 256, a0_4⟩ : S52) [.int .u16 a0_1, .int .u8 0, .int .u8 ((a1) % 256), .int .u32 a0_4] from (k52_mkM _ _ _ (⟨a0_1, 0, (a1) % 256, a0_4⟩ : S52) )) (Reps.none _ _))); intro v490 w69 ho70 hb hg_ hnew_; clear hg_ hnew_; (first | rw [← Ny489.out] at ho70 | (simp only [Int.reduceToNat] at ho70; rw [← Ny489.out] at ho70)); have HO491 := Za.mk (Kd.Zbk (Kd.R_newB (Kd.R_newB ho70 (g := gb475) (o := .cells #[.int .u16 5, .int .u8 0, .int .u8 0, .int .u32 ((a1) % 4294967296)] 52 (0, 0)) (by (with_reducible repeat first | apply Zg | apply Zf | apply Zh); refine Zt ?_ NB475_476.out _; (with_reducible repeat first | apply Zg | apply Zf | apply Zh); exact BK475.out)) (g := gb476) (o := .cells #[.int .u16 a0_1, .int .u8 0, .int .u8 ((a1) % 256), .int .u32 a0_4] 52 (0, 0)) (by (with_reducible repeat first | apply Zg | apply Zf | apply Zh); refine Zw (cs := #[.int .u16 a0_1, .int .u8 0, .int .u8 0, .int .u32 a0_4]) ?_ 2 _ rfl; (with_reducible repeat first | apply Zg | apply Zf | apply Zh); exact BK476.out)) (Zl (by with_reducible repeat first | exact HB.out | apply Zc | apply Ze | apply Zd | refine Zk ?_ GE474.out | refine Zk ?_ GE475.out | refine Zk ?_ GE476.out))); replace BK474 := Za.mk (Zp (g := gb474) (o := .cells #[.int .i64 a0_0, .int .u16 a0_1, .int .u8 a0_2, .int .u8 a0_3, .int .u32 a0_4, .int .i64 a0_5] 69 (0, 0)) (by (with_reducible repeat first | apply Zg | apply Zf | apply Zh); refine Zt ?_ NB474_476.out _; (with_reducible repeat first | apply Zg | apply Zf | apply Zh); exact BK474.out) hb); replace BK475 := Za.mk (Zp (g := gb475) (o := .cells #[.int .u16 5, .int .u8 0, .int .u8 0, .int .u32 ((a1) % 4294967296)] 52 (0, 0)) (by (with_reducible repeat first | apply Zg | apply Zf | apply Zh); refine Zt ?_ NB475_476.out _; (with_reducible repeat first | apply Zg | apply Zf | apply Zh); exact BK475.out) hb); replace BK476 := Za.mk (Zp (g := gb476) (o := .cells #[.int .u16 a0_1, .int .u8 0, .int .u8 ((a1) % 256), .int .u32 a0_4] 52 (0, 0)) (by (with_reducible repeat first | apply Zg | apply Zf | apply Zh); refine Zw (cs := #[.int .u16 a0_1, .int .u8 0, .int .u8 0, .int .u32 a0_4]) ?_ 2 _ rfl; (with_reducible repeat first | apply Zg | apply Zf | apply Zh); exact BK476.out) hb); replace HB := Za.mk (Zo (by with_reducible repeat first | exact HB.out | apply Zc | apply Ze | apply Zd | refine Zk ?_ GE474.out | refine Zk ?_ GE475.out | refine Zk ?_ GE476.out) hb); clear hb ho70))
    go_ret
    exact ⟨_, by first | rfl | (simp [Zm, Zn] <;> rfl) | (simp [*, Zm, Zn] <;> rfl), by (with_reducible repeat (first | apply Kd.Zaa | apply Kd.Zy | apply Kd.Zz)); exact Kd.Zas HO491.out (fun _ hk => trivial), by with_reducible repeat first | exact HB.out | apply Zc | apply Ze | apply Zd | refine Zk ?_ GE474.out | refine Zk ?_ GE475.out | refine Zk ?_ GE476.out⟩
   rw [if_neg c63] at H
   have c63b0 : decide (a1 ≤ 255) = false := decide_eq_false c63
   clear c63
   obtain ⟨y492, hy492⟩ : ∃ y_ : List (S52), y_ = (([(⟨a0_1, 1, 0, a0_4⟩ : S52), (⟨5, 0, 0, ((a1) % 4294967296)⟩ : S52)] : List (S52))) := ⟨_, rfl⟩
   replace H : (some y492) = some r := by first | (rw [hy492]; with_reducible exact H) | (have H2_ := (Option.bind_some _ _).symm.trans H; rw [hy492]; with_reducible exact H2_) | (have H2_ := (Option.bind_some _ _).symm.trans H; with_reducible exact H2_) | with_reducible exact H | (rw [hy492]; exact H) | exact H
   have Ny492 := Za.mk hy492
   clear hy492
   obtain rfl := Option.some.inj H
   have hnb71 := NB474_475.out
   have hnc71 := NB475_474.out
   have hnb72 := NB474_476.out
   have hnc72 := NB476_474.out
   have hcz73_0 : wc.cell? ⟨gb474, 0, none⟩ = some (.int .i64 a0_0) := (Zb BK474.out 0).trans rfl
   have hcz73_1 : wc.cell? ⟨gb474, 1, none⟩ = some (.int .u16 a0_1) := (Zb BK474.out 1).trans rfl
   have hcz73_2 : wc.cell? ⟨gb474, 2, none⟩ = some (.int .u8 a0_2) := (Zb BK474.out 2).trans rfl
   have hcz73_3 : wc.cell? ⟨gb474, 3, none⟩ = some (.int .u8 a0_3) := (Zb BK474.out 3).trans rfl
   have hcz73_4 : wc.cell? ⟨gb474, 4, none⟩ = some (.int .u32 a0_4) := (Zb BK474.out 4).trans rfl
   have hcz73_5 : wc.cell? ⟨gb474, 5, none⟩ = some (.int .i64 a0_5) := (Zb BK474.out 5).trans rfl
   have hfz73_0 := Zj BK474.out 0
   have hfz73_1 := Zj BK474.out 1
   have hfz73_2 := Zj BK474.out 2
   have hfz73_3 := Zj BK474.out 3
   have hfz73_4 := Zj BK474.out 4
   have hfz73_5 := Zj BK474.out 5
   have hnb74 := NB476_475.out
   have hnc74 := NB475_476.out
   have hcz75_0 : wc.cell? ⟨gb476, 0, none⟩ = some (.int .u16 a0_1) := (Zb BK476.out 0).trans rfl
   have hcz75_1 : wc.cell? ⟨gb476, 1, none⟩ = some (.int .u8 0) := (Zb BK476.out 1).trans rfl
   have hcz75_2 : wc.cell? ⟨gb476, 2, none⟩ = some (.int .u8 0) := (Zb BK476.out 2).trans rfl
   have hcz75_3 : wc.cell? ⟨gb476, 3, none⟩ = some (.int .u32 a0_4) := (Zb BK476.out 3).trans rfl
   have hfz75_0 := Zj BK476.out 0
   have hfz75_1 := Zj BK476.out 1
   have hfz75_2 := Zj BK476.out 2
   have hfz75_3 := Zj BK476.out 3
   have hcz76_0 : wc.cell? ⟨gb475, 0, none⟩ = some (.int .u16 5) := (Zb BK475.out 0).trans rfl
   have hcz76_1 : wc.cell? ⟨gb475, 1, none⟩ = some (.int .u8 0) := (Zb BK475.out 1).trans rfl
   have hcz76_2 : wc.cell? ⟨gb475, 2, none⟩ = some (.int .u8 0) := (Zb BK475.out 2).trans rfl
   have hcz76_3 : wc.cell? ⟨gb475, 3, none⟩ = some (.int .u32 ((a1) % 4294967296)) := (Zb BK475.out 3).trans rfl
   have hfz76_0 := Zj BK475.out 0
   have hfz76_1 := Zj BK475.out 1
   have hfz76_2 := Zj BK475.out 2
   have hfz76_3 := Zj BK475.out 3
   go_wp2_with (first | ((with_reducible refine Zab (N := 62) rfl ?_); refine Kd.R_lit k52 _ 52 ?hg (N := 62) ?hd (xs := ([(⟨a0_1, 1, 0, a0_4⟩ : S52), (⟨5, 0, 0, ((a1) % 4294967296)⟩ : S52)] : List (S52))) (inner := [.int .u16 a0_1, .int .u8 1, .int .u8 0, .int .u32 a0_4, .int .u16 5, .int .u8 0, .int .u8 0, .int .u32 ((a1) % 4294967296)]) (ok := fun _ => True) (okp := fun _ => True) ?hr ?hp (fun _ hk => hk) trivial (Below.refl _ _) (Nat.le_refl _) (by simp) ?_; (case hd => rfl); (case hg => rfl); (case hr => go_simp <;> rfl); (case hp => exact (Reps.c4 (show Kd.M k52 _ _ _ (⟨a0_1, 1, 0, a0_4⟩ : S52) [.int .u16 a0_1, .int .u8 1, .int .u8 0, .int .u32 a0_4] from (k52_mkM _ _ _ (⟨a0_1, 1, 0, a0_4⟩ : S52) )) (Reps.c4 (show Kd.M k52 _ _ _ (⟨5, 0, 0, ((a1) % 4294967296)⟩ : S52) [.int .u16 5, .int .u8 0, .int .u8 0, .int .u32 ((a1) % 4294967296)] from (k52_mkM _ _ _ (⟨5, 0, 0, ((a1) % 4294967296)⟩ : S52) )) (Reps.none _ _)))); intro v493 w77 ho78 hb hg_ hnew_; clear hg_ hnew_; (first | rw [← Ny492.out] at ho78 | (simp only [Int.reduceToNat] at ho78; rw [← Ny492.out] at ho78)); have HO494 := Za.mk (Kd.Zbk (Kd.R_newB (Kd.R_newB ho78 (g := gb475) (o := .cells #[.int .u16 5, .int .u8 0, .int .u8 0, .int .u32 ((a1) % 4294967296)] 52 (0, 0)) (by (with_reducible repeat first | apply Zg | apply Zf | apply Zh); refine Zt ?_ NB475_476.out _; (with_reducible repeat first | apply Zg | apply Zf | apply Zh); exact BK475.out)) (g := gb476) (o := .cells #[.int .u16 a0_1, .int .u8 1, .int .u8 0, .int .u32 a0_4] 52 (0, 0)) (by (with_reducible repeat first | apply Zg | apply Zf | apply Zh); refine Zw (cs := #[.int .u16 a0_1, .int .u8 0, .int .u8 0, .int .u32 a0_4]) ?_ 1 _ rfl; (with_reducible repeat first | apply Zg | apply Zf | apply Zh); exact BK476.out)) (Zl (by with_reducible repeat first | exact HB.out | apply Zc | apply Ze | apply Zd | refine Zk ?_ GE474.out | refine Zk ?_ GE475.out | refine Zk ?_ GE476.out))); replace BK474 := Za.mk (Zp (g := gb474) (o := .cells #[.int .i64 a0_0, .int .u16 a0_1, .int .u8 a0_2, .int .u8 a0_3, .int .u32 a0_4, .int .i64 a0_5] 69 (0, 0)) (by (with_reducible repeat first | apply Zg | apply Zf | apply Zh); refine Zt ?_ NB474_476.out _; (with_reducible repeat first | apply Zg | apply Zf | apply Zh); exact BK474.out) hb); replace BK475 := Za.mk (Zp (g := gb475) (o := .cells #[.int .u16 5, .int .u8 0, .int .u8 0, .int .u32 ((a1) % 4294967296)] 52 (0, 0)) (by (with_reducible repeat first | apply Zg | apply Zf | apply Zh); refine Zt ?_ NB475_476.out _; (with_reducible repeat first | apply Zg | apply Zf | apply Zh); exact BK475.out) hb); replace BK476 := Za.mk (Zp (g := gb476) (o := .cells #[.int .u16 a0_1, .int .u8 1, .int .u8 0, .int .u32 a0_4] 52 (0, 0)) (by (with_reducible repeat first | apply Zg | apply Zf | apply Zh); refine Zw (cs := #[.int .u16 a0_1, .int .u8 0, .int .u8 0, .int .u32 a0_4]) ?_ 1 _ rfl; (with_reducible repeat first | apply Zg | apply Zf | apply Zh); exact BK476.out) hb); replace HB := Za.mk (Zo (by with_reducible repeat first | exact HB.out | apply Zc | apply Ze | apply Zd | refine Zk ?_ GE474.out | refine Zk ?_ GE475.out | refine Zk ?_ GE476.out) hb); clear hb ho78))
   go_ret
   exact ⟨_, by first | rfl | (simp [Zm, Zn] <;> rfl) | (simp [*, Zm, Zn] <;> rfl), by (with_reducible repeat (first | apply Kd.Zaa | apply Kd.Zy | apply Kd.Zz)); exact Kd.Zas HO494.out (fun _ hk => trivial), by with_reducible repeat first | exact HB.out | apply Zc | apply Ze | apply Zd | refine Zk ?_ GE474.out | refine Zk ?_ GE475.out | refine Zk ?_ GE476.out⟩

end Go.Proofs.Ytgmbahldjiiajaa.P
