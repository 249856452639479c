import Derived.Test.YtgmbahldjiiajaaGFnExactCompile4
import Derived.Test.YtgmbahldjiiajaaGFnExactCompile5
import Derived.Carry
import Derived.Deep.Cut
import Derived.Deep.LoopGhost
namespace Go.Proofs.Ytgmbahldjiiajaa.P
open Go.RowKit Go.Proofs.YtgmbahldjiiajaaW.PrintWords Go.Proofs.YtgmbahldjiiajaaW.PrintLast Go.Proofs.YtgmbahldjiiajaaW.PrintMore
attribute [local go_sem] max2_int min2_int max_two min_two max_three min_three max_four min_four
set_option linter.unusedVariables false
set_option linter.unusedSimpArgs false

def Zcm.f (k : Nat) (a0_0 : Int) (a0_1 : Int) (a0_2 : Int) (a0_3 : Int) (a0_4 : Int) (a0_5 : Int) : Option (Bool) := if a0_0 = 0 then ((Zap.f k a0_1).bind fun t473 => (if t473 = 1 then (some true) else (some (t473 == 4)))) else (if a0_0 = 1 then (if a0_1 = 21 then (some true) else (if a0_1 = 37 then (some true) else (if a0_1 = 53 then (some true) else (some (a0_1 == 69))))) else (if a0_0 = 2 then (if a0_1 = 21 then (some true) else (if a0_1 = 37 then (some true) else (if a0_1 = 53 then (some true) else (some (a0_1 == 69))))) else (if a0_0 = 3 then (some true) else (some (a0_0 == 4)))))
set_option maxHeartbeats 8000000 in
set_option maxRecDepth 100000 in
theorem Zcm.calls (k : Nat) (a0_0 : Int) (a0_1 : Int) (a0_2 : Int) (a0_3 : Int) (a0_4 : Int) (a0_5 : Int) (r : Bool) (w : World) (h : Zcm.f k a0_0 a0_1 a0_2 a0_3 a0_4 a0_5 = some r) :
  Calls Try.prog 46 #[.agg #[.int .i64 a0_0, .int .u16 a0_1, .int .u8 a0_2, .int .u8 a0_3, .int .u32 a0_4, .int .i64 a0_5]] w fun e w' => e = .returned (.bool r) ∧ Below w.heap.size w w' := by
 have hu69 := Try.underlying69
 have HB := Za.mk (Below.refl w.heap.size w)
 have H := h
 unfold Zcm.f at H
 clear h
 by_cases c2 : a0_0 = 0
 ·rw [if_pos c2] at H
  have c2b0 : (a0_0 == 0) = true := beq_iff_eq.mpr c2
  have c2b1 : (a0_0 != 0) = false := bne_eq_false_iff_eq.mpr c2
  clear c2
  replace H := Option.bind_eq_some_iff.mp H
  obtain ⟨t473, A30, H⟩ := H
  replace H : (if t473 = 1 then (some true) else (some (t473 == 4))) = some r := H
  have A3 := Za.mk A30
  clear A30
  by_cases c4 : t473 = 1
  ·rw [if_pos c4] at H
   have c4b0 : (t473 == 1) = true := beq_iff_eq.mpr c4
   have c4b1 : (t473 != 1) = false := bne_eq_false_iff_eq.mpr c4
   clear c4
   obtain rfl := Option.some.inj H
   go_enter Try.func46, Try.ntmps46
   go_wp2_with (first | ((with_reducible refine Zab (N := 1) rfl ?_); refine Zac ?hg (N := 1) ?hd (cs := #[.int .i64 a0_0, .int .u16 a0_1, .int .u8 a0_2, .int .u8 a0_3, .int .u32 a0_4, .int .i64 a0_5]) (t := 69) ?hr ?_; (case hd => rfl); (case hg => rfl); (case hr => go_simp <;> rfl); intro gb472 hg w5 hbox hb; have BK472 := Za.mk (hbox); have GW472 := Za.mk ((by rw [hg]; exact (Zl (by with_reducible repeat first | exact HB.out | apply Zc | apply Ze | apply Zd)) : w.heap.size ≤ gb472)); have GE472 := Za.mk ((by rw [hg]; exact (Zl (by with_reducible repeat first | exact HB.out | apply Zc | apply Ze | apply Zd)) : w.heap.size ≤ gb472)); replace HB := Za.mk (Zo (by with_reducible repeat first | exact HB.out | apply Zc | apply Ze | apply Zd) hb); clear hb hbox hg; have hcz6_0 : w5.cell? ⟨gb472, 0, none⟩ = some (.int .i64 a0_0) := (Zb BK472.out 0).trans rfl; have hcz6_1 : w5.cell? ⟨gb472, 1, none⟩ = some (.int .u16 a0_1) := (Zb BK472.out 1).trans rfl; have hcz6_2 : w5.cell? ⟨gb472, 2, none⟩ = some (.int .u8 a0_2) := (Zb BK472.out 2).trans rfl; have hcz6_3 : w5.cell? ⟨gb472, 3, none⟩ = some (.int .u8 a0_3) := (Zb BK472.out 3).trans rfl; have hcz6_4 : w5.cell? ⟨gb472, 4, none⟩ = some (.int .u32 a0_4) := (Zb BK472.out 4).trans rfl; have hcz6_5 : w5.cell? ⟨gb472, 5, none⟩ = some (.int .i64 a0_5) := (Zb BK472.out 5).trans rfl; have hfz6_0 := Zj BK472.out 0; have hfz6_1 := Zj BK472.out 1; have hfz6_2 := Zj BK472.out 2; have hfz6_3 := Zj BK472.out 3; have hfz6_4 := Zj BK472.out 4; have hfz6_5 := Zj BK472.out 5) | ((with_reducible refine Zaj (f := 61) rfl ?_); refine Zai (some 11) rfl rfl Try.func61 (by kernel_rfl) rfl #[.int .u16 a0_1] rfl (by (try simp only [ZA, ZB, ZC]); first | done | rfl) ?_; (with_reducible refine (Zap.calls k a0_1 t473 _ A3.out).mono ?_); rintro e w' ⟨rfl, ⟨nd, rfl⟩⟩; refine ⟨_, rfl, ?_⟩))
   go_ret
   exact ⟨by first | rfl | (simp [Zm, Zn] <;> rfl) | (simp [*, Zm, Zn] <;> rfl), by with_reducible repeat first | exact HB.out | apply Zc | apply Ze | apply Zd | refine Zk ?_ GE472.out⟩
  rw [if_neg c4] at H
  have c4b0 : (t473 == 1) = false := beq_eq_false_iff_ne.mpr c4
  have c4b1 : (t473 != 1) = true := bne_iff_ne.mpr c4
  obtain rfl := Option.some.inj H
  go_enter Try.func46, Try.ntmps46
  go_wp2_with (first | ((with_reducible refine Zab (N := 1) rfl ?_); refine Zac ?hg (N := 1) ?hd (cs := #[.int .i64 a0_0, .int .u16 a0_1, .int .u8 a0_2, .int .u8 a0_3, .int .u32 a0_4, .int .i64 a0_5]) (t := 69) ?hr ?_; (case hd => rfl); (case hg => rfl); (case hr => go_simp <;> rfl); intro gb472 hg w7 hbox hb; have BK472 := Za.mk (hbox); have GW472 := Za.mk ((by rw [hg]; exact (Zl (by with_reducible repeat first | exact HB.out | apply Zc | apply Ze | apply Zd)) : w.heap.size ≤ gb472)); have GE472 := Za.mk ((by rw [hg]; exact (Zl (by with_reducible repeat first | exact HB.out | apply Zc | apply Ze | apply Zd)) : w.heap.size ≤ gb472)); replace HB := Za.mk (Zo (by with_reducible repeat first | exact HB.out | apply Zc | apply Ze | apply Zd) hb); clear hb hbox hg; have hcz8_0 : w7.cell? ⟨gb472, 0, none⟩ = some (.int .i64 a0_0) := (Zb BK472.out 0).trans rfl; have hcz8_1 : w7.cell? ⟨gb472, 1, none⟩ = some (.int .u16 a0_1) := (Zb BK472.out 1).trans rfl; have hcz8_2 : w7.cell? ⟨gb472, 2, none⟩ = some (.int .u8 a0_2) := (Zb BK472.out 2).trans rfl; have hcz8_3 : w7.cell? ⟨gb472, 3, none⟩ = some (.int .u8 a0_3) := (Zb BK472.out 3).trans rfl; have hcz8_4 : w7.cell? ⟨gb472, 4, none⟩ = some (.int .u32 a0_4) := (Zb BK472.out 4).trans rfl; have hcz8_5 : w7.cell? ⟨gb472, 5, none⟩ = some (.int .i64 a0_5) := (Zb BK472.out 5).trans rfl; have hfz8_0 := Zj BK472.out 0; have hfz8_1 := Zj BK472.out 1; have hfz8_2 := Zj BK472.out 2; have hfz8_3 := Zj BK472.out 3; have hfz8_4 := Zj BK472.out 4; have hfz8_5 := Zj BK472.out 5) | ((with_reducible refine Zaj (f := 61) rfl ?_); refine Zai (some 11) rfl rfl Try.func61 (by kernel_rfl) rfl #[.int .u16 a0_1] rfl (by (try simp only [ZA, ZB, ZC]); first | done | rfl) ?_; (with_reducible refine (Zap.calls k a0_1 t473 _ A3.out).mono ?_); rintro e w' ⟨rfl, ⟨nd, rfl⟩⟩; refine ⟨_, rfl, ?_⟩))
  go_ret
  exact ⟨by first | rfl | (simp [Zm, Zn] <;> rfl) | (simp [*, Zm, Zn] <;> rfl), by with_reducible repeat first | exact HB.out | apply Zc | apply Ze | apply Zd | refine Zk ?_ GE472.out⟩
 rw [if_neg c2] at H
 have c2b0 : (a0_0 == 0) = false := beq_eq_false_iff_ne.mpr c2
 have c2b1 : (a0_0 != 0) = true := bne_iff_ne.mpr c2
 by_cases c9 : a0_0 = 1
 ·rw [if_pos c9] at H
  have c9b0 : (a0_0 == 1) = true := beq_iff_eq.mpr c9
  have c9b1 : (a0_0 != 1) = false := bne_eq_false_iff_eq.mpr c9
  clear c9
  by_cases c10 : a0_1 = 21
  ·rw [if_pos c10] at H
   have c10b0 : (a0_1 == 21) = true := beq_iff_eq.mpr c10
   have c10b1 : (a0_1 != 21) = false := bne_eq_false_iff_eq.mpr c10
   clear c10
   obtain rfl := Option.some.inj H
   go_enter Try.func46, Try.ntmps46
   go_wp2_with (first | ((with_reducible refine Zab (N := 1) rfl ?_); refine Zac ?hg (N := 1) ?hd (cs := #[.int .i64 a0_0, .int .u16 a0_1, .int .u8 a0_2, .int .u8 a0_3, .int .u32 a0_4, .int .i64 a0_5]) (t := 69) ?hr ?_; (case hd => rfl); (case hg => rfl); (case hr => go_simp <;> rfl); intro gb472 hg w11 hbox hb; have BK472 := Za.mk (hbox); have GW472 := Za.mk ((by rw [hg]; exact (Zl (by with_reducible repeat first | exact HB.out | apply Zc | apply Ze | apply Zd)) : w.heap.size ≤ gb472)); have GE472 := Za.mk ((by rw [hg]; exact (Zl (by with_reducible repeat first | exact HB.out | apply Zc | apply Ze | apply Zd)) : w.heap.size ≤ gb472)); replace HB := Za.mk (Zo (by with_reducible repeat first | exact HB.out | apply Zc | apply Ze | apply Zd) hb); clear hb hbox hg; have hcz12_0 : w11.cell? ⟨gb472, 0, none⟩ = some (.int .i64 a0_0) := (Zb BK472.out 0).trans rfl; have hcz12_1 : w11.cell? ⟨gb472, 1, none⟩ = some (.int .u16 a0_1) := (Zb BK472.out 1).trans rfl; have hcz12_2 : w11.cell? ⟨gb472, 2, none⟩ = some (.int .u8 a0_2) := (Zb BK472.out 2).trans rfl; have hcz12_3 : w11.cell? ⟨gb472, 3, none⟩ = some (.int .u8 a0_3) := (Zb BK472.out 3).trans rfl; have hcz12_4 : w11.cell? ⟨gb472, 4, none⟩ = some (.int .u32 a0_4) := (Zb BK472.out 4).trans rfl; have hcz12_5 : w11.cell? ⟨gb472, 5, none⟩ = some (.int .i64 a0_5) := (Zb BK472.out 5).trans rfl; have hfz12_0 := Zj BK472.out 0; have hfz12_1 := Zj BK472.out 1; have hfz12_2 := Zj BK472.out 2; have hfz12_3 := Zj BK472.out 3; have hfz12_4 := Zj BK472.out 4; have hfz12_5 := Zj BK472.out 5))
   go_ret
   exact ⟨by first | rfl | (simp [Zm, Zn] <;> rfl) | (simp [*, Zm, Zn] <;> rfl), by with_reducible repeat first | exact HB.out | apply Zc | apply Ze | apply Zd | refine Zk ?_ GE472.out⟩
  rw [if_neg c10] at H
  have c10b0 : (a0_1 == 21) = false := beq_eq_false_iff_ne.mpr c10
  have c10b1 : (a0_1 != 21) = true := bne_iff_ne.mpr c10
  by_cases c13 : a0_1 = 37
  ·rw [if_pos c13] at H
   have c13b0 : (a0_1 == 37) = true := beq_iff_eq.mpr c13
   have c13b1 : (a0_1 != 37) = false := bne_eq_false_iff_eq.mpr c13
   clear c13
   obtain rfl := Option.some.inj H
   go_enter Try.func46, Try.ntmps46
   go_wp2_with (first | ((with_reducible refine Zab (N := 1) rfl ?_); refine Zac ?hg (N := 1) ?hd (cs := #[.int .i64 a0_0, .int .u16 a0_1, .int .u8 a0_2, .int .u8 a0_3, .int .u32 a0_4, .int .i64 a0_5]) (t := 69) ?hr ?_; (case hd => rfl); (case hg => rfl); (case hr => go_simp <;> rfl); intro gb472 hg w14 hbox hb; have BK472 := Za.mk (hbox); have GW472 := Za.mk ((by rw [hg]; exact (Zl (by with_reducible repeat first | exact HB.out | apply Zc | apply Ze | apply Zd)) : w.heap.size ≤ gb472)); have GE472 := Za.mk ((by rw [hg]; exact (Zl (by with_reducible repeat first | exact HB.out | apply Zc | apply Ze | apply Zd)) : w.heap.size ≤ gb472)); replace HB := Za.mk (Zo (by with_reducible repeat first | exact HB.out | apply Zc | apply Ze | apply Zd) hb); clear hb hbox hg; have hcz15_0 : w14.cell? ⟨gb472, 0, none⟩ = some (.int .i64 a0_0) := (Zb BK472.out 0).trans rfl; have hcz15_1 : w14.cell? ⟨gb472, 1, none⟩ = some (.int .u16 a0_1) := (Zb BK472.out 1).trans rfl; have hcz15_2 : w14.cell? ⟨gb472, 2, none⟩ = some (.int .u8 a0_2) := (Zb BK472.out 2).trans rfl; have hcz15_3 : w14.cell? ⟨gb472, 3, none⟩ = some (.int .u8 a0_3) := (Zb BK472.out 3).trans rfl; have hcz15_4 : w14.cell? ⟨gb472, 4, none⟩ = some (.int .u32 a0_4) := (Zb BK472.out 4).trans rfl; have hcz15_5 : w14.cell? ⟨gb472, 5, none⟩ = some (.int .i64 a0_5) := (Zb BK472.out 5).trans rfl; have hfz15_0 := Zj BK472.out 0; have hfz15_1 := Zj BK472.out 1; have hfz15_2 := Zj BK472.out 2; have hfz15_3 := Zj BK472.out 3; have hfz15_4 := Zj BK472.out 4; have hfz15_5 := Zj BK472.out 5))
   go_ret
   exact ⟨by first | rfl | (simp [Zm, Zn] <;> rfl) | (simp [*, Zm, Zn] <;> rfl), by with_reducible repeat first | exact HB.out | apply Zc | apply Ze | apply Zd | refine Zk ?_ GE472.out⟩
  rw [if_neg c13] at H
  have c13b0 : (a0_1 == 37) = false := beq_eq_false_iff_ne.mpr c13
  have c13b1 : (a0_1 != 37) = true := bne_iff_ne.mpr c13
  by_cases c16 : a0_1 = 53
  ·rw [if_pos c16] at H
   have c16b0 : (a0_1 == 53) = true := beq_iff_eq.mpr c16
   have c16b1 : (a0_1 != 53) = false := bne_eq_false_iff_eq.mpr c16
   clear c16
   obtain rfl := Option.some.inj H
   go_enter Try.func46, Try.ntmps46
   go_wp2_with (first | ((with_reducible refine Zab (N := 1) rfl ?_); refine Zac ?hg (N := 1) ?hd (cs := #[.int .i64 a0_0, .int .u16 a0_1, .int .u8 a0_2, .int .u8 a0_3, .int .u32 a0_4, .int .i64 a0_5]) (t := 69) ?hr ?_; (case hd => rfl); (case hg => rfl); (case hr => go_simp <;> rfl); intro gb472 hg w17 hbox hb; have BK472 := Za.mk (hbox); have GW472 := Za.mk ((by rw [hg]; exact (Zl (by with_reducible repeat first | exact HB.out | apply Zc | apply Ze | apply Zd)) : w.heap.size ≤ gb472)); have GE472 := Za.mk ((by rw [hg]; exact (Zl (by with_reducible repeat first | exact HB.out | apply Zc | apply Ze | apply Zd)) : w.heap.size ≤ gb472)); replace HB := Za.mk (Zo (by with_reducible repeat first | exact HB.out | apply Zc | apply Ze | apply Zd) hb); clear hb hbox hg; have hcz18_0 : w17.cell? ⟨gb472, 0, none⟩ = some (.int .i64 a0_0) := (Zb BK472.out 0).trans rfl; have hcz18_1 : w17.cell? ⟨gb472, 1, none⟩ = some (.int .u16 a0_1) := (Zb BK472.out 1).trans rfl; have hcz18_2 : w17.cell? ⟨gb472, 2, none⟩ = some (.int .u8 a0_2) := (Zb BK472.out 2).trans rfl; have hcz18_3 : w17.cell? ⟨gb472, 3, none⟩ = some (.int .u8 a0_3) := (Zb BK472.out 3).trans rfl; have hcz18_4 : w17.cell? ⟨gb472, 4, none⟩ = some (.int .u32 a0_4) := (Zb BK472.out 4).trans rfl; have hcz18_5 : w17.cell? ⟨gb472, 5, none⟩ = some (.int .i64 a0_5) := (Zb BK472.out 5).trans rfl; have hfz18_0 := Zj BK472.out 0; have hfz18_1 := Zj BK472.out 1; have hfz18_2 := Zj BK472.out 2; have hfz18_3 := Zj BK472.out 3; have hfz18_4 := Zj BK472.out 4; have hfz18_5 := Zj BK472.out 5))
   go_ret
   exact ⟨by first | rfl | (simp [Zm, Zn] <;> rfl) | (simp [*, Zm, Zn] <;> rfl), by with_reducible repeat first | exact HB.out | apply Zc | apply Ze | apply Zd | refine Zk ?_ GE472.out⟩
  rw [if_neg c16] at H
  have c16b0 : (a0_1 == 53) = false := beq_eq_false_iff_ne.mpr c16
  have c16b1 : (a0_1 != 53) = true := bne_iff_ne.mpr c16
  obtain rfl := Option.some.inj H
  go_enter Try.func46, Try.ntmps46
  go_wp2_with (first | ((with_reducible refine Zab (N := 1) rfl ?_); refine Zac ?hg (N := 1) ?hd (cs := #[.int .i64 a0_0, .int .u16 a0_1, .int .u8 a0_2, .int .u8 a0_3, .int .u32 a0_4, .int .i64 a0_5]) (t := 69) ?hr ?_; (case hd => rfl); (case hg => rfl); (case hr => go_simp <;> rfl); intro gb472 hg w19 hbox hb; have BK472 := Za.mk (hbox); have GW472 := Za.mk ((by rw [hg]; exact (Zl (by with_reducible repeat first | exact HB.out | apply Zc | apply Ze | apply Zd)) : w.heap.size ≤ gb472)); have GE472 := Za.mk ((by rw [hg]; exact (Zl (by with_reducible repeat first | exact HB.out | apply Zc | apply Ze | apply Zd)) : w.heap.size ≤ gb472)); replace HB := Za.mk (Zo (by with_reducible repeat first | exact HB.out | apply Zc | apply Ze | apply Zd) hb); clear hb hbox hg; have hcz20_0 : w19.cell? ⟨gb472, 0, none⟩ = some (.int .i64 a0_0) := (Zb BK472.out 0).trans rfl; have hcz20_1 : w19.cell? ⟨gb472, 1, none⟩ = some (.int .u16 a0_1) := (Zb BK472.out 1).trans rfl; have hcz20_2 : w19.cell? ⟨gb472, 2, none⟩ = some (.int .u8 a0_2) := (Zb BK472.out 2).trans rfl; have hcz20_3 : w19.cell? ⟨gb472, 3, none⟩ = some (.int .u8 a0_3) := (Zb BK472.out 3).trans rfl; have hcz20_4 : w19.cell? ⟨gb472, 4, none⟩ = some (.int .u32 a0_4) := (Zb BK472.out 4).trans rfl; have hcz20_5 : w19.cell? ⟨gb472, 5, none⟩ = some (.int .i64 a0_5) := (Zb BK472.out 5).trans rfl; have hfz20_0 := Zj BK472.out 0; have hfz20_1 := Zj BK472.out 1; have hfz20_2 := Zj BK472.out 2; have hfz20_3 := Zj BK472.out 3; have hfz20_4 := Zj BK472.out 4; have hfz20_5 := Zj BK472.out 5))
  go_ret
  exact ⟨by first | rfl | (simp [Zm, Zn] <;> rfl) | (simp [*, Zm, Zn] <;> rfl), by with_reducible repeat first | exact HB.out | apply Zc | apply Ze | apply Zd | refine Zk ?_ GE472.out⟩
 rw [if_neg c9] at H
 have c9b0 : (a0_0 == 1) = false := beq_eq_false_iff_ne.mpr c9
 have c9b1 : (a0_0 != 1) = true := bne_iff_ne.mpr c9
 by_cases c21 : a0_0 = 2
 ·rw [if_pos c21] at H
  have c21b0 : (a0_0 == 2) = true := beq_iff_eq.mpr c21
  have c21b1 : (a0_0 != 2) = false := bne_eq_false_iff_eq.mpr c21
  clear c21
  by_cases c22 : a0_1 = 21
  ·rw [if_pos c22] at H
   have c22b0 : (a0_1 == 21) = true := beq_iff_eq.mpr c22
   have c22b1 : (a0_1 != 21) = false := bne_eq_false_iff_eq.mpr c22
   clear c22
   obtain rfl := Option.some.inj H
   go_enter Try.func46, Try.ntmps46
   go_wp2_with (first | ((with_reducible refine Zab (N := 1) rfl ?_); refine Zac ?hg (N := 1) ?hd (cs := #[.int .i64 a0_0, .int .u16 a0_1, .int .u8 a0_2, .int .u8 a0_3, .int .u32 a0_4, .int .i64 a0_5]) (t := 69) ?hr ?_; (case hd => rfl); (case hg => rfl); (case hr => go_simp <;> rfl); intro gb472 hg w23 hbox hb; have BK472 := Za.mk (hbox); have GW472 := Za.mk ((by rw [hg]; exact (Zl (by with_reducible repeat first | exact HB.out | apply Zc | apply Ze | apply Zd)) : w.heap.size ≤ gb472)); have GE472 := Za.mk ((by rw [hg]; exact (Zl (by with_reducible repeat first | exact HB.out | apply Zc | apply Ze | apply Zd)) : w.heap.size ≤ gb472)); replace HB := Za.mk (Zo (by with_reducible repeat first | exact HB.out | apply Zc | apply Ze | apply Zd) hb); clear hb hbox hg; have hcz24_0 : w23.cell? ⟨gb472, 0, none⟩ = some (.int .i64 a0_0) := (Zb BK472.out 0).trans rfl; have hcz24_1 : w23.cell? ⟨gb472, 1, none⟩ = some (.int .u16 a0_1) := (Zb BK472.out 1).trans rfl; have hcz24_2 : w23.cell? ⟨gb472, 2, none⟩ = some (.int .u8 a0_2) := (Zb BK472.out 2).trans rfl; have hcz24_3 : w23.cell? ⟨gb472, 3, none⟩ = some (.int .u8 a0_3) := (Zb BK472.out 3).trans rfl; have hcz24_4 : w23.cell? ⟨gb472, 4, none⟩ = some (.int .u32 a0_4) := (Zb BK472.out 4).trans rfl; have hcz24_5 : w23.cell? ⟨gb472, 5, none⟩ = some (.int .i64 a0_5) := (Zb BK472.out 5).trans rfl; have hfz24_0 := Zj BK472.out 0; have hfz24_1 := Zj BK472.out 1; have hfz24_2 := Zj BK472.out 2; have hfz24_3 := Zj BK472.out 3; have hfz24_4 := Zj BK472.out 4; have hfz24_5 := Zj BK472.out 5))
   go_ret
   exact ⟨by first | rfl | (simp [Zm, Zn] <;> rfl) | (simp [*, Zm, Zn] <;> rfl), by with_reducible repeat first | exact HB.out | apply Zc | apply Ze | apply Zd | refine Zk ?_ GE472.out⟩
  rw [if_neg c22] at H
  have c22b0 : (a0_1 == 21) = false := beq_eq_false_iff_ne.mpr c22
  have c22b1 : (a0_1 != 21) = true := bne_iff_ne.mpr c22
  by_cases c25 : a0_1 = 37
  ·rw [if_pos c25] at H
   have c25b0 : (a0_1 == 37) = true := beq_iff_eq.mpr c25
   have c25b1 : (a0_1 != 37) = false := bne_eq_false_iff_eq.mpr c25
   clear c25
   obtain rfl := Option.some.inj H
   go_enter Try.func46, Try.ntmps46
   go_wp2_with (first | ((with_reducible refine Zab (N := 1) rfl ?_); refine Zac ?hg (N := 1) ?hd (cs := #[.int .i64 a0_0, .int .u16 a0_1, .int .u8 a0_2, .int .u8 a0_3, .int .u32 a0_4, .int .i64 a0_5]) (t := 69) ?hr ?_; (case hd => rfl); (case hg => rfl); (case hr => go_simp <;> rfl); intro gb472 hg w26 hbox hb; have BK472 := Za.mk (hbox); have GW472 := Za.mk ((by rw [hg]; exact (Zl (by with_reducible repeat first | exact HB.out | apply Zc | apply Ze | apply Zd)) : w.heap.size ≤ gb472)); have GE472 := Za.mk ((by rw [hg]; exact (Zl (by with_reducible repeat first | exact HB.out | apply Zc | apply Ze | apply Zd)) : w.heap.size ≤ gb472)); replace HB := Za.mk (Zo (by with_reducible repeat first | exact HB.out | apply Zc | apply Ze | apply Zd) hb); clear hb hbox hg; have hcz27_0 : w26.cell? ⟨gb472, 0, none⟩ = some (.int .i64 a0_0) := (Zb BK472.out 0).trans rfl; have hcz27_1 : w26.cell? ⟨gb472, 1, none⟩ = some (.int .u16 a0_1) := (Zb BK472.out 1).trans rfl; have hcz27_2 : w26.cell? ⟨gb472, 2, none⟩ = some (.int .u8 a0_2) := (Zb BK472.out 2).trans rfl; have hcz27_3 : w26.cell? ⟨gb472, 3, none⟩ = some (.int .u8 a0_3) := (Zb BK472.out 3).trans rfl; have hcz27_4 : w26.cell? ⟨gb472, 4, none⟩ = some (.int .u32 a0_4) := (Zb BK472.out 4).trans rfl; have hcz27_5 : w26.cell? ⟨gb472, 5, none⟩ = some (.int .i64 a0_5) := (Zb BK472.out 5).trans rfl; have hfz27_0 := Zj BK472.out 0; have hfz27_1 := Zj BK472.out 1; have hfz27_2 := Zj BK472.out 2; have hfz27_3 := Zj BK472.out 3; have hfz27_4 := Zj BK472.out 4; have hfz27_5 := Zj BK472.out 5))
   go_ret
   exact ⟨by first | rfl | (simp [Zm, Zn] <;> rfl) | (simp [*, Zm, Zn] <;> rfl), by with_reducible repeat first | exact HB.out | apply Zc | apply Ze | apply Zd | refine Zk ?_ GE472.out⟩
  rw [if_neg c25] at H
  have c25b0 : (a0_1 == 37) = false := beq_eq_false_iff_ne.mpr c25
  have c25b1 : (a0_1 != 37) = true := bne_iff_ne.mpr c25
  by_cases c28 : a0_1 = 53
  ·rw [if_pos c28] at H
   have c28b0 : (a0_1 == 53) = true := beq_iff_eq.mpr c28
   have c28b1 : (a0_1 != 53) = false := bne_eq_false_iff_eq.mpr c28
   clear c28
   obtain rfl := Option.some.inj H
   go_enter Try.func46, Try.ntmps46
   go_wp2_with (first | ((with_reducible refine Zab (N := 1) rfl ?_); refine Zac ?hg (N := 1) ?hd (cs := #[.int .i64 a0_0, .int .u16 a0_1, .int .u8 a0_2, .int .u8 a0_3, .int .u32 a0_4, .int .i64 a0_5]) (t := 69) ?hr ?_; (case hd => rfl); (case hg => rfl); (case hr => go_simp <;> rfl); intro gb472 hg w29 hbox hb; have BK472 := Za.mk (hbox); have GW472 := Za.mk ((by rw [hg]; exact (Zl (by with_reducible repeat first | exact HB.out | apply Zc | apply Ze | apply Zd)) : w.heap.size ≤ gb472)); have GE472 := Za.mk ((by rw [hg]; exact (Zl (by with_reducible repeat first | exact HB.out | apply Zc | apply Ze | apply Zd)) : w.heap.size ≤ gb472)); replace HB := Za.mk (Zo (by with_reducible repeat first | exact HB.out | apply Zc | apply Ze | apply Zd) hb); clear hb hbox hg; have hcz30_0 : w29.cell? ⟨gb472, 0, none⟩ = some (.int .i64 a0_0) := (Zb BK472.out 0).trans rfl; have hcz30_1 : w29.cell? ⟨gb472, 1, none⟩ = some (.int .u16 a0_1) := (Zb BK472.out 1).trans rfl; have hcz30_2 : w29.cell? ⟨gb472, 2, none⟩ = some (.int .u8 a0_2) := (Zb BK472.out 2).trans rfl; have hcz30_3 : w29.cell? ⟨gb472, 3, none⟩ = some (.int .u8 a0_3) := (Zb BK472.out 3).trans rfl; have hcz30_4 : w29.cell? ⟨gb472, 4, none⟩ = some (.int .u32 a0_4) := (Zb BK472.out 4).trans rfl; have hcz30_5 : w29.cell? ⟨gb472, 5, none⟩ = some (.int .i64 a0_5) := (Zb BK472.out 5).trans rfl; have hfz30_0 := Zj BK472.out 0; have hfz30_1 := Zj BK472.out 1; have hfz30_2 := Zj BK472.out 2; have hfz30_3 := Zj BK472.out 3; have hfz30_4 := Zj BK472.out 4; have hfz30_5 := Zj BK472.out 5))
   go_ret
   exact ⟨by first | rfl | (simp [Zm, Zn] <;> rfl) | (simp [*, Zm, Zn] <;> rfl), by with_reducible repeat first | exact HB.out | apply Zc | apply Ze | apply Zd | refine Zk ?_ GE472.out⟩
  rw [if_neg c28] at H
  have c28b0 : (a0_1 == 53) = false := beq_eq_false_iff_ne.mpr c28
  have c28b1 : (a0_1 != 53) = true := bne_iff_ne.mpr c28
  obtain rfl := Option.some.inj H
  go_enter Try.func46, Try.ntmps46
  go_wp2_with (first | ((with_reducible refine Zab (N := 1) rfl ?_); refine Zac ?hg (N := 1) ?hd (cs := #[.int .i64 a0_0, .int .u16 a0_1, .int .u8 a0_2, .int .u8 a0_3, .int .u32 a0_4, .int .i64 a0_5]) (t := 69) ?hr ?_; (case hd => rfl); (case hg => rfl); (case hr => go_simp <;> rfl); intro gb472 hg w31 hbox hb; have BK472 := Za.mk (hbox); have GW472 := Za.mk ((by rw [hg]; exact (Zl (by with_reducible repeat first | exact HB.out | apply Zc | apply Ze | apply Zd)) : w.heap.size ≤ gb472)); have GE472 := Za.mk ((by rw [hg]; exact (Zl (by with_reducible repeat first | exact HB.out | apply Zc | apply Ze | apply Zd)) : w.heap.size ≤ gb472)); replace HB := Za.mk (Zo (by with_reducible repeat first | exact HB.out | apply Zc | apply Ze | apply Zd) hb); clear hb hbox hg; have hcz32_0 : w31.cell? ⟨gb472, 0, none⟩ = some (.int .i64 a0_0) := (Zb BK472.out 0).trans rfl; have hcz32_1 : w31.cell? ⟨gb472, 1, none⟩ = some (.int .u16 a0_1) := (Zb BK472.out 1).trans rfl; have hcz32_2 : w31.cell? ⟨gb472, 2, none⟩ = some (.int .u8 a0_2) := (Zb BK472.out 2).trans rfl; have hcz32_3 : w31.cell? ⟨gb472, 3, none⟩ = some (.int .u8 a0_3) := (Zb BK472.out 3).trans rfl; have hcz32_4 : w31.cell? ⟨gb472, 4, none⟩ = some (.int .u32 a0_4) := (Zb BK472.out 4).trans rfl; have hcz32_5 : w31.cell? ⟨gb472, 5, none⟩ = some (.int .i64 a0_5) := (Zb BK472.out 5).trans rfl; have hfz32_0 := Zj BK472.out 0; have hfz32_1 := Zj BK472.out 1; have hfz32_2 := Zj BK472.out 2; have hfz32_3 := Zj BK472.out 3; have hfz32_4 := Zj BK472.out 4; have hfz32_5 := Zj BK472.out 5))
  go_ret
  exact ⟨by first | rfl | (simp [Zm, Zn] <;> rfl) | (simp [*, Zm, Zn] <;> rfl), by with_reducible repeat first | exact HB.out | apply Zc | apply Ze | apply Zd | refine Zk ?_ GE472.out⟩
 rw [if_neg c21] at H
 have c21b0 : (a0_0 == 2) = false := beq_eq_false_iff_ne.mpr c21
 have c21b1 : (a0_0 != 2) = true := bne_iff_ne.mpr c21
 by_cases c33 : a0_0 = 3
 ·rw [if_pos c33] at H
  have c33b0 : (a0_0 == 3) = true := beq_iff_eq.mpr c33
  have c33b1 : (a0_0 != 3) = false := bne_eq_false_iff_eq.mpr c33
  clear c33
  obtain rfl := Option.some.inj H
  go_enter Try.func46, Try.ntmps46
  go_wp2_with (first | ((with_reducible refine Zab (N := 1) rfl ?_); refine Zac ?hg (N := 1) ?hd (cs := #[.int .i64 a0_0, .int .u16 a0_1, .int .u8 a0_2, .int .u8 a0_3, .int .u32 a0_4, .int .i64 a0_5]) (t := 69) ?hr ?_; (case hd => rfl); (case hg => rfl); (case hr => go_simp <;> rfl); intro gb472 hg w34 hbox hb; have BK472 := Za.mk (hbox); have GW472 := Za.mk ((by rw [hg]; exact (Zl (by with_reducible repeat first | exact HB.out | apply Zc | apply Ze | apply Zd)) : w.heap.size ≤ gb472)); have GE472 := Za.mk ((by rw [hg]; exact (Zl (by with_reducible repeat first | exact HB.out | apply Zc | apply Ze | apply Zd)) : w.heap.size ≤ gb472)); replace HB := Za.mk (Zo (by with_reducible repeat first | exact HB.out | apply Zc | apply Ze | apply Zd) hb); clear hb hbox hg; have hcz35_0 : w34.cell? ⟨gb472, 0, none⟩ = some (.int .i64 a0_0) := (Zb BK472.out 0).trans rfl; have hcz35_1 : w34.cell? ⟨gb472, 1, none⟩ = some (.int .u16 a0_1) := (Zb BK472.out 1).trans rfl; have hcz35_2 : w34.cell? ⟨gb472, 2, none⟩ = some (.int .u8 a0_2) := (Zb BK472.out 2).trans rfl; have hcz35_3 : w34.cell? ⟨gb472, 3, none⟩ = some (.int .u8 a0_3) := (Zb BK472.out 3).trans rfl; have hcz35_4 : w34.cell? ⟨gb472, 4, none⟩ = some (.int .u32 a0_4) := (Zb BK472.out 4).trans rfl; have hcz35_5 : w34.cell? ⟨gb472, 5, none⟩ = some (.int .i64 a0_5) := (Zb BK472.out 5).trans rfl; have hfz35_0 := Zj BK472.out 0; have hfz35_1 := Zj BK472.out 1; have hfz35_2 := Zj BK472.out 2; have hfz35_3 := Zj BK472.out 3; have hfz35_4 := Zj BK472.out 4; have hfz35_5 := Zj BK472.out 5))
  go_ret
  exact ⟨by first | rfl | (simp [Zm, Zn] <;> rfl) | (simp [*, Zm, Zn] <;> rfl), by with_reducible repeat first | exact HB.out | apply Zc | apply Ze | apply Zd | refine Zk ?_ GE472.out⟩
 rw [if_neg c33] at H
 have c33b0 : (a0_0 == 3) = false := beq_eq_false_iff_ne.mpr c33
 have c33b1 : (a0_0 != 3) = true := bne_iff_ne.mpr c33
 obtain rfl := Option.some.inj H
 go_enter Try.func46, Try.ntmps46
 go_wp2_with (first | ((with_reducible refine Zab (N := 1) rfl ?_); refine Zac ?hg (N := 1) ?hd (cs := #[.int .i64 a0_0, .int .u16 a0_1, .int .u8 a0_2, .int .u8 a0_3, .int .u32 a0_4, .int .i64 a0_5]) (t := 69) ?hr ?_; (case hd => rfl); (case hg => rfl); (case hr => go_simp <;> rfl); intro gb472 hg w36 hbox hb; have BK472 := Za.mk (hbox); have GW472 := Za.mk ((by rw [hg]; exact (Zl (by with_reducible repeat first | exact HB.out | apply Zc | apply Ze | apply Zd)) : w.heap.size ≤ gb472)); have GE472 := Za.mk ((by rw [hg]; exact (Zl (by with_reducible repeat first | exact HB.out | apply Zc | apply Ze | apply Zd)) : w.heap.size ≤ gb472)); replace HB := Za.mk (Zo (by with_reducible repeat first | exact HB.out | apply Zc | apply Ze | apply Zd) hb); clear hb hbox hg; have hcz37_0 : w36.cell? ⟨gb472, 0, none⟩ = some (.int .i64 a0_0) := (Zb BK472.out 0).trans rfl; have hcz37_1 : w36.cell? ⟨gb472, 1, none⟩ = some (.int .u16 a0_1) := (Zb BK472.out 1).trans rfl; have hcz37_2 : w36.cell? ⟨gb472, 2, none⟩ = some (.int .u8 a0_2) := (Zb BK472.out 2).trans rfl; have hcz37_3 : w36.cell? ⟨gb472, 3, none⟩ = some (.int .u8 a0_3) := (Zb BK472.out 3).trans rfl; have hcz37_4 : w36.cell? ⟨gb472, 4, none⟩ = some (.int .u32 a0_4) := (Zb BK472.out 4).trans rfl; have hcz37_5 : w36.cell? ⟨gb472, 5, none⟩ = some (.int .i64 a0_5) := (Zb BK472.out 5).trans rfl; have hfz37_0 := Zj BK472.out 0; have hfz37_1 := Zj BK472.out 1; have hfz37_2 := Zj BK472.out 2; have hfz37_3 := Zj BK472.out 3; have hfz37_4 := Zj BK472.out 4; have hfz37_5 := Zj BK472.out 5))
 go_ret
 exact ⟨by first | rfl | (simp [Zm, Zn] <;> rfl) | (simp [*, Zm, Zn] <;> rfl), by with_reducible repeat first | exact HB.out | apply Zc | apply Ze | apply Zd | refine Zk ?_ GE472.out⟩
theorem rdItem_eq (l : List S69) (i : Nat) (h : i < l.length) : Zah l (i : Int) = l[i] := by
 simp [Zah, List.getD_eq_getElem?_getD, List.getElem?_eq_getElem h]
def plainCodes : List Int := [0, 1, 32, 96, 97, 2, 3, 4, 12, 20, 28, 36, 44, 52, 60, 68, 76, 84, 92, 164, 172, 100, 108, 116, 124, 132, 7, 135]
def testCodes : List Int := [21, 29, 37, 45, 53, 61, 69, 77]
def endCodes : List Int := [6, 22]
def sortN (c : Int) : Int := if c ∈ plainCodes then 1 else if c = 5 then 3 else if c ∈ testCodes then 2 else if c ∈ endCodes then 4 else 0
theorem sortOf_is (c : Int) (k : Nat) (hk : 2 ≤ k) : Zap.f k c = some (sortN c) := by
 obtain ⟨k, rfl⟩ : ∃ m, k = m + 2 := ⟨k - 2, by omega⟩
 by_cases h : c ∈ plainCodes
 ·unfold sortN
  rw [if_pos h]
  simp only [plainCodes, List.mem_cons, List.not_mem_nil, or_false] at h
  rcases h with rfl | rfl | rfl | rfl | rfl | rfl | rfl | rfl | rfl | rfl | rfl | rfl | rfl | rfl | rfl | rfl | rfl | rfl | rfl | rfl | rfl | rfl | rfl | rfl | rfl | rfl | rfl | rfl <;> rfl
 ·have h' := h
  simp only [plainCodes, List.mem_cons, List.not_mem_nil, or_false, not_or] at h'
  obtain ⟨h0, h1, h2, h3, h4, h5, h6, h7, h8, h9, h10, h11, h12, h13, h14, h15, h16, h17, h18, h19, h20, h21, h22, h23, h24, h25, h26, h27⟩ := h'
  have e : Zap.f (k + 2) c = Zap.j0 (k + 2) c false := by
   unfold Zap.f
   rw [if_neg h0, if_neg h1, if_neg h2, if_neg h3, if_neg h4, if_neg h5, if_neg h6, if_neg h7, if_neg h8, if_neg h9, if_neg h10, if_neg h11, if_neg h12, if_neg h13, if_neg h14, if_neg h15, if_neg h16, if_neg h17, if_neg h18, if_neg h19, if_neg h20, if_neg h21, if_neg h22, if_neg h23, if_neg h24, if_neg h25, if_neg h26, beq_eq_false_iff_ne.mpr h27]
  rw [e]
  unfold sortN
  rw [if_neg h, Zap.j0, if_neg (by decide)]
  by_cases h5 : c = 5
  ·rw [if_pos h5, if_pos h5]
  ·rw [if_neg h5, if_neg h5]
   by_cases ht : c ∈ testCodes
   ·rw [if_pos ht]
    simp only [testCodes, List.mem_cons, List.not_mem_nil, or_false] at ht
    rcases ht with rfl | rfl | rfl | rfl | rfl | rfl | rfl | rfl <;> rfl
   ·rw [if_neg ht]
    simp only [testCodes, List.mem_cons, List.not_mem_nil, or_false, not_or] at ht
    obtain ⟨t0, t1, t2, t3, t4, t5, t6, t7⟩ := ht
    rw [if_neg t0, if_neg t1, if_neg t2, if_neg t3, if_neg t4, if_neg t5, if_neg t6, beq_eq_false_iff_ne.mpr t7, Zap.j1, if_neg (by decide)]
    simp only [endCodes, List.mem_cons, List.not_mem_nil, or_false]
    by_cases h6 : c = 6
    ·rw [if_pos h6, if_pos (.inl h6)]
    ·rw [if_neg h6]
     by_cases h22 : c = 22
     ·rw [if_pos h22, if_pos (.inr h22)]
     ·rw [if_neg h22, if_neg (by rintro (h | h) <;> contradiction)]
def Zcc.l0 : Nat → List (S98) → Int → Int → Option (Int)
 | 0, _, _, _ => none
 | k + 1, x0, x1, x5 => if x5 ≥ 0 then (if 0 ≤ x5 then (if x5 < (x0.length : Int) then (if ((rd_T98 x0 x5).f0) = x1 then (some ((rd_T98 x0 x5).f1)) else (Zcc.l0 k x0 x1 (wrap64 (x5 - 1)))) else (none)) else (none)) else (some (-1))
def Zcc.f (k : Nat) (l0 : List (S98)) (a1 : Int) : Option (Int) := Zcc.l0 k l0 a1 (wrap64 ((l0.length : Int) - 1))
set_option maxHeartbeats 8000000 in
set_option maxRecDepth 100000 in
theorem Zcc.calls (k : Nat) (A0 : Option Addr) (c0 : Nat) (l0 : List (S98)) (a1 : Int) (r : Int) (w : World) (hr0 : Kd.C k98 w A0 l0.length l0) (hc0 : l0.length ≤ c0) (h : Zcc.f k l0 a1 = some r) :
  Calls Try.prog 52 #[.slice A0 l0.length c0, .int .i64 a1] w fun e w' => e = .returned (.int .i64 r) ∧ Zr w w' := by
 have HR0 := Za.mk hr0
 have HC0 := Za.mk hc0
 clear hr0 hc0
 have H : (Zcc.l0 k l0 a1 (wrap64 ((l0.length : Int) - 1))) = some r := h
 clear h
 have H' := Za.mk H
 clear H
 go_enter Try.func52, Try.ntmps52
 go_wp2
 go_loopg [5] k (fun kq v5 w' => ∃ (x5_1 : Int), v5 = .int .i64 x5_1 ∧ Za (Zcc.l0 kq l0 a1 x5_1 = some r) ∧ Za (kq ≤ k) ∧ Zr w w')
 case atStart => exact ⟨(wrap64 ((l0.length : Int) - 1)), (by first | rfl | (simp; done) | (simp [*]; done)), H', ⟨Nat.le_refl _⟩, by repeat (first | exact Zr.refl _ | apply Zr.step)⟩
 case round =>
  clear H'
  try clear p2
  obtain ⟨x5_1, rfl, HA, HK1, ⟨m1, rfl⟩⟩ := hrel
  cases gk with
  | zero => exact absurd HA.out (by simp [Zcc.l0])
  | succ k1 =>
   have H := HA.out
   clear HA
   simp only [Zcc.l0] at H
   by_cases c3 : x5_1 ≥ 0
   ·rw [if_pos c3] at H
    have c3b0 : decide (0 ≤ x5_1) = true := decide_eq_true c3
    clear c3
    by_cases c4 : 0 ≤ x5_1
    ·rw [if_pos c4] at H
     have c4b0 : decide (0 ≤ x5_1) = true := decide_eq_true c4
     clear c4
     by_cases c5 : x5_1 < (l0.length : Int)
     ·rw [if_pos c5] at H
      have c5b0 : decide (x5_1 < (l0.length : Int)) = true := decide_eq_true c5
      clear c5
      by_cases c6 : ((rd_T98 l0 x5_1).f0) = a1
      ·rw [if_pos c6] at H
       have c6b0 : (((rd_T98 l0 x5_1).f0) == a1) = true := beq_iff_eq.mpr c6
       have c6b1 : (((rd_T98 l0 x5_1).f0) != a1) = false := bne_eq_false_iff_eq.mpr c6
       clear c6
       obtain rfl := Option.some.inj H
       have p125 : 0 ≤ (x5_1 : Int) := of_decide_eq_true (by assumption)
       have q125 : x5_1 < (l0.length : Int) := of_decide_eq_true (by assumption)
       obtain ⟨ad125, e125, hx125_0, hx125_1⟩ := at_T98 HR0.out x5_1 p125 q125
       cases e125
       replace p125 := eq_true p125
       replace q125 := eq_true q125
       have p126 : 0 ≤ (x5_1 : Int) := of_decide_eq_true (by assumption)
       have q126 : x5_1 < (l0.length : Int) := of_decide_eq_true (by assumption)
       obtain ⟨ad126, e126, hx126_0, hx126_1⟩ := at_T98 HR0.out x5_1 p126 q126
       obtain rfl : ad125 = ad126 := (by injection e126)
       replace p126 := eq_true p126
       replace q126 := eq_true q126
       go_wp2
       go_ret
       exact ⟨by first | rfl | (simp; done) | (simp [*]; done), by repeat (first | exact Zr.refl _ | apply Zr.step)⟩
      rw [if_neg c6] at H
      have c6b0 : (((rd_T98 l0 x5_1).f0) == a1) = false := beq_eq_false_iff_ne.mpr c6
      have c6b1 : (((rd_T98 l0 x5_1).f0) != a1) = true := bne_iff_ne.mpr c6
      have H' := Za.mk H
      clear H
      have p125 : 0 ≤ (x5_1 : Int) := of_decide_eq_true (by assumption)
      have q125 : x5_1 < (l0.length : Int) := of_decide_eq_true (by assumption)
      obtain ⟨ad125, e125, hx125_0, hx125_1⟩ := at_T98 HR0.out x5_1 p125 q125
      cases e125
      replace p125 := eq_true p125
      replace q125 := eq_true q125
      go_wp2
      go_roundg k1
      case measure => have := HK1.out; omega
      case rel => exact ⟨(wrap64 (x5_1 - 1)), (by first | rfl | (simp; done) | (simp [*]; done)), H', ⟨by have := HK1.out; omega⟩, by repeat (first | exact Zr.refl _ | apply Zr.step)⟩
     rw [if_neg c5] at H
     exact absurd H (by simp)
    rw [if_neg c4] at H
    exact absurd H (by simp)
   rw [if_neg c3] at H
   have c3b0 : decide (0 ≤ x5_1) = false := decide_eq_false c3
   clear c3
   obtain rfl := Option.some.inj H
   go_wp2
   go_ret
   exact ⟨by first | rfl | (simp; done) | (simp [*]; done), by repeat (first | exact Zr.refl _ | apply Zr.step)⟩
theorem Zbp {B : Nat} {w W w1 : World} (h : Below B w W) (hb : Below W.heap.size W w1) (hB : B ≤ W.heap.size) : Below B w w1 := h.trans (hb.mono hB)
theorem below_set1 {B : Nat} {w W : World} (h : Below B w W) {p : Addr} (hp : B ≤ p.block) (v : Value) : Below B w (W.setCell p v) := h.setCell hp v
theorem alloc_size (w : World) (o : Obj) : (w.alloc o).heap.size = w.heap.size + 1 := by simp
theorem cell_defd (w : World) (a b : Addr) (v : Value) : ((w.setCell a v).cell? b).isSome = (w.cell? b).isSome := by
 by_cases h : a = b
 ·subst h
  cases hc : w.cell? a with
  | some u => rw [World.cell?_setCell_same w a v hc]; rfl
  | none =>
   unfold World.cell? at hc ⊢
   simp only [World.setCell, Array.getElem?_modify, if_true]
   cases hh : w.heap[a.block]? with
   | none => rfl
   | some x =>
    rw [hh] at hc
    cases x with
    | cells c e f =>
     simp only [Option.map_some] at hc ⊢
     cases hs : a.spot.isSome with
     | true => simp
     | false =>
      rw [hs] at hc
      simp only [Bool.false_eq_true, if_false] at hc ⊢
      rw [Array.getElem?_eq_none (by rw [Array.size_setIfInBounds]; exact Array.getElem?_eq_none_iff.1 hc)]
    | _ => rfl
 ·rw [World.cell?_setCell_other w a b v h]
attribute [local go_sem] cell_defd
theorem markinfo : (Try.prog.info? 98).map (fun i => (i.zero, i.size, i.bytes)) = some (some (.agg #[(.int .i64 0), (.int .i64 0)]), 2, 16) := by kernel_rfl
mutual
def Zbc.l0 : Nat → List (S69) → List (S52) → List (S98) → Int → Option ((List (S52)))
 | 0, _, _, _, _ => none
 | k + 1, x0, x3, x4, x5 => if x5 ≥ 0 then (Zbc.j1 k x0 x3 x4 x5 (decide ((x3.length : Int) ≤ 4096))) else (Zbc.j1 k x0 x3 x4 x5 false)
def Zbc.j1 : Nat → List (S69) → List (S52) → List (S98) → Int → Bool → Option ((List (S52)))
 | 0, _, _, _, _, _ => none
 | k + 1, x0, x3, x4, x5, x19 => if x19 = true then (if 0 ≤ x5 then (if x5 < (x0.length : Int) then (if ((Zah x0 x5).f0) = 4 then (if x4.length < 8796093022208 then (Zbc.l0 k x0 x3 (x4 ++ [(⟨(Zah x0 x5).f2, (x3.length : Int)⟩ : S98)]) (wrap64 (x5 - 1))) else (none)) else (if ((Zah x0 x5).f0) = 0 then (if x3.length < 17592186044416 then (Zbc.l0 k x0 (x3 ++ [(⟨(Zah x0 x5).f1.f0, (Zah x0 x5).f1.f1, (Zah x0 x5).f1.f2, (Zah x0 x5).f1.f3⟩ : S52)]) x4 (wrap64 (x5 - 1))) else (none)) else ((Zcc.f k x4 ((Zah x0 x5).f2)).bind fun t135 => (if ((Zah x0 x5).f0) = 3 then (if x3.length < 17592186044416 then (Zbc.l0 k x0 (x3 ++ [(⟨5, 0, 0, (wrap64 ((x3.length : Int) - t135)) % 4294967296⟩ : S52)]) x4 (wrap64 (x5 - 1))) else (none)) else (if (wrap64 ((x3.length : Int) - t135)) ≤ 255 then (if ((Zah x0 x5).f0) = 1 then (if x3.length < 17592186044416 then (Zbc.l0 k x0 (x3 ++ [(⟨(Zah x0 x5).f1.f0, (wrap64 ((x3.length : Int) - t135)) % 256, 0, (Zah x0 x5).f1.f3⟩ : S52)]) x4 (wrap64 (x5 - 1))) else (none)) else (if x3.length < 17592186044416 then (Zbc.l0 k x0 (x3 ++ [(⟨(Zah x0 x5).f1.f0, 0, (wrap64 ((x3.length : Int) - t135)) % 256, (Zah x0 x5).f1.f3⟩ : S52)]) x4 (wrap64 (x5 - 1))) else (none))) else (if x3.length < 17592186044416 then ((some (x3 ++ [(⟨5, 0, 0, (wrap64 ((x3.length : Int) - t135)) % 4294967296⟩ : S52)] : List (S52))).bind fun y147 => (if ((Zah x0 x5).f0) = 1 then (if y147.length < 17592186044416 then (Zbc.l0 k x0 (y147 ++ [(⟨(Zah x0 x5).f1.f0, 0, 1, (Zah x0 x5).f1.f3⟩ : S52)]) x4 (wrap64 (x5 - 1))) else (none)) else (if y147.length < 17592186044416 then (Zbc.l0 k x0 (y147 ++ [(⟨(Zah x0 x5).f1.f0, 1, 0, (Zah x0 x5).f1.f3⟩ : S52)]) x4 (wrap64 (x5 - 1))) else (none)))) else (none))))))) else (none)) else (none)) else (some x3)
end
def Zbc.f (k : Nat) (l0 : List (S69)) : Option ((List (S52))) := Zbc.l0 k l0 ([] : List (S52)) ([] : List (S98)) (wrap64 ((l0.length : Int) - 1))
theorem ite_getL {α : Type} {c : Prop} [Decidable c] {a : Option α} {r : α} (h : (if c then a else none) = some r) : c ∧ a = some r := by
 by_cases hc : c
 ·rw [if_pos hc] at h
  exact ⟨hc, h⟩
 ·rw [if_neg hc] at h
  cases h
set_option maxHeartbeats 8000000 in
set_option maxRecDepth 100000 in
theorem Zbc.calls (k : Nat) (A0 : Option Addr) (c0 : Nat) (l0 : List (S69)) (r : List (S52)) (w : World) (hr0 : Kd.C k69 w A0 l0.length l0) (hc0 : l0.length ≤ c0) (h : Zbc.f k l0 = some r) :
  Calls Try.prog 27 #[.slice A0 l0.length c0] w fun e w' => ∃ v0_ : Value, e = .returned (v0_) ∧ Kd.R k52 52 w' w.heap.size (fun _ => True) v0_ r ∧ Below w.heap.size w w' := by
 have HR := Za.mk (And.intro hr0 hc0)
 have hlm := hr0.2.1
 have hw0 : wrap64 ((l0.length : Int) - 1) = (l0.length : Int) - 1 := by unfold wrap64; omega
 unfold Zbc.f at h
 rw [hw0] at h
 have HH := Za.mk h
 clear hr0 hc0 h
 go_enter Try.func27, Try.ntmps27
 go_wp2
 go_loopg [3, 4, 5] k (fun kq v3 v4 v5 w' => ∃ (x3 : List S52) (x4 : List S98) (x5 : Int), v5 = .int .i64 x5 ∧ Za (Zbc.l0 kq l0 x3 x4 x5 = some r) ∧ Za (Kd.R k52 52 w' w.heap.size (fun _ => True) v3 x3) ∧ Za (Kd.R k98 98 w' w.heap.size (fun _ => True) v4 x4) ∧ Za (Below w.heap.size w w'))
 case atStart => exact ⟨[], [], _, rfl, HH, ⟨Kd.R_nil _ _ _ _ _⟩, ⟨Kd.R_nil _ _ _ _ _⟩, ⟨Below.refl _ _⟩⟩
 case round =>
  clear HH hw0
  obtain ⟨x3, x4, x5, rfl, HA, HO3, HO4, HB⟩ := hrel
  obtain ⟨A3, c3, e3⟩ := Kd.Zay HO3.out
  subst e3
  obtain ⟨A4, c4, e4⟩ := Kd.Zay HO4.out
  subst e4
  cases gk with
  | zero => exact absurd HA.out (by simp [Zbc.l0])
  | succ k1 =>
  have H := HA.out
  clear HA
  cases k1 with
  | zero => exfalso; simp only [Zbc.l0, Zbc.j1] at H; split at H <;> cases H
  | succ k2 =>
  simp only [Zbc.l0, Zbc.j1] at H
  by_cases c5 : x5 ≥ 0
  case neg =>
   rw [if_neg c5, if_neg (by decide)] at H
   obtain rfl := Option.some.inj H
   have q1 : decide (x5 ≥ 0) = false := decide_eq_false c5
   have q2 : decide (0 ≤ x5) = false := decide_eq_false c5
   clear H c5
   go_wp2
   go_ret
   exact ⟨_, rfl, HO3.out, HB.out⟩
  have q1 : decide (x5 ≥ 0) = true := decide_eq_true c5
  have q2 : decide (0 ≤ x5) = true := decide_eq_true c5
  rw [if_pos c5] at H
  by_cases c6 : (x3.length : Int) ≤ 4096
  case neg =>
   have q3 : decide ((x3.length : Int) ≤ 4096) = false := decide_eq_false c6
   have q4 : decide (x3.length ≤ 4096) = false := decide_eq_false (by omega)
   rw [q3, if_neg (by decide)] at H
   obtain rfl := Option.some.inj H
   clear H c6
   go_wp2
   go_ret
   exact ⟨_, rfl, HO3.out, HB.out⟩
  have q3 : decide ((x3.length : Int) ≤ 4096) = true := decide_eq_true c6
  have q4 : decide (x3.length ≤ 4096) = true := decide_eq_true (by omega)
  rw [q3, if_pos rfl] at H
  obtain ⟨e1, H⟩ := ite_getL H
  obtain ⟨e2, H⟩ := ite_getL H
  obtain ⟨ad, ea, g0, g1, g2, g3, g4, g5⟩ := at_T69 HR.out.1 x5 e1 e2
  cases ea
  replace g0 := (HB.out.cell (World.block_lt_of_cell? w _ g0)).trans g0
  replace g1 := (HB.out.cell (World.block_lt_of_cell? w _ g1)).trans g1
  replace g2 := (HB.out.cell (World.block_lt_of_cell? w _ g2)).trans g2
  replace g3 := (HB.out.cell (World.block_lt_of_cell? w _ g3)).trans g3
  replace g4 := (HB.out.cell (World.block_lt_of_cell? w _ g4)).trans g4
  replace g5 := (HB.out.cell (World.block_lt_of_cell? w _ g5)).trans g5
  have hw5 : wrap64 (x5 - 1) = x5 - 1 := by unfold wrap64; omega
  rw [hw5] at H
  obtain ⟨it, hit⟩ : ∃ it, Zah l0 x5 = it := ⟨_, rfl⟩
  rw [hit] at H g0 g1 g2 g3 g4 g5
  obtain ⟨kd, ⟨ci, jt, jf, kk⟩, tg⟩ := it
  dsimp only at H g0 g1 g2 g3 g4 g5
  have e1e := eq_true e1
  have e2e := eq_true e2
  have hb1 := Zc (Below.refl wr.heap.size wr) (.cells #[.int .i64 kd, .int .u16 ci, .int .u8 jt, .int .u8 jf, .int .u32 kk, .int .i64 tg] 69)
  have n3 := Za.mk (Kd.Zam HO3.out hb1)
  have n4 := Za.mk (Kd.Zam HO4.out hb1)
  have nb := Za.mk (Zo HB.out hb1)
  have BK6 := Za.mk (blk_new wr (.cells #[.int .i64 kd, .int .u16 ci, .int .u8 jt, .int .u8 jf, .int .u32 kk, .int .i64 tg] 69))
  have HL6 := Za.mk c6
  clear HO3 HO4 HB hit hb1
  have HO3 := n3
  have HO4 := n4
  have HB := nb
  clear n3 n4 nb
  go_upto_if 28 with (fail)
  generalize wr.alloc (.cells #[.int .i64 kd, .int .u16 ci, .int .u8 jt, .int .u8 jf, .int .u32 kk, .int .i64 tg] 69) = W1 at HO3 HO4 HB BK6 ⊢
  obtain ⟨g6, hg6⟩ : ∃ g, wr.heap.size = g := ⟨_, rfl⟩
  rw [hg6] at BK6 ⊢
  clear hg6 g0 g1 g2 g3 g4 g5 q1 q2 q3 q4 e1e e2e e1 e2
  have b0 : W1.cell? ⟨g6, 0, none⟩ = some (.int .i64 kd) := (Zb BK6.out 0).trans rfl; have b1 : W1.cell? ⟨g6, 1, none⟩ = some (.int .u16 ci) := (Zb BK6.out 1).trans rfl; have b2 : W1.cell? ⟨g6, 2, none⟩ = some (.int .u8 jt) := (Zb BK6.out 2).trans rfl; have b3 : W1.cell? ⟨g6, 3, none⟩ = some (.int .u8 jf) := (Zb BK6.out 3).trans rfl; have b4 : W1.cell? ⟨g6, 4, none⟩ = some (.int .u32 kk) := (Zb BK6.out 4).trans rfl; have b5 : W1.cell? ⟨g6, 5, none⟩ = some (.int .i64 tg) := (Zb BK6.out 5).trans rfl
  by_cases k4 : kd = 4
  ·rw [if_pos k4] at H
   have k4b : (kd == 4) = true := beq_iff_eq.2 k4
   obtain ⟨e3, H⟩ := ite_getL H
   have HL := Za.mk e3
   have HH := Za.mk H
   clear H e3 k4
   go_wp2_with (first | ((with_reducible refine Zba (b := .append) (xs := #[.tmp 29, .tmp 35]) rfl ?_); at_builtin; refine Kd.Zbb k98 (w0 := w) w.heap.size rfl (.tmp 29) (.tmp 35) 96 98 (.agg #[(.int .i64 0), (.int .i64 0)]) 16 rfl Try.underlying96 markinfo rfl (by decide) (by omega) (.slice A4 x4.length c4) x4 (⟨tg, (x3.length : Int)⟩ : S98) [.int .i64 tg, .int .i64 (x3.length : Int)] (fun _ => True) (fun _ => False) rfl rfl ?aP (fun _ hk => hk.elim) ?aF ?aO ?aB ?aS ?aL ?_; (case aP => exact k98_mkM _ _ _ (⟨tg, (x3.length : Int)⟩ : S98)); (case aB => exact HB.out); (case aF => exact fun _ _ => trivial); (case aO => exact HO4.out); (case aS => exact Zl HB.out); (case aL => have := HL.out; omega); intro v6 w6 ho hb hg hat; have n_ := Za.mk ((Kd.R_grown2 (HO3.out) rfl hg (fun k hk => by obtain ⟨cells, hc⟩ := Kd.R_typed (HO4.out) k hk; exact Kd.R_ne (HO3.out) hc (by decide)))); clear HO3; have HO3 := n_; clear n_; replace HO4 := Za.mk (ho); replace HB := Za.mk (hb); clear ho hb hg hat))
   go_roundg k2
   case measure => omega
   case rel => exact ⟨_, _, _, by first | rfl | (rw [hw5]; done) | (simp [hw5]; done), HH, HO3, HO4, HB⟩
  rw [if_neg k4] at H
  have k4b : (kd == 4) = false := beq_eq_false_iff_ne.2 k4
  by_cases k0 : kd = 0
  ·rw [if_pos k0] at H
   have k0b : (kd == 0) = true := beq_iff_eq.2 k0
   obtain ⟨e3, H⟩ := ite_getL H
   obtain ⟨y1, hy1⟩ : ∃ y, x3 ++ [(⟨ci, jt, jf, kk⟩ : S52)] = y := ⟨_, rfl⟩
   rw [hy1] at H
   have Ny1 := Za.mk hy1
   have HL := Za.mk e3
   have HH := Za.mk H
   clear H e3 k0 k4 hy1
   go_wp2_with (first | ((with_reducible refine Zba (b := .append) (xs := #[.tmp 40, .tmp 43]) rfl ?_); at_builtin; refine Kd.Zbb k52 (w0 := w) w.heap.size rfl (.tmp 40) (.tmp 43) 26 52 (.agg #[(.int .u16 0), (.int .u8 0), (.int .u8 0), (.int .u32 0)]) 8 rfl Try.underlying26 info52 rfl (by decide) (by omega) (.slice A3 x3.length c3) x3 (⟨ci, jt, jf, kk⟩ : S52) [.int .u16 ci, .int .u8 jt, .int .u8 jf, .int .u32 kk] (fun _ => True) (fun _ => False) rfl rfl ?aP (fun _ hk => hk.elim) ?aF ?aO ?aB ?aS ?aL ?_; (case aP => exact k52_mkM _ _ _ (⟨ci, jt, jf, kk⟩ : S52)); (case aB => exact HB.out); (case aF => exact fun _ _ => trivial); (case aO => exact HO3.out); (case aS => exact Zl (HB.out)); (case aL => have := HL.out; omega); intro v6 w6 ho hb hg hat; rw [Ny1.out] at ho; obtain ⟨A6, c6, e6⟩ := Kd.Zay ho; subst e6; have n_ := Za.mk ((Kd.R_grown2 (HO4.out) rfl hg (fun k hk => by obtain ⟨cells, hc⟩ := Kd.R_typed (HO3.out) k hk; exact Kd.R_ne (HO4.out) hc (by decide)))); clear HO4; have HO4 := n_; clear n_; replace HO3 := Za.mk (ho); replace HB := Za.mk (hb); clear ho hb hg hat))
   go_roundg k2
   case measure => omega
   case rel => exact ⟨_, _, _, by first | rfl | (rw [hw5]; done) | (simp [hw5]; done), HH, HO3, HO4, HB⟩
  rw [if_neg k0] at H
  have k0b : (kd == 0) = false := beq_eq_false_iff_ne.2 k0
  obtain ⟨t1, hF, H⟩ := Option.bind_eq_some_iff.1 H
  have HF := Za.mk hF
  clear hF
  go_upto_if 64 with (first | (go_at_call 52; refine (Zcc.calls k2 A4 c4 x4 tg t1 _ (Kd.Zat HO4.out).2.2 (Kd.Zat HO4.out).2.1 HF.out).mono ?_; rintro e w5 ⟨rfl, hd⟩; have hb := hd.below; replace HO3 := Za.mk (Kd.Zam HO3.out hb); replace HO4 := Za.mk (Kd.Zam HO4.out hb); replace BK6 := Za.mk (Zp BK6.out hb); replace HB := Za.mk (Zo HB.out hb); have hlt6 : g6 < w5.heap.size := Zs BK6.out; clear b0 b1 b2 b3 b4 b5; have b0 : w5.cell? ⟨g6, 0, none⟩ = some (.int .i64 kd) := (Zb BK6.out 0).trans rfl; have b1 : w5.cell? ⟨g6, 1, none⟩ = some (.int .u16 ci) := (Zb BK6.out 1).trans rfl; have b4 : w5.cell? ⟨g6, 4, none⟩ = some (.int .u32 kk) := (Zb BK6.out 4).trans rfl; clear hb hd))
  have hb1 := Zc (Zc (Below.refl w5.heap.size w5) (.cells #[.int .u16 5, .int .u8 0, .int .u8 0, .int .u32 (wrap64 ((x3.length : Int) - t1) % 4294967296)] 52)) (.cells #[.int .u16 ci, .int .u8 0, .int .u8 0, .int .u32 kk] 52)
  have n3 := Za.mk (Kd.Zas (ok' := fun k => k ≠ w5.heap.size + 1) (Kd.Zam (Kd.R_bound HO3.out) hb1) (fun k hk => by have := hk.2.2.1; omega))
  have n4 := Za.mk (Kd.Zas (ok' := fun k => k ≠ w5.heap.size + 1) (Kd.Zam (Kd.R_bound HO4.out) hb1) (fun k hk => by have := hk.2.2.1; omega))
  have n8 := Za.mk (Zp (blk_new w5 (.cells #[.int .u16 5, .int .u8 0, .int .u8 0, .int .u32 (wrap64 ((x3.length : Int) - t1) % 4294967296)] 52)) (Zc (Below.refl (w5.alloc (.cells #[.int .u16 5, .int .u8 0, .int .u8 0, .int .u32 (wrap64 ((x3.length : Int) - t1) % 4294967296)] 52)).heap.size (w5.alloc (.cells #[.int .u16 5, .int .u8 0, .int .u8 0, .int .u32 (wrap64 ((x3.length : Int) - t1) % 4294967296)] 52))) (.cells #[.int .u16 ci, .int .u8 0, .int .u8 0, .int .u32 kk] 52)))
  have n9 := Za.mk (show ((w5.alloc (.cells #[.int .u16 5, .int .u8 0, .int .u8 0, .int .u32 (wrap64 ((x3.length : Int) - t1) % 4294967296)] 52)).alloc (.cells #[.int .u16 ci, .int .u8 0, .int .u8 0, .int .u32 kk] 52)).heap[w5.heap.size + 1]? = some (.cells #[.int .u16 ci, .int .u8 0, .int .u8 0, .int .u32 kk] 52 (0, 0)) by rw [← alloc_size w5 (.cells #[.int .u16 5, .int .u8 0, .int .u8 0, .int .u32 (wrap64 ((x3.length : Int) - t1) % 4294967296)] 52)]; exact blk_new _ _)
  have n6 := Za.mk (Zp BK6.out hb1)
  have nn := Za.mk (show g6 ≠ w5.heap.size + 1 by omega)
  have nr := Za.mk (fun k (hk : (Value.slice A3 x3.length c3).ownBlock = some k) => Kd.R_lt HO3.out k hk)
  have nb := Za.mk (Zo HB.out hb1)
  have nz := Za.mk (Zl HB.out)
  generalize (w5.alloc (.cells #[.int .u16 5, .int .u8 0, .int .u8 0, .int .u32 (wrap64 ((x3.length : Int) - t1) % 4294967296)] 52)).alloc (.cells #[.int .u16 ci, .int .u8 0, .int .u8 0, .int .u32 kk] 52) = W3 at n3 n4 n6 n8 n9 nb ⊢
  obtain ⟨g8, hg8⟩ : ∃ g, w5.heap.size = g := ⟨_, rfl⟩
  rw [hg8] at n3 n4 n8 n9 nn nr nz ⊢
  clear HO3 HO4 HB BK6 hb1 hg8 b0 b1 b4 hlt6
  have HO3 := n3
  have HO4 := n4
  have HB := nb
  have BK6 := n6
  have BK8 := n8
  have BK9 := n9
  clear n3 n4 nb n6 n8 n9
  have b0 : W3.cell? ⟨g6, 0, none⟩ = some (.int .i64 kd) := (Zb BK6.out 0).trans rfl
  have c80 : W3.cell? ⟨g8, 0, none⟩ = some (.int .u16 5) := (Zb BK8.out 0).trans rfl; have c81 : W3.cell? ⟨g8, 1, none⟩ = some (.int .u8 0) := (Zb BK8.out 1).trans rfl; have c82 : W3.cell? ⟨g8, 2, none⟩ = some (.int .u8 0) := (Zb BK8.out 2).trans rfl; have c83 : W3.cell? ⟨g8, 3, none⟩ = some (.int .u32 ((wrap64 ((x3.length : Int) - t1)) % 4294967296)) := (Zb BK8.out 3).trans rfl
  have c90 : W3.cell? ⟨g8 + 1, 0, none⟩ = some (.int .u16 ci) := (Zb BK9.out 0).trans rfl; have c91 : W3.cell? ⟨g8 + 1, 1, none⟩ = some (.int .u8 0) := (Zb BK9.out 1).trans rfl; have c92 : W3.cell? ⟨g8 + 1, 2, none⟩ = some (.int .u8 0) := (Zb BK9.out 2).trans rfl; have c93 : W3.cell? ⟨g8 + 1, 3, none⟩ = some (.int .u32 kk) := (Zb BK9.out 3).trans rfl
  have f91 := Zj BK9.out 1; have f92 := Zj BK9.out 2
  have hk4 := k4
  have hk0 := k0
  clear k4b k0b
  by_cases k3 : kd = 3
  ·rw [if_pos k3] at H
   have k3b : (kd == 3) = true := beq_iff_eq.2 k3
   obtain ⟨e3, H⟩ := ite_getL H
   obtain ⟨y1, hy1⟩ : ∃ y, x3 ++ [(⟨5, 0, 0, (wrap64 ((x3.length : Int) - t1)) % 4294967296⟩ : S52)] = y := ⟨_, rfl⟩
   rw [hy1] at H
   have Ny1 := Za.mk hy1
   have HL := Za.mk e3
   have HH := Za.mk H
   clear H e3 hy1 k3
   go_wp2_with (first | ((with_reducible refine Zba (b := .append) (xs := #[.tmp 65, .tmp 67]) rfl ?_); at_builtin; refine Kd.Zbb k52 (w0 := w) w.heap.size rfl (.tmp 65) (.tmp 67) 26 52 (.agg #[(.int .u16 0), (.int .u8 0), (.int .u8 0), (.int .u32 0)]) 8 rfl Try.underlying26 info52 rfl (by decide) (by omega) (.slice A3 x3.length c3) x3 (⟨5, 0, 0, ((wrap64 ((x3.length : Int) - t1)) % 4294967296)⟩ : S52) [.int .u16 5, .int .u8 0, .int .u8 0, .int .u32 ((wrap64 ((x3.length : Int) - t1)) % 4294967296)] (fun k => k ≠ g8 + 1) (fun _ => False) rfl rfl ?aP (fun _ hk => hk.elim) ?aF ?aO ?aB ?aS ?aL ?_; (case aP => exact k52_mkM _ _ _ (⟨5, 0, 0, ((wrap64 ((x3.length : Int) - t1)) % 4294967296)⟩ : S52)); (case aB => exact HB.out); (case aF => exact (fun k hk e => by have := Zs BK9.out; omega)); (case aO => exact HO3.out); (case aS => exact Zl (HB.out)); (case aL => have := HL.out; omega); intro v6 w6 ho hb hg hat; rw [Ny1.out] at ho; obtain ⟨A6, c6, e6⟩ := Kd.Zay ho; subst e6; have n_ := Za.mk (Kd.Zas ((Kd.R_grown2 (HO4.out) rfl hg (fun k hk => by obtain ⟨cells, hc⟩ := Kd.R_typed (HO3.out) k hk; exact Kd.R_ne (HO4.out) hc (by decide)))) (fun _ _ => trivial)); clear HO4; have HO4 := n_; clear n_; replace HO3 := Za.mk (Kd.Zas ho (fun _ _ => trivial)); replace HB := Za.mk (hb); clear ho hb hg hat))
   go_roundg k2
   case measure => omega
   case rel => exact ⟨_, _, _, by first | rfl | (rw [hw5]; done) | (simp [hw5]; done), HH, HO3, HO4, HB⟩
  rw [if_neg k3] at H
  have k3b : (kd == 3) = false := beq_eq_false_iff_ne.2 k3
  by_cases cd : (wrap64 ((x3.length : Int) - t1)) ≤ 255
  ·rw [if_pos cd] at H
   have cdb : decide ((wrap64 ((x3.length : Int) - t1)) ≤ 255) = true := decide_eq_true cd
   by_cases k1_ : kd = 1
   ·rw [if_pos k1_] at H
    have k1b : (kd == 1) = true := beq_iff_eq.2 k1_
    obtain ⟨e3, H⟩ := ite_getL H
    obtain ⟨y1, hy1⟩ : ∃ y, x3 ++ [(⟨ci, (wrap64 ((x3.length : Int) - t1)) % 256, 0, kk⟩ : S52)] = y := ⟨_, rfl⟩
    rw [hy1] at H
    have Ny1 := Za.mk hy1
    have HL := Za.mk e3
    have HH := Za.mk H
    clear H e3 hy1 k1_ k3 cd
    go_wp2_with (first | ((with_reducible refine gate_store (t := 5) (p := 76) rfl ?_); refine store_event (t := 5) (p := 76) (v := ?vo1) (w1 := W3.setCell ⟨g8 + 1, 1, none⟩ (.int .u8 ((wrap64 ((x3.length : Int) - t1)) % 256))) ?hg ?ho ?hn ?hr ?_; (case ho => rfl); (case hg => rfl); (case hn => rfl); (case hr => go_simp <;> rfl); intro w7 hw; have n3 := Za.mk (show Kd.R k52 52 w7 w.heap.size (fun k => k ≠ g8 + 1) _ _ from (by rw [hw]; exact Kd.R_far (p := ⟨g8 + 1, 1, none⟩) HO3.out (fun _ hk => hk) _)); have n4 := Za.mk (show Kd.R k98 98 w7 w.heap.size (fun k => k ≠ g8 + 1) _ _ from (by rw [hw]; exact Kd.R_far (p := ⟨g8 + 1, 1, none⟩) HO4.out (fun _ hk => hk) _)); have n9 := Za.mk (show w7.heap[g8 + 1]? = some (.cells #[.int .u16 ci, .int .u8 ((wrap64 ((x3.length : Int) - t1)) % 256), .int .u8 0, .int .u32 kk] 52 (0, 0)) from by rw [hw]; exact Zw BK9.out 1 _ rfl); have nb := Za.mk (show Below w.heap.size w w7 from by rw [hw]; exact below_set1 HB.out (p := ⟨g8 + 1, 1, none⟩) (by have := nz.out; show w.heap.size ≤ g8 + 1; omega) _); clear HO3 HO4 BK9 HB; have HO3 := n3; have HO4 := n4; have BK9 := n9; have HB := nb; clear n3 n4 n9 nb hw c90 c91 c92 c93 f91 f92; have c90 : w7.cell? ⟨g8 + 1, 0, none⟩ = some (.int .u16 ci) := (Zb BK9.out 0).trans rfl; have c91 : w7.cell? ⟨g8 + 1, 1, none⟩ = some (.int .u8 ((wrap64 ((x3.length : Int) - t1)) % 256)) := (Zb BK9.out 1).trans rfl; have c92 : w7.cell? ⟨g8 + 1, 2, none⟩ = some (.int .u8 0) := (Zb BK9.out 2).trans rfl; have c93 : w7.cell? ⟨g8 + 1, 3, none⟩ = some (.int .u32 kk) := (Zb BK9.out 3).trans rfl) | ((with_reducible refine Zba (b := .append) (xs := #[.tmp 80, .tmp 82]) rfl ?_); at_builtin; refine Kd.Zbb k52 (w0 := w) w.heap.size rfl (.tmp 80) (.tmp 82) 26 52 (.agg #[(.int .u16 0), (.int .u8 0), (.int .u8 0), (.int .u32 0)]) 8 rfl Try.underlying26 info52 rfl (by decide) (by omega) (.slice A3 x3.length c3) x3 (⟨ci, ((wrap64 ((x3.length : Int) - t1)) % 256), 0, kk⟩ : S52) [.int .u16 ci, .int .u8 ((wrap64 ((x3.length : Int) - t1)) % 256), .int .u8 0, .int .u32 kk] (fun k => k ≠ g8 + 1) (fun _ => False) rfl rfl ?aP (fun _ hk => hk.elim) ?aF ?aO ?aB ?aS ?aL ?_; (case aP => exact k52_mkM _ _ _ (⟨ci, ((wrap64 ((x3.length : Int) - t1)) % 256), 0, kk⟩ : S52)); (case aB => exact HB.out); (case aF => exact (fun k hk e => by have := Zs BK9.out; omega)); (case aO => exact HO3.out); (case aS => exact Zl (HB.out)); (case aL => have := HL.out; omega); intro v6 w6 ho hb hg hat; rw [Ny1.out] at ho; obtain ⟨A6, c6, e6⟩ := Kd.Zay ho; subst e6; have n_ := Za.mk (Kd.Zas ((Kd.R_grown2 (HO4.out) rfl hg (fun k hk => by obtain ⟨cells, hc⟩ := Kd.R_typed (HO3.out) k hk; exact Kd.R_ne (HO4.out) hc (by decide)))) (fun _ _ => trivial)); clear HO4; have HO4 := n_; clear n_; replace HO3 := Za.mk (Kd.Zas ho (fun _ _ => trivial)); replace HB := Za.mk (hb); clear ho hb hg hat))
    go_roundg k2
    case measure => omega
    case rel => exact ⟨_, _, _, by first | rfl | (rw [hw5]; done) | (simp [hw5]; done), HH, HO3, HO4, HB⟩
   rw [if_neg k1_] at H
   have k1b : (kd == 1) = false := beq_eq_false_iff_ne.2 k1_
   obtain ⟨e3, H⟩ := ite_getL H
   obtain ⟨y1, hy1⟩ : ∃ y, x3 ++ [(⟨ci, 0, (wrap64 ((x3.length : Int) - t1)) % 256, kk⟩ : S52)] = y := ⟨_, rfl⟩
   rw [hy1] at H
   have Ny1 := Za.mk hy1
   have HL := Za.mk e3
   have HH := Za.mk H
   clear H e3 hy1 k1_ k3 cd
   go_wp2_with (first | ((with_reducible refine gate_store (t := 5) (p := 79) rfl ?_); refine store_event (t := 5) (p := 79) (v := ?vo2) (w1 := W3.setCell ⟨g8 + 1, 2, none⟩ (.int .u8 ((wrap64 ((x3.length : Int) - t1)) % 256))) ?hg ?ho ?hn ?hr ?_; (case ho => rfl); (case hg => rfl); (case hn => rfl); (case hr => go_simp <;> rfl); intro w7 hw; have n3 := Za.mk (show Kd.R k52 52 w7 w.heap.size (fun k => k ≠ g8 + 1) _ _ from (by rw [hw]; exact Kd.R_far (p := ⟨g8 + 1, 2, none⟩) HO3.out (fun _ hk => hk) _)); have n4 := Za.mk (show Kd.R k98 98 w7 w.heap.size (fun k => k ≠ g8 + 1) _ _ from (by rw [hw]; exact Kd.R_far (p := ⟨g8 + 1, 2, none⟩) HO4.out (fun _ hk => hk) _)); have n9 := Za.mk (show w7.heap[g8 + 1]? = some (.cells #[.int .u16 ci, .int .u8 0, .int .u8 ((wrap64 ((x3.length : Int) - t1)) % 256), .int .u32 kk] 52 (0, 0)) from by rw [hw]; exact Zw BK9.out 2 _ rfl); have nb := Za.mk (show Below w.heap.size w w7 from by rw [hw]; exact below_set1 HB.out (p := ⟨g8 + 1, 2, none⟩) (by have := nz.out; show w.heap.size ≤ g8 + 1; omega) _); clear HO3 HO4 BK9 HB; have HO3 := n3; have HO4 := n4; have BK9 := n9; have HB := nb; clear n3 n4 n9 nb hw c90 c91 c92 c93 f91 f92; have c90 : w7.cell? ⟨g8 + 1, 0, none⟩ = some (.int .u16 ci) := (Zb BK9.out 0).trans rfl; have c91 : w7.cell? ⟨g8 + 1, 1, none⟩ = some (.int .u8 0) := (Zb BK9.out 1).trans rfl; have c92 : w7.cell? ⟨g8 + 1, 2, none⟩ = some (.int .u8 ((wrap64 ((x3.length : Int) - t1)) % 256)) := (Zb BK9.out 2).trans rfl; have c93 : w7.cell? ⟨g8 + 1, 3, none⟩ = some (.int .u32 kk) := (Zb BK9.out 3).trans rfl) | ((with_reducible refine Zba (b := .append) (xs := #[.tmp 80, .tmp 82]) rfl ?_); at_builtin; refine Kd.Zbb k52 (w0 := w) w.heap.size rfl (.tmp 80) (.tmp 82) 26 52 (.agg #[(.int .u16 0), (.int .u8 0), (.int .u8 0), (.int .u32 0)]) 8 rfl Try.underlying26 info52 rfl (by decide) (by omega) (.slice A3 x3.length c3) x3 (⟨ci, 0, ((wrap64 ((x3.length : Int) - t1)) % 256), kk⟩ : S52) [.int .u16 ci, .int .u8 0, .int .u8 ((wrap64 ((x3.length : Int) - t1)) % 256), .int .u32 kk] (fun k => k ≠ g8 + 1) (fun _ => False) rfl rfl ?aP (fun _ hk => hk.elim) ?aF ?aO ?aB ?aS ?aL ?_; (case aP => exact k52_mkM _ _ _ (⟨ci, 0, ((wrap64 ((x3.length : Int) - t1)) % 256), kk⟩ : S52)); (case aB => exact HB.out); (case aF => exact (fun k hk e => by have := Zs BK9.out; omega)); (case aO => exact HO3.out); (case aS => exact Zl (HB.out)); (case aL => have := HL.out; omega); intro v6 w6 ho hb hg hat; rw [Ny1.out] at ho; obtain ⟨A6, c6, e6⟩ := Kd.Zay ho; subst e6; have n_ := Za.mk (Kd.Zas ((Kd.R_grown2 (HO4.out) rfl hg (fun k hk => by obtain ⟨cells, hc⟩ := Kd.R_typed (HO3.out) k hk; exact Kd.R_ne (HO4.out) hc (by decide)))) (fun _ _ => trivial)); clear HO4; have HO4 := n_; clear n_; replace HO3 := Za.mk (Kd.Zas ho (fun _ _ => trivial)); replace HB := Za.mk (hb); clear ho hb hg hat))
   go_roundg k2
   case measure => omega
   case rel => exact ⟨_, _, _, by first | rfl | (rw [hw5]; done) | (simp [hw5]; done), HH, HO3, HO4, HB⟩
  rw [if_neg cd] at H
  have cdb : decide ((wrap64 ((x3.length : Int) - t1)) ≤ 255) = false := decide_eq_false cd
  obtain ⟨e3, H⟩ := ite_getL H
  obtain ⟨y1, hy1⟩ : ∃ y, x3 ++ [(⟨5, 0, 0, (wrap64 ((x3.length : Int) - t1)) % 4294967296⟩ : S52)] = y := ⟨_, rfl⟩
  simp only [Option.bind_some, hy1] at H
  have Ny1 := Za.mk hy1
  have HL := Za.mk e3
  by_cases k1_ : kd = 1
  ·rw [if_pos k1_] at H
   have k1b : (kd == 1) = true := beq_iff_eq.2 k1_
   obtain ⟨e4, H⟩ := ite_getL H
   obtain ⟨y2, hy2⟩ : ∃ y, y1 ++ [(⟨ci, 0, 1, kk⟩ : S52)] = y := ⟨_, rfl⟩
   rw [hy2] at H
   have Ny2 := Za.mk hy2
   have HL2 := Za.mk e4
   have HH := Za.mk H
   clear H e3 e4 hy1 hy2 k1_ k3 cd
   go_wp2_with (first | ((with_reducible refine Zba (b := .append) (xs := #[.tmp 84, .tmp 86]) rfl ?_); at_builtin; refine Kd.Zbb k52 (w0 := w) w.heap.size rfl (.tmp 84) (.tmp 86) 26 52 (.agg #[(.int .u16 0), (.int .u8 0), (.int .u8 0), (.int .u32 0)]) 8 rfl Try.underlying26 info52 rfl (by decide) (by omega) (.slice A3 x3.length c3) x3 (⟨5, 0, 0, ((wrap64 ((x3.length : Int) - t1)) % 4294967296)⟩ : S52) [.int .u16 5, .int .u8 0, .int .u8 0, .int .u32 ((wrap64 ((x3.length : Int) - t1)) % 4294967296)] (fun k => k ≠ g8 + 1) (fun _ => False) rfl rfl ?aP (fun _ hk => hk.elim) ?aF ?aO ?aB ?aS ?aL ?_; (case aP => exact k52_mkM _ _ _ (⟨5, 0, 0, ((wrap64 ((x3.length : Int) - t1)) % 4294967296)⟩ : S52)); (case aB => exact HB.out); (case aF => exact (fun k hk e => by have := Zs BK9.out; omega)); (case aO => exact HO3.out); (case aS => exact Zl (HB.out)); (case aL => have := HL.out; omega); intro v6 w6 ho hb hg hat; rw [Ny1.out] at ho; obtain ⟨A6, c6, e6⟩ := Kd.Zay ho; subst e6; replace BK6 := Za.mk ((hg.block g6 (Zs BK6.out) (Kd.R_ne HO3.out BK6.out (by decide))).trans BK6.out); replace BK9 := Za.mk ((hg.block (g8 + 1) (Zs BK9.out) (fun e => HO3.out.1 _ e.symm rfl)).trans BK9.out); have n_ := Za.mk ((Kd.R_grown2 (HO4.out) rfl hg (fun k hk => by obtain ⟨cells, hc⟩ := Kd.R_typed (HO3.out) k hk; exact Kd.R_ne (HO4.out) hc (by decide)))); clear HO4; have HO4 := n_; clear n_; replace HO3 := Za.mk (ho); replace HB := Za.mk (hb); clear b0 c80 c81 c82 c83 c90 c91 c92 c93 f91 f92; have b0 : w6.cell? ⟨g6, 0, none⟩ = some (.int .i64 kd) := (Zb BK6.out 0).trans rfl; have c90 : w6.cell? ⟨g8 + 1, 0, none⟩ = some (.int .u16 ci) := (Zb BK9.out 0).trans rfl; have c91 : w6.cell? ⟨g8 + 1, 1, none⟩ = some (.int .u8 0) := (Zb BK9.out 1).trans rfl; have c92 : w6.cell? ⟨g8 + 1, 2, none⟩ = some (.int .u8 0) := (Zb BK9.out 2).trans rfl; have c93 : w6.cell? ⟨g8 + 1, 3, none⟩ = some (.int .u32 kk) := (Zb BK9.out 3).trans rfl; have f91 := Zj BK9.out 1; have f92 := Zj BK9.out 2; clear ho hb hg hat) | ((with_reducible refine gate_store (t := 5) (p := 91) rfl ?_); refine store_event (t := 5) (p := 91) (v := ?vo3) (w1 := w6.setCell ⟨g8 + 1, 2, none⟩ (.int .u8 1)) ?hg ?ho ?hn ?hr ?_; (case ho => rfl); (case hg => rfl); (case hn => rfl); (case hr => go_simp <;> rfl); intro w7 hw; have n3 := Za.mk (show Kd.R k52 52 w7 w.heap.size (fun k => k ≠ g8 + 1) _ _ from (by rw [hw]; exact Kd.R_far (p := ⟨g8 + 1, 2, none⟩) HO3.out (fun _ hk => hk) _)); have n4 := Za.mk (show Kd.R k98 98 w7 w.heap.size (fun k => k ≠ g8 + 1) _ _ from (by rw [hw]; exact Kd.R_far (p := ⟨g8 + 1, 2, none⟩) HO4.out (fun _ hk => hk) _)); have n9 := Za.mk (show w7.heap[g8 + 1]? = some (.cells #[.int .u16 ci, .int .u8 0, .int .u8 1, .int .u32 kk] 52 (0, 0)) from by rw [hw]; exact Zw BK9.out 2 _ rfl); have nb := Za.mk (show Below w.heap.size w w7 from by rw [hw]; exact below_set1 HB.out (p := ⟨g8 + 1, 2, none⟩) (by have := nz.out; show w.heap.size ≤ g8 + 1; omega) _); clear HO3 HO4 BK9 HB; have HO3 := n3; have HO4 := n4; have BK9 := n9; have HB := nb; clear n3 n4 n9 nb hw c90 c91 c92 c93 f91 f92; have c90 : w7.cell? ⟨g8 + 1, 0, none⟩ = some (.int .u16 ci) := (Zb BK9.out 0).trans rfl; have c91 : w7.cell? ⟨g8 + 1, 1, none⟩ = some (.int .u8 0) := (Zb BK9.out 1).trans rfl; have c92 : w7.cell? ⟨g8 + 1, 2, none⟩ = some (.int .u8 1) := (Zb BK9.out 2).trans rfl; have c93 : w7.cell? ⟨g8 + 1, 3, none⟩ = some (.int .u32 kk) := (Zb BK9.out 3).trans rfl) | ((with_reducible refine Zba (b := .append) (xs := #[.tmp 93, .tmp 95]) rfl ?_); at_builtin; refine Kd.Zbb k52 (w0 := w) w.heap.size rfl (.tmp 93) (.tmp 95) 26 52 (.agg #[(.int .u16 0), (.int .u8 0), (.int .u8 0), (.int .u32 0)]) 8 rfl Try.underlying26 info52 rfl (by decide) (by omega) (.slice A6 y1.length c6) y1 (⟨ci, 0, 1, kk⟩ : S52) [.int .u16 ci, .int .u8 0, .int .u8 1, .int .u32 kk] (fun k => k ≠ g8 + 1) (fun _ => False) rfl rfl ?aP (fun _ hk => hk.elim) ?aF ?aO ?aB ?aS ?aL ?_; (case aP => exact k52_mkM _ _ _ (⟨ci, 0, 1, kk⟩ : S52)); (case aB => exact HB.out); (case aF => exact (fun k hk e => by have := Zs BK9.out; omega)); (case aO => exact HO3.out); (case aS => exact Zl (HB.out)); (case aL => have := HL2.out; omega); intro v6 w6 ho hb hg hat; rw [Ny2.out] at ho; obtain ⟨A6, c6, e6⟩ := Kd.Zay ho; subst e6; have n_ := Za.mk (Kd.Zas ((Kd.R_grown2 (HO4.out) rfl hg (fun k hk => by obtain ⟨cells, hc⟩ := Kd.R_typed (HO3.out) k hk; exact Kd.R_ne (HO4.out) hc (by decide)))) (fun _ _ => trivial)); clear HO4; have HO4 := n_; clear n_; replace HO3 := Za.mk (Kd.Zas ho (fun _ _ => trivial)); replace HB := Za.mk (hb); clear ho hb hg hat))
   go_roundg k2
   case measure => omega
   case rel => exact ⟨_, _, _, by first | rfl | (rw [hw5]; done) | (simp [hw5]; done), HH, HO3, HO4, HB⟩
  rw [if_neg k1_] at H
  have k1b : (kd == 1) = false := beq_eq_false_iff_ne.2 k1_
  obtain ⟨e4, H⟩ := ite_getL H
  obtain ⟨y2, hy2⟩ : ∃ y, y1 ++ [(⟨ci, 1, 0, kk⟩ : S52)] = y := ⟨_, rfl⟩
  rw [hy2] at H
  have Ny2 := Za.mk hy2
  have HL2 := Za.mk e4
  have HH := Za.mk H
  clear H e3 e4 hy1 hy2 k1_ k3 cd
  go_wp2_with (first | ((with_reducible refine Zba (b := .append) (xs := #[.tmp 84, .tmp 86]) rfl ?_); at_builtin; refine Kd.Zbb k52 (w0 := w) w.heap.size rfl (.tmp 84) (.tmp 86) 26 52 (.agg #[(.int .u16 0), (.int .u8 0), (.int .u8 0), (.int .u32 0)]) 8 rfl Try.underlying26 info52 rfl (by decide) (by omega) (.slice A3 x3.length c3) x3 (⟨5, 0, 0, ((wrap64 ((x3.length : Int) - t1)) % 4294967296)⟩ : S52) [.int .u16 5, .int .u8 0, .int .u8 0, .int .u32 ((wrap64 ((x3.length : Int) - t1)) % 4294967296)] (fun k => k ≠ g8 + 1) (fun _ => False) rfl rfl ?aP (fun _ hk => hk.elim) ?aF ?aO ?aB ?aS ?aL ?_; (case aP => exact k52_mkM _ _ _ (⟨5, 0, 0, ((wrap64 ((x3.length : Int) - t1)) % 4294967296)⟩ : S52)); (case aB => exact HB.out); (case aF => exact (fun k hk e => by have := Zs BK9.out; omega)); (case aO => exact HO3.out); (case aS => exact Zl (HB.out)); (case aL => have := HL.out; omega); intro v6 w6 ho hb hg hat; rw [Ny1.out] at ho; obtain ⟨A6, c6, e6⟩ := Kd.Zay ho; subst e6; replace BK6 := Za.mk ((hg.block g6 (Zs BK6.out) (Kd.R_ne HO3.out BK6.out (by decide))).trans BK6.out); replace BK9 := Za.mk ((hg.block (g8 + 1) (Zs BK9.out) (fun e => HO3.out.1 _ e.symm rfl)).trans BK9.out); have n_ := Za.mk ((Kd.R_grown2 (HO4.out) rfl hg (fun k hk => by obtain ⟨cells, hc⟩ := Kd.R_typed (HO3.out) k hk; exact Kd.R_ne (HO4.out) hc (by decide)))); clear HO4; have HO4 := n_; clear n_; replace HO3 := Za.mk (ho); replace HB := Za.mk (hb); clear b0 c80 c81 c82 c83 c90 c91 c92 c93 f91 f92; have b0 : w6.cell? ⟨g6, 0, none⟩ = some (.int .i64 kd) := (Zb BK6.out 0).trans rfl; have c90 : w6.cell? ⟨g8 + 1, 0, none⟩ = some (.int .u16 ci) := (Zb BK9.out 0).trans rfl; have c91 : w6.cell? ⟨g8 + 1, 1, none⟩ = some (.int .u8 0) := (Zb BK9.out 1).trans rfl; have c92 : w6.cell? ⟨g8 + 1, 2, none⟩ = some (.int .u8 0) := (Zb BK9.out 2).trans rfl; have c93 : w6.cell? ⟨g8 + 1, 3, none⟩ = some (.int .u32 kk) := (Zb BK9.out 3).trans rfl; have f91 := Zj BK9.out 1; have f92 := Zj BK9.out 2; clear ho hb hg hat) | ((with_reducible refine gate_store (t := 5) (p := 92) rfl ?_); refine store_event (t := 5) (p := 92) (v := ?vo4) (w1 := w6.setCell ⟨g8 + 1, 1, none⟩ (.int .u8 1)) ?hg ?ho ?hn ?hr ?_; (case ho => rfl); (case hg => rfl); (case hn => rfl); (case hr => go_simp <;> rfl); intro w7 hw; have n3 := Za.mk (show Kd.R k52 52 w7 w.heap.size (fun k => k ≠ g8 + 1) _ _ from (by rw [hw]; exact Kd.R_far (p := ⟨g8 + 1, 1, none⟩) HO3.out (fun _ hk => hk) _)); have n4 := Za.mk (show Kd.R k98 98 w7 w.heap.size (fun k => k ≠ g8 + 1) _ _ from (by rw [hw]; exact Kd.R_far (p := ⟨g8 + 1, 1, none⟩) HO4.out (fun _ hk => hk) _)); have n9 := Za.mk (show w7.heap[g8 + 1]? = some (.cells #[.int .u16 ci, .int .u8 1, .int .u8 0, .int .u32 kk] 52 (0, 0)) from by rw [hw]; exact Zw BK9.out 1 _ rfl); have nb := Za.mk (show Below w.heap.size w w7 from by rw [hw]; exact below_set1 HB.out (p := ⟨g8 + 1, 1, none⟩) (by have := nz.out; show w.heap.size ≤ g8 + 1; omega) _); clear HO3 HO4 BK9 HB; have HO3 := n3; have HO4 := n4; have BK9 := n9; have HB := nb; clear n3 n4 n9 nb hw c90 c91 c92 c93 f91 f92; have c90 : w7.cell? ⟨g8 + 1, 0, none⟩ = some (.int .u16 ci) := (Zb BK9.out 0).trans rfl; have c91 : w7.cell? ⟨g8 + 1, 1, none⟩ = some (.int .u8 1) := (Zb BK9.out 1).trans rfl; have c92 : w7.cell? ⟨g8 + 1, 2, none⟩ = some (.int .u8 0) := (Zb BK9.out 2).trans rfl; have c93 : w7.cell? ⟨g8 + 1, 3, none⟩ = some (.int .u32 kk) := (Zb BK9.out 3).trans rfl) | ((with_reducible refine Zba (b := .append) (xs := #[.tmp 93, .tmp 95]) rfl ?_); at_builtin; refine Kd.Zbb k52 (w0 := w) w.heap.size rfl (.tmp 93) (.tmp 95) 26 52 (.agg #[(.int .u16 0), (.int .u8 0), (.int .u8 0), (.int .u32 0)]) 8 rfl Try.underlying26 info52 rfl (by decide) (by omega) (.slice A6 y1.length c6) y1 (⟨ci, 1, 0, kk⟩ : S52) [.int .u16 ci, .int .u8 1, .int .u8 0, .int .u32 kk] (fun k => k ≠ g8 + 1) (fun _ => False) rfl rfl ?aP (fun _ hk => hk.elim) ?aF ?aO ?aB ?aS ?aL ?_; (case aP => exact k52_mkM _ _ _ (⟨ci, 1, 0, kk⟩ : S52)); (case aB => exact HB.out); (case aF => exact (fun k hk e => by have := Zs BK9.out; omega)); (case aO => exact HO3.out); (case aS => exact Zl (HB.out)); (case aL => have := HL2.out; omega); intro v6 w6 ho hb hg hat; rw [Ny2.out] at ho; obtain ⟨A6, c6, e6⟩ := Kd.Zay ho; subst e6; have n_ := Za.mk (Kd.Zas ((Kd.R_grown2 (HO4.out) rfl hg (fun k hk => by obtain ⟨cells, hc⟩ := Kd.R_typed (HO3.out) k hk; exact Kd.R_ne (HO4.out) hc (by decide)))) (fun _ _ => trivial)); clear HO4; have HO4 := n_; clear n_; replace HO3 := Za.mk (Kd.Zas ho (fun _ _ => trivial)); replace HB := Za.mk (hb); clear ho hb hg hat))
  go_roundg k2
  case measure => omega
  case rel => exact ⟨_, _, _, by first | rfl | (rw [hw5]; done) | (simp [hw5]; done), HH, HO3, HO4, HB⟩


end Go.Proofs.Ytgmbahldjiiajaa.P
