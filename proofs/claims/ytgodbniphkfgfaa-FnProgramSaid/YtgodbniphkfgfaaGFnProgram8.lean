import Derived.Test.YtgodbniphkfgfaaGFnProgram4
import Derived.Test.YtgodbniphkfgfaaGFnProgram7
namespace Go.Proofs.Ytgodbniphkfgfaa.P
open Go.RowKit Go.Proofs.YtgodbniphkfgfaaW.PrintWords Go.Proofs.YtgodbniphkfgfaaW.PrintLast Go.Proofs.YtgodbniphkfgfaaW.PrintMore
attribute [local go_sem] max2_int min2_int max_two min_two max_three min_three max_four min_four
set_option linter.unusedVariables false
set_option linter.unusedSimpArgs false

def Zbt.l0 : Nat → List Int → Int → Int → Int → Option (Int)
  | 0, _, _, _, _ => none
  | k + 1, x0, x1, x7, x8 => if x8 < x7 then (if 0 ≤ x8 then (if x8 < (x0.length : Int) then (if x1 = (rd x0 x8) then (some x8) else (Zbt.l0 k x0 x1 x7 (wrap64 (x8 + 1)))) else (none)) else (none)) else (some (-1))
def Zbt.f (k : Nat) (l0 : List Int) (a1 : Int) : Option (Int) := Zbt.l0 k l0 a1 (l0.length : Int) 0
set_option maxHeartbeats 8000000 in
set_option maxRecDepth 100000 in
theorem Zbt.calls (k : Nat) (A0 : Option Addr) (c0 : Nat) (l0 : List Int) (a1 : Int) (r : Int) (w : World) (hr0 : Kd.C (Kd.int .u16) w A0 l0.length l0) (hc0 : l0.length ≤ c0) (h : Zbt.f k l0 a1 = some r) :
  Calls Try.prog 73 #[.slice A0 l0.length c0, .int .u16 a1] w fun e w' => e = .returned (.int .i64 r) ∧ Zw w w' := by
 have HR0 := Za.mk hr0
 have HC0 := Za.mk hc0
 clear hr0 hc0
 have H : (Zbt.l0 k l0 a1 (l0.length : Int) 0) = some r := h
 clear h
 have H' := Za.mk H
 clear H
 go_enter Try.func73, Try.ntmps73
 go_wp2
 go_loopg [8] k (fun kq v8 w' => ∃ (x8_1 : Int), v8 = .int .i64 x8_1 ∧ Za (Zbt.l0 kq l0 a1 (l0.length : Int) x8_1 = some r) ∧ Za (kq ≤ k) ∧ Zw w w')
 case atStart => exact ⟨(0), (by first | rfl | (simp; done) | (simp [*]; done)), H', ⟨Nat.le_refl _⟩, by repeat (first | exact Zw.refl _ | apply Zw.step)⟩
 case round =>
  clear H'
  try clear p2
  obtain ⟨x8_1, rfl, HA, HK1, ⟨m1, rfl⟩⟩ := hrel
  cases gk with
  | zero => exact absurd HA.out (by simp [Zbt.l0])
  | succ k1 =>
   have H := HA.out
   clear HA
   simp only [Zbt.l0] at H
   by_cases c3 : x8_1 < (l0.length : Int)
   ·rw [if_pos c3] at H
    have c3b0 : decide (x8_1 < (l0.length : Int)) = true := decide_eq_true c3
    clear c3
    by_cases c4 : 0 ≤ x8_1
    ·rw [if_pos c4] at H
     have c4b0 : decide (0 ≤ x8_1) = true := decide_eq_true c4
     clear c4
     by_cases c5 : x8_1 < (l0.length : Int)
     ·rw [if_pos c5] at H
      have c5b0 : decide (x8_1 < (l0.length : Int)) = true := decide_eq_true c5
      clear c5
      by_cases c6 : a1 = (rd l0 x8_1)
      ·rw [if_pos c6] at H
       have c6b0 : (a1 == (rd l0 x8_1)) = true := beq_iff_eq.mpr c6
       have c6b1 : (a1 != (rd l0 x8_1)) = false := bne_eq_false_iff_eq.mpr c6
       clear c6
       obtain rfl := Option.some.inj H
       have p457 : 0 ≤ (x8_1 : Int) := of_decide_eq_true (by assumption)
       have q457 : x8_1 < (l0.length : Int) := of_decide_eq_true (by assumption)
       obtain ⟨ad457, e457, hx457_0⟩ := Kd.at_int HR0.out x8_1 p457 q457
       cases e457
       replace p457 := eq_true p457
       replace q457 := eq_true q457
       go_wp2
       go_ret
       exact ⟨by first | rfl | (simp; done) | (simp [*]; done), by repeat (first | exact Zw.refl _ | apply Zw.step)⟩
      ·rw [if_neg c6] at H
       have c6b0 : (a1 == (rd l0 x8_1)) = false := beq_eq_false_iff_ne.mpr c6
       have c6b1 : (a1 != (rd l0 x8_1)) = true := bne_iff_ne.mpr c6
       have H' := Za.mk H
       clear H
       have p457 : 0 ≤ (x8_1 : Int) := of_decide_eq_true (by assumption)
       have q457 : x8_1 < (l0.length : Int) := of_decide_eq_true (by assumption)
       obtain ⟨ad457, e457, hx457_0⟩ := Kd.at_int HR0.out x8_1 p457 q457
       cases e457
       replace p457 := eq_true p457
       replace q457 := eq_true q457
       go_wp2
       go_roundg k1
       case measure => have := HK1.out; omega
       case rel => exact ⟨(wrap64 (x8_1 + 1)), (by first | rfl | (simp; done) | (simp [*]; done)), H', ⟨by have := HK1.out; omega⟩, by repeat (first | exact Zw.refl _ | apply Zw.step)⟩
     ·rw [if_neg c5] at H
      exact absurd H (by simp)
    ·rw [if_neg c4] at H
     exact absurd H (by simp)
   ·rw [if_neg c3] at H
    have c3b0 : decide (x8_1 < (l0.length : Int)) = false := decide_eq_false c3
    clear c3
    obtain rfl := Option.some.inj H
    go_wp2
    go_ret
    exact ⟨by first | rfl | (simp; done) | (simp [*]; done), by repeat (first | exact Zw.refl _ | apply Zw.step)⟩
def Zch.f (k : Nat) (l0 : List Int) (a1 : Int) : Option (Bool) := (Zbt.f k l0 a1).bind fun t458 => (some (decide (t458 ≥ 0)))
set_option maxHeartbeats 8000000 in
set_option maxRecDepth 100000 in
theorem Zch.calls (k : Nat) (A0 : Option Addr) (c0 : Nat) (l0 : List Int) (a1 : Int) (r : Bool) (w : World) (hr0 : Kd.C (Kd.int .u16) w A0 l0.length l0) (hc0 : l0.length ≤ c0) (h : Zch.f k l0 a1 = some r) :
  Calls Try.prog 64 #[.slice A0 l0.length c0, .int .u16 a1] w fun e w' => e = .returned (.bool r) ∧ Zw w w' := by
 have HR0 := Za.mk hr0
 have HC0 := Za.mk hc0
 clear hr0 hc0
 have H : ((Zbt.f k l0 a1).bind fun t458 => (some (decide (t458 ≥ 0)))) = some r := h
 clear h
 replace H := Option.bind_eq_some_iff.mp H
 obtain ⟨t458, A30, H⟩ := H
 (try dsimp only at H)
 have A3 := Za.mk A30
 clear A30
 obtain rfl := Option.some.inj H
 go_enter Try.func64, Try.ntmps64
 go_wp2_with (first | ((with_reducible refine Zaf (f := 73) rfl ?_); refine Zae (some 7) rfl rfl Try.func73 (by kernel_rfl) rfl #[.slice A0 l0.length c0, .int .u16 a1] rfl (by (try simp only [ZA, ZB, ZC]); first | done | rfl) ?_; (with_reducible refine (Zbt.calls k _ _ l0 a1 t458 _ ?side1 ?side2 A3.out).mono ?_); (case side1 => repeat (first | exact HR0.out | (with_reducible refine Kd.Zam ?_ _) | (with_reducible refine Kd.Zao ?_ _) | (with_reducible refine Kd.Zan ?_))); (case side2 => exact HC0.out); rintro e w' ⟨rfl, ⟨nd, rfl⟩⟩; refine ⟨_, rfl, ?_⟩))
 go_ret
 exact ⟨by first | rfl | (simp; done) | (simp [*]; done), by repeat (first | exact Zw.refl _ | apply Zw.step)⟩
mutual
def Zap.j0 : Nat → Int → Int → Int → Bool → Int → Int → Int → Int → Option (Int)
  | 0, _, _, _, _, _, _, _, _ => none
  | k + 1, x1, x2, x7, x14, x460000, x460001, x460002, x460003 => if x14 = true then (some 3) else ((Zch.f k (([96, 97, 2, 3] : List Int)) x460000).bind fun t464 => (if t464 = true then (Zap.j1 k x1 x2 x7 (decide (x460003 ≥ 16)) x460000 x460001 x460002 x460003) else (Zap.j1 k x1 x2 x7 false x460000 x460001 x460002 x460003)))
def Zap.j1 : Nat → Int → Int → Int → Bool → Int → Int → Int → Int → Option (Int)
  | 0, _, _, _, _, _, _, _, _ => none
  | k + 1, x1, x2, x7, x29, x460000, x460001, x460002, x460003 => if x29 = true then (some 4) else (if x7 = 3 then (Zap.j2 k x1 x2 x7 (decide ((IntKind.u64.wrap ((IntKind.u64.wrap ((IntKind.u64.wrap (x1)) + 1)) + (IntKind.u64.wrap (x460003)))) ≥ (IntKind.u64.wrap (x2)))) x460000 x460001 x460002 x460003) else (Zap.j2 k x1 x2 x7 false x460000 x460001 x460002 x460003))
def Zap.j2 : Nat → Int → Int → Int → Bool → Int → Int → Int → Int → Option (Int)
  | 0, _, _, _, _, _, _, _, _ => none
  | k + 1, x1, x2, x7, x39, x460000, x460001, x460002, x460003 => if x39 = true then (some 5) else (if x7 = 2 then (Zap.j3 k x1 x2 x7 (decide ((wrap64 ((wrap64 (x1 + 1)) + (wrap64 (mx x460001 x460002)))) ≥ x2)) x460000 x460001 x460002 x460003) else (Zap.j3 k x1 x2 x7 false x460000 x460001 x460002 x460003))
def Zap.j3 : Nat → Int → Int → Int → Bool → Int → Int → Int → Int → Option (Int)
  | 0, _, _, _, _, _, _, _, _ => none
  | k + 1, x1, x2, x7, x54, x460000, x460001, x460002, x460003 => if x54 = true then (some 5) else (if x460000 = 52 then (Zap.j4 k x1 x2 x7 (x460003 == 0) x460000 x460001 x460002 x460003) else (Zap.j4 k x1 x2 x7 false x460000 x460001 x460002 x460003))
def Zap.j4 : Nat → Int → Int → Int → Bool → Int → Int → Int → Int → Option (Int)
  | 0, _, _, _, _, _, _, _, _ => none
  | k + 1, x1, x2, x7, x70, x460000, x460001, x460002, x460003 => if x70 = true then (Zap.j5 k x1 x2 x7 x70) else (if x460000 = 100 then (Zap.j5 k x1 x2 x7 (decide (x460003 ≥ 32))) else (if x460000 = 116 then (Zap.j5 k x1 x2 x7 (decide (x460003 ≥ 32))) else (Zap.j5 k x1 x2 x7 false)))
def Zap.j5 : Nat → Int → Int → Int → Bool → Option (Int)
  | 0, _, _, _, _ => none
  | k + 1, x1, x2, x7, x70 => if x70 = true then (some 6) else (if x1 = (wrap64 (x2 - 1)) then (if x7 = 4 then (some 0) else (some 7)) else (some 0))
end
def Zap.f (k : Nat) (a0_0 : Int) (a0_1 : Int) (a0_2 : Int) (a0_3 : Int) (a1 : Int) (a2 : Int) : Option (Int) := (Zat.f k a0_0).bind fun t460 => (if t460 = 0 then (some 2) else (if a0_0 = 32 then (if (Int.tmod a0_3 4) = 0 then (Zap.j0 k a1 a2 t460 (decide (a0_3 > 60)) a0_0 a0_1 a0_2 a0_3) else (Zap.j0 k a1 a2 t460 true a0_0 a0_1 a0_2 a0_3)) else (Zap.j0 k a1 a2 t460 false a0_0 a0_1 a0_2 a0_3)))
set_option maxHeartbeats 8000000 in
set_option maxRecDepth 100000 in
theorem Zap.calls (k : Nat) (a0_0 : Int) (a0_1 : Int) (a0_2 : Int) (a0_3 : Int) (a1 : Int) (a2 : Int) (r : Int) (w : World) (h : Zap.f k a0_0 a0_1 a0_2 a0_3 a1 a2 = some r) :
  Calls Try.prog 46 #[.agg #[.int .u16 a0_0, .int .u8 a0_1, .int .u8 a0_2, .int .u32 a0_3], .int .i64 a1, .int .i64 a2] w fun e w' => e = .returned (.int .i64 r) ∧ Below w.heap.size w w' := by
 have hu54 := Try.underlying54
 have HB := Za.mk (Below.refl w.heap.size w)
 have H := h
 unfold Zap.f at H
 clear h
 replace H := Option.bind_eq_some_iff.mp H
 obtain ⟨t460, A40, H⟩ := H
 (try dsimp only at H)
 have A4 := Za.mk A40
 clear A40
 by_cases c5 : t460 = 0
 ·rw [if_pos c5] at H
  have c5b0 : (t460 == 0) = true := beq_iff_eq.mpr c5
  have c5b1 : (t460 != 0) = false := bne_eq_false_iff_eq.mpr c5
  clear c5
  obtain rfl := Option.some.inj H
  go_enter Try.func46, Try.ntmps46
  go_wp2_with (first | ((with_reducible refine Zbj (N := 3) rfl ?_); (try (refine gate_guard (by rfl) ?_; dsimp only)); refine Zbo ?hg (N := 3) ?hd (cs := #[.int .u16 a0_0, .int .u8 a0_1, .int .u8 a0_2, .int .u32 a0_3]) (t := 54) ?hr ?_; (case hd => rfl); (case hg => rfl); (case hr => first | (go_simp; done) | (go_simp; rfl)); intro gb459 hg w6 hbox hb; have BK459 := Za.mk (hbox); have GW459 := Za.mk ((by rw [hg]; exact (Zas (by repeat (first | (with_reducible first | exact HB.out | apply Ze | apply Zf | apply Zd) | exact HB.out))) : w.heap.size ≤ gb459)); have GE459 := Za.mk ((by rw [hg]; exact (Zas (by repeat (first | (with_reducible first | exact HB.out | apply Ze | apply Zf | apply Zd) | exact HB.out))) : w.heap.size ≤ gb459)); replace HB := Za.mk (Zai (by repeat (first | (with_reducible first | exact HB.out | apply Ze | apply Zf | apply Zd) | exact HB.out)) hb); clear hb hbox hg; have hcz7_0 : w6.cell? ⟨gb459, 0, none⟩ = some (.int .u16 a0_0) := (Zg BK459.out 0).trans rfl; have hcz7_1 : w6.cell? ⟨gb459, 1, none⟩ = some (.int .u8 a0_1) := (Zg BK459.out 1).trans rfl; have hcz7_2 : w6.cell? ⟨gb459, 2, none⟩ = some (.int .u8 a0_2) := (Zg BK459.out 2).trans rfl; have hcz7_3 : w6.cell? ⟨gb459, 3, none⟩ = some (.int .u32 a0_3) := (Zg BK459.out 3).trans rfl; have hfz7_0 := Zl BK459.out 0; have hfz7_1 := Zl BK459.out 1; have hfz7_2 := Zl BK459.out 2; have hfz7_3 := Zl BK459.out 3) | ((with_reducible refine Zaf (f := 63) rfl ?_); refine Zae (some 10) rfl rfl Try.func63 (by kernel_rfl) rfl #[.int .u16 a0_0] rfl (by (try simp only [ZA, ZB, ZC]); first | done | rfl) ?_; (with_reducible refine (Zat.calls k a0_0 t460 _ A4.out).mono ?_); rintro e w' ⟨rfl, ⟨nd, rfl⟩⟩; refine ⟨_, rfl, ?_⟩))
  go_ret
  exact ⟨by first | rfl | (simp [Zo, Zp] <;> rfl) | (simp [*, Zo, Zp] <;> rfl), by repeat (first | (with_reducible first | exact HB.out | apply Ze | apply Zf | apply Zd | refine Zk ?_ GE459.out) | exact HB.out)⟩
 ·rw [if_neg c5] at H
  have c5b0 : (t460 == 0) = false := beq_eq_false_iff_ne.mpr c5
  have c5b1 : (t460 != 0) = true := bne_iff_ne.mpr c5
  have HC8 := Za.mk H
  clear H
  go_enter Try.func46, Try.ntmps46
  go_upto_region 4 with (first | ((with_reducible refine Zbj (N := 3) rfl ?_); (try (refine gate_guard (by rfl) ?_; dsimp only)); refine Zbo ?hg (N := 3) ?hd (cs := #[.int .u16 a0_0, .int .u8 a0_1, .int .u8 a0_2, .int .u32 a0_3]) (t := 54) ?hr ?_; (case hd => rfl); (case hg => rfl); (case hr => first | (go_simp; done) | (go_simp; rfl)); intro gb459 hg w9 hbox hb; have BK459 := Za.mk (hbox); have GW459 := Za.mk ((by rw [hg]; exact (Zas (by repeat (first | (with_reducible first | exact HB.out | apply Ze | apply Zf | apply Zd) | exact HB.out))) : w.heap.size ≤ gb459)); have GE459 := Za.mk ((by rw [hg]; exact (Zas (by repeat (first | (with_reducible first | exact HB.out | apply Ze | apply Zf | apply Zd) | exact HB.out))) : w.heap.size ≤ gb459)); replace HB := Za.mk (Zai (by repeat (first | (with_reducible first | exact HB.out | apply Ze | apply Zf | apply Zd) | exact HB.out)) hb); clear hb hbox hg; have hcz10_0 : w9.cell? ⟨gb459, 0, none⟩ = some (.int .u16 a0_0) := (Zg BK459.out 0).trans rfl; have hcz10_1 : w9.cell? ⟨gb459, 1, none⟩ = some (.int .u8 a0_1) := (Zg BK459.out 1).trans rfl; have hcz10_2 : w9.cell? ⟨gb459, 2, none⟩ = some (.int .u8 a0_2) := (Zg BK459.out 2).trans rfl; have hcz10_3 : w9.cell? ⟨gb459, 3, none⟩ = some (.int .u32 a0_3) := (Zg BK459.out 3).trans rfl; have hfz10_0 := Zl BK459.out 0; have hfz10_1 := Zl BK459.out 1; have hfz10_2 := Zl BK459.out 2; have hfz10_3 := Zl BK459.out 3) | ((with_reducible refine Zaf (f := 63) rfl ?_); refine Zae (some 10) rfl rfl Try.func63 (by kernel_rfl) rfl #[.int .u16 a0_0] rfl (by (try simp only [ZA, ZB, ZC]); first | done | rfl) ?_; (with_reducible refine (Zat.calls k a0_0 t460 _ A4.out).mono ?_); rintro e w' ⟨rfl, ⟨nd, rfl⟩⟩; refine ⟨_, rfl, ?_⟩))
  (try simp only [Act.put, ZD, ZE, ZF])
  go_cut [14] (fun v14 wc => ∃ (kq : Nat) (x14_7 : Bool), v14 = .bool x14_7 ∧ Za (Zap.j0 kq a1 a2 t460 x14_7 a0_0 a0_1 a0_2 a0_3 = some r) ∧ Za (kq ≤ k) ∧ Za (wc.heap[gb459]? = some (.cells #[.int .u16 a0_0, .int .u8 a0_1, .int .u8 a0_2, .int .u32 a0_3] 54 (0, 0))) ∧ Za (Below w.heap.size w wc))
  case first =>
   have H := HC8.out
   clear HC8
   by_cases c11 : a0_0 = 32
   ·rw [if_pos c11] at H
    have c11b0 : (a0_0 == 32) = true := beq_iff_eq.mpr c11
    have c11b1 : (a0_0 != 32) = false := bne_eq_false_iff_eq.mpr c11
    clear c11
    (first | rw [c11b0] | (simp only [Zn, Zq]; rw [c11b0]) | skip)
    by_cases c12 : (Int.tmod a0_3 4) = 0
    ·rw [if_pos c12] at H
     have c12b0 : ((Int.tmod a0_3 4) == 0) = true := beq_iff_eq.mpr c12
     have c12b1 : ((Int.tmod a0_3 4) != 0) = false := bne_eq_false_iff_eq.mpr c12
     clear c12
     have H' := Za.mk H
     clear H
     have hcz13_0 : w9.cell? ⟨gb459, 0, none⟩ = some (.int .u16 a0_0) := (Zg BK459.out 0).trans rfl
     have hcz13_1 : w9.cell? ⟨gb459, 1, none⟩ = some (.int .u8 a0_1) := (Zg BK459.out 1).trans rfl
     have hcz13_2 : w9.cell? ⟨gb459, 2, none⟩ = some (.int .u8 a0_2) := (Zg BK459.out 2).trans rfl
     have hcz13_3 : w9.cell? ⟨gb459, 3, none⟩ = some (.int .u32 a0_3) := (Zg BK459.out 3).trans rfl
     have hfz13_0 := Zl BK459.out 0
     have hfz13_1 := Zl BK459.out 1
     have hfz13_2 := Zl BK459.out 2
     have hfz13_3 := Zl BK459.out 3
     go_wp2
     go_meet
     case rel => exact ⟨_, (decide (a0_3 > 60)), (by first | rfl | (simp; done) | (simp [*]; done)), H', ⟨by first | omega | exact Nat.le_refl _⟩, ⟨by (with_reducible repeat (first | refine Zj ?_ _ | refine Zh ?_ | refine Zi ?_ _)); exact BK459.out⟩, ⟨by repeat (first | (with_reducible first | exact HB.out | apply Ze | apply Zf | apply Zd | refine Zk ?_ GE459.out) | exact HB.out)⟩⟩
    ·rw [if_neg c12] at H
     have c12b0 : ((Int.tmod a0_3 4) == 0) = false := beq_eq_false_iff_ne.mpr c12
     have c12b1 : ((Int.tmod a0_3 4) != 0) = true := bne_iff_ne.mpr c12
     have H' := Za.mk H
     clear H
     have hcz14_0 : w9.cell? ⟨gb459, 0, none⟩ = some (.int .u16 a0_0) := (Zg BK459.out 0).trans rfl
     have hcz14_1 : w9.cell? ⟨gb459, 1, none⟩ = some (.int .u8 a0_1) := (Zg BK459.out 1).trans rfl
     have hcz14_2 : w9.cell? ⟨gb459, 2, none⟩ = some (.int .u8 a0_2) := (Zg BK459.out 2).trans rfl
     have hcz14_3 : w9.cell? ⟨gb459, 3, none⟩ = some (.int .u32 a0_3) := (Zg BK459.out 3).trans rfl
     have hfz14_0 := Zl BK459.out 0
     have hfz14_1 := Zl BK459.out 1
     have hfz14_2 := Zl BK459.out 2
     have hfz14_3 := Zl BK459.out 3
     go_wp2
     go_meet
     case rel => exact ⟨_, (true), (by first | rfl | (simp; done) | (simp [*]; done)), H', ⟨by first | omega | exact Nat.le_refl _⟩, ⟨by (with_reducible repeat (first | refine Zj ?_ _ | refine Zh ?_ | refine Zi ?_ _)); exact BK459.out⟩, ⟨by repeat (first | (with_reducible first | exact HB.out | apply Ze | apply Zf | apply Zd | refine Zk ?_ GE459.out) | exact HB.out)⟩⟩
   ·rw [if_neg c11] at H
    have c11b0 : (a0_0 == 32) = false := beq_eq_false_iff_ne.mpr c11
    have c11b1 : (a0_0 != 32) = true := bne_iff_ne.mpr c11
    (first | rw [c11b0] | (simp only [Zn, Zq]; rw [c11b0]) | skip)
    have H' := Za.mk H
    clear H
    have hcz15_0 : w9.cell? ⟨gb459, 0, none⟩ = some (.int .u16 a0_0) := (Zg BK459.out 0).trans rfl
    have hcz15_1 : w9.cell? ⟨gb459, 1, none⟩ = some (.int .u8 a0_1) := (Zg BK459.out 1).trans rfl
    have hcz15_2 : w9.cell? ⟨gb459, 2, none⟩ = some (.int .u8 a0_2) := (Zg BK459.out 2).trans rfl
    have hcz15_3 : w9.cell? ⟨gb459, 3, none⟩ = some (.int .u32 a0_3) := (Zg BK459.out 3).trans rfl
    have hfz15_0 := Zl BK459.out 0
    have hfz15_1 := Zl BK459.out 1
    have hfz15_2 := Zl BK459.out 2
    have hfz15_3 := Zl BK459.out 3
    go_wp2
    go_meet
    case rel => exact ⟨_, (false), (by first | rfl | (simp; done) | (simp [*]; done)), H', ⟨by first | omega | exact Nat.le_refl _⟩, ⟨by (with_reducible repeat (first | refine Zj ?_ _ | refine Zh ?_ | refine Zi ?_ _)); exact BK459.out⟩, ⟨by repeat (first | (with_reducible first | exact HB.out | apply Ze | apply Zf | apply Zd | refine Zk ?_ GE459.out) | exact HB.out)⟩⟩
  case rest =>
   clear HC8
   try clear c1
   try clear p2
   try clear c4
   try clear c5
   try clear c5b0
   try clear c5b1
   try clear c6
   try clear c11
   try clear c11b0
   try clear c11b1
   try clear c12
   try clear c12b0
   try clear c12b1
   try clear hcz10_0
   try clear hcz10_1
   try clear hcz10_2
   try clear hcz10_3
   try clear hcz13_0
   try clear hcz13_1
   try clear hcz13_2
   try clear hcz13_3
   try clear hcz14_0
   try clear hcz14_1
   try clear hcz14_2
   try clear hcz14_3
   try clear hcz15_0
   try clear hcz15_1
   try clear hcz15_2
   try clear hcz15_3
   try clear hcz7_0
   try clear hcz7_1
   try clear hcz7_2
   try clear hcz7_3
   try clear hfz10_0
   try clear hfz10_1
   try clear hfz10_2
   try clear hfz10_3
   try clear hfz13_0
   try clear hfz13_1
   try clear hfz13_2
   try clear hfz13_3
   try clear hfz14_0
   try clear hfz14_1
   try clear hfz14_2
   try clear hfz14_3
   try clear hfz15_0
   try clear hfz15_1
   try clear hfz15_2
   try clear hfz15_3
   try clear hfz7_0
   try clear hfz7_1
   try clear hfz7_2
   try clear hfz7_3
   obtain ⟨kq, x14_7, rfl, HA, HJ7, BK459, HB⟩ := hcut
   cases kq with
   | zero => exact absurd HA.out (by simp [Zap.j0])
   | succ kj7 =>
    have H := HA.out
    clear HA
    simp only [Zap.j0] at H
    by_cases c16 : x14_7 = true
    ·subst c16
     have H1 : (some 3) = some r := by rw [if_pos rfl] at H; exact H
     clear H
     have H := H1
     clear H1
     obtain rfl := Option.some.inj H
     go_wp2
     go_ret
     exact ⟨by first | rfl | (simp [Zo, Zp] <;> rfl) | (simp [*, Zo, Zp] <;> rfl), by repeat (first | (with_reducible first | exact HB.out | apply Ze | apply Zf | apply Zd | refine Zk ?_ GE459.out) | exact HB.out)⟩
    ·replace c16 := Bool.eq_false_iff.mpr c16
     subst c16
     have H1 : ((Zch.f kj7 (([96, 97, 2, 3] : List Int)) a0_0).bind fun t464 => (if t464 = true then (Zap.j1 kj7 a1 a2 t460 (decide (a0_3 ≥ 16)) a0_0 a0_1 a0_2 a0_3) else (Zap.j1 kj7 a1 a2 t460 false a0_0 a0_1 a0_2 a0_3))) = some r := by rw [if_neg (show ¬ (false = true) by decide)] at H; exact H
     clear H
     have H := H1
     clear H1
     have HC17 := Za.mk H
     clear H
     go_upto_region 6 with (fail)
     go_cut [29] (fun v29 wc => ∃ (kq : Nat) (x29_16 : Bool), v29 = .bool x29_16 ∧ Za (Zap.j1 kq a1 a2 t460 x29_16 a0_0 a0_1 a0_2 a0_3 = some r) ∧ Za (kq ≤ kj7) ∧ Za (wc.heap[gb459]? = some (.cells #[.int .u16 a0_0, .int .u8 a0_1, .int .u8 a0_2, .int .u32 a0_3] 54 (0, 0))) ∧ Za (Below w.heap.size w wc))
     case first =>
      have H := HC17.out
      clear HC17
      obtain ⟨y461, hy461⟩ : ∃ y_ : List Int, y_ = (([96, 97, 2, 3] : List Int)) := ⟨_, rfl⟩
      replace H : ((Zch.f kj7 y461 a0_0).bind fun t464 => (if t464 = true then (Zap.j1 kj7 a1 a2 t460 (decide (a0_3 ≥ 16)) a0_0 a0_1 a0_2 a0_3) else (Zap.j1 kj7 a1 a2 t460 false a0_0 a0_1 a0_2 a0_3))) = some r := by first | (rw [hy461]; with_reducible exact H) | (have H2_ := (Option.bind_some _ _).symm.trans H; rw [hy461]; with_reducible exact H2_) | (have H2_ := (Option.bind_some _ _).symm.trans H; with_reducible exact H2_) | with_reducible exact H | (rw [hy461]; exact H) | exact H
      have Ny461 := Za.mk hy461
      clear hy461
      replace H := Option.bind_eq_some_iff.mp H
      obtain ⟨t464, A180, H⟩ := H
      (try dsimp only at H)
      have A18 := Za.mk A180
      clear A180
      by_cases c19 : t464 = true
      ·subst c19
       have H1 : (Zap.j1 kj7 a1 a2 t460 (decide (a0_3 ≥ 16)) a0_0 a0_1 a0_2 a0_3) = some r := by rw [if_pos rfl] at H; exact H
       clear H
       have H := H1
       clear H1
       have H' := Za.mk H
       clear H
       go_wp2_with (first | ((with_reducible refine Zbj (N := 30) rfl ?_); (try (refine gate_guard (by rfl) ?_; dsimp only)); refine Kd.R_lit (Kd.int .u16) _ 52 ?hg (N := 30) ?hd (xs := ([96, 97, 2, 3] : List Int)) (inner := [.int .u16 96, .int .u16 97, .int .u16 2, .int .u16 3]) (ok := fun _ => True) (okp := fun _ => True) ?hr ?hp (fun _ hk => hk) trivial (Below.refl _ _) (Nat.le_refl _) (by simp) ?_; (case hd => rfl); (case hg => rfl); (case hr => first | (go_simp; done) | (go_simp; rfl)); (case hp => exact (Reps.one (show Kd.M (Kd.int .u16) _ _ _ 96 [.int .u16 96] from rfl) (Reps.one (show Kd.M (Kd.int .u16) _ _ _ 97 [.int .u16 97] from rfl) (Reps.one (show Kd.M (Kd.int .u16) _ _ _ 2 [.int .u16 2] from rfl) (Reps.one (show Kd.M (Kd.int .u16) _ _ _ 3 [.int .u16 3] from rfl) (Reps.none _ _)))))); intro v462 w20 ho21 hb hg_ hnew_; clear hg_ hnew_; (first | rw [← Ny461.out] at ho21 | (simp only [Int.reduceToNat] at ho21; rw [← Ny461.out] at ho21)); have HO463 := Za.mk (Kd.Zbi ho21 (Zas (by repeat (first | (with_reducible first | exact HB.out | apply Ze | apply Zf | apply Zd | refine Zk ?_ GE459.out) | exact HB.out)))); replace BK459 := Za.mk (Zbd (g := gb459) (o := .cells #[.int .u16 a0_0, .int .u8 a0_1, .int .u8 a0_2, .int .u32 a0_3] 54 (0, 0)) (by (with_reducible repeat (first | refine Zj ?_ _ | refine Zh ?_ | refine Zi ?_ _)); exact BK459.out) hb); replace HB := Za.mk (Zai (by repeat (first | (with_reducible first | exact HB.out | apply Ze | apply Zf | apply Zd | refine Zk ?_ GE459.out) | exact HB.out)) hb); clear hb ho21; have hcz22_0 : w20.cell? ⟨gb459, 0, none⟩ = some (.int .u16 a0_0) := (Zg BK459.out 0).trans rfl; have hcz22_1 : w20.cell? ⟨gb459, 1, none⟩ = some (.int .u8 a0_1) := (Zg BK459.out 1).trans rfl; have hcz22_2 : w20.cell? ⟨gb459, 2, none⟩ = some (.int .u8 a0_2) := (Zg BK459.out 2).trans rfl; have hcz22_3 : w20.cell? ⟨gb459, 3, none⟩ = some (.int .u32 a0_3) := (Zg BK459.out 3).trans rfl; have hfz22_0 := Zl BK459.out 0; have hfz22_1 := Zl BK459.out 1; have hfz22_2 := Zl BK459.out 2; have hfz22_3 := Zl BK459.out 3; obtain ⟨Ao23, co23, eo23⟩ := Kd.Zbf HO463.out; subst eo23) | ((with_reducible refine Zaf (f := 64) rfl ?_); refine Zae (some 33) rfl rfl Try.func64 (by kernel_rfl) rfl #[.slice Ao23 y461.length co23, .int .u16 a0_0] rfl (by (try simp only [ZA, ZB, ZC]); first | done | rfl) ?_; (with_reducible refine (Zch.calls kj7 _ _ y461 a0_0 true _ ?side1 ?side2 A18.out).mono ?_); (case side1 => repeat (first | exact (Kd.Zag HO463.out).2.2 | (with_reducible refine Kd.Zam ?_ _) | (with_reducible refine Kd.Zao ?_ _) | (with_reducible refine Kd.Zan ?_))); (case side2 => exact (Kd.Zag HO463.out).2.1); rintro e w' ⟨rfl, ⟨nd, rfl⟩⟩; refine ⟨_, rfl, ?_⟩))
       go_meet
       case rel => exact ⟨_, (decide (a0_3 ≥ 16)), (by first | rfl | (simp; done) | (simp [*]; done)), H', ⟨by have := HJ7.out; first | omega | exact Nat.le_refl _⟩, ⟨by (with_reducible repeat (first | refine Zj ?_ _ | refine Zh ?_ | refine Zi ?_ _)); exact BK459.out⟩, ⟨by repeat (first | (with_reducible first | exact HB.out | apply Ze | apply Zf | apply Zd | refine Zk ?_ GE459.out) | exact HB.out)⟩⟩
      ·replace c19 := Bool.eq_false_iff.mpr c19
       subst c19
       have H1 : (Zap.j1 kj7 a1 a2 t460 false a0_0 a0_1 a0_2 a0_3) = some r := by rw [if_neg (show ¬ (false = true) by decide)] at H; exact H
       clear H
       have H := H1
       clear H1
       have H' := Za.mk H
       clear H
       go_wp2_with (first | ((with_reducible refine Zbj (N := 30) rfl ?_); (try (refine gate_guard (by rfl) ?_; dsimp only)); refine Kd.R_lit (Kd.int .u16) _ 52 ?hg (N := 30) ?hd (xs := ([96, 97, 2, 3] : List Int)) (inner := [.int .u16 96, .int .u16 97, .int .u16 2, .int .u16 3]) (ok := fun _ => True) (okp := fun _ => True) ?hr ?hp (fun _ hk => hk) trivial (Below.refl _ _) (Nat.le_refl _) (by simp) ?_; (case hd => rfl); (case hg => rfl); (case hr => first | (go_simp; done) | (go_simp; rfl)); (case hp => exact (Reps.one (show Kd.M (Kd.int .u16) _ _ _ 96 [.int .u16 96] from rfl) (Reps.one (show Kd.M (Kd.int .u16) _ _ _ 97 [.int .u16 97] from rfl) (Reps.one (show Kd.M (Kd.int .u16) _ _ _ 2 [.int .u16 2] from rfl) (Reps.one (show Kd.M (Kd.int .u16) _ _ _ 3 [.int .u16 3] from rfl) (Reps.none _ _)))))); intro v462 w24 ho25 hb hg_ hnew_; clear hg_ hnew_; (first | rw [← Ny461.out] at ho25 | (simp only [Int.reduceToNat] at ho25; rw [← Ny461.out] at ho25)); have HO463 := Za.mk (Kd.Zbi ho25 (Zas (by repeat (first | (with_reducible first | exact HB.out | apply Ze | apply Zf | apply Zd | refine Zk ?_ GE459.out) | exact HB.out)))); replace BK459 := Za.mk (Zbd (g := gb459) (o := .cells #[.int .u16 a0_0, .int .u8 a0_1, .int .u8 a0_2, .int .u32 a0_3] 54 (0, 0)) (by (with_reducible repeat (first | refine Zj ?_ _ | refine Zh ?_ | refine Zi ?_ _)); exact BK459.out) hb); replace HB := Za.mk (Zai (by repeat (first | (with_reducible first | exact HB.out | apply Ze | apply Zf | apply Zd | refine Zk ?_ GE459.out) | exact HB.out)) hb); clear hb ho25; have hcz26_0 : w24.cell? ⟨gb459, 0, none⟩ = some (.int .u16 a0_0) := (Zg BK459.out 0).trans rfl; have hcz26_1 : w24.cell? ⟨gb459, 1, none⟩ = some (.int .u8 a0_1) := (Zg BK459.out 1).trans rfl; have hcz26_2 : w24.cell? ⟨gb459, 2, none⟩ = some (.int .u8 a0_2) := (Zg BK459.out 2).trans rfl; have hcz26_3 : w24.cell? ⟨gb459, 3, none⟩ = some (.int .u32 a0_3) := (Zg BK459.out 3).trans rfl; have hfz26_0 := Zl BK459.out 0; have hfz26_1 := Zl BK459.out 1; have hfz26_2 := Zl BK459.out 2; have hfz26_3 := Zl BK459.out 3; obtain ⟨Ao27, co27, eo27⟩ := Kd.Zbf HO463.out; subst eo27) | ((with_reducible refine Zaf (f := 64) rfl ?_); refine Zae (some 33) rfl rfl Try.func64 (by kernel_rfl) rfl #[.slice Ao27 y461.length co27, .int .u16 a0_0] rfl (by (try simp only [ZA, ZB, ZC]); first | done | rfl) ?_; (with_reducible refine (Zch.calls kj7 _ _ y461 a0_0 false _ ?side1 ?side2 A18.out).mono ?_); (case side1 => repeat (first | exact (Kd.Zag HO463.out).2.2 | (with_reducible refine Kd.Zam ?_ _) | (with_reducible refine Kd.Zao ?_ _) | (with_reducible refine Kd.Zan ?_))); (case side2 => exact (Kd.Zag HO463.out).2.1); rintro e w' ⟨rfl, ⟨nd, rfl⟩⟩; refine ⟨_, rfl, ?_⟩))
       go_meet
       case rel => exact ⟨_, (false), (by first | rfl | (simp; done) | (simp [*]; done)), H', ⟨by have := HJ7.out; first | omega | exact Nat.le_refl _⟩, ⟨by (with_reducible repeat (first | refine Zj ?_ _ | refine Zh ?_ | refine Zi ?_ _)); exact BK459.out⟩, ⟨by repeat (first | (with_reducible first | exact HB.out | apply Ze | apply Zf | apply Zd | refine Zk ?_ GE459.out) | exact HB.out)⟩⟩
     case rest =>
      clear HC17
      try clear c1
      try clear p2
      try clear c4
      try clear c5
      try clear c5b0
      try clear c5b1
      try clear c6
      try clear c11
      try clear c11b0
      try clear c11b1
      try clear c12
      try clear c12b0
      try clear c12b1
      try clear c16
      try clear c19
      try clear hcz10_0
      try clear hcz10_1
      try clear hcz10_2
      try clear hcz10_3
      try clear hcz13_0
      try clear hcz13_1
      try clear hcz13_2
      try clear hcz13_3
      try clear hcz14_0
      try clear hcz14_1
      try clear hcz14_2
      try clear hcz14_3
      try clear hcz15_0
      try clear hcz15_1
      try clear hcz15_2
      try clear hcz15_3
      try clear hcz22_0
      try clear hcz22_1
      try clear hcz22_2
      try clear hcz22_3
      try clear hcz26_0
      try clear hcz26_1
      try clear hcz26_2
      try clear hcz26_3
      try clear hcz7_0
      try clear hcz7_1
      try clear hcz7_2
      try clear hcz7_3
      try clear hfz10_0
      try clear hfz10_1
      try clear hfz10_2
      try clear hfz10_3
      try clear hfz13_0
      try clear hfz13_1
      try clear hfz13_2
      try clear hfz13_3
      try clear hfz14_0
      try clear hfz14_1
      try clear hfz14_2
      try clear hfz14_3
      try clear hfz15_0
      try clear hfz15_1
      try clear hfz15_2
      try clear hfz15_3
      try clear hfz22_0
      try clear hfz22_1
      try clear hfz22_2
      try clear hfz22_3
      try clear hfz26_0
      try clear hfz26_1
      try clear hfz26_2
      try clear hfz26_3
      try clear hfz7_0
      try clear hfz7_1
      try clear hfz7_2
      try clear hfz7_3
      try clear p2
      obtain ⟨kq, x29_16, rfl, HA, HJ16, BK459, HB⟩ := hcut
      cases kq with
      | zero => exact absurd HA.out (by simp [Zap.j1])
      | succ kj16 =>
       have H := HA.out
       clear HA
       simp only [Zap.j1] at H
       by_cases c28 : x29_16 = true
       ·subst c28
        have H1 : (some 4) = some r := by rw [if_pos rfl] at H; exact H
        clear H
        have H := H1
        clear H1
        obtain rfl := Option.some.inj H
        go_wp2
        go_ret
        exact ⟨by first | rfl | (simp [Zo, Zp] <;> rfl) | (simp [*, Zo, Zp] <;> rfl), by repeat (first | (with_reducible first | exact HB.out | apply Ze | apply Zf | apply Zd | refine Zk ?_ GE459.out) | exact HB.out)⟩
       ·replace c28 := Bool.eq_false_iff.mpr c28
        subst c28
        have H1 : (if t460 = 3 then (Zap.j2 kj16 a1 a2 t460 (decide ((IntKind.u64.wrap ((IntKind.u64.wrap ((IntKind.u64.wrap (a1)) + 1)) + (IntKind.u64.wrap (a0_3)))) ≥ (IntKind.u64.wrap (a2)))) a0_0 a0_1 a0_2 a0_3) else (Zap.j2 kj16 a1 a2 t460 false a0_0 a0_1 a0_2 a0_3)) = some r := by rw [if_neg (show ¬ (false = true) by decide)] at H; exact H
        clear H
        have H := H1
        clear H1
        have HC29 := Za.mk H
        clear H
        go_upto_region 8 with (fail)
        go_cut [39] (fun v39 wc => ∃ (kq : Nat) (x39_28 : Bool), v39 = .bool x39_28 ∧ Za (Zap.j2 kq a1 a2 t460 x39_28 a0_0 a0_1 a0_2 a0_3 = some r) ∧ Za (kq ≤ kj16) ∧ Za (wc.heap[gb459]? = some (.cells #[.int .u16 a0_0, .int .u8 a0_1, .int .u8 a0_2, .int .u32 a0_3] 54 (0, 0))) ∧ Za (Below w.heap.size w wc))
        case first =>
         have H := HC29.out
         clear HC29
         by_cases c30 : t460 = 3
         ·rw [if_pos c30] at H
          have c30b0 : (t460 == 3) = true := beq_iff_eq.mpr c30
          have c30b1 : (t460 != 3) = false := bne_eq_false_iff_eq.mpr c30
          clear c30
          (first | rw [c30b0] | (simp only [Zn, Zq]; rw [c30b0]) | skip)
          have H' := Za.mk H
          clear H
          have hcz31_0 : wc.cell? ⟨gb459, 0, none⟩ = some (.int .u16 a0_0) := (Zg BK459.out 0).trans rfl
          have hcz31_1 : wc.cell? ⟨gb459, 1, none⟩ = some (.int .u8 a0_1) := (Zg BK459.out 1).trans rfl
          have hcz31_2 : wc.cell? ⟨gb459, 2, none⟩ = some (.int .u8 a0_2) := (Zg BK459.out 2).trans rfl
          have hcz31_3 : wc.cell? ⟨gb459, 3, none⟩ = some (.int .u32 a0_3) := (Zg BK459.out 3).trans rfl
          have hfz31_0 := Zl BK459.out 0
          have hfz31_1 := Zl BK459.out 1
          have hfz31_2 := Zl BK459.out 2
          have hfz31_3 := Zl BK459.out 3
          go_wp2
          go_meet
          case rel => exact ⟨_, (decide ((IntKind.u64.wrap ((IntKind.u64.wrap ((IntKind.u64.wrap (a1)) + 1)) + (IntKind.u64.wrap (a0_3)))) ≥ (IntKind.u64.wrap (a2)))), (by first | rfl | (simp; done) | (simp [*]; done)), H', ⟨by have := HJ7.out; have := HJ16.out; first | omega | exact Nat.le_refl _⟩, ⟨by (with_reducible repeat (first | refine Zj ?_ _ | refine Zh ?_ | refine Zi ?_ _)); exact BK459.out⟩, ⟨by repeat (first | (with_reducible first | exact HB.out | apply Ze | apply Zf | apply Zd | refine Zk ?_ GE459.out) | exact HB.out)⟩⟩
         ·rw [if_neg c30] at H
          have c30b0 : (t460 == 3) = false := beq_eq_false_iff_ne.mpr c30
          have c30b1 : (t460 != 3) = true := bne_iff_ne.mpr c30
          (first | rw [c30b0] | (simp only [Zn, Zq]; rw [c30b0]) | skip)
          have H' := Za.mk H
          clear H
          go_wp2
          go_meet
          case rel => exact ⟨_, (false), (by first | rfl | (simp; done) | (simp [*]; done)), H', ⟨by have := HJ7.out; have := HJ16.out; first | omega | exact Nat.le_refl _⟩, ⟨by (with_reducible repeat (first | refine Zj ?_ _ | refine Zh ?_ | refine Zi ?_ _)); exact BK459.out⟩, ⟨by repeat (first | (with_reducible first | exact HB.out | apply Ze | apply Zf | apply Zd | refine Zk ?_ GE459.out) | exact HB.out)⟩⟩
        case rest =>
         clear HC29
         try clear c1
         try clear c2
         try clear p2
         try clear c3
         try clear c4
         try clear c5
         try clear c5b0
         try clear c5b1
         try clear c6
         try clear c11
         try clear c11b0
         try clear c11b1
         try clear c12
         try clear c12b0
         try clear c12b1
         try clear c16
         try clear c19
         try clear c28
         try clear c30
         try clear c30b0
         try clear c30b1
         try clear hcz10_0
         try clear hcz10_1
         try clear hcz10_2
         try clear hcz10_3
         try clear hcz13_0
         try clear hcz13_1
         try clear hcz13_2
         try clear hcz13_3
         try clear hcz14_0
         try clear hcz14_1
         try clear hcz14_2
         try clear hcz14_3
         try clear hcz15_0
         try clear hcz15_1
         try clear hcz15_2
         try clear hcz15_3
         try clear hcz22_0
         try clear hcz22_1
         try clear hcz22_2
         try clear hcz22_3
         try clear hcz26_0
         try clear hcz26_1
         try clear hcz26_2
         try clear hcz26_3
         try clear hcz31_0
         try clear hcz31_1
         try clear hcz31_2
         try clear hcz31_3
         try clear hcz7_0
         try clear hcz7_1
         try clear hcz7_2
         try clear hcz7_3
         try clear hfz10_0
         try clear hfz10_1
         try clear hfz10_2
         try clear hfz10_3
         try clear hfz13_0
         try clear hfz13_1
         try clear hfz13_2
         try clear hfz13_3
         try clear hfz14_0
         try clear hfz14_1
         try clear hfz14_2
         try clear hfz14_3
         try clear hfz15_0
         try clear hfz15_1
         try clear hfz15_2
         try clear hfz15_3
         try clear hfz22_0
         try clear hfz22_1
         try clear hfz22_2
         try clear hfz22_3
         try clear hfz26_0
         try clear hfz26_1
         try clear hfz26_2
         try clear hfz26_3
         try clear hfz31_0
         try clear hfz31_1
         try clear hfz31_2
         try clear hfz31_3
         try clear hfz7_0
         try clear hfz7_1
         try clear hfz7_2
         try clear hfz7_3
         try clear p2
         obtain ⟨kq, x39_28, rfl, HA, HJ28, BK459, HB⟩ := hcut
         cases kq with
         | zero => exact absurd HA.out (by simp [Zap.j2])
         | succ kj28 =>
          have H := HA.out
          clear HA
          simp only [Zap.j2] at H
          by_cases c32 : x39_28 = true
          ·subst c32
           have H1 : (some 5) = some r := by rw [if_pos rfl] at H; exact H
           clear H
           have H := H1
           clear H1
           obtain rfl := Option.some.inj H
           go_wp2
           go_ret
           exact ⟨by first | rfl | (simp [Zo, Zp] <;> rfl) | (simp [*, Zo, Zp] <;> rfl), by repeat (first | (with_reducible first | exact HB.out | apply Ze | apply Zf | apply Zd | refine Zk ?_ GE459.out) | exact HB.out)⟩
          ·replace c32 := Bool.eq_false_iff.mpr c32
           subst c32
           have H1 : (if t460 = 2 then (Zap.j3 kj28 a1 a2 t460 (decide ((wrap64 ((wrap64 (a1 + 1)) + (wrap64 (mx a0_1 a0_2)))) ≥ a2)) a0_0 a0_1 a0_2 a0_3) else (Zap.j3 kj28 a1 a2 t460 false a0_0 a0_1 a0_2 a0_3)) = some r := by rw [if_neg (show ¬ (false = true) by decide)] at H; exact H
           clear H
           have H := H1
           clear H1
           have HC33 := Za.mk H
           clear H
           go_upto_region 10 with (fail)
           go_cut [54] (fun v54 wc => ∃ (kq : Nat) (x54_32 : Bool), v54 = .bool x54_32 ∧ Za (Zap.j3 kq a1 a2 t460 x54_32 a0_0 a0_1 a0_2 a0_3 = some r) ∧ Za (kq ≤ kj28) ∧ Za (wc.heap[gb459]? = some (.cells #[.int .u16 a0_0, .int .u8 a0_1, .int .u8 a0_2, .int .u32 a0_3] 54 (0, 0))) ∧ Za (Below w.heap.size w wc))
           case first =>
            have H := HC33.out
            clear HC33
            by_cases c34 : t460 = 2
            ·rw [if_pos c34] at H
             have c34b0 : (t460 == 2) = true := beq_iff_eq.mpr c34
             have c34b1 : (t460 != 2) = false := bne_eq_false_iff_eq.mpr c34
             clear c34
             (first | rw [c34b0] | (simp only [Zn, Zq]; rw [c34b0]) | skip)
             obtain ⟨ji35, hji35⟩ : ∃ j_ : Int, (mx a0_1 a0_2) = j_ := ⟨_, rfl⟩
             replace H : (Zap.j3 kj28 a1 a2 t460 (decide ((wrap64 ((wrap64 (a1 + 1)) + (wrap64 (ji35)))) ≥ a2)) a0_0 a0_1 a0_2 a0_3) = some r := by first | (rw [hji35] at H; exact H) | (simp only [hji35] at H ⊢; exact H)
             have hji35_ : (if a0_1 < a0_2 then a0_2 else a0_1) = ji35 := hji35
             have H' := Za.mk H
             clear H
             have hcz36_0 : wc.cell? ⟨gb459, 0, none⟩ = some (.int .u16 a0_0) := (Zg BK459.out 0).trans rfl
             have hcz36_1 : wc.cell? ⟨gb459, 1, none⟩ = some (.int .u8 a0_1) := (Zg BK459.out 1).trans rfl
             have hcz36_2 : wc.cell? ⟨gb459, 2, none⟩ = some (.int .u8 a0_2) := (Zg BK459.out 2).trans rfl
             have hcz36_3 : wc.cell? ⟨gb459, 3, none⟩ = some (.int .u32 a0_3) := (Zg BK459.out 3).trans rfl
             have hfz36_0 := Zl BK459.out 0
             have hfz36_1 := Zl BK459.out 1
             have hfz36_2 := Zl BK459.out 2
             have hfz36_3 := Zl BK459.out 3
             go_wp2
             go_meet
             case rel => exact ⟨_, (decide ((wrap64 ((wrap64 (a1 + 1)) + (wrap64 (ji35)))) ≥ a2)), (by first | rfl | (simp; done) | (simp only [hji35v (by first | omega | (simp only [decide_eq_true_eq] at *; omega))]; done) | (simp only [← hji35] <;> (first | rfl | simp)) | (simp [*]; done)), H', ⟨by have := HJ7.out; have := HJ16.out; have := HJ28.out; first | omega | exact Nat.le_refl _⟩, ⟨by (with_reducible repeat (first | refine Zj ?_ _ | refine Zh ?_ | refine Zi ?_ _)); exact BK459.out⟩, ⟨by repeat (first | (with_reducible first | exact HB.out | apply Ze | apply Zf | apply Zd | refine Zk ?_ GE459.out) | exact HB.out)⟩⟩
            ·rw [if_neg c34] at H
             have c34b0 : (t460 == 2) = false := beq_eq_false_iff_ne.mpr c34
             have c34b1 : (t460 != 2) = true := bne_iff_ne.mpr c34
             (first | rw [c34b0] | (simp only [Zn, Zq]; rw [c34b0]) | skip)
             have H' := Za.mk H
             clear H
             go_wp2
             go_meet
             case rel => exact ⟨_, (false), (by first | rfl | (simp; done) | (simp [*]; done)), H', ⟨by have := HJ7.out; have := HJ16.out; have := HJ28.out; first | omega | exact Nat.le_refl _⟩, ⟨by (with_reducible repeat (first | refine Zj ?_ _ | refine Zh ?_ | refine Zi ?_ _)); exact BK459.out⟩, ⟨by repeat (first | (with_reducible first | exact HB.out | apply Ze | apply Zf | apply Zd | refine Zk ?_ GE459.out) | exact HB.out)⟩⟩
           case rest =>
            clear HC33
            try clear c1
            try clear c2
            try clear p2
            try clear c3
            try clear c4
            try clear c5
            try clear c5b0
            try clear c5b1
            try clear c6
            try clear p6
            try clear c11
            try clear c11b0
            try clear c11b1
            try clear c12
            try clear c12b0
            try clear c12b1
            try clear c16
            try clear c19
            try clear c28
            try clear c30
            try clear c30b0
            try clear c30b1
            try clear c32
            try clear c34
            try clear c34b0
            try clear c34b1
            try clear hcz10_0
            try clear hcz10_1
            try clear hcz10_2
            try clear hcz10_3
            try clear hcz13_0
            try clear hcz13_1
            try clear hcz13_2
            try clear hcz13_3
            try clear hcz14_0
            try clear hcz14_1
            try clear hcz14_2
            try clear hcz14_3
            try clear hcz15_0
            try clear hcz15_1
            try clear hcz15_2
            try clear hcz15_3
            try clear hcz22_0
            try clear hcz22_1
            try clear hcz22_2
            try clear hcz22_3
            try clear hcz26_0
            try clear hcz26_1
            try clear hcz26_2
            try clear hcz26_3
            try clear hcz31_0
            try clear hcz31_1
            try clear hcz31_2
            try clear hcz31_3
            try clear hcz36_0
            try clear hcz36_1
            try clear hcz36_2
            try clear hcz36_3
            try clear hcz7_0
            try clear hcz7_1
            try clear hcz7_2
            try clear hcz7_3
            try clear hfz10_0
            try clear hfz10_1
            try clear hfz10_2
            try clear hfz10_3
            try clear hfz13_0
            try clear hfz13_1
            try clear hfz13_2
            try clear hfz13_3
            try clear hfz14_0
            try clear hfz14_1
            try clear hfz14_2
            try clear hfz14_3
            try clear hfz15_0
            try clear hfz15_1
            try clear hfz15_2
            try clear hfz15_3
            try clear hfz22_0
            try clear hfz22_1
            try clear hfz22_2
            try clear hfz22_3
            try clear hfz26_0
            try clear hfz26_1
            try clear hfz26_2
            try clear hfz26_3
            try clear hfz31_0
            try clear hfz31_1
            try clear hfz31_2
            try clear hfz31_3
            try clear hfz36_0
            try clear hfz36_1
            try clear hfz36_2
            try clear hfz36_3
            try clear hfz7_0
            try clear hfz7_1
            try clear hfz7_2
            try clear hfz7_3
            try clear p2
            obtain ⟨kq, x54_32, rfl, HA, HJ32, BK459, HB⟩ := hcut
            cases kq with
            | zero => exact absurd HA.out (by simp [Zap.j3])
            | succ kj32 =>
             have H := HA.out
             clear HA
             simp only [Zap.j3] at H
             by_cases c37 : x54_32 = true
             ·subst c37
              have H1 : (some 5) = some r := by rw [if_pos rfl] at H; exact H
              clear H
              have H := H1
              clear H1
              obtain rfl := Option.some.inj H
              go_wp2
              go_ret
              exact ⟨by first | rfl | (simp [Zo, Zp] <;> rfl) | (simp [*, Zo, Zp] <;> rfl), by repeat (first | (with_reducible first | exact HB.out | apply Ze | apply Zf | apply Zd | refine Zk ?_ GE459.out) | exact HB.out)⟩
             ·replace c37 := Bool.eq_false_iff.mpr c37
              subst c37
              have H1 : (if a0_0 = 52 then (Zap.j4 kj32 a1 a2 t460 (a0_3 == 0) a0_0 a0_1 a0_2 a0_3) else (Zap.j4 kj32 a1 a2 t460 false a0_0 a0_1 a0_2 a0_3)) = some r := by rw [if_neg (show ¬ (false = true) by decide)] at H; exact H
              clear H
              have H := H1
              clear H1
              have HC38 := Za.mk H
              clear H
              go_upto_region 12 with (fail)
              go_cut [70] (fun v70 wc => ∃ (kq : Nat) (x70_37 : Bool), v70 = .bool x70_37 ∧ Za (Zap.j4 kq a1 a2 t460 x70_37 a0_0 a0_1 a0_2 a0_3 = some r) ∧ Za (kq ≤ kj32) ∧ Za (wc.heap[gb459]? = some (.cells #[.int .u16 a0_0, .int .u8 a0_1, .int .u8 a0_2, .int .u32 a0_3] 54 (0, 0))) ∧ Za (Below w.heap.size w wc))
              case first =>
               have H := HC38.out
               clear HC38
               by_cases c39 : a0_0 = 52
               ·rw [if_pos c39] at H
                have c39b0 : (a0_0 == 52) = true := beq_iff_eq.mpr c39
                have c39b1 : (a0_0 != 52) = false := bne_eq_false_iff_eq.mpr c39
                clear c39
                (first | rw [c39b0] | (simp only [Zn, Zq]; rw [c39b0]) | skip)
                have H' := Za.mk H
                clear H
                have hcz40_0 : wc.cell? ⟨gb459, 0, none⟩ = some (.int .u16 a0_0) := (Zg BK459.out 0).trans rfl
                have hcz40_1 : wc.cell? ⟨gb459, 1, none⟩ = some (.int .u8 a0_1) := (Zg BK459.out 1).trans rfl
                have hcz40_2 : wc.cell? ⟨gb459, 2, none⟩ = some (.int .u8 a0_2) := (Zg BK459.out 2).trans rfl
                have hcz40_3 : wc.cell? ⟨gb459, 3, none⟩ = some (.int .u32 a0_3) := (Zg BK459.out 3).trans rfl
                have hfz40_0 := Zl BK459.out 0
                have hfz40_1 := Zl BK459.out 1
                have hfz40_2 := Zl BK459.out 2
                have hfz40_3 := Zl BK459.out 3
                go_wp2
                go_meet
                case rel => exact ⟨_, ((a0_3 == 0)), (by first | rfl | (simp; done) | (simp [*]; done)), H', ⟨by have := HJ7.out; have := HJ16.out; have := HJ28.out; have := HJ32.out; first | omega | exact Nat.le_refl _⟩, ⟨by (with_reducible repeat (first | refine Zj ?_ _ | refine Zh ?_ | refine Zi ?_ _)); exact BK459.out⟩, ⟨by repeat (first | (with_reducible first | exact HB.out | apply Ze | apply Zf | apply Zd | refine Zk ?_ GE459.out) | exact HB.out)⟩⟩
               ·rw [if_neg c39] at H
                have c39b0 : (a0_0 == 52) = false := beq_eq_false_iff_ne.mpr c39
                have c39b1 : (a0_0 != 52) = true := bne_iff_ne.mpr c39
                (first | rw [c39b0] | (simp only [Zn, Zq]; rw [c39b0]) | skip)
                have H' := Za.mk H
                clear H
                have hcz41_0 : wc.cell? ⟨gb459, 0, none⟩ = some (.int .u16 a0_0) := (Zg BK459.out 0).trans rfl
                have hcz41_1 : wc.cell? ⟨gb459, 1, none⟩ = some (.int .u8 a0_1) := (Zg BK459.out 1).trans rfl
                have hcz41_2 : wc.cell? ⟨gb459, 2, none⟩ = some (.int .u8 a0_2) := (Zg BK459.out 2).trans rfl
                have hcz41_3 : wc.cell? ⟨gb459, 3, none⟩ = some (.int .u32 a0_3) := (Zg BK459.out 3).trans rfl
                have hfz41_0 := Zl BK459.out 0
                have hfz41_1 := Zl BK459.out 1
                have hfz41_2 := Zl BK459.out 2
                have hfz41_3 := Zl BK459.out 3
                go_wp2
                go_meet
                case rel => exact ⟨_, (false), (by first | rfl | (simp; done) | (simp [*]; done)), H', ⟨by have := HJ7.out; have := HJ16.out; have := HJ28.out; have := HJ32.out; first | omega | exact Nat.le_refl _⟩, ⟨by (with_reducible repeat (first | refine Zj ?_ _ | refine Zh ?_ | refine Zi ?_ _)); exact BK459.out⟩, ⟨by repeat (first | (with_reducible first | exact HB.out | apply Ze | apply Zf | apply Zd | refine Zk ?_ GE459.out) | exact HB.out)⟩⟩
              case rest =>
               clear HC38
               try clear c1
               try clear c2
               try clear p2
               try clear c3
               try clear c4
               try clear c5
               try clear c5b0
               try clear c5b1
               try clear c6
               try clear p6
               try clear c11
               try clear c11b0
               try clear c11b1
               try clear c12
               try clear c12b0
               try clear c12b1
               try clear c16
               try clear c19
               try clear c28
               try clear c30
               try clear c30b0
               try clear c30b1
               try clear c32
               try clear c34
               try clear c34b0
               try clear c34b1
               try clear c37
               try clear c39
               try clear c39b0
               try clear c39b1
               try clear hcz10_0
               try clear hcz10_1
               try clear hcz10_2
               try clear hcz10_3
               try clear hcz13_0
               try clear hcz13_1
               try clear hcz13_2
               try clear hcz13_3
               try clear hcz14_0
               try clear hcz14_1
               try clear hcz14_2
               try clear hcz14_3
               try clear hcz15_0
               try clear hcz15_1
               try clear hcz15_2
               try clear hcz15_3
               try clear hcz22_0
               try clear hcz22_1
               try clear hcz22_2
               try clear hcz22_3
               try clear hcz26_0
               try clear hcz26_1
               try clear hcz26_2
               try clear hcz26_3
               try clear hcz31_0
               try clear hcz31_1
               try clear hcz31_2
               try clear hcz31_3
               try clear hcz36_0
               try clear hcz36_1
               try clear hcz36_2
               try clear hcz36_3
               try clear hcz40_0
               try clear hcz40_1
               try clear hcz40_2
               try clear hcz40_3
               try clear hcz41_0
               try clear hcz41_1
               try clear hcz41_2
               try clear hcz41_3
               try clear hcz7_0
               try clear hcz7_1
               try clear hcz7_2
               try clear hcz7_3
               try clear hfz10_0
               try clear hfz10_1
               try clear hfz10_2
               try clear hfz10_3
               try clear hfz13_0
               try clear hfz13_1
               try clear hfz13_2
               try clear hfz13_3
               try clear hfz14_0
               try clear hfz14_1
               try clear hfz14_2
               try clear hfz14_3
               try clear hfz15_0
               try clear hfz15_1
               try clear hfz15_2
               try clear hfz15_3
               try clear hfz22_0
               try clear hfz22_1
               try clear hfz22_2
               try clear hfz22_3
               try clear hfz26_0
               try clear hfz26_1
               try clear hfz26_2
               try clear hfz26_3
               try clear hfz31_0
               try clear hfz31_1
               try clear hfz31_2
               try clear hfz31_3
               try clear hfz36_0
               try clear hfz36_1
               try clear hfz36_2
               try clear hfz36_3
               try clear hfz40_0
               try clear hfz40_1
               try clear hfz40_2
               try clear hfz40_3
               try clear hfz41_0
               try clear hfz41_1
               try clear hfz41_2
               try clear hfz41_3
               try clear hfz7_0
               try clear hfz7_1
               try clear hfz7_2
               try clear hfz7_3
               try clear p2
               try clear p6
               obtain ⟨kq, x70_37, rfl, HA, HJ37, BK459, HB⟩ := hcut
               cases kq with
               | zero => exact absurd HA.out (by simp [Zap.j4])
               | succ kj37 =>
                have H := HA.out
                clear HA
                simp only [Zap.j4] at H
                have HC42 := Za.mk H
                clear H
                go_upto_if 70 with (fail)
                go_cut [70] (fun v70 wc => ∃ (kq : Nat) (x70_41 : Bool), v70 = .bool x70_41 ∧ Za (Zap.j5 kq a1 a2 t460 x70_41 = some r) ∧ Za (kq ≤ kj37) ∧ Za (wc.heap[gb459]? = some (.cells #[.int .u16 a0_0, .int .u8 a0_1, .int .u8 a0_2, .int .u32 a0_3] 54 (0, 0))) ∧ Za (Below w.heap.size w wc))
                case first =>
                 have H := HC42.out
                 clear HC42
                 by_cases c43 : x70_37 = true
                 ·subst c43
                  have H1 : (Zap.j5 kj37 a1 a2 t460 true) = some r := by rw [if_pos rfl] at H; exact H
                  clear H
                  have H := H1
                  clear H1
                  have H' := Za.mk H
                  clear H
                  go_wp2
                  go_meet
                  case rel => exact ⟨_, (true), (by first | rfl | (simp; done) | (simp [*]; done)), H', ⟨by have := HJ7.out; have := HJ16.out; have := HJ28.out; have := HJ32.out; have := HJ37.out; first | omega | exact Nat.le_refl _⟩, ⟨by (with_reducible repeat (first | refine Zj ?_ _ | refine Zh ?_ | refine Zi ?_ _)); exact BK459.out⟩, ⟨by repeat (first | (with_reducible first | exact HB.out | apply Ze | apply Zf | apply Zd | refine Zk ?_ GE459.out) | exact HB.out)⟩⟩
                 ·replace c43 := Bool.eq_false_iff.mpr c43
                  subst c43
                  have H1 : (if a0_0 = 100 then (Zap.j5 kj37 a1 a2 t460 (decide (a0_3 ≥ 32))) else (if a0_0 = 116 then (Zap.j5 kj37 a1 a2 t460 (decide (a0_3 ≥ 32))) else (Zap.j5 kj37 a1 a2 t460 false))) = some r := by rw [if_neg (show ¬ (false = true) by decide)] at H; exact H
                  clear H
                  have H := H1
                  clear H1
                  by_cases c44 : a0_0 = 100
                  ·rw [if_pos c44] at H
                   have c44b0 : (a0_0 == 100) = true := beq_iff_eq.mpr c44
                   have c44b1 : (a0_0 != 100) = false := bne_eq_false_iff_eq.mpr c44
                   clear c44
                   (first | rw [c44b0] | (simp only [Zn, Zq]; rw [c44b0]) | skip)
                   have H' := Za.mk H
                   clear H
                   have hcz45_0 : wc.cell? ⟨gb459, 0, none⟩ = some (.int .u16 a0_0) := (Zg BK459.out 0).trans rfl
                   have hcz45_1 : wc.cell? ⟨gb459, 1, none⟩ = some (.int .u8 a0_1) := (Zg BK459.out 1).trans rfl
                   have hcz45_2 : wc.cell? ⟨gb459, 2, none⟩ = some (.int .u8 a0_2) := (Zg BK459.out 2).trans rfl
                   have hcz45_3 : wc.cell? ⟨gb459, 3, none⟩ = some (.int .u32 a0_3) := (Zg BK459.out 3).trans rfl
                   have hfz45_0 := Zl BK459.out 0
                   have hfz45_1 := Zl BK459.out 1
                   have hfz45_2 := Zl BK459.out 2
                   have hfz45_3 := Zl BK459.out 3
                   go_wp2
                   go_meet
                   case rel => exact ⟨_, (decide (a0_3 ≥ 32)), (by first | rfl | (simp; done) | (simp [*]; done)), H', ⟨by have := HJ7.out; have := HJ16.out; have := HJ28.out; have := HJ32.out; have := HJ37.out; first | omega | exact Nat.le_refl _⟩, ⟨by (with_reducible repeat (first | refine Zj ?_ _ | refine Zh ?_ | refine Zi ?_ _)); exact BK459.out⟩, ⟨by repeat (first | (with_reducible first | exact HB.out | apply Ze | apply Zf | apply Zd | refine Zk ?_ GE459.out) | exact HB.out)⟩⟩
                  ·rw [if_neg c44] at H
                   have c44b0 : (a0_0 == 100) = false := beq_eq_false_iff_ne.mpr c44
                   have c44b1 : (a0_0 != 100) = true := bne_iff_ne.mpr c44
                   (first | rw [c44b0] | (simp only [Zn, Zq]; rw [c44b0]) | skip)
                   by_cases c46 : a0_0 = 116
                   ·rw [if_pos c46] at H
                    have c46b0 : (a0_0 == 116) = true := beq_iff_eq.mpr c46
                    have c46b1 : (a0_0 != 116) = false := bne_eq_false_iff_eq.mpr c46
                    clear c46
                    have H' := Za.mk H
                    clear H
                    have hcz47_0 : wc.cell? ⟨gb459, 0, none⟩ = some (.int .u16 a0_0) := (Zg BK459.out 0).trans rfl
                    have hcz47_1 : wc.cell? ⟨gb459, 1, none⟩ = some (.int .u8 a0_1) := (Zg BK459.out 1).trans rfl
                    have hcz47_2 : wc.cell? ⟨gb459, 2, none⟩ = some (.int .u8 a0_2) := (Zg BK459.out 2).trans rfl
                    have hcz47_3 : wc.cell? ⟨gb459, 3, none⟩ = some (.int .u32 a0_3) := (Zg BK459.out 3).trans rfl
                    have hfz47_0 := Zl BK459.out 0
                    have hfz47_1 := Zl BK459.out 1
                    have hfz47_2 := Zl BK459.out 2
                    have hfz47_3 := Zl BK459.out 3
                    go_wp2
                    go_meet
                    case rel => exact ⟨_, (decide (a0_3 ≥ 32)), (by first | rfl | (simp; done) | (simp [*]; done)), H', ⟨by have := HJ7.out; have := HJ16.out; have := HJ28.out; have := HJ32.out; have := HJ37.out; first | omega | exact Nat.le_refl _⟩, ⟨by (with_reducible repeat (first | refine Zj ?_ _ | refine Zh ?_ | refine Zi ?_ _)); exact BK459.out⟩, ⟨by repeat (first | (with_reducible first | exact HB.out | apply Ze | apply Zf | apply Zd | refine Zk ?_ GE459.out) | exact HB.out)⟩⟩
                   ·rw [if_neg c46] at H
                    have c46b0 : (a0_0 == 116) = false := beq_eq_false_iff_ne.mpr c46
                    have c46b1 : (a0_0 != 116) = true := bne_iff_ne.mpr c46
                    have H' := Za.mk H
                    clear H
                    have hcz48_0 : wc.cell? ⟨gb459, 0, none⟩ = some (.int .u16 a0_0) := (Zg BK459.out 0).trans rfl
                    have hcz48_1 : wc.cell? ⟨gb459, 1, none⟩ = some (.int .u8 a0_1) := (Zg BK459.out 1).trans rfl
                    have hcz48_2 : wc.cell? ⟨gb459, 2, none⟩ = some (.int .u8 a0_2) := (Zg BK459.out 2).trans rfl
                    have hcz48_3 : wc.cell? ⟨gb459, 3, none⟩ = some (.int .u32 a0_3) := (Zg BK459.out 3).trans rfl
                    have hfz48_0 := Zl BK459.out 0
                    have hfz48_1 := Zl BK459.out 1
                    have hfz48_2 := Zl BK459.out 2
                    have hfz48_3 := Zl BK459.out 3
                    go_wp2
                    go_meet
                    case rel => exact ⟨_, (false), (by first | rfl | (simp; done) | (simp [*]; done)), H', ⟨by have := HJ7.out; have := HJ16.out; have := HJ28.out; have := HJ32.out; have := HJ37.out; first | omega | exact Nat.le_refl _⟩, ⟨by (with_reducible repeat (first | refine Zj ?_ _ | refine Zh ?_ | refine Zi ?_ _)); exact BK459.out⟩, ⟨by repeat (first | (with_reducible first | exact HB.out | apply Ze | apply Zf | apply Zd | refine Zk ?_ GE459.out) | exact HB.out)⟩⟩
                case rest =>
                 clear HC42
                 try clear c1
                 try clear c2
                 try clear p2
                 try clear c3
                 try clear c4
                 try clear c5
                 try clear c5b0
                 try clear c5b1
                 try clear c6
                 try clear p6
                 try clear c11
                 try clear c11b0
                 try clear c11b1
                 try clear c12
                 try clear c12b0
                 try clear c12b1
                 try clear c16
                 try clear c19
                 try clear c28
                 try clear c30
                 try clear c30b0
                 try clear c30b1
                 try clear c32
                 try clear c34
                 try clear c34b0
                 try clear c34b1
                 try clear c37
                 try clear c39
                 try clear c39b0
                 try clear c39b1
                 try clear c43
                 try clear c44
                 try clear c44b0
                 try clear c44b1
                 try clear c46
                 try clear c46b0
                 try clear c46b1
                 try clear hcz10_0
                 try clear hcz10_1
                 try clear hcz10_2
                 try clear hcz10_3
                 try clear hcz13_0
                 try clear hcz13_1
                 try clear hcz13_2
                 try clear hcz13_3
                 try clear hcz14_0
                 try clear hcz14_1
                 try clear hcz14_2
                 try clear hcz14_3
                 try clear hcz15_0
                 try clear hcz15_1
                 try clear hcz15_2
                 try clear hcz15_3
                 try clear hcz22_0
                 try clear hcz22_1
                 try clear hcz22_2
                 try clear hcz22_3
                 try clear hcz26_0
                 try clear hcz26_1
                 try clear hcz26_2
                 try clear hcz26_3
                 try clear hcz31_0
                 try clear hcz31_1
                 try clear hcz31_2
                 try clear hcz31_3
                 try clear hcz36_0
                 try clear hcz36_1
                 try clear hcz36_2
                 try clear hcz36_3
                 try clear hcz40_0
                 try clear hcz40_1
                 try clear hcz40_2
                 try clear hcz40_3
                 try clear hcz41_0
                 try clear hcz41_1
                 try clear hcz41_2
                 try clear hcz41_3
                 try clear hcz45_0
                 try clear hcz45_1
                 try clear hcz45_2
                 try clear hcz45_3
                 try clear hcz47_0
                 try clear hcz47_1
                 try clear hcz47_2
                 try clear hcz47_3
                 try clear hcz48_0
                 try clear hcz48_1
                 try clear hcz48_2
                 try clear hcz48_3
                 try clear hcz7_0
                 try clear hcz7_1
                 try clear hcz7_2
                 try clear hcz7_3
                 try clear hfz10_0
                 try clear hfz10_1
                 try clear hfz10_2
                 try clear hfz10_3
                 try clear hfz13_0
                 try clear hfz13_1
                 try clear hfz13_2
                 try clear hfz13_3
                 try clear hfz14_0
                 try clear hfz14_1
                 try clear hfz14_2
                 try clear hfz14_3
                 try clear hfz15_0
                 try clear hfz15_1
                 try clear hfz15_2
                 try clear hfz15_3
                 try clear hfz22_0
                 try clear hfz22_1
                 try clear hfz22_2
                 try clear hfz22_3
                 try clear hfz26_0
                 try clear hfz26_1
                 try clear hfz26_2
                 try clear hfz26_3
                 try clear hfz31_0
                 try clear hfz31_1
                 try clear hfz31_2
                 try clear hfz31_3
                 try clear hfz36_0
                 try clear hfz36_1
                 try clear hfz36_2
                 try clear hfz36_3
                 try clear hfz40_0
                 try clear hfz40_1
                 try clear hfz40_2
                 try clear hfz40_3
                 try clear hfz41_0
                 try clear hfz41_1
                 try clear hfz41_2
                 try clear hfz41_3
                 try clear hfz45_0
                 try clear hfz45_1
                 try clear hfz45_2
                 try clear hfz45_3
                 try clear hfz47_0
                 try clear hfz47_1
                 try clear hfz47_2
                 try clear hfz47_3
                 try clear hfz48_0
                 try clear hfz48_1
                 try clear hfz48_2
                 try clear hfz48_3
                 try clear hfz7_0
                 try clear hfz7_1
                 try clear hfz7_2
                 try clear hfz7_3
                 try clear p2
                 try clear p6
                 obtain ⟨kq, x70_41, rfl, HA, HJ41, BK459, HB⟩ := hcut
                 cases kq with
                 | zero => exact absurd HA.out (by simp [Zap.j5])
                 | succ kj41 =>
                  have H := HA.out
                  clear HA
                  simp only [Zap.j5] at H
                  by_cases c49 : x70_41 = true
                  ·subst c49
                   have H1 : (some 6) = some r := by rw [if_pos rfl] at H; exact H
                   clear H
                   have H := H1
                   clear H1
                   obtain rfl := Option.some.inj H
                   go_wp2
                   go_ret
                   exact ⟨by first | rfl | (simp [Zo, Zp] <;> rfl) | (simp [*, Zo, Zp] <;> rfl), by repeat (first | (with_reducible first | exact HB.out | apply Ze | apply Zf | apply Zd | refine Zk ?_ GE459.out) | exact HB.out)⟩
                  ·replace c49 := Bool.eq_false_iff.mpr c49
                   subst c49
                   have H1 : (if a1 = (wrap64 (a2 - 1)) then (if t460 = 4 then (some 0) else (some 7)) else (some 0)) = some r := by rw [if_neg (show ¬ (false = true) by decide)] at H; exact H
                   clear H
                   have H := H1
                   clear H1
                   by_cases c50 : a1 = (wrap64 (a2 - 1))
                   ·rw [if_pos c50] at H
                    have c50b0 : (a1 == (wrap64 (a2 - 1))) = true := beq_iff_eq.mpr c50
                    have c50b1 : (a1 != (wrap64 (a2 - 1))) = false := bne_eq_false_iff_eq.mpr c50
                    clear c50
                    by_cases c51 : t460 = 4
                    ·rw [if_pos c51] at H
                     have c51b0 : (t460 == 4) = true := beq_iff_eq.mpr c51
                     have c51b1 : (t460 != 4) = false := bne_eq_false_iff_eq.mpr c51
                     clear c51
                     obtain rfl := Option.some.inj H
                     go_wp2
                     go_ret
                     exact ⟨by first | rfl | (simp [Zo, Zp] <;> rfl) | (simp [*, Zo, Zp] <;> rfl), by repeat (first | (with_reducible first | exact HB.out | apply Ze | apply Zf | apply Zd | refine Zk ?_ GE459.out) | exact HB.out)⟩
                    ·rw [if_neg c51] at H
                     have c51b0 : (t460 == 4) = false := beq_eq_false_iff_ne.mpr c51
                     have c51b1 : (t460 != 4) = true := bne_iff_ne.mpr c51
                     obtain rfl := Option.some.inj H
                     go_wp2
                     go_ret
                     exact ⟨by first | rfl | (simp [Zo, Zp] <;> rfl) | (simp [*, Zo, Zp] <;> rfl), by repeat (first | (with_reducible first | exact HB.out | apply Ze | apply Zf | apply Zd | refine Zk ?_ GE459.out) | exact HB.out)⟩
                   ·rw [if_neg c50] at H
                    have c50b0 : (a1 == (wrap64 (a2 - 1))) = false := beq_eq_false_iff_ne.mpr c50
                    have c50b1 : (a1 != (wrap64 (a2 - 1))) = true := bne_iff_ne.mpr c50
                    obtain rfl := Option.some.inj H
                    go_wp2
                    go_ret
                    exact ⟨by first | rfl | (simp [Zo, Zp] <;> rfl) | (simp [*, Zo, Zp] <;> rfl), by repeat (first | (with_reducible first | exact HB.out | apply Ze | apply Zf | apply Zd | refine Zk ?_ GE459.out) | exact HB.out)⟩

end Go.Proofs.Ytgodbniphkfgfaa.P
