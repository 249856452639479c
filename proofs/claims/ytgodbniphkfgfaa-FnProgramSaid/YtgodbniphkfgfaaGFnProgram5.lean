import Derived.Test.YtgodbniphkfgfaaGFnProgram4
namespace Go.Proofs.Ytgodbniphkfgfaa.P
open Go.RowKit Go.Proofs.YtgodbniphkfgfaaW.PrintWords Go.Proofs.YtgodbniphkfgfaaW.PrintLast Go.Proofs.YtgodbniphkfgfaaW.PrintMore
attribute [local go_sem] max2_int min2_int max_two min_two max_three min_three max_four min_four
set_option linter.unusedVariables false
set_option linter.unusedSimpArgs false

mutual
def Zbg.j0 : Nat → List (S54) → Bool → Option (Int × Int)
  | 0, _, _ => none
  | k + 1, x0, x13 => if x13 = true then (some (1, 0)) else (Zbg.l0 k x0 0)
def Zbg.l0 : Nat → List (S54) → Int → Option (Int × Int)
  | 0, _, _ => none
  | k + 1, x0, x4 => if x4 < (x0.length : Int) then ((Zal.f k x0 x4).bind fun t324 => (if t324 = 0 then (Zbg.l0 k x0 (wrap64 (x4 + 1))) else (some (t324, x4)))) else (some (0, 0))
end
def Zbg.f (k : Nat) (l0 : List (S54)) : Option (Int × Int) := if (l0.length : Int) < 1 then (Zbg.j0 k l0 true) else (Zbg.j0 k l0 (decide ((l0.length : Int) > 4096)))
set_option maxHeartbeats 8000000 in
set_option maxRecDepth 100000 in
theorem Zbg.calls (k : Nat) (A0 : Option Addr) (c0 : Nat) (l0 : List (S54)) (r1 : Int) (r2 : Int) (w : World) (hr0 : Kd.C k54 w A0 l0.length l0) (hc0 : l0.length ≤ c0) (h : Zbg.f k l0 = some (r1, r2)) :
  Calls Try.prog 26 #[.slice A0 l0.length c0] w fun e w' => e = .returned (.tuple #[.int .i64 r1, .int .i64 r2]) ∧ Below w.heap.size w w' := by
 have HR0 := Za.mk hr0
 have HC0 := Za.mk hc0
 clear hr0 hc0
 have HB := Za.mk (Below.refl w.heap.size w)
 have H : (if (l0.length : Int) < 1 then (Zbg.j0 k l0 true) else (Zbg.j0 k l0 (decide ((l0.length : Int) > 4096)))) = some (r1, r2) := h
 clear h
 have HC2 := Za.mk H
 clear H
 go_enter Try.func26, Try.ntmps26
 go_upto_region 1 with (fail)
 go_cut [13] (fun v13 wc => ∃ (kq : Nat) (x13_1 : Bool), v13 = .bool x13_1 ∧ Za (Zbg.j0 kq l0 x13_1 = some (r1, r2)) ∧ Za (kq ≤ k) ∧ Za (Below w.heap.size w wc))
 case first =>
  have H := HC2.out
  clear HC2
  by_cases c3 : (l0.length : Int) < 1
  ·rw [if_pos c3] at H
   have c3b0 : decide ((l0.length : Int) < 1) = true := decide_eq_true c3
   have c3b1 : decide (l0.length < 1) = true := decide_eq_true (by omega)
   clear c3
   (first | rw [c3b0] | (simp only [Zn, Zq]; rw [c3b0]) | skip)
   have H' := Za.mk H
   clear H
   go_wp2
   go_meet
   case rel => exact ⟨_, (true), (by first | rfl | (simp; done) | (simp [*]; done)), H', ⟨by first | omega | exact Nat.le_refl _⟩, ⟨by repeat (first | (with_reducible first | exact HB.out | apply Ze | apply Zf | apply Zd) | exact HB.out)⟩⟩
  ·rw [if_neg c3] at H
   have c3b0 : decide ((l0.length : Int) < 1) = false := decide_eq_false c3
   have c3b1 : decide (l0.length < 1) = false := decide_eq_false (by omega)
   clear c3
   (first | rw [c3b0] | (simp only [Zn, Zq]; rw [c3b0]) | skip)
   have H' := Za.mk H
   clear H
   go_wp2
   go_meet
   case rel => exact ⟨_, (decide ((l0.length : Int) > 4096)), (by first | rfl | (simp; done) | (simp [*]; done)), H', ⟨by first | omega | exact Nat.le_refl _⟩, ⟨by repeat (first | (with_reducible first | exact HB.out | apply Ze | apply Zf | apply Zd) | exact HB.out)⟩⟩
 case rest =>
  clear HC2
  try clear c2
  try clear p2
  try clear c3
  try clear c3b0
  try clear c3b1
  obtain ⟨kq, x13_1, rfl, HA, HJ1, HB⟩ := hcut
  cases kq with
  | zero => exact absurd HA.out (by simp [Zbg.j0])
  | succ kj1 =>
   have H := HA.out
   clear HA
   simp only [Zbg.j0] at H
   by_cases c4 : x13_1 = true
   ·subst c4
    have H1 : (some (1, 0)) = some (r1, r2) := by rw [if_pos rfl] at H; exact H
    clear H
    have H := H1
    clear H1
    simp only [Option.some.injEq, Prod.mk.injEq] at H
    obtain ⟨rfl, rfl⟩ := H
    go_wp2
    go_ret2
    exact ⟨by first | rfl | (simp [Zo, Zp] <;> rfl) | (simp [*, Zo, Zp] <;> rfl), by repeat (first | (with_reducible first | exact HB.out | apply Ze | apply Zf | apply Zd) | exact HB.out)⟩
   ·replace c4 := Bool.eq_false_iff.mpr c4
    subst c4
    have H1 : (Zbg.l0 kj1 l0 0) = some (r1, r2) := by rw [if_neg (show ¬ (false = true) by decide)] at H; exact H
    clear H
    have H := H1
    clear H1
    have H' := Za.mk H
    clear H
    go_wp2
    go_loopg [4] kj1 (fun kq v4 w' => ∃ (x4_2 : Int), v4 = .int .i64 x4_2 ∧ Za (Zbg.l0 kq l0 x4_2 = some (r1, r2)) ∧ Za (kq ≤ kj1) ∧ Za (Below w.heap.size w w'))
    case atStart => exact ⟨(0), (by first | rfl | (simp; done) | (simp [*]; done)), H', ⟨Nat.le_refl _⟩, ⟨by repeat (first | (with_reducible first | exact HB.out | apply Ze | apply Zf | apply Zd) | exact HB.out)⟩⟩
    case round =>
     clear H'
     try clear c2
     try clear p2
     try clear c3
     try clear c3b0
     try clear c3b1
     try clear c4
     try clear p2
     obtain ⟨x4_2, rfl, HA, HK2, HB⟩ := hrel
     cases gk with
     | zero => exact absurd HA.out (by simp [Zbg.l0])
     | succ k2 =>
      have H := HA.out
      clear HA
      simp only [Zbg.l0] at H
      by_cases c5 : x4_2 < (l0.length : Int)
      ·rw [if_pos c5] at H
       have c5b0 : decide (x4_2 < (l0.length : Int)) = true := decide_eq_true c5
       clear c5
       replace H := Option.bind_eq_some_iff.mp H
       obtain ⟨t324, A60, H⟩ := H
       (try dsimp only at H)
       have A6 := Za.mk A60
       clear A60
       by_cases c7 : t324 = 0
       ·rw [if_pos c7] at H
        have c7b0 : (t324 == 0) = true := beq_iff_eq.mpr c7
        have c7b1 : (t324 != 0) = false := bne_eq_false_iff_eq.mpr c7
        clear c7
        have H' := Za.mk H
        clear H
        go_wp2_with (first | ((with_reducible refine Zaf (f := 45) rfl ?_); refine Zae (some 22) rfl rfl Try.func45 (by kernel_rfl) rfl #[.slice A0 l0.length c0, .int .i64 x4_2] rfl (by (try simp only [ZA, ZB, ZC]); first | done | rfl) ?_; (with_reducible refine (Zal.calls k2 _ _ l0 x4_2 t324 _ ?side1 ?side2 A6.out).mono ?_); (case side1 => repeat (first | exact (Kd.Zaw HR0.out HB.out) | (with_reducible refine Kd.Zam ?_ _) | (with_reducible refine Kd.Zao ?_ _) | (with_reducible refine Kd.Zan ?_))); (case side2 => exact HC0.out); rintro e w8 ⟨rfl, hb⟩; refine ⟨_, rfl, ?_⟩; replace HB := Za.mk (Zai (by repeat (first | (with_reducible first | exact HB.out | apply Ze | apply Zf | apply Zd) | exact HB.out)) hb); (try clear hb); (try clear hb2); (try clear hk); (try clear hi)))
        go_roundg k2
        case measure => have := HJ1.out; have := HK2.out; omega
        case rel => exact ⟨(wrap64 (x4_2 + 1)), (by first | rfl | (simp; done) | (simp [*]; done)), H', ⟨by have := HJ1.out; have := HK2.out; omega⟩, ⟨by repeat (first | (with_reducible first | exact HB.out | apply Ze | apply Zf | apply Zd) | exact HB.out)⟩⟩
       ·rw [if_neg c7] at H
        have c7b0 : (t324 == 0) = false := beq_eq_false_iff_ne.mpr c7
        have c7b1 : (t324 != 0) = true := bne_iff_ne.mpr c7
        simp only [Option.some.injEq, Prod.mk.injEq] at H
        obtain ⟨rfl, rfl⟩ := H
        go_wp2_with (first | ((with_reducible refine Zaf (f := 45) rfl ?_); refine Zae (some 22) rfl rfl Try.func45 (by kernel_rfl) rfl #[.slice A0 l0.length c0, .int .i64 x4_2] rfl (by (try simp only [ZA, ZB, ZC]); first | done | rfl) ?_; (with_reducible refine (Zal.calls k2 _ _ l0 x4_2 t324 _ ?side1 ?side2 A6.out).mono ?_); (case side1 => repeat (first | exact (Kd.Zaw HR0.out HB.out) | (with_reducible refine Kd.Zam ?_ _) | (with_reducible refine Kd.Zao ?_ _) | (with_reducible refine Kd.Zan ?_))); (case side2 => exact HC0.out); rintro e w9 ⟨rfl, hb⟩; refine ⟨_, rfl, ?_⟩; replace HB := Za.mk (Zai (by repeat (first | (with_reducible first | exact HB.out | apply Ze | apply Zf | apply Zd) | exact HB.out)) hb); (try clear hb); (try clear hb2); (try clear hk); (try clear hi)))
        go_ret2
        exact ⟨by first | rfl | (simp [Zo, Zp] <;> rfl) | (simp [*, Zo, Zp] <;> rfl), by repeat (first | (with_reducible first | exact HB.out | apply Ze | apply Zf | apply Zd) | exact HB.out)⟩
      ·rw [if_neg c5] at H
       have c5b0 : decide (x4_2 < (l0.length : Int)) = false := decide_eq_false c5
       clear c5
       simp only [Option.some.injEq, Prod.mk.injEq] at H
       obtain ⟨rfl, rfl⟩ := H
       go_wp2
       go_ret2
       exact ⟨by first | rfl | (simp [Zo, Zp] <;> rfl) | (simp [*, Zo, Zp] <;> rfl), by repeat (first | (with_reducible first | exact HB.out | apply Ze | apply Zf | apply Zd) | exact HB.out)⟩
def spec_l1valid.f (k : Nat) (l0 : List (S54)) : Option (Bool) := (Zbg.f k l0).bind fun bt325 => (some (bt325.1 == 0))
set_option maxHeartbeats 8000000 in
set_option maxRecDepth 100000 in
theorem spec_l1valid.calls (k : Nat) (A0 : Option Addr) (c0 : Nat) (l0 : List (S54)) (r : Bool) (w : World) (hr0 : Kd.C k54 w A0 l0.length l0) (hc0 : l0.length ≤ c0) (h : spec_l1valid.f k l0 = some r) :
  Calls Try.prog 37 #[.slice A0 l0.length c0] w fun e w' => e = .returned (.bool r) ∧ Below w.heap.size w w' := by
 have HR0 := Za.mk hr0
 have HC0 := Za.mk hc0
 clear hr0 hc0
 have HB := Za.mk (Below.refl w.heap.size w)
 have H : ((Zbg.f k l0).bind fun bt325 => (some (bt325.1 == 0))) = some r := h
 clear h
 replace H := Option.bind_eq_some_iff.mp H
 obtain ⟨⟨t325, t326⟩, A20, H⟩ := H
 (try dsimp only at H)
 have A2 := Za.mk A20
 clear A20
 obtain rfl := Option.some.inj H
 go_enter Try.func37, Try.ntmps37
 go_wp2_with (first | ((with_reducible refine Zaf (f := 26) rfl ?_); refine Zae (some 7) rfl rfl Try.func26 (by kernel_rfl) rfl #[.slice A0 l0.length c0] rfl (by (try simp only [ZA, ZB, ZC]); first | done | rfl) ?_; (with_reducible refine (Zbg.calls k _ _ l0 t325 t326 _ ?side1 ?side2 A2.out).mono ?_); (case side1 => repeat (first | exact HR0.out | (with_reducible refine Kd.Zam ?_ _) | (with_reducible refine Kd.Zao ?_ _) | (with_reducible refine Kd.Zan ?_))); (case side2 => exact HC0.out); rintro e w3 ⟨rfl, hb⟩; refine ⟨_, rfl, ?_⟩; replace HB := Za.mk (Zai (by repeat (first | (with_reducible first | exact HB.out | apply Ze | apply Zf | apply Zd) | exact HB.out)) hb); (try clear hb); (try clear hb2); (try clear hk); (try clear hi)))
 go_ret
 exact ⟨by first | rfl | (simp [Zo, Zp] <;> rfl) | (simp [*, Zo, Zp] <;> rfl), by repeat (first | (with_reducible first | exact HB.out | apply Ze | apply Zf | apply Zd) | exact HB.out)⟩
def Zav.l0 : Nat → Int → Int → Bool → Bool → Int → Int → Int → Option (Int)
  | 0, _, _, _, _, _, _, _ => none
  | k + 1, x0, x1, x2, x3, x9, x10, x11 => if x11 < 32 then (if (wrap64 ((Int.tmod x0 2) + (Int.tmod x1 2))) = 1 then (if x2 = true then (Zav.l0 k (wrap64 (Int.tdiv x0 2)) (wrap64 (Int.tdiv x1 2)) x2 x3 (wrap64 (x9 + x10)) (wrap64 (x10 * 2)) (wrap64 (x11 + 1))) else (if (wrap64 ((Int.tmod x0 2) + (Int.tmod x1 2))) = 2 then (if x3 = true then (Zav.l0 k (wrap64 (Int.tdiv x0 2)) (wrap64 (Int.tdiv x1 2)) x2 x3 (wrap64 (x9 + x10)) (wrap64 (x10 * 2)) (wrap64 (x11 + 1))) else (Zav.l0 k (wrap64 (Int.tdiv x0 2)) (wrap64 (Int.tdiv x1 2)) x2 x3 x9 (wrap64 (x10 * 2)) (wrap64 (x11 + 1)))) else (Zav.l0 k (wrap64 (Int.tdiv x0 2)) (wrap64 (Int.tdiv x1 2)) x2 x3 x9 (wrap64 (x10 * 2)) (wrap64 (x11 + 1))))) else (if (wrap64 ((Int.tmod x0 2) + (Int.tmod x1 2))) = 2 then (if x3 = true then (Zav.l0 k (wrap64 (Int.tdiv x0 2)) (wrap64 (Int.tdiv x1 2)) x2 x3 (wrap64 (x9 + x10)) (wrap64 (x10 * 2)) (wrap64 (x11 + 1))) else (Zav.l0 k (wrap64 (Int.tdiv x0 2)) (wrap64 (Int.tdiv x1 2)) x2 x3 x9 (wrap64 (x10 * 2)) (wrap64 (x11 + 1)))) else (Zav.l0 k (wrap64 (Int.tdiv x0 2)) (wrap64 (Int.tdiv x1 2)) x2 x3 x9 (wrap64 (x10 * 2)) (wrap64 (x11 + 1))))) else (some x9)
def Zav.f (k : Nat) (a0 : Int) (a1 : Int) (a2 : Bool) (a3 : Bool) : Option (Int) := Zav.l0 k a0 a1 a2 a3 0 1 0
set_option maxHeartbeats 8000000 in
set_option maxRecDepth 100000 in
theorem Zav.calls (k : Nat) (a0 : Int) (a1 : Int) (a2 : Bool) (a3 : Bool) (r : Int) (w : World) (h : Zav.f k a0 a1 a2 a3 = some r) :
  Calls Try.prog 74 #[.int .i64 a0, .int .i64 a1, .bool a2, .bool a3] w fun e w' => e = .returned (.int .i64 r) ∧ Zw w w' := by
 have H : (Zav.l0 k a0 a1 a2 a3 0 1 0) = some r := h
 clear h
 have H' := Za.mk H
 clear H
 go_enter Try.func74, Try.ntmps74
 go_wp2
 go_loopg [0, 1, 9, 10, 11] k (fun kq v0 v1 v9 v10 v11 w' => ∃ (x0_1 : Int) (x1_1 : Int) (x9_1 : Int) (x10_1 : Int) (x11_1 : Int), v0 = .int .i64 x0_1 ∧ v1 = .int .i64 x1_1 ∧ v9 = .int .i64 x9_1 ∧ v10 = .int .i64 x10_1 ∧ v11 = .int .i64 x11_1 ∧ Za (Zav.l0 kq x0_1 x1_1 a2 a3 x9_1 x10_1 x11_1 = some r) ∧ Za (kq ≤ k) ∧ Zw w w')
 case atStart => exact ⟨(a0), (a1), (0), (1), (0), (by first | rfl | (simp; done) | (simp [*]; done)), (by first | rfl | (simp; done) | (simp [*]; done)), (by first | rfl | (simp; done) | (simp [*]; done)), (by first | rfl | (simp; done) | (simp [*]; done)), (by first | rfl | (simp; done) | (simp [*]; done)), H', ⟨Nat.le_refl _⟩, by repeat (first | exact Zw.refl _ | apply Zw.step)⟩
 case round =>
  clear H'
  try clear p2
  obtain ⟨x0_1, x1_1, x9_1, x10_1, x11_1, rfl, rfl, rfl, rfl, rfl, HA, HK1, ⟨m1, rfl⟩⟩ := hrel
  cases gk with
  | zero => exact absurd HA.out (by simp [Zav.l0])
  | succ k1 =>
   have H := HA.out
   clear HA
   simp only [Zav.l0] at H
   by_cases c5 : x11_1 < 32
   ·rw [if_pos c5] at H
    have c5b0 : decide (x11_1 < 32) = true := decide_eq_true c5
    clear c5
    by_cases c6 : (wrap64 ((Int.tmod x0_1 2) + (Int.tmod x1_1 2))) = 1
    ·rw [if_pos c6] at H
     have c6b0 : ((wrap64 ((Int.tmod x0_1 2) + (Int.tmod x1_1 2))) == 1) = true := beq_iff_eq.mpr c6
     have c6b1 : ((wrap64 ((Int.tmod x0_1 2) + (Int.tmod x1_1 2))) != 1) = false := bne_eq_false_iff_eq.mpr c6
     clear c6
     by_cases c7 : a2 = true
     ·subst c7
      have H1 : (Zav.l0 k1 (wrap64 (Int.tdiv x0_1 2)) (wrap64 (Int.tdiv x1_1 2)) true a3 (wrap64 (x9_1 + x10_1)) (wrap64 (x10_1 * 2)) (wrap64 (x11_1 + 1))) = some r := by rw [if_pos rfl] at H; exact H
      clear H
      have H := H1
      clear H1
      have H' := Za.mk H
      clear H
      go_wp2
      go_roundg k1
      case measure => have := HK1.out; omega
      case rel => exact ⟨(wrap64 (Int.tdiv x0_1 2)), (wrap64 (Int.tdiv x1_1 2)), (wrap64 (x9_1 + x10_1)), (wrap64 (x10_1 * 2)), (wrap64 (x11_1 + 1)), (by first | rfl | (simp; done) | (simp [*]; done)), (by first | rfl | (simp; done) | (simp [*]; done)), (by first | rfl | (simp; done) | (simp [*]; done)), (by first | rfl | (simp; done) | (simp [*]; done)), (by first | rfl | (simp; done) | (simp [*]; done)), H', ⟨by have := HK1.out; omega⟩, by repeat (first | exact Zw.refl _ | apply Zw.step)⟩
     ·replace c7 := Bool.eq_false_iff.mpr c7
      subst c7
      have H1 : (if (wrap64 ((Int.tmod x0_1 2) + (Int.tmod x1_1 2))) = 2 then (if a3 = true then (Zav.l0 k1 (wrap64 (Int.tdiv x0_1 2)) (wrap64 (Int.tdiv x1_1 2)) false a3 (wrap64 (x9_1 + x10_1)) (wrap64 (x10_1 * 2)) (wrap64 (x11_1 + 1))) else (Zav.l0 k1 (wrap64 (Int.tdiv x0_1 2)) (wrap64 (Int.tdiv x1_1 2)) false a3 x9_1 (wrap64 (x10_1 * 2)) (wrap64 (x11_1 + 1)))) else (Zav.l0 k1 (wrap64 (Int.tdiv x0_1 2)) (wrap64 (Int.tdiv x1_1 2)) false a3 x9_1 (wrap64 (x10_1 * 2)) (wrap64 (x11_1 + 1)))) = some r := by rw [if_neg (show ¬ (false = true) by decide)] at H; exact H
      clear H
      have H := H1
      clear H1
      by_cases c8 : (wrap64 ((Int.tmod x0_1 2) + (Int.tmod x1_1 2))) = 2
      ·rw [if_pos c8] at H
       have c8b0 : ((wrap64 ((Int.tmod x0_1 2) + (Int.tmod x1_1 2))) == 2) = true := beq_iff_eq.mpr c8
       have c8b1 : ((wrap64 ((Int.tmod x0_1 2) + (Int.tmod x1_1 2))) != 2) = false := bne_eq_false_iff_eq.mpr c8
       clear c8
       by_cases c9 : a3 = true
       ·subst c9
        have H1 : (Zav.l0 k1 (wrap64 (Int.tdiv x0_1 2)) (wrap64 (Int.tdiv x1_1 2)) false true (wrap64 (x9_1 + x10_1)) (wrap64 (x10_1 * 2)) (wrap64 (x11_1 + 1))) = some r := by rw [if_pos rfl] at H; exact H
        clear H
        have H := H1
        clear H1
        have H' := Za.mk H
        clear H
        go_wp2
        go_roundg k1
        case measure => have := HK1.out; omega
        case rel => exact ⟨(wrap64 (Int.tdiv x0_1 2)), (wrap64 (Int.tdiv x1_1 2)), (wrap64 (x9_1 + x10_1)), (wrap64 (x10_1 * 2)), (wrap64 (x11_1 + 1)), (by first | rfl | (simp; done) | (simp [*]; done)), (by first | rfl | (simp; done) | (simp [*]; done)), (by first | rfl | (simp; done) | (simp [*]; done)), (by first | rfl | (simp; done) | (simp [*]; done)), (by first | rfl | (simp; done) | (simp [*]; done)), H', ⟨by have := HK1.out; omega⟩, by repeat (first | exact Zw.refl _ | apply Zw.step)⟩
       ·replace c9 := Bool.eq_false_iff.mpr c9
        subst c9
        have H1 : (Zav.l0 k1 (wrap64 (Int.tdiv x0_1 2)) (wrap64 (Int.tdiv x1_1 2)) false false x9_1 (wrap64 (x10_1 * 2)) (wrap64 (x11_1 + 1))) = some r := by rw [if_neg (show ¬ (false = true) by decide)] at H; exact H
        clear H
        have H := H1
        clear H1
        have H' := Za.mk H
        clear H
        go_wp2
        go_roundg k1
        case measure => have := HK1.out; omega
        case rel => exact ⟨(wrap64 (Int.tdiv x0_1 2)), (wrap64 (Int.tdiv x1_1 2)), (x9_1), (wrap64 (x10_1 * 2)), (wrap64 (x11_1 + 1)), (by first | rfl | (simp; done) | (simp [*]; done)), (by first | rfl | (simp; done) | (simp [*]; done)), (by first | rfl | (simp; done) | (simp [*]; done)), (by first | rfl | (simp; done) | (simp [*]; done)), (by first | rfl | (simp; done) | (simp [*]; done)), H', ⟨by have := HK1.out; omega⟩, by repeat (first | exact Zw.refl _ | apply Zw.step)⟩
      ·rw [if_neg c8] at H
       have c8b0 : ((wrap64 ((Int.tmod x0_1 2) + (Int.tmod x1_1 2))) == 2) = false := beq_eq_false_iff_ne.mpr c8
       have c8b1 : ((wrap64 ((Int.tmod x0_1 2) + (Int.tmod x1_1 2))) != 2) = true := bne_iff_ne.mpr c8
       have H' := Za.mk H
       clear H
       go_wp2
       go_roundg k1
       case measure => have := HK1.out; omega
       case rel => exact ⟨(wrap64 (Int.tdiv x0_1 2)), (wrap64 (Int.tdiv x1_1 2)), (x9_1), (wrap64 (x10_1 * 2)), (wrap64 (x11_1 + 1)), (by first | rfl | (simp; done) | (simp [*]; done)), (by first | rfl | (simp; done) | (simp [*]; done)), (by first | rfl | (simp; done) | (simp [*]; done)), (by first | rfl | (simp; done) | (simp [*]; done)), (by first | rfl | (simp; done) | (simp [*]; done)), H', ⟨by have := HK1.out; omega⟩, by repeat (first | exact Zw.refl _ | apply Zw.step)⟩
    ·rw [if_neg c6] at H
     have c6b0 : ((wrap64 ((Int.tmod x0_1 2) + (Int.tmod x1_1 2))) == 1) = false := beq_eq_false_iff_ne.mpr c6
     have c6b1 : ((wrap64 ((Int.tmod x0_1 2) + (Int.tmod x1_1 2))) != 1) = true := bne_iff_ne.mpr c6
     by_cases c10 : (wrap64 ((Int.tmod x0_1 2) + (Int.tmod x1_1 2))) = 2
     ·rw [if_pos c10] at H
      have c10b0 : ((wrap64 ((Int.tmod x0_1 2) + (Int.tmod x1_1 2))) == 2) = true := beq_iff_eq.mpr c10
      have c10b1 : ((wrap64 ((Int.tmod x0_1 2) + (Int.tmod x1_1 2))) != 2) = false := bne_eq_false_iff_eq.mpr c10
      clear c10
      by_cases c11 : a3 = true
      ·subst c11
       have H1 : (Zav.l0 k1 (wrap64 (Int.tdiv x0_1 2)) (wrap64 (Int.tdiv x1_1 2)) a2 true (wrap64 (x9_1 + x10_1)) (wrap64 (x10_1 * 2)) (wrap64 (x11_1 + 1))) = some r := by rw [if_pos rfl] at H; exact H
       clear H
       have H := H1
       clear H1
       have H' := Za.mk H
       clear H
       go_wp2
       go_roundg k1
       case measure => have := HK1.out; omega
       case rel => exact ⟨(wrap64 (Int.tdiv x0_1 2)), (wrap64 (Int.tdiv x1_1 2)), (wrap64 (x9_1 + x10_1)), (wrap64 (x10_1 * 2)), (wrap64 (x11_1 + 1)), (by first | rfl | (simp; done) | (simp [*]; done)), (by first | rfl | (simp; done) | (simp [*]; done)), (by first | rfl | (simp; done) | (simp [*]; done)), (by first | rfl | (simp; done) | (simp [*]; done)), (by first | rfl | (simp; done) | (simp [*]; done)), H', ⟨by have := HK1.out; omega⟩, by repeat (first | exact Zw.refl _ | apply Zw.step)⟩
      ·replace c11 := Bool.eq_false_iff.mpr c11
       subst c11
       have H1 : (Zav.l0 k1 (wrap64 (Int.tdiv x0_1 2)) (wrap64 (Int.tdiv x1_1 2)) a2 false x9_1 (wrap64 (x10_1 * 2)) (wrap64 (x11_1 + 1))) = some r := by rw [if_neg (show ¬ (false = true) by decide)] at H; exact H
       clear H
       have H := H1
       clear H1
       have H' := Za.mk H
       clear H
       go_wp2
       go_roundg k1
       case measure => have := HK1.out; omega
       case rel => exact ⟨(wrap64 (Int.tdiv x0_1 2)), (wrap64 (Int.tdiv x1_1 2)), (x9_1), (wrap64 (x10_1 * 2)), (wrap64 (x11_1 + 1)), (by first | rfl | (simp; done) | (simp [*]; done)), (by first | rfl | (simp; done) | (simp [*]; done)), (by first | rfl | (simp; done) | (simp [*]; done)), (by first | rfl | (simp; done) | (simp [*]; done)), (by first | rfl | (simp; done) | (simp [*]; done)), H', ⟨by have := HK1.out; omega⟩, by repeat (first | exact Zw.refl _ | apply Zw.step)⟩
     ·rw [if_neg c10] at H
      have c10b0 : ((wrap64 ((Int.tmod x0_1 2) + (Int.tmod x1_1 2))) == 2) = false := beq_eq_false_iff_ne.mpr c10
      have c10b1 : ((wrap64 ((Int.tmod x0_1 2) + (Int.tmod x1_1 2))) != 2) = true := bne_iff_ne.mpr c10
      have H' := Za.mk H
      clear H
      go_wp2
      go_roundg k1
      case measure => have := HK1.out; omega
      case rel => exact ⟨(wrap64 (Int.tdiv x0_1 2)), (wrap64 (Int.tdiv x1_1 2)), (x9_1), (wrap64 (x10_1 * 2)), (wrap64 (x11_1 + 1)), (by first | rfl | (simp; done) | (simp [*]; done)), (by first | rfl | (simp; done) | (simp [*]; done)), (by first | rfl | (simp; done) | (simp [*]; done)), (by first | rfl | (simp; done) | (simp [*]; done)), (by first | rfl | (simp; done) | (simp [*]; done)), H', ⟨by have := HK1.out; omega⟩, by repeat (first | exact Zw.refl _ | apply Zw.step)⟩
   ·rw [if_neg c5] at H
    have c5b0 : decide (x11_1 < 32) = false := decide_eq_false c5
    clear c5
    obtain rfl := Option.some.inj H
    go_wp2
    go_ret
    exact ⟨by first | rfl | (simp; done) | (simp [*]; done), by repeat (first | exact Zw.refl _ | apply Zw.step)⟩
def Zbu.f : Nat → Int → Option (Int)
  | 0, _ => none
  | k + 1, a0 => if a0 = 0 then (some 1) else ((Zbu.f k (wrap64 (a0 - 1))).bind fun t327 => (some (wrap64 (2 * t327))))
set_option maxHeartbeats 8000000 in
set_option maxRecDepth 100000 in
theorem Zbu.calls (k : Nat) : ∀ (a0 : Int) (r : Int) (w : World) (h : Zbu.f k a0 = some r),
  Calls Try.prog 75 #[.int .i64 a0] w fun e w' => e = .returned (.int .i64 r) ∧ Zw w w' := by
 induction k using Nat.strongRecOn with
 | _ k ih =>
 intro a0 r w h
 cases k with
 | zero => exact absurd h (by simp [Zbu.f])
 | succ k =>
 simp only [Zbu.f] at h
 have H : (if a0 = 0 then (some 1) else ((Zbu.f k (wrap64 (a0 - 1))).bind fun t327 => (some (wrap64 (2 * t327))))) = some r := h
 clear h
 by_cases c2 : a0 = 0
 ·rw [if_pos c2] at H
  have c2b0 : (a0 == 0) = true := beq_iff_eq.mpr c2
  have c2b1 : (a0 != 0) = false := bne_eq_false_iff_eq.mpr c2
  clear c2
  obtain rfl := Option.some.inj H
  go_enter Try.func75, Try.ntmps75
  go_wp2
  go_ret
  exact ⟨by first | rfl | (simp; done) | (simp [*]; done), by repeat (first | exact Zw.refl _ | apply Zw.step)⟩
 ·rw [if_neg c2] at H
  have c2b0 : (a0 == 0) = false := beq_eq_false_iff_ne.mpr c2
  have c2b1 : (a0 != 0) = true := bne_iff_ne.mpr c2
  replace H := Option.bind_eq_some_iff.mp H
  obtain ⟨t327, A30, H⟩ := H
  (try dsimp only at H)
  have A3 := Za.mk A30
  clear A30
  obtain rfl := Option.some.inj H
  go_enter Try.func75, Try.ntmps75
  go_wp2_with (first | ((with_reducible refine Zaf (f := 75) rfl ?_); refine Zae (some 7) rfl rfl Try.func75 (by kernel_rfl) rfl #[.int .i64 (wrap64 (a0 - 1))] rfl (by (try simp only [ZA, ZB, ZC]); first | done | rfl) ?_; (with_reducible refine (ih k (by omega) (wrap64 (a0 - 1)) t327 _ A3.out).mono ?_); rintro e w' ⟨rfl, ⟨nd, rfl⟩⟩; refine ⟨_, rfl, ?_⟩))
  go_ret
  exact ⟨by first | rfl | (simp; done) | (simp [*]; done), by repeat (first | exact Zw.refl _ | apply Zw.step)⟩
def Zbk.f (k : Nat) (a0 : Int) (a1 : Int) (a2 : Int) : Option (Int) := if a0 = 0 then (some (Int.tmod (wrap64 (a1 + a2)) 4294967296)) else (if a0 = 1 then (some (Int.tmod (wrap64 ((wrap64 (a1 - a2)) + 4294967296)) 4294967296)) else (if a0 = 2 then (some (Int.tmod (wrap64 ((wrap64 ((Int.tmod a1 65536) * a2)) + (wrap64 ((Int.tmod (wrap64 ((wrap64 (Int.tdiv a1 65536)) * a2)) 65536) * 65536)))) 4294967296)) else (if a0 = 3 then (if a2 = 0 then (none) else (some (wrap64 (Int.tdiv a1 a2)))) else (if a0 = 4 then ((Zav.f k a1 a2 true true).bind fun t328 => (some t328)) else (if a0 = 5 then ((Zav.f k a1 a2 false true).bind fun t329 => (some t329)) else (if a0 = 10 then ((Zav.f k a1 a2 true false).bind fun t330 => (some t330)) else (if a0 = 8 then (some (Int.tmod (wrap64 (4294967296 - a1)) 4294967296)) else (if a2 ≥ 32 then (some 0) else (if a0 = 6 then ((Zbu.f k (wrap64 (32 - a2))).bind fun t331 => (if t331 = 0 then (none) else ((Zbu.f k a2).bind fun t332 => (some (wrap64 ((Int.tmod a1 t331) * t332)))))) else ((Zbu.f k a2).bind fun t333 => (if t333 = 0 then (none) else (some (wrap64 (Int.tdiv a1 t333))))))))))))))
set_option maxHeartbeats 8000000 in
set_option maxRecDepth 100000 in
theorem Zbk.calls (k : Nat) (a0 : Int) (a1 : Int) (a2 : Int) (r : Int) (w : World) (h : Zbk.f k a0 a1 a2 = some r) :
  Calls Try.prog 65 #[.int .i64 a0, .int .i64 a1, .int .i64 a2] w fun e w' => e = .returned (.int .i64 r) ∧ Zw w w' := by
 have H := h
 unfold Zbk.f at H
 clear h
 by_cases c4 : a0 = 0
 ·rw [if_pos c4] at H
  have c4b0 : (a0 == 0) = true := beq_iff_eq.mpr c4
  have c4b1 : (a0 != 0) = false := bne_eq_false_iff_eq.mpr c4
  clear c4
  obtain rfl := Option.some.inj H
  go_enter Try.func65, Try.ntmps65
  go_wp2
  repeat (go_quiet (fail); try go_wp2)
  go_ret
  exact ⟨by first | rfl | (simp; done) | (simp [*]; done), by repeat (first | exact Zw.refl _ | apply Zw.step)⟩
 ·rw [if_neg c4] at H
  have c4b0 : (a0 == 0) = false := beq_eq_false_iff_ne.mpr c4
  have c4b1 : (a0 != 0) = true := bne_iff_ne.mpr c4
  by_cases c5 : a0 = 1
  ·rw [if_pos c5] at H
   have c5b0 : (a0 == 1) = true := beq_iff_eq.mpr c5
   have c5b1 : (a0 != 1) = false := bne_eq_false_iff_eq.mpr c5
   clear c5
   obtain rfl := Option.some.inj H
   go_enter Try.func65, Try.ntmps65
   go_wp2
   repeat (go_quiet (fail); try go_wp2)
   go_ret
   exact ⟨by first | rfl | (simp; done) | (simp [*]; done), by repeat (first | exact Zw.refl _ | apply Zw.step)⟩
  ·rw [if_neg c5] at H
   have c5b0 : (a0 == 1) = false := beq_eq_false_iff_ne.mpr c5
   have c5b1 : (a0 != 1) = true := bne_iff_ne.mpr c5
   by_cases c6 : a0 = 2
   ·rw [if_pos c6] at H
    have c6b0 : (a0 == 2) = true := beq_iff_eq.mpr c6
    have c6b1 : (a0 != 2) = false := bne_eq_false_iff_eq.mpr c6
    clear c6
    obtain rfl := Option.some.inj H
    go_enter Try.func65, Try.ntmps65
    go_wp2
    repeat (go_quiet (fail); try go_wp2)
    go_ret
    exact ⟨by first | rfl | (simp; done) | (simp [*]; done), by repeat (first | exact Zw.refl _ | apply Zw.step)⟩
   ·rw [if_neg c6] at H
    have c6b0 : (a0 == 2) = false := beq_eq_false_iff_ne.mpr c6
    have c6b1 : (a0 != 2) = true := bne_iff_ne.mpr c6
    by_cases c7 : a0 = 3
    ·rw [if_pos c7] at H
     have c7b0 : (a0 == 3) = true := beq_iff_eq.mpr c7
     have c7b1 : (a0 != 3) = false := bne_eq_false_iff_eq.mpr c7
     clear c7
     by_cases c8 : a2 = 0
     ·rw [if_pos c8] at H
      exact absurd H (by simp)
     ·rw [if_neg c8] at H
      have c8b0 : (a2 == 0) = false := beq_eq_false_iff_ne.mpr c8
      have c8b1 : (a2 != 0) = true := bne_iff_ne.mpr c8
      obtain rfl := Option.some.inj H
      go_enter Try.func65, Try.ntmps65
      go_wp2
      repeat (go_quiet (fail); try go_wp2)
      go_ret
      exact ⟨by first | rfl | (simp; done) | (simp [*]; done), by repeat (first | exact Zw.refl _ | apply Zw.step)⟩
    ·rw [if_neg c7] at H
     have c7b0 : (a0 == 3) = false := beq_eq_false_iff_ne.mpr c7
     have c7b1 : (a0 != 3) = true := bne_iff_ne.mpr c7
     by_cases c9 : a0 = 4
     ·rw [if_pos c9] at H
      have c9b0 : (a0 == 4) = true := beq_iff_eq.mpr c9
      have c9b1 : (a0 != 4) = false := bne_eq_false_iff_eq.mpr c9
      clear c9
      replace H := Option.bind_eq_some_iff.mp H
      obtain ⟨t328, A100, H⟩ := H
      (try dsimp only at H)
      have A10 := Za.mk A100
      clear A100
      obtain rfl := Option.some.inj H
      go_enter Try.func65, Try.ntmps65
      go_wp2_with (first | (go_at_call 74; (with_reducible refine (Zav.calls k a1 a2 true true t328 _ A10.out).mono ?_); rintro e w' ⟨rfl, ⟨nd, rfl⟩⟩; (try first | exact ⟨rfl, _, World.drewN_drewN _ _ _⟩ | exact ⟨rfl, _, Eq.trans (World.drewN_drewN _ _ _) (congrArg (World.drewN _) (Nat.add_assoc _ _ _))⟩)))
      repeat (go_quiet (first | (go_at_call 74; (with_reducible refine (Zav.calls k a1 a2 true true t328 _ A10.out).mono ?_); rintro e w' ⟨rfl, ⟨nd, rfl⟩⟩; (try first | exact ⟨rfl, _, World.drewN_drewN _ _ _⟩ | exact ⟨rfl, _, Eq.trans (World.drewN_drewN _ _ _) (congrArg (World.drewN _) (Nat.add_assoc _ _ _))⟩))); try go_wp2_with (first | (go_at_call 74; (with_reducible refine (Zav.calls k a1 a2 true true t328 _ A10.out).mono ?_); rintro e w' ⟨rfl, ⟨nd, rfl⟩⟩; (try first | exact ⟨rfl, _, World.drewN_drewN _ _ _⟩ | exact ⟨rfl, _, Eq.trans (World.drewN_drewN _ _ _) (congrArg (World.drewN _) (Nat.add_assoc _ _ _))⟩))))
      go_ret
      exact ⟨by first | rfl | (simp; done) | (simp [*]; done), by repeat (first | exact Zw.refl _ | apply Zw.step)⟩
     ·rw [if_neg c9] at H
      have c9b0 : (a0 == 4) = false := beq_eq_false_iff_ne.mpr c9
      have c9b1 : (a0 != 4) = true := bne_iff_ne.mpr c9
      by_cases c11 : a0 = 5
      ·rw [if_pos c11] at H
       have c11b0 : (a0 == 5) = true := beq_iff_eq.mpr c11
       have c11b1 : (a0 != 5) = false := bne_eq_false_iff_eq.mpr c11
       clear c11
       replace H := Option.bind_eq_some_iff.mp H
       obtain ⟨t329, A120, H⟩ := H
       (try dsimp only at H)
       have A12 := Za.mk A120
       clear A120
       obtain rfl := Option.some.inj H
       go_enter Try.func65, Try.ntmps65
       go_wp2_with (first | (go_at_call 74; (with_reducible refine (Zav.calls k a1 a2 false true t329 _ A12.out).mono ?_); rintro e w' ⟨rfl, ⟨nd, rfl⟩⟩; (try first | exact ⟨rfl, _, World.drewN_drewN _ _ _⟩ | exact ⟨rfl, _, Eq.trans (World.drewN_drewN _ _ _) (congrArg (World.drewN _) (Nat.add_assoc _ _ _))⟩)))
       repeat (go_quiet (first | (go_at_call 74; (with_reducible refine (Zav.calls k a1 a2 false true t329 _ A12.out).mono ?_); rintro e w' ⟨rfl, ⟨nd, rfl⟩⟩; (try first | exact ⟨rfl, _, World.drewN_drewN _ _ _⟩ | exact ⟨rfl, _, Eq.trans (World.drewN_drewN _ _ _) (congrArg (World.drewN _) (Nat.add_assoc _ _ _))⟩))); try go_wp2_with (first | (go_at_call 74; (with_reducible refine (Zav.calls k a1 a2 false true t329 _ A12.out).mono ?_); rintro e w' ⟨rfl, ⟨nd, rfl⟩⟩; (try first | exact ⟨rfl, _, World.drewN_drewN _ _ _⟩ | exact ⟨rfl, _, Eq.trans (World.drewN_drewN _ _ _) (congrArg (World.drewN _) (Nat.add_assoc _ _ _))⟩))))
       go_ret
       exact ⟨by first | rfl | (simp; done) | (simp [*]; done), by repeat (first | exact Zw.refl _ | apply Zw.step)⟩
      ·rw [if_neg c11] at H
       have c11b0 : (a0 == 5) = false := beq_eq_false_iff_ne.mpr c11
       have c11b1 : (a0 != 5) = true := bne_iff_ne.mpr c11
       by_cases c13 : a0 = 10
       ·rw [if_pos c13] at H
        have c13b0 : (a0 == 10) = true := beq_iff_eq.mpr c13
        have c13b1 : (a0 != 10) = false := bne_eq_false_iff_eq.mpr c13
        clear c13
        replace H := Option.bind_eq_some_iff.mp H
        obtain ⟨t330, A140, H⟩ := H
        (try dsimp only at H)
        have A14 := Za.mk A140
        clear A140
        obtain rfl := Option.some.inj H
        go_enter Try.func65, Try.ntmps65
        go_wp2_with (first | (go_at_call 74; (with_reducible refine (Zav.calls k a1 a2 true false t330 _ A14.out).mono ?_); rintro e w' ⟨rfl, ⟨nd, rfl⟩⟩; (try first | exact ⟨rfl, _, World.drewN_drewN _ _ _⟩ | exact ⟨rfl, _, Eq.trans (World.drewN_drewN _ _ _) (congrArg (World.drewN _) (Nat.add_assoc _ _ _))⟩)))
        repeat (go_quiet (first | (go_at_call 74; (with_reducible refine (Zav.calls k a1 a2 true false t330 _ A14.out).mono ?_); rintro e w' ⟨rfl, ⟨nd, rfl⟩⟩; (try first | exact ⟨rfl, _, World.drewN_drewN _ _ _⟩ | exact ⟨rfl, _, Eq.trans (World.drewN_drewN _ _ _) (congrArg (World.drewN _) (Nat.add_assoc _ _ _))⟩))); try go_wp2_with (first | (go_at_call 74; (with_reducible refine (Zav.calls k a1 a2 true false t330 _ A14.out).mono ?_); rintro e w' ⟨rfl, ⟨nd, rfl⟩⟩; (try first | exact ⟨rfl, _, World.drewN_drewN _ _ _⟩ | exact ⟨rfl, _, Eq.trans (World.drewN_drewN _ _ _) (congrArg (World.drewN _) (Nat.add_assoc _ _ _))⟩))))
        go_ret
        exact ⟨by first | rfl | (simp; done) | (simp [*]; done), by repeat (first | exact Zw.refl _ | apply Zw.step)⟩
       ·rw [if_neg c13] at H
        have c13b0 : (a0 == 10) = false := beq_eq_false_iff_ne.mpr c13
        have c13b1 : (a0 != 10) = true := bne_iff_ne.mpr c13
        by_cases c15 : a0 = 8
        ·rw [if_pos c15] at H
         have c15b0 : (a0 == 8) = true := beq_iff_eq.mpr c15
         have c15b1 : (a0 != 8) = false := bne_eq_false_iff_eq.mpr c15
         clear c15
         obtain rfl := Option.some.inj H
         go_enter Try.func65, Try.ntmps65
         go_wp2
         repeat (go_quiet (fail); try go_wp2)
         go_ret
         exact ⟨by first | rfl | (simp; done) | (simp [*]; done), by repeat (first | exact Zw.refl _ | apply Zw.step)⟩
        ·rw [if_neg c15] at H
         have c15b0 : (a0 == 8) = false := beq_eq_false_iff_ne.mpr c15
         have c15b1 : (a0 != 8) = true := bne_iff_ne.mpr c15
         by_cases c16 : a2 ≥ 32
         ·rw [if_pos c16] at H
          have c16b0 : decide (32 ≤ a2) = true := decide_eq_true c16
          clear c16
          obtain rfl := Option.some.inj H
          go_enter Try.func65, Try.ntmps65
          go_wp2
          repeat (go_quiet (fail); try go_wp2)
          go_ret
          exact ⟨by first | rfl | (simp; done) | (simp [*]; done), by repeat (first | exact Zw.refl _ | apply Zw.step)⟩
         ·rw [if_neg c16] at H
          have c16b0 : decide (32 ≤ a2) = false := decide_eq_false c16
          clear c16
          by_cases c17 : a0 = 6
          ·rw [if_pos c17] at H
           have c17b0 : (a0 == 6) = true := beq_iff_eq.mpr c17
           have c17b1 : (a0 != 6) = false := bne_eq_false_iff_eq.mpr c17
           clear c17
           replace H := Option.bind_eq_some_iff.mp H
           obtain ⟨t331, A180, H⟩ := H
           (try dsimp only at H)
           have A18 := Za.mk A180
           clear A180
           by_cases c19 : t331 = 0
           ·rw [if_pos c19] at H
            exact absurd H (by simp)
           ·rw [if_neg c19] at H
            have c19b0 : (t331 == 0) = false := beq_eq_false_iff_ne.mpr c19
            have c19b1 : (t331 != 0) = true := bne_iff_ne.mpr c19
            replace H := Option.bind_eq_some_iff.mp H
            obtain ⟨t332, A200, H⟩ := H
            (try dsimp only at H)
            have A20 := Za.mk A200
            clear A200
            obtain rfl := Option.some.inj H
            go_enter Try.func65, Try.ntmps65
            go_wp2_with (first | (go_at_call 75; (with_reducible refine (Zbu.calls k (wrap64 (32 - a2)) t331 _ A18.out).mono ?_); rintro e w' ⟨rfl, ⟨nd, rfl⟩⟩; (try first | exact ⟨rfl, _, World.drewN_drewN _ _ _⟩ | exact ⟨rfl, _, Eq.trans (World.drewN_drewN _ _ _) (congrArg (World.drewN _) (Nat.add_assoc _ _ _))⟩)) | (go_at_call 75; (with_reducible refine (Zbu.calls k a2 t332 _ A20.out).mono ?_); rintro e w' ⟨rfl, ⟨nd, rfl⟩⟩; (try first | exact ⟨rfl, _, World.drewN_drewN _ _ _⟩ | exact ⟨rfl, _, Eq.trans (World.drewN_drewN _ _ _) (congrArg (World.drewN _) (Nat.add_assoc _ _ _))⟩)))
            repeat (go_quiet (first | (go_at_call 75; (with_reducible refine (Zbu.calls k (wrap64 (32 - a2)) t331 _ A18.out).mono ?_); rintro e w' ⟨rfl, ⟨nd, rfl⟩⟩; (try first | exact ⟨rfl, _, World.drewN_drewN _ _ _⟩ | exact ⟨rfl, _, Eq.trans (World.drewN_drewN _ _ _) (congrArg (World.drewN _) (Nat.add_assoc _ _ _))⟩)) | (go_at_call 75; (with_reducible refine (Zbu.calls k a2 t332 _ A20.out).mono ?_); rintro e w' ⟨rfl, ⟨nd, rfl⟩⟩; (try first | exact ⟨rfl, _, World.drewN_drewN _ _ _⟩ | exact ⟨rfl, _, Eq.trans (World.drewN_drewN _ _ _) (congrArg (World.drewN _) (Nat.add_assoc _ _ _))⟩))); try go_wp2_with (first | (go_at_call 75; (with_reducible refine (Zbu.calls k (wrap64 (32 - a2)) t331 _ A18.out).mono ?_); rintro e w' ⟨rfl, ⟨nd, rfl⟩⟩; (try first | exact ⟨rfl, _, World.drewN_drewN _ _ _⟩ | exact ⟨rfl, _, Eq.trans (World.drewN_drewN _ _ _) (congrArg (World.drewN _) (Nat.add_assoc _ _ _))⟩)) | (go_at_call 75; (with_reducible refine (Zbu.calls k a2 t332 _ A20.out).mono ?_); rintro e w' ⟨rfl, ⟨nd, rfl⟩⟩; (try first | exact ⟨rfl, _, World.drewN_drewN _ _ _⟩ | exact ⟨rfl, _, Eq.trans (World.drewN_drewN _ _ _) (congrArg (World.drewN _) (Nat.add_assoc _ _ _))⟩))))
            go_ret
            exact ⟨by first | rfl | (simp; done) | (simp [*]; done), by repeat (first | exact Zw.refl _ | apply Zw.step)⟩
          ·rw [if_neg c17] at H
           have c17b0 : (a0 == 6) = false := beq_eq_false_iff_ne.mpr c17
           have c17b1 : (a0 != 6) = true := bne_iff_ne.mpr c17
           replace H := Option.bind_eq_some_iff.mp H
           obtain ⟨t333, A210, H⟩ := H
           (try dsimp only at H)
           have A21 := Za.mk A210
           clear A210
           by_cases c22 : t333 = 0
           ·rw [if_pos c22] at H
            exact absurd H (by simp)
           ·rw [if_neg c22] at H
            have c22b0 : (t333 == 0) = false := beq_eq_false_iff_ne.mpr c22
            have c22b1 : (t333 != 0) = true := bne_iff_ne.mpr c22
            obtain rfl := Option.some.inj H
            go_enter Try.func65, Try.ntmps65
            go_wp2_with (first | (go_at_call 75; (with_reducible refine (Zbu.calls k a2 t333 _ A21.out).mono ?_); rintro e w' ⟨rfl, ⟨nd, rfl⟩⟩; (try first | exact ⟨rfl, _, World.drewN_drewN _ _ _⟩ | exact ⟨rfl, _, Eq.trans (World.drewN_drewN _ _ _) (congrArg (World.drewN _) (Nat.add_assoc _ _ _))⟩)))
            repeat (go_quiet (first | (go_at_call 75; (with_reducible refine (Zbu.calls k a2 t333 _ A21.out).mono ?_); rintro e w' ⟨rfl, ⟨nd, rfl⟩⟩; (try first | exact ⟨rfl, _, World.drewN_drewN _ _ _⟩ | exact ⟨rfl, _, Eq.trans (World.drewN_drewN _ _ _) (congrArg (World.drewN _) (Nat.add_assoc _ _ _))⟩))); try go_wp2_with (first | (go_at_call 75; (with_reducible refine (Zbu.calls k a2 t333 _ A21.out).mono ?_); rintro e w' ⟨rfl, ⟨nd, rfl⟩⟩; (try first | exact ⟨rfl, _, World.drewN_drewN _ _ _⟩ | exact ⟨rfl, _, Eq.trans (World.drewN_drewN _ _ _) (congrArg (World.drewN _) (Nat.add_assoc _ _ _))⟩))))
            go_ret
            exact ⟨by first | rfl | (simp; done) | (simp [*]; done), by repeat (first | exact Zw.refl _ | apply Zw.step)⟩
def spec_l1holds.f (k : Nat) (a0 : Int) (a1 : Int) (a2 : Int) : Option (Bool) := if a0 = 1 then (some (a1 == a2)) else (if a0 = 2 then (some (decide (a1 > a2))) else (if a0 = 3 then (some (decide (a1 ≥ a2))) else ((Zav.f k a1 a2 false true).bind fun t334 => (some (t334 != 0)))))
set_option maxHeartbeats 8000000 in
set_option maxRecDepth 100000 in
theorem spec_l1holds.calls (k : Nat) (a0 : Int) (a1 : Int) (a2 : Int) (r : Bool) (w : World) (h : spec_l1holds.f k a0 a1 a2 = some r) :
  Calls Try.prog 66 #[.int .i64 a0, .int .i64 a1, .int .i64 a2] w fun e w' => e = .returned (.bool r) ∧ Zw w w' := by
 have H := h
 unfold spec_l1holds.f at H
 clear h
 by_cases c4 : a0 = 1
 ·rw [if_pos c4] at H
  have c4b0 : (a0 == 1) = true := beq_iff_eq.mpr c4
  have c4b1 : (a0 != 1) = false := bne_eq_false_iff_eq.mpr c4
  clear c4
  obtain rfl := Option.some.inj H
  go_enter Try.func66, Try.ntmps66
  go_wp2
  go_ret
  exact ⟨by first | rfl | (simp; done) | (simp [*]; done), by repeat (first | exact Zw.refl _ | apply Zw.step)⟩
 ·rw [if_neg c4] at H
  have c4b0 : (a0 == 1) = false := beq_eq_false_iff_ne.mpr c4
  have c4b1 : (a0 != 1) = true := bne_iff_ne.mpr c4
  by_cases c5 : a0 = 2
  ·rw [if_pos c5] at H
   have c5b0 : (a0 == 2) = true := beq_iff_eq.mpr c5
   have c5b1 : (a0 != 2) = false := bne_eq_false_iff_eq.mpr c5
   clear c5
   obtain rfl := Option.some.inj H
   go_enter Try.func66, Try.ntmps66
   go_wp2
   go_ret
   exact ⟨by first | rfl | (simp; done) | (simp [*]; done), by repeat (first | exact Zw.refl _ | apply Zw.step)⟩
  ·rw [if_neg c5] at H
   have c5b0 : (a0 == 2) = false := beq_eq_false_iff_ne.mpr c5
   have c5b1 : (a0 != 2) = true := bne_iff_ne.mpr c5
   by_cases c6 : a0 = 3
   ·rw [if_pos c6] at H
    have c6b0 : (a0 == 3) = true := beq_iff_eq.mpr c6
    have c6b1 : (a0 != 3) = false := bne_eq_false_iff_eq.mpr c6
    clear c6
    obtain rfl := Option.some.inj H
    go_enter Try.func66, Try.ntmps66
    go_wp2
    go_ret
    exact ⟨by first | rfl | (simp; done) | (simp [*]; done), by repeat (first | exact Zw.refl _ | apply Zw.step)⟩
   ·rw [if_neg c6] at H
    have c6b0 : (a0 == 3) = false := beq_eq_false_iff_ne.mpr c6
    have c6b1 : (a0 != 3) = true := bne_iff_ne.mpr c6
    replace H := Option.bind_eq_some_iff.mp H
    obtain ⟨t334, A70, H⟩ := H
    (try dsimp only at H)
    have A7 := Za.mk A70
    clear A70
    obtain rfl := Option.some.inj H
    go_enter Try.func66, Try.ntmps66
    go_wp2_with (first | ((with_reducible refine Zaf (f := 74) rfl ?_); refine Zae (some 24) rfl rfl Try.func74 (by kernel_rfl) rfl #[.int .i64 a1, .int .i64 a2, .bool false, .bool true] rfl (by (try simp only [ZA, ZB, ZC]); first | done | rfl) ?_; (with_reducible refine (Zav.calls k a1 a2 false true t334 _ A7.out).mono ?_); rintro e w' ⟨rfl, ⟨nd, rfl⟩⟩; refine ⟨_, rfl, ?_⟩))
    go_ret
    exact ⟨by first | rfl | (simp; done) | (simp [*]; done), by repeat (first | exact Zw.refl _ | apply Zw.step)⟩
def spec_l1word.f (l0 : List Int) (a1 : Int) : Option (Int) := if 0 ≤ a1 then (if a1 < (l0.length : Int) then (if 0 ≤ (wrap64 (a1 + 1)) then (if (wrap64 (a1 + 1)) < (l0.length : Int) then (if 0 ≤ (wrap64 (a1 + 2)) then (if (wrap64 (a1 + 2)) < (l0.length : Int) then (if 0 ≤ (wrap64 (a1 + 3)) then (if (wrap64 (a1 + 3)) < (l0.length : Int) then (some (wrap64 ((wrap64 ((wrap64 ((wrap64 (rd l0 a1)) + (wrap64 (256 * (wrap64 (rd l0 (wrap64 (a1 + 1)))))))) + (wrap64 (65536 * (wrap64 (rd l0 (wrap64 (a1 + 2)))))))) + (wrap64 (16777216 * (wrap64 (rd l0 (wrap64 (a1 + 3))))))))) else (none)) else (none)) else (none)) else (none)) else (none)) else (none)) else (none)) else (none)
set_option maxHeartbeats 8000000 in
set_option maxRecDepth 100000 in
theorem spec_l1word.calls (A0 : Option Addr) (c0 : Nat) (l0 : List Int) (a1 : Int) (r : Int) (w : World) (hr0 : Kd.C (Kd.int .u8) w A0 l0.length l0) (hc0 : l0.length ≤ c0) (h : spec_l1word.f l0 a1 = some r) :
  Calls Try.prog 67 #[.slice A0 l0.length c0, .int .i64 a1] w fun e w' => e = .returned (.int .i64 r) ∧ Zw w w' := by
 have HR0 := Za.mk hr0
 have HC0 := Za.mk hc0
 clear hr0 hc0
 have H := h
 unfold spec_l1word.f at H
 clear h
 by_cases c3 : 0 ≤ a1
 ·rw [if_pos c3] at H
  have c3b0 : decide (0 ≤ a1) = true := decide_eq_true c3
  clear c3
  by_cases c4 : a1 < (l0.length : Int)
  ·rw [if_pos c4] at H
   have c4b0 : decide (a1 < (l0.length : Int)) = true := decide_eq_true c4
   clear c4
   obtain ⟨ji5, hji5⟩ : ∃ j_ : Int, (wrap64 (a1 + 1)) = j_ := ⟨_, rfl⟩
   replace H : (if 0 ≤ (ji5) then (if (ji5) < (l0.length : Int) then (if 0 ≤ (wrap64 (a1 + 2)) then (if (wrap64 (a1 + 2)) < (l0.length : Int) then (if 0 ≤ (wrap64 (a1 + 3)) then (if (wrap64 (a1 + 3)) < (l0.length : Int) then (some (wrap64 ((wrap64 ((wrap64 ((wrap64 (rd l0 a1)) + (wrap64 (256 * (wrap64 (rd l0 (ji5))))))) + (wrap64 (65536 * (wrap64 (rd l0 (wrap64 (a1 + 2)))))))) + (wrap64 (16777216 * (wrap64 (rd l0 (wrap64 (a1 + 3))))))))) else (none)) else (none)) else (none)) else (none)) else (none)) else (none)) = some r := by first | (rw [hji5] at H; exact H) | (simp only [hji5] at H ⊢; exact H)
   have hji5w : (IntKind.i64.wrap (a1 + 1)) = ji5 := (Zn _).trans hji5
   by_cases c6 : 0 ≤ (ji5)
   ·rw [if_pos c6] at H
    have c6b0 : decide (0 ≤ (ji5)) = true := decide_eq_true c6
    clear c6
    by_cases c7 : (ji5) < (l0.length : Int)
    ·rw [if_pos c7] at H
     have c7b0 : decide ((ji5) < (l0.length : Int)) = true := decide_eq_true c7
     clear c7
     obtain ⟨ji8, hji8⟩ : ∃ j_ : Int, (wrap64 (a1 + 2)) = j_ := ⟨_, rfl⟩
     replace H : (if 0 ≤ (ji8) then (if (ji8) < (l0.length : Int) then (if 0 ≤ (wrap64 (a1 + 3)) then (if (wrap64 (a1 + 3)) < (l0.length : Int) then (some (wrap64 ((wrap64 ((wrap64 ((wrap64 (rd l0 a1)) + (wrap64 (256 * (wrap64 (rd l0 (ji5))))))) + (wrap64 (65536 * (wrap64 (rd l0 (ji8))))))) + (wrap64 (16777216 * (wrap64 (rd l0 (wrap64 (a1 + 3))))))))) else (none)) else (none)) else (none)) else (none)) = some r := by first | (rw [hji8] at H; exact H) | (simp only [hji8] at H ⊢; exact H)
     have hji8w : (IntKind.i64.wrap (a1 + 2)) = ji8 := (Zn _).trans hji8
     by_cases c9 : 0 ≤ (ji8)
     ·rw [if_pos c9] at H
      have c9b0 : decide (0 ≤ (ji8)) = true := decide_eq_true c9
      clear c9
      by_cases c10 : (ji8) < (l0.length : Int)
      ·rw [if_pos c10] at H
       have c10b0 : decide ((ji8) < (l0.length : Int)) = true := decide_eq_true c10
       clear c10
       obtain ⟨ji11, hji11⟩ : ∃ j_ : Int, (wrap64 (a1 + 3)) = j_ := ⟨_, rfl⟩
       replace H : (if 0 ≤ (ji11) then (if (ji11) < (l0.length : Int) then (some (wrap64 ((wrap64 ((wrap64 ((wrap64 (rd l0 a1)) + (wrap64 (256 * (wrap64 (rd l0 (ji5))))))) + (wrap64 (65536 * (wrap64 (rd l0 (ji8))))))) + (wrap64 (16777216 * (wrap64 (rd l0 (ji11)))))))) else (none)) else (none)) = some r := by first | (rw [hji11] at H; exact H) | (simp only [hji11] at H ⊢; exact H)
       have hji11w : (IntKind.i64.wrap (a1 + 3)) = ji11 := (Zn _).trans hji11
       by_cases c12 : 0 ≤ (ji11)
       ·rw [if_pos c12] at H
        have c12b0 : decide (0 ≤ (ji11)) = true := decide_eq_true c12
        clear c12
        by_cases c13 : (ji11) < (l0.length : Int)
        ·rw [if_pos c13] at H
         have c13b0 : decide ((ji11) < (l0.length : Int)) = true := decide_eq_true c13
         clear c13
         obtain rfl := Option.some.inj H
         have p335 : 0 ≤ (a1 : Int) := of_decide_eq_true (by assumption)
         have q335 : a1 < (l0.length : Int) := of_decide_eq_true (by assumption)
         obtain ⟨ad335, e335, hx335_0⟩ := Kd.at_int HR0.out a1 p335 q335
         cases e335
         replace p335 := eq_true p335
         replace q335 := eq_true q335
         have p336 : 0 ≤ ((ji5) : Int) := of_decide_eq_true (by assumption)
         have q336 : (ji5) < (l0.length : Int) := of_decide_eq_true (by assumption)
         obtain ⟨ad336, e336, hx336_0⟩ := Kd.at_int HR0.out (ji5) p336 q336
         obtain rfl : ad335 = ad336 := (by injection e336)
         replace p336 := eq_true p336
         replace q336 := eq_true q336
         have p337 : 0 ≤ ((ji8) : Int) := of_decide_eq_true (by assumption)
         have q337 : (ji8) < (l0.length : Int) := of_decide_eq_true (by assumption)
         obtain ⟨ad337, e337, hx337_0⟩ := Kd.at_int HR0.out (ji8) p337 q337
         obtain rfl : ad335 = ad337 := (by injection e337)
         replace p337 := eq_true p337
         replace q337 := eq_true q337
         have p338 : 0 ≤ ((ji11) : Int) := of_decide_eq_true (by assumption)
         have q338 : (ji11) < (l0.length : Int) := of_decide_eq_true (by assumption)
         obtain ⟨ad338, e338, hx338_0⟩ := Kd.at_int HR0.out (ji11) p338 q338
         obtain rfl : ad335 = ad338 := (by injection e338)
         replace p338 := eq_true p338
         replace q338 := eq_true q338
         go_enter Try.func67, Try.ntmps67
         go_wp2
         repeat (go_quiet (fail); try go_wp2)
         go_ret
         exact ⟨by first | rfl | (simp; done) | (simp only [← hji5, ← hji8, ← hji11] <;> (first | rfl | simp)) | (simp [*]; done), by repeat (first | exact Zw.refl _ | apply Zw.step)⟩
        ·rw [if_neg c13] at H
         exact absurd H (by simp)
       ·rw [if_neg c12] at H
        exact absurd H (by simp)
      ·rw [if_neg c10] at H
       exact absurd H (by simp)
     ·rw [if_neg c9] at H
      exact absurd H (by simp)
    ·rw [if_neg c7] at H
     exact absurd H (by simp)
   ·rw [if_neg c6] at H
    exact absurd H (by simp)
  ·rw [if_neg c4] at H
   exact absurd H (by simp)
 ·rw [if_neg c3] at H
  exact absurd H (by simp)

end Go.Proofs.Ytgodbniphkfgfaa.P
