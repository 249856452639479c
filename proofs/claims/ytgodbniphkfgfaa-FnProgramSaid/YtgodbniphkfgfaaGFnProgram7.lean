import Derived.Test.YtgodbniphkfgfaaGFnProgram4
import Derived.Test.YtgodbniphkfgfaaGFnProgram6
import Derived.Test.YtgodbniphkfgfaaGFnProgram5
namespace Go.Proofs.Ytgodbniphkfgfaa.P
open Go.RowKit Go.Proofs.YtgodbniphkfgfaaW.PrintWords Go.Proofs.YtgodbniphkfgfaaW.PrintLast Go.Proofs.YtgodbniphkfgfaaW.PrintMore
attribute [local go_sem] max2_int min2_int max_two min_two max_three min_three max_four min_four
set_option linter.unusedVariables false
set_option linter.unusedSimpArgs false

def spec_l1run.f (k : Nat) (l0 : List (S54)) (l1 : List Int) : Option (Int × Int) := if 16 ≤ 35184372088832 then ((Zz.f k l0 l1 0 0 (List.replicate 16 0)).bind fun bt443 => (some (bt443.1, bt443.2))) else (none)
set_option maxHeartbeats 8000000 in
set_option maxRecDepth 100000 in
theorem spec_l1run.calls (k : Nat) (A0 : Option Addr) (c0 : Nat) (l0 : List (S54)) (A1 : Option Addr) (c1 : Nat) (l1 : List Int) (r1 : Int) (r2 : Int) (w : World) (hr0 : Kd.C k54 w A0 l0.length l0) (hc0 : l0.length ≤ c0) (hr1 : Kd.C (Kd.int .u8) w A1 l1.length l1) (hc1 : l1.length ≤ c1) (h : spec_l1run.f k l0 l1 = some (r1, r2)) :
  Calls Try.prog 38 #[.slice A0 l0.length c0, .slice A1 l1.length c1] w fun e w' => e = .returned (.tuple #[.int .i64 r1, .int .i64 r2]) ∧ Below w.heap.size w w' := by
 have hu98 := Try.underlying98
 have HR0 := Za.mk hr0
 have HC0 := Za.mk hc0
 clear hr0 hc0
 have HR1 := Za.mk hr1
 have HC1 := Za.mk hc1
 clear hr1 hc1
 have HB := Za.mk (Below.refl w.heap.size w)
 have H : (if 16 ≤ 35184372088832 then ((Zz.f k l0 l1 0 0 (List.replicate 16 0)).bind fun bt443 => (some (bt443.1, bt443.2))) else (none)) = some (r1, r2) := h
 clear h
 by_cases c3 : 16 ≤ 35184372088832
 ·rw [if_pos c3] at H
  have c3b0 := eq_true c3
  have c3b1 : decide (16 ≤ 35184372088832) = true := decide_eq_true c3
  clear c3
  obtain ⟨y440, hy440⟩ : ∃ y_ : List Int, y_ = (List.replicate 16 0) := ⟨_, rfl⟩
  replace H : ((Zz.f k l0 l1 0 0 y440).bind fun bt443 => (some (bt443.1, bt443.2))) = some (r1, r2) := by first | (rw [hy440]; with_reducible exact H) | (have H2_ := (Option.bind_some _ _).symm.trans H; rw [hy440]; with_reducible exact H2_) | (have H2_ := (Option.bind_some _ _).symm.trans H; with_reducible exact H2_) | with_reducible exact H | (rw [hy440]; exact H) | exact H
  have Ny440 := Za.mk hy440
  clear hy440
  replace H := Option.bind_eq_some_iff.mp H
  obtain ⟨⟨t443, t444⟩, A40, H⟩ := H
  (try dsimp only at H)
  have A4 := Za.mk A40
  clear A40
  simp only [Option.some.injEq, Prod.mk.injEq] at H
  obtain ⟨rfl, rfl⟩ := H
  go_enter Try.func38, Try.ntmps38
  go_wp2_with (first | ((with_reducible refine Zbj (N := 8) rfl ?_); refine Kd.R_make (Kd.int .i64) _ 3 rfl (N := 8) rfl 96 _ _ rfl 16 rfl rfl Try.underlying96 (.int .i64 0) 8 info3 rfl (by decide) (by omega) 0 (ok := fun _ => True) (okp := fun _ => True) rfl (fun _ hk => hk) trivial (by omega) (by omega) (Below.refl _ _) (Nat.le_refl _) ?_; intro v441 w5 ho6 hb hg_ hnew_; clear hg_ hnew_; (first | rw [← Ny440.out] at ho6 | (simp only [Int.reduceToNat] at ho6; rw [← Ny440.out] at ho6)); have HO442 := Za.mk (Kd.Zbi ho6 (Zas (by repeat (first | (with_reducible first | exact HB.out | apply Ze | apply Zf | apply Zd) | exact HB.out)))); replace HB := Za.mk (Zai (by repeat (first | (with_reducible first | exact HB.out | apply Ze | apply Zf | apply Zd) | exact HB.out)) hb); clear hb ho6; obtain ⟨Ao7, co7, eo7⟩ := Kd.Zbf HO442.out; subst eo7) | ((with_reducible refine Zaf (f := 54) rfl ?_); refine Zae (some 10) rfl rfl Try.func54 (by kernel_rfl) rfl #[.slice A0 l0.length c0, .slice A1 l1.length c1, .agg #[.int .i64 0, .int .i64 0, .slice Ao7 y440.length co7]] rfl (by (try simp only [ZA, ZB, ZC]); first | done | rfl) ?_; (with_reducible refine (Zz.calls k _ _ l0 _ _ l1 0 0 _ _ y440 t443 t444 _ ?side1 ?side2 ?side3 ?side4 ?side5 ?side6 A4.out).mono ?_); (case side1 => repeat (first | exact (Kd.Zaw HR0.out HB.out) | (with_reducible refine Kd.Zam ?_ _) | (with_reducible refine Kd.Zao ?_ _) | (with_reducible refine Kd.Zan ?_))); (case side2 => exact HC0.out); (case side3 => repeat (first | exact (Kd.Zaw HR1.out HB.out) | (with_reducible refine Kd.Zam ?_ _) | (with_reducible refine Kd.Zao ?_ _) | (with_reducible refine Kd.Zan ?_))); (case side4 => exact HC1.out); (case side5 => repeat (first | exact (Kd.Zag HO442.out).2.2 | (with_reducible refine Kd.Zam ?_ _) | (with_reducible refine Kd.Zao ?_ _) | (with_reducible refine Kd.Zan ?_))); (case side6 => exact (Kd.Zag HO442.out).2.1); rintro e w8 ⟨rfl, hb⟩; refine ⟨_, rfl, ?_⟩; replace HO442 := Za.mk (Kd.Zaq (by (with_reducible repeat (first | apply Kd.Zs | apply Kd.Zt | apply Kd.Zr)); exact HO442.out) hb); replace HB := Za.mk (Zai (by repeat (first | (with_reducible first | exact HB.out | apply Ze | apply Zf | apply Zd) | exact HB.out)) hb); (try clear hb); (try clear hb2); (try clear hk); (try clear hi)))
  go_ret2
  exact ⟨by first | rfl | (simp [Zo, Zp] <;> rfl) | (simp [*, Zo, Zp] <;> rfl), by repeat (first | (with_reducible first | exact HB.out | apply Ze | apply Zf | apply Zd) | exact HB.out)⟩
 ·rw [if_neg c3] at H
  exact absurd H (by simp)
def spec_Run.f (k : Nat) (l0 : List (S54)) (l1 : List Int) : Option (Int × Int × Int) := (spec_l1valid.f k l0).bind fun t445 => (if t445 = true then (if (l1.length : Int) = 64 then ((spec_l1run.f k l0 l1).bind fun bt446 => (some ((bt446.1) % 4294967296, bt446.2, 0))) else (some (0, 0, 1))) else (some (0, 0, 1)))
set_option maxHeartbeats 8000000 in
set_option maxRecDepth 100000 in
theorem spec_Run.calls (k : Nat) (A0 : Option Addr) (c0 : Nat) (l0 : List (S54)) (A1 : Option Addr) (c1 : Nat) (l1 : List Int) (r1 : Int) (r2 : Int) (r3 : Int) (w : World) (hr0 : Kd.C k54 w A0 l0.length l0) (hc0 : l0.length ≤ c0) (hr1 : Kd.C (Kd.int .u8) w A1 l1.length l1) (hc1 : l1.length ≤ c1) (h : spec_Run.f k l0 l1 = some (r1, r2, r3)) :
  Calls Try.prog 22 #[.slice A0 l0.length c0, .slice A1 l1.length c1] w fun e w' => e = .returned (.tuple #[.int .u32 r1, .int .i64 r2, .int .i64 r3]) ∧ Below w.heap.size w w' := by
 have HR0 := Za.mk hr0
 have HC0 := Za.mk hc0
 clear hr0 hc0
 have HR1 := Za.mk hr1
 have HC1 := Za.mk hc1
 clear hr1 hc1
 have HB := Za.mk (Below.refl w.heap.size w)
 have H := h
 unfold spec_Run.f at H
 clear h
 replace H := Option.bind_eq_some_iff.mp H
 obtain ⟨t445, A30, H⟩ := H
 (try dsimp only at H)
 have A3 := Za.mk A30
 clear A30
 by_cases c4 : t445 = true
 ·subst c4
  have H1 : (if (l1.length : Int) = 64 then ((spec_l1run.f k l0 l1).bind fun bt446 => (some ((bt446.1) % 4294967296, bt446.2, 0))) else (some (0, 0, 1))) = some (r1, r2, r3) := by rw [if_pos rfl] at H; exact H
  clear H
  have H := H1
  clear H1
  by_cases c5 : (l1.length : Int) = 64
  ·rw [if_pos c5] at H
   have c5b0 : ((l1.length : Int) == 64) = true := beq_iff_eq.mpr c5
   have c5b1 : ((l1.length : Int) != 64) = false := bne_eq_false_iff_eq.mpr c5
   clear c5
   replace H := Option.bind_eq_some_iff.mp H
   obtain ⟨⟨t446, t447⟩, A60, H⟩ := H
   (try dsimp only at H)
   have A6 := Za.mk A60
   clear A60
   simp only [Option.some.injEq, Prod.mk.injEq] at H
   obtain ⟨rfl, rfl, rfl⟩ := H
   go_enter Try.func22, Try.ntmps22
   go_wp2_with (first | ((with_reducible refine Zaf (f := 37) rfl ?_); refine Zae (some 10) rfl rfl Try.func37 (by kernel_rfl) rfl #[.slice A0 l0.length c0] rfl (by (try simp only [ZA, ZB, ZC]); first | done | rfl) ?_; (with_reducible refine (spec_l1valid.calls k _ _ l0 true _ ?side1 ?side2 A3.out).mono ?_); (case side1 => repeat (first | exact HR0.out | (with_reducible refine Kd.Zam ?_ _) | (with_reducible refine Kd.Zao ?_ _) | (with_reducible refine Kd.Zan ?_))); (case side2 => exact HC0.out); rintro e w7 ⟨rfl, hb⟩; refine ⟨_, rfl, ?_⟩; replace HB := Za.mk (Zai (by repeat (first | (with_reducible first | exact HB.out | apply Ze | apply Zf | apply Zd) | exact HB.out)) hb); (try clear hb); (try clear hb2); (try clear hk); (try clear hi)) | ((with_reducible refine Zaf (f := 38) rfl ?_); refine Zae (some 20) rfl rfl Try.func38 (by kernel_rfl) rfl #[.slice A0 l0.length c0, .slice A1 l1.length c1] rfl (by (try simp only [ZA, ZB, ZC]); first | done | rfl) ?_; (with_reducible refine (spec_l1run.calls k _ _ l0 _ _ l1 t446 t447 _ ?side1 ?side2 ?side3 ?side4 A6.out).mono ?_); (case side1 => repeat (first | exact (Kd.Zaw HR0.out HB.out) | (with_reducible refine Kd.Zam ?_ _) | (with_reducible refine Kd.Zao ?_ _) | (with_reducible refine Kd.Zan ?_))); (case side2 => exact HC0.out); (case side3 => repeat (first | exact (Kd.Zaw HR1.out HB.out) | (with_reducible refine Kd.Zam ?_ _) | (with_reducible refine Kd.Zao ?_ _) | (with_reducible refine Kd.Zan ?_))); (case side4 => exact HC1.out); rintro e w8 ⟨rfl, hb⟩; refine ⟨_, rfl, ?_⟩; replace HB := Za.mk (Zai (by repeat (first | (with_reducible first | exact HB.out | apply Ze | apply Zf | apply Zd) | exact HB.out)) hb); (try clear hb); (try clear hb2); (try clear hk); (try clear hi)))
   go_ret3
   exact ⟨by first | rfl | (simp [Zo, Zp] <;> rfl) | (simp [*, Zo, Zp] <;> rfl), by repeat (first | (with_reducible first | exact HB.out | apply Ze | apply Zf | apply Zd) | exact HB.out)⟩
  ·rw [if_neg c5] at H
   have c5b0 : ((l1.length : Int) == 64) = false := beq_eq_false_iff_ne.mpr c5
   have c5b1 : ((l1.length : Int) != 64) = true := bne_iff_ne.mpr c5
   simp only [Option.some.injEq, Prod.mk.injEq] at H
   obtain ⟨rfl, rfl, rfl⟩ := H
   go_enter Try.func22, Try.ntmps22
   go_wp2_with (first | ((with_reducible refine Zaf (f := 37) rfl ?_); refine Zae (some 10) rfl rfl Try.func37 (by kernel_rfl) rfl #[.slice A0 l0.length c0] rfl (by (try simp only [ZA, ZB, ZC]); first | done | rfl) ?_; (with_reducible refine (spec_l1valid.calls k _ _ l0 true _ ?side1 ?side2 A3.out).mono ?_); (case side1 => repeat (first | exact HR0.out | (with_reducible refine Kd.Zam ?_ _) | (with_reducible refine Kd.Zao ?_ _) | (with_reducible refine Kd.Zan ?_))); (case side2 => exact HC0.out); rintro e w9 ⟨rfl, hb⟩; refine ⟨_, rfl, ?_⟩; replace HB := Za.mk (Zai (by repeat (first | (with_reducible first | exact HB.out | apply Ze | apply Zf | apply Zd) | exact HB.out)) hb); (try clear hb); (try clear hb2); (try clear hk); (try clear hi)))
   go_ret3
   exact ⟨by first | rfl | (simp [Zo, Zp] <;> rfl) | (simp [*, Zo, Zp] <;> rfl), by repeat (first | (with_reducible first | exact HB.out | apply Ze | apply Zf | apply Zd) | exact HB.out)⟩
 ·replace c4 := Bool.eq_false_iff.mpr c4
  subst c4
  have H1 : (some (0, 0, 1)) = some (r1, r2, r3) := by rw [if_neg (show ¬ (false = true) by decide)] at H; exact H
  clear H
  have H := H1
  clear H1
  simp only [Option.some.injEq, Prod.mk.injEq] at H
  obtain ⟨rfl, rfl, rfl⟩ := H
  go_enter Try.func22, Try.ntmps22
  go_wp2_with (first | ((with_reducible refine Zaf (f := 37) rfl ?_); refine Zae (some 10) rfl rfl Try.func37 (by kernel_rfl) rfl #[.slice A0 l0.length c0] rfl (by (try simp only [ZA, ZB, ZC]); first | done | rfl) ?_; (with_reducible refine (spec_l1valid.calls k _ _ l0 false _ ?side1 ?side2 A3.out).mono ?_); (case side1 => repeat (first | exact HR0.out | (with_reducible refine Kd.Zam ?_ _) | (with_reducible refine Kd.Zao ?_ _) | (with_reducible refine Kd.Zan ?_))); (case side2 => exact HC0.out); rintro e w10 ⟨rfl, hb⟩; refine ⟨_, rfl, ?_⟩; replace HB := Za.mk (Zai (by repeat (first | (with_reducible first | exact HB.out | apply Ze | apply Zf | apply Zd) | exact HB.out)) hb); (try clear hb); (try clear hb2); (try clear hk); (try clear hi)))
  go_ret3
  exact ⟨by first | rfl | (simp [Zo, Zp] <;> rfl) | (simp [*, Zo, Zp] <;> rfl), by repeat (first | (with_reducible first | exact HB.out | apply Ze | apply Zf | apply Zd) | exact HB.out)⟩
mutual
def Zat.j0 : Nat → Int → Bool → Option (Int)
  | 0, _, _ => none
  | k + 1, x3, x4 => if x4 = true then (some 1) else (if x3 = 5 then (some 3) else (if x3 = 21 then (Zat.j1 k x3 (x3 == 21)) else (if x3 = 29 then (Zat.j1 k x3 (x3 == 29)) else (if x3 = 37 then (Zat.j1 k x3 (x3 == 37)) else (if x3 = 45 then (Zat.j1 k x3 (x3 == 45)) else (if x3 = 53 then (Zat.j1 k x3 (x3 == 53)) else (if x3 = 61 then (Zat.j1 k x3 (x3 == 61)) else (if x3 = 69 then (Zat.j1 k x3 (x3 == 69)) else (Zat.j1 k x3 (x3 == 77))))))))))
def Zat.j1 : Nat → Int → Bool → Option (Int)
  | 0, _, _ => none
  | k + 1, x3, x35 => if x35 = true then (some 2) else (if x3 = 6 then (some 4) else (if x3 = 22 then (some 4) else (some 0)))
end
def Zat.f (k : Nat) (a0 : Int) : Option (Int) := if a0 = 0 then (Zat.j0 k a0 (a0 == 0)) else (if a0 = 1 then (Zat.j0 k a0 (a0 == 1)) else (if a0 = 32 then (Zat.j0 k a0 (a0 == 32)) else (if a0 = 96 then (Zat.j0 k a0 (a0 == 96)) else (if a0 = 97 then (Zat.j0 k a0 (a0 == 97)) else (if a0 = 2 then (Zat.j0 k a0 (a0 == 2)) else (if a0 = 3 then (Zat.j0 k a0 (a0 == 3)) else (if a0 = 4 then (Zat.j0 k a0 (a0 == 4)) else (if a0 = 12 then (Zat.j0 k a0 (a0 == 12)) else (if a0 = 20 then (Zat.j0 k a0 (a0 == 20)) else (if a0 = 28 then (Zat.j0 k a0 (a0 == 28)) else (if a0 = 36 then (Zat.j0 k a0 (a0 == 36)) else (if a0 = 44 then (Zat.j0 k a0 (a0 == 44)) else (if a0 = 52 then (Zat.j0 k a0 (a0 == 52)) else (if a0 = 60 then (Zat.j0 k a0 (a0 == 60)) else (if a0 = 68 then (Zat.j0 k a0 (a0 == 68)) else (if a0 = 76 then (Zat.j0 k a0 (a0 == 76)) else (if a0 = 84 then (Zat.j0 k a0 (a0 == 84)) else (if a0 = 92 then (Zat.j0 k a0 (a0 == 92)) else (if a0 = 164 then (Zat.j0 k a0 (a0 == 164)) else (if a0 = 172 then (Zat.j0 k a0 (a0 == 172)) else (if a0 = 100 then (Zat.j0 k a0 (a0 == 100)) else (if a0 = 108 then (Zat.j0 k a0 (a0 == 108)) else (if a0 = 116 then (Zat.j0 k a0 (a0 == 116)) else (if a0 = 124 then (Zat.j0 k a0 (a0 == 124)) else (if a0 = 132 then (Zat.j0 k a0 (a0 == 132)) else (if a0 = 7 then (Zat.j0 k a0 (a0 == 7)) else (Zat.j0 k a0 (a0 == 135))))))))))))))))))))))))))))
set_option maxHeartbeats 8000000 in
set_option maxRecDepth 100000 in
theorem Zat.calls (k : Nat) (a0 : Int) (r : Int) (w : World) (h : Zat.f k a0 = some r) :
  Calls Try.prog 63 #[.int .u16 a0] w fun e w' => e = .returned (.int .i64 r) ∧ Zw w w' := by
 have H := h
 unfold Zat.f at H
 clear h
 have HC2 := Za.mk H
 clear H
 go_enter Try.func63, Try.ntmps63
 go_upto_if 4 with (fail)
 go_cut [4] (fun v4 wc => ∃ (kq : Nat) (x4_1 : Bool), v4 = .bool x4_1 ∧ Za (Zat.j0 kq a0 x4_1 = some r) ∧ Za (kq ≤ k) ∧ Zw w wc)
 case first =>
  have H := HC2.out
  clear HC2
  by_cases c3 : a0 = 0
  ·rw [if_pos c3] at H
   have c3b0 : (a0 == 0) = true := beq_iff_eq.mpr c3
   have c3b1 : (a0 != 0) = false := bne_eq_false_iff_eq.mpr c3
   clear c3
   (first | rw [c3b0] | (simp only [Zn, Zq]; rw [c3b0]) | skip)
   have H' := Za.mk H
   clear H
   go_wp2
   go_meet
   case rel => exact ⟨_, ((a0 == 0)), (by first | rfl | (simp; done) | (simp [*]; done)), H', ⟨by first | omega | exact Nat.le_refl _⟩, by repeat (first | exact Zw.refl _ | apply Zw.step)⟩
  ·rw [if_neg c3] at H
   have c3b0 : (a0 == 0) = false := beq_eq_false_iff_ne.mpr c3
   have c3b1 : (a0 != 0) = true := bne_iff_ne.mpr c3
   (first | rw [c3b0] | (simp only [Zn, Zq]; rw [c3b0]) | skip)
   by_cases c4 : a0 = 1
   ·rw [if_pos c4] at H
    have c4b0 : (a0 == 1) = true := beq_iff_eq.mpr c4
    have c4b1 : (a0 != 1) = false := bne_eq_false_iff_eq.mpr c4
    clear c4
    have H' := Za.mk H
    clear H
    go_wp2
    go_meet
    case rel => exact ⟨_, ((a0 == 1)), (by first | rfl | (simp; done) | (simp [*]; done)), H', ⟨by first | omega | exact Nat.le_refl _⟩, by repeat (first | exact Zw.refl _ | apply Zw.step)⟩
   ·rw [if_neg c4] at H
    have c4b0 : (a0 == 1) = false := beq_eq_false_iff_ne.mpr c4
    have c4b1 : (a0 != 1) = true := bne_iff_ne.mpr c4
    by_cases c5 : a0 = 32
    ·rw [if_pos c5] at H
     have c5b0 : (a0 == 32) = true := beq_iff_eq.mpr c5
     have c5b1 : (a0 != 32) = false := bne_eq_false_iff_eq.mpr c5
     clear c5
     have H' := Za.mk H
     clear H
     go_wp2
     go_meet
     case rel => exact ⟨_, ((a0 == 32)), (by first | rfl | (simp; done) | (simp [*]; done)), H', ⟨by first | omega | exact Nat.le_refl _⟩, by repeat (first | exact Zw.refl _ | apply Zw.step)⟩
    ·rw [if_neg c5] at H
     have c5b0 : (a0 == 32) = false := beq_eq_false_iff_ne.mpr c5
     have c5b1 : (a0 != 32) = true := bne_iff_ne.mpr c5
     by_cases c6 : a0 = 96
     ·rw [if_pos c6] at H
      have c6b0 : (a0 == 96) = true := beq_iff_eq.mpr c6
      have c6b1 : (a0 != 96) = false := bne_eq_false_iff_eq.mpr c6
      clear c6
      have H' := Za.mk H
      clear H
      go_wp2
      go_meet
      case rel => exact ⟨_, ((a0 == 96)), (by first | rfl | (simp; done) | (simp [*]; done)), H', ⟨by first | omega | exact Nat.le_refl _⟩, by repeat (first | exact Zw.refl _ | apply Zw.step)⟩
     ·rw [if_neg c6] at H
      have c6b0 : (a0 == 96) = false := beq_eq_false_iff_ne.mpr c6
      have c6b1 : (a0 != 96) = true := bne_iff_ne.mpr c6
      by_cases c7 : a0 = 97
      ·rw [if_pos c7] at H
       have c7b0 : (a0 == 97) = true := beq_iff_eq.mpr c7
       have c7b1 : (a0 != 97) = false := bne_eq_false_iff_eq.mpr c7
       clear c7
       have H' := Za.mk H
       clear H
       go_wp2
       go_meet
       case rel => exact ⟨_, ((a0 == 97)), (by first | rfl | (simp; done) | (simp [*]; done)), H', ⟨by first | omega | exact Nat.le_refl _⟩, by repeat (first | exact Zw.refl _ | apply Zw.step)⟩
      ·rw [if_neg c7] at H
       have c7b0 : (a0 == 97) = false := beq_eq_false_iff_ne.mpr c7
       have c7b1 : (a0 != 97) = true := bne_iff_ne.mpr c7
       by_cases c8 : a0 = 2
       ·rw [if_pos c8] at H
        have c8b0 : (a0 == 2) = true := beq_iff_eq.mpr c8
        have c8b1 : (a0 != 2) = false := bne_eq_false_iff_eq.mpr c8
        clear c8
        have H' := Za.mk H
        clear H
        go_wp2
        go_meet
        case rel => exact ⟨_, ((a0 == 2)), (by first | rfl | (simp; done) | (simp [*]; done)), H', ⟨by first | omega | exact Nat.le_refl _⟩, by repeat (first | exact Zw.refl _ | apply Zw.step)⟩
       ·rw [if_neg c8] at H
        have c8b0 : (a0 == 2) = false := beq_eq_false_iff_ne.mpr c8
        have c8b1 : (a0 != 2) = true := bne_iff_ne.mpr c8
        by_cases c9 : a0 = 3
        ·rw [if_pos c9] at H
         have c9b0 : (a0 == 3) = true := beq_iff_eq.mpr c9
         have c9b1 : (a0 != 3) = false := bne_eq_false_iff_eq.mpr c9
         clear c9
         have H' := Za.mk H
         clear H
         go_wp2
         go_meet
         case rel => exact ⟨_, ((a0 == 3)), (by first | rfl | (simp; done) | (simp [*]; done)), H', ⟨by first | omega | exact Nat.le_refl _⟩, by repeat (first | exact Zw.refl _ | apply Zw.step)⟩
        ·rw [if_neg c9] at H
         have c9b0 : (a0 == 3) = false := beq_eq_false_iff_ne.mpr c9
         have c9b1 : (a0 != 3) = true := bne_iff_ne.mpr c9
         by_cases c10 : a0 = 4
         ·rw [if_pos c10] at H
          have c10b0 : (a0 == 4) = true := beq_iff_eq.mpr c10
          have c10b1 : (a0 != 4) = false := bne_eq_false_iff_eq.mpr c10
          clear c10
          have H' := Za.mk H
          clear H
          go_wp2
          go_meet
          case rel => exact ⟨_, ((a0 == 4)), (by first | rfl | (simp; done) | (simp [*]; done)), H', ⟨by first | omega | exact Nat.le_refl _⟩, by repeat (first | exact Zw.refl _ | apply Zw.step)⟩
         ·rw [if_neg c10] at H
          have c10b0 : (a0 == 4) = false := beq_eq_false_iff_ne.mpr c10
          have c10b1 : (a0 != 4) = true := bne_iff_ne.mpr c10
          by_cases c11 : a0 = 12
          ·rw [if_pos c11] at H
           have c11b0 : (a0 == 12) = true := beq_iff_eq.mpr c11
           have c11b1 : (a0 != 12) = false := bne_eq_false_iff_eq.mpr c11
           clear c11
           have H' := Za.mk H
           clear H
           go_wp2
           go_meet
           case rel => exact ⟨_, ((a0 == 12)), (by first | rfl | (simp; done) | (simp [*]; done)), H', ⟨by first | omega | exact Nat.le_refl _⟩, by repeat (first | exact Zw.refl _ | apply Zw.step)⟩
          ·rw [if_neg c11] at H
           have c11b0 : (a0 == 12) = false := beq_eq_false_iff_ne.mpr c11
           have c11b1 : (a0 != 12) = true := bne_iff_ne.mpr c11
           by_cases c12 : a0 = 20
           ·rw [if_pos c12] at H
            have c12b0 : (a0 == 20) = true := beq_iff_eq.mpr c12
            have c12b1 : (a0 != 20) = false := bne_eq_false_iff_eq.mpr c12
            clear c12
            have H' := Za.mk H
            clear H
            go_wp2
            go_meet
            case rel => exact ⟨_, ((a0 == 20)), (by first | rfl | (simp; done) | (simp [*]; done)), H', ⟨by first | omega | exact Nat.le_refl _⟩, by repeat (first | exact Zw.refl _ | apply Zw.step)⟩
           ·rw [if_neg c12] at H
            have c12b0 : (a0 == 20) = false := beq_eq_false_iff_ne.mpr c12
            have c12b1 : (a0 != 20) = true := bne_iff_ne.mpr c12
            by_cases c13 : a0 = 28
            ·rw [if_pos c13] at H
             have c13b0 : (a0 == 28) = true := beq_iff_eq.mpr c13
             have c13b1 : (a0 != 28) = false := bne_eq_false_iff_eq.mpr c13
             clear c13
             have H' := Za.mk H
             clear H
             go_wp2
             go_meet
             case rel => exact ⟨_, ((a0 == 28)), (by first | rfl | (simp; done) | (simp [*]; done)), H', ⟨by first | omega | exact Nat.le_refl _⟩, by repeat (first | exact Zw.refl _ | apply Zw.step)⟩
            ·rw [if_neg c13] at H
             have c13b0 : (a0 == 28) = false := beq_eq_false_iff_ne.mpr c13
             have c13b1 : (a0 != 28) = true := bne_iff_ne.mpr c13
             by_cases c14 : a0 = 36
             ·rw [if_pos c14] at H
              have c14b0 : (a0 == 36) = true := beq_iff_eq.mpr c14
              have c14b1 : (a0 != 36) = false := bne_eq_false_iff_eq.mpr c14
              clear c14
              have H' := Za.mk H
              clear H
              go_wp2
              go_meet
              case rel => exact ⟨_, ((a0 == 36)), (by first | rfl | (simp; done) | (simp [*]; done)), H', ⟨by first | omega | exact Nat.le_refl _⟩, by repeat (first | exact Zw.refl _ | apply Zw.step)⟩
             ·rw [if_neg c14] at H
              have c14b0 : (a0 == 36) = false := beq_eq_false_iff_ne.mpr c14
              have c14b1 : (a0 != 36) = true := bne_iff_ne.mpr c14
              by_cases c15 : a0 = 44
              ·rw [if_pos c15] at H
               have c15b0 : (a0 == 44) = true := beq_iff_eq.mpr c15
               have c15b1 : (a0 != 44) = false := bne_eq_false_iff_eq.mpr c15
               clear c15
               have H' := Za.mk H
               clear H
               go_wp2
               go_meet
               case rel => exact ⟨_, ((a0 == 44)), (by first | rfl | (simp; done) | (simp [*]; done)), H', ⟨by first | omega | exact Nat.le_refl _⟩, by repeat (first | exact Zw.refl _ | apply Zw.step)⟩
              ·rw [if_neg c15] at H
               have c15b0 : (a0 == 44) = false := beq_eq_false_iff_ne.mpr c15
               have c15b1 : (a0 != 44) = true := bne_iff_ne.mpr c15
               by_cases c16 : a0 = 52
               ·rw [if_pos c16] at H
                have c16b0 : (a0 == 52) = true := beq_iff_eq.mpr c16
                have c16b1 : (a0 != 52) = false := bne_eq_false_iff_eq.mpr c16
                clear c16
                have H' := Za.mk H
                clear H
                go_wp2
                go_meet
                case rel => exact ⟨_, ((a0 == 52)), (by first | rfl | (simp; done) | (simp [*]; done)), H', ⟨by first | omega | exact Nat.le_refl _⟩, by repeat (first | exact Zw.refl _ | apply Zw.step)⟩
               ·rw [if_neg c16] at H
                have c16b0 : (a0 == 52) = false := beq_eq_false_iff_ne.mpr c16
                have c16b1 : (a0 != 52) = true := bne_iff_ne.mpr c16
                by_cases c17 : a0 = 60
                ·rw [if_pos c17] at H
                 have c17b0 : (a0 == 60) = true := beq_iff_eq.mpr c17
                 have c17b1 : (a0 != 60) = false := bne_eq_false_iff_eq.mpr c17
                 clear c17
                 have H' := Za.mk H
                 clear H
                 go_wp2
                 go_meet
                 case rel => exact ⟨_, ((a0 == 60)), (by first | rfl | (simp; done) | (simp [*]; done)), H', ⟨by first | omega | exact Nat.le_refl _⟩, by repeat (first | exact Zw.refl _ | apply Zw.step)⟩
                ·rw [if_neg c17] at H
                 have c17b0 : (a0 == 60) = false := beq_eq_false_iff_ne.mpr c17
                 have c17b1 : (a0 != 60) = true := bne_iff_ne.mpr c17
                 by_cases c18 : a0 = 68
                 ·rw [if_pos c18] at H
                  have c18b0 : (a0 == 68) = true := beq_iff_eq.mpr c18
                  have c18b1 : (a0 != 68) = false := bne_eq_false_iff_eq.mpr c18
                  clear c18
                  have H' := Za.mk H
                  clear H
                  go_wp2
                  go_meet
                  case rel => exact ⟨_, ((a0 == 68)), (by first | rfl | (simp; done) | (simp [*]; done)), H', ⟨by first | omega | exact Nat.le_refl _⟩, by repeat (first | exact Zw.refl _ | apply Zw.step)⟩
                 ·rw [if_neg c18] at H
                  have c18b0 : (a0 == 68) = false := beq_eq_false_iff_ne.mpr c18
                  have c18b1 : (a0 != 68) = true := bne_iff_ne.mpr c18
                  by_cases c19 : a0 = 76
                  ·rw [if_pos c19] at H
                   have c19b0 : (a0 == 76) = true := beq_iff_eq.mpr c19
                   have c19b1 : (a0 != 76) = false := bne_eq_false_iff_eq.mpr c19
                   clear c19
                   have H' := Za.mk H
                   clear H
                   go_wp2
                   go_meet
                   case rel => exact ⟨_, ((a0 == 76)), (by first | rfl | (simp; done) | (simp [*]; done)), H', ⟨by first | omega | exact Nat.le_refl _⟩, by repeat (first | exact Zw.refl _ | apply Zw.step)⟩
                  ·rw [if_neg c19] at H
                   have c19b0 : (a0 == 76) = false := beq_eq_false_iff_ne.mpr c19
                   have c19b1 : (a0 != 76) = true := bne_iff_ne.mpr c19
                   by_cases c20 : a0 = 84
                   ·rw [if_pos c20] at H
                    have c20b0 : (a0 == 84) = true := beq_iff_eq.mpr c20
                    have c20b1 : (a0 != 84) = false := bne_eq_false_iff_eq.mpr c20
                    clear c20
                    have H' := Za.mk H
                    clear H
                    go_wp2
                    go_meet
                    case rel => exact ⟨_, ((a0 == 84)), (by first | rfl | (simp; done) | (simp [*]; done)), H', ⟨by first | omega | exact Nat.le_refl _⟩, by repeat (first | exact Zw.refl _ | apply Zw.step)⟩
                   ·rw [if_neg c20] at H
                    have c20b0 : (a0 == 84) = false := beq_eq_false_iff_ne.mpr c20
                    have c20b1 : (a0 != 84) = true := bne_iff_ne.mpr c20
                    by_cases c21 : a0 = 92
                    ·rw [if_pos c21] at H
                     have c21b0 : (a0 == 92) = true := beq_iff_eq.mpr c21
                     have c21b1 : (a0 != 92) = false := bne_eq_false_iff_eq.mpr c21
                     clear c21
                     have H' := Za.mk H
                     clear H
                     go_wp2
                     go_meet
                     case rel => exact ⟨_, ((a0 == 92)), (by first | rfl | (simp; done) | (simp [*]; done)), H', ⟨by first | omega | exact Nat.le_refl _⟩, by repeat (first | exact Zw.refl _ | apply Zw.step)⟩
                    ·rw [if_neg c21] at H
                     have c21b0 : (a0 == 92) = false := beq_eq_false_iff_ne.mpr c21
                     have c21b1 : (a0 != 92) = true := bne_iff_ne.mpr c21
                     by_cases c22 : a0 = 164
                     ·rw [if_pos c22] at H
                      have c22b0 : (a0 == 164) = true := beq_iff_eq.mpr c22
                      have c22b1 : (a0 != 164) = false := bne_eq_false_iff_eq.mpr c22
                      clear c22
                      have H' := Za.mk H
                      clear H
                      go_wp2
                      go_meet
                      case rel => exact ⟨_, ((a0 == 164)), (by first | rfl | (simp; done) | (simp [*]; done)), H', ⟨by first | omega | exact Nat.le_refl _⟩, by repeat (first | exact Zw.refl _ | apply Zw.step)⟩
                     ·rw [if_neg c22] at H
                      have c22b0 : (a0 == 164) = false := beq_eq_false_iff_ne.mpr c22
                      have c22b1 : (a0 != 164) = true := bne_iff_ne.mpr c22
                      by_cases c23 : a0 = 172
                      ·rw [if_pos c23] at H
                       have c23b0 : (a0 == 172) = true := beq_iff_eq.mpr c23
                       have c23b1 : (a0 != 172) = false := bne_eq_false_iff_eq.mpr c23
                       clear c23
                       have H' := Za.mk H
                       clear H
                       go_wp2
                       go_meet
                       case rel => exact ⟨_, ((a0 == 172)), (by first | rfl | (simp; done) | (simp [*]; done)), H', ⟨by first | omega | exact Nat.le_refl _⟩, by repeat (first | exact Zw.refl _ | apply Zw.step)⟩
                      ·rw [if_neg c23] at H
                       have c23b0 : (a0 == 172) = false := beq_eq_false_iff_ne.mpr c23
                       have c23b1 : (a0 != 172) = true := bne_iff_ne.mpr c23
                       by_cases c24 : a0 = 100
                       ·rw [if_pos c24] at H
                        have c24b0 : (a0 == 100) = true := beq_iff_eq.mpr c24
                        have c24b1 : (a0 != 100) = false := bne_eq_false_iff_eq.mpr c24
                        clear c24
                        have H' := Za.mk H
                        clear H
                        go_wp2
                        go_meet
                        case rel => exact ⟨_, ((a0 == 100)), (by first | rfl | (simp; done) | (simp [*]; done)), H', ⟨by first | omega | exact Nat.le_refl _⟩, by repeat (first | exact Zw.refl _ | apply Zw.step)⟩
                       ·rw [if_neg c24] at H
                        have c24b0 : (a0 == 100) = false := beq_eq_false_iff_ne.mpr c24
                        have c24b1 : (a0 != 100) = true := bne_iff_ne.mpr c24
                        by_cases c25 : a0 = 108
                        ·rw [if_pos c25] at H
                         have c25b0 : (a0 == 108) = true := beq_iff_eq.mpr c25
                         have c25b1 : (a0 != 108) = false := bne_eq_false_iff_eq.mpr c25
                         clear c25
                         have H' := Za.mk H
                         clear H
                         go_wp2
                         go_meet
                         case rel => exact ⟨_, ((a0 == 108)), (by first | rfl | (simp; done) | (simp [*]; done)), H', ⟨by first | omega | exact Nat.le_refl _⟩, by repeat (first | exact Zw.refl _ | apply Zw.step)⟩
                        ·rw [if_neg c25] at H
                         have c25b0 : (a0 == 108) = false := beq_eq_false_iff_ne.mpr c25
                         have c25b1 : (a0 != 108) = true := bne_iff_ne.mpr c25
                         by_cases c26 : a0 = 116
                         ·rw [if_pos c26] at H
                          have c26b0 : (a0 == 116) = true := beq_iff_eq.mpr c26
                          have c26b1 : (a0 != 116) = false := bne_eq_false_iff_eq.mpr c26
                          clear c26
                          have H' := Za.mk H
                          clear H
                          go_wp2
                          go_meet
                          case rel => exact ⟨_, ((a0 == 116)), (by first | rfl | (simp; done) | (simp [*]; done)), H', ⟨by first | omega | exact Nat.le_refl _⟩, by repeat (first | exact Zw.refl _ | apply Zw.step)⟩
                         ·rw [if_neg c26] at H
                          have c26b0 : (a0 == 116) = false := beq_eq_false_iff_ne.mpr c26
                          have c26b1 : (a0 != 116) = true := bne_iff_ne.mpr c26
                          by_cases c27 : a0 = 124
                          ·rw [if_pos c27] at H
                           have c27b0 : (a0 == 124) = true := beq_iff_eq.mpr c27
                           have c27b1 : (a0 != 124) = false := bne_eq_false_iff_eq.mpr c27
                           clear c27
                           have H' := Za.mk H
                           clear H
                           go_wp2
                           go_meet
                           case rel => exact ⟨_, ((a0 == 124)), (by first | rfl | (simp; done) | (simp [*]; done)), H', ⟨by first | omega | exact Nat.le_refl _⟩, by repeat (first | exact Zw.refl _ | apply Zw.step)⟩
                          ·rw [if_neg c27] at H
                           have c27b0 : (a0 == 124) = false := beq_eq_false_iff_ne.mpr c27
                           have c27b1 : (a0 != 124) = true := bne_iff_ne.mpr c27
                           by_cases c28 : a0 = 132
                           ·rw [if_pos c28] at H
                            have c28b0 : (a0 == 132) = true := beq_iff_eq.mpr c28
                            have c28b1 : (a0 != 132) = false := bne_eq_false_iff_eq.mpr c28
                            clear c28
                            have H' := Za.mk H
                            clear H
                            go_wp2
                            go_meet
                            case rel => exact ⟨_, ((a0 == 132)), (by first | rfl | (simp; done) | (simp [*]; done)), H', ⟨by first | omega | exact Nat.le_refl _⟩, by repeat (first | exact Zw.refl _ | apply Zw.step)⟩
                           ·rw [if_neg c28] at H
                            have c28b0 : (a0 == 132) = false := beq_eq_false_iff_ne.mpr c28
                            have c28b1 : (a0 != 132) = true := bne_iff_ne.mpr c28
                            by_cases c29 : a0 = 7
                            ·rw [if_pos c29] at H
                             have c29b0 : (a0 == 7) = true := beq_iff_eq.mpr c29
                             have c29b1 : (a0 != 7) = false := bne_eq_false_iff_eq.mpr c29
                             clear c29
                             have H' := Za.mk H
                             clear H
                             go_wp2
                             go_meet
                             case rel => exact ⟨_, ((a0 == 7)), (by first | rfl | (simp; done) | (simp [*]; done)), H', ⟨by first | omega | exact Nat.le_refl _⟩, by repeat (first | exact Zw.refl _ | apply Zw.step)⟩
                            ·rw [if_neg c29] at H
                             have c29b0 : (a0 == 7) = false := beq_eq_false_iff_ne.mpr c29
                             have c29b1 : (a0 != 7) = true := bne_iff_ne.mpr c29
                             have H' := Za.mk H
                             clear H
                             go_wp2
                             go_meet
                             case rel => exact ⟨_, ((a0 == 135)), (by first | rfl | (simp; done) | (simp [*]; done)), H', ⟨by first | omega | exact Nat.le_refl _⟩, by repeat (first | exact Zw.refl _ | apply Zw.step)⟩
 case rest =>
  clear HC2
  try clear c1
  try clear c2
  try clear p2
  try clear c3
  try clear c3b0
  try clear c3b1
  try clear c4
  try clear c4b0
  try clear c4b1
  try clear c5
  try clear c5b0
  try clear c5b1
  try clear c6
  try clear c6b0
  try clear c6b1
  try clear c7
  try clear c7b0
  try clear c7b1
  try clear c8
  try clear c8b0
  try clear c8b1
  try clear c9
  try clear c9b0
  try clear c9b1
  try clear c10
  try clear c10b0
  try clear c10b1
  try clear c11
  try clear c11b0
  try clear c11b1
  try clear c12
  try clear c12b0
  try clear c12b1
  try clear c13
  try clear c13b0
  try clear c13b1
  try clear c14
  try clear c14b0
  try clear c14b1
  try clear c15
  try clear c15b0
  try clear c15b1
  try clear c16
  try clear c16b0
  try clear c16b1
  try clear c17
  try clear c17b0
  try clear c17b1
  try clear c18
  try clear c18b0
  try clear c18b1
  try clear c19
  try clear c19b0
  try clear c19b1
  try clear c20
  try clear c20b0
  try clear c20b1
  try clear c21
  try clear c21b0
  try clear c21b1
  try clear c22
  try clear c22b0
  try clear c22b1
  try clear c23
  try clear c23b0
  try clear c23b1
  try clear c24
  try clear c24b0
  try clear c24b1
  try clear c25
  try clear c25b0
  try clear c25b1
  try clear c26
  try clear c26b0
  try clear c26b1
  try clear c27
  try clear c27b0
  try clear c27b1
  try clear c28
  try clear c28b0
  try clear c28b1
  try clear c29
  try clear c29b0
  try clear c29b1
  obtain ⟨kq, x4_1, rfl, HA, HJ1, ⟨mc1, rfl⟩⟩ := hcut
  cases kq with
  | zero => exact absurd HA.out (by simp [Zat.j0])
  | succ kj1 =>
   have H := HA.out
   clear HA
   simp only [Zat.j0] at H
   by_cases c30 : x4_1 = true
   ·subst c30
    have H1 : (some 1) = some r := by rw [if_pos rfl] at H; exact H
    clear H
    have H := H1
    clear H1
    obtain rfl := Option.some.inj H
    go_wp2
    go_ret
    exact ⟨by first | rfl | (simp; done) | (simp [*]; done), by repeat (first | exact Zw.refl _ | apply Zw.step)⟩
   ·replace c30 := Bool.eq_false_iff.mpr c30
    subst c30
    have H1 : (if a0 = 5 then (some 3) else (if a0 = 21 then (Zat.j1 kj1 a0 (a0 == 21)) else (if a0 = 29 then (Zat.j1 kj1 a0 (a0 == 29)) else (if a0 = 37 then (Zat.j1 kj1 a0 (a0 == 37)) else (if a0 = 45 then (Zat.j1 kj1 a0 (a0 == 45)) else (if a0 = 53 then (Zat.j1 kj1 a0 (a0 == 53)) else (if a0 = 61 then (Zat.j1 kj1 a0 (a0 == 61)) else (if a0 = 69 then (Zat.j1 kj1 a0 (a0 == 69)) else (Zat.j1 kj1 a0 (a0 == 77)))))))))) = some r := by rw [if_neg (show ¬ (false = true) by decide)] at H; exact H
    clear H
    have H := H1
    clear H1
    by_cases c31 : a0 = 5
    ·rw [if_pos c31] at H
     have c31b0 : (a0 == 5) = true := beq_iff_eq.mpr c31
     have c31b1 : (a0 != 5) = false := bne_eq_false_iff_eq.mpr c31
     clear c31
     obtain rfl := Option.some.inj H
     go_wp2
     go_ret
     exact ⟨by first | rfl | (simp; done) | (simp [*]; done), by repeat (first | exact Zw.refl _ | apply Zw.step)⟩
    ·rw [if_neg c31] at H
     have c31b0 : (a0 == 5) = false := beq_eq_false_iff_ne.mpr c31
     have c31b1 : (a0 != 5) = true := bne_iff_ne.mpr c31
     have HC32 := Za.mk H
     clear H
     go_upto_if 35 with (fail)
     go_cut [35] (fun v35 wc => ∃ (kq : Nat) (x35_31 : Bool), v35 = .bool x35_31 ∧ Za (Zat.j1 kq a0 x35_31 = some r) ∧ Za (kq ≤ kj1) ∧ Zw w wc)
     case first =>
      have H := HC32.out
      clear HC32
      by_cases c33 : a0 = 21
      ·rw [if_pos c33] at H
       have c33b0 : (a0 == 21) = true := beq_iff_eq.mpr c33
       have c33b1 : (a0 != 21) = false := bne_eq_false_iff_eq.mpr c33
       clear c33
       (first | rw [c33b0] | (simp only [Zn, Zq]; rw [c33b0]) | skip)
       have H' := Za.mk H
       clear H
       go_wp2
       go_meet
       case rel => exact ⟨_, ((a0 == 21)), (by first | rfl | (simp; done) | (simp [*]; done)), H', ⟨by have := HJ1.out; first | omega | exact Nat.le_refl _⟩, by repeat (first | exact Zw.refl _ | apply Zw.step)⟩
      ·rw [if_neg c33] at H
       have c33b0 : (a0 == 21) = false := beq_eq_false_iff_ne.mpr c33
       have c33b1 : (a0 != 21) = true := bne_iff_ne.mpr c33
       (first | rw [c33b0] | (simp only [Zn, Zq]; rw [c33b0]) | skip)
       by_cases c34 : a0 = 29
       ·rw [if_pos c34] at H
        have c34b0 : (a0 == 29) = true := beq_iff_eq.mpr c34
        have c34b1 : (a0 != 29) = false := bne_eq_false_iff_eq.mpr c34
        clear c34
        have H' := Za.mk H
        clear H
        go_wp2
        go_meet
        case rel => exact ⟨_, ((a0 == 29)), (by first | rfl | (simp; done) | (simp [*]; done)), H', ⟨by have := HJ1.out; first | omega | exact Nat.le_refl _⟩, by repeat (first | exact Zw.refl _ | apply Zw.step)⟩
       ·rw [if_neg c34] at H
        have c34b0 : (a0 == 29) = false := beq_eq_false_iff_ne.mpr c34
        have c34b1 : (a0 != 29) = true := bne_iff_ne.mpr c34
        by_cases c35 : a0 = 37
        ·rw [if_pos c35] at H
         have c35b0 : (a0 == 37) = true := beq_iff_eq.mpr c35
         have c35b1 : (a0 != 37) = false := bne_eq_false_iff_eq.mpr c35
         clear c35
         have H' := Za.mk H
         clear H
         go_wp2
         go_meet
         case rel => exact ⟨_, ((a0 == 37)), (by first | rfl | (simp; done) | (simp [*]; done)), H', ⟨by have := HJ1.out; first | omega | exact Nat.le_refl _⟩, by repeat (first | exact Zw.refl _ | apply Zw.step)⟩
        ·rw [if_neg c35] at H
         have c35b0 : (a0 == 37) = false := beq_eq_false_iff_ne.mpr c35
         have c35b1 : (a0 != 37) = true := bne_iff_ne.mpr c35
         by_cases c36 : a0 = 45
         ·rw [if_pos c36] at H
          have c36b0 : (a0 == 45) = true := beq_iff_eq.mpr c36
          have c36b1 : (a0 != 45) = false := bne_eq_false_iff_eq.mpr c36
          clear c36
          have H' := Za.mk H
          clear H
          go_wp2
          go_meet
          case rel => exact ⟨_, ((a0 == 45)), (by first | rfl | (simp; done) | (simp [*]; done)), H', ⟨by have := HJ1.out; first | omega | exact Nat.le_refl _⟩, by repeat (first | exact Zw.refl _ | apply Zw.step)⟩
         ·rw [if_neg c36] at H
          have c36b0 : (a0 == 45) = false := beq_eq_false_iff_ne.mpr c36
          have c36b1 : (a0 != 45) = true := bne_iff_ne.mpr c36
          by_cases c37 : a0 = 53
          ·rw [if_pos c37] at H
           have c37b0 : (a0 == 53) = true := beq_iff_eq.mpr c37
           have c37b1 : (a0 != 53) = false := bne_eq_false_iff_eq.mpr c37
           clear c37
           have H' := Za.mk H
           clear H
           go_wp2
           go_meet
           case rel => exact ⟨_, ((a0 == 53)), (by first | rfl | (simp; done) | (simp [*]; done)), H', ⟨by have := HJ1.out; first | omega | exact Nat.le_refl _⟩, by repeat (first | exact Zw.refl _ | apply Zw.step)⟩
          ·rw [if_neg c37] at H
           have c37b0 : (a0 == 53) = false := beq_eq_false_iff_ne.mpr c37
           have c37b1 : (a0 != 53) = true := bne_iff_ne.mpr c37
           by_cases c38 : a0 = 61
           ·rw [if_pos c38] at H
            have c38b0 : (a0 == 61) = true := beq_iff_eq.mpr c38
            have c38b1 : (a0 != 61) = false := bne_eq_false_iff_eq.mpr c38
            clear c38
            have H' := Za.mk H
            clear H
            go_wp2
            go_meet
            case rel => exact ⟨_, ((a0 == 61)), (by first | rfl | (simp; done) | (simp [*]; done)), H', ⟨by have := HJ1.out; first | omega | exact Nat.le_refl _⟩, by repeat (first | exact Zw.refl _ | apply Zw.step)⟩
           ·rw [if_neg c38] at H
            have c38b0 : (a0 == 61) = false := beq_eq_false_iff_ne.mpr c38
            have c38b1 : (a0 != 61) = true := bne_iff_ne.mpr c38
            by_cases c39 : a0 = 69
            ·rw [if_pos c39] at H
             have c39b0 : (a0 == 69) = true := beq_iff_eq.mpr c39
             have c39b1 : (a0 != 69) = false := bne_eq_false_iff_eq.mpr c39
             clear c39
             have H' := Za.mk H
             clear H
             go_wp2
             go_meet
             case rel => exact ⟨_, ((a0 == 69)), (by first | rfl | (simp; done) | (simp [*]; done)), H', ⟨by have := HJ1.out; first | omega | exact Nat.le_refl _⟩, by repeat (first | exact Zw.refl _ | apply Zw.step)⟩
            ·rw [if_neg c39] at H
             have c39b0 : (a0 == 69) = false := beq_eq_false_iff_ne.mpr c39
             have c39b1 : (a0 != 69) = true := bne_iff_ne.mpr c39
             have H' := Za.mk H
             clear H
             go_wp2
             go_meet
             case rel => exact ⟨_, ((a0 == 77)), (by first | rfl | (simp; done) | (simp [*]; done)), H', ⟨by have := HJ1.out; first | omega | exact Nat.le_refl _⟩, by repeat (first | exact Zw.refl _ | apply Zw.step)⟩
     case rest =>
      clear HC32
      try clear c1
      try clear c2
      try clear p2
      try clear c3
      try clear c3b0
      try clear c3b1
      try clear c4
      try clear c4b0
      try clear c4b1
      try clear c5
      try clear c5b0
      try clear c5b1
      try clear c6
      try clear c6b0
      try clear c6b1
      try clear c7
      try clear c7b0
      try clear c7b1
      try clear c8
      try clear c8b0
      try clear c8b1
      try clear c9
      try clear c9b0
      try clear c9b1
      try clear c10
      try clear c10b0
      try clear c10b1
      try clear c11
      try clear c11b0
      try clear c11b1
      try clear c12
      try clear c12b0
      try clear c12b1
      try clear c13
      try clear c13b0
      try clear c13b1
      try clear c14
      try clear c14b0
      try clear c14b1
      try clear c15
      try clear c15b0
      try clear c15b1
      try clear c16
      try clear c16b0
      try clear c16b1
      try clear c17
      try clear c17b0
      try clear c17b1
      try clear c18
      try clear c18b0
      try clear c18b1
      try clear c19
      try clear c19b0
      try clear c19b1
      try clear c20
      try clear c20b0
      try clear c20b1
      try clear c21
      try clear c21b0
      try clear c21b1
      try clear c22
      try clear c22b0
      try clear c22b1
      try clear c23
      try clear c23b0
      try clear c23b1
      try clear c24
      try clear c24b0
      try clear c24b1
      try clear c25
      try clear c25b0
      try clear c25b1
      try clear c26
      try clear c26b0
      try clear c26b1
      try clear c27
      try clear c27b0
      try clear c27b1
      try clear c28
      try clear c28b0
      try clear c28b1
      try clear c29
      try clear c29b0
      try clear c29b1
      try clear c30
      try clear c31
      try clear c31b0
      try clear c31b1
      try clear c33
      try clear c33b0
      try clear c33b1
      try clear c34
      try clear c34b0
      try clear c34b1
      try clear c35
      try clear c35b0
      try clear c35b1
      try clear c36
      try clear c36b0
      try clear c36b1
      try clear c37
      try clear c37b0
      try clear c37b1
      try clear c38
      try clear c38b0
      try clear c38b1
      try clear c39
      try clear c39b0
      try clear c39b1
      try clear p2
      obtain ⟨kq, x35_31, rfl, HA, HJ31, ⟨mc31, rfl⟩⟩ := hcut
      cases kq with
      | zero => exact absurd HA.out (by simp [Zat.j1])
      | succ kj31 =>
       have H := HA.out
       clear HA
       simp only [Zat.j1] at H
       by_cases c40 : x35_31 = true
       ·subst c40
        have H1 : (some 2) = some r := by rw [if_pos rfl] at H; exact H
        clear H
        have H := H1
        clear H1
        obtain rfl := Option.some.inj H
        go_wp2
        go_ret
        exact ⟨by first | rfl | (simp; done) | (simp [*]; done), by repeat (first | exact Zw.refl _ | apply Zw.step)⟩
       ·replace c40 := Bool.eq_false_iff.mpr c40
        subst c40
        have H1 : (if a0 = 6 then (some 4) else (if a0 = 22 then (some 4) else (some 0))) = some r := by rw [if_neg (show ¬ (false = true) by decide)] at H; exact H
        clear H
        have H := H1
        clear H1
        by_cases c41 : a0 = 6
        ·rw [if_pos c41] at H
         have c41b0 : (a0 == 6) = true := beq_iff_eq.mpr c41
         have c41b1 : (a0 != 6) = false := bne_eq_false_iff_eq.mpr c41
         clear c41
         obtain rfl := Option.some.inj H
         go_wp2
         go_ret
         exact ⟨by first | rfl | (simp; done) | (simp [*]; done), by repeat (first | exact Zw.refl _ | apply Zw.step)⟩
        ·rw [if_neg c41] at H
         have c41b0 : (a0 == 6) = false := beq_eq_false_iff_ne.mpr c41
         have c41b1 : (a0 != 6) = true := bne_iff_ne.mpr c41
         by_cases c42 : a0 = 22
         ·rw [if_pos c42] at H
          have c42b0 : (a0 == 22) = true := beq_iff_eq.mpr c42
          have c42b1 : (a0 != 22) = false := bne_eq_false_iff_eq.mpr c42
          clear c42
          obtain rfl := Option.some.inj H
          go_wp2
          go_ret
          exact ⟨by first | rfl | (simp; done) | (simp [*]; done), by repeat (first | exact Zw.refl _ | apply Zw.step)⟩
         ·rw [if_neg c42] at H
          have c42b0 : (a0 == 22) = false := beq_eq_false_iff_ne.mpr c42
          have c42b1 : (a0 != 22) = true := bne_iff_ne.mpr c42
          obtain rfl := Option.some.inj H
          go_wp2
          go_ret
          exact ⟨by first | rfl | (simp; done) | (simp [*]; done), by repeat (first | exact Zw.refl _ | apply Zw.step)⟩

end Go.Proofs.Ytgodbniphkfgfaa.P
