import Derived.Test.YtgmbahldjiiajaaGFnExactCompile4
import Derived.Test.YtgmbahldjiiajaaGFnExactCompile14
namespace Go.Proofs.Ytgmbahldjiiajaa.P
open Go.RowKit Go.Proofs.YtgmbahldjiiajaaW.PrintWords Go.Proofs.YtgmbahldjiiajaaW.PrintLast Go.Proofs.YtgmbahldjiiajaaW.PrintMore
attribute [local go_sem] max2_int min2_int max_two min_two max_three min_three max_four min_four
set_option linter.unusedVariables false
set_option linter.unusedSimpArgs false

def Zca.l0 : Nat → Int → List Int → Int → Int → Option (Int)
 | 0, _, _, _, _ => none
 | k + 1, x3, x6, x7, x8 => if x8 < x7 then (if 0 ≤ x8 then (if x8 < (x6.length : Int) then (if (rd x6 x8) = x3 then (Zca.l0 k x3 x6 x7 (wrap64 (x8 + 1))) else (some (rd x6 x8))) else (none)) else (none)) else (some x3)
def Zca.f (k : Nat) (l0 : List Int) : Option (Int) := Zca.l0 k 0 l0 (l0.length : Int) 0
set_option maxHeartbeats 8000000 in
set_option maxRecDepth 100000 in
theorem Zca.calls (k : Nat) (A0 : Option Addr) (c0 : Nat) (l0 : List Int) (r : Int) (w : World) (hr0 : Kd.C (Kd.int .i64) w A0 l0.length l0) (hc0 : l0.length ≤ c0) (h : Zca.f k l0 = some r) :
  Calls Try.prog 35 #[.slice A0 l0.length c0] w fun e w' => e = .returned (.int .i64 r) ∧ Zr w w' := by
 have HR0 := Za.mk hr0
 have HC0 := Za.mk hc0
 clear hr0 hc0
 have H : (Zca.l0 k 0 l0 (l0.length : Int) 0) = some r := h
 clear h
 have H' := Za.mk H
 clear H
 go_enter Try.func35, Try.ntmps35
 go_wp2
 go_loopg [8] k (fun kq v8 w' => ∃ (x8_1 : Int), v8 = .int .i64 x8_1 ∧ Za (Zca.l0 kq 0 l0 (l0.length : Int) x8_1 = some r) ∧ Za (kq ≤ k) ∧ Zr w w')
 case atStart => exact ⟨(0), (by first | rfl | (simp; done) | (simp [*]; done)), H', ⟨Nat.le_refl _⟩, by repeat (first | exact Zr.refl _ | apply Zr.step)⟩
 case round =>
  clear H'
  obtain ⟨x8_1, rfl, HA, HK1, ⟨m1, rfl⟩⟩ := hrel
  cases gk with
  | zero => exact absurd HA.out (by simp [Zca.l0])
  | succ k1 =>
   have H := HA.out
   clear HA
   simp only [Zca.l0] at H
   by_cases c2 : x8_1 < (l0.length : Int)
   ·rw [if_pos c2] at H
    have c2b0 : decide (x8_1 < (l0.length : Int)) = true := decide_eq_true c2
    clear c2
    by_cases c3 : 0 ≤ x8_1
    ·rw [if_pos c3] at H
     have c3b0 : decide (0 ≤ x8_1) = true := decide_eq_true c3
     clear c3
     by_cases c4 : x8_1 < (l0.length : Int)
     ·rw [if_pos c4] at H
      have c4b0 : decide (x8_1 < (l0.length : Int)) = true := decide_eq_true c4
      clear c4
      by_cases c5 : (rd l0 x8_1) = 0
      ·rw [if_pos c5] at H
       have c5b0 : ((rd l0 x8_1) == 0) = true := beq_iff_eq.mpr c5
       have c5b1 : ((rd l0 x8_1) != 0) = false := bne_eq_false_iff_eq.mpr c5
       clear c5
       have H' := Za.mk H
       clear H
       have p442 : 0 ≤ (x8_1 : Int) := of_decide_eq_true (by assumption)
       have q442 : x8_1 < (l0.length : Int) := of_decide_eq_true (by assumption)
       obtain ⟨ad442, e442, hx442_0⟩ := Kd.at_int HR0.out x8_1 p442 q442
       cases e442
       replace p442 := eq_true p442
       replace q442 := eq_true q442
       go_wp2
       go_roundg k1
       case measure => have := HK1.out; omega
       case rel => exact ⟨(wrap64 (x8_1 + 1)), (by first | rfl | (simp; done) | (simp [*]; done)), H', ⟨by have := HK1.out; omega⟩, by repeat (first | exact Zr.refl _ | apply Zr.step)⟩
      rw [if_neg c5] at H
      have c5b0 : ((rd l0 x8_1) == 0) = false := beq_eq_false_iff_ne.mpr c5
      have c5b1 : ((rd l0 x8_1) != 0) = true := bne_iff_ne.mpr c5
      obtain rfl := Option.some.inj H
      have p442 : 0 ≤ (x8_1 : Int) := of_decide_eq_true (by assumption)
      have q442 : x8_1 < (l0.length : Int) := of_decide_eq_true (by assumption)
      obtain ⟨ad442, e442, hx442_0⟩ := Kd.at_int HR0.out x8_1 p442 q442
      cases e442
      replace p442 := eq_true p442
      replace q442 := eq_true q442
      go_wp2
      go_ret
      exact ⟨by first | rfl | (simp; done) | (simp [*]; done), by repeat (first | exact Zr.refl _ | apply Zr.step)⟩
     rw [if_neg c4] at H
     exact absurd H (by simp)
    rw [if_neg c3] at H
    exact absurd H (by simp)
   rw [if_neg c2] at H
   have c2b0 : decide (x8_1 < (l0.length : Int)) = false := decide_eq_false c2
   clear c2
   obtain rfl := Option.some.inj H
   go_wp2
   go_ret
   exact ⟨by first | rfl | (simp; done) | (simp [*]; done), by repeat (first | exact Zr.refl _ | apply Zr.step)⟩
def Zce.f (a0 : Int) : Option (Bool) := some (a0 != a0)
set_option maxHeartbeats 8000000 in
set_option maxRecDepth 100000 in
theorem Zce.calls (a0 : Int) (r : Bool) (w : World) (h : Zce.f a0 = some r) :
  Calls Try.prog 55 #[.int .u32 a0] w fun e w' => e = .returned (.bool r) ∧ Zr w w' := by
 have H : (some (a0 != a0)) = some r := h
 clear h
 obtain rfl := Option.some.inj H
 go_enter Try.func55, Try.ntmps55
 go_wp2
 go_ret
 exact ⟨by first | rfl | (simp; done) | (simp [*]; done), by repeat (first | exact Zr.refl _ | apply Zr.step)⟩
def Zck.f (a0 : Int) (a1 : Int) : Option (Int) := (Zce.f a0).bind fun t443 => ((Zce.f a1).bind fun t444 => (if t443 = true then (if t444 = true then (some 0) else (some (-1))) else (if t444 = true then (some 1) else (if a0 < a1 then (some (-1)) else (if a0 > a1 then (some 1) else (some 0))))))
set_option maxHeartbeats 8000000 in
set_option maxRecDepth 100000 in
theorem Zck.calls (a0 : Int) (a1 : Int) (r : Int) (w : World) (h : Zck.f a0 a1 = some r) :
  Calls Try.prog 36 #[.int .u32 a0, .int .u32 a1] w fun e w' => e = .returned (.int .i64 r) ∧ Zr w w' := by
 have H := h
 unfold Zck.f at H
 clear h
 replace H := Option.bind_eq_some_iff.mp H
 obtain ⟨t443, A30, H⟩ := H
 replace H : ((Zce.f a1).bind fun t444 => (if t443 = true then (if t444 = true then (some 0) else (some (-1))) else (if t444 = true then (some 1) else (if a0 < a1 then (some (-1)) else (if a0 > a1 then (some 1) else (some 0)))))) = some r := H
 have A3 := Za.mk A30
 clear A30
 replace H := Option.bind_eq_some_iff.mp H
 obtain ⟨t444, A40, H⟩ := H
 replace H : (if t443 = true then (if t444 = true then (some 0) else (some (-1))) else (if t444 = true then (some 1) else (if a0 < a1 then (some (-1)) else (if a0 > a1 then (some 1) else (some 0))))) = some r := H
 have A4 := Za.mk A40
 clear A40
 by_cases c5 : t443 = true
 ·subst c5
  have H1 : (if t444 = true then (some 0) else (some (-1))) = some r := by rw [if_pos rfl] at H; exact H
  clear H
  have H := H1
  clear H1
  by_cases c6 : t444 = true
  ·subst c6
   have H1 : (some 0) = some r := by rw [if_pos rfl] at H; exact H
   clear H
   have H := H1
   clear H1
   obtain rfl := Option.some.inj H
   go_enter Try.func36, Try.ntmps36
   go_wp2_with (first | ((with_reducible refine Zaj (f := 55) rfl ?_); refine Zai (some 8) rfl rfl Try.func55 (by kernel_rfl) rfl #[.int .u32 a0] rfl (by (try simp only [ZA, ZB, ZC]); first | done | rfl) ?_; (with_reducible refine (Zce.calls a0 true _ A3.out).mono ?_); rintro e w' ⟨rfl, ⟨nd, rfl⟩⟩; refine ⟨_, rfl, ?_⟩) | ((with_reducible refine Zaj (f := 55) rfl ?_); refine Zai (some 10) rfl rfl Try.func55 (by kernel_rfl) rfl #[.int .u32 a1] rfl (by (try simp only [ZA, ZB, ZC]); first | done | rfl) ?_; (with_reducible refine (Zce.calls a1 true _ A4.out).mono ?_); rintro e w' ⟨rfl, ⟨nd, rfl⟩⟩; refine ⟨_, rfl, ?_⟩))
   go_ret
   exact ⟨by first | rfl | (simp; done) | (simp [*]; done), by repeat (first | exact Zr.refl _ | apply Zr.step)⟩
  replace c6 := Bool.eq_false_iff.mpr c6
  subst c6
  have H1 : (some (-1)) = some r := by rw [if_neg (show ¬ (false = true) by decide)] at H; exact H
  clear H
  have H := H1
  clear H1
  obtain rfl := Option.some.inj H
  go_enter Try.func36, Try.ntmps36
  go_wp2_with (first | ((with_reducible refine Zaj (f := 55) rfl ?_); refine Zai (some 8) rfl rfl Try.func55 (by kernel_rfl) rfl #[.int .u32 a0] rfl (by (try simp only [ZA, ZB, ZC]); first | done | rfl) ?_; (with_reducible refine (Zce.calls a0 true _ A3.out).mono ?_); rintro e w' ⟨rfl, ⟨nd, rfl⟩⟩; refine ⟨_, rfl, ?_⟩) | ((with_reducible refine Zaj (f := 55) rfl ?_); refine Zai (some 10) rfl rfl Try.func55 (by kernel_rfl) rfl #[.int .u32 a1] rfl (by (try simp only [ZA, ZB, ZC]); first | done | rfl) ?_; (with_reducible refine (Zce.calls a1 false _ A4.out).mono ?_); rintro e w' ⟨rfl, ⟨nd, rfl⟩⟩; refine ⟨_, rfl, ?_⟩))
  go_ret
  exact ⟨by first | rfl | (simp; done) | (simp [*]; done), by repeat (first | exact Zr.refl _ | apply Zr.step)⟩
 replace c5 := Bool.eq_false_iff.mpr c5
 subst c5
 have H1 : (if t444 = true then (some 1) else (if a0 < a1 then (some (-1)) else (if a0 > a1 then (some 1) else (some 0)))) = some r := by rw [if_neg (show ¬ (false = true) by decide)] at H; exact H
 clear H
 have H := H1
 clear H1
 by_cases c7 : t444 = true
 ·subst c7
  have H1 : (some 1) = some r := by rw [if_pos rfl] at H; exact H
  clear H
  have H := H1
  clear H1
  obtain rfl := Option.some.inj H
  go_enter Try.func36, Try.ntmps36
  go_wp2_with (first | ((with_reducible refine Zaj (f := 55) rfl ?_); refine Zai (some 8) rfl rfl Try.func55 (by kernel_rfl) rfl #[.int .u32 a0] rfl (by (try simp only [ZA, ZB, ZC]); first | done | rfl) ?_; (with_reducible refine (Zce.calls a0 false _ A3.out).mono ?_); rintro e w' ⟨rfl, ⟨nd, rfl⟩⟩; refine ⟨_, rfl, ?_⟩) | ((with_reducible refine Zaj (f := 55) rfl ?_); refine Zai (some 10) rfl rfl Try.func55 (by kernel_rfl) rfl #[.int .u32 a1] rfl (by (try simp only [ZA, ZB, ZC]); first | done | rfl) ?_; (with_reducible refine (Zce.calls a1 true _ A4.out).mono ?_); rintro e w' ⟨rfl, ⟨nd, rfl⟩⟩; refine ⟨_, rfl, ?_⟩))
  go_ret
  exact ⟨by first | rfl | (simp; done) | (simp [*]; done), by repeat (first | exact Zr.refl _ | apply Zr.step)⟩
 replace c7 := Bool.eq_false_iff.mpr c7
 subst c7
 have H1 : (if a0 < a1 then (some (-1)) else (if a0 > a1 then (some 1) else (some 0))) = some r := by rw [if_neg (show ¬ (false = true) by decide)] at H; exact H
 clear H
 have H := H1
 clear H1
 by_cases c8 : a0 < a1
 ·rw [if_pos c8] at H
  have c8b0 : decide (a0 < a1) = true := decide_eq_true c8
  clear c8
  obtain rfl := Option.some.inj H
  go_enter Try.func36, Try.ntmps36
  go_wp2_with (first | ((with_reducible refine Zaj (f := 55) rfl ?_); refine Zai (some 8) rfl rfl Try.func55 (by kernel_rfl) rfl #[.int .u32 a0] rfl (by (try simp only [ZA, ZB, ZC]); first | done | rfl) ?_; (with_reducible refine (Zce.calls a0 false _ A3.out).mono ?_); rintro e w' ⟨rfl, ⟨nd, rfl⟩⟩; refine ⟨_, rfl, ?_⟩) | ((with_reducible refine Zaj (f := 55) rfl ?_); refine Zai (some 10) rfl rfl Try.func55 (by kernel_rfl) rfl #[.int .u32 a1] rfl (by (try simp only [ZA, ZB, ZC]); first | done | rfl) ?_; (with_reducible refine (Zce.calls a1 false _ A4.out).mono ?_); rintro e w' ⟨rfl, ⟨nd, rfl⟩⟩; refine ⟨_, rfl, ?_⟩))
  go_ret
  exact ⟨by first | rfl | (simp; done) | (simp [*]; done), by repeat (first | exact Zr.refl _ | apply Zr.step)⟩
 rw [if_neg c8] at H
 have c8b0 : decide (a0 < a1) = false := decide_eq_false c8
 clear c8
 by_cases c9 : a0 > a1
 ·rw [if_pos c9] at H
  have c9b0 : decide (a1 < a0) = true := decide_eq_true c9
  clear c9
  obtain rfl := Option.some.inj H
  go_enter Try.func36, Try.ntmps36
  go_wp2_with (first | ((with_reducible refine Zaj (f := 55) rfl ?_); refine Zai (some 8) rfl rfl Try.func55 (by kernel_rfl) rfl #[.int .u32 a0] rfl (by (try simp only [ZA, ZB, ZC]); first | done | rfl) ?_; (with_reducible refine (Zce.calls a0 false _ A3.out).mono ?_); rintro e w' ⟨rfl, ⟨nd, rfl⟩⟩; refine ⟨_, rfl, ?_⟩) | ((with_reducible refine Zaj (f := 55) rfl ?_); refine Zai (some 10) rfl rfl Try.func55 (by kernel_rfl) rfl #[.int .u32 a1] rfl (by (try simp only [ZA, ZB, ZC]); first | done | rfl) ?_; (with_reducible refine (Zce.calls a1 false _ A4.out).mono ?_); rintro e w' ⟨rfl, ⟨nd, rfl⟩⟩; refine ⟨_, rfl, ?_⟩))
  go_ret
  exact ⟨by first | rfl | (simp; done) | (simp [*]; done), by repeat (first | exact Zr.refl _ | apply Zr.step)⟩
 rw [if_neg c9] at H
 have c9b0 : decide (a1 < a0) = false := decide_eq_false c9
 clear c9
 obtain rfl := Option.some.inj H
 go_enter Try.func36, Try.ntmps36
 go_wp2_with (first | ((with_reducible refine Zaj (f := 55) rfl ?_); refine Zai (some 8) rfl rfl Try.func55 (by kernel_rfl) rfl #[.int .u32 a0] rfl (by (try simp only [ZA, ZB, ZC]); first | done | rfl) ?_; (with_reducible refine (Zce.calls a0 false _ A3.out).mono ?_); rintro e w' ⟨rfl, ⟨nd, rfl⟩⟩; refine ⟨_, rfl, ?_⟩) | ((with_reducible refine Zaj (f := 55) rfl ?_); refine Zai (some 10) rfl rfl Try.func55 (by kernel_rfl) rfl #[.int .u32 a1] rfl (by (try simp only [ZA, ZB, ZC]); first | done | rfl) ?_; (with_reducible refine (Zce.calls a1 false _ A4.out).mono ?_); rintro e w' ⟨rfl, ⟨nd, rfl⟩⟩; refine ⟨_, rfl, ?_⟩))
 go_ret
 exact ⟨by first | rfl | (simp; done) | (simp [*]; done), by repeat (first | exact Zr.refl _ | apply Zr.step)⟩
def Zcn.f (l0 : List (S65)) : Option Bool := if l0.length ≤ 140737488355328 ∧ ∀ x ∈ l0, x.f0.length ≤ 140737488355328 then some (l0.any fun c => !ruleOKr c) else none
theorem Zcn.calls (A0 : Option Addr) (c0 : Nat) (l0 : List (S65)) (r : Bool) (w : World) (hr0 : Kd.C k65 w A0 l0.length l0) (hc0 : l0.length ≤ c0) (h : Zcn.f l0 = some r) :
  Calls Try.prog 37 #[.slice A0 l0.length c0, .func (.func 38) #[] #[]] w fun e w' => e = .returned (.bool r) ∧ Below w.heap.size w w' := by
 unfold Zcn.f at h
 split at h
 ·rename_i hh
  obtain rfl := Option.some.inj h
  exact containsRule_does A0 c0 l0 w hr0 hh.1 hh.2
 exact absurd h (by simp)
mutual
def Zaq.l0 : Nat → Int → List (S61) → Int → Int → List (S61) → Option (Bool)
 | 0, _, _, _, _, _ => none
 | k + 1, x3, x8, x9, x10, x446000 => if x10 < x9 then (if 0 ≤ x10 then (if x10 < (x8.length : Int) then (if x10 > 0 then (if 0 ≤ (wrap64 (x10 - 1)) then (if (wrap64 (x10 - 1)) < (x446000.length : Int) then ((Zck.f ((Zi x446000 (wrap64 (x10 - 1))).f0) ((Zi x8 x10).f0)).bind fun t450 => ((Zck.f ((Zi x446000 (wrap64 (x10 - 1))).f1) ((Zi x8 x10).f1)).bind fun t451 => ((Zca.f k (([t450, t451] : List Int))).bind fun t455 => (if t455 ≥ 0 then (some false) else (Zaq.j1 k x3 x8 x9 x10 x446000 ((Zi x8 x10).f0) ((Zi x8 x10).f1) ((Zi x8 x10).f2)))))) else (none)) else (none)) else (Zaq.j1 k x3 x8 x9 x10 x446000 ((Zi x8 x10).f0) ((Zi x8 x10).f1) ((Zi x8 x10).f2))) else (none)) else (none)) else (some true)
def Zaq.j1 : Nat → Int → List (S61) → Int → Int → List (S61) → Int → Int → List (S65) → Option (Bool)
 | 0, _, _, _, _, _, _, _, _ => none
 | k + 1, x3, x8, x9, x10, x446000, x448000, x448001, x448002 => if (x448002.length : Int) < 1 then (Zaq.j2 k (wrap64 (x3 + (x448002.length : Int))) x8 x9 x10 true x446000 x448000 x448001 x448002) else (if (x448002.length : Int) > 200 then (Zaq.j2 k (wrap64 (x3 + (x448002.length : Int))) x8 x9 x10 true x446000 x448000 x448001 x448002) else (Zaq.j2 k (wrap64 (x3 + (x448002.length : Int))) x8 x9 x10 (decide ((wrap64 (x3 + (x448002.length : Int))) > 1000)) x446000 x448000 x448001 x448002))
def Zaq.j2 : Nat → Int → List (S61) → Int → Int → Bool → List (S61) → Int → Int → List (S65) → Option (Bool)
 | 0, _, _, _, _, _, _, _, _, _ => none
 | k + 1, x3, x8, x9, x10, x54, x446000, x448000, x448001, x448002 => if x54 = true then (some false) else ((Zcn.f x448002).bind fun t456 => (if t456 = true then (some false) else (Zaq.l0 k x3 x8 x9 (wrap64 (x10 + 1)) x446000)))
end
def Zaq.f (k : Nat) (l0_0 : List (S61)) : Option (Bool) := Zaq.l0 k 0 l0_0 (l0_0.length : Int) 0 l0_0
def Zaq.T7 : Bool × List (List Nat × List Nat) := (true, [([], []), ([0], [0]), ([], []), ([2], [2]), ([1, 3], [1, 3]), ([], []), ([5], [5]), ([], []), ([7], [7]), ([6, 8, 4], [6, 8]), ([4, 9], [4, 9]), ([10, 9], [10]), ([11], [11])])
def Zaq.B7 : List Nat := [0, 1, 0, 4, 15, 0, 32, 0, 128, 511, 1023, 2047, 4095]
theorem Zaq.tab7 : rtab .any (opsOf Try.f18 7) = Zaq.T7 := by kernel_rfl
theorem Zaq.bits7 : waitsOk Zaq.T7.2 Zaq.B7 = true := by kernel_rfl
set_option maxHeartbeats 8000000 in
set_option maxRecDepth 100000 in
theorem Zaq.calls (k : Nat) (A0_0 : Option Addr) (c0_0 : Nat) (l0_0 : List (S61)) (r : Bool) (w : World) (hr0_0 : Kd.C k61 w A0_0 l0_0.length l0_0) (hc0_0 : l0_0.length ≤ c0_0) (h : Zaq.f k l0_0 = some r) :
  Calls Try.prog 18 #[.agg #[.slice A0_0 l0_0.length c0_0]] w fun e w' => e = .returned (.bool r) ∧ Below w.heap.size w w' := by
 have hu31 := Try.underlying31
 have hu61 := Try.underlying61
 have HR0_0 := Za.mk hr0_0
 have HC0_0 := Za.mk hc0_0
 clear hr0_0 hc0_0
 have HB := Za.mk (Below.refl w.heap.size w)
 have H : (Zaq.l0 k 0 l0_0 (l0_0.length : Int) 0 l0_0) = some r := h
 clear h
 have H' := Za.mk H
 clear H
 go_enter Try.func18, Try.ntmps18
 go_wp2_with (first | ((with_reducible refine Zab (N := 1) rfl ?_); (try (refine gate_guard (by rfl) ?_; dsimp only)); refine Zac ?hg (N := 1) ?hd (cs := #[.slice A0_0 l0_0.length c0_0]) (t := 31) ?hr ?_; (case hd => rfl); (case hg => rfl); (case hr => go_simp <;> rfl); intro gb445 hg w2 hbox hb; have BK445 := Za.mk (hbox); have GW445 := Za.mk ((by rw [hg]; exact (Zl (by with_reducible repeat first | exact HB.out | apply Zc | apply Ze | apply Zd)) : w.heap.size ≤ gb445)); have GE445 := Za.mk ((by rw [hg]; exact (Zl (by with_reducible repeat first | exact HB.out | apply Zc | apply Ze | apply Zd)) : w.heap.size ≤ gb445)); replace HB := Za.mk (Zo (by with_reducible repeat first | exact HB.out | apply Zc | apply Ze | apply Zd) hb); clear hb hbox hg; have hcz3_0 : w2.cell? ⟨gb445, 0, none⟩ = some (.slice A0_0 l0_0.length c0_0) := (Zb BK445.out 0).trans rfl; have hfz3_0 := Zj BK445.out 0))
 go_loopg [3, 10] k (fun kq v3 v10 w' => ∃ (x3_1 : Int) (x10_1 : Int), v3 = .int .i64 x3_1 ∧ v10 = .int .i64 x10_1 ∧ Za (Zaq.l0 kq x3_1 l0_0 (l0_0.length : Int) x10_1 l0_0 = some r) ∧ Za (kq ≤ k) ∧ Za (w'.heap[gb445]? = some (.cells #[(.slice A0_0 l0_0.length c0_0)] 31 (0, 0))) ∧ Za (Below w.heap.size w w'))
 case atStart => exact ⟨(0), (0), (by first | rfl | (simp; done) | (simp [*]; done)), (by first | rfl | (simp; done) | (simp [*]; done)), H', ⟨Nat.le_refl _⟩, ⟨by (with_reducible repeat first | apply Zg | apply Zf | apply Zh); exact BK445.out⟩, ⟨by with_reducible repeat first | exact HB.out | apply Zc | apply Ze | apply Zd | refine Zk ?_ GE445.out⟩⟩
 case round =>
  clear H'
  try clear c1
  try clear p2
  try clear hcz3_0
  try clear hfz3_0
  obtain ⟨x3_1, x10_1, rfl, rfl, HA, HK1, BK445, HB⟩ := hrel
  cases gk with
  | zero => exact absurd HA.out (by simp [Zaq.l0])
  | succ k1 =>
   have H := HA.out
   clear HA
   simp only [Zaq.l0] at H
   by_cases c4 : x10_1 < (l0_0.length : Int)
   ·rw [if_pos c4] at H
    have c4b0 : decide (x10_1 < (l0_0.length : Int)) = true := decide_eq_true c4
    clear c4
    by_cases c5 : 0 ≤ x10_1
    ·rw [if_pos c5] at H
     have c5b0 : decide (0 ≤ x10_1) = true := decide_eq_true c5
     clear c5
     by_cases c6 : x10_1 < (l0_0.length : Int)
     ·rw [if_pos c6] at H
      have c6b0 : decide (x10_1 < (l0_0.length : Int)) = true := decide_eq_true c6
      clear c6
      have HC7 := Za.mk H
      clear H
      have p446 : 0 ≤ (x10_1 : Int) := of_decide_eq_true (by assumption)
      have q446 : x10_1 < (l0_0.length : Int) := of_decide_eq_true (by assumption)
      obtain ⟨ad446, A446_2, c446_2, e446, hx446_0, hx446_1, hx446_2, hl446_2, hi446_2⟩ := at_T61 HR0_0.out x10_1 p446 q446
      cases e446
      replace hx446_0 := (HB.out.cell (World.block_lt_of_cell? w _ hx446_0)).trans hx446_0
      replace hx446_1 := (HB.out.cell (World.block_lt_of_cell? w _ hx446_1)).trans hx446_1
      replace hx446_2 := (HB.out.cell (World.block_lt_of_cell? w _ hx446_2)).trans hx446_2
      have HR446_2 := Za.mk hi446_2
      have HC446_2 := Za.mk hl446_2
      clear hi446_2 hl446_2
      replace p446 := eq_true p446
      replace q446 := eq_true q446
      go_upto_if 16 with (first | ((with_reducible refine Zab (N := 5) rfl ?_); (try (refine gate_guard (by rfl) ?_; dsimp only)); refine Zac ?hg (N := 5) ?hd (cs := #[.int .u32 0, .int .u32 0, .slice none 0 0]) (t := 61) ?hr ?_; (case hd => rfl); (case hg => rfl); (case hr => go_simp <;> rfl); intro gb447 hg w8 hbox hb; have BK447 := Za.mk (hbox); have GW447 := Za.mk ((by rw [hg]; exact (Zl (by with_reducible repeat first | exact HB.out | apply Zc | apply Ze | apply Zd | refine Zk ?_ GE445.out)) : w.heap.size ≤ gb447)); have GE447 := Za.mk ((by rw [hg]; exact (Zl (by with_reducible repeat first | exact HB.out | apply Zc | apply Ze | apply Zd | refine Zk ?_ GE445.out)) : w.heap.size ≤ gb447)); replace HB := Za.mk (Zo (by with_reducible repeat first | exact HB.out | apply Zc | apply Ze | apply Zd | refine Zk ?_ GE445.out) hb); have NB445_447 := Za.mk ((by rw [hg]; exact Nat.ne_of_lt (Zs (g := gb445) (o := .cells #[.slice (some ad446) l0_0.length c0_0] 31 (0, 0)) (by (with_reducible repeat first | apply Zg | apply Zf | apply Zh); exact BK445.out)) : gb445 ≠ gb447)); have NB447_445 := Za.mk ((by rw [hg]; exact Nat.ne_of_gt (Zs (g := gb445) (o := .cells #[.slice (some ad446) l0_0.length c0_0] 31 (0, 0)) (by (with_reducible repeat first | apply Zg | apply Zf | apply Zh); exact BK445.out)) : gb447 ≠ gb445)); replace BK445 := Za.mk (Zp (g := gb445) (o := .cells #[.slice (some ad446) l0_0.length c0_0] 31 (0, 0)) (by (with_reducible repeat first | apply Zg | apply Zf | apply Zh); exact BK445.out) hb); clear hb hbox hg; have hnb9 := NB447_445.out; have hnc9 := NB445_447.out; have hcz10_0 : w8.cell? ⟨gb447, 0, none⟩ = some (.int .u32 0) := (Zb BK447.out 0).trans rfl; have hcz10_1 : w8.cell? ⟨gb447, 1, none⟩ = some (.int .u32 0) := (Zb BK447.out 1).trans rfl; have hcz10_2 : w8.cell? ⟨gb447, 2, none⟩ = some (.slice none 0 0) := (Zb BK447.out 2).trans rfl; have hfz10_0 := Zj BK447.out 0; have hfz10_1 := Zj BK447.out 1; have hfz10_2 := Zj BK447.out 2))
      (try simp only [Act.put, ZD, ZE, ZF])
      go_cut [] (fun wc => ∃ (kq : Nat), Za (Zaq.j1 kq x3_1 l0_0 (l0_0.length : Int) x10_1 l0_0 ((Zi l0_0 x10_1).f0) ((Zi l0_0 x10_1).f1) ((Zi l0_0 x10_1).f2) = some r) ∧ Za (kq ≤ k1) ∧ Za (wc.heap[gb445]? = some (.cells #[(.slice (some ad446) l0_0.length c0_0)] 31 (0, 0))) ∧ Za (wc.heap[gb447]? = some (.cells #[.int .u32 ((Zi l0_0 x10_1).f0), .int .u32 ((Zi l0_0 x10_1).f1), (.slice A446_2 ((Zi l0_0 x10_1).f2).length c446_2)] 61 (0, 0))) ∧ Za (Below w.heap.size w wc))
      case first =>
       have H := HC7.out
       clear HC7
       by_cases c11 : x10_1 > 0
       ·rw [if_pos c11] at H
        have c11b0 : decide (0 < x10_1) = true := decide_eq_true c11
        clear c11
        (first | rw [c11b0] | (simp only [Zu, Zv]; rw [c11b0]) | skip)
        obtain ⟨ji12, hji12⟩ : ∃ j_ : Int, (wrap64 (x10_1 - 1)) = j_ := ⟨_, rfl⟩
        replace H : (if 0 ≤ (ji12) then (if (ji12) < (l0_0.length : Int) then ((Zck.f ((Zi l0_0 (ji12)).f0) ((Zi l0_0 x10_1).f0)).bind fun t450 => ((Zck.f ((Zi l0_0 (ji12)).f1) ((Zi l0_0 x10_1).f1)).bind fun t451 => ((Zca.f k1 (([t450, t451] : List Int))).bind fun t455 => (if t455 ≥ 0 then (some false) else (Zaq.j1 k1 x3_1 l0_0 (l0_0.length : Int) x10_1 l0_0 ((Zi l0_0 x10_1).f0) ((Zi l0_0 x10_1).f1) ((Zi l0_0 x10_1).f2)))))) else (none)) else (none)) = some r := by first | (rw [hji12] at H; exact H) | (simp only [hji12] at H ⊢; exact H)
        have hji12w : (IntKind.i64.wrap (x10_1 - 1)) = ji12 := (Zu _).trans hji12
        by_cases c13 : 0 ≤ (ji12)
        ·rw [if_pos c13] at H
         have c13b0 : decide (0 ≤ (ji12)) = true := decide_eq_true c13
         clear c13
         by_cases c14 : (ji12) < (l0_0.length : Int)
         ·rw [if_pos c14] at H
          have c14b0 : decide ((ji12) < (l0_0.length : Int)) = true := decide_eq_true c14
          clear c14
          replace H := Option.bind_eq_some_iff.mp H
          obtain ⟨t450, A150, H⟩ := H
          replace H : ((Zck.f ((Zi l0_0 (ji12)).f1) ((Zi l0_0 x10_1).f1)).bind fun t451 => ((Zca.f k1 (([t450, t451] : List Int))).bind fun t455 => (if t455 ≥ 0 then (some false) else (Zaq.j1 k1 x3_1 l0_0 (l0_0.length : Int) x10_1 l0_0 ((Zi l0_0 x10_1).f0) ((Zi l0_0 x10_1).f1) ((Zi l0_0 x10_1).f2))))) = some r := H
          have A15 := Za.mk A150
          clear A150
          replace H := Option.bind_eq_some_iff.mp H
          obtain ⟨t451, A160, H⟩ := H
          replace H : ((Zca.f k1 (([t450, t451] : List Int))).bind fun t455 => (if t455 ≥ 0 then (some false) else (Zaq.j1 k1 x3_1 l0_0 (l0_0.length : Int) x10_1 l0_0 ((Zi l0_0 x10_1).f0) ((Zi l0_0 x10_1).f1) ((Zi l0_0 x10_1).f2)))) = some r := H
          have A16 := Za.mk A160
          clear A160
          obtain ⟨y452, hy452⟩ : ∃ y_ : List Int, y_ = (([t450, t451] : List Int)) := ⟨_, rfl⟩
          replace H : ((Zca.f k1 y452).bind fun t455 => (if t455 ≥ 0 then (some false) else (Zaq.j1 k1 x3_1 l0_0 (l0_0.length : Int) x10_1 l0_0 ((Zi l0_0 x10_1).f0) ((Zi l0_0 x10_1).f1) ((Zi l0_0 x10_1).f2)))) = some r := by first | (rw [hy452]; with_reducible exact H) | (have H2_ := (Option.bind_some _ _).symm.trans H; rw [hy452]; with_reducible exact H2_) | (have H2_ := (Option.bind_some _ _).symm.trans H; with_reducible exact H2_) | with_reducible exact H | (rw [hy452]; exact H) | exact H
          have Ny452 := Za.mk hy452
          clear hy452
          replace H := Option.bind_eq_some_iff.mp H
          obtain ⟨t455, A170, H⟩ := H
          replace H : (if t455 ≥ 0 then (some false) else (Zaq.j1 k1 x3_1 l0_0 (l0_0.length : Int) x10_1 l0_0 ((Zi l0_0 x10_1).f0) ((Zi l0_0 x10_1).f1) ((Zi l0_0 x10_1).f2))) = some r := H
          have A17 := Za.mk A170
          clear A170
          by_cases c18 : t455 ≥ 0
          ·rw [if_pos c18] at H
           have c18b0 : decide (0 ≤ t455) = true := decide_eq_true c18
           clear c18
           obtain rfl := Option.some.inj H
           have hnb19 := NB445_447.out
           have hnc19 := NB447_445.out
           have hcz20_0 : w8.cell? ⟨gb445, 0, none⟩ = some (.slice (some ad446) l0_0.length c0_0) := (Zb BK445.out 0).trans rfl
           have hfz20_0 := Zj BK445.out 0
           have p448 : 0 ≤ ((ji12) : Int) := of_decide_eq_true (by assumption)
           have q448 : (ji12) < (l0_0.length : Int) := of_decide_eq_true (by assumption)
           obtain ⟨ad448, A448_2, c448_2, e448, hx448_0, hx448_1, hx448_2, hl448_2, hi448_2⟩ := at_T61 HR0_0.out (ji12) p448 q448
           obtain rfl : ad446 = ad448 := (by injection e448)
           have hn448_0 : ad446.block ≠ gb447 := Nat.ne_of_lt (Nat.lt_of_lt_of_le (by have := World.block_lt_of_cell? _ _ hx448_0; first | rwa [add_block] at this | exact this) GW447.out)
           have hn448_1 : ad446.block ≠ gb447 := Nat.ne_of_lt (Nat.lt_of_lt_of_le (by have := World.block_lt_of_cell? _ _ hx448_0; first | rwa [add_block] at this | exact this) GW447.out)
           have hn448_2 : ad446.block ≠ gb447 := Nat.ne_of_lt (Nat.lt_of_lt_of_le (by have := World.block_lt_of_cell? _ _ hx448_0; first | rwa [add_block] at this | exact this) GW447.out)
           replace hx448_0 := (HB.out.cell (World.block_lt_of_cell? w _ hx448_0)).trans hx448_0
           replace hx448_1 := (HB.out.cell (World.block_lt_of_cell? w _ hx448_1)).trans hx448_1
           replace hx448_2 := (HB.out.cell (World.block_lt_of_cell? w _ hx448_2)).trans hx448_2
           have HR448_2 := Za.mk hi448_2
           have HC448_2 := Za.mk hl448_2
           clear hi448_2 hl448_2
           replace hx448_0 := (cell_far (p := ⟨gb447, 0, none⟩) (by first | (rw [add_block]; exact hn448_0) | (show (Addr.add _ _).block ≠ _; rw [add_block]; exact hn448_0) | exact hn448_0) (.int .u32 ((Zi l0_0 x10_1).f0))).trans hx448_0
           replace hx448_1 := (cell_far (p := ⟨gb447, 0, none⟩) (by first | (rw [add_block]; exact hn448_0) | (show (Addr.add _ _).block ≠ _; rw [add_block]; exact hn448_0) | exact hn448_0) (.int .u32 ((Zi l0_0 x10_1).f0))).trans hx448_1
           replace hx448_2 := (cell_far (p := ⟨gb447, 0, none⟩) (by first | (rw [add_block]; exact hn448_0) | (show (Addr.add _ _).block ≠ _; rw [add_block]; exact hn448_0) | exact hn448_0) (.int .u32 ((Zi l0_0 x10_1).f0))).trans hx448_2
           replace hx448_0 := (cell_far (p := ⟨gb447, 1, none⟩) (by first | (rw [add_block]; exact hn448_1) | (show (Addr.add _ _).block ≠ _; rw [add_block]; exact hn448_1) | exact hn448_1) (.int .u32 ((Zi l0_0 x10_1).f1))).trans hx448_0
           replace hx448_1 := (cell_far (p := ⟨gb447, 1, none⟩) (by first | (rw [add_block]; exact hn448_1) | (show (Addr.add _ _).block ≠ _; rw [add_block]; exact hn448_1) | exact hn448_1) (.int .u32 ((Zi l0_0 x10_1).f1))).trans hx448_1
           replace hx448_2 := (cell_far (p := ⟨gb447, 1, none⟩) (by first | (rw [add_block]; exact hn448_1) | (show (Addr.add _ _).block ≠ _; rw [add_block]; exact hn448_1) | exact hn448_1) (.int .u32 ((Zi l0_0 x10_1).f1))).trans hx448_2
           replace hx448_0 := (cell_far (p := ⟨gb447, 2, none⟩) (by first | (rw [add_block]; exact hn448_2) | (show (Addr.add _ _).block ≠ _; rw [add_block]; exact hn448_2) | exact hn448_2) (.slice A446_2 ((Zi l0_0 x10_1).f2).length c446_2)).trans hx448_0
           replace hx448_1 := (cell_far (p := ⟨gb447, 2, none⟩) (by first | (rw [add_block]; exact hn448_2) | (show (Addr.add _ _).block ≠ _; rw [add_block]; exact hn448_2) | exact hn448_2) (.slice A446_2 ((Zi l0_0 x10_1).f2).length c446_2)).trans hx448_1
           replace hx448_2 := (cell_far (p := ⟨gb447, 2, none⟩) (by first | (rw [add_block]; exact hn448_2) | (show (Addr.add _ _).block ≠ _; rw [add_block]; exact hn448_2) | exact hn448_2) (.slice A446_2 ((Zi l0_0 x10_1).f2).length c446_2)).trans hx448_2
           clear hn448_0
           clear hn448_1
           clear hn448_2
           replace p448 := eq_true p448
           replace q448 := eq_true q448
           try go_wp2_with (first | ((with_reducible refine Zab (N := 6) rfl ?_); (try (refine gate_guard (by rfl) ?_; dsimp only)); refine Zac ?hg (N := 6) ?hd (cs := #[.int .u32 0, .int .u32 0, .slice none 0 0]) (t := 61) ?hr ?_; (case hd => rfl); (case hg => rfl); (case hr => go_simp <;> rfl); intro gb449 hg w21 hbox hb; have BK449 := Za.mk (hbox); have GW449 := Za.mk ((by rw [hg]; exact (Zl (by with_reducible repeat first | exact HB.out | apply Zc | apply Ze | apply Zd | refine Zk ?_ GE445.out | refine Zk ?_ GE447.out)) : w.heap.size ≤ gb449)); have GE449 := Za.mk ((by rw [hg]; exact (Zl (by with_reducible repeat first | exact HB.out | apply Zc | apply Ze | apply Zd | refine Zk ?_ GE445.out | refine Zk ?_ GE447.out)) : w.heap.size ≤ gb449)); replace HB := Za.mk (Zo (by with_reducible repeat first | exact HB.out | apply Zc | apply Ze | apply Zd | refine Zk ?_ GE445.out | refine Zk ?_ GE447.out) hb); have NB445_449 := Za.mk ((by rw [hg]; exact Nat.ne_of_lt (Zs (g := gb445) (o := .cells #[.slice (some ad446) l0_0.length c0_0] 31 (0, 0)) (by (with_reducible repeat first | apply Zg | apply Zf | apply Zh); refine Zt ?_ NB445_447.out _; (with_reducible repeat first | apply Zg | apply Zf | apply Zh); refine Zt ?_ NB445_447.out _; (with_reducible repeat first | apply Zg | apply Zf | apply Zh); refine Zt ?_ NB445_447.out _; (with_reducible repeat first | apply Zg | apply Zf | apply Zh); exact BK445.out)) : gb445 ≠ gb449)); have NB449_445 := Za.mk ((by rw [hg]; exact Nat.ne_of_gt (Zs (g := gb445) (o := .cells #[.slice (some ad446) l0_0.length c0_0] 31 (0, 0)) (by (with_reducible repeat first | apply Zg | apply Zf | apply Zh); refine Zt ?_ NB445_447.out _; (with_reducible repeat first | apply Zg | apply Zf | apply Zh); refine Zt ?_ NB445_447.out _; (with_reducible repeat first | apply Zg | apply Zf | apply Zh); refine Zt ?_ NB445_447.out _; (with_reducible repeat first | apply Zg | apply Zf | apply Zh); exact BK445.out)) : gb449 ≠ gb445)); replace BK445 := Za.mk (Zp (g := gb445) (o := .cells #[.slice (some ad446) l0_0.length c0_0] 31 (0, 0)) (by (with_reducible repeat first | apply Zg | apply Zf | apply Zh); refine Zt ?_ NB445_447.out _; (with_reducible repeat first | apply Zg | apply Zf | apply Zh); refine Zt ?_ NB445_447.out _; (with_reducible repeat first | apply Zg | apply Zf | apply Zh); refine Zt ?_ NB445_447.out _; (with_reducible repeat first | apply Zg | apply Zf | apply Zh); exact BK445.out) hb); have NB447_449 := Za.mk ((by rw [hg]; exact Nat.ne_of_lt (Zs (g := gb447) (o := .cells #[.int .u32 ((Zi l0_0 x10_1).f0), .int .u32 ((Zi l0_0 x10_1).f1), .slice A446_2 ((Zi l0_0 x10_1).f2).length c446_2] 61 (0, 0)) (by (with_reducible repeat first | apply Zg | apply Zf | apply Zh); refine Zw (cs := #[.int .u32 ((Zi l0_0 x10_1).f0), .int .u32 ((Zi l0_0 x10_1).f1), .slice none 0 0]) ?_ 2 _ rfl; (with_reducible repeat first | apply Zg | apply Zf | apply Zh); refine Zw (cs := #[.int .u32 ((Zi l0_0 x10_1).f0), .int .u32 0, .slice none 0 0]) ?_ 1 _ rfl; (with_reducible repeat first | apply Zg | apply Zf | apply Zh); refine Zw (cs := #[.int .u32 0, .int .u32 0, .slice none 0 0]) ?_ 0 _ rfl; (with_reducible repeat first | apply Zg | apply Zf | apply Zh); exact BK447.out)) : gb447 ≠ gb449)); have NB449_447 := Za.mk ((by rw [hg]; exact Nat.ne_of_gt (Zs (g := gb447) (o := .cells #[.int .u32 ((Zi l0_0 x10_1).f0), .int .u32 ((Zi l0_0 x10_1).f1), .slice A446_2 ((Zi l0_0 x10_1).f2).length c446_2] 61 (0, 0)) (by (with_reducible repeat first | apply Zg | apply Zf | apply Zh); refine Zw (cs := #[.int .u32 ((Zi l0_0 x10_1).f0), .int .u32 ((Zi l0_0 x10_1).f1), .slice none 0 0]) ?_ 2 _ rfl; (with_reducible repeat first | apply Zg | apply Zf | apply Zh); refine Zw (cs := #[.int .u32 ((Zi l0_0 x10_1).f0), .int .u32 0, .slice none 0 0]) ?_ 1 _ rfl; (with_reducible repeat first | apply Zg | apply Zf | apply Zh); refine Zw (cs := #[.int .u32 0, .int .u32 0, .slice none 0 0]) ?_ 0 _ rfl; (with_reducible repeat first | apply Zg | apply Zf | apply Zh); exact BK447.out)) : gb449 ≠ gb447)); replace BK447 := Za.mk (Zp (g := gb447) (o := .cells #[.int .u32 ((Zi l0_0 x10_1).f0), .int .u32 ((Zi l0_0 x10_1).f1), .slice A446_2 ((Zi l0_0 x10_1).f2).length c446_2] 61 (0, 0)) (by (with_reducible repeat first | apply Zg | apply Zf | apply Zh); refine Zw (cs := #[.int .u32 ((Zi l0_0 x10_1).f0), .int .u32 ((Zi l0_0 x10_1).f1), .slice none 0 0]) ?_ 2 _ rfl; (with_reducible repeat first | apply Zg | apply Zf | apply Zh); refine Zw (cs := #[.int .u32 ((Zi l0_0 x10_1).f0), .int .u32 0, .slice none 0 0]) ?_ 1 _ rfl; (with_reducible repeat first | apply Zg | apply Zf | apply Zh); refine Zw (cs := #[.int .u32 0, .int .u32 0, .slice none 0 0]) ?_ 0 _ rfl; (with_reducible repeat first | apply Zg | apply Zf | apply Zh); exact BK447.out) hb); clear hb hbox hg; have hnb22 := NB449_445.out; have hnc22 := NB445_449.out; have hnb23 := NB449_447.out; have hnc23 := NB447_449.out; have hcz24_0 : w21.cell? ⟨gb449, 0, none⟩ = some (.int .u32 0) := (Zb BK449.out 0).trans rfl; have hcz24_1 : w21.cell? ⟨gb449, 1, none⟩ = some (.int .u32 0) := (Zb BK449.out 1).trans rfl; have hcz24_2 : w21.cell? ⟨gb449, 2, none⟩ = some (.slice none 0 0) := (Zb BK449.out 2).trans rfl; have hfz24_0 := Zj BK449.out 0; have hfz24_1 := Zj BK449.out 1; have hfz24_2 := Zj BK449.out 2))
           have n0_ : Za ((((w21.setCell ⟨gb449, 0, none⟩ (.int .u32 ((Zi l0_0 (ji12)).f0))).setCell ⟨gb449, 1, none⟩ (.int .u32 ((Zi l0_0 (ji12)).f1))).setCell ⟨gb449, 2, none⟩ (.slice A448_2 ((Zi l0_0 (ji12)).f2).length c448_2)).heap[gb445]? = some (.cells #[.slice (some ad446) l0_0.length c0_0] 31 (0, 0))) := ⟨by (with_reducible repeat first | apply Zg | apply Zf | apply Zh); refine Zt ?_ NB445_449.out _; (with_reducible repeat first | apply Zg | apply Zf | apply Zh); refine Zt ?_ NB445_449.out _; (with_reducible repeat first | apply Zg | apply Zf | apply Zh); refine Zt ?_ NB445_449.out _; (with_reducible repeat first | apply Zg | apply Zf | apply Zh); exact BK445.out⟩
           have n1_ : Za ((((w21.setCell ⟨gb449, 0, none⟩ (.int .u32 ((Zi l0_0 (ji12)).f0))).setCell ⟨gb449, 1, none⟩ (.int .u32 ((Zi l0_0 (ji12)).f1))).setCell ⟨gb449, 2, none⟩ (.slice A448_2 ((Zi l0_0 (ji12)).f2).length c448_2)).heap[gb447]? = some (.cells #[.int .u32 ((Zi l0_0 x10_1).f0), .int .u32 ((Zi l0_0 x10_1).f1), .slice A446_2 ((Zi l0_0 x10_1).f2).length c446_2] 61 (0, 0))) := ⟨by (with_reducible repeat first | apply Zg | apply Zf | apply Zh); refine Zt ?_ NB447_449.out _; (with_reducible repeat first | apply Zg | apply Zf | apply Zh); refine Zt ?_ NB447_449.out _; (with_reducible repeat first | apply Zg | apply Zf | apply Zh); refine Zt ?_ NB447_449.out _; (with_reducible repeat first | apply Zg | apply Zf | apply Zh); exact BK447.out⟩
           have n2_ : Za ((((w21.setCell ⟨gb449, 0, none⟩ (.int .u32 ((Zi l0_0 (ji12)).f0))).setCell ⟨gb449, 1, none⟩ (.int .u32 ((Zi l0_0 (ji12)).f1))).setCell ⟨gb449, 2, none⟩ (.slice A448_2 ((Zi l0_0 (ji12)).f2).length c448_2)).heap[gb449]? = some (.cells #[.int .u32 ((Zi l0_0 (ji12)).f0), .int .u32 ((Zi l0_0 (ji12)).f1), .slice A448_2 ((Zi l0_0 (ji12)).f2).length c448_2] 61 (0, 0))) := ⟨by (with_reducible repeat first | apply Zg | apply Zf | apply Zh); refine Zw (cs := #[.int .u32 ((Zi l0_0 (ji12)).f0), .int .u32 ((Zi l0_0 (ji12)).f1), .slice none 0 0]) ?_ 2 _ rfl; (with_reducible repeat first | apply Zg | apply Zf | apply Zh); refine Zw (cs := #[.int .u32 ((Zi l0_0 (ji12)).f0), .int .u32 0, .slice none 0 0]) ?_ 1 _ rfl; (with_reducible repeat first | apply Zg | apply Zf | apply Zh); refine Zw (cs := #[.int .u32 0, .int .u32 0, .slice none 0 0]) ?_ 0 _ rfl; (with_reducible repeat first | apply Zg | apply Zf | apply Zh); exact BK449.out⟩
           have n3_ : Za (Below w.heap.size w (((w21.setCell ⟨gb449, 0, none⟩ (.int .u32 ((Zi l0_0 (ji12)).f0))).setCell ⟨gb449, 1, none⟩ (.int .u32 ((Zi l0_0 (ji12)).f1))).setCell ⟨gb449, 2, none⟩ (.slice A448_2 ((Zi l0_0 (ji12)).f2).length c448_2))) := ⟨by with_reducible repeat first | exact HB.out | apply Zc | apply Ze | apply Zd | refine Zk ?_ GE445.out | refine Zk ?_ GE447.out | refine Zk ?_ GE449.out⟩
           (try clear BK445)
           (try clear BK447)
           (try clear BK449)
           (try clear HB)
           generalize (((w21.setCell ⟨gb449, 0, none⟩ (.int .u32 ((Zi l0_0 (ji12)).f0))).setCell ⟨gb449, 1, none⟩ (.int .u32 ((Zi l0_0 (ji12)).f1))).setCell ⟨gb449, 2, none⟩ (.slice A448_2 ((Zi l0_0 (ji12)).f2).length c448_2)) = w25 at n0_ n1_ n2_ n3_ ⊢
           have BK445 := n0_
           have BK447 := n1_
           have BK449 := n2_
           have HB := n3_
           clear n0_ n1_ n2_ n3_
           replace BK445 := Za.mk (Zf BK445.out)
           replace BK447 := Za.mk (Zf BK447.out)
           replace BK449 := Za.mk (Zf BK449.out)
           replace HB := Za.mk (Zd HB.out)
           refine start_ (n := 13) (S := fun w' => w'.cell? ⟨gb449, 0, none⟩ = some (.int .u32 ((Zi l0_0 (ji12)).f0)) ∧ w'.cell? ⟨gb449, 1, none⟩ = some (.int .u32 ((Zi l0_0 (ji12)).f1)) ∧ w'.cell? ⟨gb449, 2, none⟩ = some (.slice A448_2 ((Zi l0_0 (ji12)).f2).length c448_2) ∧ w'.cell? ⟨gb447, 0, none⟩ = some (.int .u32 ((Zi l0_0 x10_1).f0)) ∧ w'.cell? ⟨gb447, 1, none⟩ = some (.int .u32 ((Zi l0_0 x10_1).f1)) ∧ w'.cell? ⟨gb447, 2, none⟩ = some (.slice A446_2 ((Zi l0_0 x10_1).f2).length c446_2)) (ds := []) #[false, false, false, false, false, false, false, false, false, false, false, false, false] (by kernel_rfl) rfl rfl ⟨(Zb BK449.out 0).trans rfl, (Zb BK449.out 1).trans rfl, (Zb BK449.out 2).trans rfl, (Zb BK447.out 0).trans rfl, (Zb BK447.out 1).trans rfl, (Zb BK447.out 2).trans rfl⟩ (fun hHeld => ?_); refine with_tabW Zaq.tab7 Zaq.bits7 (fun HT_ HW_ => ?_)
           generalize w25.drew = w26 at BK445 BK447 BK449 HB hHeld ⊢
           refine Zaf (i := 0) (N := some 23) (v := ?_) (a' := ?_) #[true, false, false, false, false, false, false, false, false, false, false, false, false] rfl rfl (Zag HT_.out (by kernel_rfl)) (fun _ _ _ h => h) (Or.inl ⟨by rfl, ?_⟩) ?_ ?_
           rotate_left
           ·intro w'
            go_simp
            with_reducible rfl
           rotate_left
           ·simp only [Act.put, ZD, ZE, ZF, Zu, Zv]
            rfl
           refine Zaf (i := 2) (N := some 25) (v := ?_) (a' := ?_) #[true, false, true, false, false, false, false, false, false, false, false, false, false] rfl rfl (Zag HT_.out (by kernel_rfl)) (fun _ _ _ h => h) (Or.inl ⟨by rfl, ?_⟩) ?_ ?_
           rotate_left
           ·intro w'
            go_simp
            with_reducible rfl
           rotate_left
           ·simp only [Act.put, ZD, ZE, ZF, Zu, Zv]
            rfl
           refine Zaf (i := 5) (N := some 28) (v := ?_) (a' := ?_) #[true, false, true, false, false, true, false, false, false, false, false, false, false] rfl rfl (Zag HT_.out (by kernel_rfl)) (fun _ _ _ h => h) (Or.inl ⟨by rfl, ?_⟩) ?_ ?_
           rotate_left
           ·intro w'
            go_simp
            with_reducible rfl
           rotate_left
           ·simp only [Act.put, ZD, ZE, ZF, Zu, Zv]
            rfl
           refine Zaf (i := 7) (N := some 30) (v := ?_) (a' := ?_) #[true, false, true, false, false, true, false, true, false, false, false, false, false] rfl rfl (Zag HT_.out (by kernel_rfl)) (fun _ _ _ h => h) (Or.inl ⟨by rfl, ?_⟩) ?_ ?_
           rotate_left
           ·intro w'
            go_simp
            with_reducible rfl
           rotate_left
           ·simp only [Act.put, ZD, ZE, ZF, Zu, Zv]
            rfl
           refine take_ (i := 1) (N := some 24) (v := ?_) (a' := ?_) #[true, true, true, false, false, true, false, true, false, false, false, false, false] rfl rfl (Zbt HT_.out HW_.out (by kernel_rfl)) (fun _ _ _ h => h) (Or.inl ⟨by rfl, ?_⟩) hHeld ?_ ?_
           rotate_left
           ·rintro w' ⟨s0, s1, s2, s3, s4, s5⟩
            go_simp
            with_reducible rfl
           rotate_left
           ·simp only [Act.put, ZD, ZE, ZF, Zu, Zv]
            rfl
           refine take_ (i := 3) (N := some 26) (v := ?_) (a' := ?_) #[true, true, true, true, false, true, false, true, false, false, false, false, false] rfl rfl (Zbt HT_.out HW_.out (by kernel_rfl)) (fun _ _ _ h => h) (Or.inl ⟨by rfl, ?_⟩) hHeld ?_ ?_
           rotate_left
           ·rintro w' ⟨s0, s1, s2, s3, s4, s5⟩
            go_simp
            with_reducible rfl
           rotate_left
           ·simp only [Act.put, ZD, ZE, ZF, Zu, Zv]
            rfl
           refine take_ (i := 6) (N := some 29) (v := ?_) (a' := ?_) #[true, true, true, true, false, true, true, true, false, false, false, false, false] rfl rfl (Zbt HT_.out HW_.out (by kernel_rfl)) (fun _ _ _ h => h) (Or.inl ⟨by rfl, ?_⟩) hHeld ?_ ?_
           rotate_left
           ·rintro w' ⟨s0, s1, s2, s3, s4, s5⟩
            go_simp
            with_reducible rfl
           rotate_left
           ·simp only [Act.put, ZD, ZE, ZF, Zu, Zv]
            rfl
           refine take_ (i := 8) (N := some 31) (v := ?_) (a' := ?_) #[true, true, true, true, false, true, true, true, true, false, false, false, false] rfl rfl (Zbt HT_.out HW_.out (by kernel_rfl)) (fun _ _ _ h => h) (Or.inl ⟨by rfl, ?_⟩) hHeld ?_ ?_
           rotate_left
           ·rintro w' ⟨s0, s1, s2, s3, s4, s5⟩
            go_simp
            with_reducible rfl
           rotate_left
           ·simp only [Act.put, ZD, ZE, ZF, Zu, Zv]
            rfl
           refine one_ (i := 4) (N := some 27) #[true, true, true, true, true, true, true, true, true, false, false, false, false] rfl rfl (one_of HT_.out (by kernel_rfl)) (by decide) (fun K hK => ?_)
           refine goes_ Try.func36 (by kernel_rfl) rfl #[.int .u32 ((Zi l0_0 (ji12)).f0), .int .u32 ((Zi l0_0 x10_1).f0)] (by rfl) rfl rfl (by (try simp only [List.map_toArray, List.map_cons, List.map_nil]); first | done | (simp only [hji12]; rfl) | rfl | (simp only [List.length_drop, List.length_take]; rfl)) ?_
           with_reducible refine (Zck.calls ((Zi l0_0 (ji12)).f0) ((Zi l0_0 x10_1).f0) t450 _ A15.out).mono ?_
           rintro e w' ⟨rfl, ⟨nd, rfl⟩⟩
           refine ⟨_, rfl, ?_⟩
           refine hK.out _ _ ⟨(Zb BK449.out 0).trans rfl, (Zb BK449.out 1).trans rfl, (Zb BK449.out 2).trans rfl, (Zb BK447.out 0).trans rfl, (Zb BK447.out 1).trans rfl, (Zb BK447.out 2).trans rfl⟩ (fun hHeld => ?_)
           clear hK K
           refine norm_ (a' := ?_) ?_ ?_
           rotate_left
           ·show Act.put _ (some 27) _ = _
            simp only [Act.put, ZD, ZE, ZF, Zu, Zv]
            rfl
           refine one_ (i := 9) (N := some 32) #[true, true, true, true, true, true, true, true, true, true, false, false, false] rfl rfl (one_of HT_.out (by kernel_rfl)) (by decide) (fun K hK => ?_)
           refine goes_ Try.func36 (by kernel_rfl) rfl #[.int .u32 ((Zi l0_0 (ji12)).f1), .int .u32 ((Zi l0_0 x10_1).f1)] (by rfl) rfl rfl (by (try simp only [List.map_toArray, List.map_cons, List.map_nil]); first | done | (simp only [hji12]; rfl) | rfl | (simp only [List.length_drop, List.length_take]; rfl)) ?_
           with_reducible refine (Zck.calls ((Zi l0_0 (ji12)).f1) ((Zi l0_0 x10_1).f1) t451 _ A16.out).mono ?_
           rintro e w' ⟨rfl, ⟨nd, rfl⟩⟩
           refine ⟨_, rfl, ?_⟩
           refine hK.out _ _ ⟨(Zb BK449.out 0).trans rfl, (Zb BK449.out 1).trans rfl, (Zb BK449.out 2).trans rfl, (Zb BK447.out 0).trans rfl, (Zb BK447.out 1).trans rfl, (Zb BK447.out 2).trans rfl⟩ (fun hHeld => ?_)
           clear hK K
           refine norm_ (a' := ?_) ?_ ?_
           rotate_left
           ·show Act.put _ (some 32) _ = _
            simp only [Act.put, ZD, ZE, ZF, Zu, Zv]
            rfl
           refine one_ (i := 10) (N := some 33) #[true, true, true, true, true, true, true, true, true, true, true, false, false] rfl rfl (one_of HT_.out (by kernel_rfl)) (by decide) (fun K hK => ?_)
           refine Kd.R_lit_step (Kd.int .i64) _ 3 ?hg (N := 33) ?hd (xs := ([t450, t451] : List Int)) (inner := [.int .i64 t450, .int .i64 t451]) (ok := fun _ => True) (okp := fun _ => True) ?hr ?hp (fun _ hk => hk) trivial (Below.refl _ _) (Nat.le_refl _) (by simp) ?_; (case hd => rfl); (case hg => rfl); (case hr => go_simp <;> rfl); (case hp => exact (Reps.one (show Kd.M (Kd.int .i64) _ _ _ t450 [.int .i64 t450] from rfl) (Reps.one (show Kd.M (Kd.int .i64) _ _ _ t451 [.int .i64 t451] from rfl) (Reps.none _ _))))
           intro v453 w27 ho28 hb hg_ hnew_
           clear hg_ hnew_
           (first | rw [← Ny452.out] at ho28 | (simp only [Int.reduceToNat] at ho28; rw [← Ny452.out] at ho28))
           have HO454 := Za.mk (Kd.Zbk ho28 (Zl (by with_reducible repeat first | exact HB.out | apply Zc | apply Ze | apply Zd | refine Zk ?_ GE445.out | refine Zk ?_ GE447.out | refine Zk ?_ GE449.out)))
           replace BK445 := Za.mk (Zp (g := gb445) (o := .cells #[.slice (some ad446) l0_0.length c0_0] 31 (0, 0)) (by (with_reducible repeat first | apply Zg | apply Zf | apply Zh); exact BK445.out) hb)
           replace BK447 := Za.mk (Zp (g := gb447) (o := .cells #[.int .u32 ((Zi l0_0 x10_1).f0), .int .u32 ((Zi l0_0 x10_1).f1), .slice A446_2 ((Zi l0_0 x10_1).f2).length c446_2] 61 (0, 0)) (by (with_reducible repeat first | apply Zg | apply Zf | apply Zh); exact BK447.out) hb)
           replace BK449 := Za.mk (Zp (g := gb449) (o := .cells #[.int .u32 ((Zi l0_0 (ji12)).f0), .int .u32 ((Zi l0_0 (ji12)).f1), .slice A448_2 ((Zi l0_0 (ji12)).f2).length c448_2] 61 (0, 0)) (by (with_reducible repeat first | apply Zg | apply Zf | apply Zh); exact BK449.out) hb)
           replace HB := Za.mk (Zo (by with_reducible repeat first | exact HB.out | apply Zc | apply Ze | apply Zd | refine Zk ?_ GE445.out | refine Zk ?_ GE447.out | refine Zk ?_ GE449.out) hb)
           clear hb ho28
           obtain ⟨Ao29, co29, eo29⟩ := Kd.Zay HO454.out
           (first | subst eo29 | (injection eo29 with f1_ f2_ f3_; have f4_ := f1_.symm; have f5_ := f3_.symm; clear f1_ f2_ f3_; subst f4_; subst f5_))
           refine hK.out _ _ ⟨(Zb BK449.out 0).trans rfl, (Zb BK449.out 1).trans rfl, (Zb BK449.out 2).trans rfl, (Zb BK447.out 0).trans rfl, (Zb BK447.out 1).trans rfl, (Zb BK447.out 2).trans rfl⟩ (fun hHeld => ?_)
           clear hK K
           refine norm_ (a' := ?_) ?_ ?_
           rotate_left
           ·show Act.put _ (some 33) _ = _
            simp only [Act.put, ZD, ZE, ZF, Zu, Zv]
            rfl
           refine one_ (i := 11) (N := some 34) #[true, true, true, true, true, true, true, true, true, true, true, true, false] rfl rfl (one_of HT_.out (by kernel_rfl)) (by decide) (fun K hK => ?_)
           refine goes_ Try.func35 (by kernel_rfl) rfl #[.slice Ao29 y452.length co29] (by rfl) rfl rfl (by (try simp only [ZA, ZB, ZC]); first | done | rfl) ?_
           with_reducible refine (Zca.calls k1 _ _ y452 t455 _ ?side1 ?side2 A17.out).mono ?_
           (case side1 => repeat (first | exact (Kd.Zat HO454.out).2.2 | (with_reducible refine Kd.Zau ?_ _) | (with_reducible refine Kd.Zaw ?_ _) | (with_reducible refine Kd.Zav ?_)))
           (case side2 => exact (Kd.Zat HO454.out).2.1)
           rintro e w' ⟨rfl, ⟨nd, rfl⟩⟩
           refine ⟨_, rfl, ?_⟩
           refine hK.out _ _ ⟨(Zb BK449.out 0).trans rfl, (Zb BK449.out 1).trans rfl, (Zb BK449.out 2).trans rfl, (Zb BK447.out 0).trans rfl, (Zb BK447.out 1).trans rfl, (Zb BK447.out 2).trans rfl⟩ (fun hHeld => ?_)
           clear hK K
           refine norm_ (a' := ?_) ?_ ?_
           rotate_left
           ·show Act.put _ (some 34) _ = _
            simp only [Act.put, ZD, ZE, ZF, Zu, Zv]
            rfl
           refine Zaf (i := 12) (N := some 35) (v := ?_) (a' := ?_) #[true, true, true, true, true, true, true, true, true, true, true, true, true] rfl rfl (Zag HT_.out (by kernel_rfl)) (fun _ _ _ h => h) (Or.inl ⟨by rfl, ?_⟩) ?_ ?_
           rotate_left
           ·intro w'
            go_simp
            with_reducible rfl
           rotate_left
           ·simp only [Act.put, ZD, ZE, ZF, Zu, Zv]
            rfl
           refine done_ (done_of HT_.out (by kernel_rfl)) ?_
           try go_wp2
           go_ret
           exact ⟨by first | rfl | (simp [Zm, Zn] <;> rfl) | (simp only [← hji12]; first | rfl | (simp [Zm, Zn] <;> rfl)) | (simp [*, Zm, Zn] <;> rfl), by with_reducible repeat first | exact HB.out | apply Zc | apply Ze | apply Zd | refine Zk ?_ GE445.out | refine Zk ?_ GE447.out | refine Zk ?_ GE449.out⟩
          rw [if_neg c18] at H
          have c18b0 : decide (0 ≤ t455) = false := decide_eq_false c18
          clear c18
          have H' := Za.mk H
          clear H
          have hnb30 := NB445_447.out
          have hnc30 := NB447_445.out
          have hcz31_0 : w8.cell? ⟨gb445, 0, none⟩ = some (.slice (some ad446) l0_0.length c0_0) := (Zb BK445.out 0).trans rfl
          have hfz31_0 := Zj BK445.out 0
          have p448 : 0 ≤ ((ji12) : Int) := of_decide_eq_true (by assumption)
          have q448 : (ji12) < (l0_0.length : Int) := of_decide_eq_true (by assumption)
          obtain ⟨ad448, A448_2, c448_2, e448, hx448_0, hx448_1, hx448_2, hl448_2, hi448_2⟩ := at_T61 HR0_0.out (ji12) p448 q448
          obtain rfl : ad446 = ad448 := (by injection e448)
          have hn448_0 : ad446.block ≠ gb447 := Nat.ne_of_lt (Nat.lt_of_lt_of_le (by have := World.block_lt_of_cell? _ _ hx448_0; first | rwa [add_block] at this | exact this) GW447.out)
          have hn448_1 : ad446.block ≠ gb447 := Nat.ne_of_lt (Nat.lt_of_lt_of_le (by have := World.block_lt_of_cell? _ _ hx448_0; first | rwa [add_block] at this | exact this) GW447.out)
          have hn448_2 : ad446.block ≠ gb447 := Nat.ne_of_lt (Nat.lt_of_lt_of_le (by have := World.block_lt_of_cell? _ _ hx448_0; first | rwa [add_block] at this | exact this) GW447.out)
          replace hx448_0 := (HB.out.cell (World.block_lt_of_cell? w _ hx448_0)).trans hx448_0
          replace hx448_1 := (HB.out.cell (World.block_lt_of_cell? w _ hx448_1)).trans hx448_1
          replace hx448_2 := (HB.out.cell (World.block_lt_of_cell? w _ hx448_2)).trans hx448_2
          have HR448_2 := Za.mk hi448_2
          have HC448_2 := Za.mk hl448_2
          clear hi448_2 hl448_2
          replace hx448_0 := (cell_far (p := ⟨gb447, 0, none⟩) (by first | (rw [add_block]; exact hn448_0) | (show (Addr.add _ _).block ≠ _; rw [add_block]; exact hn448_0) | exact hn448_0) (.int .u32 ((Zi l0_0 x10_1).f0))).trans hx448_0
          replace hx448_1 := (cell_far (p := ⟨gb447, 0, none⟩) (by first | (rw [add_block]; exact hn448_0) | (show (Addr.add _ _).block ≠ _; rw [add_block]; exact hn448_0) | exact hn448_0) (.int .u32 ((Zi l0_0 x10_1).f0))).trans hx448_1
          replace hx448_2 := (cell_far (p := ⟨gb447, 0, none⟩) (by first | (rw [add_block]; exact hn448_0) | (show (Addr.add _ _).block ≠ _; rw [add_block]; exact hn448_0) | exact hn448_0) (.int .u32 ((Zi l0_0 x10_1).f0))).trans hx448_2
          replace hx448_0 := (cell_far (p := ⟨gb447, 1, none⟩) (by first | (rw [add_block]; exact hn448_1) | (show (Addr.add _ _).block ≠ _; rw [add_block]; exact hn448_1) | exact hn448_1) (.int .u32 ((Zi l0_0 x10_1).f1))).trans hx448_0
          replace hx448_1 := (cell_far (p := ⟨gb447, 1, none⟩) (by first | (rw [add_block]; exact hn448_1) | (show (Addr.add _ _).block ≠ _; rw [add_block]; exact hn448_1) | exact hn448_1) (.int .u32 ((Zi l0_0 x10_1).f1))).trans hx448_1
          replace hx448_2 := (cell_far (p := ⟨gb447, 1, none⟩) (by first | (rw [add_block]; exact hn448_1) | (show (Addr.add _ _).block ≠ _; rw [add_block]; exact hn448_1) | exact hn448_1) (.int .u32 ((Zi l0_0 x10_1).f1))).trans hx448_2
          replace hx448_0 := (cell_far (p := ⟨gb447, 2, none⟩) (by first | (rw [add_block]; exact hn448_2) | (show (Addr.add _ _).block ≠ _; rw [add_block]; exact hn448_2) | exact hn448_2) (.slice A446_2 ((Zi l0_0 x10_1).f2).length c446_2)).trans hx448_0
          replace hx448_1 := (cell_far (p := ⟨gb447, 2, none⟩) (by first | (rw [add_block]; exact hn448_2) | (show (Addr.add _ _).block ≠ _; rw [add_block]; exact hn448_2) | exact hn448_2) (.slice A446_2 ((Zi l0_0 x10_1).f2).length c446_2)).trans hx448_1
          replace hx448_2 := (cell_far (p := ⟨gb447, 2, none⟩) (by first | (rw [add_block]; exact hn448_2) | (show (Addr.add _ _).block ≠ _; rw [add_block]; exact hn448_2) | exact hn448_2) (.slice A446_2 ((Zi l0_0 x10_1).f2).length c446_2)).trans hx448_2
          clear hn448_0
          clear hn448_1
          clear hn448_2
          replace p448 := eq_true p448
          replace q448 := eq_true q448
          try go_wp2_with (first | ((with_reducible refine Zab (N := 6) rfl ?_); (try (refine gate_guard (by rfl) ?_; dsimp only)); refine Zac ?hg (N := 6) ?hd (cs := #[.int .u32 0, .int .u32 0, .slice none 0 0]) (t := 61) ?hr ?_; (case hd => rfl); (case hg => rfl); (case hr => go_simp <;> rfl); intro gb449 hg w32 hbox hb; have BK449 := Za.mk (hbox); have GW449 := Za.mk ((by rw [hg]; exact (Zl (by with_reducible repeat first | exact HB.out | apply Zc | apply Ze | apply Zd | refine Zk ?_ GE445.out | refine Zk ?_ GE447.out)) : w.heap.size ≤ gb449)); have GE449 := Za.mk ((by rw [hg]; exact (Zl (by with_reducible repeat first | exact HB.out | apply Zc | apply Ze | apply Zd | refine Zk ?_ GE445.out | refine Zk ?_ GE447.out)) : w.heap.size ≤ gb449)); replace HB := Za.mk (Zo (by with_reducible repeat first | exact HB.out | apply Zc | apply Ze | apply Zd | refine Zk ?_ GE445.out | refine Zk ?_ GE447.out) hb); have NB445_449 := Za.mk ((by rw [hg]; exact Nat.ne_of_lt (Zs (g := gb445) (o := .cells #[.slice (some ad446) l0_0.length c0_0] 31 (0, 0)) (by (with_reducible repeat first | apply Zg | apply Zf | apply Zh); refine Zt ?_ NB445_447.out _; (with_reducible repeat first | apply Zg | apply Zf | apply Zh); refine Zt ?_ NB445_447.out _; (with_reducible repeat first | apply Zg | apply Zf | apply Zh); refine Zt ?_ NB445_447.out _; (with_reducible repeat first | apply Zg | apply Zf | apply Zh); exact BK445.out)) : gb445 ≠ gb449)); have NB449_445 := Za.mk ((by rw [hg]; exact Nat.ne_of_gt (Zs (g := gb445) (o := .cells #[.slice (some ad446) l0_0.length c0_0] 31 (0, 0)) (by (with_reducible repeat first | apply Zg | apply Zf | apply Zh); refine Zt ?_ NB445_447.out _; (with_reducible repeat first | apply Zg | apply Zf | apply Zh); refine Zt ?_ NB445_447.out _; (with_reducible repeat first | apply Zg | apply Zf | apply Zh); refine Zt ?_ NB445_447.out _; (with_reducible repeat first | apply Zg | apply Zf | apply Zh); exact BK445.out)) : gb449 ≠ gb445)); replace BK445 := Za.mk (Zp (g := gb445) (o := .cells #[.slice (some ad446) l0_0.length c0_0] 31 (0, 0)) (by (with_reducible repeat first | apply Zg | apply Zf | apply Zh); refine Zt ?_ NB445_447.out _; (with_reducible repeat first | apply Zg | apply Zf | apply Zh); refine Zt ?_ NB445_447.out _; (with_reducible repeat first | apply Zg | apply Zf | apply Zh); refine Zt ?_ NB445_447.out _; (with_reducible repeat first | apply Zg | apply Zf | apply Zh); exact BK445.out) hb); have NB447_449 := Za.mk ((by rw [hg]; exact Nat.ne_of_lt (Zs (g := gb447) (o := .cells #[.int .u32 ((Zi l0_0 x10_1).f0), .int .u32 ((Zi l0_0 x10_1).f1), .slice A446_2 ((Zi l0_0 x10_1).f2).length c446_2] 61 (0, 0)) (by (with_reducible repeat first | apply Zg | apply Zf | apply Zh); refine Zw (cs := #[.int .u32 ((Zi l0_0 x10_1).f0), .int .u32 ((Zi l0_0 x10_1).f1), .slice none 0 0]) ?_ 2 _ rfl; (with_reducible repeat first | apply Zg | apply Zf | apply Zh); refine Zw (cs := #[.int .u32 ((Zi l0_0 x10_1).f0), .int .u32 0, .slice none 0 0]) ?_ 1 _ rfl; (with_reducible repeat first | apply Zg | apply Zf | apply Zh); refine Zw (cs := #[.int .u32 0, .int .u32 0, .slice none 0 0]) ?_ 0 _ rfl; (with_reducible repeat first | apply Zg | apply Zf | apply Zh); exact BK447.out)) : gb447 ≠ gb449)); have NB449_447 := Za.mk ((by rw [hg]; exact Nat.ne_of_gt (Zs (g := gb447) (o := .cells #[.int .u32 ((Zi l0_0 x10_1).f0), .int .u32 ((Zi l0_0 x10_1).f1), .slice A446_2 ((Zi l0_0 x10_1).f2).length c446_2] 61 (0, 0)) (by (with_reducible repeat first | apply Zg | apply Zf | apply Zh); refine Zw (cs := #[.int .u32 ((Zi l0_0 x10_1).f0), .int .u32 ((Zi l0_0 x10_1).f1), .slice none 0 0]) ?_ 2 _ rfl; (with_reducible repeat first | apply Zg | apply Zf | apply Zh); refine Zw (cs := #[.int .u32 ((Zi l0_0 x10_1).f0), .int .u32 0, .slice none 0 0]) ?_ 1 _ rfl; (with_reducible repeat first | apply Zg | apply Zf | apply Zh); refine Zw (cs := #[.int .u32 0, .int .u32 0, .slice none 0 0]) ?_ 0 _ rfl; (with_reducible repeat first | apply Zg | apply Zf | apply Zh); exact BK447.out)) : gb449 ≠ gb447)); replace BK447 := Za.mk (Zp (g := gb447) (o := .cells #[.int .u32 ((Zi l0_0 x10_1).f0), .int .u32 ((Zi l0_0 x10_1).f1), .slice A446_2 ((Zi l0_0 x10_1).f2).length c446_2] 61 (0, 0)) (by (with_reducible repeat first | apply Zg | apply Zf | apply Zh); refine Zw (cs := #[.int .u32 ((Zi l0_0 x10_1).f0), .int .u32 ((Zi l0_0 x10_1).f1), .slice none 0 0]) ?_ 2 _ rfl; (with_reducible repeat first | apply Zg | apply Zf | apply Zh); refine Zw (cs := #[.int .u32 ((Zi l0_0 x10_1).f0), .int .u32 0, .slice none 0 0]) ?_ 1 _ rfl; (with_reducible repeat first | apply Zg | apply Zf | apply Zh); refine Zw (cs := #[.int .u32 0, .int .u32 0, .slice none 0 0]) ?_ 0 _ rfl; (with_reducible repeat first | apply Zg | apply Zf | apply Zh); exact BK447.out) hb); clear hb hbox hg; have hnb33 := NB449_445.out; have hnc33 := NB445_449.out; have hnb34 := NB449_447.out; have hnc34 := NB447_449.out; have hcz35_0 : w32.cell? ⟨gb449, 0, none⟩ = some (.int .u32 0) := (Zb BK449.out 0).trans rfl; have hcz35_1 : w32.cell? ⟨gb449, 1, none⟩ = some (.int .u32 0) := (Zb BK449.out 1).trans rfl; have hcz35_2 : w32.cell? ⟨gb449, 2, none⟩ = some (.slice none 0 0) := (Zb BK449.out 2).trans rfl; have hfz35_0 := Zj BK449.out 0; have hfz35_1 := Zj BK449.out 1; have hfz35_2 := Zj BK449.out 2))
          have n0_ : Za ((((w32.setCell ⟨gb449, 0, none⟩ (.int .u32 ((Zi l0_0 (ji12)).f0))).setCell ⟨gb449, 1, none⟩ (.int .u32 ((Zi l0_0 (ji12)).f1))).setCell ⟨gb449, 2, none⟩ (.slice A448_2 ((Zi l0_0 (ji12)).f2).length c448_2)).heap[gb445]? = some (.cells #[.slice (some ad446) l0_0.length c0_0] 31 (0, 0))) := ⟨by (with_reducible repeat first | apply Zg | apply Zf | apply Zh); refine Zt ?_ NB445_449.out _; (with_reducible repeat first | apply Zg | apply Zf | apply Zh); refine Zt ?_ NB445_449.out _; (with_reducible repeat first | apply Zg | apply Zf | apply Zh); refine Zt ?_ NB445_449.out _; (with_reducible repeat first | apply Zg | apply Zf | apply Zh); exact BK445.out⟩
          have n1_ : Za ((((w32.setCell ⟨gb449, 0, none⟩ (.int .u32 ((Zi l0_0 (ji12)).f0))).setCell ⟨gb449, 1, none⟩ (.int .u32 ((Zi l0_0 (ji12)).f1))).setCell ⟨gb449, 2, none⟩ (.slice A448_2 ((Zi l0_0 (ji12)).f2).length c448_2)).heap[gb447]? = some (.cells #[.int .u32 ((Zi l0_0 x10_1).f0), .int .u32 ((Zi l0_0 x10_1).f1), .slice A446_2 ((Zi l0_0 x10_1).f2).length c446_2] 61 (0, 0))) := ⟨by (with_reducible repeat first | apply Zg | apply Zf | apply Zh); refine Zt ?_ NB447_449.out _; (with_reducible repeat first | apply Zg | apply Zf | apply Zh); refine Zt ?_ NB447_449.out _; (with_reducible repeat first | apply Zg | apply Zf | apply Zh); refine Zt ?_ NB447_449.out _; (with_reducible repeat first | apply Zg | apply Zf | apply Zh); exact BK447.out⟩
          have n2_ : Za ((((w32.setCell ⟨gb449, 0, none⟩ (.int .u32 ((Zi l0_0 (ji12)).f0))).setCell ⟨gb449, 1, none⟩ (.int .u32 ((Zi l0_0 (ji12)).f1))).setCell ⟨gb449, 2, none⟩ (.slice A448_2 ((Zi l0_0 (ji12)).f2).length c448_2)).heap[gb449]? = some (.cells #[.int .u32 ((Zi l0_0 (ji12)).f0), .int .u32 ((Zi l0_0 (ji12)).f1), .slice A448_2 ((Zi l0_0 (ji12)).f2).length c448_2] 61 (0, 0))) := ⟨by (with_reducible repeat first | apply Zg | apply Zf | apply Zh); refine Zw (cs := #[.int .u32 ((Zi l0_0 (ji12)).f0), .int .u32 ((Zi l0_0 (ji12)).f1), .slice none 0 0]) ?_ 2 _ rfl; (with_reducible repeat first | apply Zg | apply Zf | apply Zh); refine Zw (cs := #[.int .u32 ((Zi l0_0 (ji12)).f0), .int .u32 0, .slice none 0 0]) ?_ 1 _ rfl; (with_reducible repeat first | apply Zg | apply Zf | apply Zh); refine Zw (cs := #[.int .u32 0, .int .u32 0, .slice none 0 0]) ?_ 0 _ rfl; (with_reducible repeat first | apply Zg | apply Zf | apply Zh); exact BK449.out⟩
          have n3_ : Za (Below w.heap.size w (((w32.setCell ⟨gb449, 0, none⟩ (.int .u32 ((Zi l0_0 (ji12)).f0))).setCell ⟨gb449, 1, none⟩ (.int .u32 ((Zi l0_0 (ji12)).f1))).setCell ⟨gb449, 2, none⟩ (.slice A448_2 ((Zi l0_0 (ji12)).f2).length c448_2))) := ⟨by with_reducible repeat first | exact HB.out | apply Zc | apply Ze | apply Zd | refine Zk ?_ GE445.out | refine Zk ?_ GE447.out | refine Zk ?_ GE449.out⟩
          (try clear BK445)
          (try clear BK447)
          (try clear BK449)
          (try clear HB)
          generalize (((w32.setCell ⟨gb449, 0, none⟩ (.int .u32 ((Zi l0_0 (ji12)).f0))).setCell ⟨gb449, 1, none⟩ (.int .u32 ((Zi l0_0 (ji12)).f1))).setCell ⟨gb449, 2, none⟩ (.slice A448_2 ((Zi l0_0 (ji12)).f2).length c448_2)) = w36 at n0_ n1_ n2_ n3_ ⊢
          have BK445 := n0_
          have BK447 := n1_
          have BK449 := n2_
          have HB := n3_
          clear n0_ n1_ n2_ n3_
          replace BK445 := Za.mk (Zf BK445.out)
          replace BK447 := Za.mk (Zf BK447.out)
          replace BK449 := Za.mk (Zf BK449.out)
          replace HB := Za.mk (Zd HB.out)
          refine start_ (n := 13) (S := fun w' => w'.cell? ⟨gb449, 0, none⟩ = some (.int .u32 ((Zi l0_0 (ji12)).f0)) ∧ w'.cell? ⟨gb449, 1, none⟩ = some (.int .u32 ((Zi l0_0 (ji12)).f1)) ∧ w'.cell? ⟨gb449, 2, none⟩ = some (.slice A448_2 ((Zi l0_0 (ji12)).f2).length c448_2) ∧ w'.cell? ⟨gb447, 0, none⟩ = some (.int .u32 ((Zi l0_0 x10_1).f0)) ∧ w'.cell? ⟨gb447, 1, none⟩ = some (.int .u32 ((Zi l0_0 x10_1).f1)) ∧ w'.cell? ⟨gb447, 2, none⟩ = some (.slice A446_2 ((Zi l0_0 x10_1).f2).length c446_2)) (ds := []) #[false, false, false, false, false, false, false, false, false, false, false, false, false] (by kernel_rfl) rfl rfl ⟨(Zb BK449.out 0).trans rfl, (Zb BK449.out 1).trans rfl, (Zb BK449.out 2).trans rfl, (Zb BK447.out 0).trans rfl, (Zb BK447.out 1).trans rfl, (Zb BK447.out 2).trans rfl⟩ (fun hHeld => ?_); refine with_tabW Zaq.tab7 Zaq.bits7 (fun HT_ HW_ => ?_)
          generalize w36.drew = w37 at BK445 BK447 BK449 HB hHeld ⊢
          refine Zaf (i := 0) (N := some 23) (v := ?_) (a' := ?_) #[true, false, false, false, false, false, false, false, false, false, false, false, false] rfl rfl (Zag HT_.out (by kernel_rfl)) (fun _ _ _ h => h) (Or.inl ⟨by rfl, ?_⟩) ?_ ?_
          rotate_left
          ·intro w'
           go_simp
           with_reducible rfl
          rotate_left
          ·simp only [Act.put, ZD, ZE, ZF, Zu, Zv]
           rfl
          refine Zaf (i := 2) (N := some 25) (v := ?_) (a' := ?_) #[true, false, true, false, false, false, false, false, false, false, false, false, false] rfl rfl (Zag HT_.out (by kernel_rfl)) (fun _ _ _ h => h) (Or.inl ⟨by rfl, ?_⟩) ?_ ?_
          rotate_left
          ·intro w'
           go_simp
           with_reducible rfl
          rotate_left
          ·simp only [Act.put, ZD, ZE, ZF, Zu, Zv]
           rfl
          refine Zaf (i := 5) (N := some 28) (v := ?_) (a' := ?_) #[true, false, true, false, false, true, false, false, false, false, false, false, false] rfl rfl (Zag HT_.out (by kernel_rfl)) (fun _ _ _ h => h) (Or.inl ⟨by rfl, ?_⟩) ?_ ?_
          rotate_left
          ·intro w'
           go_simp
           with_reducible rfl
          rotate_left
          ·simp only [Act.put, ZD, ZE, ZF, Zu, Zv]
           rfl
          refine Zaf (i := 7) (N := some 30) (v := ?_) (a' := ?_) #[true, false, true, false, false, true, false, true, false, false, false, false, false] rfl rfl (Zag HT_.out (by kernel_rfl)) (fun _ _ _ h => h) (Or.inl ⟨by rfl, ?_⟩) ?_ ?_
          rotate_left
          ·intro w'
           go_simp
           with_reducible rfl
          rotate_left
          ·simp only [Act.put, ZD, ZE, ZF, Zu, Zv]
           rfl
          refine take_ (i := 1) (N := some 24) (v := ?_) (a' := ?_) #[true, true, true, false, false, true, false, true, false, false, false, false, false] rfl rfl (Zbt HT_.out HW_.out (by kernel_rfl)) (fun _ _ _ h => h) (Or.inl ⟨by rfl, ?_⟩) hHeld ?_ ?_
          rotate_left
          ·rintro w' ⟨s0, s1, s2, s3, s4, s5⟩
           go_simp
           with_reducible rfl
          rotate_left
          ·simp only [Act.put, ZD, ZE, ZF, Zu, Zv]
           rfl
          refine take_ (i := 3) (N := some 26) (v := ?_) (a' := ?_) #[true, true, true, true, false, true, false, true, false, false, false, false, false] rfl rfl (Zbt HT_.out HW_.out (by kernel_rfl)) (fun _ _ _ h => h) (Or.inl ⟨by rfl, ?_⟩) hHeld ?_ ?_
          rotate_left
          ·rintro w' ⟨s0, s1, s2, s3, s4, s5⟩
           go_simp
           with_reducible rfl
          rotate_left
          ·simp only [Act.put, ZD, ZE, ZF, Zu, Zv]
           rfl
          refine take_ (i := 6) (N := some 29) (v := ?_) (a' := ?_) #[true, true, true, true, false, true, true, true, false, false, false, false, false] rfl rfl (Zbt HT_.out HW_.out (by kernel_rfl)) (fun _ _ _ h => h) (Or.inl ⟨by rfl, ?_⟩) hHeld ?_ ?_
          rotate_left
          ·rintro w' ⟨s0, s1, s2, s3, s4, s5⟩
           go_simp
           with_reducible rfl
          rotate_left
          ·simp only [Act.put, ZD, ZE, ZF, Zu, Zv]
           rfl
          refine take_ (i := 8) (N := some 31) (v := ?_) (a' := ?_) #[true, true, true, true, false, true, true, true, true, false, false, false, false] rfl rfl (Zbt HT_.out HW_.out (by kernel_rfl)) (fun _ _ _ h => h) (Or.inl ⟨by rfl, ?_⟩) hHeld ?_ ?_
          rotate_left
          ·rintro w' ⟨s0, s1, s2, s3, s4, s5⟩
           go_simp
           with_reducible rfl
          rotate_left
          ·simp only [Act.put, ZD, ZE, ZF, Zu, Zv]
           rfl
          refine one_ (i := 4) (N := some 27) #[true, true, true, true, true, true, true, true, true, false, false, false, false] rfl rfl (one_of HT_.out (by kernel_rfl)) (by decide) (fun K hK => ?_)
          refine goes_ Try.func36 (by kernel_rfl) rfl #[.int .u32 ((Zi l0_0 (ji12)).f0), .int .u32 ((Zi l0_0 x10_1).f0)] (by rfl) rfl rfl (by (try simp only [List.map_toArray, List.map_cons, List.map_nil]); first | done | (simp only [hji12]; rfl) | rfl | (simp only [List.length_drop, List.length_take]; rfl)) ?_
          with_reducible refine (Zck.calls ((Zi l0_0 (ji12)).f0) ((Zi l0_0 x10_1).f0) t450 _ A15.out).mono ?_
          rintro e w' ⟨rfl, ⟨nd, rfl⟩⟩
          refine ⟨_, rfl, ?_⟩
          refine hK.out _ _ ⟨(Zb BK449.out 0).trans rfl, (Zb BK449.out 1).trans rfl, (Zb BK449.out 2).trans rfl, (Zb BK447.out 0).trans rfl, (Zb BK447.out 1).trans rfl, (Zb BK447.out 2).trans rfl⟩ (fun hHeld => ?_)
          clear hK K
          refine norm_ (a' := ?_) ?_ ?_
          rotate_left
          ·show Act.put _ (some 27) _ = _
           simp only [Act.put, ZD, ZE, ZF, Zu, Zv]
           rfl
          refine one_ (i := 9) (N := some 32) #[true, true, true, true, true, true, true, true, true, true, false, false, false] rfl rfl (one_of HT_.out (by kernel_rfl)) (by decide) (fun K hK => ?_)
          refine goes_ Try.func36 (by kernel_rfl) rfl #[.int .u32 ((Zi l0_0 (ji12)).f1), .int .u32 ((Zi l0_0 x10_1).f1)] (by rfl) rfl rfl (by (try simp only [List.map_toArray, List.map_cons, List.map_nil]); first | done | (simp only [hji12]; rfl) | rfl | (simp only [List.length_drop, List.length_take]; rfl)) ?_
          with_reducible refine (Zck.calls ((Zi l0_0 (ji12)).f1) ((Zi l0_0 x10_1).f1) t451 _ A16.out).mono ?_
          rintro e w' ⟨rfl, ⟨nd, rfl⟩⟩
          refine ⟨_, rfl, ?_⟩
          refine hK.out _ _ ⟨(Zb BK449.out 0).trans rfl, (Zb BK449.out 1).trans rfl, (Zb BK449.out 2).trans rfl, (Zb BK447.out 0).trans rfl, (Zb BK447.out 1).trans rfl, (Zb BK447.out 2).trans rfl⟩ (fun hHeld => ?_)
          clear hK K
          refine norm_ (a' := ?_) ?_ ?_
          rotate_left
          ·show Act.put _ (some 32) _ = _
           simp only [Act.put, ZD, ZE, ZF, Zu, Zv]
           rfl
          refine one_ (i := 10) (N := some 33) #[true, true, true, true, true, true, true, true, true, true, true, false, false] rfl rfl (one_of HT_.out (by kernel_rfl)) (by decide) (fun K hK => ?_)
          refine Kd.R_lit_step (Kd.int .i64) _ 3 ?hg (N := 33) ?hd (xs := ([t450, t451] : List Int)) (inner := [.int .i64 t450, .int .i64 t451]) (ok := fun _ => True) (okp := fun _ => True) ?hr ?hp (fun _ hk => hk) trivial (Below.refl _ _) (Nat.le_refl _) (by simp) ?_; (case hd => rfl); (case hg => rfl); (case hr => go_simp <;> rfl); (case hp => exact (Reps.one (show Kd.M (Kd.int .i64) _ _ _ t450 [.int .i64 t450] from rfl) (Reps.one (show Kd.M (Kd.int .i64) _ _ _ t451 [.int .i64 t451] from rfl) (Reps.none _ _))))
          intro v453 w38 ho39 hb hg_ hnew_
          clear hg_ hnew_
          (first | rw [← Ny452.out] at ho39 | (simp only [Int.reduceToNat] at ho39; rw [← Ny452.out] at ho39))
          have HO454 := Za.mk (Kd.Zbk ho39 (Zl (by with_reducible repeat first | exact HB.out | apply Zc | apply Ze | apply Zd | refine Zk ?_ GE445.out | refine Zk ?_ GE447.out | refine Zk ?_ GE449.out)))
          replace BK445 := Za.mk (Zp (g := gb445) (o := .cells #[.slice (some ad446) l0_0.length c0_0] 31 (0, 0)) (by (with_reducible repeat first | apply Zg | apply Zf | apply Zh); exact BK445.out) hb)
          replace BK447 := Za.mk (Zp (g := gb447) (o := .cells #[.int .u32 ((Zi l0_0 x10_1).f0), .int .u32 ((Zi l0_0 x10_1).f1), .slice A446_2 ((Zi l0_0 x10_1).f2).length c446_2] 61 (0, 0)) (by (with_reducible repeat first | apply Zg | apply Zf | apply Zh); exact BK447.out) hb)
          replace BK449 := Za.mk (Zp (g := gb449) (o := .cells #[.int .u32 ((Zi l0_0 (ji12)).f0), .int .u32 ((Zi l0_0 (ji12)).f1), .slice A448_2 ((Zi l0_0 (ji12)).f2).length c448_2] 61 (0, 0)) (by (with_reducible repeat first | apply Zg | apply Zf | apply Zh); exact BK449.out) hb)
          replace HB := Za.mk (Zo (by with_reducible repeat first | exact HB.out | apply Zc | apply Ze | apply Zd | refine Zk ?_ GE445.out | refine Zk ?_ GE447.out | refine Zk ?_ GE449.out) hb)
          clear hb ho39
          obtain ⟨Ao40, co40, eo40⟩ := Kd.Zay HO454.out
          (first | subst eo40 | (injection eo40 with f1_ f2_ f3_; have f4_ := f1_.symm; have f5_ := f3_.symm; clear f1_ f2_ f3_; subst f4_; subst f5_))
          refine hK.out _ _ ⟨(Zb BK449.out 0).trans rfl, (Zb BK449.out 1).trans rfl, (Zb BK449.out 2).trans rfl, (Zb BK447.out 0).trans rfl, (Zb BK447.out 1).trans rfl, (Zb BK447.out 2).trans rfl⟩ (fun hHeld => ?_)
          clear hK K
          refine norm_ (a' := ?_) ?_ ?_
          rotate_left
          ·show Act.put _ (some 33) _ = _
           simp only [Act.put, ZD, ZE, ZF, Zu, Zv]
           rfl
          refine one_ (i := 11) (N := some 34) #[true, true, true, true, true, true, true, true, true, true, true, true, false] rfl rfl (one_of HT_.out (by kernel_rfl)) (by decide) (fun K hK => ?_)
          refine goes_ Try.func35 (by kernel_rfl) rfl #[.slice Ao40 y452.length co40] (by rfl) rfl rfl (by (try simp only [ZA, ZB, ZC]); first | done | rfl) ?_
          with_reducible refine (Zca.calls k1 _ _ y452 t455 _ ?side1 ?side2 A17.out).mono ?_
          (case side1 => repeat (first | exact (Kd.Zat HO454.out).2.2 | (with_reducible refine Kd.Zau ?_ _) | (with_reducible refine Kd.Zaw ?_ _) | (with_reducible refine Kd.Zav ?_)))
          (case side2 => exact (Kd.Zat HO454.out).2.1)
          rintro e w' ⟨rfl, ⟨nd, rfl⟩⟩
          refine ⟨_, rfl, ?_⟩
          refine hK.out _ _ ⟨(Zb BK449.out 0).trans rfl, (Zb BK449.out 1).trans rfl, (Zb BK449.out 2).trans rfl, (Zb BK447.out 0).trans rfl, (Zb BK447.out 1).trans rfl, (Zb BK447.out 2).trans rfl⟩ (fun hHeld => ?_)
          clear hK K
          refine norm_ (a' := ?_) ?_ ?_
          rotate_left
          ·show Act.put _ (some 34) _ = _
           simp only [Act.put, ZD, ZE, ZF, Zu, Zv]
           rfl
          refine Zaf (i := 12) (N := some 35) (v := ?_) (a' := ?_) #[true, true, true, true, true, true, true, true, true, true, true, true, true] rfl rfl (Zag HT_.out (by kernel_rfl)) (fun _ _ _ h => h) (Or.inl ⟨by rfl, ?_⟩) ?_ ?_
          rotate_left
          ·intro w'
           go_simp
           with_reducible rfl
          rotate_left
          ·simp only [Act.put, ZD, ZE, ZF, Zu, Zv]
           rfl
          refine done_ (done_of HT_.out (by kernel_rfl)) ?_
          try go_wp2
          go_meet
          case rel => exact ⟨_, H', ⟨by have := HK1.out; first | omega | exact Nat.le_refl _⟩, ⟨by (with_reducible repeat first | apply Zg | apply Zf | apply Zh); exact BK445.out⟩, ⟨by (with_reducible repeat first | apply Zg | apply Zf | apply Zh); exact BK447.out⟩, ⟨by with_reducible repeat first | exact HB.out | apply Zc | apply Ze | apply Zd | refine Zk ?_ GE445.out | refine Zk ?_ GE447.out | refine Zk ?_ GE449.out⟩⟩
         rw [if_neg c14] at H
         exact absurd H (by simp)
        rw [if_neg c13] at H
        exact absurd H (by simp)
       rw [if_neg c11] at H
       have c11b0 : decide (0 < x10_1) = false := decide_eq_false c11
       clear c11
       (first | rw [c11b0] | (simp only [Zu, Zv]; rw [c11b0]) | skip)
       have H' := Za.mk H
       clear H
       go_wp2
       go_meet
       case rel => exact ⟨_, H', ⟨by have := HK1.out; first | omega | exact Nat.le_refl _⟩, ⟨by (with_reducible repeat first | apply Zg | apply Zf | apply Zh); refine Zt ?_ NB445_447.out _; (with_reducible repeat first | apply Zg | apply Zf | apply Zh); refine Zt ?_ NB445_447.out _; (with_reducible repeat first | apply Zg | apply Zf | apply Zh); refine Zt ?_ NB445_447.out _; (with_reducible repeat first | apply Zg | apply Zf | apply Zh); exact BK445.out⟩, ⟨by (with_reducible repeat first | apply Zg | apply Zf | apply Zh); refine Zw (cs := #[.int .u32 ((Zi l0_0 x10_1).f0), .int .u32 ((Zi l0_0 x10_1).f1), .slice none 0 0]) ?_ 2 _ rfl; (with_reducible repeat first | apply Zg | apply Zf | apply Zh); refine Zw (cs := #[.int .u32 ((Zi l0_0 x10_1).f0), .int .u32 0, .slice none 0 0]) ?_ 1 _ rfl; (with_reducible repeat first | apply Zg | apply Zf | apply Zh); refine Zw (cs := #[.int .u32 0, .int .u32 0, .slice none 0 0]) ?_ 0 _ rfl; (with_reducible repeat first | apply Zg | apply Zf | apply Zh); exact BK447.out⟩, ⟨by with_reducible repeat first | exact HB.out | apply Zc | apply Ze | apply Zd | refine Zk ?_ GE445.out | refine Zk ?_ GE447.out⟩⟩
      case rest =>
       clear HC7
       try clear c1
       try clear c2
       try clear p2
       try clear c3
       try clear c4
       try clear c4b0
       try clear p4
       try clear q4
       try clear hx4
       try clear c5
       try clear c5b0
       try clear c6
       try clear c6b0
       try clear p6
       try clear c9
       try clear c11
       try clear c11b0
       try clear c13
       try clear c13b0
       try clear c14
       try clear c14b0
       try clear c18
       try clear c18b0
       try clear c19
       try clear c22
       try clear c23
       try clear c30
       try clear c33
       try clear c34
       try clear c35
       try clear c36
       try clear hcz10_0
       try clear hcz10_1
       try clear hcz10_2
       try clear hcz20_0
       try clear hcz24_0
       try clear hcz24_1
       try clear hcz24_2
       try clear hcz31_0
       try clear hcz35_0
       try clear hcz35_1
       try clear hcz35_2
       try clear hcz3_0
       try clear hfz10_0
       try clear hfz10_1
       try clear hfz10_2
       try clear hfz20_0
       try clear hfz24_0
       try clear hfz24_1
       try clear hfz24_2
       try clear hfz31_0
       try clear hfz35_0
       try clear hfz35_1
       try clear hfz35_2
       try clear hfz3_0
       try clear hx446_0
       try clear hx446_1
       try clear hx446_2
       try clear hx448_0
       try clear hx448_1
       try clear hx448_2
       try clear p2
       try clear p446
       try clear p448
       try clear q446
       try clear q448
       obtain ⟨kq, HA, HJ6, BK445, BK447, HB⟩ := hcut
       cases kq with
       | zero => exact absurd HA.out (by simp [Zaq.j1])
       | succ kj6 =>
        have H := HA.out
        clear HA
        simp only [Zaq.j1] at H
        have HC41 := Za.mk H
        clear H
        have hnb42 := NB447_445.out
        have hnc42 := NB445_447.out
        have hcz43_0 : wc.cell? ⟨gb447, 0, none⟩ = some (.int .u32 ((Zi l0_0 x10_1).f0)) := (Zb BK447.out 0).trans rfl
        have hcz43_1 : wc.cell? ⟨gb447, 1, none⟩ = some (.int .u32 ((Zi l0_0 x10_1).f1)) := (Zb BK447.out 1).trans rfl
        have hcz43_2 : wc.cell? ⟨gb447, 2, none⟩ = some (.slice A446_2 ((Zi l0_0 x10_1).f2).length c446_2) := (Zb BK447.out 2).trans rfl
        have hfz43_0 := Zj BK447.out 0
        have hfz43_1 := Zj BK447.out 1
        have hfz43_2 := Zj BK447.out 2
        go_upto_region 10 with (fail)
        go_cut [54] (fun v54 wc => ∃ (kq : Nat) (x54_40 : Bool), v54 = .bool x54_40 ∧ Za (Zaq.j2 kq (wrap64 (x3_1 + (((Zi l0_0 x10_1).f2).length : Int))) l0_0 (l0_0.length : Int) x10_1 x54_40 l0_0 ((Zi l0_0 x10_1).f0) ((Zi l0_0 x10_1).f1) ((Zi l0_0 x10_1).f2) = some r) ∧ Za (kq ≤ kj6) ∧ Za (wc.heap[gb445]? = some (.cells #[(.slice (some ad446) l0_0.length c0_0)] 31 (0, 0))) ∧ Za (wc.heap[gb447]? = some (.cells #[.int .u32 ((Zi l0_0 x10_1).f0), .int .u32 ((Zi l0_0 x10_1).f1), (.slice A446_2 ((Zi l0_0 x10_1).f2).length c446_2)] 61 (0, 0))) ∧ Za (Below w.heap.size w wc))
        case first =>
         have H := HC41.out
         clear HC41
         by_cases c44 : (((Zi l0_0 x10_1).f2).length : Int) < 1
         ·rw [if_pos c44] at H
          have c44b0 : decide ((((Zi l0_0 x10_1).f2).length : Int) < 1) = true := decide_eq_true c44
          have c44b1 : decide (((Zi l0_0 x10_1).f2).length < 1) = true := decide_eq_true (by omega)
          clear c44
          (first | rw [c44b0] | (simp only [Zu, Zv]; rw [c44b0]) | skip)
          have H' := Za.mk H
          clear H
          have hnb45 := NB447_445.out
          have hnc45 := NB445_447.out
          have hcz46_0 : wc.cell? ⟨gb447, 0, none⟩ = some (.int .u32 ((Zi l0_0 x10_1).f0)) := (Zb BK447.out 0).trans rfl
          have hcz46_1 : wc.cell? ⟨gb447, 1, none⟩ = some (.int .u32 ((Zi l0_0 x10_1).f1)) := (Zb BK447.out 1).trans rfl
          have hcz46_2 : wc.cell? ⟨gb447, 2, none⟩ = some (.slice A446_2 ((Zi l0_0 x10_1).f2).length c446_2) := (Zb BK447.out 2).trans rfl
          have hfz46_0 := Zj BK447.out 0
          have hfz46_1 := Zj BK447.out 1
          have hfz46_2 := Zj BK447.out 2
          go_wp2
          go_meet
          case rel => exact ⟨_, (true), (by first | rfl | (simp; done) | (simp [*]; done)), H', ⟨by have := HK1.out; have := HJ6.out; first | omega | exact Nat.le_refl _⟩, ⟨by (with_reducible repeat first | apply Zg | apply Zf | apply Zh); exact BK445.out⟩, ⟨by (with_reducible repeat first | apply Zg | apply Zf | apply Zh); exact BK447.out⟩, ⟨by with_reducible repeat first | exact HB.out | apply Zc | apply Ze | apply Zd | refine Zk ?_ GE445.out | refine Zk ?_ GE447.out⟩⟩
         rw [if_neg c44] at H
         have c44b0 : decide ((((Zi l0_0 x10_1).f2).length : Int) < 1) = false := decide_eq_false c44
         have c44b1 : decide (((Zi l0_0 x10_1).f2).length < 1) = false := decide_eq_false (by omega)
         clear c44
         (first | rw [c44b0] | (simp only [Zu, Zv]; rw [c44b0]) | skip)
         by_cases c47 : (((Zi l0_0 x10_1).f2).length : Int) > 200
         ·rw [if_pos c47] at H
          have c47b0 : decide (200 < (((Zi l0_0 x10_1).f2).length : Int)) = true := decide_eq_true c47
          have c47b1 : decide (200 < ((Zi l0_0 x10_1).f2).length) = true := decide_eq_true (by omega)
          clear c47
          have H' := Za.mk H
          clear H
          have hnb48 := NB447_445.out
          have hnc48 := NB445_447.out
          have hcz49_0 : wc.cell? ⟨gb447, 0, none⟩ = some (.int .u32 ((Zi l0_0 x10_1).f0)) := (Zb BK447.out 0).trans rfl
          have hcz49_1 : wc.cell? ⟨gb447, 1, none⟩ = some (.int .u32 ((Zi l0_0 x10_1).f1)) := (Zb BK447.out 1).trans rfl
          have hcz49_2 : wc.cell? ⟨gb447, 2, none⟩ = some (.slice A446_2 ((Zi l0_0 x10_1).f2).length c446_2) := (Zb BK447.out 2).trans rfl
          have hfz49_0 := Zj BK447.out 0
          have hfz49_1 := Zj BK447.out 1
          have hfz49_2 := Zj BK447.out 2
          go_wp2
          go_meet
          case rel => exact ⟨_, (true), (by first | rfl | (simp; done) | (simp [*]; done)), H', ⟨by have := HK1.out; have := HJ6.out; first | omega | exact Nat.le_refl _⟩, ⟨by (with_reducible repeat first | apply Zg | apply Zf | apply Zh); exact BK445.out⟩, ⟨by (with_reducible repeat first | apply Zg | apply Zf | apply Zh); exact BK447.out⟩, ⟨by with_reducible repeat first | exact HB.out | apply Zc | apply Ze | apply Zd | refine Zk ?_ GE445.out | refine Zk ?_ GE447.out⟩⟩
         rw [if_neg c47] at H
         have c47b0 : decide (200 < (((Zi l0_0 x10_1).f2).length : Int)) = false := decide_eq_false c47
         have c47b1 : decide (200 < ((Zi l0_0 x10_1).f2).length) = false := decide_eq_false (by omega)
         clear c47
         have H' := Za.mk H
         clear H
         have hnb50 := NB447_445.out
         have hnc50 := NB445_447.out
         have hcz51_0 : wc.cell? ⟨gb447, 0, none⟩ = some (.int .u32 ((Zi l0_0 x10_1).f0)) := (Zb BK447.out 0).trans rfl
         have hcz51_1 : wc.cell? ⟨gb447, 1, none⟩ = some (.int .u32 ((Zi l0_0 x10_1).f1)) := (Zb BK447.out 1).trans rfl
         have hcz51_2 : wc.cell? ⟨gb447, 2, none⟩ = some (.slice A446_2 ((Zi l0_0 x10_1).f2).length c446_2) := (Zb BK447.out 2).trans rfl
         have hfz51_0 := Zj BK447.out 0
         have hfz51_1 := Zj BK447.out 1
         have hfz51_2 := Zj BK447.out 2
         go_wp2
         go_meet
         case rel => exact ⟨_, (decide ((wrap64 (x3_1 + (((Zi l0_0 x10_1).f2).length : Int))) > 1000)), (by first | rfl | (simp; done) | (simp [*]; done)), H', ⟨by have := HK1.out; have := HJ6.out; first | omega | exact Nat.le_refl _⟩, ⟨by (with_reducible repeat first | apply Zg | apply Zf | apply Zh); exact BK445.out⟩, ⟨by (with_reducible repeat first | apply Zg | apply Zf | apply Zh); exact BK447.out⟩, ⟨by with_reducible repeat first | exact HB.out | apply Zc | apply Ze | apply Zd | refine Zk ?_ GE445.out | refine Zk ?_ GE447.out⟩⟩
        case rest =>
         clear HC41
         try clear c1
         try clear c2
         try clear p2
         try clear c3
         try clear c4
         try clear c4b0
         try clear p4
         try clear q4
         try clear hx4
         try clear c5
         try clear c5b0
         try clear c6
         try clear c6b0
         try clear p6
         try clear c9
         try clear c11
         try clear c11b0
         try clear c13
         try clear c13b0
         try clear c14
         try clear c14b0
         try clear c18
         try clear c18b0
         try clear c19
         try clear c22
         try clear c23
         try clear c30
         try clear c33
         try clear c34
         try clear c35
         try clear c36
         try clear c42
         try clear c44
         try clear c44b0
         try clear c44b1
         try clear p44
         try clear q44
         try clear hx44
         try clear c45
         try clear c47
         try clear c47b0
         try clear c47b1
         try clear c48
         try clear c50
         try clear hcz10_0
         try clear hcz10_1
         try clear hcz10_2
         try clear hcz20_0
         try clear hcz24_0
         try clear hcz24_1
         try clear hcz24_2
         try clear hcz31_0
         try clear hcz35_0
         try clear hcz35_1
         try clear hcz35_2
         try clear hcz3_0
         try clear hcz43_0
         try clear hcz43_1
         try clear hcz43_2
         try clear hcz46_0
         try clear hcz46_1
         try clear hcz46_2
         try clear hcz49_0
         try clear hcz49_1
         try clear hcz49_2
         try clear hcz51_0
         try clear hcz51_1
         try clear hcz51_2
         try clear hfz10_0
         try clear hfz10_1
         try clear hfz10_2
         try clear hfz20_0
         try clear hfz24_0
         try clear hfz24_1
         try clear hfz24_2
         try clear hfz31_0
         try clear hfz35_0
         try clear hfz35_1
         try clear hfz35_2
         try clear hfz3_0
         try clear hfz43_0
         try clear hfz43_1
         try clear hfz43_2
         try clear hfz46_0
         try clear hfz46_1
         try clear hfz46_2
         try clear hfz49_0
         try clear hfz49_1
         try clear hfz49_2
         try clear hfz51_0
         try clear hfz51_1
         try clear hfz51_2
         try clear hx446_0
         try clear hx446_1
         try clear hx446_2
         try clear hx448_0
         try clear hx448_1
         try clear hx448_2
         try clear p2
         try clear p4
         try clear p446
         try clear p448
         try clear p6
         try clear q4
         try clear q446
         try clear q448
         obtain ⟨kq, x54_40, rfl, HA, HJ40, BK445, BK447, HB⟩ := hcut
         cases kq with
         | zero => exact absurd HA.out (by simp [Zaq.j2])
         | succ kj40 =>
          have H := HA.out
          clear HA
          simp only [Zaq.j2] at H
          by_cases c52 : x54_40 = true
          ·subst c52
           have H1 : (some false) = some r := by rw [if_pos rfl] at H; exact H
           clear H
           have H := H1
           clear H1
           obtain rfl := Option.some.inj H
           go_wp2
           go_ret
           exact ⟨by first | rfl | (simp [Zm, Zn] <;> rfl) | (simp [*, Zm, Zn] <;> rfl), by with_reducible repeat first | exact HB.out | apply Zc | apply Ze | apply Zd | refine Zk ?_ GE445.out | refine Zk ?_ GE447.out⟩
          replace c52 := Bool.eq_false_iff.mpr c52
          subst c52
          have H1 : ((Zcn.f ((Zi l0_0 x10_1).f2)).bind fun t456 => (if t456 = true then (some false) else (Zaq.l0 kj40 (wrap64 (x3_1 + (((Zi l0_0 x10_1).f2).length : Int))) l0_0 (l0_0.length : Int) (wrap64 (x10_1 + 1)) l0_0))) = some r := by rw [if_neg (show ¬ (false = true) by decide)] at H; exact H
          clear H
          have H := H1
          clear H1
          replace H := Option.bind_eq_some_iff.mp H
          obtain ⟨t456, A530, H⟩ := H
          replace H : (if t456 = true then (some false) else (Zaq.l0 kj40 (wrap64 (x3_1 + (((Zi l0_0 x10_1).f2).length : Int))) l0_0 (l0_0.length : Int) (wrap64 (x10_1 + 1)) l0_0)) = some r := H
          have A53 := Za.mk A530
          clear A530
          by_cases c54 : t456 = true
          ·subst c54
           have H1 : (some false) = some r := by rw [if_pos rfl] at H; exact H
           clear H
           have H := H1
           clear H1
           obtain rfl := Option.some.inj H
           have hnb55 := NB447_445.out
           have hnc55 := NB445_447.out
           have hcz56_0 : wc.cell? ⟨gb447, 0, none⟩ = some (.int .u32 ((Zi l0_0 x10_1).f0)) := (Zb BK447.out 0).trans rfl
           have hcz56_1 : wc.cell? ⟨gb447, 1, none⟩ = some (.int .u32 ((Zi l0_0 x10_1).f1)) := (Zb BK447.out 1).trans rfl
           have hcz56_2 : wc.cell? ⟨gb447, 2, none⟩ = some (.slice A446_2 ((Zi l0_0 x10_1).f2).length c446_2) := (Zb BK447.out 2).trans rfl
           have hfz56_0 := Zj BK447.out 0
           have hfz56_1 := Zj BK447.out 1
           have hfz56_2 := Zj BK447.out 2
           go_wp2_with (first | ((with_reducible refine Zaj (f := 37) rfl ?_); refine Zai (some 57) rfl rfl Try.func37 (by kernel_rfl) rfl #[.slice A446_2 ((Zi l0_0 x10_1).f2).length c446_2, .func (.func 38) #[] #[]] rfl (by (try simp only [ZA, ZB, ZC]); first | done | rfl) ?_; (with_reducible refine (Zcn.calls _ _ ((Zi l0_0 x10_1).f2) true _ ?side1 ?side2 A53.out).mono ?_); (case side1 => repeat (first | exact (Kd.Zan HR446_2.out HB.out) | (with_reducible refine Kd.Zau ?_ _) | (with_reducible refine Kd.Zaw ?_ _) | (with_reducible refine Kd.Zav ?_))); (case side2 => exact HC446_2.out); rintro e w57 ⟨rfl, hb⟩; refine ⟨_, rfl, ?_⟩; replace BK445 := Za.mk (Zp (g := gb445) (o := .cells #[.slice (some ad446) l0_0.length c0_0] 31 (0, 0)) (by (with_reducible repeat first | apply Zg | apply Zf | apply Zh); exact BK445.out) hb); replace BK447 := Za.mk (Zp (g := gb447) (o := .cells #[.int .u32 ((Zi l0_0 x10_1).f0), .int .u32 ((Zi l0_0 x10_1).f1), .slice A446_2 ((Zi l0_0 x10_1).f2).length c446_2] 61 (0, 0)) (by (with_reducible repeat first | apply Zg | apply Zf | apply Zh); exact BK447.out) hb); replace HB := Za.mk (Zo (by with_reducible repeat first | exact HB.out | apply Zc | apply Ze | apply Zd | refine Zk ?_ GE445.out | refine Zk ?_ GE447.out) hb); (try clear hb); (try clear hb2); (try clear hk); (try clear hi)))
           go_ret
           exact ⟨by first | rfl | (simp [Zm, Zn] <;> rfl) | (simp [*, Zm, Zn] <;> rfl), by with_reducible repeat first | exact HB.out | apply Zc | apply Ze | apply Zd | refine Zk ?_ GE445.out | refine Zk ?_ GE447.out⟩
          replace c54 := Bool.eq_false_iff.mpr c54
          subst c54
          have H1 : (Zaq.l0 kj40 (wrap64 (x3_1 + (((Zi l0_0 x10_1).f2).length : Int))) l0_0 (l0_0.length : Int) (wrap64 (x10_1 + 1)) l0_0) = some r := by rw [if_neg (show ¬ (false = true) by decide)] at H; exact H
          clear H
          have H := H1
          clear H1
          have H' := Za.mk H
          clear H
          have hnb58 := NB447_445.out
          have hnc58 := NB445_447.out
          have hcz59_0 : wc.cell? ⟨gb447, 0, none⟩ = some (.int .u32 ((Zi l0_0 x10_1).f0)) := (Zb BK447.out 0).trans rfl
          have hcz59_1 : wc.cell? ⟨gb447, 1, none⟩ = some (.int .u32 ((Zi l0_0 x10_1).f1)) := (Zb BK447.out 1).trans rfl
          have hcz59_2 : wc.cell? ⟨gb447, 2, none⟩ = some (.slice A446_2 ((Zi l0_0 x10_1).f2).length c446_2) := (Zb BK447.out 2).trans rfl
          have hfz59_0 := Zj BK447.out 0
          have hfz59_1 := Zj BK447.out 1
          have hfz59_2 := Zj BK447.out 2
          go_wp2_with (first | ((with_reducible refine Zaj (f := 37) rfl ?_); refine Zai (some 57) rfl rfl Try.func37 (by kernel_rfl) rfl #[.slice A446_2 ((Zi l0_0 x10_1).f2).length c446_2, .func (.func 38) #[] #[]] rfl (by (try simp only [ZA, ZB, ZC]); first | done | rfl) ?_; (with_reducible refine (Zcn.calls _ _ ((Zi l0_0 x10_1).f2) false _ ?side1 ?side2 A53.out).mono ?_); (case side1 => repeat (first | exact (Kd.Zan HR446_2.out HB.out) | (with_reducible refine Kd.Zau ?_ _) | (with_reducible refine Kd.Zaw ?_ _) | (with_reducible refine Kd.Zav ?_))); (case side2 => exact HC446_2.out); rintro e w60 ⟨rfl, hb⟩; refine ⟨_, rfl, ?_⟩; replace BK445 := Za.mk (Zp (g := gb445) (o := .cells #[.slice (some ad446) l0_0.length c0_0] 31 (0, 0)) (by (with_reducible repeat first | apply Zg | apply Zf | apply Zh); exact BK445.out) hb); replace BK447 := Za.mk (Zp (g := gb447) (o := .cells #[.int .u32 ((Zi l0_0 x10_1).f0), .int .u32 ((Zi l0_0 x10_1).f1), .slice A446_2 ((Zi l0_0 x10_1).f2).length c446_2] 61 (0, 0)) (by (with_reducible repeat first | apply Zg | apply Zf | apply Zh); exact BK447.out) hb); replace HB := Za.mk (Zo (by with_reducible repeat first | exact HB.out | apply Zc | apply Ze | apply Zd | refine Zk ?_ GE445.out | refine Zk ?_ GE447.out) hb); (try clear hb); (try clear hb2); (try clear hk); (try clear hi)))
          go_roundg kj40
          case measure => have := HK1.out; have := HJ6.out; have := HJ40.out; omega
          case rel => exact ⟨((wrap64 (x3_1 + (((Zi l0_0 x10_1).f2).length : Int)))), (wrap64 (x10_1 + 1)), (by first | rfl | (simp; done) | (simp [*]; done)), (by first | rfl | (simp; done) | (simp [*]; done)), H', ⟨by have := HK1.out; have := HJ6.out; have := HJ40.out; omega⟩, ⟨by (with_reducible repeat first | apply Zg | apply Zf | apply Zh); exact BK445.out⟩, ⟨by with_reducible repeat first | exact HB.out | apply Zc | apply Ze | apply Zd | refine Zk ?_ GE445.out | refine Zk ?_ GE447.out⟩⟩
     rw [if_neg c6] at H
     exact absurd H (by simp)
    rw [if_neg c5] at H
    exact absurd H (by simp)
   rw [if_neg c4] at H
   have c4b0 : decide (x10_1 < (l0_0.length : Int)) = false := decide_eq_false c4
   clear c4
   obtain rfl := Option.some.inj H
   go_wp2
   go_ret
   exact ⟨by first | rfl | (simp [Zm, Zn] <;> rfl) | (simp [*, Zm, Zn] <;> rfl), by with_reducible repeat first | exact HB.out | apply Zc | apply Ze | apply Zd | refine Zk ?_ GE445.out⟩

end Go.Proofs.Ytgmbahldjiiajaa.P
