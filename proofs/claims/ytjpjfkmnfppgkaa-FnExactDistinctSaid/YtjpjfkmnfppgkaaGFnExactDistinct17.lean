import Derived.Test.YtjpjfkmnfppgkaaGFnExactDistinct6
import Derived.Test.YtjpjfkmnfppgkaaGFnExactDistinct16
import Derived.Test.YtjpjfkmnfppgkaaGFnExactDistinct13
import Derived.Test.YtjpjfkmnfppgkaaGFnExactDistinct15
namespace Go.Proofs.Ytjpjfkmnfppgkaa.P
open Go.RowKit Go.Proofs.YtjpjfkmnfppgkaaW.PrintWords Go.Proofs.YtjpjfkmnfppgkaaW.PrintLast Go.Proofs.YtjpjfkmnfppgkaaW.PrintMore
attribute [local go_sem] max2_int min2_int max_two min_two max_three min_three max_four min_four
set_option linter.unusedVariables false
set_option linter.unusedSimpArgs false

def Zbc.l0 : Nat → List (S35) → Int → Int → Option (Int)
  | 0, _, _, _ => none
  | k + 1, x0, x1, x5 => if x5 < (x0.length : Int) then (if 0 ≤ x5 then (if ((Zb x0 x5).f0) = ((x1) % 4294967296) then (if ((Zb x0 x5).f1) = ((wrap64 (x1 + 1)) % 4294967296) then ((Zbd.f k ((Zb x0 x5).f2) (wrap64 ((wrap64 (x1 + 1)) + 1))).bind fun t216 => (if t216 < 0 then (some (-1)) else (Zbc.l0 k x0 t216 (wrap64 (x5 + 1))))) else (some (-1))) else (some (-1))) else (none)) else (some x1)
def Zbc.f (k : Nat) (l0 : List (S35)) (a1 : Int) : Option (Int) := Zbc.l0 k l0 a1 0
set_option maxHeartbeats 8000000 in
set_option maxRecDepth 100000 in
theorem Zbc.calls (k : Nat) (A0 : Option Addr) (c0 : Nat) (l0 : List (S35)) (a1 : Int) (r : Int) (w : World) (hr0 : Kd.C k35 w A0 l0.length l0) (hc0 : l0.length ≤ c0) (h : Zbc.f k l0 a1 = some r) :
  Calls Try.prog 10 #[.slice A0 l0.length c0, .int .i64 a1] w fun e w' => e = .returned (.int .i64 r) ∧ Zt w w' := by
 have HR0 := Za.mk hr0
 have HC0 := Za.mk hc0
 clear hr0 hc0
 have H : (Zbc.l0 k l0 a1 0) = some r := h
 clear h
 have H' := Za.mk H
 clear H
 go_enter Try.func10, Try.ntmps10
 go_wp2
 go_loopg [1, 5] k (fun kq v1 v5 w' => ∃ (x1_1 : Int) (x5_1 : Int), v1 = .int .i64 x1_1 ∧ v5 = .int .i64 x5_1 ∧ Za (Zbc.l0 kq l0 x1_1 x5_1 = some r) ∧ Za (kq ≤ k) ∧ Zt w w')
 case atStart => exact ⟨(a1), (0), (by first | rfl | (simp; done) | (simp [*]; done)), (by first | rfl | (simp; done) | (simp [*]; done)), H', ⟨Nat.le_refl _⟩, by repeat (first | exact Zt.refl _ | apply Zt.step)⟩
 case round =>
  clear H'
  try clear c1
  try clear p2
  obtain ⟨x1_1, x5_1, rfl, rfl, HA, HK1, ⟨m1, rfl⟩⟩ := hrel
  cases gk with
  | zero => exact absurd HA.out (by simp [Zbc.l0])
  | succ k1 =>
   have H := HA.out
   clear HA
   simp only [Zbc.l0] at H
   by_cases c3 : x5_1 < (l0.length : Int)
   ·rw [if_pos c3] at H
    have c3b0 : decide (x5_1 < (l0.length : Int)) = true := decide_eq_true c3
    clear c3
    by_cases c4 : 0 ≤ x5_1
    ·rw [if_pos c4] at H
     have c4b0 : decide (0 ≤ x5_1) = true := decide_eq_true c4
     clear c4
     by_cases c5 : ((Zb l0 x5_1).f0) = ((x1_1) % 4294967296)
     ·rw [if_pos c5] at H
      have c5b0 : (((Zb l0 x5_1).f0) == ((x1_1) % 4294967296)) = true := beq_iff_eq.mpr c5
      have c5b1 : (((Zb l0 x5_1).f0) != ((x1_1) % 4294967296)) = false := bne_eq_false_iff_eq.mpr c5
      clear c5
      by_cases c6 : ((Zb l0 x5_1).f1) = ((wrap64 (x1_1 + 1)) % 4294967296)
      ·rw [if_pos c6] at H
       have c6b0 : (((Zb l0 x5_1).f1) == ((wrap64 (x1_1 + 1)) % 4294967296)) = true := beq_iff_eq.mpr c6
       have c6b1 : (((Zb l0 x5_1).f1) != ((wrap64 (x1_1 + 1)) % 4294967296)) = false := bne_eq_false_iff_eq.mpr c6
       clear c6
       replace H := Option.bind_eq_some_iff.mp H
       obtain ⟨t216, A70, H⟩ := H
       replace H : (if t216 < 0 then (some (-1)) else (Zbc.l0 k1 l0 t216 (wrap64 (x5_1 + 1)))) = some r := H
       have A7 := Za.mk A70
       clear A70
       by_cases c8 : t216 < 0
       ·rw [if_pos c8] at H
        have c8b0 : decide (t216 < 0) = true := decide_eq_true c8
        clear c8
        obtain rfl := Option.some.inj H
        have p213 : 0 ≤ (x5_1 : Int) := of_decide_eq_true (by assumption)
        have q213 : x5_1 < (l0.length : Int) := of_decide_eq_true (by assumption)
        obtain ⟨ad213, A213_2, c213_2, e213, hx213_0, hx213_1, hx213_2, hl213_2, hi213_2⟩ := at_T35 HR0.out x5_1 p213 q213
        cases e213
        have HR213_2 := Za.mk hi213_2
        have HC213_2 := Za.mk hl213_2
        clear hi213_2 hl213_2
        replace p213 := eq_true p213
        replace q213 := eq_true q213
        have p214 : 0 ≤ (x5_1 : Int) := of_decide_eq_true (by assumption)
        have q214 : x5_1 < (l0.length : Int) := of_decide_eq_true (by assumption)
        obtain ⟨ad214, A214_2, c214_2, e214, hx214_0, hx214_1, hx214_2, hl214_2, hi214_2⟩ := at_T35 HR0.out x5_1 p214 q214
        obtain rfl : ad213 = ad214 := (by injection e214)
        have HR214_2 := Za.mk hi214_2
        have HC214_2 := Za.mk hl214_2
        clear hi214_2 hl214_2
        replace p214 := eq_true p214
        replace q214 := eq_true q214
        have ea_ := Option.some.inj (hx213_2.symm.trans hx214_2)
        injection ea_ with ea_ en_ ec_
        subst ea_
        subst ec_
        clear en_
        have p215 : 0 ≤ (x5_1 : Int) := of_decide_eq_true (by assumption)
        have q215 : x5_1 < (l0.length : Int) := of_decide_eq_true (by assumption)
        obtain ⟨ad215, A215_2, c215_2, e215, hx215_0, hx215_1, hx215_2, hl215_2, hi215_2⟩ := at_T35 HR0.out x5_1 p215 q215
        obtain rfl : ad213 = ad215 := (by injection e215)
        have HR215_2 := Za.mk hi215_2
        have HC215_2 := Za.mk hl215_2
        clear hi215_2 hl215_2
        replace p215 := eq_true p215
        replace q215 := eq_true q215
        have ea_ := Option.some.inj (hx213_2.symm.trans hx215_2)
        injection ea_ with ea_ en_ ec_
        subst ea_
        subst ec_
        clear en_
        go_wp2_with (first | ((with_reducible refine Zai (f := 20) rfl ?_); refine goesL_ (some 38) rfl rfl Try.func20 (by kernel_rfl) rfl #[.slice A213_2 ((Zb l0 x5_1).f2).length c213_2, .int .i64 (wrap64 ((wrap64 (x1_1 + 1)) + 1))] rfl (by (try simp only [ZA, ZB, ZC]); first | done | rfl) ?_; (with_reducible refine (Zbd.calls k1 _ _ ((Zb l0 x5_1).f2) (wrap64 ((wrap64 (x1_1 + 1)) + 1)) t216 _ ?side1 ?side2 A7.out).mono ?_); (case side1 => repeat (first | exact HR215_2.out | (with_reducible refine Kd.Zac ?_ _) | (with_reducible refine Kd.Zaf ?_ _) | (with_reducible refine Kd.Zae ?_))); (case side2 => exact HC215_2.out); rintro e w' ⟨rfl, ⟨nd, rfl⟩⟩; refine ⟨_, rfl, ?_⟩))
        go_ret
        exact ⟨by first | rfl | (simp; done) | (simp [*]; done), by repeat (first | exact Zt.refl _ | apply Zt.step)⟩
       ·rw [if_neg c8] at H
        have c8b0 : decide (t216 < 0) = false := decide_eq_false c8
        clear c8
        have H' := Za.mk H
        clear H
        have p213 : 0 ≤ (x5_1 : Int) := of_decide_eq_true (by assumption)
        have q213 : x5_1 < (l0.length : Int) := of_decide_eq_true (by assumption)
        obtain ⟨ad213, A213_2, c213_2, e213, hx213_0, hx213_1, hx213_2, hl213_2, hi213_2⟩ := at_T35 HR0.out x5_1 p213 q213
        cases e213
        have HR213_2 := Za.mk hi213_2
        have HC213_2 := Za.mk hl213_2
        clear hi213_2 hl213_2
        replace p213 := eq_true p213
        replace q213 := eq_true q213
        have p214 : 0 ≤ (x5_1 : Int) := of_decide_eq_true (by assumption)
        have q214 : x5_1 < (l0.length : Int) := of_decide_eq_true (by assumption)
        obtain ⟨ad214, A214_2, c214_2, e214, hx214_0, hx214_1, hx214_2, hl214_2, hi214_2⟩ := at_T35 HR0.out x5_1 p214 q214
        obtain rfl : ad213 = ad214 := (by injection e214)
        have HR214_2 := Za.mk hi214_2
        have HC214_2 := Za.mk hl214_2
        clear hi214_2 hl214_2
        replace p214 := eq_true p214
        replace q214 := eq_true q214
        have ea_ := Option.some.inj (hx213_2.symm.trans hx214_2)
        injection ea_ with ea_ en_ ec_
        subst ea_
        subst ec_
        clear en_
        have p215 : 0 ≤ (x5_1 : Int) := of_decide_eq_true (by assumption)
        have q215 : x5_1 < (l0.length : Int) := of_decide_eq_true (by assumption)
        obtain ⟨ad215, A215_2, c215_2, e215, hx215_0, hx215_1, hx215_2, hl215_2, hi215_2⟩ := at_T35 HR0.out x5_1 p215 q215
        obtain rfl : ad213 = ad215 := (by injection e215)
        have HR215_2 := Za.mk hi215_2
        have HC215_2 := Za.mk hl215_2
        clear hi215_2 hl215_2
        replace p215 := eq_true p215
        replace q215 := eq_true q215
        have ea_ := Option.some.inj (hx213_2.symm.trans hx215_2)
        injection ea_ with ea_ en_ ec_
        subst ea_
        subst ec_
        clear en_
        go_wp2_with (first | ((with_reducible refine Zai (f := 20) rfl ?_); refine goesL_ (some 38) rfl rfl Try.func20 (by kernel_rfl) rfl #[.slice A213_2 ((Zb l0 x5_1).f2).length c213_2, .int .i64 (wrap64 ((wrap64 (x1_1 + 1)) + 1))] rfl (by (try simp only [ZA, ZB, ZC]); first | done | rfl) ?_; (with_reducible refine (Zbd.calls k1 _ _ ((Zb l0 x5_1).f2) (wrap64 ((wrap64 (x1_1 + 1)) + 1)) t216 _ ?side1 ?side2 A7.out).mono ?_); (case side1 => repeat (first | exact HR215_2.out | (with_reducible refine Kd.Zac ?_ _) | (with_reducible refine Kd.Zaf ?_ _) | (with_reducible refine Kd.Zae ?_))); (case side2 => exact HC215_2.out); rintro e w' ⟨rfl, ⟨nd, rfl⟩⟩; refine ⟨_, rfl, ?_⟩))
        go_roundg k1
        case measure => have := HK1.out; omega
        case rel => exact ⟨(t216), (wrap64 (x5_1 + 1)), (by first | rfl | (simp; done) | (simp [*]; done)), (by first | rfl | (simp; done) | (simp [*]; done)), H', ⟨by have := HK1.out; omega⟩, by repeat (first | exact Zt.refl _ | apply Zt.step)⟩
      ·rw [if_neg c6] at H
       have c6b0 : (((Zb l0 x5_1).f1) == ((wrap64 (x1_1 + 1)) % 4294967296)) = false := beq_eq_false_iff_ne.mpr c6
       have c6b1 : (((Zb l0 x5_1).f1) != ((wrap64 (x1_1 + 1)) % 4294967296)) = true := bne_iff_ne.mpr c6
       obtain rfl := Option.some.inj H
       have p213 : 0 ≤ (x5_1 : Int) := of_decide_eq_true (by assumption)
       have q213 : x5_1 < (l0.length : Int) := of_decide_eq_true (by assumption)
       obtain ⟨ad213, A213_2, c213_2, e213, hx213_0, hx213_1, hx213_2, hl213_2, hi213_2⟩ := at_T35 HR0.out x5_1 p213 q213
       cases e213
       have HR213_2 := Za.mk hi213_2
       have HC213_2 := Za.mk hl213_2
       clear hi213_2 hl213_2
       replace p213 := eq_true p213
       replace q213 := eq_true q213
       have p214 : 0 ≤ (x5_1 : Int) := of_decide_eq_true (by assumption)
       have q214 : x5_1 < (l0.length : Int) := of_decide_eq_true (by assumption)
       obtain ⟨ad214, A214_2, c214_2, e214, hx214_0, hx214_1, hx214_2, hl214_2, hi214_2⟩ := at_T35 HR0.out x5_1 p214 q214
       obtain rfl : ad213 = ad214 := (by injection e214)
       have HR214_2 := Za.mk hi214_2
       have HC214_2 := Za.mk hl214_2
       clear hi214_2 hl214_2
       replace p214 := eq_true p214
       replace q214 := eq_true q214
       have ea_ := Option.some.inj (hx213_2.symm.trans hx214_2)
       injection ea_ with ea_ en_ ec_
       subst ea_
       subst ec_
       clear en_
       go_wp2
       go_ret
       exact ⟨by first | rfl | (simp; done) | (simp [*]; done), by repeat (first | exact Zt.refl _ | apply Zt.step)⟩
     ·rw [if_neg c5] at H
      have c5b0 : (((Zb l0 x5_1).f0) == ((x1_1) % 4294967296)) = false := beq_eq_false_iff_ne.mpr c5
      have c5b1 : (((Zb l0 x5_1).f0) != ((x1_1) % 4294967296)) = true := bne_iff_ne.mpr c5
      obtain rfl := Option.some.inj H
      have p213 : 0 ≤ (x5_1 : Int) := of_decide_eq_true (by assumption)
      have q213 : x5_1 < (l0.length : Int) := of_decide_eq_true (by assumption)
      obtain ⟨ad213, A213_2, c213_2, e213, hx213_0, hx213_1, hx213_2, hl213_2, hi213_2⟩ := at_T35 HR0.out x5_1 p213 q213
      cases e213
      have HR213_2 := Za.mk hi213_2
      have HC213_2 := Za.mk hl213_2
      clear hi213_2 hl213_2
      replace p213 := eq_true p213
      replace q213 := eq_true q213
      go_wp2
      go_ret
      exact ⟨by first | rfl | (simp; done) | (simp [*]; done), by repeat (first | exact Zt.refl _ | apply Zt.step)⟩
    ·rw [if_neg c4] at H
     exact absurd H (by simp)
   ·rw [if_neg c3] at H
    have c3b0 : decide (x5_1 < (l0.length : Int)) = false := decide_eq_false c3
    clear c3
    obtain rfl := Option.some.inj H
    go_wp2
    go_ret
    exact ⟨by first | rfl | (simp; done) | (simp [*]; done), by repeat (first | exact Zt.refl _ | apply Zt.step)⟩
theorem marks64_get (n : Nat) (k0 : Int) (i : Nat) (h : i < n) : rd (marks64 n k0) (i : Int) = IntKind.u64.wrap (k0 + (i : Int)) := by
  rw [rd_eq _ i (by rw [marks64_length]; exact h)]
  simp [marks64]
theorem heldUint64S_ev (n : Nat) (k0 : Int) (h0 : 0 ≤ k0) (h1 : k0 ≤ 1000000000000) (hl : n ≤ 35184372088832) : Ev (fun k => Zbd.f k (marks64 n k0) k0) (k0 + (n : Int)) := by
  have key := ev_loop (fun k s i => Zbd.l0 k (marks64 n k0) s i) n (fun i => k0 + (i : Int)) k0 (k0 + (n : Int)) (by simp) rfl (fun i hi r hr => by
    refine ev_step _ (fun k => ?_) hr
    simp only [Zbd.l0]
    rw [marks64_length, if_pos (by omega), if_pos (by omega), marks64_get n k0 i hi, if_pos rfl, Zao (by omega) (by omega), Zao (by omega) (by omega), show k0 + (i : Int) + 1 = k0 + ((i + 1 : Nat) : Int) by omega]
    rfl) (k0 + (n : Int))
  refine Ev.congr (fun k => rfl) (key (ev_end fun k => ?_))
  simp only [Zbd.l0]
  rw [marks64_length, if_neg (by omega)]
def markL : Int → List S35 → List S35
  | _, [] => []
  | k0, c :: r => (⟨k0 % 4294967296, (k0 + 1) % 4294967296, marks64 c.f2.length (k0 + 2)⟩ : S35) :: markL (k0 + 2 + (c.f2.length : Int)) r
def endL : Int → List S35 → Int
  | k0, [] => k0
  | k0, c :: r => endL (k0 + 2 + (c.f2.length : Int)) r
theorem endL_is : ∀ (l : List S35) (k0 : Int), endL k0 l = k0 + 2 * (l.length : Int) + (costI l : Int)
  | [], k0 => by simp [endL, costI]
  | c :: r, k0 => by
    have := endL_is r (k0 + 2 + (c.f2.length : Int))
    rw [endL, this, costI, List.length_cons]
    omega
theorem rdCall_at (a : List S35) (c : S35) (r : List S35) : Zb (a ++ c :: r) (a.length : Int) = c := by
  rw [rdCallI_eq _ a.length (by simp)]
  simp
theorem markCallS_key : ∀ (rem done : List S35) (x1 : Int), 0 ≤ x1 → x1 + 2 * (rem.length : Int) + (costI rem : Int) ≤ 100000000 → done.length + rem.length ≤ 1048576 → Ev (fun k => Zas.l0 k (done ++ rem) x1 (done.length : Int)) (endL x1 rem, done ++ markL x1 rem)
  | [], done, x1, h0, h1, hl => by
    refine ev_end fun k => ?_
    simp only [Zas.l0, List.append_nil]
    rw [if_neg (by omega)]
    simp only [endL, markL, List.append_nil]
  | c :: r, done, x1, h0, h1, hl => by
    rw [List.length_cons] at h1 hl
    rw [costI] at h1
    have hw1 : wrap64 (x1 + 1) = x1 + 1 := Zao (by omega) (by omega)
    have hw2 : wrap64 (x1 + 1 + 1) = x1 + 2 := by rw [Zao (by omega) (by omega)]; omega
    have hwi : wrap64 ((done.length : Int) + 1) = ((done.length + 1 : Nat) : Int) := by rw [Zao (by omega) (by omega)]; omega
    have hlen : (done ++ c :: r).length = done.length + (r.length + 1) := by rw [List.length_append, List.length_cons]
    have hm := markUint64S_ev c.f2 (x1 + 2) (by omega) (by omega) (by omega)
    have ih := markCallS_key r (done ++ [(⟨x1 % 4294967296, (x1 + 1) % 4294967296, marks64 c.f2.length (x1 + 2)⟩ : S35)]) (x1 + 2 + (c.f2.length : Int)) (by omega) (by omega) (by rw [List.length_append, List.length_singleton]; omega)
    rw [List.length_append, List.length_singleton, List.append_assoc, List.append_assoc] at ih
    rw [endL, markL]
    refine ev_step (fun k => (Zbb.f k c.f2 (x1 + 2)).bind fun bt => Zas.l0 k ((done ++ c :: r).set done.length (⟨x1 % 4294967296, (x1 + 1) % 4294967296, bt.2⟩ : S35)) bt.1 ((done.length + 1 : Nat) : Int)) (fun k => ?_) (Ev.bind hm ?_)
    · simp only [Zas.l0]
      rw [hlen, if_pos (by omega), if_pos (by omega), rdCall_at, hw1, hw2, hwi, Int.toNat_natCast]
    · dsimp only
      rw [List.set_append_right done.length _ (Nat.le_refl _), Nat.sub_self, List.set_cons_zero]
      exact ih
theorem markCallS_ev (cs : List S35) (hl : cs.length ≤ 1048576) (hc : costI cs ≤ 1048576) : Ev (fun k => Zas.f k cs 1) (endL 1 cs, markL 1 cs) := by
  have h := markCallS_key cs [] 1 (by decide) (by omega) (by rw [List.length_nil]; omega)
  exact h
theorem heldCallS_key : ∀ (rem done : List S35) (x1 : Int), 0 ≤ x1 → x1 + 2 * (rem.length : Int) + (costI rem : Int) ≤ 100000000 → done.length + rem.length ≤ 1048576 → Ev (fun k => Zbc.l0 k (done ++ markL x1 rem) x1 (done.length : Int)) (endL x1 rem)
  | [], done, x1, h0, h1, hl => by
    refine ev_end fun k => ?_
    simp only [Zbc.l0, markL, List.append_nil]
    rw [if_neg (by omega)]
    rfl
  | c :: r, done, x1, h0, h1, hl => by
    rw [List.length_cons] at h1 hl
    rw [costI] at h1
    have hw1 : wrap64 (x1 + 1) = x1 + 1 := Zao (by omega) (by omega)
    have hw2 : wrap64 (x1 + 1 + 1) = x1 + 2 := by rw [Zao (by omega) (by omega)]; omega
    have hwi : wrap64 ((done.length : Int) + 1) = ((done.length + 1 : Nat) : Int) := by rw [Zao (by omega) (by omega)]; omega
    have hm := heldUint64S_ev c.f2.length (x1 + 2) (by omega) (by omega) (by omega)
    have ih := heldCallS_key r (done ++ [(⟨x1 % 4294967296, (x1 + 1) % 4294967296, marks64 c.f2.length (x1 + 2)⟩ : S35)]) (x1 + 2 + (c.f2.length : Int)) (by omega) (by omega) (by rw [List.length_append, List.length_singleton]; omega)
    rw [List.length_append, List.length_singleton, List.append_assoc] at ih
    rw [endL, markL]
    refine ev_step (fun k => (Zbd.f k (marks64 c.f2.length (x1 + 2)) (x1 + 2)).bind fun t => if t < 0 then some (-1) else Zbc.l0 k (done ++ (⟨x1 % 4294967296, (x1 + 1) % 4294967296, marks64 c.f2.length (x1 + 2)⟩ : S35) :: markL (x1 + 2 + (c.f2.length : Int)) r) t ((done.length + 1 : Nat) : Int)) (fun k => ?_) (Ev.bind hm (Ev.congr (fun k => ?_) ih))
    · simp only [Zbc.l0]
      rw [if_pos (by rw [List.length_append, List.length_cons]; omega), if_pos (by omega), rdCall_at]
      dsimp only
      rw [hw1, hw2, hwi, if_pos rfl, if_pos rfl]
    · rw [if_neg (by omega)]
      rfl
theorem heldCallS_ev (cs : List S35) (hl : cs.length ≤ 1048576) (hc : costI cs ≤ 1048576) : Ev (fun k => Zbc.f k (markL 1 cs) 1) (endL 1 cs) := by
  have h := heldCallS_key cs [] 1 (by decide) (by omega) (by rw [List.length_nil]; omega)
  exact h
theorem blk_cell0 {w : World} {g : Nat} {cs : Array Value} {t : TypeId} {fr : Nat × Nat} (h : w.heap[g]? = some (.cells cs t fr)) (j : Nat) : w.cell? ⟨g, j, none⟩ = cs[j]? := by
  unfold World.cell?
  rw [h]
  rfl
theorem once_eq {w1 w2 : World} {l : List (S35)} {rows : List (List Value)} {cf : Nat → Nat → Int} {g n b : Nat} (hb : Below w1.heap.size w1 w2) (hK : RowsOf w1 l rows)
    (hcf : ∀ i j, ∃ k, Zau.f k (Zs l i).f0 (Zs l i).f1 (Zs l i).f2 (Zs l j).f0 (Zs l j).f1 (Zs l j).f2 = some (cf i j)) (gb : w1.heap.size ≤ g) (hlt : b < w1.heap.size) (hbox : w1.cell? ⟨b, 0, none⟩ = some (.func (.func 16) #[] #[])) :
    ∀ W (dk : Array Nat), dk.size = n → SWK (rowAt rows) 3 w2 g 0 dk W → ∀ x y, Calls Try.prog 26 #[.agg (rowAt rows x).toArray, .agg (rowAt rows y).toArray, .pointer (some ⟨b, 0, none⟩)] W fun e w' => e = .returned (.bool (decide (cf x y = 0))) ∧ ∃ q os, w' = Go.Sort.grow (W.drewN q) os := by
  rintro W dk _ ⟨m, os, rfl⟩ x y
  have hW := sortWorld_below (rowAt rows) 3 hb g 0 m dk os gb
  obtain ⟨A1, c1, e1, h1, r1⟩ := callCells_below (hK x) hW
  obtain ⟨A2, c2, e2, h2, r2⟩ := callCells_below (hK y) hW
  obtain ⟨k, hk⟩ := hcf x y
  rw [e1, e2]
  exact eqCall.grew k (Zs l x) (Zs l y) A1 c1 A2 c2 (cf x y) b 0 _ r1 h1 r2 h2 ((hW.cell (p := ⟨b, 0, none⟩) hlt).trans hbox) hk
set_option maxHeartbeats 8000000 in
set_option maxRecDepth 100000 in
theorem once.does (A : Option Addr) (c : Nat) (l : List (S35)) (w : World) (hr : Kd.C k35 w A l.length l) (hc : l.length ≤ c) (hn : l.length ≤ 4398046511104) {cf : Nat → Nat → Int}
    (hcf : ∀ i j, ∃ k, Zau.f k (Zs l i).f0 (Zs l i).f1 (Zs l i).f2 (Zs l j).f0 (Zs l j).f1 (Zs l j).f2 = some (cf i j)) (hO : Go.Sort.SWO (ltOf cf)) :
    Calls Try.prog 15 #[.slice A l.length c, .func (.func 16) #[] #[]] w fun e w' => ∃ (v : Value) (rows : List (List Value)) (p : Array Nat), e = .returned v ∧ p.size = l.length ∧ p.toList.Perm (List.range l.length) ∧ p.toList.Pairwise (fun i j => ltOf cf j i = false) ∧ (∃ w1, RowsOf w1 l rows ∧ Below w.heap.size w w1 ∧ Below w1.heap.size w1 w' ∧ (Kd.raw 3).R 35 w' w1.heap.size (fun _ => True) v ((keepN (fun x y => decide (cf x y = 0)) (fun m => p[m]!) l.length).map (rowAt rows))) := by
  obtain ⟨w1, hw1⟩ : ∃ w1, w.alloc (.cells #[.func (.func 16) #[] #[]] 37) = w1 := ⟨_, rfl⟩
  have hbox : w1.cell? ⟨w.heap.size, 0, none⟩ = some (.func (.func 16) #[] #[]) := by rw [← hw1]; exact blk_cell0 (blk_new w _) 0
  have hlt1 : w.heap.size < w1.heap.size := by rw [← hw1]; simp
  have hB1 : Below w.heap.size w w1 := by rw [← hw1]; exact Zd (Below.refl _ _) _
  have HCL := Za.mk (cloneCall.does A c l w1 (Kd.Zah hr hB1) hc hn)
  have HCF := Za.mk hcf
  have HO := Za.mk hO
  have HN := Za.mk hn
  have HBX := Za.mk hbox
  have HLT := Za.mk hlt1
  have HB1 := Za.mk hB1
  clear hr hc hn hcf hO
  rcases Nat.eq_zero_or_pos l.length with h0 | hpos
  · have H0 := Za.mk h0
    clear h0 hbox hlt1 hB1
    go_enter Try.func15, Try.ntmps15
    go_wp2_with (first | (go_at_call 23; refine HCL.out.mono ?_; clear HCL; rintro e w2 ⟨v, rows, rfl, hR, hrl, hK, hb⟩; obtain rfl : rows = [] := List.eq_nil_of_length_eq_zero (hrl.trans H0.out); obtain ⟨A2, c2, rfl⟩ := Kd.R_slice hR; have hbox2 : w2.cell? ⟨w.heap.size, 0, none⟩ = some (.func (.func 16) #[] #[]) := (hb.cell (p := ⟨w.heap.size, 0, none⟩) HLT.out).trans HBX.out; have HR := Za.mk hR; have HK := Za.mk hK; have HB := Za.mk hb; clear hR hrl hK hb) | (go_at_call 24; refine (AnyF.slices_SortFunc_none sortCall A2 c2 (.func (.func 16) #[] #[]) w2).mono ?_; rintro e w3 ⟨rfl, rfl⟩) | (go_at_call 25; refine (compactCall.nil A2 c2 _ _).mono ?_; rintro e w4 ⟨rfl, rfl⟩))
    go_ret
    have h0 := H0.out
    have hRW : RowsOf w1 l [] := rowsOf_mk h0.symm (fun j x cs hx => by rw [List.eq_nil_of_length_eq_zero h0] at hx; simp at hx)
    refine ⟨_, [], #[], rfl, h0.symm, by rw [h0]; exact List.Perm.refl _, List.Pairwise.nil, w1, hRW, HB1.out, HB.out, ?_⟩
    rw [h0]
    exact HR.out
  · have HP := Za.mk hpos
    clear hpos hbox hlt1 hB1
    go_enter Try.func15, Try.ntmps15
    go_wp2_with (first | (go_at_call 23; refine HCL.out.mono ?_; clear HCL; rintro e w2 ⟨v, rows, rfl, hR, hrl, hK, hb⟩; obtain ⟨g, cap, rfl, gb, glt, cells, hcells⟩ := Kd.R_form hR (by have := HP.out; omega); rw [hrl] at hR ⊢; have hbox2 : w2.cell? ⟨w.heap.size, 0, none⟩ = some (.func (.func 16) #[] #[]) := (hb.cell (p := ⟨w.heap.size, 0, none⟩) HLT.out).trans HBX.out; have HRW := Za.mk (rowsOf_mk hrl hK); have HR := Za.mk hR; have HB := Za.mk hb; have HRL := Za.mk hrl; have GB := Za.mk gb; have GL := Za.mk glt; clear hR hrl hK hb gb glt cells hcells) | (go_at_call 24; refine (sortCall.pos HB.out HR.out HRL.out HRW.out HCF.out HO.out (by have := HN.out; omega) GB.out GL.out).mono ?_; rintro e w3 ⟨rfl, d', m, os, hds, hperm, hpw, hw3⟩; have HB3 := Za.mk (show Below w1.heap.size w1 w3 from by rw [hw3]; exact sortWorld_below _ _ HB.out _ _ _ _ _ GB.out); have hbox3 : w3.cell? ⟨w.heap.size, 0, none⟩ = some (.func (.func 16) #[] #[]) := (HB3.out.cell (p := ⟨w.heap.size, 0, none⟩) HLT.out).trans HBX.out; have HS3 := Za.mk (show SWK (rowAt rows) 3 w2 g 0 d' w3 from ⟨m, os, hw3⟩); have HDS := Za.mk hds; have HPM := Za.mk hperm; have HPW := Za.mk hpw; clear hds hperm hpw hw3) | (go_at_call 25; refine (compactCall.does (w0 := w1) (wb := w2) (l := l) (d0 := Array.range l.length) HDS.out Array.size_range (Kd.R_reads' HR.out).2.1 (by have := HN.out; omega) HRW.out ⟨fun i => (callCells_len (HRW.out i)).1, fun i => (callCells_len (HRW.out i)).2, holds_rows HR.out HRL.out, GL.out⟩ HS3.out (once_eq HB.out HRW.out HCF.out GB.out HLT.out HBX.out)).mono ?_; rintro e w4 ⟨dk, W2, zs, rfl, hdk, htk, hS4, hw4⟩; have HDK := Za.mk hdk; have HTK := Za.mk htk; have HS4 := Za.mk hS4; have HW4 := Za.mk hw4; clear hdk htk hS4 hw4))
    go_ret
    have hw4 := HW4.out
    obtain ⟨m4, os4, hS4⟩ := HS4.out
    have htk := HTK.out
    obtain ⟨kl, hkl⟩ : ∃ kl, keepN (fun x y => decide (cf x y = 0)) (fun m => d'[m]!) l.length = kl := ⟨_, rfl⟩
    have hkn : kl.length ≤ l.length := by rw [← hkl]; exact keepN_le _ _ _
    rw [hkl] at hw4 htk
    have hrow : ∀ i, (rowAt rows i).length = 3 ∧ ∀ u ∈ rowAt rows i, u.oneCell' = true := fun i => callCells_len (HRW.out i)
    have hR2 := sorted_row (m := m4) (os := os4) HR.out HRL.out HDK.out hrow
    rw [← hS4] at hR2
    have hR3 := Kd.R_take (m := kl.length) hR2 (by rw [List.length_map]; have h1 := HDK.out; have h2 : dk.toList.length = dk.size := Array.length_toList; omega)
    rw [← List.map_take, htk] at hR3
    have hR4 := R_tail zs (kl.length * 3) W2 (Nat.le_refl _) hR3
    rw [← hw4] at hR4
    refine ⟨.slice (some ⟨g, 0, none⟩) kl.length cap, rows, d', by rw [← hkl]; rfl, HDS.out, HPM.out, HPW.out, w1, HRW.out, HB1.out, ?_, by rw [hkl]; exact hR4⟩
    rw [hw4, hS4]
    exact below_setCells GB.out zs _ _ (sortWorld_below _ _ HB.out _ _ _ _ _ GB.out)
theorem res_copy {t : Array Value} {W : World} {g : Nat} {a b : Int} {v : Value} (ht : t[2]? = some (.pointer (some ⟨g, 0, none⟩))) (h : W.heap[g]? = some (.cells #[.int .u32 a, .int .u32 b, v] 35 (0, 0))) :
    (results Try.f17 t).run Try.prog W = .ok (.agg #[.int .u32 a, .int .u32 b, v]) W := by
  have e0 : W.cell? ⟨g, 0, none⟩ = some (.int .u32 a) := Zc h 0
  have e1 : W.cell? ⟨g, 1, none⟩ = some (.int .u32 b) := Zc h 1
  have e2 : W.cell? ⟨g, 2, none⟩ = some v := Zc h 2
  clear h
  simp [results, Try.results17, go_sem, ht, e0, e1, e2]
set_option maxHeartbeats 4000000 in
theorem callCopy.does (A : Option Addr) (c : Nat) (x : S35) (w : World) (hr : Kd.C (Kd.int .u64) w A x.f2.length x.f2) (hc : x.f2.length ≤ c) (hl : x.f2.length ≤ 17592186044416) :
    Calls Try.prog 17 #[.agg #[.int .u32 x.f0, .int .u32 x.f1, .slice A x.f2.length c]] w fun e w' => ∃ v, e = .returned (.agg #[.int .u32 x.f0, .int .u32 x.f1, v]) ∧ (Kd.int .u64).R 42 w' w.heap.size (fun _ => True) v x.f2 ∧ Below w.heap.size w w' := by
  have HC := Za.mk (fun o1 o2 => cloneU64.does A c x.f2 ((w.alloc o1).alloc o2) (Kd.Zac (Kd.Zac hr o1) o2) hc hl)
  clear hr hc hl
  go_enter Try.func17, Try.ntmps17
  go_wp2_with (go_at_call 30; refine (HC.out _ _).mono ?_; clear HC; rintro e w2 ⟨v, rfl, hR, hb⟩; obtain ⟨A2, c2, rfl⟩ := Kd.R_slice hR; have b1 := Zak (g := w.heap.size) (o := .cells #[.int .u32 x.f0, .int .u32 x.f1, .slice A x.f2.length c] 35 (0, 0)) (Zn (blk_new w _) _) hb; have b2 := Zak (g := w.heap.size + 1) (o := .cells #[.int .u32 0, .int .u32 0, .slice none 0 0] 35 (0, 0)) (by have h_ := blk_new (w.alloc (.cells #[.int .u32 x.f0, .int .u32 x.f1, .slice A x.f2.length c] 35)) (.cells #[.int .u32 0, .int .u32 0, .slice none 0 0] 35); simpa using h_) hb; have c0_ := (Zc b1 0).trans rfl; have c1_ := (Zc b1 1).trans rfl; have c2_ := (Zc b1 2).trans rfl; have d0_ := (Zc b2 0).trans rfl; have d1_ := (Zc b2 1).trans rfl; have d2_ := (Zc b2 2).trans rfl; have f0_ := Zg b1 0; have f1_ := Zg b1 1; have f2_ := Zg b1 2; have g0_ := Zg b2 0; have g1_ := Zg b2 1; have g2_ := Zg b2 2; have HR := Za.mk (Kd.R_mono (ok' := fun k => w.heap.size + 2 ≤ k) (Kd.R_bound hR) (fun k hk => by have := hk.2.1; simpa using this)); have HB := Za.mk hb; have HB2 := Za.mk b2; clear hR hb b1 b2)
  refine bodyPost_ret (res_copy rfl (blk_put3 (blk_far HB2.out (by simp) _) (.int .u32 x.f0) (.int .u32 x.f1) (.slice A2 x.f2.length c2))) rfl ⟨_, rfl, ?_, ?_⟩
  · have n1 : ∀ k, w.heap.size + 2 ≤ k → k ≠ w.heap.size := fun k h => by omega
    have n2 : ∀ k, w.heap.size + 2 ≤ k → k ≠ w.heap.size + 1 := fun k h => by omega
    refine Kd.R_mono (Kd.R_lower (base' := w.heap.size) (Kd.R_far (p := ⟨w.heap.size + 1, 2, none⟩) (Kd.R_far (p := ⟨w.heap.size + 1, 1, none⟩) (Kd.R_far (p := ⟨w.heap.size + 1, 0, none⟩) (Kd.R_far (p := ⟨w.heap.size, 2, none⟩) HR.out n1 _) n2 _) n2 _) n2 _) (by simp; omega)) (fun _ _ => trivial)
  · have hb : Below w.heap.size w w2 := (Zd (Zd (Below.refl _ _) _) _).trans (HB.out.mono (by simp; omega))
    exact (((hb.setCell (p := ⟨w.heap.size, 2, none⟩) (Nat.le_refl _) _).setCell (p := ⟨w.heap.size + 1, 0, none⟩) (Nat.le_succ _) _).setCell (p := ⟨w.heap.size + 1, 1, none⟩) (Nat.le_succ _) _).setCell (p := ⟨w.heap.size + 1, 2, none⟩) (Nat.le_succ _) _
theorem S_of_raw {w : World} {base : Nat} {v : Value} {cur : List (List Value)} {xs : List (S35)} {s : Nat → Nat} (hR : (Kd.raw 3).R 35 w base (fun _ => True) v cur) (hl : cur.length = xs.length) (hg : ∀ g, v.ownBlock = some g → g < s 0) (hs : ∀ j, j < xs.length → s j ≤ s (j + 1))
    (hM : ∀ (j : Nat) (x : S35), xs[j]? = some x → ∃ u, cur[j]? = some [.int .u32 x.f0, .int .u32 x.f1, u] ∧ (Kd.int .u64).R 42 w base (fun k => s j ≤ k ∧ k < s (j + 1)) u x.f2) : Kd.S k35 35 w base (fun _ => True) v xs := by
  have hmono : ∀ b, b ≤ xs.length → ∀ a, a ≤ b → s a ≤ s b := by
    intro b
    induction b with
    | zero => intro _ a ha; rw [show a = 0 by omega]; exact Nat.le_refl _
    | succ b ih =>
      intro hb a ha
      rcases Nat.lt_or_ge a (b + 1) with h | h
      · exact Nat.le_trans (ih (by omega) a (by omega)) (hs b (by omega))
      · rw [show a = b + 1 by omega]; exact Nat.le_refl _
  obtain ⟨_, inner, ho, hr⟩ := hR
  obtain ⟨f, hf⟩ := Kd.reps_tag (d := k35) (w := w) (base := base) (xs := xs) (inner := inner) (ok := fun k => True ∧ some k ≠ v.ownBlock) (fun j k => j < xs.length ∧ s j ≤ k ∧ k < s (j + 1))
    (fun i j k h1 h2 => by
      rcases Nat.lt_trichotomy i j with h | h | h
      · have := hmono j (by omega) (i + 1) (by omega); omega
      · exact h
      · have := hmono i (by omega) (j + 1) (by omega); omega)
    (fun j k h => ⟨trivial, fun e => by have := hg k e.symm; have := hmono j (by omega) 0 (by omega); omega⟩)
    (by rw [hr.1, hl]; rfl)
    (fun j x hx => by
      obtain ⟨u, hu, hR2⟩ := hM j x hx
      have hj : j < xs.length := (List.getElem?_eq_some_iff.1 hx).1
      obtain ⟨he, _⟩ := hr.2 j _ hu
      have e : (inner.drop (j * k35.sz)).take k35.sz = [.int .u32 x.f0, .int .u32 x.f1, u] := he
      rw [e]
      exact k35_mkM w base _ x (Kd.R_mono hR2 (fun k h => ⟨hj, h⟩)))
  refine ⟨f, fun _ _ => trivial, inner, ?_, hf⟩
  rw [List.length_zipIdx, ← hl]
  exact ho
def DI (base g cap : Nat) (l : List (S35)) (rows : List (List Value)) (idx : List Nat) (i : Nat) (w' : World) : Prop :=
  ∃ (cur : List (List Value)) (s : Nat → Nat), (Kd.raw 3).R 35 w' base (fun _ => True) (.slice (some ⟨g, 0, none⟩) idx.length cap) cur ∧ cur.length = idx.length ∧ (∀ j, i ≤ j → j < idx.length → cur[j]? = some (rowAt rows (idx.getD j 0))) ∧
    (∀ j, j < i → ∃ u, cur[j]? = some [.int .u32 (Zs l (idx.getD j 0)).f0, .int .u32 (Zs l (idx.getD j 0)).f1, u] ∧ (Kd.int .u64).R 42 w' base (fun k => s j ≤ k ∧ k < s (j + 1)) u (Zs l (idx.getD j 0)).f2) ∧
    (∀ j, j < i → s j ≤ s (j + 1) ∧ g < s j) ∧ g < s 0 ∧ s i ≤ w'.heap.size
theorem DI.start {base g cap : Nat} {l : List (S35)} {rows : List (List Value)} {idx : List Nat} {w' : World} (hR : (Kd.raw 3).R 35 w' base (fun _ => True) (.slice (some ⟨g, 0, none⟩) idx.length cap) (idx.map (rowAt rows))) (hg : g < w'.heap.size) : DI base g cap l rows idx 0 w' :=
  ⟨idx.map (rowAt rows), fun _ => w'.heap.size, hR, List.length_map .., fun j _ hj => by rw [List.getElem?_map, List.getElem?_eq_getElem hj, List.getD_eq_getElem?_getD, List.getElem?_eq_getElem hj]; rfl, fun j hj => absurd hj (by omega), fun j hj => absurd hj (by omega), hg, Nat.le_refl _⟩
theorem DI.step {base g cap : Nat} {l : List (S35)} {rows : List (List Value)} {idx : List Nat} {i : Nat} {wr W w2 : World} {v : Value} (h : DI base g cap l rows idx i wr) (hi : i < idx.length) (hW : Below wr.heap.size wr W) (hb : Below W.heap.size W w2) (hbase : base ≤ wr.heap.size)
    (hR : (Kd.int .u64).R 42 w2 W.heap.size (fun _ => True) v (Zs l (idx.getD i 0)).f2) :
    DI base g cap l rows idx (i + 1) (w2.setCells g (i * 3) [.int .u32 (Zs l (idx.getD i 0)).f0, .int .u32 (Zs l (idx.getD i 0)).f1, v]) := by
  obtain ⟨cur, s, h1, h2, h3, h4, h5, h6, h7⟩ := h
  have hWs := hW.size
  have hbs := hb.size
  have hsm : ∀ j, j ≤ i → g < s j := fun j hj => by
    rcases Nat.lt_or_ge j i with h | h
    · exact (h5 j h).2
    · have e : j = i := by omega
      subst e
      rcases Nat.eq_zero_or_pos j with h0 | h0
      · subst h0; exact h6
      · have := h5 (j - 1) (by omega)
        rw [show j - 1 + 1 = j by omega] at this
        omega
  have hR2 := Kd.R_below (Kd.R_below h1 hW) hb
  have hone : v.oneCell' = true := by
    obtain ⟨A, c, rfl⟩ := Kd.R_slice hR
    rfl
  obtain ⟨c, hcl, hM, hcc, _⟩ := Kd.R_elem hR2 [] ((i : Nat) : Int) (by omega) (by omega)
  have hc3 : c.length = 3 := hcl
  obtain ⟨ca, cb, cd, rfl⟩ : ∃ a b d, c = [a, b, d] := by
    match c, hc3 with
    | [a, b, d], _ => exact ⟨a, b, d, rfl⟩
  have hseg := Kd.R_seg (okp := fun _ => False) hR2 ((i : Nat) : Int) (by omega) (by omega) (c := [ca, cb, cd]) (seg := [.int .u32 (Zs l (idx.getD i 0)).f0, .int .u32 (Zs l (idx.getD i 0)).f1, v]) (j := 0) (x' := [.int .u32 (Zs l (idx.getD i 0)).f0, .int .u32 (Zs l (idx.getD i 0)).f1, v]) hcl hcc (show (3 : Nat) ≤ 3 from by decide)
    (by
      refine ⟨rfl, rfl, fun u hu => ?_⟩
      replace hu : u ∈ [.int .u32 (Zs l (idx.getD i 0)).f0, .int .u32 (Zs l (idx.getD i 0)).f1, v] := hu
      simp only [List.mem_cons, List.not_mem_nil, or_false] at hu
      rcases hu with rfl | rfl | rfl
      · rfl
      · rfl
      · exact hone) (fun _ h => h.elim)
  obtain ⟨hs1, hs2⟩ := hseg
  rw [Int.toNat_natCast] at hs1 hs2
  have hoff : i * (Kd.raw 3).sz + 0 = i * 3 := rfl
  rw [hoff] at hs1 hs2
  have hfar : ∀ {ok : Nat → Prop} {u : Value} {zs : List Int}, (∀ k, ok k → k ≠ g) → (Kd.int .u64).R 42 w2 base ok u zs → (Kd.int .u64).R 42 (w2.setCells g (i * 3) [.int .u32 (Zs l (idx.getD i 0)).f0, .int .u32 (Zs l (idx.getD i 0)).f1, v]) base ok u zs := fun hok hr => Kd.R_far (p := ⟨g, _, none⟩) (Kd.R_far (p := ⟨g, _, none⟩) (Kd.R_far (p := ⟨g, _, none⟩) hr hok _) hok _) hok _
  have hsize : (w2.setCells g (i * 3) [.int .u32 (Zs l (idx.getD i 0)).f0, .int .u32 (Zs l (idx.getD i 0)).f1, v]).heap.size = w2.heap.size := by simp [World.setCells]
  obtain ⟨s', hs'⟩ : ∃ s' : Nat → Nat, s' = fun j => if j ≤ i then s j else w2.heap.size := ⟨_, rfl⟩
  have hlo : ∀ j, j ≤ i → s' j = s j := fun j h => by rw [hs']; exact if_pos h
  have hhi : ∀ j, i < j → s' j = w2.heap.size := fun j h => by rw [hs']; exact if_neg (by omega)
  refine ⟨cur.set i [.int .u32 (Zs l (idx.getD i 0)).f0, .int .u32 (Zs l (idx.getD i 0)).f1, v], s', hs1, by rw [List.length_set]; exact h2, fun j hj hjl => ?_, fun j hj => ?_, fun j hj => ?_, by rw [hlo 0 (Nat.zero_le _)]; exact h6, by rw [hhi (i + 1) (by omega), hsize]; exact Nat.le_refl _⟩
  · rw [List.getElem?_set_ne (by omega)]
    exact h3 j (by omega) hjl
  · rcases Nat.lt_or_ge j i with h | h
    · obtain ⟨u, hu, hr⟩ := h4 j h
      refine ⟨u, by rw [List.getElem?_set_ne (by omega)]; exact hu, ?_⟩
      refine Kd.R_mono (hfar (fun k hk => by have := hsm j (by omega); omega) (Kd.R_below (Kd.R_below hr hW) hb)) (fun k hk => ?_)
      rw [hlo j (by omega), hlo (j + 1) (by omega)]
      exact hk
    · have e : j = i := by omega
      subst e
      refine ⟨v, by rw [List.getElem?_set_self (by omega)], ?_⟩
      have hr : (Kd.int .u64).R 42 w2 base (fun k => s j ≤ k ∧ k < w2.heap.size) v (Zs l (idx.getD j 0)).f2 := Kd.R_lower (Kd.R_mono (Kd.R_bound hR) (fun k hk => ⟨by have := hk.2.1; omega, hk.2.2.1⟩)) (by omega)
      refine Kd.R_mono (hfar (fun k hk => by have := hsm j (Nat.le_refl _); omega) hr) (fun k hk => ?_)
      rw [hlo j (Nat.le_refl _), hhi (j + 1) (by omega)]
      exact hk
  · rcases Nat.lt_or_ge j i with h | h
    · rw [hlo j (by omega), hlo (j + 1) (by omega)]
      exact h5 j h
    · have e : j = i := by omega
      subst e
      rw [hlo j (Nat.le_refl _), hhi (j + 1) (by omega)]
      exact ⟨by omega, hsm j (Nat.le_refl _)⟩
theorem DI.done {base g cap : Nat} {l : List (S35)} {rows : List (List Value)} {idx : List Nat} {w' : World} (h : DI base g cap l rows idx idx.length w') : Kd.S k35 35 w' base (fun _ => True) (.slice (some ⟨g, 0, none⟩) idx.length cap) (idx.map (Zs l)) := by
  obtain ⟨cur, s, h1, h2, h3, h4, h5, h6, h7⟩ := h
  refine S_of_raw (s := s) h1 (by rw [List.length_map]; exact h2) (fun k hk => by simp [Value.ownBlock] at hk; omega) (fun j hj => (h5 j (by rw [List.length_map] at hj; exact hj)).1) (fun j x hx => ?_)
  obtain ⟨hj, he⟩ := List.getElem?_eq_some_iff.1 hx
  rw [List.length_map] at hj
  rw [List.getElem_map] at he
  obtain ⟨u, hu, hr⟩ := h4 j hj
  rw [List.getD_eq_getElem?_getD, List.getElem?_eq_getElem hj, Option.getD_some, he] at hu hr
  exact ⟨u, hu, hr⟩
theorem frozen_alloc {w : World} {g j : Nat} (h : g < w.heap.size) (o : Obj) : (w.alloc o).frozen? ⟨g, j, none⟩ = w.frozen? ⟨g, j, none⟩ := (Zd (Below.refl w.heap.size w) o).frozen (p := ⟨g, j, none⟩) h

end Go.Proofs.Ytjpjfkmnfppgkaa.P
