import Derived.Test.YtgmbahldjiiajaaGFnExactCompile5
import Derived.Test.YtgmbahldjiiajaaGFnExactCompile20
import Derived.Test.YtgmbahldjiiajaaGFnExactCompile4
import Derived.Test.YtgmbahldjiiajaaGFnExactCompile16
import Derived.Test.YtgmbahldjiiajaaGFnExactCompile6
namespace Go.Proofs.Ytgmbahldjiiajaa.P
open Go.RowKit Go.Proofs.YtgmbahldjiiajaaW.PrintWords Go.Proofs.YtgmbahldjiiajaaW.PrintLast Go.Proofs.YtgmbahldjiiajaaW.PrintMore
set_option linter.unusedVariables false
set_option linter.unusedSimpArgs false
def markI (k : Int) : S52 := ⟨IntKind.u16.wrap k, (k + 1) % 256, (k + 1 + 1) % 256, (k + 1 + 1 + 1) % 4294967296⟩
def marksI (n : Nat) (k0 : Int) : List S52 := (List.range n).map fun i : Nat => markI (k0 + 4 * (i : Int))
theorem marksI_length (n : Nat) (k0 : Int) : (marksI n k0).length = n := by simp [marksI]
theorem marksI_get (n : Nat) (k0 : Int) (i : Nat) (h : i < n) : Zq (marksI n k0) (i : Int) = markI (k0 + 4 * (i : Int)) := by
 rw [rdIns_eq _ i (by rw [marksI_length]; exact h)]
 simp [marksI]
theorem rdI_set (l : List S52) (i : Nat) (x : S52) (h : i < l.length) : Zq (l.set i x) (i : Int) = x := by
 rw [rdIns_eq _ i (by rw [List.length_set]; exact h), List.getElem_set_self]
theorem markInsS_ev (l : List S52) (k0 : Int) (h0 : 0 ≤ k0) (h1 : k0 ≤ 1000000) (hl : l.length ≤ 35184372088832) : Ev (fun k => Zcb.f k l k0) (k0 + 4 * (l.length : Int), marksI l.length k0) := by
 have key := ev_loop (fun k (s : Int × List S52) i => Zcb.l0 k s.2 s.1 i) l.length (fun i => (k0 + 4 * (i : Int), (marksI i k0) ++ l.drop i)) (k0, l) (k0 + 4 * (l.length : Int), marksI l.length k0) (by simp [marksI]) (by simp) (fun i hi r hr => by
  have hlen : ((marksI i k0) ++ l.drop i).length = l.length := by rw [List.length_append, marksI_length, List.length_drop]; omega
  refine Zbe _ (fun k => ?_) hr
  simp only [Zcb.l0, Option.bind_some]
  rw [hlen, if_pos (by omega), if_pos (by omega), Zae (i := k0 + 4 * (i : Int) + 1) (by omega) (by omega), Zae (i := k0 + 4 * (i : Int) + 1 + 1) (by omega) (by omega), Zae (i := k0 + 4 * (i : Int) + 1 + 1 + 1) (by omega) (by omega), Zae (i := k0 + 4 * (i : Int) + 1 + 1 + 1 + 1) (by omega) (by omega), Zae (i := (i : Int) + 1) (by omega) (by omega)]
  simp only [Int.toNat_natCast]
  have hlt : i < ((marksI i k0) ++ l.drop i).length := by omega
  rw [rdI_set _ i _ hlt, rdI_set _ i _ (by rw [List.length_set]; exact hlt), rdI_set _ i _ (by rw [List.length_set, List.length_set]; exact hlt), List.set_set, List.set_set, List.set_set]
  have e : ((marksI i k0) ++ l.drop i).set i (markI (k0 + 4 * (i : Int))) = marksI (i + 1) k0 ++ l.drop (i + 1) := by
   rw [List.set_append_right i _ (by rw [marksI_length]; omega), marksI_length, Nat.sub_self, List.drop_eq_getElem_cons hi, List.set_cons_zero]
   unfold marksI
   rw [List.range_succ, List.map_append, List.append_assoc]
   rfl
  unfold markI at e
  rw [e, show k0 + 4 * (i : Int) + 1 + 1 + 1 + 1 = k0 + 4 * ((i + 1 : Nat) : Int) by omega]
  rfl) (k0 + 4 * (l.length : Int), marksI l.length k0)
 refine Ev.congr (fun k => rfl) (key (ev_end fun k => ?_))
 simp only [Zcb.l0]
 rw [marksI_length, if_neg (by omega)]
end Go.Proofs.Ytgmbahldjiiajaa.P

namespace Go.Proofs.Ytgmbahldjiiajaa.P
open Go.RowKit Go.Proofs.YtgmbahldjiiajaaW.PrintWords Go.Proofs.YtgmbahldjiiajaaW.PrintLast Go.Proofs.YtgmbahldjiiajaaW.PrintMore
attribute [local go_sem] max2_int min2_int max_two min_two max_three min_three max_four min_four
set_option linter.unusedVariables false
set_option linter.unusedSimpArgs false

def Zch.l0 : Nat → List (S52) → Int → Int → Option (Int)
 | 0, _, _, _ => none
 | k + 1, x0, x1, x5 => if x5 < (x0.length : Int) then (if 0 ≤ x5 then (if ((Zq x0 x5).f0) = (IntKind.u16.wrap (x1)) then (if ((Zq x0 x5).f1) = ((wrap64 (x1 + 1)) % 256) then (if ((Zq x0 x5).f2) = ((wrap64 ((wrap64 (x1 + 1)) + 1)) % 256) then (if ((Zq x0 x5).f3) = ((wrap64 ((wrap64 ((wrap64 (x1 + 1)) + 1)) + 1)) % 4294967296) then (Zch.l0 k x0 (wrap64 ((wrap64 ((wrap64 ((wrap64 (x1 + 1)) + 1)) + 1)) + 1)) (wrap64 (x5 + 1))) else (some (-1))) else (some (-1))) else (some (-1))) else (some (-1))) else (none)) else (some x1)
def Zch.f (k : Nat) (l0 : List (S52)) (a1 : Int) : Option (Int) := Zch.l0 k l0 a1 0
set_option maxHeartbeats 8000000 in
set_option maxRecDepth 100000 in
theorem Zch.calls (k : Nat) (A0 : Option Addr) (c0 : Nat) (l0 : List (S52)) (a1 : Int) (r : Int) (w : World) (hr0 : Kd.C k52 w A0 l0.length l0) (hc0 : l0.length ≤ c0) (h : Zch.f k l0 a1 = some r) :
  Calls Try.prog 12 #[.slice A0 l0.length c0, .int .i64 a1] w fun e w' => e = .returned (.int .i64 r) ∧ Zr w w' := by
 have HR0 := Za.mk hr0
 have HC0 := Za.mk hc0
 clear hr0 hc0
 have H : (Zch.l0 k l0 a1 0) = some r := h
 clear h
 have H' := Za.mk H
 clear H
 go_enter Try.func12, Try.ntmps12
 go_wp2
 go_loopg [1, 5] k (fun kq v1 v5 w' => ∃ (x1_1 : Int) (x5_1 : Int), v1 = .int .i64 x1_1 ∧ v5 = .int .i64 x5_1 ∧ Za (Zch.l0 kq l0 x1_1 x5_1 = some r) ∧ Za (kq ≤ k) ∧ Zr w w')
 case atStart => exact ⟨(a1), (0), (by first | rfl | (simp; done) | (simp [*]; done)), (by first | rfl | (simp; done) | (simp [*]; done)), H', ⟨Nat.le_refl _⟩, by repeat (first | exact Zr.refl _ | apply Zr.step)⟩
 case round =>
  clear H'
  try clear c1
  try clear p2
  obtain ⟨x1_1, x5_1, rfl, rfl, HA, HK1, ⟨m1, rfl⟩⟩ := hrel
  cases gk with
  | zero => exact absurd HA.out (by simp [Zch.l0])
  | succ k1 =>
   have H := HA.out
   clear HA
   simp only [Zch.l0] at H
   by_cases c3 : x5_1 < (l0.length : Int)
   ·rw [if_pos c3] at H
    have c3b0 : decide (x5_1 < (l0.length : Int)) = true := decide_eq_true c3
    clear c3
    by_cases c4 : 0 ≤ x5_1
    ·rw [if_pos c4] at H
     have c4b0 : decide (0 ≤ x5_1) = true := decide_eq_true c4
     clear c4
     by_cases c5 : ((Zq l0 x5_1).f0) = (IntKind.u16.wrap (x1_1))
     ·rw [if_pos c5] at H
      have c5b0 : (((Zq l0 x5_1).f0) == (IntKind.u16.wrap (x1_1))) = true := beq_iff_eq.mpr c5
      have c5b1 : (((Zq l0 x5_1).f0) != (IntKind.u16.wrap (x1_1))) = false := bne_eq_false_iff_eq.mpr c5
      clear c5
      by_cases c6 : ((Zq l0 x5_1).f1) = ((wrap64 (x1_1 + 1)) % 256)
      ·rw [if_pos c6] at H
       have c6b0 : (((Zq l0 x5_1).f1) == ((wrap64 (x1_1 + 1)) % 256)) = true := beq_iff_eq.mpr c6
       have c6b1 : (((Zq l0 x5_1).f1) != ((wrap64 (x1_1 + 1)) % 256)) = false := bne_eq_false_iff_eq.mpr c6
       clear c6
       by_cases c7 : ((Zq l0 x5_1).f2) = ((wrap64 ((wrap64 (x1_1 + 1)) + 1)) % 256)
       ·rw [if_pos c7] at H
        have c7b0 : (((Zq l0 x5_1).f2) == ((wrap64 ((wrap64 (x1_1 + 1)) + 1)) % 256)) = true := beq_iff_eq.mpr c7
        have c7b1 : (((Zq l0 x5_1).f2) != ((wrap64 ((wrap64 (x1_1 + 1)) + 1)) % 256)) = false := bne_eq_false_iff_eq.mpr c7
        clear c7
        by_cases c8 : ((Zq l0 x5_1).f3) = ((wrap64 ((wrap64 ((wrap64 (x1_1 + 1)) + 1)) + 1)) % 4294967296)
        ·rw [if_pos c8] at H
         have c8b0 : (((Zq l0 x5_1).f3) == ((wrap64 ((wrap64 ((wrap64 (x1_1 + 1)) + 1)) + 1)) % 4294967296)) = true := beq_iff_eq.mpr c8
         have c8b1 : (((Zq l0 x5_1).f3) != ((wrap64 ((wrap64 ((wrap64 (x1_1 + 1)) + 1)) + 1)) % 4294967296)) = false := bne_eq_false_iff_eq.mpr c8
         clear c8
         have H' := Za.mk H
         clear H
         have p527 : 0 ≤ (x5_1 : Int) := of_decide_eq_true (by assumption)
         have q527 : x5_1 < (l0.length : Int) := of_decide_eq_true (by assumption)
         obtain ⟨ad527, e527, hx527_0, hx527_1, hx527_2, hx527_3⟩ := at_T52 HR0.out x5_1 p527 q527
         cases e527
         replace p527 := eq_true p527
         replace q527 := eq_true q527
         have p528 : 0 ≤ (x5_1 : Int) := of_decide_eq_true (by assumption)
         have q528 : x5_1 < (l0.length : Int) := of_decide_eq_true (by assumption)
         obtain ⟨ad528, e528, hx528_0, hx528_1, hx528_2, hx528_3⟩ := at_T52 HR0.out x5_1 p528 q528
         obtain rfl : ad527 = ad528 := (by injection e528)
         replace p528 := eq_true p528
         replace q528 := eq_true q528
         have p529 : 0 ≤ (x5_1 : Int) := of_decide_eq_true (by assumption)
         have q529 : x5_1 < (l0.length : Int) := of_decide_eq_true (by assumption)
         obtain ⟨ad529, e529, hx529_0, hx529_1, hx529_2, hx529_3⟩ := at_T52 HR0.out x5_1 p529 q529
         obtain rfl : ad527 = ad529 := (by injection e529)
         replace p529 := eq_true p529
         replace q529 := eq_true q529
         have p530 : 0 ≤ (x5_1 : Int) := of_decide_eq_true (by assumption)
         have q530 : x5_1 < (l0.length : Int) := of_decide_eq_true (by assumption)
         obtain ⟨ad530, e530, hx530_0, hx530_1, hx530_2, hx530_3⟩ := at_T52 HR0.out x5_1 p530 q530
         obtain rfl : ad527 = ad530 := (by injection e530)
         replace p530 := eq_true p530
         replace q530 := eq_true q530
         go_wp2
         go_roundg k1
         case measure => have := HK1.out; omega
         case rel => exact ⟨(wrap64 ((wrap64 ((wrap64 ((wrap64 (x1_1 + 1)) + 1)) + 1)) + 1)), (wrap64 (x5_1 + 1)), (by first | rfl | (simp; done) | (simp [*]; done)), (by first | rfl | (simp; done) | (simp [*]; done)), H', ⟨by have := HK1.out; omega⟩, by repeat (first | exact Zr.refl _ | apply Zr.step)⟩
        rw [if_neg c8] at H
        have c8b0 : (((Zq l0 x5_1).f3) == ((wrap64 ((wrap64 ((wrap64 (x1_1 + 1)) + 1)) + 1)) % 4294967296)) = false := beq_eq_false_iff_ne.mpr c8
        have c8b1 : (((Zq l0 x5_1).f3) != ((wrap64 ((wrap64 ((wrap64 (x1_1 + 1)) + 1)) + 1)) % 4294967296)) = true := bne_iff_ne.mpr c8
        obtain rfl := Option.some.inj H
        have p527 : 0 ≤ (x5_1 : Int) := of_decide_eq_true (by assumption)
        have q527 : x5_1 < (l0.length : Int) := of_decide_eq_true (by assumption)
        obtain ⟨ad527, e527, hx527_0, hx527_1, hx527_2, hx527_3⟩ := at_T52 HR0.out x5_1 p527 q527
        cases e527
        replace p527 := eq_true p527
        replace q527 := eq_true q527
        have p528 : 0 ≤ (x5_1 : Int) := of_decide_eq_true (by assumption)
        have q528 : x5_1 < (l0.length : Int) := of_decide_eq_true (by assumption)
        obtain ⟨ad528, e528, hx528_0, hx528_1, hx528_2, hx528_3⟩ := at_T52 HR0.out x5_1 p528 q528
        obtain rfl : ad527 = ad528 := (by injection e528)
        replace p528 := eq_true p528
        replace q528 := eq_true q528
        have p529 : 0 ≤ (x5_1 : Int) := of_decide_eq_true (by assumption)
        have q529 : x5_1 < (l0.length : Int) := of_decide_eq_true (by assumption)
        obtain ⟨ad529, e529, hx529_0, hx529_1, hx529_2, hx529_3⟩ := at_T52 HR0.out x5_1 p529 q529
        obtain rfl : ad527 = ad529 := (by injection e529)
        replace p529 := eq_true p529
        replace q529 := eq_true q529
        have p530 : 0 ≤ (x5_1 : Int) := of_decide_eq_true (by assumption)
        have q530 : x5_1 < (l0.length : Int) := of_decide_eq_true (by assumption)
        obtain ⟨ad530, e530, hx530_0, hx530_1, hx530_2, hx530_3⟩ := at_T52 HR0.out x5_1 p530 q530
        obtain rfl : ad527 = ad530 := (by injection e530)
        replace p530 := eq_true p530
        replace q530 := eq_true q530
        go_wp2
        go_ret
        exact ⟨by first | rfl | (simp; done) | (simp [*]; done), by repeat (first | exact Zr.refl _ | apply Zr.step)⟩
       rw [if_neg c7] at H
       have c7b0 : (((Zq l0 x5_1).f2) == ((wrap64 ((wrap64 (x1_1 + 1)) + 1)) % 256)) = false := beq_eq_false_iff_ne.mpr c7
       have c7b1 : (((Zq l0 x5_1).f2) != ((wrap64 ((wrap64 (x1_1 + 1)) + 1)) % 256)) = true := bne_iff_ne.mpr c7
       obtain rfl := Option.some.inj H
       have p527 : 0 ≤ (x5_1 : Int) := of_decide_eq_true (by assumption)
       have q527 : x5_1 < (l0.length : Int) := of_decide_eq_true (by assumption)
       obtain ⟨ad527, e527, hx527_0, hx527_1, hx527_2, hx527_3⟩ := at_T52 HR0.out x5_1 p527 q527
       cases e527
       replace p527 := eq_true p527
       replace q527 := eq_true q527
       have p528 : 0 ≤ (x5_1 : Int) := of_decide_eq_true (by assumption)
       have q528 : x5_1 < (l0.length : Int) := of_decide_eq_true (by assumption)
       obtain ⟨ad528, e528, hx528_0, hx528_1, hx528_2, hx528_3⟩ := at_T52 HR0.out x5_1 p528 q528
       obtain rfl : ad527 = ad528 := (by injection e528)
       replace p528 := eq_true p528
       replace q528 := eq_true q528
       have p529 : 0 ≤ (x5_1 : Int) := of_decide_eq_true (by assumption)
       have q529 : x5_1 < (l0.length : Int) := of_decide_eq_true (by assumption)
       obtain ⟨ad529, e529, hx529_0, hx529_1, hx529_2, hx529_3⟩ := at_T52 HR0.out x5_1 p529 q529
       obtain rfl : ad527 = ad529 := (by injection e529)
       replace p529 := eq_true p529
       replace q529 := eq_true q529
       go_wp2
       go_ret
       exact ⟨by first | rfl | (simp; done) | (simp [*]; done), by repeat (first | exact Zr.refl _ | apply Zr.step)⟩
      rw [if_neg c6] at H
      have c6b0 : (((Zq l0 x5_1).f1) == ((wrap64 (x1_1 + 1)) % 256)) = false := beq_eq_false_iff_ne.mpr c6
      have c6b1 : (((Zq l0 x5_1).f1) != ((wrap64 (x1_1 + 1)) % 256)) = true := bne_iff_ne.mpr c6
      obtain rfl := Option.some.inj H
      have p527 : 0 ≤ (x5_1 : Int) := of_decide_eq_true (by assumption)
      have q527 : x5_1 < (l0.length : Int) := of_decide_eq_true (by assumption)
      obtain ⟨ad527, e527, hx527_0, hx527_1, hx527_2, hx527_3⟩ := at_T52 HR0.out x5_1 p527 q527
      cases e527
      replace p527 := eq_true p527
      replace q527 := eq_true q527
      have p528 : 0 ≤ (x5_1 : Int) := of_decide_eq_true (by assumption)
      have q528 : x5_1 < (l0.length : Int) := of_decide_eq_true (by assumption)
      obtain ⟨ad528, e528, hx528_0, hx528_1, hx528_2, hx528_3⟩ := at_T52 HR0.out x5_1 p528 q528
      obtain rfl : ad527 = ad528 := (by injection e528)
      replace p528 := eq_true p528
      replace q528 := eq_true q528
      go_wp2
      go_ret
      exact ⟨by first | rfl | (simp; done) | (simp [*]; done), by repeat (first | exact Zr.refl _ | apply Zr.step)⟩
     rw [if_neg c5] at H
     have c5b0 : (((Zq l0 x5_1).f0) == (IntKind.u16.wrap (x1_1))) = false := beq_eq_false_iff_ne.mpr c5
     have c5b1 : (((Zq l0 x5_1).f0) != (IntKind.u16.wrap (x1_1))) = true := bne_iff_ne.mpr c5
     obtain rfl := Option.some.inj H
     have p527 : 0 ≤ (x5_1 : Int) := of_decide_eq_true (by assumption)
     have q527 : x5_1 < (l0.length : Int) := of_decide_eq_true (by assumption)
     obtain ⟨ad527, e527, hx527_0, hx527_1, hx527_2, hx527_3⟩ := at_T52 HR0.out x5_1 p527 q527
     cases e527
     replace p527 := eq_true p527
     replace q527 := eq_true q527
     go_wp2
     go_ret
     exact ⟨by first | rfl | (simp; done) | (simp [*]; done), by repeat (first | exact Zr.refl _ | apply Zr.step)⟩
    rw [if_neg c4] at H
    exact absurd H (by simp)
   rw [if_neg c3] at H
   have c3b0 : decide (x5_1 < (l0.length : Int)) = false := decide_eq_false c3
   clear c3
   obtain rfl := Option.some.inj H
   go_wp2
   go_ret
   exact ⟨by first | rfl | (simp; done) | (simp [*]; done), by repeat (first | exact Zr.refl _ | apply Zr.step)⟩
theorem heldInsS_ev (n : Nat) (k0 : Int) (h0 : 0 ≤ k0) (h1 : k0 ≤ 1000000) (hl : n ≤ 35184372088832) : Ev (fun k => Zch.f k (marksI n k0) k0) (k0 + 4 * (n : Int)) := by
 have key := ev_loop (fun k s i => Zch.l0 k (marksI n k0) s i) n (fun i => k0 + 4 * (i : Int)) k0 (k0 + 4 * (n : Int)) (by simp) rfl (fun i hi r hr => by
  refine Zbe _ (fun k => ?_) hr
  simp only [Zch.l0]
  rw [marksI_length, if_pos (by omega), if_pos (by omega), marksI_get n k0 i hi, Zae (i := k0 + 4 * (i : Int) + 1) (by omega) (by omega), Zae (i := k0 + 4 * (i : Int) + 1 + 1) (by omega) (by omega), Zae (i := k0 + 4 * (i : Int) + 1 + 1 + 1) (by omega) (by omega), Zae (i := k0 + 4 * (i : Int) + 1 + 1 + 1 + 1) (by omega) (by omega), Zae (i := (i : Int) + 1) (by omega) (by omega)]
  unfold markI
  dsimp only
  rw [if_pos rfl, if_pos rfl, if_pos rfl, if_pos rfl, show k0 + 4 * (i : Int) + 1 + 1 + 1 + 1 = k0 + 4 * ((i + 1 : Nat) : Int) by omega]
  rfl) (k0 + 4 * (n : Int))
 refine Ev.congr (fun k => rfl) (key (ev_end fun k => ?_))
 simp only [Zch.l0]
 rw [marksI_length, if_neg (by omega)]
end Go.Proofs.Ytgmbahldjiiajaa.P

namespace Go.Proofs.Ytgmbahldjiiajaa.Pure
open Go.RowKit Go.Proofs.Ytgmbahldjiiajaa.P Go.Proofs.YtgmbahldjiiajaaW.PrintWords Go.Proofs.YtgmbahldjiiajaaW.PrintLast
set_option linter.unusedVariables false
set_option linter.unusedSimpArgs false
theorem pol_lens (l : List S58) (hw : ∀ x ∈ l, wf58 x) : ∀ x ∈ l, x.f2.length ≤ maxLen ∧ ∀ y ∈ x.f2, y.f0.length ≤ maxLen := by
 intro x hx
 obtain ⟨_, _, h1, h2⟩ := hw x hx
 exact ⟨h1, fun y hy => (h2 y hy).1⟩
theorem pol_u (l : List S58) (hw : ∀ x ∈ l, wf58 x) : polU (l.map eOf) := by
 intro e he r hr c hc
 obtain ⟨x, hx, rfl⟩ := List.mem_map.1 he
 obtain ⟨y, hy, rfl⟩ := List.mem_map.1 (show r ∈ x.f2.map rOf from hr)
 obtain ⟨z, hz, rfl⟩ := List.mem_map.1 (show c ∈ y.f0.map cOf from hc)
 obtain ⟨_, _, _, h2⟩ := hw x hx
 obtain ⟨_, h3⟩ := h2 y hy
 obtain ⟨_, h4, h5⟩ := h3 z hz
 exact ⟨wf_u64 h4, wf_u64 h5⟩
end Go.Proofs.Ytgmbahldjiiajaa.Pure

namespace Go.Proofs.Ytgmbahldjiiajaa.P
open Go.RowKit Go.Proofs.YtgmbahldjiiajaaW.PrintWords Go.Proofs.YtgmbahldjiiajaaW.PrintLast Go.Proofs.YtgmbahldjiiajaaW.PrintMore
set_option linter.unusedVariables false
set_option linter.unusedSimpArgs false

section
variable {α : Type} {d : Kd α} {e b lo hi lo2 hi2 : Nat} {ok : Nat → Prop} {w W w1 W2 : World} {v : Value} {xs : List α}
def Span (lo hi : Nat) (k : Nat) : Prop := lo ≤ k ∧ k < hi
theorem S_span (h : Kd.S d e w1 W.heap.size ok v xs) (hW : W.heap.size = lo) (h1 : w1.heap.size = hi) (hb : b ≤ W.heap.size) : Kd.S d e w1 b (Span lo hi) v xs :=
 Kd.S_lower (Kd.S_mono (Kd.S_bound h) (fun k hk => ⟨by have := hk.2.1; omega, by have := hk.2.2.1; omega⟩)) hb
theorem R_span (h : Kd.R d e w1 W.heap.size ok v xs) (hW : W.heap.size = lo) (h1 : w1.heap.size = hi) (hb : b ≤ W.heap.size) : Kd.R d e w1 b (Span lo hi) v xs :=
 Kd.Zbk (Kd.Zas (Kd.R_bound h) (fun k hk => ⟨by have := hk.2.1; omega, by have := hk.2.2.1; omega⟩)) hb
theorem R_beside (h : Kd.R d e W b (Span lo hi) v xs) (hk : Kept W W2 (Span lo2 hi2)) (hd : hi ≤ lo2 ∨ hi2 ≤ lo) : Kd.R d e W2 b (Span lo hi) v xs := Kd.R_kept h hk (fun k h1 h2 => by have := h1.1; have := h1.2; have := h2.1; have := h2.2; omega)
theorem below_of_drawn (h : Zr W W2) : Below W.heap.size W W2 := h.below
end

end Go.Proofs.Ytgmbahldjiiajaa.P
