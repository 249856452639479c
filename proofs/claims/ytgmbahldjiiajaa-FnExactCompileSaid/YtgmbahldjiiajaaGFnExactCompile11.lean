import Derived.Test.YtgmbahldjiiajaaGFnExactCompile4
import Derived.Test.YtgmbahldjiiajaaGFnExactCompile10
namespace Go.Proofs.Ytgmbahldjiiajaa.P
open Go.RowKit Go.Proofs.YtgmbahldjiiajaaW.PrintWords Go.Proofs.YtgmbahldjiiajaaW.PrintLast Go.Proofs.YtgmbahldjiiajaaW.PrintMore
attribute [local go_sem] max2_int min2_int max_two min_two max_three min_three max_four min_four
set_option linter.unusedVariables false
set_option linter.unusedSimpArgs false

def Zbm.l0 : Nat → List (S65) → List (S65) → Int → Option (Bool)
 | 0, _, _, _ => none
 | k + 1, x0, x1, x5 => if x5 < (x0.length : Int) then (if 0 ≤ x5 then (if x5 < (x1.length : Int) then ((laws_eqRule.f k ((Zao x0 x5).f0) ((Zao x1 x5).f0)).bind fun t510 => (if t510 = true then (Zbm.l0 k x0 x1 (wrap64 (x5 + 1))) else (some false))) else (none)) else (none)) else (some true)
def Zbm.f (k : Nat) (l0 : List (S65)) (l1 : List (S65)) : Option (Bool) := if (l0.length : Int) = (l1.length : Int) then (Zbm.l0 k l0 l1 0) else (some false)
def Zbm.T6 : Bool × List (List Nat × List Nat) := (true, [([], []), ([], []), ([0, 1], [0, 1]), ([2], [2]), ([], []), ([], []), ([4, 5], [4, 5]), ([6], [6]), ([3, 7], [3, 7]), ([8], [8])])
def Zbm.B6 : List Nat := [0, 0, 3, 7, 0, 0, 48, 112, 255, 511]
theorem Zbm.tab6 : rtab .any (opsOf Try.f62 6) = Zbm.T6 := by kernel_rfl
theorem Zbm.bits6 : waitsOk Zbm.T6.2 Zbm.B6 = true := by kernel_rfl
set_option maxHeartbeats 8000000 in
set_option maxRecDepth 100000 in
theorem Zbm.calls (k : Nat) (A0 : Option Addr) (c0 : Nat) (l0 : List (S65)) (A1 : Option Addr) (c1 : Nat) (l1 : List (S65)) (r : Bool) (w : World) (hr0 : Kd.C k65 w A0 l0.length l0) (hc0 : l0.length ≤ c0) (hr1 : Kd.C k65 w A1 l1.length l1) (hc1 : l1.length ≤ c1) (h : Zbm.f k l0 l1 = some r) :
  Calls Try.prog 62 #[.slice A0 l0.length c0, .slice A1 l1.length c1] w fun e w' => e = .returned (.bool r) ∧ Below w.heap.size w w' := by
 have hu65 := Try.underlying65
 have HR0 := Za.mk hr0
 have HC0 := Za.mk hc0
 clear hr0 hc0
 have HR1 := Za.mk hr1
 have HC1 := Za.mk hc1
 clear hr1 hc1
 have HB := Za.mk (Below.refl w.heap.size w)
 have H : (if (l0.length : Int) = (l1.length : Int) then (Zbm.l0 k l0 l1 0) else (some false)) = some r := h
 clear h
 by_cases c3 : (l0.length : Int) = (l1.length : Int)
 ·rw [if_pos c3] at H
  have c3b0 : ((l0.length : Int) == (l1.length : Int)) = true := beq_iff_eq.mpr c3
  have c3b1 : ((l0.length : Int) != (l1.length : Int)) = false := bne_eq_false_iff_eq.mpr c3
  have c3b2 : (l0.length == l1.length) = true := by first | simpa using c3 | (simp at c3 ⊢; omega)
  clear c3
  have H' := Za.mk H
  clear H
  go_enter Try.func62, Try.ntmps62
  go_wp2
  go_loopg [5] k (fun kq v5 w' => ∃ (x5_1 : Int), v5 = .int .i64 x5_1 ∧ Za (Zbm.l0 kq l0 l1 x5_1 = some r) ∧ Za (kq ≤ k) ∧ Za (Below w.heap.size w w'))
  case atStart => exact ⟨(0), (by first | rfl | (simp; done) | (simp [*]; done)), H', ⟨Nat.le_refl _⟩, ⟨by with_reducible repeat first | exact HB.out | apply Zc | apply Ze | apply Zd⟩⟩
  case round =>
   clear H'
   try clear c1
   try clear p2
   try clear c3
   try clear c3b0
   try clear c3b1
   try clear c3b2
   obtain ⟨x5_1, rfl, HA, HK1, HB⟩ := hrel
   cases gk with
   | zero => exact absurd HA.out (by simp [Zbm.l0])
   | succ k1 =>
    have H := HA.out
    clear HA
    simp only [Zbm.l0] at H
    by_cases c4 : x5_1 < (l0.length : Int)
    ·rw [if_pos c4] at H
     have c4b0 : decide (x5_1 < (l0.length : Int)) = true := decide_eq_true c4
     clear c4
     by_cases c5 : 0 ≤ x5_1
     ·rw [if_pos c5] at H
      have c5b0 : decide (0 ≤ x5_1) = true := decide_eq_true c5
      clear c5
      by_cases c6 : x5_1 < (l1.length : Int)
      ·rw [if_pos c6] at H
       have c6b0 : decide (x5_1 < (l1.length : Int)) = true := decide_eq_true c6
       clear c6
       replace H := Option.bind_eq_some_iff.mp H
       obtain ⟨t510, A70, H⟩ := H
       replace H : (if t510 = true then (Zbm.l0 k1 l0 l1 (wrap64 (x5_1 + 1))) else (some false)) = some r := H
       have A7 := Za.mk A70
       clear A70
       by_cases c8 : t510 = true
       ·subst c8
        have H1 : (Zbm.l0 k1 l0 l1 (wrap64 (x5_1 + 1))) = some r := by rw [if_pos rfl] at H; exact H
        clear H
        have H := H1
        clear H1
        have H' := Za.mk H
        clear H
        try go_wp2
        replace HB := Za.mk (Zd HB.out)
        have p508 : 0 ≤ (x5_1 : Int) := of_decide_eq_true (by assumption)
        have q508 : x5_1 < (l0.length : Int) := of_decide_eq_true (by assumption)
        obtain ⟨ad508, A508_0, c508_0, e508, hx508_0, hl508_0, hi508_0⟩ := at_T65 HR0.out x5_1 p508 q508
        have hw508_0 := hx508_0
        cases e508
        replace hx508_0 := (HB.out.cell (World.block_lt_of_cell? w _ hx508_0)).trans hx508_0
        have HR508_0 := Za.mk hi508_0
        have HC508_0 := Za.mk hl508_0
        clear hi508_0 hl508_0
        replace p508 := eq_true p508
        replace q508 := eq_true q508
        have p509 : 0 ≤ (x5_1 : Int) := of_decide_eq_true (by assumption)
        have q509 : x5_1 < (l1.length : Int) := of_decide_eq_true (by assumption)
        obtain ⟨ad509, A509_0, c509_0, e509, hx509_0, hl509_0, hi509_0⟩ := at_T65 HR1.out x5_1 p509 q509
        have hw509_0 := hx509_0
        cases e509
        replace hx509_0 := (HB.out.cell (World.block_lt_of_cell? w _ hx509_0)).trans hx509_0
        have HR509_0 := Za.mk hi509_0
        have HC509_0 := Za.mk hl509_0
        clear hi509_0 hl509_0
        replace p509 := eq_true p509
        replace q509 := eq_true q509
        refine start_ (n := 10) (S := fun w' => w'.cell? (ad508.add (x5_1).toNat) = some (.slice A508_0 ((Zao l0 x5_1).f0).length c508_0) ∧ w'.cell? (ad509.add (x5_1).toNat) = some (.slice A509_0 ((Zao l1 x5_1).f0).length c509_0)) (ds := []) #[false, false, false, false, false, false, false, false, false, false] (by kernel_rfl) rfl rfl ⟨((HB.out.cell (World.block_lt_of_cell? w _ hw508_0)).trans hw508_0), ((HB.out.cell (World.block_lt_of_cell? w _ hw509_0)).trans hw509_0)⟩ (fun hHeld => ?_); refine with_tabW Zbm.tab6 Zbm.bits6 (fun HT_ HW_ => ?_)
        generalize wr.drew = w9 at HB HR508_0 HR509_0 hx508_0 hx509_0 hHeld ⊢
        refine Zaf (i := 0) (N := some 17) (v := ?_) (a' := ?_) #[true, false, false, false, false, false, false, false, false, false] rfl rfl (Zag HT_.out (by kernel_rfl)) (fun _ _ _ h => h) (Or.inl ⟨by rfl, ?_⟩) ?_ ?_
        rotate_left
        ·intro w'
         go_simp
         with_reducible rfl
        rotate_left
        ·simp only [Act.put, ZD, ZE, ZF, Zu, Zv]
         rfl
        refine Zaf (i := 1) (N := some 18) (v := ?_) (a' := ?_) #[true, true, false, false, false, false, false, false, false, false] rfl rfl (Zag HT_.out (by kernel_rfl)) (fun _ _ _ h => h) (Or.inl ⟨by rfl, ?_⟩) ?_ ?_
        rotate_left
        ·intro w'
         go_simp
         with_reducible rfl
        rotate_left
        ·simp only [Act.put, ZD, ZE, ZF, Zu, Zv]
         rfl
        refine Zaf (i := 2) (N := some 19) (v := ?_) (a' := ?_) #[true, true, true, false, false, false, false, false, false, false] rfl rfl (Zag HT_.out (by kernel_rfl)) (fun _ _ _ h => h) (Or.inl ⟨by rfl, ?_⟩) ?_ ?_
        rotate_left
        ·intro w'
         go_simp
         with_reducible rfl
        rotate_left
        ·simp only [Act.put, ZD, ZE, ZF, Zu, Zv]
         rfl
        refine Zaf (i := 4) (N := some 21) (v := ?_) (a' := ?_) #[true, true, true, false, true, false, false, false, false, false] rfl rfl (Zag HT_.out (by kernel_rfl)) (fun _ _ _ h => h) (Or.inl ⟨by rfl, ?_⟩) ?_ ?_
        rotate_left
        ·intro w'
         go_simp
         with_reducible rfl
        rotate_left
        ·simp only [Act.put, ZD, ZE, ZF, Zu, Zv]
         rfl
        refine Zaf (i := 5) (N := some 22) (v := ?_) (a' := ?_) #[true, true, true, false, true, true, false, false, false, false] rfl rfl (Zag HT_.out (by kernel_rfl)) (fun _ _ _ h => h) (Or.inl ⟨by rfl, ?_⟩) ?_ ?_
        rotate_left
        ·intro w'
         go_simp
         with_reducible rfl
        rotate_left
        ·simp only [Act.put, ZD, ZE, ZF, Zu, Zv]
         rfl
        refine Zaf (i := 6) (N := some 23) (v := ?_) (a' := ?_) #[true, true, true, false, true, true, true, false, false, false] rfl rfl (Zag HT_.out (by kernel_rfl)) (fun _ _ _ h => h) (Or.inl ⟨by rfl, ?_⟩) ?_ ?_
        rotate_left
        ·intro w'
         go_simp
         with_reducible rfl
        rotate_left
        ·simp only [Act.put, ZD, ZE, ZF, Zu, Zv]
         rfl
        refine take_ (i := 3) (N := some 20) (v := ?_) (a' := ?_) #[true, true, true, true, true, true, true, false, false, false] rfl rfl (Zbt HT_.out HW_.out (by kernel_rfl)) (fun _ _ _ h => h) (Or.inl ⟨by rfl, ?_⟩) hHeld ?_ ?_
        rotate_left
        ·rintro w' ⟨s0, s1⟩
         go_simp
         with_reducible rfl
        rotate_left
        ·simp only [Act.put, ZD, ZE, ZF, Zu, Zv]
         rfl
        refine take_ (i := 7) (N := some 24) (v := ?_) (a' := ?_) #[true, true, true, true, true, true, true, true, false, false] rfl rfl (Zbt HT_.out HW_.out (by kernel_rfl)) (fun _ _ _ h => h) (Or.inl ⟨by rfl, ?_⟩) hHeld ?_ ?_
        rotate_left
        ·rintro w' ⟨s0, s1⟩
         go_simp
         with_reducible rfl
        rotate_left
        ·simp only [Act.put, ZD, ZE, ZF, Zu, Zv]
         rfl
        refine one_ (i := 8) (N := some 25) #[true, true, true, true, true, true, true, true, true, false] rfl rfl (one_of HT_.out (by kernel_rfl)) (by decide) (fun K hK => ?_)
        refine goes_ Try.func71 (by kernel_rfl) rfl #[.agg #[.slice A508_0 ((Zao l0 x5_1).f0).length c508_0], .agg #[.slice A509_0 ((Zao l1 x5_1).f0).length c509_0]] (by rfl) rfl rfl (by (try simp only [ZA, ZB, ZC]); first | done | rfl) ?_
        with_reducible refine (laws_eqRule.calls k1 _ _ ((Zao l0 x5_1).f0) _ _ ((Zao l1 x5_1).f0) true _ ?side1 ?side2 ?side3 ?side4 A7.out).mono ?_
        (case side1 => repeat (first | exact (Kd.Zan HR508_0.out HB.out) | (with_reducible refine Kd.Zau ?_ _) | (with_reducible refine Kd.Zaw ?_ _) | (with_reducible refine Kd.Zav ?_)))
        (case side2 => exact HC508_0.out)
        (case side3 => repeat (first | exact (Kd.Zan HR509_0.out HB.out) | (with_reducible refine Kd.Zau ?_ _) | (with_reducible refine Kd.Zaw ?_ _) | (with_reducible refine Kd.Zav ?_)))
        (case side4 => exact HC509_0.out)
        rintro e w10 ⟨rfl, hb⟩
        refine ⟨_, rfl, ?_⟩
        replace HB := Za.mk (Zo (by with_reducible repeat first | exact HB.out | apply Zc | apply Ze | apply Zd) hb)
        (try clear hb)
        (try clear hb2)
        (try clear hk)
        (try clear hi)
        refine hK.out _ _ ⟨((HB.out.cell (World.block_lt_of_cell? w _ hw508_0)).trans hw508_0), ((HB.out.cell (World.block_lt_of_cell? w _ hw509_0)).trans hw509_0)⟩ (fun hHeld => ?_)
        clear hK K
        refine norm_ (a' := ?_) ?_ ?_
        rotate_left
        ·show Act.put _ (some 25) _ = _
         simp only [Act.put, ZD, ZE, ZF, Zu, Zv]
         rfl
        refine Zaf (i := 9) (N := some 26) (v := ?_) (a' := ?_) #[true, true, true, true, true, true, true, true, true, true] rfl rfl (Zag HT_.out (by kernel_rfl)) (fun _ _ _ h => h) (Or.inl ⟨by rfl, ?_⟩) ?_ ?_
        rotate_left
        ·intro w'
         go_simp
         with_reducible rfl
        rotate_left
        ·simp only [Act.put, ZD, ZE, ZF, Zu, Zv]
         rfl
        refine done_ (done_of HT_.out (by kernel_rfl)) ?_
        try go_wp2
        go_roundg k1
        case measure => have := HK1.out; omega
        case rel => exact ⟨(wrap64 (x5_1 + 1)), (by first | rfl | (simp; done) | (simp [*]; done)), H', ⟨by have := HK1.out; omega⟩, ⟨by with_reducible repeat first | exact HB.out | apply Zc | apply Ze | apply Zd⟩⟩
       replace c8 := Bool.eq_false_iff.mpr c8
       subst c8
       have H1 : (some false) = some r := by rw [if_neg (show ¬ (false = true) by decide)] at H; exact H
       clear H
       have H := H1
       clear H1
       obtain rfl := Option.some.inj H
       try go_wp2
       replace HB := Za.mk (Zd HB.out)
       have p508 : 0 ≤ (x5_1 : Int) := of_decide_eq_true (by assumption)
       have q508 : x5_1 < (l0.length : Int) := of_decide_eq_true (by assumption)
       obtain ⟨ad508, A508_0, c508_0, e508, hx508_0, hl508_0, hi508_0⟩ := at_T65 HR0.out x5_1 p508 q508
       have hw508_0 := hx508_0
       cases e508
       replace hx508_0 := (HB.out.cell (World.block_lt_of_cell? w _ hx508_0)).trans hx508_0
       have HR508_0 := Za.mk hi508_0
       have HC508_0 := Za.mk hl508_0
       clear hi508_0 hl508_0
       replace p508 := eq_true p508
       replace q508 := eq_true q508
       have p509 : 0 ≤ (x5_1 : Int) := of_decide_eq_true (by assumption)
       have q509 : x5_1 < (l1.length : Int) := of_decide_eq_true (by assumption)
       obtain ⟨ad509, A509_0, c509_0, e509, hx509_0, hl509_0, hi509_0⟩ := at_T65 HR1.out x5_1 p509 q509
       have hw509_0 := hx509_0
       cases e509
       replace hx509_0 := (HB.out.cell (World.block_lt_of_cell? w _ hx509_0)).trans hx509_0
       have HR509_0 := Za.mk hi509_0
       have HC509_0 := Za.mk hl509_0
       clear hi509_0 hl509_0
       replace p509 := eq_true p509
       replace q509 := eq_true q509
       refine start_ (n := 10) (S := fun w' => w'.cell? (ad508.add (x5_1).toNat) = some (.slice A508_0 ((Zao l0 x5_1).f0).length c508_0) ∧ w'.cell? (ad509.add (x5_1).toNat) = some (.slice A509_0 ((Zao l1 x5_1).f0).length c509_0)) (ds := []) #[false, false, false, false, false, false, false, false, false, false] (by kernel_rfl) rfl rfl ⟨((HB.out.cell (World.block_lt_of_cell? w _ hw508_0)).trans hw508_0), ((HB.out.cell (World.block_lt_of_cell? w _ hw509_0)).trans hw509_0)⟩ (fun hHeld => ?_); refine with_tabW Zbm.tab6 Zbm.bits6 (fun HT_ HW_ => ?_)
       generalize wr.drew = w11 at HB HR508_0 HR509_0 hx508_0 hx509_0 hHeld ⊢
       refine Zaf (i := 0) (N := some 17) (v := ?_) (a' := ?_) #[true, false, false, false, false, false, false, false, false, false] rfl rfl (Zag HT_.out (by kernel_rfl)) (fun _ _ _ h => h) (Or.inl ⟨by rfl, ?_⟩) ?_ ?_
       rotate_left
       ·intro w'
        go_simp
        with_reducible rfl
       rotate_left
       ·simp only [Act.put, ZD, ZE, ZF, Zu, Zv]
        rfl
       refine Zaf (i := 1) (N := some 18) (v := ?_) (a' := ?_) #[true, true, false, false, false, false, false, false, false, false] rfl rfl (Zag HT_.out (by kernel_rfl)) (fun _ _ _ h => h) (Or.inl ⟨by rfl, ?_⟩) ?_ ?_
       rotate_left
       ·intro w'
        go_simp
        with_reducible rfl
       rotate_left
       ·simp only [Act.put, ZD, ZE, ZF, Zu, Zv]
        rfl
       refine Zaf (i := 2) (N := some 19) (v := ?_) (a' := ?_) #[true, true, true, false, false, false, false, false, false, false] rfl rfl (Zag HT_.out (by kernel_rfl)) (fun _ _ _ h => h) (Or.inl ⟨by rfl, ?_⟩) ?_ ?_
       rotate_left
       ·intro w'
        go_simp
        with_reducible rfl
       rotate_left
       ·simp only [Act.put, ZD, ZE, ZF, Zu, Zv]
        rfl
       refine Zaf (i := 4) (N := some 21) (v := ?_) (a' := ?_) #[true, true, true, false, true, false, false, false, false, false] rfl rfl (Zag HT_.out (by kernel_rfl)) (fun _ _ _ h => h) (Or.inl ⟨by rfl, ?_⟩) ?_ ?_
       rotate_left
       ·intro w'
        go_simp
        with_reducible rfl
       rotate_left
       ·simp only [Act.put, ZD, ZE, ZF, Zu, Zv]
        rfl
       refine Zaf (i := 5) (N := some 22) (v := ?_) (a' := ?_) #[true, true, true, false, true, true, false, false, false, false] rfl rfl (Zag HT_.out (by kernel_rfl)) (fun _ _ _ h => h) (Or.inl ⟨by rfl, ?_⟩) ?_ ?_
       rotate_left
       ·intro w'
        go_simp
        with_reducible rfl
       rotate_left
       ·simp only [Act.put, ZD, ZE, ZF, Zu, Zv]
        rfl
       refine Zaf (i := 6) (N := some 23) (v := ?_) (a' := ?_) #[true, true, true, false, true, true, true, false, false, false] rfl rfl (Zag HT_.out (by kernel_rfl)) (fun _ _ _ h => h) (Or.inl ⟨by rfl, ?_⟩) ?_ ?_
       rotate_left
       ·intro w'
        go_simp
        with_reducible rfl
       rotate_left
       ·simp only [Act.put, ZD, ZE, ZF, Zu, Zv]
        rfl
       refine take_ (i := 3) (N := some 20) (v := ?_) (a' := ?_) #[true, true, true, true, true, true, true, false, false, false] rfl rfl (Zbt HT_.out HW_.out (by kernel_rfl)) (fun _ _ _ h => h) (Or.inl ⟨by rfl, ?_⟩) hHeld ?_ ?_
       rotate_left
       ·rintro w' ⟨s0, s1⟩
        go_simp
        with_reducible rfl
       rotate_left
       ·simp only [Act.put, ZD, ZE, ZF, Zu, Zv]
        rfl
       refine take_ (i := 7) (N := some 24) (v := ?_) (a' := ?_) #[true, true, true, true, true, true, true, true, false, false] rfl rfl (Zbt HT_.out HW_.out (by kernel_rfl)) (fun _ _ _ h => h) (Or.inl ⟨by rfl, ?_⟩) hHeld ?_ ?_
       rotate_left
       ·rintro w' ⟨s0, s1⟩
        go_simp
        with_reducible rfl
       rotate_left
       ·simp only [Act.put, ZD, ZE, ZF, Zu, Zv]
        rfl
       refine one_ (i := 8) (N := some 25) #[true, true, true, true, true, true, true, true, true, false] rfl rfl (one_of HT_.out (by kernel_rfl)) (by decide) (fun K hK => ?_)
       refine goes_ Try.func71 (by kernel_rfl) rfl #[.agg #[.slice A508_0 ((Zao l0 x5_1).f0).length c508_0], .agg #[.slice A509_0 ((Zao l1 x5_1).f0).length c509_0]] (by rfl) rfl rfl (by (try simp only [ZA, ZB, ZC]); first | done | rfl) ?_
       with_reducible refine (laws_eqRule.calls k1 _ _ ((Zao l0 x5_1).f0) _ _ ((Zao l1 x5_1).f0) false _ ?side1 ?side2 ?side3 ?side4 A7.out).mono ?_
       (case side1 => repeat (first | exact (Kd.Zan HR508_0.out HB.out) | (with_reducible refine Kd.Zau ?_ _) | (with_reducible refine Kd.Zaw ?_ _) | (with_reducible refine Kd.Zav ?_)))
       (case side2 => exact HC508_0.out)
       (case side3 => repeat (first | exact (Kd.Zan HR509_0.out HB.out) | (with_reducible refine Kd.Zau ?_ _) | (with_reducible refine Kd.Zaw ?_ _) | (with_reducible refine Kd.Zav ?_)))
       (case side4 => exact HC509_0.out)
       rintro e w12 ⟨rfl, hb⟩
       refine ⟨_, rfl, ?_⟩
       replace HB := Za.mk (Zo (by with_reducible repeat first | exact HB.out | apply Zc | apply Ze | apply Zd) hb)
       (try clear hb)
       (try clear hb2)
       (try clear hk)
       (try clear hi)
       refine hK.out _ _ ⟨((HB.out.cell (World.block_lt_of_cell? w _ hw508_0)).trans hw508_0), ((HB.out.cell (World.block_lt_of_cell? w _ hw509_0)).trans hw509_0)⟩ (fun hHeld => ?_)
       clear hK K
       refine norm_ (a' := ?_) ?_ ?_
       rotate_left
       ·show Act.put _ (some 25) _ = _
        simp only [Act.put, ZD, ZE, ZF, Zu, Zv]
        rfl
       refine Zaf (i := 9) (N := some 26) (v := ?_) (a' := ?_) #[true, true, true, true, true, true, true, true, true, true] rfl rfl (Zag HT_.out (by kernel_rfl)) (fun _ _ _ h => h) (Or.inl ⟨by rfl, ?_⟩) ?_ ?_
       rotate_left
       ·intro w'
        go_simp
        with_reducible rfl
       rotate_left
       ·simp only [Act.put, ZD, ZE, ZF, Zu, Zv]
        rfl
       refine done_ (done_of HT_.out (by kernel_rfl)) ?_
       try go_wp2
       go_ret
       exact ⟨by first | rfl | (simp [Zm, Zn] <;> rfl) | (simp [*, Zm, Zn] <;> rfl), by with_reducible repeat first | exact HB.out | apply Zc | apply Ze | apply Zd⟩
      rw [if_neg c6] at H
      exact absurd H (by simp)
     rw [if_neg c5] at H
     exact absurd H (by simp)
    rw [if_neg c4] at H
    have c4b0 : decide (x5_1 < (l0.length : Int)) = false := decide_eq_false c4
    clear c4
    obtain rfl := Option.some.inj H
    go_wp2
    go_ret
    exact ⟨by first | rfl | (simp [Zm, Zn] <;> rfl) | (simp [*, Zm, Zn] <;> rfl), by with_reducible repeat first | exact HB.out | apply Zc | apply Ze | apply Zd⟩
 rw [if_neg c3] at H
 have c3b0 : ((l0.length : Int) == (l1.length : Int)) = false := beq_eq_false_iff_ne.mpr c3
 have c3b1 : ((l0.length : Int) != (l1.length : Int)) = true := bne_iff_ne.mpr c3
 have c3b2 : (l0.length == l1.length) = false := by first | simpa using c3 | (simp at c3 ⊢; omega)
 obtain rfl := Option.some.inj H
 go_enter Try.func62, Try.ntmps62
 go_wp2
 go_ret
 exact ⟨by first | rfl | (simp [Zm, Zn] <;> rfl) | (simp [*, Zm, Zn] <;> rfl), by with_reducible repeat first | exact HB.out | apply Zc | apply Ze | apply Zd⟩
def laws_eqEntry.f (k : Nat) (a0_0 : Int) (a0_1 : Int) (l0_2 : List (S65)) (a1_0 : Int) (a1_1 : Int) (l1_2 : List (S65)) : Option (Bool) := if a0_0 = a1_0 then (if a0_1 = a1_1 then ((Zbm.f k l0_2 l1_2).bind fun t513 => (if t513 = true then (some true) else (some false))) else (some false)) else (some false)
set_option maxHeartbeats 8000000 in
set_option maxRecDepth 100000 in
theorem laws_eqEntry.calls (k : Nat) (a0_0 : Int) (a0_1 : Int) (A0_2 : Option Addr) (c0_2 : Nat) (l0_2 : List (S65)) (a1_0 : Int) (a1_1 : Int) (A1_2 : Option Addr) (c1_2 : Nat) (l1_2 : List (S65)) (r : Bool) (w : World) (hr0_2 : Kd.C k65 w A0_2 l0_2.length l0_2) (hc0_2 : l0_2.length ≤ c0_2) (hr1_2 : Kd.C k65 w A1_2 l1_2.length l1_2) (hc1_2 : l1_2.length ≤ c1_2) (h : laws_eqEntry.f k a0_0 a0_1 l0_2 a1_0 a1_1 l1_2 = some r) :
  Calls Try.prog 48 #[.agg #[.int .u32 a0_0, .int .u32 a0_1, .slice A0_2 l0_2.length c0_2], .agg #[.int .u32 a1_0, .int .u32 a1_1, .slice A1_2 l1_2.length c1_2]] w fun e w' => e = .returned (.bool r) ∧ Below w.heap.size w w' := by
 have hu61 := Try.underlying61
 have HR0_2 := Za.mk hr0_2
 have HC0_2 := Za.mk hc0_2
 clear hr0_2 hc0_2
 have HR1_2 := Za.mk hr1_2
 have HC1_2 := Za.mk hc1_2
 clear hr1_2 hc1_2
 have HB := Za.mk (Below.refl w.heap.size w)
 have H := h
 unfold laws_eqEntry.f at H
 clear h
 by_cases c3 : a0_0 = a1_0
 ·rw [if_pos c3] at H
  have c3b0 : (a0_0 == a1_0) = true := beq_iff_eq.mpr c3
  have c3b1 : (a0_0 != a1_0) = false := bne_eq_false_iff_eq.mpr c3
  clear c3
  by_cases c4 : a0_1 = a1_1
  ·rw [if_pos c4] at H
   have c4b0 : (a0_1 == a1_1) = true := beq_iff_eq.mpr c4
   have c4b1 : (a0_1 != a1_1) = false := bne_eq_false_iff_eq.mpr c4
   clear c4
   replace H := Option.bind_eq_some_iff.mp H
   obtain ⟨t513, A50, H⟩ := H
   replace H : (if t513 = true then (some true) else (some false)) = some r := H
   have A5 := Za.mk A50
   clear A50
   by_cases c6 : t513 = true
   ·subst c6
    have H1 : (some true) = some r := by rw [if_pos rfl] at H; exact H
    clear H
    have H := H1
    clear H1
    obtain rfl := Option.some.inj H
    go_enter Try.func48, Try.ntmps48
    go_wp2_with (first | ((with_reducible refine Zab (N := 2) rfl ?_); refine Zac ?hg (N := 2) ?hd (cs := #[.int .u32 a0_0, .int .u32 a0_1, .slice A0_2 l0_2.length c0_2]) (t := 61) ?hr ?_; (case hd => rfl); (case hg => rfl); (case hr => go_simp <;> rfl); intro gb511 hg w7 hbox hb; have BK511 := Za.mk (hbox); have GW511 := Za.mk ((by rw [hg]; exact (Zl (by with_reducible repeat first | exact HB.out | apply Zc | apply Ze | apply Zd)) : w.heap.size ≤ gb511)); have GE511 := Za.mk ((by rw [hg]; exact (Zl (by with_reducible repeat first | exact HB.out | apply Zc | apply Ze | apply Zd)) : w.heap.size ≤ gb511)); replace HB := Za.mk (Zo (by with_reducible repeat first | exact HB.out | apply Zc | apply Ze | apply Zd) hb); clear hb hbox hg) | ((with_reducible refine Zab (N := 3) rfl ?_); refine Zac ?hg (N := 3) ?hd (cs := #[.int .u32 a1_0, .int .u32 a1_1, .slice A1_2 l1_2.length c1_2]) (t := 61) ?hr ?_; (case hd => rfl); (case hg => rfl); (case hr => go_simp <;> rfl); intro gb512 hg w8 hbox hb; have BK512 := Za.mk (hbox); have GW512 := Za.mk ((by rw [hg]; exact (Zl (by with_reducible repeat first | exact HB.out | apply Zc | apply Ze | apply Zd | refine Zk ?_ GE511.out)) : w.heap.size ≤ gb512)); have GE512 := Za.mk ((by rw [hg]; exact (Zl (by with_reducible repeat first | exact HB.out | apply Zc | apply Ze | apply Zd | refine Zk ?_ GE511.out)) : w.heap.size ≤ gb512)); replace HB := Za.mk (Zo (by with_reducible repeat first | exact HB.out | apply Zc | apply Ze | apply Zd | refine Zk ?_ GE511.out) hb); have NB511_512 := Za.mk ((by rw [hg]; exact Nat.ne_of_lt (Zs (g := gb511) (o := .cells #[.int .u32 a0_0, .int .u32 a0_1, .slice A0_2 l0_2.length c0_2] 61 (0, 0)) (by (with_reducible repeat first | apply Zg | apply Zf | apply Zh); exact BK511.out)) : gb511 ≠ gb512)); have NB512_511 := Za.mk ((by rw [hg]; exact Nat.ne_of_gt (Zs (g := gb511) (o := .cells #[.int .u32 a0_0, .int .u32 a0_1, .slice A0_2 l0_2.length c0_2] 61 (0, 0)) (by (with_reducible repeat first | apply Zg | apply Zf | apply Zh); exact BK511.out)) : gb512 ≠ gb511)); replace BK511 := Za.mk (Zp (g := gb511) (o := .cells #[.int .u32 a0_0, .int .u32 a0_1, .slice A0_2 l0_2.length c0_2] 61 (0, 0)) (by (with_reducible repeat first | apply Zg | apply Zf | apply Zh); exact BK511.out) hb); clear hb hbox hg; have hnb9 := NB511_512.out; have hnc9 := NB512_511.out; have hcz10_0 : w8.cell? ⟨gb511, 0, none⟩ = some (.int .u32 a0_0) := (Zb BK511.out 0).trans rfl; have hcz10_1 : w8.cell? ⟨gb511, 1, none⟩ = some (.int .u32 a0_1) := (Zb BK511.out 1).trans rfl; have hcz10_2 : w8.cell? ⟨gb511, 2, none⟩ = some (.slice A0_2 l0_2.length c0_2) := (Zb BK511.out 2).trans rfl; have hfz10_0 := Zj BK511.out 0; have hfz10_1 := Zj BK511.out 1; have hfz10_2 := Zj BK511.out 2; have hcz11_0 : w8.cell? ⟨gb512, 0, none⟩ = some (.int .u32 a1_0) := (Zb BK512.out 0).trans rfl; have hcz11_1 : w8.cell? ⟨gb512, 1, none⟩ = some (.int .u32 a1_1) := (Zb BK512.out 1).trans rfl; have hcz11_2 : w8.cell? ⟨gb512, 2, none⟩ = some (.slice A1_2 l1_2.length c1_2) := (Zb BK512.out 2).trans rfl; have hfz11_0 := Zj BK512.out 0; have hfz11_1 := Zj BK512.out 1; have hfz11_2 := Zj BK512.out 2) | ((with_reducible refine Zaj (f := 62) rfl ?_); refine Zai (some 19) rfl rfl Try.func62 (by kernel_rfl) rfl #[.slice A0_2 l0_2.length c0_2, .slice A1_2 l1_2.length c1_2] rfl (by (try simp only [ZA, ZB, ZC]); first | done | rfl) ?_; (with_reducible refine (Zbm.calls k _ _ l0_2 _ _ l1_2 true _ ?side1 ?side2 ?side3 ?side4 A5.out).mono ?_); (case side1 => repeat (first | exact (Kd.Zan HR0_2.out HB.out) | (with_reducible refine Kd.Zau ?_ _) | (with_reducible refine Kd.Zaw ?_ _) | (with_reducible refine Kd.Zav ?_))); (case side2 => exact HC0_2.out); (case side3 => repeat (first | exact (Kd.Zan HR1_2.out HB.out) | (with_reducible refine Kd.Zau ?_ _) | (with_reducible refine Kd.Zaw ?_ _) | (with_reducible refine Kd.Zav ?_))); (case side4 => exact HC1_2.out); rintro e w12 ⟨rfl, hb⟩; refine ⟨_, rfl, ?_⟩; replace BK511 := Za.mk (Zp (g := gb511) (o := .cells #[.int .u32 a0_0, .int .u32 a0_1, .slice A0_2 l0_2.length c0_2] 61 (0, 0)) (by (with_reducible repeat first | apply Zg | apply Zf | apply Zh); exact BK511.out) hb); replace BK512 := Za.mk (Zp (g := gb512) (o := .cells #[.int .u32 a1_0, .int .u32 a1_1, .slice A1_2 l1_2.length c1_2] 61 (0, 0)) (by (with_reducible repeat first | apply Zg | apply Zf | apply Zh); exact BK512.out) hb); replace HB := Za.mk (Zo (by with_reducible repeat first | exact HB.out | apply Zc | apply Ze | apply Zd | refine Zk ?_ GE511.out | refine Zk ?_ GE512.out) hb); (try clear hb); (try clear hb2); (try clear hk); (try clear hi)))
    go_ret
    exact ⟨by first | rfl | (simp [Zm, Zn] <;> rfl) | (simp [*, Zm, Zn] <;> rfl), by with_reducible repeat first | exact HB.out | apply Zc | apply Ze | apply Zd | refine Zk ?_ GE511.out | refine Zk ?_ GE512.out⟩
   replace c6 := Bool.eq_false_iff.mpr c6
   subst c6
   have H1 : (some false) = some r := by rw [if_neg (show ¬ (false = true) by decide)] at H; exact H
   clear H
   have H := H1
   clear H1
   obtain rfl := Option.some.inj H
   go_enter Try.func48, Try.ntmps48
   go_wp2_with (first | ((with_reducible refine Zab (N := 2) rfl ?_); refine Zac ?hg (N := 2) ?hd (cs := #[.int .u32 a0_0, .int .u32 a0_1, .slice A0_2 l0_2.length c0_2]) (t := 61) ?hr ?_; (case hd => rfl); (case hg => rfl); (case hr => go_simp <;> rfl); intro gb511 hg w13 hbox hb; have BK511 := Za.mk (hbox); have GW511 := Za.mk ((by rw [hg]; exact (Zl (by with_reducible repeat first | exact HB.out | apply Zc | apply Ze | apply Zd)) : w.heap.size ≤ gb511)); have GE511 := Za.mk ((by rw [hg]; exact (Zl (by with_reducible repeat first | exact HB.out | apply Zc | apply Ze | apply Zd)) : w.heap.size ≤ gb511)); replace HB := Za.mk (Zo (by with_reducible repeat first | exact HB.out | apply Zc | apply Ze | apply Zd) hb); clear hb hbox hg) | ((with_reducible refine Zab (N := 3) rfl ?_); refine Zac ?hg (N := 3) ?hd (cs := #[.int .u32 a1_0, .int .u32 a1_1, .slice A1_2 l1_2.length c1_2]) (t := 61) ?hr ?_; (case hd => rfl); (case hg => rfl); (case hr => go_simp <;> rfl); intro gb512 hg w14 hbox hb; have BK512 := Za.mk (hbox); have GW512 := Za.mk ((by rw [hg]; exact (Zl (by with_reducible repeat first | exact HB.out | apply Zc | apply Ze | apply Zd | refine Zk ?_ GE511.out)) : w.heap.size ≤ gb512)); have GE512 := Za.mk ((by rw [hg]; exact (Zl (by with_reducible repeat first | exact HB.out | apply Zc | apply Ze | apply Zd | refine Zk ?_ GE511.out)) : w.heap.size ≤ gb512)); replace HB := Za.mk (Zo (by with_reducible repeat first | exact HB.out | apply Zc | apply Ze | apply Zd | refine Zk ?_ GE511.out) hb); have NB511_512 := Za.mk ((by rw [hg]; exact Nat.ne_of_lt (Zs (g := gb511) (o := .cells #[.int .u32 a0_0, .int .u32 a0_1, .slice A0_2 l0_2.length c0_2] 61 (0, 0)) (by (with_reducible repeat first | apply Zg | apply Zf | apply Zh); exact BK511.out)) : gb511 ≠ gb512)); have NB512_511 := Za.mk ((by rw [hg]; exact Nat.ne_of_gt (Zs (g := gb511) (o := .cells #[.int .u32 a0_0, .int .u32 a0_1, .slice A0_2 l0_2.length c0_2] 61 (0, 0)) (by (with_reducible repeat first | apply Zg | apply Zf | apply Zh); exact BK511.out)) : gb512 ≠ gb511)); replace BK511 := Za.mk (Zp (g := gb511) (o := .cells #[.int .u32 a0_0, .int .u32 a0_1, .slice A0_2 l0_2.length c0_2] 61 (0, 0)) (by (with_reducible repeat first | apply Zg | apply Zf | apply Zh); exact BK511.out) hb); clear hb hbox hg; have hnb15 := NB511_512.out; have hnc15 := NB512_511.out; have hcz16_0 : w14.cell? ⟨gb511, 0, none⟩ = some (.int .u32 a0_0) := (Zb BK511.out 0).trans rfl; have hcz16_1 : w14.cell? ⟨gb511, 1, none⟩ = some (.int .u32 a0_1) := (Zb BK511.out 1).trans rfl; have hcz16_2 : w14.cell? ⟨gb511, 2, none⟩ = some (.slice A0_2 l0_2.length c0_2) := (Zb BK511.out 2).trans rfl; have hfz16_0 := Zj BK511.out 0; have hfz16_1 := Zj BK511.out 1; have hfz16_2 := Zj BK511.out 2; have hcz17_0 : w14.cell? ⟨gb512, 0, none⟩ = some (.int .u32 a1_0) := (Zb BK512.out 0).trans rfl; have hcz17_1 : w14.cell? ⟨gb512, 1, none⟩ = some (.int .u32 a1_1) := (Zb BK512.out 1).trans rfl; have hcz17_2 : w14.cell? ⟨gb512, 2, none⟩ = some (.slice A1_2 l1_2.length c1_2) := (Zb BK512.out 2).trans rfl; have hfz17_0 := Zj BK512.out 0; have hfz17_1 := Zj BK512.out 1; have hfz17_2 := Zj BK512.out 2) | ((with_reducible refine Zaj (f := 62) rfl ?_); refine Zai (some 19) rfl rfl Try.func62 (by kernel_rfl) rfl #[.slice A0_2 l0_2.length c0_2, .slice A1_2 l1_2.length c1_2] rfl (by (try simp only [ZA, ZB, ZC]); first | done | rfl) ?_; (with_reducible refine (Zbm.calls k _ _ l0_2 _ _ l1_2 false _ ?side1 ?side2 ?side3 ?side4 A5.out).mono ?_); (case side1 => repeat (first | exact (Kd.Zan HR0_2.out HB.out) | (with_reducible refine Kd.Zau ?_ _) | (with_reducible refine Kd.Zaw ?_ _) | (with_reducible refine Kd.Zav ?_))); (case side2 => exact HC0_2.out); (case side3 => repeat (first | exact (Kd.Zan HR1_2.out HB.out) | (with_reducible refine Kd.Zau ?_ _) | (with_reducible refine Kd.Zaw ?_ _) | (with_reducible refine Kd.Zav ?_))); (case side4 => exact HC1_2.out); rintro e w18 ⟨rfl, hb⟩; refine ⟨_, rfl, ?_⟩; replace BK511 := Za.mk (Zp (g := gb511) (o := .cells #[.int .u32 a0_0, .int .u32 a0_1, .slice A0_2 l0_2.length c0_2] 61 (0, 0)) (by (with_reducible repeat first | apply Zg | apply Zf | apply Zh); exact BK511.out) hb); replace BK512 := Za.mk (Zp (g := gb512) (o := .cells #[.int .u32 a1_0, .int .u32 a1_1, .slice A1_2 l1_2.length c1_2] 61 (0, 0)) (by (with_reducible repeat first | apply Zg | apply Zf | apply Zh); exact BK512.out) hb); replace HB := Za.mk (Zo (by with_reducible repeat first | exact HB.out | apply Zc | apply Ze | apply Zd | refine Zk ?_ GE511.out | refine Zk ?_ GE512.out) hb); (try clear hb); (try clear hb2); (try clear hk); (try clear hi)))
   go_ret
   exact ⟨by first | rfl | (simp [Zm, Zn] <;> rfl) | (simp [*, Zm, Zn] <;> rfl), by with_reducible repeat first | exact HB.out | apply Zc | apply Ze | apply Zd | refine Zk ?_ GE511.out | refine Zk ?_ GE512.out⟩
  rw [if_neg c4] at H
  have c4b0 : (a0_1 == a1_1) = false := beq_eq_false_iff_ne.mpr c4
  have c4b1 : (a0_1 != a1_1) = true := bne_iff_ne.mpr c4
  obtain rfl := Option.some.inj H
  go_enter Try.func48, Try.ntmps48
  go_wp2_with (first | ((with_reducible refine Zab (N := 2) rfl ?_); refine Zac ?hg (N := 2) ?hd (cs := #[.int .u32 a0_0, .int .u32 a0_1, .slice A0_2 l0_2.length c0_2]) (t := 61) ?hr ?_; (case hd => rfl); (case hg => rfl); (case hr => go_simp <;> rfl); intro gb511 hg w19 hbox hb; have BK511 := Za.mk (hbox); have GW511 := Za.mk ((by rw [hg]; exact (Zl (by with_reducible repeat first | exact HB.out | apply Zc | apply Ze | apply Zd)) : w.heap.size ≤ gb511)); have GE511 := Za.mk ((by rw [hg]; exact (Zl (by with_reducible repeat first | exact HB.out | apply Zc | apply Ze | apply Zd)) : w.heap.size ≤ gb511)); replace HB := Za.mk (Zo (by with_reducible repeat first | exact HB.out | apply Zc | apply Ze | apply Zd) hb); clear hb hbox hg) | ((with_reducible refine Zab (N := 3) rfl ?_); refine Zac ?hg (N := 3) ?hd (cs := #[.int .u32 a1_0, .int .u32 a1_1, .slice A1_2 l1_2.length c1_2]) (t := 61) ?hr ?_; (case hd => rfl); (case hg => rfl); (case hr => go_simp <;> rfl); intro gb512 hg w20 hbox hb; have BK512 := Za.mk (hbox); have GW512 := Za.mk ((by rw [hg]; exact (Zl (by with_reducible repeat first | exact HB.out | apply Zc | apply Ze | apply Zd | refine Zk ?_ GE511.out)) : w.heap.size ≤ gb512)); have GE512 := Za.mk ((by rw [hg]; exact (Zl (by with_reducible repeat first | exact HB.out | apply Zc | apply Ze | apply Zd | refine Zk ?_ GE511.out)) : w.heap.size ≤ gb512)); replace HB := Za.mk (Zo (by with_reducible repeat first | exact HB.out | apply Zc | apply Ze | apply Zd | refine Zk ?_ GE511.out) hb); have NB511_512 := Za.mk ((by rw [hg]; exact Nat.ne_of_lt (Zs (g := gb511) (o := .cells #[.int .u32 a0_0, .int .u32 a0_1, .slice A0_2 l0_2.length c0_2] 61 (0, 0)) (by (with_reducible repeat first | apply Zg | apply Zf | apply Zh); exact BK511.out)) : gb511 ≠ gb512)); have NB512_511 := Za.mk ((by rw [hg]; exact Nat.ne_of_gt (Zs (g := gb511) (o := .cells #[.int .u32 a0_0, .int .u32 a0_1, .slice A0_2 l0_2.length c0_2] 61 (0, 0)) (by (with_reducible repeat first | apply Zg | apply Zf | apply Zh); exact BK511.out)) : gb512 ≠ gb511)); replace BK511 := Za.mk (Zp (g := gb511) (o := .cells #[.int .u32 a0_0, .int .u32 a0_1, .slice A0_2 l0_2.length c0_2] 61 (0, 0)) (by (with_reducible repeat first | apply Zg | apply Zf | apply Zh); exact BK511.out) hb); clear hb hbox hg; have hnb21 := NB511_512.out; have hnc21 := NB512_511.out; have hcz22_0 : w20.cell? ⟨gb511, 0, none⟩ = some (.int .u32 a0_0) := (Zb BK511.out 0).trans rfl; have hcz22_1 : w20.cell? ⟨gb511, 1, none⟩ = some (.int .u32 a0_1) := (Zb BK511.out 1).trans rfl; have hcz22_2 : w20.cell? ⟨gb511, 2, none⟩ = some (.slice A0_2 l0_2.length c0_2) := (Zb BK511.out 2).trans rfl; have hfz22_0 := Zj BK511.out 0; have hfz22_1 := Zj BK511.out 1; have hfz22_2 := Zj BK511.out 2; have hcz23_0 : w20.cell? ⟨gb512, 0, none⟩ = some (.int .u32 a1_0) := (Zb BK512.out 0).trans rfl; have hcz23_1 : w20.cell? ⟨gb512, 1, none⟩ = some (.int .u32 a1_1) := (Zb BK512.out 1).trans rfl; have hcz23_2 : w20.cell? ⟨gb512, 2, none⟩ = some (.slice A1_2 l1_2.length c1_2) := (Zb BK512.out 2).trans rfl; have hfz23_0 := Zj BK512.out 0; have hfz23_1 := Zj BK512.out 1; have hfz23_2 := Zj BK512.out 2))
  go_ret
  exact ⟨by first | rfl | (simp [Zm, Zn] <;> rfl) | (simp [*, Zm, Zn] <;> rfl), by with_reducible repeat first | exact HB.out | apply Zc | apply Ze | apply Zd | refine Zk ?_ GE511.out | refine Zk ?_ GE512.out⟩
 rw [if_neg c3] at H
 have c3b0 : (a0_0 == a1_0) = false := beq_eq_false_iff_ne.mpr c3
 have c3b1 : (a0_0 != a1_0) = true := bne_iff_ne.mpr c3
 obtain rfl := Option.some.inj H
 go_enter Try.func48, Try.ntmps48
 go_wp2_with (first | ((with_reducible refine Zab (N := 2) rfl ?_); refine Zac ?hg (N := 2) ?hd (cs := #[.int .u32 a0_0, .int .u32 a0_1, .slice A0_2 l0_2.length c0_2]) (t := 61) ?hr ?_; (case hd => rfl); (case hg => rfl); (case hr => go_simp <;> rfl); intro gb511 hg w24 hbox hb; have BK511 := Za.mk (hbox); have GW511 := Za.mk ((by rw [hg]; exact (Zl (by with_reducible repeat first | exact HB.out | apply Zc | apply Ze | apply Zd)) : w.heap.size ≤ gb511)); have GE511 := Za.mk ((by rw [hg]; exact (Zl (by with_reducible repeat first | exact HB.out | apply Zc | apply Ze | apply Zd)) : w.heap.size ≤ gb511)); replace HB := Za.mk (Zo (by with_reducible repeat first | exact HB.out | apply Zc | apply Ze | apply Zd) hb); clear hb hbox hg) | ((with_reducible refine Zab (N := 3) rfl ?_); refine Zac ?hg (N := 3) ?hd (cs := #[.int .u32 a1_0, .int .u32 a1_1, .slice A1_2 l1_2.length c1_2]) (t := 61) ?hr ?_; (case hd => rfl); (case hg => rfl); (case hr => go_simp <;> rfl); intro gb512 hg w25 hbox hb; have BK512 := Za.mk (hbox); have GW512 := Za.mk ((by rw [hg]; exact (Zl (by with_reducible repeat first | exact HB.out | apply Zc | apply Ze | apply Zd | refine Zk ?_ GE511.out)) : w.heap.size ≤ gb512)); have GE512 := Za.mk ((by rw [hg]; exact (Zl (by with_reducible repeat first | exact HB.out | apply Zc | apply Ze | apply Zd | refine Zk ?_ GE511.out)) : w.heap.size ≤ gb512)); replace HB := Za.mk (Zo (by with_reducible repeat first | exact HB.out | apply Zc | apply Ze | apply Zd | refine Zk ?_ GE511.out) hb); have NB511_512 := Za.mk ((by rw [hg]; exact Nat.ne_of_lt (Zs (g := gb511) (o := .cells #[.int .u32 a0_0, .int .u32 a0_1, .slice A0_2 l0_2.length c0_2] 61 (0, 0)) (by (with_reducible repeat first | apply Zg | apply Zf | apply Zh); exact BK511.out)) : gb511 ≠ gb512)); have NB512_511 := Za.mk ((by rw [hg]; exact Nat.ne_of_gt (Zs (g := gb511) (o := .cells #[.int .u32 a0_0, .int .u32 a0_1, .slice A0_2 l0_2.length c0_2] 61 (0, 0)) (by (with_reducible repeat first | apply Zg | apply Zf | apply Zh); exact BK511.out)) : gb512 ≠ gb511)); replace BK511 := Za.mk (Zp (g := gb511) (o := .cells #[.int .u32 a0_0, .int .u32 a0_1, .slice A0_2 l0_2.length c0_2] 61 (0, 0)) (by (with_reducible repeat first | apply Zg | apply Zf | apply Zh); exact BK511.out) hb); clear hb hbox hg; have hnb26 := NB511_512.out; have hnc26 := NB512_511.out; have hcz27_0 : w25.cell? ⟨gb511, 0, none⟩ = some (.int .u32 a0_0) := (Zb BK511.out 0).trans rfl; have hcz27_1 : w25.cell? ⟨gb511, 1, none⟩ = some (.int .u32 a0_1) := (Zb BK511.out 1).trans rfl; have hcz27_2 : w25.cell? ⟨gb511, 2, none⟩ = some (.slice A0_2 l0_2.length c0_2) := (Zb BK511.out 2).trans rfl; have hfz27_0 := Zj BK511.out 0; have hfz27_1 := Zj BK511.out 1; have hfz27_2 := Zj BK511.out 2; have hcz28_0 : w25.cell? ⟨gb512, 0, none⟩ = some (.int .u32 a1_0) := (Zb BK512.out 0).trans rfl; have hcz28_1 : w25.cell? ⟨gb512, 1, none⟩ = some (.int .u32 a1_1) := (Zb BK512.out 1).trans rfl; have hcz28_2 : w25.cell? ⟨gb512, 2, none⟩ = some (.slice A1_2 l1_2.length c1_2) := (Zb BK512.out 2).trans rfl; have hfz28_0 := Zj BK512.out 0; have hfz28_1 := Zj BK512.out 1; have hfz28_2 := Zj BK512.out 2))
 go_ret
 exact ⟨by first | rfl | (simp [Zm, Zn] <;> rfl) | (simp [*, Zm, Zn] <;> rfl), by with_reducible repeat first | exact HB.out | apply Zc | apply Ze | apply Zd | refine Zk ?_ GE511.out | refine Zk ?_ GE512.out⟩
def Zbn.l0 : Nat → List (S61) → List (S61) → Int → Option (Bool)
 | 0, _, _, _ => none
 | k + 1, x0, x1, x5 => if x5 < (x0.length : Int) then (if 0 ≤ x5 then (if x5 < (x1.length : Int) then ((laws_eqEntry.f k ((Zi x0 x5).f0) ((Zi x0 x5).f1) ((Zi x0 x5).f2) ((Zi x1 x5).f0) ((Zi x1 x5).f1) ((Zi x1 x5).f2)).bind fun t516 => (if t516 = true then (Zbn.l0 k x0 x1 (wrap64 (x5 + 1))) else (some false))) else (none)) else (none)) else (some true)
def Zbn.f (k : Nat) (l0 : List (S61)) (l1 : List (S61)) : Option (Bool) := if (l0.length : Int) = (l1.length : Int) then (Zbn.l0 k l0 l1 0) else (some false)
def Zbn.T6 : Bool × List (List Nat × List Nat) := (true, [([], []), ([], []), ([0, 1], [0, 1]), ([2], [2]), ([], []), ([], []), ([4, 5], [4, 5]), ([6], [6]), ([3, 7], [3, 7]), ([8], [8])])
def Zbn.B6 : List Nat := [0, 0, 3, 7, 0, 0, 48, 112, 255, 511]
theorem Zbn.tab6 : rtab .any (opsOf Try.f22 6) = Zbn.T6 := by kernel_rfl
theorem Zbn.bits6 : waitsOk Zbn.T6.2 Zbn.B6 = true := by kernel_rfl
set_option maxHeartbeats 8000000 in
set_option maxRecDepth 100000 in
theorem Zbn.calls (k : Nat) (A0 : Option Addr) (c0 : Nat) (l0 : List (S61)) (A1 : Option Addr) (c1 : Nat) (l1 : List (S61)) (r : Bool) (w : World) (hr0 : Kd.C k61 w A0 l0.length l0) (hc0 : l0.length ≤ c0) (hr1 : Kd.C k61 w A1 l1.length l1) (hc1 : l1.length ≤ c1) (h : Zbn.f k l0 l1 = some r) :
  Calls Try.prog 22 #[.slice A0 l0.length c0, .slice A1 l1.length c1] w fun e w' => e = .returned (.bool r) ∧ Below w.heap.size w w' := by
 have hu61 := Try.underlying61
 have HR0 := Za.mk hr0
 have HC0 := Za.mk hc0
 clear hr0 hc0
 have HR1 := Za.mk hr1
 have HC1 := Za.mk hc1
 clear hr1 hc1
 have HB := Za.mk (Below.refl w.heap.size w)
 have H : (if (l0.length : Int) = (l1.length : Int) then (Zbn.l0 k l0 l1 0) else (some false)) = some r := h
 clear h
 by_cases c3 : (l0.length : Int) = (l1.length : Int)
 ·rw [if_pos c3] at H
  have c3b0 : ((l0.length : Int) == (l1.length : Int)) = true := beq_iff_eq.mpr c3
  have c3b1 : ((l0.length : Int) != (l1.length : Int)) = false := bne_eq_false_iff_eq.mpr c3
  have c3b2 : (l0.length == l1.length) = true := by first | simpa using c3 | (simp at c3 ⊢; omega)
  clear c3
  have H' := Za.mk H
  clear H
  go_enter Try.func22, Try.ntmps22
  go_wp2
  go_loopg [5] k (fun kq v5 w' => ∃ (x5_1 : Int), v5 = .int .i64 x5_1 ∧ Za (Zbn.l0 kq l0 l1 x5_1 = some r) ∧ Za (kq ≤ k) ∧ Za (Below w.heap.size w w'))
  case atStart => exact ⟨(0), (by first | rfl | (simp; done) | (simp [*]; done)), H', ⟨Nat.le_refl _⟩, ⟨by with_reducible repeat first | exact HB.out | apply Zc | apply Ze | apply Zd⟩⟩
  case round =>
   clear H'
   try clear c1
   try clear c2
   try clear p2
   try clear c3
   try clear c3b0
   try clear c3b1
   try clear c3b2
   obtain ⟨x5_1, rfl, HA, HK1, HB⟩ := hrel
   cases gk with
   | zero => exact absurd HA.out (by simp [Zbn.l0])
   | succ k1 =>
    have H := HA.out
    clear HA
    simp only [Zbn.l0] at H
    by_cases c4 : x5_1 < (l0.length : Int)
    ·rw [if_pos c4] at H
     have c4b0 : decide (x5_1 < (l0.length : Int)) = true := decide_eq_true c4
     clear c4
     by_cases c5 : 0 ≤ x5_1
     ·rw [if_pos c5] at H
      have c5b0 : decide (0 ≤ x5_1) = true := decide_eq_true c5
      clear c5
      by_cases c6 : x5_1 < (l1.length : Int)
      ·rw [if_pos c6] at H
       have c6b0 : decide (x5_1 < (l1.length : Int)) = true := decide_eq_true c6
       clear c6
       replace H := Option.bind_eq_some_iff.mp H
       obtain ⟨t516, A70, H⟩ := H
       replace H : (if t516 = true then (Zbn.l0 k1 l0 l1 (wrap64 (x5_1 + 1))) else (some false)) = some r := H
       have A7 := Za.mk A70
       clear A70
       by_cases c8 : t516 = true
       ·subst c8
        have H1 : (Zbn.l0 k1 l0 l1 (wrap64 (x5_1 + 1))) = some r := by rw [if_pos rfl] at H; exact H
        clear H
        have H := H1
        clear H1
        have H' := Za.mk H
        clear H
        try go_wp2
        replace HB := Za.mk (Zd HB.out)
        have p514 : 0 ≤ (x5_1 : Int) := of_decide_eq_true (by assumption)
        have q514 : x5_1 < (l0.length : Int) := of_decide_eq_true (by assumption)
        obtain ⟨ad514, A514_2, c514_2, e514, hx514_0, hx514_1, hx514_2, hl514_2, hi514_2⟩ := at_T61 HR0.out x5_1 p514 q514
        have hw514_2 := hx514_2
        have hw514_1 := hx514_1
        have hw514_0 := hx514_0
        cases e514
        replace hx514_0 := (HB.out.cell (World.block_lt_of_cell? w _ hx514_0)).trans hx514_0
        replace hx514_1 := (HB.out.cell (World.block_lt_of_cell? w _ hx514_1)).trans hx514_1
        replace hx514_2 := (HB.out.cell (World.block_lt_of_cell? w _ hx514_2)).trans hx514_2
        have HR514_2 := Za.mk hi514_2
        have HC514_2 := Za.mk hl514_2
        clear hi514_2 hl514_2
        replace p514 := eq_true p514
        replace q514 := eq_true q514
        have p515 : 0 ≤ (x5_1 : Int) := of_decide_eq_true (by assumption)
        have q515 : x5_1 < (l1.length : Int) := of_decide_eq_true (by assumption)
        obtain ⟨ad515, A515_2, c515_2, e515, hx515_0, hx515_1, hx515_2, hl515_2, hi515_2⟩ := at_T61 HR1.out x5_1 p515 q515
        have hw515_2 := hx515_2
        have hw515_1 := hx515_1
        have hw515_0 := hx515_0
        cases e515
        replace hx515_0 := (HB.out.cell (World.block_lt_of_cell? w _ hx515_0)).trans hx515_0
        replace hx515_1 := (HB.out.cell (World.block_lt_of_cell? w _ hx515_1)).trans hx515_1
        replace hx515_2 := (HB.out.cell (World.block_lt_of_cell? w _ hx515_2)).trans hx515_2
        have HR515_2 := Za.mk hi515_2
        have HC515_2 := Za.mk hl515_2
        clear hi515_2 hl515_2
        replace p515 := eq_true p515
        replace q515 := eq_true q515
        refine start_ (n := 10) (S := fun w' => w'.cell? (ad514.add ((x5_1).toNat * 3)) = some (.int .u32 ((Zi l0 x5_1).f0)) ∧ w'.cell? ⟨(ad514.add ((x5_1).toNat * 3)).block, (ad514.add ((x5_1).toNat * 3)).off + 1, none⟩ = some (.int .u32 ((Zi l0 x5_1).f1)) ∧ w'.cell? ⟨(ad514.add ((x5_1).toNat * 3)).block, (ad514.add ((x5_1).toNat * 3)).off + 2, none⟩ = some (.slice A514_2 ((Zi l0 x5_1).f2).length c514_2) ∧ w'.cell? (ad515.add ((x5_1).toNat * 3)) = some (.int .u32 ((Zi l1 x5_1).f0)) ∧ w'.cell? ⟨(ad515.add ((x5_1).toNat * 3)).block, (ad515.add ((x5_1).toNat * 3)).off + 1, none⟩ = some (.int .u32 ((Zi l1 x5_1).f1)) ∧ w'.cell? ⟨(ad515.add ((x5_1).toNat * 3)).block, (ad515.add ((x5_1).toNat * 3)).off + 2, none⟩ = some (.slice A515_2 ((Zi l1 x5_1).f2).length c515_2)) (ds := []) #[false, false, false, false, false, false, false, false, false, false] (by kernel_rfl) rfl rfl ⟨((HB.out.cell (World.block_lt_of_cell? w _ hw514_0)).trans hw514_0), ((HB.out.cell (World.block_lt_of_cell? w _ hw514_1)).trans hw514_1), ((HB.out.cell (World.block_lt_of_cell? w _ hw514_2)).trans hw514_2), ((HB.out.cell (World.block_lt_of_cell? w _ hw515_0)).trans hw515_0), ((HB.out.cell (World.block_lt_of_cell? w _ hw515_1)).trans hw515_1), ((HB.out.cell (World.block_lt_of_cell? w _ hw515_2)).trans hw515_2)⟩ (fun hHeld => ?_); refine with_tabW Zbn.tab6 Zbn.bits6 (fun HT_ HW_ => ?_)
        generalize wr.drew = w9 at HB HR514_2 HR515_2 hx514_0 hx514_1 hx514_2 hx515_0 hx515_1 hx515_2 hHeld ⊢
        refine Zaf (i := 0) (N := some 17) (v := ?_) (a' := ?_) #[true, false, false, false, false, false, false, false, false, false] rfl rfl (Zag HT_.out (by kernel_rfl)) (fun _ _ _ h => h) (Or.inl ⟨by rfl, ?_⟩) ?_ ?_
        rotate_left
        ·intro w'
         go_simp
         with_reducible rfl
        rotate_left
        ·simp only [Act.put, ZD, ZE, ZF, Zu, Zv]
         rfl
        refine Zaf (i := 1) (N := some 18) (v := ?_) (a' := ?_) #[true, true, false, false, false, false, false, false, false, false] rfl rfl (Zag HT_.out (by kernel_rfl)) (fun _ _ _ h => h) (Or.inl ⟨by rfl, ?_⟩) ?_ ?_
        rotate_left
        ·intro w'
         go_simp
         with_reducible rfl
        rotate_left
        ·simp only [Act.put, ZD, ZE, ZF, Zu, Zv]
         rfl
        refine Zaf (i := 2) (N := some 19) (v := ?_) (a' := ?_) #[true, true, true, false, false, false, false, false, false, false] rfl rfl (Zag HT_.out (by kernel_rfl)) (fun _ _ _ h => h) (Or.inl ⟨by rfl, ?_⟩) ?_ ?_
        rotate_left
        ·intro w'
         go_simp
         with_reducible rfl
        rotate_left
        ·simp only [Act.put, ZD, ZE, ZF, Zu, Zv]
         rfl
        refine Zaf (i := 4) (N := some 21) (v := ?_) (a' := ?_) #[true, true, true, false, true, false, false, false, false, false] rfl rfl (Zag HT_.out (by kernel_rfl)) (fun _ _ _ h => h) (Or.inl ⟨by rfl, ?_⟩) ?_ ?_
        rotate_left
        ·intro w'
         go_simp
         with_reducible rfl
        rotate_left
        ·simp only [Act.put, ZD, ZE, ZF, Zu, Zv]
         rfl
        refine Zaf (i := 5) (N := some 22) (v := ?_) (a' := ?_) #[true, true, true, false, true, true, false, false, false, false] rfl rfl (Zag HT_.out (by kernel_rfl)) (fun _ _ _ h => h) (Or.inl ⟨by rfl, ?_⟩) ?_ ?_
        rotate_left
        ·intro w'
         go_simp
         with_reducible rfl
        rotate_left
        ·simp only [Act.put, ZD, ZE, ZF, Zu, Zv]
         rfl
        refine Zaf (i := 6) (N := some 23) (v := ?_) (a' := ?_) #[true, true, true, false, true, true, true, false, false, false] rfl rfl (Zag HT_.out (by kernel_rfl)) (fun _ _ _ h => h) (Or.inl ⟨by rfl, ?_⟩) ?_ ?_
        rotate_left
        ·intro w'
         go_simp
         with_reducible rfl
        rotate_left
        ·simp only [Act.put, ZD, ZE, ZF, Zu, Zv]
         rfl
        refine take_ (i := 3) (N := some 20) (v := ?_) (a' := ?_) #[true, true, true, true, true, true, true, false, false, false] rfl rfl (Zbt HT_.out HW_.out (by kernel_rfl)) (fun _ _ _ h => h) (Or.inl ⟨by rfl, ?_⟩) hHeld ?_ ?_
        rotate_left
        ·rintro w' ⟨s0, s1, s2, s3, s4, s5⟩
         go_simp
         with_reducible rfl
        rotate_left
        ·simp only [Act.put, ZD, ZE, ZF, Zu, Zv]
         rfl
        refine take_ (i := 7) (N := some 24) (v := ?_) (a' := ?_) #[true, true, true, true, true, true, true, true, false, false] rfl rfl (Zbt HT_.out HW_.out (by kernel_rfl)) (fun _ _ _ h => h) (Or.inl ⟨by rfl, ?_⟩) hHeld ?_ ?_
        rotate_left
        ·rintro w' ⟨s0, s1, s2, s3, s4, s5⟩
         go_simp
         with_reducible rfl
        rotate_left
        ·simp only [Act.put, ZD, ZE, ZF, Zu, Zv]
         rfl
        refine one_ (i := 8) (N := some 25) #[true, true, true, true, true, true, true, true, true, false] rfl rfl (one_of HT_.out (by kernel_rfl)) (by decide) (fun K hK => ?_)
        refine goes_ Try.func48 (by kernel_rfl) rfl #[.agg #[.int .u32 ((Zi l0 x5_1).f0), .int .u32 ((Zi l0 x5_1).f1), .slice A514_2 ((Zi l0 x5_1).f2).length c514_2], .agg #[.int .u32 ((Zi l1 x5_1).f0), .int .u32 ((Zi l1 x5_1).f1), .slice A515_2 ((Zi l1 x5_1).f2).length c515_2]] (by rfl) rfl rfl (by (try simp only [ZA, ZB, ZC]); first | done | rfl) ?_
        with_reducible refine (laws_eqEntry.calls k1 ((Zi l0 x5_1).f0) ((Zi l0 x5_1).f1) _ _ ((Zi l0 x5_1).f2) ((Zi l1 x5_1).f0) ((Zi l1 x5_1).f1) _ _ ((Zi l1 x5_1).f2) true _ ?side1 ?side2 ?side3 ?side4 A7.out).mono ?_
        (case side1 => repeat (first | exact (Kd.Zan HR514_2.out HB.out) | (with_reducible refine Kd.Zau ?_ _) | (with_reducible refine Kd.Zaw ?_ _) | (with_reducible refine Kd.Zav ?_)))
        (case side2 => exact HC514_2.out)
        (case side3 => repeat (first | exact (Kd.Zan HR515_2.out HB.out) | (with_reducible refine Kd.Zau ?_ _) | (with_reducible refine Kd.Zaw ?_ _) | (with_reducible refine Kd.Zav ?_)))
        (case side4 => exact HC515_2.out)
        rintro e w10 ⟨rfl, hb⟩
        refine ⟨_, rfl, ?_⟩
        replace HB := Za.mk (Zo (by with_reducible repeat first | exact HB.out | apply Zc | apply Ze | apply Zd) hb)
        (try clear hb)
        (try clear hb2)
        (try clear hk)
        (try clear hi)
        refine hK.out _ _ ⟨((HB.out.cell (World.block_lt_of_cell? w _ hw514_0)).trans hw514_0), ((HB.out.cell (World.block_lt_of_cell? w _ hw514_1)).trans hw514_1), ((HB.out.cell (World.block_lt_of_cell? w _ hw514_2)).trans hw514_2), ((HB.out.cell (World.block_lt_of_cell? w _ hw515_0)).trans hw515_0), ((HB.out.cell (World.block_lt_of_cell? w _ hw515_1)).trans hw515_1), ((HB.out.cell (World.block_lt_of_cell? w _ hw515_2)).trans hw515_2)⟩ (fun hHeld => ?_)
        clear hK K
        refine norm_ (a' := ?_) ?_ ?_
        rotate_left
        ·show Act.put _ (some 25) _ = _
         simp only [Act.put, ZD, ZE, ZF, Zu, Zv]
         rfl
        refine Zaf (i := 9) (N := some 26) (v := ?_) (a' := ?_) #[true, true, true, true, true, true, true, true, true, true] rfl rfl (Zag HT_.out (by kernel_rfl)) (fun _ _ _ h => h) (Or.inl ⟨by rfl, ?_⟩) ?_ ?_
        rotate_left
        ·intro w'
         go_simp
         with_reducible rfl
        rotate_left
        ·simp only [Act.put, ZD, ZE, ZF, Zu, Zv]
         rfl
        refine done_ (done_of HT_.out (by kernel_rfl)) ?_
        try go_wp2
        go_roundg k1
        case measure => have := HK1.out; omega
        case rel => exact ⟨(wrap64 (x5_1 + 1)), (by first | rfl | (simp; done) | (simp [*]; done)), H', ⟨by have := HK1.out; omega⟩, ⟨by with_reducible repeat first | exact HB.out | apply Zc | apply Ze | apply Zd⟩⟩
       replace c8 := Bool.eq_false_iff.mpr c8
       subst c8
       have H1 : (some false) = some r := by rw [if_neg (show ¬ (false = true) by decide)] at H; exact H
       clear H
       have H := H1
       clear H1
       obtain rfl := Option.some.inj H
       try go_wp2
       replace HB := Za.mk (Zd HB.out)
       have p514 : 0 ≤ (x5_1 : Int) := of_decide_eq_true (by assumption)
       have q514 : x5_1 < (l0.length : Int) := of_decide_eq_true (by assumption)
       obtain ⟨ad514, A514_2, c514_2, e514, hx514_0, hx514_1, hx514_2, hl514_2, hi514_2⟩ := at_T61 HR0.out x5_1 p514 q514
       have hw514_2 := hx514_2
       have hw514_1 := hx514_1
       have hw514_0 := hx514_0
       cases e514
       replace hx514_0 := (HB.out.cell (World.block_lt_of_cell? w _ hx514_0)).trans hx514_0
       replace hx514_1 := (HB.out.cell (World.block_lt_of_cell? w _ hx514_1)).trans hx514_1
       replace hx514_2 := (HB.out.cell (World.block_lt_of_cell? w _ hx514_2)).trans hx514_2
       have HR514_2 := Za.mk hi514_2
       have HC514_2 := Za.mk hl514_2
       clear hi514_2 hl514_2
       replace p514 := eq_true p514
       replace q514 := eq_true q514
       have p515 : 0 ≤ (x5_1 : Int) := of_decide_eq_true (by assumption)
       have q515 : x5_1 < (l1.length : Int) := of_decide_eq_true (by assumption)
       obtain ⟨ad515, A515_2, c515_2, e515, hx515_0, hx515_1, hx515_2, hl515_2, hi515_2⟩ := at_T61 HR1.out x5_1 p515 q515
       have hw515_2 := hx515_2
       have hw515_1 := hx515_1
       have hw515_0 := hx515_0
       cases e515
       replace hx515_0 := (HB.out.cell (World.block_lt_of_cell? w _ hx515_0)).trans hx515_0
       replace hx515_1 := (HB.out.cell (World.block_lt_of_cell? w _ hx515_1)).trans hx515_1
       replace hx515_2 := (HB.out.cell (World.block_lt_of_cell? w _ hx515_2)).trans hx515_2
       have HR515_2 := Za.mk hi515_2
       have HC515_2 := Za.mk hl515_2
       clear hi515_2 hl515_2
       replace p515 := eq_true p515
       replace q515 := eq_true q515
       refine start_ (n := 10) (S := fun w' => w'.cell? (ad514.add ((x5_1).toNat * 3)) = some (.int .u32 ((Zi l0 x5_1).f0)) ∧ w'.cell? ⟨(ad514.add ((x5_1).toNat * 3)).block, (ad514.add ((x5_1).toNat * 3)).off + 1, none⟩ = some (.int .u32 ((Zi l0 x5_1).f1)) ∧ w'.cell? ⟨(ad514.add ((x5_1).toNat * 3)).block, (ad514.add ((x5_1).toNat * 3)).off + 2, none⟩ = some (.slice A514_2 ((Zi l0 x5_1).f2).length c514_2) ∧ w'.cell? (ad515.add ((x5_1).toNat * 3)) = some (.int .u32 ((Zi l1 x5_1).f0)) ∧ w'.cell? ⟨(ad515.add ((x5_1).toNat * 3)).block, (ad515.add ((x5_1).toNat * 3)).off + 1, none⟩ = some (.int .u32 ((Zi l1 x5_1).f1)) ∧ w'.cell? ⟨(ad515.add ((x5_1).toNat * 3)).block, (ad515.add ((x5_1).toNat * 3)).off + 2, none⟩ = some (.slice A515_2 ((Zi l1 x5_1).f2).length c515_2)) (ds := []) #[false, false, false, false, false, false, false, false, false, false] (by kernel_rfl) rfl rfl ⟨((HB.out.cell (World.block_lt_of_cell? w _ hw514_0)).trans hw514_0), ((HB.out.cell (World.block_lt_of_cell? w _ hw514_1)).trans hw514_1), ((HB.out.cell (World.block_lt_of_cell? w _ hw514_2)).trans hw514_2), ((HB.out.cell (World.block_lt_of_cell? w _ hw515_0)).trans hw515_0), ((HB.out.cell (World.block_lt_of_cell? w _ hw515_1)).trans hw515_1), ((HB.out.cell (World.block_lt_of_cell? w _ hw515_2)).trans hw515_2)⟩ (fun hHeld => ?_); refine with_tabW Zbn.tab6 Zbn.bits6 (fun HT_ HW_ => ?_)
       generalize wr.drew = w11 at HB HR514_2 HR515_2 hx514_0 hx514_1 hx514_2 hx515_0 hx515_1 hx515_2 hHeld ⊢
       refine Zaf (i := 0) (N := some 17) (v := ?_) (a' := ?_) #[true, false, false, false, false, false, false, false, false, false] rfl rfl (Zag HT_.out (by kernel_rfl)) (fun _ _ _ h => h) (Or.inl ⟨by rfl, ?_⟩) ?_ ?_
       rotate_left
       ·intro w'
        go_simp
        with_reducible rfl
       rotate_left
       ·simp only [Act.put, ZD, ZE, ZF, Zu, Zv]
        rfl
       refine Zaf (i := 1) (N := some 18) (v := ?_) (a' := ?_) #[true, true, false, false, false, false, false, false, false, false] rfl rfl (Zag HT_.out (by kernel_rfl)) (fun _ _ _ h => h) (Or.inl ⟨by rfl, ?_⟩) ?_ ?_
       rotate_left
       ·intro w'
        go_simp
        with_reducible rfl
       rotate_left
       ·simp only [Act.put, ZD, ZE, ZF, Zu, Zv]
        rfl
       refine Zaf (i := 2) (N := some 19) (v := ?_) (a' := ?_) #[true, true, true, false, false, false, false, false, false, false] rfl rfl (Zag HT_.out (by kernel_rfl)) (fun _ _ _ h => h) (Or.inl ⟨by rfl, ?_⟩) ?_ ?_
       rotate_left
       ·intro w'
        go_simp
        with_reducible rfl
       rotate_left
       ·simp only [Act.put, ZD, ZE, ZF, Zu, Zv]
        rfl
       refine Zaf (i := 4) (N := some 21) (v := ?_) (a' := ?_) #[true, true, true, false, true, false, false, false, false, false] rfl rfl (Zag HT_.out (by kernel_rfl)) (fun _ _ _ h => h) (Or.inl ⟨by rfl, ?_⟩) ?_ ?_
       rotate_left
       ·intro w'
        go_simp
        with_reducible rfl
       rotate_left
       ·simp only [Act.put, ZD, ZE, ZF, Zu, Zv]
        rfl
       refine Zaf (i := 5) (N := some 22) (v := ?_) (a' := ?_) #[true, true, true, false, true, true, false, false, false, false] rfl rfl (Zag HT_.out (by kernel_rfl)) (fun _ _ _ h => h) (Or.inl ⟨by rfl, ?_⟩) ?_ ?_
       rotate_left
       ·intro w'
        go_simp
        with_reducible rfl
       rotate_left
       ·simp only [Act.put, ZD, ZE, ZF, Zu, Zv]
        rfl
       refine Zaf (i := 6) (N := some 23) (v := ?_) (a' := ?_) #[true, true, true, false, true, true, true, false, false, false] rfl rfl (Zag HT_.out (by kernel_rfl)) (fun _ _ _ h => h) (Or.inl ⟨by rfl, ?_⟩) ?_ ?_
       rotate_left
       ·intro w'
        go_simp
        with_reducible rfl
       rotate_left
       ·simp only [Act.put, ZD, ZE, ZF, Zu, Zv]
        rfl
       refine take_ (i := 3) (N := some 20) (v := ?_) (a' := ?_) #[true, true, true, true, true, true, true, false, false, false] rfl rfl (Zbt HT_.out HW_.out (by kernel_rfl)) (fun _ _ _ h => h) (Or.inl ⟨by rfl, ?_⟩) hHeld ?_ ?_
       rotate_left
       ·rintro w' ⟨s0, s1, s2, s3, s4, s5⟩
        go_simp
        with_reducible rfl
       rotate_left
       ·simp only [Act.put, ZD, ZE, ZF, Zu, Zv]
        rfl
       refine take_ (i := 7) (N := some 24) (v := ?_) (a' := ?_) #[true, true, true, true, true, true, true, true, false, false] rfl rfl (Zbt HT_.out HW_.out (by kernel_rfl)) (fun _ _ _ h => h) (Or.inl ⟨by rfl, ?_⟩) hHeld ?_ ?_
       rotate_left
       ·rintro w' ⟨s0, s1, s2, s3, s4, s5⟩
        go_simp
        with_reducible rfl
       rotate_left
       ·simp only [Act.put, ZD, ZE, ZF, Zu, Zv]
        rfl
       refine one_ (i := 8) (N := some 25) #[true, true, true, true, true, true, true, true, true, false] rfl rfl (one_of HT_.out (by kernel_rfl)) (by decide) (fun K hK => ?_)
       refine goes_ Try.func48 (by kernel_rfl) rfl #[.agg #[.int .u32 ((Zi l0 x5_1).f0), .int .u32 ((Zi l0 x5_1).f1), .slice A514_2 ((Zi l0 x5_1).f2).length c514_2], .agg #[.int .u32 ((Zi l1 x5_1).f0), .int .u32 ((Zi l1 x5_1).f1), .slice A515_2 ((Zi l1 x5_1).f2).length c515_2]] (by rfl) rfl rfl (by (try simp only [ZA, ZB, ZC]); first | done | rfl) ?_
       with_reducible refine (laws_eqEntry.calls k1 ((Zi l0 x5_1).f0) ((Zi l0 x5_1).f1) _ _ ((Zi l0 x5_1).f2) ((Zi l1 x5_1).f0) ((Zi l1 x5_1).f1) _ _ ((Zi l1 x5_1).f2) false _ ?side1 ?side2 ?side3 ?side4 A7.out).mono ?_
       (case side1 => repeat (first | exact (Kd.Zan HR514_2.out HB.out) | (with_reducible refine Kd.Zau ?_ _) | (with_reducible refine Kd.Zaw ?_ _) | (with_reducible refine Kd.Zav ?_)))
       (case side2 => exact HC514_2.out)
       (case side3 => repeat (first | exact (Kd.Zan HR515_2.out HB.out) | (with_reducible refine Kd.Zau ?_ _) | (with_reducible refine Kd.Zaw ?_ _) | (with_reducible refine Kd.Zav ?_)))
       (case side4 => exact HC515_2.out)
       rintro e w12 ⟨rfl, hb⟩
       refine ⟨_, rfl, ?_⟩
       replace HB := Za.mk (Zo (by with_reducible repeat first | exact HB.out | apply Zc | apply Ze | apply Zd) hb)
       (try clear hb)
       (try clear hb2)
       (try clear hk)
       (try clear hi)
       refine hK.out _ _ ⟨((HB.out.cell (World.block_lt_of_cell? w _ hw514_0)).trans hw514_0), ((HB.out.cell (World.block_lt_of_cell? w _ hw514_1)).trans hw514_1), ((HB.out.cell (World.block_lt_of_cell? w _ hw514_2)).trans hw514_2), ((HB.out.cell (World.block_lt_of_cell? w _ hw515_0)).trans hw515_0), ((HB.out.cell (World.block_lt_of_cell? w _ hw515_1)).trans hw515_1), ((HB.out.cell (World.block_lt_of_cell? w _ hw515_2)).trans hw515_2)⟩ (fun hHeld => ?_)
       clear hK K
       refine norm_ (a' := ?_) ?_ ?_
       rotate_left
       ·show Act.put _ (some 25) _ = _
        simp only [Act.put, ZD, ZE, ZF, Zu, Zv]
        rfl
       refine Zaf (i := 9) (N := some 26) (v := ?_) (a' := ?_) #[true, true, true, true, true, true, true, true, true, true] rfl rfl (Zag HT_.out (by kernel_rfl)) (fun _ _ _ h => h) (Or.inl ⟨by rfl, ?_⟩) ?_ ?_
       rotate_left
       ·intro w'
        go_simp
        with_reducible rfl
       rotate_left
       ·simp only [Act.put, ZD, ZE, ZF, Zu, Zv]
        rfl
       refine done_ (done_of HT_.out (by kernel_rfl)) ?_
       try go_wp2
       go_ret
       exact ⟨by first | rfl | (simp [Zm, Zn] <;> rfl) | (simp [*, Zm, Zn] <;> rfl), by with_reducible repeat first | exact HB.out | apply Zc | apply Ze | apply Zd⟩
      rw [if_neg c6] at H
      exact absurd H (by simp)
     rw [if_neg c5] at H
     exact absurd H (by simp)
    rw [if_neg c4] at H
    have c4b0 : decide (x5_1 < (l0.length : Int)) = false := decide_eq_false c4
    clear c4
    obtain rfl := Option.some.inj H
    go_wp2
    go_ret
    exact ⟨by first | rfl | (simp [Zm, Zn] <;> rfl) | (simp [*, Zm, Zn] <;> rfl), by with_reducible repeat first | exact HB.out | apply Zc | apply Ze | apply Zd⟩
 rw [if_neg c3] at H
 have c3b0 : ((l0.length : Int) == (l1.length : Int)) = false := beq_eq_false_iff_ne.mpr c3
 have c3b1 : ((l0.length : Int) != (l1.length : Int)) = true := bne_iff_ne.mpr c3
 have c3b2 : (l0.length == l1.length) = false := by first | simpa using c3 | (simp at c3 ⊢; omega)
 obtain rfl := Option.some.inj H
 go_enter Try.func22, Try.ntmps22
 go_wp2
 go_ret
 exact ⟨by first | rfl | (simp [Zm, Zn] <;> rfl) | (simp [*, Zm, Zn] <;> rfl), by with_reducible repeat first | exact HB.out | apply Zc | apply Ze | apply Zd⟩

end Go.Proofs.Ytgmbahldjiiajaa.P
