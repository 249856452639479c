import Derived.Test.YtgmbahldjiiajaaGFnExactCompile4
namespace Go.Proofs.Ytgmbahldjiiajaa.P
open Go.RowKit Go.Proofs.YtgmbahldjiiajaaW.PrintWords Go.Proofs.YtgmbahldjiiajaaW.PrintLast Go.Proofs.YtgmbahldjiiajaaW.PrintMore
attribute [local go_sem] max2_int min2_int max_two min_two max_three min_three max_four min_four
set_option linter.unusedVariables false
set_option linter.unusedSimpArgs false

def Zbj.l0 : Nat → List (S52) → List (S52) → Int → Option (Bool)
 | 0, _, _, _ => none
 | k + 1, x0, x1, x5 => if x5 < (x0.length : Int) then (if 0 ≤ x5 then (if x5 < (x1.length : Int) then ((laws_eqIns.f ((Zq x0 x5).f0) ((Zq x0 x5).f1) ((Zq x0 x5).f2) ((Zq x0 x5).f3) ((Zq x1 x5).f0) ((Zq x1 x5).f1) ((Zq x1 x5).f2) ((Zq x1 x5).f3)).bind fun t499 => (if t499 = true then (Zbj.l0 k x0 x1 (wrap64 (x5 + 1))) else (some false))) else (none)) else (none)) else (some true)
def Zbj.f (k : Nat) (l0 : List (S52)) (l1 : List (S52)) : Option (Bool) := if (l0.length : Int) = (l1.length : Int) then (Zbj.l0 k l0 l1 0) else (some false)
def Zbj.T6 : Bool × List (List Nat × List Nat) := (true, [([], []), ([], []), ([0, 1], [0, 1]), ([2], [2]), ([], []), ([], []), ([4, 5], [4, 5]), ([6], [6]), ([3, 7], [3, 7]), ([8], [8])])
def Zbj.B6 : List Nat := [0, 0, 3, 7, 0, 0, 48, 112, 255, 511]
theorem Zbj.tab6 : rtab .any (opsOf Try.f8 6) = Zbj.T6 := by kernel_rfl
theorem Zbj.bits6 : waitsOk Zbj.T6.2 Zbj.B6 = true := by kernel_rfl
set_option maxHeartbeats 8000000 in
set_option maxRecDepth 100000 in
theorem Zbj.calls (k : Nat) (A0 : Option Addr) (c0 : Nat) (l0 : List (S52)) (A1 : Option Addr) (c1 : Nat) (l1 : List (S52)) (r : Bool) (w : World) (hr0 : Kd.C k52 w A0 l0.length l0) (hc0 : l0.length ≤ c0) (hr1 : Kd.C k52 w A1 l1.length l1) (hc1 : l1.length ≤ c1) (h : Zbj.f k l0 l1 = some r) :
  Calls Try.prog 8 #[.slice A0 l0.length c0, .slice A1 l1.length c1] w fun e w' => e = .returned (.bool r) ∧ Below w.heap.size w w' := by
 have hu52 := Try.underlying52
 have HR0 := Za.mk hr0
 have HC0 := Za.mk hc0
 clear hr0 hc0
 have HR1 := Za.mk hr1
 have HC1 := Za.mk hc1
 clear hr1 hc1
 have HB := Za.mk (Below.refl w.heap.size w)
 have H : (if (l0.length : Int) = (l1.length : Int) then (Zbj.l0 k l0 l1 0) else (some false)) = some r := h
 clear h
 by_cases c3 : (l0.length : Int) = (l1.length : Int)
 ·rw [if_pos c3] at H
  have c3b0 : ((l0.length : Int) == (l1.length : Int)) = true := beq_iff_eq.mpr c3
  have c3b1 : ((l0.length : Int) != (l1.length : Int)) = false := bne_eq_false_iff_eq.mpr c3
  have c3b2 : (l0.length == l1.length) = true := by first | simpa using c3 | (simp at c3 ⊢; omega)
  clear c3
  have H' := Za.mk H
  clear H
  go_enter Try.func8, Try.ntmps8
  go_wp2
  go_loopg [5] k (fun kq v5 w' => ∃ (x5_1 : Int), v5 = .int .i64 x5_1 ∧ Za (Zbj.l0 kq l0 l1 x5_1 = some r) ∧ Za (kq ≤ k) ∧ Za (Below w.heap.size w w'))
  case atStart => exact ⟨(0), (by first | rfl | (simp; done) | (simp [*]; done)), H', ⟨Nat.le_refl _⟩, ⟨by with_reducible repeat first | exact HB.out | apply Zc | apply Ze | apply Zd⟩⟩
  case round =>
   clear H'
   try clear c1
   try clear p2
   try clear c3
   try clear c3b0
   try clear c3b1
   try clear c3b2
   obtain ⟨x5_1, rfl, HA, HK1, HB⟩ := hrel
   cases gk with
   | zero => exact absurd HA.out (by simp [Zbj.l0])
   | succ k1 =>
    have H := HA.out
    clear HA
    simp only [Zbj.l0] at H
    by_cases c4 : x5_1 < (l0.length : Int)
    ·rw [if_pos c4] at H
     have c4b0 : decide (x5_1 < (l0.length : Int)) = true := decide_eq_true c4
     clear c4
     by_cases c5 : 0 ≤ x5_1
     ·rw [if_pos c5] at H
      have c5b0 : decide (0 ≤ x5_1) = true := decide_eq_true c5
      clear c5
      by_cases c6 : x5_1 < (l1.length : Int)
      ·rw [if_pos c6] at H
       have c6b0 : decide (x5_1 < (l1.length : Int)) = true := decide_eq_true c6
       clear c6
       replace H := Option.bind_eq_some_iff.mp H
       obtain ⟨t499, A70, H⟩ := H
       replace H : (if t499 = true then (Zbj.l0 k1 l0 l1 (wrap64 (x5_1 + 1))) else (some false)) = some r := H
       have A7 := Za.mk A70
       clear A70
       by_cases c8 : t499 = true
       ·subst c8
        have H1 : (Zbj.l0 k1 l0 l1 (wrap64 (x5_1 + 1))) = some r := by rw [if_pos rfl] at H; exact H
        clear H
        have H := H1
        clear H1
        have H' := Za.mk H
        clear H
        try go_wp2
        replace HB := Za.mk (Zd HB.out)
        have p497 : 0 ≤ (x5_1 : Int) := of_decide_eq_true (by assumption)
        have q497 : x5_1 < (l0.length : Int) := of_decide_eq_true (by assumption)
        obtain ⟨ad497, e497, hx497_0, hx497_1, hx497_2, hx497_3⟩ := at_T52 HR0.out x5_1 p497 q497
        have hw497_3 := hx497_3
        have hw497_2 := hx497_2
        have hw497_1 := hx497_1
        have hw497_0 := hx497_0
        cases e497
        replace hx497_0 := (HB.out.cell (World.block_lt_of_cell? w _ hx497_0)).trans hx497_0
        replace hx497_1 := (HB.out.cell (World.block_lt_of_cell? w _ hx497_1)).trans hx497_1
        replace hx497_2 := (HB.out.cell (World.block_lt_of_cell? w _ hx497_2)).trans hx497_2
        replace hx497_3 := (HB.out.cell (World.block_lt_of_cell? w _ hx497_3)).trans hx497_3
        replace p497 := eq_true p497
        replace q497 := eq_true q497
        have p498 : 0 ≤ (x5_1 : Int) := of_decide_eq_true (by assumption)
        have q498 : x5_1 < (l1.length : Int) := of_decide_eq_true (by assumption)
        obtain ⟨ad498, e498, hx498_0, hx498_1, hx498_2, hx498_3⟩ := at_T52 HR1.out x5_1 p498 q498
        have hw498_3 := hx498_3
        have hw498_2 := hx498_2
        have hw498_1 := hx498_1
        have hw498_0 := hx498_0
        cases e498
        replace hx498_0 := (HB.out.cell (World.block_lt_of_cell? w _ hx498_0)).trans hx498_0
        replace hx498_1 := (HB.out.cell (World.block_lt_of_cell? w _ hx498_1)).trans hx498_1
        replace hx498_2 := (HB.out.cell (World.block_lt_of_cell? w _ hx498_2)).trans hx498_2
        replace hx498_3 := (HB.out.cell (World.block_lt_of_cell? w _ hx498_3)).trans hx498_3
        replace p498 := eq_true p498
        replace q498 := eq_true q498
        refine start_ (n := 10) (S := fun w' => w'.cell? (ad497.add ((x5_1).toNat * 4)) = some (.int .u16 ((Zq l0 x5_1).f0)) ∧ w'.cell? ⟨(ad497.add ((x5_1).toNat * 4)).block, (ad497.add ((x5_1).toNat * 4)).off + 1, none⟩ = some (.int .u8 ((Zq l0 x5_1).f1)) ∧ w'.cell? ⟨(ad497.add ((x5_1).toNat * 4)).block, (ad497.add ((x5_1).toNat * 4)).off + 2, none⟩ = some (.int .u8 ((Zq l0 x5_1).f2)) ∧ w'.cell? ⟨(ad497.add ((x5_1).toNat * 4)).block, (ad497.add ((x5_1).toNat * 4)).off + 3, none⟩ = some (.int .u32 ((Zq l0 x5_1).f3)) ∧ w'.cell? (ad498.add ((x5_1).toNat * 4)) = some (.int .u16 ((Zq l1 x5_1).f0)) ∧ w'.cell? ⟨(ad498.add ((x5_1).toNat * 4)).block, (ad498.add ((x5_1).toNat * 4)).off + 1, none⟩ = some (.int .u8 ((Zq l1 x5_1).f1)) ∧ w'.cell? ⟨(ad498.add ((x5_1).toNat * 4)).block, (ad498.add ((x5_1).toNat * 4)).off + 2, none⟩ = some (.int .u8 ((Zq l1 x5_1).f2)) ∧ w'.cell? ⟨(ad498.add ((x5_1).toNat * 4)).block, (ad498.add ((x5_1).toNat * 4)).off + 3, none⟩ = some (.int .u32 ((Zq l1 x5_1).f3))) (ds := []) #[false, false, false, false, false, false, false, false, false, false] (by kernel_rfl) rfl rfl ⟨((HB.out.cell (World.block_lt_of_cell? w _ hw497_0)).trans hw497_0), ((HB.out.cell (World.block_lt_of_cell? w _ hw497_1)).trans hw497_1), ((HB.out.cell (World.block_lt_of_cell? w _ hw497_2)).trans hw497_2), ((HB.out.cell (World.block_lt_of_cell? w _ hw497_3)).trans hw497_3), ((HB.out.cell (World.block_lt_of_cell? w _ hw498_0)).trans hw498_0), ((HB.out.cell (World.block_lt_of_cell? w _ hw498_1)).trans hw498_1), ((HB.out.cell (World.block_lt_of_cell? w _ hw498_2)).trans hw498_2), ((HB.out.cell (World.block_lt_of_cell? w _ hw498_3)).trans hw498_3)⟩ (fun hHeld => ?_); refine with_tabW Zbj.tab6 Zbj.bits6 (fun HT_ HW_ => ?_)
        generalize wr.drew = w9 at HB hx497_0 hx497_1 hx497_2 hx497_3 hx498_0 hx498_1 hx498_2 hx498_3 hHeld ⊢
        refine Zaf (i := 0) (N := some 17) (v := ?_) (a' := ?_) #[true, false, false, false, false, false, false, false, false, false] rfl rfl (Zag HT_.out (by kernel_rfl)) (fun _ _ _ h => h) (Or.inl ⟨by rfl, ?_⟩) ?_ ?_
        rotate_left
        ·intro w'
         go_simp
         with_reducible rfl
        rotate_left
        ·simp only [Act.put, ZD, ZE, ZF, Zu, Zv]
         rfl
        refine Zaf (i := 1) (N := some 18) (v := ?_) (a' := ?_) #[true, true, false, false, false, false, false, false, false, false] rfl rfl (Zag HT_.out (by kernel_rfl)) (fun _ _ _ h => h) (Or.inl ⟨by rfl, ?_⟩) ?_ ?_
        rotate_left
        ·intro w'
         go_simp
         with_reducible rfl
        rotate_left
        ·simp only [Act.put, ZD, ZE, ZF, Zu, Zv]
         rfl
        refine Zaf (i := 2) (N := some 19) (v := ?_) (a' := ?_) #[true, true, true, false, false, false, false, false, false, false] rfl rfl (Zag HT_.out (by kernel_rfl)) (fun _ _ _ h => h) (Or.inl ⟨by rfl, ?_⟩) ?_ ?_
        rotate_left
        ·intro w'
         go_simp
         with_reducible rfl
        rotate_left
        ·simp only [Act.put, ZD, ZE, ZF, Zu, Zv]
         rfl
        refine Zaf (i := 4) (N := some 21) (v := ?_) (a' := ?_) #[true, true, true, false, true, false, false, false, false, false] rfl rfl (Zag HT_.out (by kernel_rfl)) (fun _ _ _ h => h) (Or.inl ⟨by rfl, ?_⟩) ?_ ?_
        rotate_left
        ·intro w'
         go_simp
         with_reducible rfl
        rotate_left
        ·simp only [Act.put, ZD, ZE, ZF, Zu, Zv]
         rfl
        refine Zaf (i := 5) (N := some 22) (v := ?_) (a' := ?_) #[true, true, true, false, true, true, false, false, false, false] rfl rfl (Zag HT_.out (by kernel_rfl)) (fun _ _ _ h => h) (Or.inl ⟨by rfl, ?_⟩) ?_ ?_
        rotate_left
        ·intro w'
         go_simp
         with_reducible rfl
        rotate_left
        ·simp only [Act.put, ZD, ZE, ZF, Zu, Zv]
         rfl
        refine Zaf (i := 6) (N := some 23) (v := ?_) (a' := ?_) #[true, true, true, false, true, true, true, false, false, false] rfl rfl (Zag HT_.out (by kernel_rfl)) (fun _ _ _ h => h) (Or.inl ⟨by rfl, ?_⟩) ?_ ?_
        rotate_left
        ·intro w'
         go_simp
         with_reducible rfl
        rotate_left
        ·simp only [Act.put, ZD, ZE, ZF, Zu, Zv]
         rfl
        refine take_ (i := 3) (N := some 20) (v := ?_) (a' := ?_) #[true, true, true, true, true, true, true, false, false, false] rfl rfl (Zbt HT_.out HW_.out (by kernel_rfl)) (fun _ _ _ h => h) (Or.inl ⟨by rfl, ?_⟩) hHeld ?_ ?_
        rotate_left
        ·rintro w' ⟨s0, s1, s2, s3, s4, s5, s6, s7⟩
         go_simp
         with_reducible rfl
        rotate_left
        ·simp only [Act.put, ZD, ZE, ZF, Zu, Zv]
         rfl
        refine take_ (i := 7) (N := some 24) (v := ?_) (a' := ?_) #[true, true, true, true, true, true, true, true, false, false] rfl rfl (Zbt HT_.out HW_.out (by kernel_rfl)) (fun _ _ _ h => h) (Or.inl ⟨by rfl, ?_⟩) hHeld ?_ ?_
        rotate_left
        ·rintro w' ⟨s0, s1, s2, s3, s4, s5, s6, s7⟩
         go_simp
         with_reducible rfl
        rotate_left
        ·simp only [Act.put, ZD, ZE, ZF, Zu, Zv]
         rfl
        refine one_ (i := 8) (N := some 25) #[true, true, true, true, true, true, true, true, true, false] rfl rfl (one_of HT_.out (by kernel_rfl)) (by decide) (fun K hK => ?_)
        refine goes_ Try.func21 (by kernel_rfl) rfl #[.agg #[.int .u16 ((Zq l0 x5_1).f0), .int .u8 ((Zq l0 x5_1).f1), .int .u8 ((Zq l0 x5_1).f2), .int .u32 ((Zq l0 x5_1).f3)], .agg #[.int .u16 ((Zq l1 x5_1).f0), .int .u8 ((Zq l1 x5_1).f1), .int .u8 ((Zq l1 x5_1).f2), .int .u32 ((Zq l1 x5_1).f3)]] (by rfl) rfl rfl (by (try simp only [ZA, ZB, ZC]); first | done | rfl) ?_
        with_reducible refine (laws_eqIns.calls ((Zq l0 x5_1).f0) ((Zq l0 x5_1).f1) ((Zq l0 x5_1).f2) ((Zq l0 x5_1).f3) ((Zq l1 x5_1).f0) ((Zq l1 x5_1).f1) ((Zq l1 x5_1).f2) ((Zq l1 x5_1).f3) true _ A7.out).mono ?_
        rintro e w10 ⟨rfl, hb⟩
        refine ⟨_, rfl, ?_⟩
        replace HB := Za.mk (Zo (by with_reducible repeat first | exact HB.out | apply Zc | apply Ze | apply Zd) hb)
        (try clear hb)
        (try clear hb2)
        (try clear hk)
        (try clear hi)
        refine hK.out _ _ ⟨((HB.out.cell (World.block_lt_of_cell? w _ hw497_0)).trans hw497_0), ((HB.out.cell (World.block_lt_of_cell? w _ hw497_1)).trans hw497_1), ((HB.out.cell (World.block_lt_of_cell? w _ hw497_2)).trans hw497_2), ((HB.out.cell (World.block_lt_of_cell? w _ hw497_3)).trans hw497_3), ((HB.out.cell (World.block_lt_of_cell? w _ hw498_0)).trans hw498_0), ((HB.out.cell (World.block_lt_of_cell? w _ hw498_1)).trans hw498_1), ((HB.out.cell (World.block_lt_of_cell? w _ hw498_2)).trans hw498_2), ((HB.out.cell (World.block_lt_of_cell? w _ hw498_3)).trans hw498_3)⟩ (fun hHeld => ?_)
        clear hK K
        refine norm_ (a' := ?_) ?_ ?_
        rotate_left
        ·show Act.put _ (some 25) _ = _
         simp only [Act.put, ZD, ZE, ZF, Zu, Zv]
         rfl
        refine Zaf (i := 9) (N := some 26) (v := ?_) (a' := ?_) #[true, true, true, true, true, true, true, true, true, true] rfl rfl (Zag HT_.out (by kernel_rfl)) (fun _ _ _ h => h) (Or.inl ⟨by rfl, ?_⟩) ?_ ?_
        rotate_left
        ·intro w'
         go_simp
         with_reducible rfl
        rotate_left
        ·simp only [Act.put, ZD, ZE, ZF, Zu, Zv]
         rfl
        refine done_ (done_of HT_.out (by kernel_rfl)) ?_
        try go_wp2
        go_roundg k1
        case measure => have := HK1.out; omega
        case rel => exact ⟨(wrap64 (x5_1 + 1)), (by first | rfl | (simp; done) | (simp [*]; done)), H', ⟨by have := HK1.out; omega⟩, ⟨by with_reducible repeat first | exact HB.out | apply Zc | apply Ze | apply Zd⟩⟩
       replace c8 := Bool.eq_false_iff.mpr c8
       subst c8
       have H1 : (some false) = some r := by rw [if_neg (show ¬ (false = true) by decide)] at H; exact H
       clear H
       have H := H1
       clear H1
       obtain rfl := Option.some.inj H
       try go_wp2
       replace HB := Za.mk (Zd HB.out)
       have p497 : 0 ≤ (x5_1 : Int) := of_decide_eq_true (by assumption)
       have q497 : x5_1 < (l0.length : Int) := of_decide_eq_true (by assumption)
       obtain ⟨ad497, e497, hx497_0, hx497_1, hx497_2, hx497_3⟩ := at_T52 HR0.out x5_1 p497 q497
       have hw497_3 := hx497_3
       have hw497_2 := hx497_2
       have hw497_1 := hx497_1
       have hw497_0 := hx497_0
       cases e497
       replace hx497_0 := (HB.out.cell (World.block_lt_of_cell? w _ hx497_0)).trans hx497_0
       replace hx497_1 := (HB.out.cell (World.block_lt_of_cell? w _ hx497_1)).trans hx497_1
       replace hx497_2 := (HB.out.cell (World.block_lt_of_cell? w _ hx497_2)).trans hx497_2
       replace hx497_3 := (HB.out.cell (World.block_lt_of_cell? w _ hx497_3)).trans hx497_3
       replace p497 := eq_true p497
       replace q497 := eq_true q497
       have p498 : 0 ≤ (x5_1 : Int) := of_decide_eq_true (by assumption)
       have q498 : x5_1 < (l1.length : Int) := of_decide_eq_true (by assumption)
       obtain ⟨ad498, e498, hx498_0, hx498_1, hx498_2, hx498_3⟩ := at_T52 HR1.out x5_1 p498 q498
       have hw498_3 := hx498_3
       have hw498_2 := hx498_2
       have hw498_1 := hx498_1
       have hw498_0 := hx498_0
       cases e498
       replace hx498_0 := (HB.out.cell (World.block_lt_of_cell? w _ hx498_0)).trans hx498_0
       replace hx498_1 := (HB.out.cell (World.block_lt_of_cell? w _ hx498_1)).trans hx498_1
       replace hx498_2 := (HB.out.cell (World.block_lt_of_cell? w _ hx498_2)).trans hx498_2
       replace hx498_3 := (HB.out.cell (World.block_lt_of_cell? w _ hx498_3)).trans hx498_3
       replace p498 := eq_true p498
       replace q498 := eq_true q498
       refine start_ (n := 10) (S := fun w' => w'.cell? (ad497.add ((x5_1).toNat * 4)) = some (.int .u16 ((Zq l0 x5_1).f0)) ∧ w'.cell? ⟨(ad497.add ((x5_1).toNat * 4)).block, (ad497.add ((x5_1).toNat * 4)).off + 1, none⟩ = some (.int .u8 ((Zq l0 x5_1).f1)) ∧ w'.cell? ⟨(ad497.add ((x5_1).toNat * 4)).block, (ad497.add ((x5_1).toNat * 4)).off + 2, none⟩ = some (.int .u8 ((Zq l0 x5_1).f2)) ∧ w'.cell? ⟨(ad497.add ((x5_1).toNat * 4)).block, (ad497.add ((x5_1).toNat * 4)).off + 3, none⟩ = some (.int .u32 ((Zq l0 x5_1).f3)) ∧ w'.cell? (ad498.add ((x5_1).toNat * 4)) = some (.int .u16 ((Zq l1 x5_1).f0)) ∧ w'.cell? ⟨(ad498.add ((x5_1).toNat * 4)).block, (ad498.add ((x5_1).toNat * 4)).off + 1, none⟩ = some (.int .u8 ((Zq l1 x5_1).f1)) ∧ w'.cell? ⟨(ad498.add ((x5_1).toNat * 4)).block, (ad498.add ((x5_1).toNat * 4)).off + 2, none⟩ = some (.int .u8 ((Zq l1 x5_1).f2)) ∧ w'.cell? ⟨(ad498.add ((x5_1).toNat * 4)).block, (ad498.add ((x5_1).toNat * 4)).off + 3, none⟩ = some (.int .u32 ((Zq l1 x5_1).f3))) (ds := []) #[false, false, false, false, false, false, false, false, false, false] (by kernel_rfl) rfl rfl ⟨((HB.out.cell (World.block_lt_of_cell? w _ hw497_0)).trans hw497_0), ((HB.out.cell (World.block_lt_of_cell? w _ hw497_1)).trans hw497_1), ((HB.out.cell (World.block_lt_of_cell? w _ hw497_2)).trans hw497_2), ((HB.out.cell (World.block_lt_of_cell? w _ hw497_3)).trans hw497_3), ((HB.out.cell (World.block_lt_of_cell? w _ hw498_0)).trans hw498_0), ((HB.out.cell (World.block_lt_of_cell? w _ hw498_1)).trans hw498_1), ((HB.out.cell (World.block_lt_of_cell? w _ hw498_2)).trans hw498_2), ((HB.out.cell (World.block_lt_of_cell? w _ hw498_3)).trans hw498_3)⟩ (fun hHeld => ?_); refine with_tabW Zbj.tab6 Zbj.bits6 (fun HT_ HW_ => ?_)
       generalize wr.drew = w11 at HB hx497_0 hx497_1 hx497_2 hx497_3 hx498_0 hx498_1 hx498_2 hx498_3 hHeld ⊢
       refine Zaf (i := 0) (N := some 17) (v := ?_) (a' := ?_) #[true, false, false, false, false, false, false, false, false, false] rfl rfl (Zag HT_.out (by kernel_rfl)) (fun _ _ _ h => h) (Or.inl ⟨by rfl, ?_⟩) ?_ ?_
       rotate_left
       ·intro w'
        go_simp
        with_reducible rfl
       rotate_left
       ·simp only [Act.put, ZD, ZE, ZF, Zu, Zv]
        rfl
       refine Zaf (i := 1) (N := some 18) (v := ?_) (a' := ?_) #[true, true, false, false, false, false, false, false, false, false] rfl rfl (Zag HT_.out (by kernel_rfl)) (fun _ _ _ h => h) (Or.inl ⟨by rfl, ?_⟩) ?_ ?_
       rotate_left
       ·intro w'
        go_simp
        with_reducible rfl
       rotate_left
       ·simp only [Act.put, ZD, ZE, ZF, Zu, Zv]
        rfl
       refine Zaf (i := 2) (N := some 19) (v := ?_) (a' := ?_) #[true, true, true, false, false, false, false, false, false, false] rfl rfl (Zag HT_.out (by kernel_rfl)) (fun _ _ _ h => h) (Or.inl ⟨by rfl, ?_⟩) ?_ ?_
       rotate_left
       ·intro w'
        go_simp
        with_reducible rfl
       rotate_left
       ·simp only [Act.put, ZD, ZE, ZF, Zu, Zv]
        rfl
       refine Zaf (i := 4) (N := some 21) (v := ?_) (a' := ?_) #[true, true, true, false, true, false, false, false, false, false] rfl rfl (Zag HT_.out (by kernel_rfl)) (fun _ _ _ h => h) (Or.inl ⟨by rfl, ?_⟩) ?_ ?_
       rotate_left
       ·intro w'
        go_simp
        with_reducible rfl
       rotate_left
       ·simp only [Act.put, ZD, ZE, ZF, Zu, Zv]
        rfl
       refine Zaf (i := 5) (N := some 22) (v := ?_) (a' := ?_) #[true, true, true, false, true, true, false, false, false, false] rfl rfl (Zag HT_.out (by kernel_rfl)) (fun _ _ _ h => h) (Or.inl ⟨by rfl, ?_⟩) ?_ ?_
       rotate_left
       ·intro w'
        go_simp
        with_reducible rfl
       rotate_left
       ·simp only [Act.put, ZD, ZE, ZF, Zu, Zv]
        rfl
       refine Zaf (i := 6) (N := some 23) (v := ?_) (a' := ?_) #[true, true, true, false, true, true, true, false, false, false] rfl rfl (Zag HT_.out (by kernel_rfl)) (fun _ _ _ h => h) (Or.inl ⟨by rfl, ?_⟩) ?_ ?_
       rotate_left
       ·intro w'
        go_simp
        with_reducible rfl
       rotate_left
       ·simp only [Act.put, ZD, ZE, ZF, Zu, Zv]
        rfl
       refine take_ (i := 3) (N := some 20) (v := ?_) (a' := ?_) #[true, true, true, true, true, true, true, false, false, false] rfl rfl (Zbt HT_.out HW_.out (by kernel_rfl)) (fun _ _ _ h => h) (Or.inl ⟨by rfl, ?_⟩) hHeld ?_ ?_
       rotate_left
       ·rintro w' ⟨s0, s1, s2, s3, s4, s5, s6, s7⟩
        go_simp
        with_reducible rfl
       rotate_left
       ·simp only [Act.put, ZD, ZE, ZF, Zu, Zv]
        rfl
       refine take_ (i := 7) (N := some 24) (v := ?_) (a' := ?_) #[true, true, true, true, true, true, true, true, false, false] rfl rfl (Zbt HT_.out HW_.out (by kernel_rfl)) (fun _ _ _ h => h) (Or.inl ⟨by rfl, ?_⟩) hHeld ?_ ?_
       rotate_left
       ·rintro w' ⟨s0, s1, s2, s3, s4, s5, s6, s7⟩
        go_simp
        with_reducible rfl
       rotate_left
       ·simp only [Act.put, ZD, ZE, ZF, Zu, Zv]
        rfl
       refine one_ (i := 8) (N := some 25) #[true, true, true, true, true, true, true, true, true, false] rfl rfl (one_of HT_.out (by kernel_rfl)) (by decide) (fun K hK => ?_)
       refine goes_ Try.func21 (by kernel_rfl) rfl #[.agg #[.int .u16 ((Zq l0 x5_1).f0), .int .u8 ((Zq l0 x5_1).f1), .int .u8 ((Zq l0 x5_1).f2), .int .u32 ((Zq l0 x5_1).f3)], .agg #[.int .u16 ((Zq l1 x5_1).f0), .int .u8 ((Zq l1 x5_1).f1), .int .u8 ((Zq l1 x5_1).f2), .int .u32 ((Zq l1 x5_1).f3)]] (by rfl) rfl rfl (by (try simp only [ZA, ZB, ZC]); first | done | rfl) ?_
       with_reducible refine (laws_eqIns.calls ((Zq l0 x5_1).f0) ((Zq l0 x5_1).f1) ((Zq l0 x5_1).f2) ((Zq l0 x5_1).f3) ((Zq l1 x5_1).f0) ((Zq l1 x5_1).f1) ((Zq l1 x5_1).f2) ((Zq l1 x5_1).f3) false _ A7.out).mono ?_
       rintro e w12 ⟨rfl, hb⟩
       refine ⟨_, rfl, ?_⟩
       replace HB := Za.mk (Zo (by with_reducible repeat first | exact HB.out | apply Zc | apply Ze | apply Zd) hb)
       (try clear hb)
       (try clear hb2)
       (try clear hk)
       (try clear hi)
       refine hK.out _ _ ⟨((HB.out.cell (World.block_lt_of_cell? w _ hw497_0)).trans hw497_0), ((HB.out.cell (World.block_lt_of_cell? w _ hw497_1)).trans hw497_1), ((HB.out.cell (World.block_lt_of_cell? w _ hw497_2)).trans hw497_2), ((HB.out.cell (World.block_lt_of_cell? w _ hw497_3)).trans hw497_3), ((HB.out.cell (World.block_lt_of_cell? w _ hw498_0)).trans hw498_0), ((HB.out.cell (World.block_lt_of_cell? w _ hw498_1)).trans hw498_1), ((HB.out.cell (World.block_lt_of_cell? w _ hw498_2)).trans hw498_2), ((HB.out.cell (World.block_lt_of_cell? w _ hw498_3)).trans hw498_3)⟩ (fun hHeld => ?_)
       clear hK K
       refine norm_ (a' := ?_) ?_ ?_
       rotate_left
       ·show Act.put _ (some 25) _ = _
        simp only [Act.put, ZD, ZE, ZF, Zu, Zv]
        rfl
       refine Zaf (i := 9) (N := some 26) (v := ?_) (a' := ?_) #[true, true, true, true, true, true, true, true, true, true] rfl rfl (Zag HT_.out (by kernel_rfl)) (fun _ _ _ h => h) (Or.inl ⟨by rfl, ?_⟩) ?_ ?_
       rotate_left
       ·intro w'
        go_simp
        with_reducible rfl
       rotate_left
       ·simp only [Act.put, ZD, ZE, ZF, Zu, Zv]
        rfl
       refine done_ (done_of HT_.out (by kernel_rfl)) ?_
       try go_wp2
       go_ret
       exact ⟨by first | rfl | (simp [Zm, Zn] <;> rfl) | (simp [*, Zm, Zn] <;> rfl), by with_reducible repeat first | exact HB.out | apply Zc | apply Ze | apply Zd⟩
      rw [if_neg c6] at H
      exact absurd H (by simp)
     rw [if_neg c5] at H
     exact absurd H (by simp)
    rw [if_neg c4] at H
    have c4b0 : decide (x5_1 < (l0.length : Int)) = false := decide_eq_false c4
    clear c4
    obtain rfl := Option.some.inj H
    go_wp2
    go_ret
    exact ⟨by first | rfl | (simp [Zm, Zn] <;> rfl) | (simp [*, Zm, Zn] <;> rfl), by with_reducible repeat first | exact HB.out | apply Zc | apply Ze | apply Zd⟩
 rw [if_neg c3] at H
 have c3b0 : ((l0.length : Int) == (l1.length : Int)) = false := beq_eq_false_iff_ne.mpr c3
 have c3b1 : ((l0.length : Int) != (l1.length : Int)) = true := bne_iff_ne.mpr c3
 have c3b2 : (l0.length == l1.length) = false := by first | simpa using c3 | (simp at c3 ⊢; omega)
 obtain rfl := Option.some.inj H
 go_enter Try.func8, Try.ntmps8
 go_wp2
 go_ret
 exact ⟨by first | rfl | (simp [Zm, Zn] <;> rfl) | (simp [*, Zm, Zn] <;> rfl), by with_reducible repeat first | exact HB.out | apply Zc | apply Ze | apply Zd⟩
theorem rdIns_eq (l : List S52) (i : Nat) (h : i < l.length) : Zq l (i : Int) = l[i] := by
 simp [Zq, List.getD_eq_getElem?_getD, List.getElem?_eq_getElem h]
theorem eqIns_is (a b : S52) : laws_eqIns.f a.f0 a.f1 a.f2 a.f3 b.f0 b.f1 b.f2 b.f3 = some true ∧ a = b ∨ laws_eqIns.f a.f0 a.f1 a.f2 a.f3 b.f0 b.f1 b.f2 b.f3 = some false ∧ a ≠ b := by
 obtain ⟨a0, a1, a2, a3⟩ := a
 obtain ⟨b0, b1, b2, b3⟩ := b
 simp only [laws_eqIns.f, S52.mk.injEq, ne_eq]
 by_cases h0 : a0 = b0 <;> by_cases h1 : a1 = b1 <;> by_cases h2 : a2 = b2 <;> by_cases h3 : a3 = b3 <;> simp [h0, h1, h2, h3]
theorem eqInsS_ev (a b : List S52) (ha : a.length ≤ 35184372088832) (r : Bool) (hr : r = true ↔ a = b) : Ev (fun k => Zbj.f k a b) r := by
 by_cases h : a.length = b.length
 ·refine Ev.congr (f := fun k => Zbj.l0 k a b 0) (fun k => by unfold Zbj.f; rw [if_pos (by omega)]) ?_
  refine ev_loop_eq (fun k i => Zbj.l0 k a b i) a b h (ev_end fun k => ?_) (fun i hi hi' e r hr => Zbe _ (fun k => ?_) hr) (fun i hi hi' e => ev_end fun k => ?_) r hr
  ·simp only [Zbj.l0]; rw [if_neg (by omega)]
  ·simp only [Zbj.l0]
   rcases eqIns_is a[i] b[i] with ⟨h1, _⟩ | ⟨_, h1⟩
   ·rw [if_pos (by omega), if_pos (by omega), if_pos (by omega), rdIns_eq a i hi, rdIns_eq b i hi', h1, Option.bind_some, if_pos rfl, Zae (by omega) (by omega)]; rfl
   ·exact absurd e h1
  ·simp only [Zbj.l0]
   rcases eqIns_is a[i] b[i] with ⟨_, h1⟩ | ⟨h1, _⟩
   ·exact absurd h1 e
   ·rw [if_pos (by omega), if_pos (by omega), if_pos (by omega), rdIns_eq a i hi, rdIns_eq b i hi', h1, Option.bind_some, if_neg (by decide)]
 ·have e : r = false := by
   cases r with
   | false => rfl
   | true => exact absurd (congrArg List.length (hr.1 rfl)) h
  rw [e]
  exact ev_is fun k => by unfold Zbj.f; rw [if_neg (by omega)]
mutual
def Zap.j0 : Nat → Int → Bool → Option (Int)
 | 0, _, _ => none
 | k + 1, x3, x4 => if x4 = true then (some 1) else (if x3 = 5 then (some 3) else (if x3 = 21 then (Zap.j1 k x3 (x3 == 21)) else (if x3 = 29 then (Zap.j1 k x3 (x3 == 29)) else (if x3 = 37 then (Zap.j1 k x3 (x3 == 37)) else (if x3 = 45 then (Zap.j1 k x3 (x3 == 45)) else (if x3 = 53 then (Zap.j1 k x3 (x3 == 53)) else (if x3 = 61 then (Zap.j1 k x3 (x3 == 61)) else (if x3 = 69 then (Zap.j1 k x3 (x3 == 69)) else (Zap.j1 k x3 (x3 == 77))))))))))
def Zap.j1 : Nat → Int → Bool → Option (Int)
 | 0, _, _ => none
 | k + 1, x3, x35 => if x35 = true then (some 2) else (if x3 = 6 then (some 4) else (if x3 = 22 then (some 4) else (some 0)))
end
def Zap.f (k : Nat) (a0 : Int) : Option (Int) := if a0 = 0 then (Zap.j0 k a0 (a0 == 0)) else (if a0 = 1 then (Zap.j0 k a0 (a0 == 1)) else (if a0 = 32 then (Zap.j0 k a0 (a0 == 32)) else (if a0 = 96 then (Zap.j0 k a0 (a0 == 96)) else (if a0 = 97 then (Zap.j0 k a0 (a0 == 97)) else (if a0 = 2 then (Zap.j0 k a0 (a0 == 2)) else (if a0 = 3 then (Zap.j0 k a0 (a0 == 3)) else (if a0 = 4 then (Zap.j0 k a0 (a0 == 4)) else (if a0 = 12 then (Zap.j0 k a0 (a0 == 12)) else (if a0 = 20 then (Zap.j0 k a0 (a0 == 20)) else (if a0 = 28 then (Zap.j0 k a0 (a0 == 28)) else (if a0 = 36 then (Zap.j0 k a0 (a0 == 36)) else (if a0 = 44 then (Zap.j0 k a0 (a0 == 44)) else (if a0 = 52 then (Zap.j0 k a0 (a0 == 52)) else (if a0 = 60 then (Zap.j0 k a0 (a0 == 60)) else (if a0 = 68 then (Zap.j0 k a0 (a0 == 68)) else (if a0 = 76 then (Zap.j0 k a0 (a0 == 76)) else (if a0 = 84 then (Zap.j0 k a0 (a0 == 84)) else (if a0 = 92 then (Zap.j0 k a0 (a0 == 92)) else (if a0 = 164 then (Zap.j0 k a0 (a0 == 164)) else (if a0 = 172 then (Zap.j0 k a0 (a0 == 172)) else (if a0 = 100 then (Zap.j0 k a0 (a0 == 100)) else (if a0 = 108 then (Zap.j0 k a0 (a0 == 108)) else (if a0 = 116 then (Zap.j0 k a0 (a0 == 116)) else (if a0 = 124 then (Zap.j0 k a0 (a0 == 124)) else (if a0 = 132 then (Zap.j0 k a0 (a0 == 132)) else (if a0 = 7 then (Zap.j0 k a0 (a0 == 7)) else (Zap.j0 k a0 (a0 == 135))))))))))))))))))))))))))))
set_option maxHeartbeats 8000000 in
set_option maxRecDepth 100000 in
theorem Zap.calls (k : Nat) (a0 : Int) (r : Int) (w : World) (h : Zap.f k a0 = some r) :
  Calls Try.prog 61 #[.int .u16 a0] w fun e w' => e = .returned (.int .i64 r) ∧ Zr w w' := by
 have H := h
 unfold Zap.f at H
 clear h
 have HC2 := Za.mk H
 clear H
 go_enter Try.func61, Try.ntmps61
 go_upto_if 4 with (fail)
 go_cut [4] (fun v4 wc => ∃ (kq : Nat) (x4_1 : Bool), v4 = .bool x4_1 ∧ Za (Zap.j0 kq a0 x4_1 = some r) ∧ Za (kq ≤ k) ∧ Zr w wc)
 case first =>
  have H := HC2.out
  clear HC2
  by_cases c3 : a0 = 0
  ·rw [if_pos c3] at H
   have c3b0 : (a0 == 0) = true := beq_iff_eq.mpr c3
   have c3b1 : (a0 != 0) = false := bne_eq_false_iff_eq.mpr c3
   clear c3
   (first | rw [c3b0] | (simp only [Zu, Zv]; rw [c3b0]) | skip)
   have H' := Za.mk H
   clear H
   go_wp2
   go_meet
   case rel => exact ⟨_, ((a0 == 0)), (by first | rfl | (simp; done) | (simp [*]; done)), H', ⟨by first | omega | exact Nat.le_refl _⟩, by repeat (first | exact Zr.refl _ | apply Zr.step)⟩
  rw [if_neg c3] at H
  have c3b0 : (a0 == 0) = false := beq_eq_false_iff_ne.mpr c3
  have c3b1 : (a0 != 0) = true := bne_iff_ne.mpr c3
  (first | rw [c3b0] | (simp only [Zu, Zv]; rw [c3b0]) | skip)
  by_cases c4 : a0 = 1
  ·rw [if_pos c4] at H
   have c4b0 : (a0 == 1) = true := beq_iff_eq.mpr c4
   have c4b1 : (a0 != 1) = false := bne_eq_false_iff_eq.mpr c4
   clear c4
   have H' := Za.mk H
   clear H
   go_wp2
   go_meet
   case rel => exact ⟨_, ((a0 == 1)), (by first | rfl | (simp; done) | (simp [*]; done)), H', ⟨by first | omega | exact Nat.le_refl _⟩, by repeat (first | exact Zr.refl _ | apply Zr.step)⟩
  rw [if_neg c4] at H
  have c4b0 : (a0 == 1) = false := beq_eq_false_iff_ne.mpr c4
  have c4b1 : (a0 != 1) = true := bne_iff_ne.mpr c4
  by_cases c5 : a0 = 32
  ·rw [if_pos c5] at H
   have c5b0 : (a0 == 32) = true := beq_iff_eq.mpr c5
   have c5b1 : (a0 != 32) = false := bne_eq_false_iff_eq.mpr c5
   clear c5
   have H' := Za.mk H
   clear H
   go_wp2
   go_meet
   case rel => exact ⟨_, ((a0 == 32)), (by first | rfl | (simp; done) | (simp [*]; done)), H', ⟨by first | omega | exact Nat.le_refl _⟩, by repeat (first | exact Zr.refl _ | apply Zr.step)⟩
  rw [if_neg c5] at H
  have c5b0 : (a0 == 32) = false := beq_eq_false_iff_ne.mpr c5
  have c5b1 : (a0 != 32) = true := bne_iff_ne.mpr c5
  by_cases c6 : a0 = 96
  ·rw [if_pos c6] at H
   have c6b0 : (a0 == 96) = true := beq_iff_eq.mpr c6
   have c6b1 : (a0 != 96) = false := bne_eq_false_iff_eq.mpr c6
   clear c6
   have H' := Za.mk H
   clear H
   go_wp2
   go_meet
   case rel => exact ⟨_, ((a0 == 96)), (by first | rfl | (simp; done) | (simp [*]; done)), H', ⟨by first | omega | exact Nat.le_refl _⟩, by repeat (first | exact Zr.refl _ | apply Zr.step)⟩
  rw [if_neg c6] at H
  have c6b0 : (a0 == 96) = false := beq_eq_false_iff_ne.mpr c6
  have c6b1 : (a0 != 96) = true := bne_iff_ne.mpr c6
  by_cases c7 : a0 = 97
  ·rw [if_pos c7] at H
   have c7b0 : (a0 == 97) = true := beq_iff_eq.mpr c7
   have c7b1 : (a0 != 97) = false := bne_eq_false_iff_eq.mpr c7
   clear c7
   have H' := Za.mk H
   clear H
   go_wp2
   go_meet
   case rel => exact ⟨_, ((a0 == 97)), (by first | rfl | (simp; done) | (simp [*]; done)), H', ⟨by first | omega | exact Nat.le_refl _⟩, by repeat (first | exact Zr.refl _ | apply Zr.step)⟩
  rw [if_neg c7] at H
  have c7b0 : (a0 == 97) = false := beq_eq_false_iff_ne.mpr c7
  have c7b1 : (a0 != 97) = true := bne_iff_ne.mpr c7
  by_cases c8 : a0 = 2
  ·rw [if_pos c8] at H
   have c8b0 : (a0 == 2) = true := beq_iff_eq.mpr c8
   have c8b1 : (a0 != 2) = false := bne_eq_false_iff_eq.mpr c8
   clear c8
   have H' := Za.mk H
   clear H
   go_wp2
   go_meet
   case rel => exact ⟨_, ((a0 == 2)), (by first | rfl | (simp; done) | (simp [*]; done)), H', ⟨by first | omega | exact Nat.le_refl _⟩, by repeat (first | exact Zr.refl _ | apply Zr.step)⟩
  rw [if_neg c8] at H
  have c8b0 : (a0 == 2) = false := beq_eq_false_iff_ne.mpr c8
  have c8b1 : (a0 != 2) = true := bne_iff_ne.mpr c8
  by_cases c9 : a0 = 3
  ·rw [if_pos c9] at H
   have c9b0 : (a0 == 3) = true := beq_iff_eq.mpr c9
   have c9b1 : (a0 != 3) = false := bne_eq_false_iff_eq.mpr c9
   clear c9
   have H' := Za.mk H
   clear H
   go_wp2
   go_meet
   case rel => exact ⟨_, ((a0 == 3)), (by first | rfl | (simp; done) | (simp [*]; done)), H', ⟨by first | omega | exact Nat.le_refl _⟩, by repeat (first | exact Zr.refl _ | apply Zr.step)⟩
  rw [if_neg c9] at H
  have c9b0 : (a0 == 3) = false := beq_eq_false_iff_ne.mpr c9
  have c9b1 : (a0 != 3) = true := bne_iff_ne.mpr c9
  by_cases c10 : a0 = 4
  ·rw [if_pos c10] at H
   have c10b0 : (a0 == 4) = true := beq_iff_eq.mpr c10
   have c10b1 : (a0 != 4) = false := bne_eq_false_iff_eq.mpr c10
   clear c10
   have H' := Za.mk H
   clear H
   go_wp2
   go_meet
   case rel => exact ⟨_, ((a0 == 4)), (by first | rfl | (simp; done) | (simp [*]; done)), H', ⟨by first | omega | exact Nat.le_refl _⟩, by repeat (first | exact Zr.refl _ | apply Zr.step)⟩
  rw [if_neg c10] at H
  have c10b0 : (a0 == 4) = false := beq_eq_false_iff_ne.mpr c10
  have c10b1 : (a0 != 4) = true := bne_iff_ne.mpr c10
  by_cases c11 : a0 = 12
  ·rw [if_pos c11] at H
   have c11b0 : (a0 == 12) = true := beq_iff_eq.mpr c11
   have c11b1 : (a0 != 12) = false := bne_eq_false_iff_eq.mpr c11
   clear c11
   have H' := Za.mk H
   clear H
   go_wp2
   go_meet
   case rel => exact ⟨_, ((a0 == 12)), (by first | rfl | (simp; done) | (simp [*]; done)), H', ⟨by first | omega | exact Nat.le_refl _⟩, by repeat (first | exact Zr.refl _ | apply Zr.step)⟩
  rw [if_neg c11] at H
  have c11b0 : (a0 == 12) = false := beq_eq_false_iff_ne.mpr c11
  have c11b1 : (a0 != 12) = true := bne_iff_ne.mpr c11
  by_cases c12 : a0 = 20
  ·rw [if_pos c12] at H
   have c12b0 : (a0 == 20) = true := beq_iff_eq.mpr c12
   have c12b1 : (a0 != 20) = false := bne_eq_false_iff_eq.mpr c12
   clear c12
   have H' := Za.mk H
   clear H
   go_wp2
   go_meet
   case rel => exact ⟨_, ((a0 == 20)), (by first | rfl | (simp; done) | (simp [*]; done)), H', ⟨by first | omega | exact Nat.le_refl _⟩, by repeat (first | exact Zr.refl _ | apply Zr.step)⟩
  rw [if_neg c12] at H
  have c12b0 : (a0 == 20) = false := beq_eq_false_iff_ne.mpr c12
  have c12b1 : (a0 != 20) = true := bne_iff_ne.mpr c12
  by_cases c13 : a0 = 28
  ·rw [if_pos c13] at H
   have c13b0 : (a0 == 28) = true := beq_iff_eq.mpr c13
   have c13b1 : (a0 != 28) = false := bne_eq_false_iff_eq.mpr c13
   clear c13
   have H' := Za.mk H
   clear H
   go_wp2
   go_meet
   case rel => exact ⟨_, ((a0 == 28)), (by first | rfl | (simp; done) | (simp [*]; done)), H', ⟨by first | omega | exact Nat.le_refl _⟩, by repeat (first | exact Zr.refl _ | apply Zr.step)⟩
  rw [if_neg c13] at H
  have c13b0 : (a0 == 28) = false := beq_eq_false_iff_ne.mpr c13
  have c13b1 : (a0 != 28) = true := bne_iff_ne.mpr c13
  by_cases c14 : a0 = 36
  ·rw [if_pos c14] at H
   have c14b0 : (a0 == 36) = true := beq_iff_eq.mpr c14
   have c14b1 : (a0 != 36) = false := bne_eq_false_iff_eq.mpr c14
   clear c14
   have H' := Za.mk H
   clear H
   go_wp2
   go_meet
   case rel => exact ⟨_, ((a0 == 36)), (by first | rfl | (simp; done) | (simp [*]; done)), H', ⟨by first | omega | exact Nat.le_refl _⟩, by repeat (first | exact Zr.refl _ | apply Zr.step)⟩
  rw [if_neg c14] at H
  have c14b0 : (a0 == 36) = false := beq_eq_false_iff_ne.mpr c14
  have c14b1 : (a0 != 36) = true := bne_iff_ne.mpr c14
  by_cases c15 : a0 = 44
  ·rw [if_pos c15] at H
   have c15b0 : (a0 == 44) = true := beq_iff_eq.mpr c15
   have c15b1 : (a0 != 44) = false := bne_eq_false_iff_eq.mpr c15
   clear c15
   have H' := Za.mk H
   clear H
   go_wp2
   go_meet
   case rel => exact ⟨_, ((a0 == 44)), (by first | rfl | (simp; done) | (simp [*]; done)), H', ⟨by first | omega | exact Nat.le_refl _⟩, by repeat (first | exact Zr.refl _ | apply Zr.step)⟩
  rw [if_neg c15] at H
  have c15b0 : (a0 == 44) = false := beq_eq_false_iff_ne.mpr c15
  have c15b1 : (a0 != 44) = true := bne_iff_ne.mpr c15
  by_cases c16 : a0 = 52
  ·rw [if_pos c16] at H
   have c16b0 : (a0 == 52) = true := beq_iff_eq.mpr c16
   have c16b1 : (a0 != 52) = false := bne_eq_false_iff_eq.mpr c16
   clear c16
   have H' := Za.mk H
   clear H
   go_wp2
   go_meet
   case rel => exact ⟨_, ((a0 == 52)), (by first | rfl | (simp; done) | (simp [*]; done)), H', ⟨by first | omega | exact Nat.le_refl _⟩, by repeat (first | exact Zr.refl _ | apply Zr.step)⟩
  rw [if_neg c16] at H
  have c16b0 : (a0 == 52) = false := beq_eq_false_iff_ne.mpr c16
  have c16b1 : (a0 != 52) = true := bne_iff_ne.mpr c16
  by_cases c17 : a0 = 60
  ·rw [if_pos c17] at H
   have c17b0 : (a0 == 60) = true := beq_iff_eq.mpr c17
   have c17b1 : (a0 != 60) = false := bne_eq_false_iff_eq.mpr c17
   clear c17
   have H' := Za.mk H
   clear H
   go_wp2
   go_meet
   case rel => exact ⟨_, ((a0 == 60)), (by first | rfl | (simp; done) | (simp [*]; done)), H', ⟨by first | omega | exact Nat.le_refl _⟩, by repeat (first | exact Zr.refl _ | apply Zr.step)⟩
  rw [if_neg c17] at H
  have c17b0 : (a0 == 60) = false := beq_eq_false_iff_ne.mpr c17
  have c17b1 : (a0 != 60) = true := bne_iff_ne.mpr c17
  by_cases c18 : a0 = 68
  ·rw [if_pos c18] at H
   have c18b0 : (a0 == 68) = true := beq_iff_eq.mpr c18
   have c18b1 : (a0 != 68) = false := bne_eq_false_iff_eq.mpr c18
   clear c18
   have H' := Za.mk H
   clear H
   go_wp2
   go_meet
   case rel => exact ⟨_, ((a0 == 68)), (by first | rfl | (simp; done) | (simp [*]; done)), H', ⟨by first | omega | exact Nat.le_refl _⟩, by repeat (first | exact Zr.refl _ | apply Zr.step)⟩
  rw [if_neg c18] at H
  have c18b0 : (a0 == 68) = false := beq_eq_false_iff_ne.mpr c18
  have c18b1 : (a0 != 68) = true := bne_iff_ne.mpr c18
  by_cases c19 : a0 = 76
  ·rw [if_pos c19] at H
   have c19b0 : (a0 == 76) = true := beq_iff_eq.mpr c19
   have c19b1 : (a0 != 76) = false := bne_eq_false_iff_eq.mpr c19
   clear c19
   have H' := Za.mk H
   clear H
   go_wp2
   go_meet
   case rel => exact ⟨_, ((a0 == 76)), (by first | rfl | (simp; done) | (simp [*]; done)), H', ⟨by first | omega | exact Nat.le_refl _⟩, by repeat (first | exact Zr.refl _ | apply Zr.step)⟩
  rw [if_neg c19] at H
  have c19b0 : (a0 == 76) = false := beq_eq_false_iff_ne.mpr c19
  have c19b1 : (a0 != 76) = true := bne_iff_ne.mpr c19
  by_cases c20 : a0 = 84
  ·rw [if_pos c20] at H
   have c20b0 : (a0 == 84) = true := beq_iff_eq.mpr c20
   have c20b1 : (a0 != 84) = false := bne_eq_false_iff_eq.mpr c20
   clear c20
   have H' := Za.mk H
   clear H
   go_wp2
   go_meet
   case rel => exact ⟨_, ((a0 == 84)), (by first | rfl | (simp; done) | (simp [*]; done)), H', ⟨by first | omega | exact Nat.le_refl _⟩, by repeat (first | exact Zr.refl _ | apply Zr.step)⟩
  rw [if_neg c20] at H
  have c20b0 : (a0 == 84) = false := beq_eq_false_iff_ne.mpr c20
  have c20b1 : (a0 != 84) = true := bne_iff_ne.mpr c20
  by_cases c21 : a0 = 92
  ·rw [if_pos c21] at H
   have c21b0 : (a0 == 92) = true := beq_iff_eq.mpr c21
   have c21b1 : (a0 != 92) = false := bne_eq_false_iff_eq.mpr c21
   clear c21
   have H' := Za.mk H
   clear H
   go_wp2
   go_meet
   case rel => exact ⟨_, ((a0 == 92)), (by first | rfl | (simp; done) | (simp [*]; done)), H', ⟨by first | omega | exact Nat.le_refl _⟩, by repeat (first | exact Zr.refl _ | apply Zr.step)⟩
  rw [if_neg c21] at H
  have c21b0 : (a0 == 92) = false := beq_eq_false_iff_ne.mpr c21
  have c21b1 : (a0 != 92) = true := bne_iff_ne.mpr c21
  by_cases c22 : a0 = 164
  ·rw [if_pos c22] at H
   have c22b0 : (a0 == 164) = true := beq_iff_eq.mpr c22
   have c22b1 : (a0 != 164) = false := bne_eq_false_iff_eq.mpr c22
   clear c22
   have H' := Za.mk H
   clear H
   go_wp2
   go_meet
   case rel => exact ⟨_, ((a0 == 164)), (by first | rfl | (simp; done) | (simp [*]; done)), H', ⟨by first | omega | exact Nat.le_refl _⟩, by repeat (first | exact Zr.refl _ | apply Zr.step)⟩
  rw [if_neg c22] at H
  have c22b0 : (a0 == 164) = false := beq_eq_false_iff_ne.mpr c22
  have c22b1 : (a0 != 164) = true := bne_iff_ne.mpr c22
  by_cases c23 : a0 = 172
  ·rw [if_pos c23] at H
   have c23b0 : (a0 == 172) = true := beq_iff_eq.mpr c23
   have c23b1 : (a0 != 172) = false := bne_eq_false_iff_eq.mpr c23
   clear c23
   have H' := Za.mk H
   clear H
   go_wp2
   go_meet
   case rel => exact ⟨_, ((a0 == 172)), (by first | rfl | (simp; done) | (simp [*]; done)), H', ⟨by first | omega | exact Nat.le_refl _⟩, by repeat (first | exact Zr.refl _ | apply Zr.step)⟩
  rw [if_neg c23] at H
  have c23b0 : (a0 == 172) = false := beq_eq_false_iff_ne.mpr c23
  have c23b1 : (a0 != 172) = true := bne_iff_ne.mpr c23
  by_cases c24 : a0 = 100
  ·rw [if_pos c24] at H
   have c24b0 : (a0 == 100) = true := beq_iff_eq.mpr c24
   have c24b1 : (a0 != 100) = false := bne_eq_false_iff_eq.mpr c24
   clear c24
   have H' := Za.mk H
   clear H
   go_wp2
   go_meet
   case rel => exact ⟨_, ((a0 == 100)), (by first | rfl | (simp; done) | (simp [*]; done)), H', ⟨by first | omega | exact Nat.le_refl _⟩, by repeat (first | exact Zr.refl _ | apply Zr.step)⟩
  rw [if_neg c24] at H
  have c24b0 : (a0 == 100) = false := beq_eq_false_iff_ne.mpr c24
  have c24b1 : (a0 != 100) = true := bne_iff_ne.mpr c24
  by_cases c25 : a0 = 108
  ·rw [if_pos c25] at H
   have c25b0 : (a0 == 108) = true := beq_iff_eq.mpr c25
   have c25b1 : (a0 != 108) = false := bne_eq_false_iff_eq.mpr c25
   clear c25
   have H' := Za.mk H
   clear H
   go_wp2
   go_meet
   case rel => exact ⟨_, ((a0 == 108)), (by first | rfl | (simp; done) | (simp [*]; done)), H', ⟨by first | omega | exact Nat.le_refl _⟩, by repeat (first | exact Zr.refl _ | apply Zr.step)⟩
  rw [if_neg c25] at H
  have c25b0 : (a0 == 108) = false := beq_eq_false_iff_ne.mpr c25
  have c25b1 : (a0 != 108) = true := bne_iff_ne.mpr c25
  by_cases c26 : a0 = 116
  ·rw [if_pos c26] at H
   have c26b0 : (a0 == 116) = true := beq_iff_eq.mpr c26
   have c26b1 : (a0 != 116) = false := bne_eq_false_iff_eq.mpr c26
   clear c26
   have H' := Za.mk H
   clear H
   go_wp2
   go_meet
   case rel => exact ⟨_, ((a0 == 116)), (by first | rfl | (simp; done) | (simp [*]; done)), H', ⟨by first | omega | exact Nat.le_refl _⟩, by repeat (first | exact Zr.refl _ | apply Zr.step)⟩
  rw [if_neg c26] at H
  have c26b0 : (a0 == 116) = false := beq_eq_false_iff_ne.mpr c26
  have c26b1 : (a0 != 116) = true := bne_iff_ne.mpr c26
  by_cases c27 : a0 = 124
  ·rw [if_pos c27] at H
   have c27b0 : (a0 == 124) = true := beq_iff_eq.mpr c27
   have c27b1 : (a0 != 124) = false := bne_eq_false_iff_eq.mpr c27
   clear c27
   have H' := Za.mk H
   clear H
   go_wp2
   go_meet
   case rel => exact ⟨_, ((a0 == 124)), (by first | rfl | (simp; done) | (simp [*]; done)), H', ⟨by first | omega | exact Nat.le_refl _⟩, by repeat (first | exact Zr.refl _ | apply Zr.step)⟩
  rw [if_neg c27] at H
  have c27b0 : (a0 == 124) = false := beq_eq_false_iff_ne.mpr c27
  have c27b1 : (a0 != 124) = true := bne_iff_ne.mpr c27
  by_cases c28 : a0 = 132
  ·rw [if_pos c28] at H
   have c28b0 : (a0 == 132) = true := beq_iff_eq.mpr c28
   have c28b1 : (a0 != 132) = false := bne_eq_false_iff_eq.mpr c28
   clear c28
   have H' := Za.mk H
   clear H
   go_wp2
   go_meet
   case rel => exact ⟨_, ((a0 == 132)), (by first | rfl | (simp; done) | (simp [*]; done)), H', ⟨by first | omega | exact Nat.le_refl _⟩, by repeat (first | exact Zr.refl _ | apply Zr.step)⟩
  rw [if_neg c28] at H
  have c28b0 : (a0 == 132) = false := beq_eq_false_iff_ne.mpr c28
  have c28b1 : (a0 != 132) = true := bne_iff_ne.mpr c28
  by_cases c29 : a0 = 7
  ·rw [if_pos c29] at H
   have c29b0 : (a0 == 7) = true := beq_iff_eq.mpr c29
   have c29b1 : (a0 != 7) = false := bne_eq_false_iff_eq.mpr c29
   clear c29
   have H' := Za.mk H
   clear H
   go_wp2
   go_meet
   case rel => exact ⟨_, ((a0 == 7)), (by first | rfl | (simp; done) | (simp [*]; done)), H', ⟨by first | omega | exact Nat.le_refl _⟩, by repeat (first | exact Zr.refl _ | apply Zr.step)⟩
  rw [if_neg c29] at H
  have c29b0 : (a0 == 7) = false := beq_eq_false_iff_ne.mpr c29
  have c29b1 : (a0 != 7) = true := bne_iff_ne.mpr c29
  have H' := Za.mk H
  clear H
  go_wp2
  go_meet
  case rel => exact ⟨_, ((a0 == 135)), (by first | rfl | (simp; done) | (simp [*]; done)), H', ⟨by first | omega | exact Nat.le_refl _⟩, by repeat (first | exact Zr.refl _ | apply Zr.step)⟩
 case rest =>
  clear HC2
  try clear c1
  try clear c2
  try clear p2
  try clear c3
  try clear c3b0
  try clear c3b1
  try clear c4
  try clear c4b0
  try clear c4b1
  try clear c5
  try clear c5b0
  try clear c5b1
  try clear c6
  try clear c6b0
  try clear c6b1
  try clear c7
  try clear c7b0
  try clear c7b1
  try clear c8
  try clear c8b0
  try clear c8b1
  try clear c9
  try clear c9b0
  try clear c9b1
  try clear c10
  try clear c10b0
  try clear c10b1
  try clear c11
  try clear c11b0
  try clear c11b1
  try clear c12
  try clear c12b0
  try clear c12b1
  try clear c13
  try clear c13b0
  try clear c13b1
  try clear c14
  try clear c14b0
  try clear c14b1
  try clear c15
  try clear c15b0
  try clear c15b1
  try clear c16
  try clear c16b0
  try clear c16b1
  try clear c17
  try clear c17b0
  try clear c17b1
  try clear c18
  try clear c18b0
  try clear c18b1
  try clear c19
  try clear c19b0
  try clear c19b1
  try clear c20
  try clear c20b0
  try clear c20b1
  try clear c21
  try clear c21b0
  try clear c21b1
  try clear c22
  try clear c22b0
  try clear c22b1
  try clear c23
  try clear c23b0
  try clear c23b1
  try clear c24
  try clear c24b0
  try clear c24b1
  try clear c25
  try clear c25b0
  try clear c25b1
  try clear c26
  try clear c26b0
  try clear c26b1
  try clear c27
  try clear c27b0
  try clear c27b1
  try clear c28
  try clear c28b0
  try clear c28b1
  try clear c29
  try clear c29b0
  try clear c29b1
  obtain ⟨kq, x4_1, rfl, HA, HJ1, ⟨mc1, rfl⟩⟩ := hcut
  cases kq with
  | zero => exact absurd HA.out (by simp [Zap.j0])
  | succ kj1 =>
   have H := HA.out
   clear HA
   simp only [Zap.j0] at H
   by_cases c30 : x4_1 = true
   ·subst c30
    have H1 : (some 1) = some r := by rw [if_pos rfl] at H; exact H
    clear H
    have H := H1
    clear H1
    obtain rfl := Option.some.inj H
    go_wp2
    go_ret
    exact ⟨by first | rfl | (simp; done) | (simp [*]; done), by repeat (first | exact Zr.refl _ | apply Zr.step)⟩
   replace c30 := Bool.eq_false_iff.mpr c30
   subst c30
   have H1 : (if a0 = 5 then (some 3) else (if a0 = 21 then (Zap.j1 kj1 a0 (a0 == 21)) else (if a0 = 29 then (Zap.j1 kj1 a0 (a0 == 29)) else (if a0 = 37 then (Zap.j1 kj1 a0 (a0 == 37)) else (if a0 = 45 then (Zap.j1 kj1 a0 (a0 == 45)) else (if a0 = 53 then (Zap.j1 kj1 a0 (a0 == 53)) else (if a0 = 61 then (Zap.j1 kj1 a0 (a0 == 61)) else (if a0 = 69 then (Zap.j1 kj1 a0 (a0 == 69)) else (Zap.j1 kj1 a0 (a0 == 77)))))))))) = some r := by rw [if_neg (show ¬ (false = true) by decide)] at H; exact H
   clear H
   have H := H1
   clear H1
   by_cases c31 : a0 = 5
   ·rw [if_pos c31] at H
    have c31b0 : (a0 == 5) = true := beq_iff_eq.mpr c31
    have c31b1 : (a0 != 5) = false := bne_eq_false_iff_eq.mpr c31
    clear c31
    obtain rfl := Option.some.inj H
    go_wp2
    go_ret
    exact ⟨by first | rfl | (simp; done) | (simp [*]; done), by repeat (first | exact Zr.refl _ | apply Zr.step)⟩
   rw [if_neg c31] at H
   have c31b0 : (a0 == 5) = false := beq_eq_false_iff_ne.mpr c31
   have c31b1 : (a0 != 5) = true := bne_iff_ne.mpr c31
   have HC32 := Za.mk H
   clear H
   go_upto_if 35 with (fail)
   go_cut [35] (fun v35 wc => ∃ (kq : Nat) (x35_31 : Bool), v35 = .bool x35_31 ∧ Za (Zap.j1 kq a0 x35_31 = some r) ∧ Za (kq ≤ kj1) ∧ Zr w wc)
   case first =>
    have H := HC32.out
    clear HC32
    by_cases c33 : a0 = 21
    ·rw [if_pos c33] at H
     have c33b0 : (a0 == 21) = true := beq_iff_eq.mpr c33
     have c33b1 : (a0 != 21) = false := bne_eq_false_iff_eq.mpr c33
     clear c33
     (first | rw [c33b0] | (simp only [Zu, Zv]; rw [c33b0]) | skip)
     have H' := Za.mk H
     clear H
     go_wp2
     go_meet
     case rel => exact ⟨_, ((a0 == 21)), (by first | rfl | (simp; done) | (simp [*]; done)), H', ⟨by have := HJ1.out; first | omega | exact Nat.le_refl _⟩, by repeat (first | exact Zr.refl _ | apply Zr.step)⟩
    rw [if_neg c33] at H
    have c33b0 : (a0 == 21) = false := beq_eq_false_iff_ne.mpr c33
    have c33b1 : (a0 != 21) = true := bne_iff_ne.mpr c33
    (first | rw [c33b0] | (simp only [Zu, Zv]; rw [c33b0]) | skip)
    by_cases c34 : a0 = 29
    ·rw [if_pos c34] at H
     have c34b0 : (a0 == 29) = true := beq_iff_eq.mpr c34
     have c34b1 : (a0 != 29) = false := bne_eq_false_iff_eq.mpr c34
     clear c34
     have H' := Za.mk H
     clear H
     go_wp2
     go_meet
     case rel => exact ⟨_, ((a0 == 29)), (by first | rfl | (simp; done) | (simp [*]; done)), H', ⟨by have := HJ1.out; first | omega | exact Nat.le_refl _⟩, by repeat (first | exact Zr.refl _ | apply Zr.step)⟩
    rw [if_neg c34] at H
    have c34b0 : (a0 == 29) = false := beq_eq_false_iff_ne.mpr c34
    have c34b1 : (a0 != 29) = true := bne_iff_ne.mpr c34
    by_cases c35 : a0 = 37
    ·rw [if_pos c35] at H
     have c35b0 : (a0 == 37) = true := beq_iff_eq.mpr c35
     have c35b1 : (a0 != 37) = false := bne_eq_false_iff_eq.mpr c35
     clear c35
     have H' := Za.mk H
     clear H
     go_wp2
     go_meet
     case rel => exact ⟨_, ((a0 == 37)), (by first | rfl | (simp; done) | (simp [*]; done)), H', ⟨by have := HJ1.out; first | omega | exact Nat.le_refl _⟩, by repeat (first | exact Zr.refl _ | apply Zr.step)⟩
    rw [if_neg c35] at H
    have c35b0 : (a0 == 37) = false := beq_eq_false_iff_ne.mpr c35
    have c35b1 : (a0 != 37) = true := bne_iff_ne.mpr c35
    by_cases c36 : a0 = 45
    ·rw [if_pos c36] at H
     have c36b0 : (a0 == 45) = true := beq_iff_eq.mpr c36
     have c36b1 : (a0 != 45) = false := bne_eq_false_iff_eq.mpr c36
     clear c36
     have H' := Za.mk H
     clear H
     go_wp2
     go_meet
     case rel => exact ⟨_, ((a0 == 45)), (by first | rfl | (simp; done) | (simp [*]; done)), H', ⟨by have := HJ1.out; first | omega | exact Nat.le_refl _⟩, by repeat (first | exact Zr.refl _ | apply Zr.step)⟩
    rw [if_neg c36] at H
    have c36b0 : (a0 == 45) = false := beq_eq_false_iff_ne.mpr c36
    have c36b1 : (a0 != 45) = true := bne_iff_ne.mpr c36
    by_cases c37 : a0 = 53
    ·rw [if_pos c37] at H
     have c37b0 : (a0 == 53) = true := beq_iff_eq.mpr c37
     have c37b1 : (a0 != 53) = false := bne_eq_false_iff_eq.mpr c37
     clear c37
     have H' := Za.mk H
     clear H
     go_wp2
     go_meet
     case rel => exact ⟨_, ((a0 == 53)), (by first | rfl | (simp; done) | (simp [*]; done)), H', ⟨by have := HJ1.out; first | omega | exact Nat.le_refl _⟩, by repeat (first | exact Zr.refl _ | apply Zr.step)⟩
    rw [if_neg c37] at H
    have c37b0 : (a0 == 53) = false := beq_eq_false_iff_ne.mpr c37
    have c37b1 : (a0 != 53) = true := bne_iff_ne.mpr c37
    by_cases c38 : a0 = 61
    ·rw [if_pos c38] at H
     have c38b0 : (a0 == 61) = true := beq_iff_eq.mpr c38
     have c38b1 : (a0 != 61) = false := bne_eq_false_iff_eq.mpr c38
     clear c38
     have H' := Za.mk H
     clear H
     go_wp2
     go_meet
     case rel => exact ⟨_, ((a0 == 61)), (by first | rfl | (simp; done) | (simp [*]; done)), H', ⟨by have := HJ1.out; first | omega | exact Nat.le_refl _⟩, by repeat (first | exact Zr.refl _ | apply Zr.step)⟩
    rw [if_neg c38] at H
    have c38b0 : (a0 == 61) = false := beq_eq_false_iff_ne.mpr c38
    have c38b1 : (a0 != 61) = true := bne_iff_ne.mpr c38
    by_cases c39 : a0 = 69
    ·rw [if_pos c39] at H
     have c39b0 : (a0 == 69) = true := beq_iff_eq.mpr c39
     have c39b1 : (a0 != 69) = false := bne_eq_false_iff_eq.mpr c39
     clear c39
     have H' := Za.mk H
     clear H
     go_wp2
     go_meet
     case rel => exact ⟨_, ((a0 == 69)), (by first | rfl | (simp; done) | (simp [*]; done)), H', ⟨by have := HJ1.out; first | omega | exact Nat.le_refl _⟩, by repeat (first | exact Zr.refl _ | apply Zr.step)⟩
    rw [if_neg c39] at H
    have c39b0 : (a0 == 69) = false := beq_eq_false_iff_ne.mpr c39
    have c39b1 : (a0 != 69) = true := bne_iff_ne.mpr c39
    have H' := Za.mk H
    clear H
    go_wp2
    go_meet
    case rel => exact ⟨_, ((a0 == 77)), (by first | rfl | (simp; done) | (simp [*]; done)), H', ⟨by have := HJ1.out; first | omega | exact Nat.le_refl _⟩, by repeat (first | exact Zr.refl _ | apply Zr.step)⟩
   case rest =>
    clear HC32
    try clear c1
    try clear c2
    try clear p2
    try clear c3
    try clear c3b0
    try clear c3b1
    try clear c4
    try clear c4b0
    try clear c4b1
    try clear c5
    try clear c5b0
    try clear c5b1
    try clear c6
    try clear c6b0
    try clear c6b1
    try clear c7
    try clear c7b0
    try clear c7b1
    try clear c8
    try clear c8b0
    try clear c8b1
    try clear c9
    try clear c9b0
    try clear c9b1
    try clear c10
    try clear c10b0
    try clear c10b1
    try clear c11
    try clear c11b0
    try clear c11b1
    try clear c12
    try clear c12b0
    try clear c12b1
    try clear c13
    try clear c13b0
    try clear c13b1
    try clear c14
    try clear c14b0
    try clear c14b1
    try clear c15
    try clear c15b0
    try clear c15b1
    try clear c16
    try clear c16b0
    try clear c16b1
    try clear c17
    try clear c17b0
    try clear c17b1
    try clear c18
    try clear c18b0
    try clear c18b1
    try clear c19
    try clear c19b0
    try clear c19b1
    try clear c20
    try clear c20b0
    try clear c20b1
    try clear c21
    try clear c21b0
    try clear c21b1
    try clear c22
    try clear c22b0
    try clear c22b1
    try clear c23
    try clear c23b0
    try clear c23b1
    try clear c24
    try clear c24b0
    try clear c24b1
    try clear c25
    try clear c25b0
    try clear c25b1
    try clear c26
    try clear c26b0
    try clear c26b1
    try clear c27
    try clear c27b0
    try clear c27b1
    try clear c28
    try clear c28b0
    try clear c28b1
    try clear c29
    try clear c29b0
    try clear c29b1
    try clear c30
    try clear c31
    try clear c31b0
    try clear c31b1
    try clear c33
    try clear c33b0
    try clear c33b1
    try clear c34
    try clear c34b0
    try clear c34b1
    try clear c35
    try clear c35b0
    try clear c35b1
    try clear c36
    try clear c36b0
    try clear c36b1
    try clear c37
    try clear c37b0
    try clear c37b1
    try clear c38
    try clear c38b0
    try clear c38b1
    try clear c39
    try clear c39b0
    try clear c39b1
    try clear p2
    obtain ⟨kq, x35_31, rfl, HA, HJ31, ⟨mc31, rfl⟩⟩ := hcut
    cases kq with
    | zero => exact absurd HA.out (by simp [Zap.j1])
    | succ kj31 =>
     have H := HA.out
     clear HA
     simp only [Zap.j1] at H
     by_cases c40 : x35_31 = true
     ·subst c40
      have H1 : (some 2) = some r := by rw [if_pos rfl] at H; exact H
      clear H
      have H := H1
      clear H1
      obtain rfl := Option.some.inj H
      go_wp2
      go_ret
      exact ⟨by first | rfl | (simp; done) | (simp [*]; done), by repeat (first | exact Zr.refl _ | apply Zr.step)⟩
     replace c40 := Bool.eq_false_iff.mpr c40
     subst c40
     have H1 : (if a0 = 6 then (some 4) else (if a0 = 22 then (some 4) else (some 0))) = some r := by rw [if_neg (show ¬ (false = true) by decide)] at H; exact H
     clear H
     have H := H1
     clear H1
     by_cases c41 : a0 = 6
     ·rw [if_pos c41] at H
      have c41b0 : (a0 == 6) = true := beq_iff_eq.mpr c41
      have c41b1 : (a0 != 6) = false := bne_eq_false_iff_eq.mpr c41
      clear c41
      obtain rfl := Option.some.inj H
      go_wp2
      go_ret
      exact ⟨by first | rfl | (simp; done) | (simp [*]; done), by repeat (first | exact Zr.refl _ | apply Zr.step)⟩
     rw [if_neg c41] at H
     have c41b0 : (a0 == 6) = false := beq_eq_false_iff_ne.mpr c41
     have c41b1 : (a0 != 6) = true := bne_iff_ne.mpr c41
     by_cases c42 : a0 = 22
     ·rw [if_pos c42] at H
      have c42b0 : (a0 == 22) = true := beq_iff_eq.mpr c42
      have c42b1 : (a0 != 22) = false := bne_eq_false_iff_eq.mpr c42
      clear c42
      obtain rfl := Option.some.inj H
      go_wp2
      go_ret
      exact ⟨by first | rfl | (simp; done) | (simp [*]; done), by repeat (first | exact Zr.refl _ | apply Zr.step)⟩
     rw [if_neg c42] at H
     have c42b0 : (a0 == 22) = false := beq_eq_false_iff_ne.mpr c42
     have c42b1 : (a0 != 22) = true := bne_iff_ne.mpr c42
     obtain rfl := Option.some.inj H
     go_wp2
     go_ret
     exact ⟨by first | rfl | (simp; done) | (simp [*]; done), by repeat (first | exact Zr.refl _ | apply Zr.step)⟩

end Go.Proofs.Ytgmbahldjiiajaa.P
