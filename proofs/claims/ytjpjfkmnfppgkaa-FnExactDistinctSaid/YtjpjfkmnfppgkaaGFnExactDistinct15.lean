import Derived.Test.YtjpjfkmnfppgkaaGFnExactDistinct6
import Derived.Test.YtjpjfkmnfppgkaaGFnExactDistinct14
namespace Go.Proofs.Ytjpjfkmnfppgkaa.P
open Go.RowKit Go.Proofs.YtjpjfkmnfppgkaaW.PrintWords Go.Proofs.YtjpjfkmnfppgkaaW.PrintLast Go.Proofs.YtjpjfkmnfppgkaaW.PrintMore
attribute [local go_sem] max2_int min2_int max_two min_two max_three min_three max_four min_four
set_option linter.unusedVariables false
set_option linter.unusedSimpArgs false

def Zam.l0 : Nat → List (S35) → List (S35) → Int → Option (Bool)
  | 0, _, _, _ => none
  | k + 1, x0, x1, x5 => if x5 < (x0.length : Int) then (if 0 ≤ x5 then (if x5 < (x1.length : Int) then ((laws_eqCall.f k ((Zb x0 x5).f0) ((Zb x0 x5).f1) ((Zb x0 x5).f2) ((Zb x1 x5).f0) ((Zb x1 x5).f1) ((Zb x1 x5).f2)).bind fun t210 => (if t210 = true then (Zam.l0 k x0 x1 (wrap64 (x5 + 1))) else (some false))) else (none)) else (none)) else (some true)
def Zam.f (k : Nat) (l0 : List (S35)) (l1 : List (S35)) : Option (Bool) := if (l0.length : Int) = (l1.length : Int) then (Zam.l0 k l0 l1 0) else (some false)
def Zam.T6 : Bool × List (List Nat × List Nat) := (true, [([], []), ([], []), ([0, 1], [0, 1]), ([2], [2]), ([], []), ([], []), ([4, 5], [4, 5]), ([6], [6]), ([3, 7], [3, 7]), ([8], [8])])
def Zam.B6 : List Nat := [0, 0, 3, 7, 0, 0, 48, 112, 255, 511]
theorem Zam.tab6 : rtab .any (opsOf Try.f8 6) = Zam.T6 := by kernel_rfl
theorem Zam.bits6 : waitsOk Zam.T6.2 Zam.B6 = true := by kernel_rfl
set_option maxHeartbeats 8000000 in
set_option maxRecDepth 100000 in
theorem Zam.calls (k : Nat) (A0 : Option Addr) (c0 : Nat) (l0 : List (S35)) (A1 : Option Addr) (c1 : Nat) (l1 : List (S35)) (r : Bool) (w : World) (hr0 : Kd.C k35 w A0 l0.length l0) (hc0 : l0.length ≤ c0) (hr1 : Kd.C k35 w A1 l1.length l1) (hc1 : l1.length ≤ c1) (h : Zam.f k l0 l1 = some r) :
  Calls Try.prog 8 #[.slice A0 l0.length c0, .slice A1 l1.length c1] w fun e w' => e = .returned (.bool r) ∧ Below w.heap.size w w' := by
 have hu35 := Try.underlying35
 have HR0 := Za.mk hr0
 have HC0 := Za.mk hc0
 clear hr0 hc0
 have HR1 := Za.mk hr1
 have HC1 := Za.mk hc1
 clear hr1 hc1
 have HB := Za.mk (Below.refl w.heap.size w)
 have H : (if (l0.length : Int) = (l1.length : Int) then (Zam.l0 k l0 l1 0) else (some false)) = some r := h
 clear h
 by_cases c3 : (l0.length : Int) = (l1.length : Int)
 ·rw [if_pos c3] at H
  have c3b0 : ((l0.length : Int) == (l1.length : Int)) = true := beq_iff_eq.mpr c3
  have c3b1 : ((l0.length : Int) != (l1.length : Int)) = false := bne_eq_false_iff_eq.mpr c3
  have c3b2 : (l0.length == l1.length) = true := by first | simpa using c3 | (simp at c3 ⊢; omega)
  clear c3
  have H' := Za.mk H
  clear H
  go_enter Try.func8, Try.ntmps8
  go_wp2
  go_loopg [5] k (fun kq v5 w' => ∃ (x5_1 : Int), v5 = .int .i64 x5_1 ∧ Za (Zam.l0 kq l0 l1 x5_1 = some r) ∧ Za (kq ≤ k) ∧ Za (Below w.heap.size w w'))
  case atStart => exact ⟨(0), (by first | rfl | (simp; done) | (simp [*]; done)), H', ⟨Nat.le_refl _⟩, ⟨by repeat (first | (with_reducible first | exact HB.out | apply Zd | apply Zf | apply Ze) | exact HB.out)⟩⟩
  case round =>
   clear H'
   try clear c1
   try clear p2
   try clear c3
   try clear c3b0
   try clear c3b1
   try clear c3b2
   obtain ⟨x5_1, rfl, HA, HK1, HB⟩ := hrel
   cases gk with
   | zero => exact absurd HA.out (by simp [Zam.l0])
   | succ k1 =>
    have H := HA.out
    clear HA
    simp only [Zam.l0] at H
    by_cases c4 : x5_1 < (l0.length : Int)
    ·rw [if_pos c4] at H
     have c4b0 : decide (x5_1 < (l0.length : Int)) = true := decide_eq_true c4
     clear c4
     by_cases c5 : 0 ≤ x5_1
     ·rw [if_pos c5] at H
      have c5b0 : decide (0 ≤ x5_1) = true := decide_eq_true c5
      clear c5
      by_cases c6 : x5_1 < (l1.length : Int)
      ·rw [if_pos c6] at H
       have c6b0 : decide (x5_1 < (l1.length : Int)) = true := decide_eq_true c6
       clear c6
       replace H := Option.bind_eq_some_iff.mp H
       obtain ⟨t210, A70, H⟩ := H
       replace H : (if t210 = true then (Zam.l0 k1 l0 l1 (wrap64 (x5_1 + 1))) else (some false)) = some r := H
       have A7 := Za.mk A70
       clear A70
       by_cases c8 : t210 = true
       ·subst c8
        have H1 : (Zam.l0 k1 l0 l1 (wrap64 (x5_1 + 1))) = some r := by rw [if_pos rfl] at H; exact H
        clear H
        have H := H1
        clear H1
        have H' := Za.mk H
        clear H
        try go_wp2
        replace HB := Za.mk (Ze HB.out)
        have p208 : 0 ≤ (x5_1 : Int) := of_decide_eq_true (by assumption)
        have q208 : x5_1 < (l0.length : Int) := of_decide_eq_true (by assumption)
        obtain ⟨ad208, A208_2, c208_2, e208, hx208_0, hx208_1, hx208_2, hl208_2, hi208_2⟩ := at_T35 HR0.out x5_1 p208 q208
        have hw208_2 := hx208_2
        have hw208_1 := hx208_1
        have hw208_0 := hx208_0
        cases e208
        replace hx208_0 := (HB.out.cell (World.block_lt_of_cell? w _ hx208_0)).trans hx208_0
        replace hx208_1 := (HB.out.cell (World.block_lt_of_cell? w _ hx208_1)).trans hx208_1
        replace hx208_2 := (HB.out.cell (World.block_lt_of_cell? w _ hx208_2)).trans hx208_2
        have HR208_2 := Za.mk hi208_2
        have HC208_2 := Za.mk hl208_2
        clear hi208_2 hl208_2
        replace p208 := eq_true p208
        replace q208 := eq_true q208
        have p209 : 0 ≤ (x5_1 : Int) := of_decide_eq_true (by assumption)
        have q209 : x5_1 < (l1.length : Int) := of_decide_eq_true (by assumption)
        obtain ⟨ad209, A209_2, c209_2, e209, hx209_0, hx209_1, hx209_2, hl209_2, hi209_2⟩ := at_T35 HR1.out x5_1 p209 q209
        have hw209_2 := hx209_2
        have hw209_1 := hx209_1
        have hw209_0 := hx209_0
        cases e209
        replace hx209_0 := (HB.out.cell (World.block_lt_of_cell? w _ hx209_0)).trans hx209_0
        replace hx209_1 := (HB.out.cell (World.block_lt_of_cell? w _ hx209_1)).trans hx209_1
        replace hx209_2 := (HB.out.cell (World.block_lt_of_cell? w _ hx209_2)).trans hx209_2
        have HR209_2 := Za.mk hi209_2
        have HC209_2 := Za.mk hl209_2
        clear hi209_2 hl209_2
        replace p209 := eq_true p209
        replace q209 := eq_true q209
        refine start_ (n := 10) (S := fun w' => w'.cell? (ad208.add ((x5_1).toNat * 3)) = some (.int .u32 ((Zb l0 x5_1).f0)) ∧ w'.cell? ⟨(ad208.add ((x5_1).toNat * 3)).block, (ad208.add ((x5_1).toNat * 3)).off + 1, none⟩ = some (.int .u32 ((Zb l0 x5_1).f1)) ∧ w'.cell? ⟨(ad208.add ((x5_1).toNat * 3)).block, (ad208.add ((x5_1).toNat * 3)).off + 2, none⟩ = some (.slice A208_2 ((Zb l0 x5_1).f2).length c208_2) ∧ w'.cell? (ad209.add ((x5_1).toNat * 3)) = some (.int .u32 ((Zb l1 x5_1).f0)) ∧ w'.cell? ⟨(ad209.add ((x5_1).toNat * 3)).block, (ad209.add ((x5_1).toNat * 3)).off + 1, none⟩ = some (.int .u32 ((Zb l1 x5_1).f1)) ∧ w'.cell? ⟨(ad209.add ((x5_1).toNat * 3)).block, (ad209.add ((x5_1).toNat * 3)).off + 2, none⟩ = some (.slice A209_2 ((Zb l1 x5_1).f2).length c209_2)) (ds := []) #[false, false, false, false, false, false, false, false, false, false] (by kernel_rfl) rfl rfl ⟨((HB.out.cell (World.block_lt_of_cell? w _ hw208_0)).trans hw208_0), ((HB.out.cell (World.block_lt_of_cell? w _ hw208_1)).trans hw208_1), ((HB.out.cell (World.block_lt_of_cell? w _ hw208_2)).trans hw208_2), ((HB.out.cell (World.block_lt_of_cell? w _ hw209_0)).trans hw209_0), ((HB.out.cell (World.block_lt_of_cell? w _ hw209_1)).trans hw209_1), ((HB.out.cell (World.block_lt_of_cell? w _ hw209_2)).trans hw209_2)⟩ (fun hHeld => ?_); refine with_tabW Zam.tab6 Zam.bits6 (fun HT_ HW_ => ?_)
        generalize wr.drew = w9 at HB HR208_2 HR209_2 hx208_0 hx208_1 hx208_2 hx209_0 hx209_1 hx209_2 hHeld ⊢
        refine Zk (i := 0) (N := some 17) (v := ?_) (a' := ?_) #[true, false, false, false, false, false, false, false, false, false] rfl rfl (Zl HT_.out (by kernel_rfl)) (fun _ _ _ h => h) (Or.inl ⟨by rfl, ?_⟩) ?_ ?_
        rotate_left
        ·intro w'
         go_simp
         with_reducible rfl
        rotate_left
        ·simp only [Act.put, ZD, ZE, ZF, Zh, Zi]
         rfl
        refine Zk (i := 1) (N := some 18) (v := ?_) (a' := ?_) #[true, true, false, false, false, false, false, false, false, false] rfl rfl (Zl HT_.out (by kernel_rfl)) (fun _ _ _ h => h) (Or.inl ⟨by rfl, ?_⟩) ?_ ?_
        rotate_left
        ·intro w'
         go_simp
         with_reducible rfl
        rotate_left
        ·simp only [Act.put, ZD, ZE, ZF, Zh, Zi]
         rfl
        refine Zk (i := 2) (N := some 19) (v := ?_) (a' := ?_) #[true, true, true, false, false, false, false, false, false, false] rfl rfl (Zl HT_.out (by kernel_rfl)) (fun _ _ _ h => h) (Or.inl ⟨by rfl, ?_⟩) ?_ ?_
        rotate_left
        ·intro w'
         go_simp
         with_reducible rfl
        rotate_left
        ·simp only [Act.put, ZD, ZE, ZF, Zh, Zi]
         rfl
        refine Zk (i := 4) (N := some 21) (v := ?_) (a' := ?_) #[true, true, true, false, true, false, false, false, false, false] rfl rfl (Zl HT_.out (by kernel_rfl)) (fun _ _ _ h => h) (Or.inl ⟨by rfl, ?_⟩) ?_ ?_
        rotate_left
        ·intro w'
         go_simp
         with_reducible rfl
        rotate_left
        ·simp only [Act.put, ZD, ZE, ZF, Zh, Zi]
         rfl
        refine Zk (i := 5) (N := some 22) (v := ?_) (a' := ?_) #[true, true, true, false, true, true, false, false, false, false] rfl rfl (Zl HT_.out (by kernel_rfl)) (fun _ _ _ h => h) (Or.inl ⟨by rfl, ?_⟩) ?_ ?_
        rotate_left
        ·intro w'
         go_simp
         with_reducible rfl
        rotate_left
        ·simp only [Act.put, ZD, ZE, ZF, Zh, Zi]
         rfl
        refine Zk (i := 6) (N := some 23) (v := ?_) (a' := ?_) #[true, true, true, false, true, true, true, false, false, false] rfl rfl (Zl HT_.out (by kernel_rfl)) (fun _ _ _ h => h) (Or.inl ⟨by rfl, ?_⟩) ?_ ?_
        rotate_left
        ·intro w'
         go_simp
         with_reducible rfl
        rotate_left
        ·simp only [Act.put, ZD, ZE, ZF, Zh, Zi]
         rfl
        refine take_ (i := 3) (N := some 20) (v := ?_) (a' := ?_) #[true, true, true, true, true, true, true, false, false, false] rfl rfl (take_ofW HT_.out HW_.out (by kernel_rfl)) (fun _ _ _ h => h) (Or.inl ⟨by rfl, ?_⟩) hHeld ?_ ?_
        rotate_left
        ·rintro w' ⟨s0, s1, s2, s3, s4, s5⟩
         go_simp
         with_reducible rfl
        rotate_left
        ·simp only [Act.put, ZD, ZE, ZF, Zh, Zi]
         rfl
        refine take_ (i := 7) (N := some 24) (v := ?_) (a' := ?_) #[true, true, true, true, true, true, true, true, false, false] rfl rfl (take_ofW HT_.out HW_.out (by kernel_rfl)) (fun _ _ _ h => h) (Or.inl ⟨by rfl, ?_⟩) hHeld ?_ ?_
        rotate_left
        ·rintro w' ⟨s0, s1, s2, s3, s4, s5⟩
         go_simp
         with_reducible rfl
        rotate_left
        ·simp only [Act.put, ZD, ZE, ZF, Zh, Zi]
         rfl
        refine one_ (i := 8) (N := some 25) #[true, true, true, true, true, true, true, true, true, false] rfl rfl (one_of HT_.out (by kernel_rfl)) (by decide) (fun K hK => ?_)
        refine goes_ Try.func18 (by kernel_rfl) rfl #[.agg #[.int .u32 ((Zb l0 x5_1).f0), .int .u32 ((Zb l0 x5_1).f1), .slice A208_2 ((Zb l0 x5_1).f2).length c208_2], .agg #[.int .u32 ((Zb l1 x5_1).f0), .int .u32 ((Zb l1 x5_1).f1), .slice A209_2 ((Zb l1 x5_1).f2).length c209_2]] (by rfl) rfl rfl (by (try simp only [ZA, ZB, ZC]); first | done | rfl) ?_
        with_reducible refine (laws_eqCall.calls k1 ((Zb l0 x5_1).f0) ((Zb l0 x5_1).f1) _ _ ((Zb l0 x5_1).f2) ((Zb l1 x5_1).f0) ((Zb l1 x5_1).f1) _ _ ((Zb l1 x5_1).f2) true _ ?side1 ?side2 ?side3 ?side4 A7.out).mono ?_
        (case side1 => repeat (first | exact (Kd.Zah HR208_2.out HB.out) | (with_reducible refine Kd.Zac ?_ _) | (with_reducible refine Kd.Zaf ?_ _) | (with_reducible refine Kd.Zae ?_)))
        (case side2 => exact HC208_2.out)
        (case side3 => repeat (first | exact (Kd.Zah HR209_2.out HB.out) | (with_reducible refine Kd.Zac ?_ _) | (with_reducible refine Kd.Zaf ?_ _) | (with_reducible refine Kd.Zae ?_)))
        (case side4 => exact HC209_2.out)
        rintro e w10 ⟨rfl, hb⟩
        refine ⟨_, rfl, ?_⟩
        replace HB := Za.mk (Zx (by repeat (first | (with_reducible first | exact HB.out | apply Zd | apply Zf | apply Ze) | exact HB.out)) hb)
        (try clear hb)
        (try clear hb2)
        (try clear hk)
        (try clear hi)
        refine hK.out _ _ ⟨((HB.out.cell (World.block_lt_of_cell? w _ hw208_0)).trans hw208_0), ((HB.out.cell (World.block_lt_of_cell? w _ hw208_1)).trans hw208_1), ((HB.out.cell (World.block_lt_of_cell? w _ hw208_2)).trans hw208_2), ((HB.out.cell (World.block_lt_of_cell? w _ hw209_0)).trans hw209_0), ((HB.out.cell (World.block_lt_of_cell? w _ hw209_1)).trans hw209_1), ((HB.out.cell (World.block_lt_of_cell? w _ hw209_2)).trans hw209_2)⟩ (fun hHeld => ?_)
        clear hK K
        refine norm_ (a' := ?_) ?_ ?_
        rotate_left
        ·show Act.put _ (some 25) _ = _
         simp only [Act.put, ZD, ZE, ZF, Zh, Zi]
         rfl
        refine Zk (i := 9) (N := some 26) (v := ?_) (a' := ?_) #[true, true, true, true, true, true, true, true, true, true] rfl rfl (Zl HT_.out (by kernel_rfl)) (fun _ _ _ h => h) (Or.inl ⟨by rfl, ?_⟩) ?_ ?_
        rotate_left
        ·intro w'
         go_simp
         with_reducible rfl
        rotate_left
        ·simp only [Act.put, ZD, ZE, ZF, Zh, Zi]
         rfl
        refine done_ (done_of HT_.out (by kernel_rfl)) ?_
        try go_wp2
        go_roundg k1
        case measure => have := HK1.out; omega
        case rel => exact ⟨(wrap64 (x5_1 + 1)), (by first | rfl | (simp; done) | (simp [*]; done)), H', ⟨by have := HK1.out; omega⟩, ⟨by repeat (first | (with_reducible first | exact HB.out | apply Zd | apply Zf | apply Ze) | exact HB.out)⟩⟩
       ·replace c8 := Bool.eq_false_iff.mpr c8
        subst c8
        have H1 : (some false) = some r := by rw [if_neg (show ¬ (false = true) by decide)] at H; exact H
        clear H
        have H := H1
        clear H1
        obtain rfl := Option.some.inj H
        try go_wp2
        replace HB := Za.mk (Ze HB.out)
        have p208 : 0 ≤ (x5_1 : Int) := of_decide_eq_true (by assumption)
        have q208 : x5_1 < (l0.length : Int) := of_decide_eq_true (by assumption)
        obtain ⟨ad208, A208_2, c208_2, e208, hx208_0, hx208_1, hx208_2, hl208_2, hi208_2⟩ := at_T35 HR0.out x5_1 p208 q208
        have hw208_2 := hx208_2
        have hw208_1 := hx208_1
        have hw208_0 := hx208_0
        cases e208
        replace hx208_0 := (HB.out.cell (World.block_lt_of_cell? w _ hx208_0)).trans hx208_0
        replace hx208_1 := (HB.out.cell (World.block_lt_of_cell? w _ hx208_1)).trans hx208_1
        replace hx208_2 := (HB.out.cell (World.block_lt_of_cell? w _ hx208_2)).trans hx208_2
        have HR208_2 := Za.mk hi208_2
        have HC208_2 := Za.mk hl208_2
        clear hi208_2 hl208_2
        replace p208 := eq_true p208
        replace q208 := eq_true q208
        have p209 : 0 ≤ (x5_1 : Int) := of_decide_eq_true (by assumption)
        have q209 : x5_1 < (l1.length : Int) := of_decide_eq_true (by assumption)
        obtain ⟨ad209, A209_2, c209_2, e209, hx209_0, hx209_1, hx209_2, hl209_2, hi209_2⟩ := at_T35 HR1.out x5_1 p209 q209
        have hw209_2 := hx209_2
        have hw209_1 := hx209_1
        have hw209_0 := hx209_0
        cases e209
        replace hx209_0 := (HB.out.cell (World.block_lt_of_cell? w _ hx209_0)).trans hx209_0
        replace hx209_1 := (HB.out.cell (World.block_lt_of_cell? w _ hx209_1)).trans hx209_1
        replace hx209_2 := (HB.out.cell (World.block_lt_of_cell? w _ hx209_2)).trans hx209_2
        have HR209_2 := Za.mk hi209_2
        have HC209_2 := Za.mk hl209_2
        clear hi209_2 hl209_2
        replace p209 := eq_true p209
        replace q209 := eq_true q209
        refine start_ (n := 10) (S := fun w' => w'.cell? (ad208.add ((x5_1).toNat * 3)) = some (.int .u32 ((Zb l0 x5_1).f0)) ∧ w'.cell? ⟨(ad208.add ((x5_1).toNat * 3)).block, (ad208.add ((x5_1).toNat * 3)).off + 1, none⟩ = some (.int .u32 ((Zb l0 x5_1).f1)) ∧ w'.cell? ⟨(ad208.add ((x5_1).toNat * 3)).block, (ad208.add ((x5_1).toNat * 3)).off + 2, none⟩ = some (.slice A208_2 ((Zb l0 x5_1).f2).length c208_2) ∧ w'.cell? (ad209.add ((x5_1).toNat * 3)) = some (.int .u32 ((Zb l1 x5_1).f0)) ∧ w'.cell? ⟨(ad209.add ((x5_1).toNat * 3)).block, (ad209.add ((x5_1).toNat * 3)).off + 1, none⟩ = some (.int .u32 ((Zb l1 x5_1).f1)) ∧ w'.cell? ⟨(ad209.add ((x5_1).toNat * 3)).block, (ad209.add ((x5_1).toNat * 3)).off + 2, none⟩ = some (.slice A209_2 ((Zb l1 x5_1).f2).length c209_2)) (ds := []) #[false, false, false, false, false, false, false, false, false, false] (by kernel_rfl) rfl rfl ⟨((HB.out.cell (World.block_lt_of_cell? w _ hw208_0)).trans hw208_0), ((HB.out.cell (World.block_lt_of_cell? w _ hw208_1)).trans hw208_1), ((HB.out.cell (World.block_lt_of_cell? w _ hw208_2)).trans hw208_2), ((HB.out.cell (World.block_lt_of_cell? w _ hw209_0)).trans hw209_0), ((HB.out.cell (World.block_lt_of_cell? w _ hw209_1)).trans hw209_1), ((HB.out.cell (World.block_lt_of_cell? w _ hw209_2)).trans hw209_2)⟩ (fun hHeld => ?_); refine with_tabW Zam.tab6 Zam.bits6 (fun HT_ HW_ => ?_)
        generalize wr.drew = w11 at HB HR208_2 HR209_2 hx208_0 hx208_1 hx208_2 hx209_0 hx209_1 hx209_2 hHeld ⊢
        refine Zk (i := 0) (N := some 17) (v := ?_) (a' := ?_) #[true, false, false, false, false, false, false, false, false, false] rfl rfl (Zl HT_.out (by kernel_rfl)) (fun _ _ _ h => h) (Or.inl ⟨by rfl, ?_⟩) ?_ ?_
        rotate_left
        ·intro w'
         go_simp
         with_reducible rfl
        rotate_left
        ·simp only [Act.put, ZD, ZE, ZF, Zh, Zi]
         rfl
        refine Zk (i := 1) (N := some 18) (v := ?_) (a' := ?_) #[true, true, false, false, false, false, false, false, false, false] rfl rfl (Zl HT_.out (by kernel_rfl)) (fun _ _ _ h => h) (Or.inl ⟨by rfl, ?_⟩) ?_ ?_
        rotate_left
        ·intro w'
         go_simp
         with_reducible rfl
        rotate_left
        ·simp only [Act.put, ZD, ZE, ZF, Zh, Zi]
         rfl
        refine Zk (i := 2) (N := some 19) (v := ?_) (a' := ?_) #[true, true, true, false, false, false, false, false, false, false] rfl rfl (Zl HT_.out (by kernel_rfl)) (fun _ _ _ h => h) (Or.inl ⟨by rfl, ?_⟩) ?_ ?_
        rotate_left
        ·intro w'
         go_simp
         with_reducible rfl
        rotate_left
        ·simp only [Act.put, ZD, ZE, ZF, Zh, Zi]
         rfl
        refine Zk (i := 4) (N := some 21) (v := ?_) (a' := ?_) #[true, true, true, false, true, false, false, false, false, false] rfl rfl (Zl HT_.out (by kernel_rfl)) (fun _ _ _ h => h) (Or.inl ⟨by rfl, ?_⟩) ?_ ?_
        rotate_left
        ·intro w'
         go_simp
         with_reducible rfl
        rotate_left
        ·simp only [Act.put, ZD, ZE, ZF, Zh, Zi]
         rfl
        refine Zk (i := 5) (N := some 22) (v := ?_) (a' := ?_) #[true, true, true, false, true, true, false, false, false, false] rfl rfl (Zl HT_.out (by kernel_rfl)) (fun _ _ _ h => h) (Or.inl ⟨by rfl, ?_⟩) ?_ ?_
        rotate_left
        ·intro w'
         go_simp
         with_reducible rfl
        rotate_left
        ·simp only [Act.put, ZD, ZE, ZF, Zh, Zi]
         rfl
        refine Zk (i := 6) (N := some 23) (v := ?_) (a' := ?_) #[true, true, true, false, true, true, true, false, false, false] rfl rfl (Zl HT_.out (by kernel_rfl)) (fun _ _ _ h => h) (Or.inl ⟨by rfl, ?_⟩) ?_ ?_
        rotate_left
        ·intro w'
         go_simp
         with_reducible rfl
        rotate_left
        ·simp only [Act.put, ZD, ZE, ZF, Zh, Zi]
         rfl
        refine take_ (i := 3) (N := some 20) (v := ?_) (a' := ?_) #[true, true, true, true, true, true, true, false, false, false] rfl rfl (take_ofW HT_.out HW_.out (by kernel_rfl)) (fun _ _ _ h => h) (Or.inl ⟨by rfl, ?_⟩) hHeld ?_ ?_
        rotate_left
        ·rintro w' ⟨s0, s1, s2, s3, s4, s5⟩
         go_simp
         with_reducible rfl
        rotate_left
        ·simp only [Act.put, ZD, ZE, ZF, Zh, Zi]
         rfl
        refine take_ (i := 7) (N := some 24) (v := ?_) (a' := ?_) #[true, true, true, true, true, true, true, true, false, false] rfl rfl (take_ofW HT_.out HW_.out (by kernel_rfl)) (fun _ _ _ h => h) (Or.inl ⟨by rfl, ?_⟩) hHeld ?_ ?_
        rotate_left
        ·rintro w' ⟨s0, s1, s2, s3, s4, s5⟩
         go_simp
         with_reducible rfl
        rotate_left
        ·simp only [Act.put, ZD, ZE, ZF, Zh, Zi]
         rfl
        refine one_ (i := 8) (N := some 25) #[true, true, true, true, true, true, true, true, true, false] rfl rfl (one_of HT_.out (by kernel_rfl)) (by decide) (fun K hK => ?_)
        refine goes_ Try.func18 (by kernel_rfl) rfl #[.agg #[.int .u32 ((Zb l0 x5_1).f0), .int .u32 ((Zb l0 x5_1).f1), .slice A208_2 ((Zb l0 x5_1).f2).length c208_2], .agg #[.int .u32 ((Zb l1 x5_1).f0), .int .u32 ((Zb l1 x5_1).f1), .slice A209_2 ((Zb l1 x5_1).f2).length c209_2]] (by rfl) rfl rfl (by (try simp only [ZA, ZB, ZC]); first | done | rfl) ?_
        with_reducible refine (laws_eqCall.calls k1 ((Zb l0 x5_1).f0) ((Zb l0 x5_1).f1) _ _ ((Zb l0 x5_1).f2) ((Zb l1 x5_1).f0) ((Zb l1 x5_1).f1) _ _ ((Zb l1 x5_1).f2) false _ ?side1 ?side2 ?side3 ?side4 A7.out).mono ?_
        (case side1 => repeat (first | exact (Kd.Zah HR208_2.out HB.out) | (with_reducible refine Kd.Zac ?_ _) | (with_reducible refine Kd.Zaf ?_ _) | (with_reducible refine Kd.Zae ?_)))
        (case side2 => exact HC208_2.out)
        (case side3 => repeat (first | exact (Kd.Zah HR209_2.out HB.out) | (with_reducible refine Kd.Zac ?_ _) | (with_reducible refine Kd.Zaf ?_ _) | (with_reducible refine Kd.Zae ?_)))
        (case side4 => exact HC209_2.out)
        rintro e w12 ⟨rfl, hb⟩
        refine ⟨_, rfl, ?_⟩
        replace HB := Za.mk (Zx (by repeat (first | (with_reducible first | exact HB.out | apply Zd | apply Zf | apply Ze) | exact HB.out)) hb)
        (try clear hb)
        (try clear hb2)
        (try clear hk)
        (try clear hi)
        refine hK.out _ _ ⟨((HB.out.cell (World.block_lt_of_cell? w _ hw208_0)).trans hw208_0), ((HB.out.cell (World.block_lt_of_cell? w _ hw208_1)).trans hw208_1), ((HB.out.cell (World.block_lt_of_cell? w _ hw208_2)).trans hw208_2), ((HB.out.cell (World.block_lt_of_cell? w _ hw209_0)).trans hw209_0), ((HB.out.cell (World.block_lt_of_cell? w _ hw209_1)).trans hw209_1), ((HB.out.cell (World.block_lt_of_cell? w _ hw209_2)).trans hw209_2)⟩ (fun hHeld => ?_)
        clear hK K
        refine norm_ (a' := ?_) ?_ ?_
        rotate_left
        ·show Act.put _ (some 25) _ = _
         simp only [Act.put, ZD, ZE, ZF, Zh, Zi]
         rfl
        refine Zk (i := 9) (N := some 26) (v := ?_) (a' := ?_) #[true, true, true, true, true, true, true, true, true, true] rfl rfl (Zl HT_.out (by kernel_rfl)) (fun _ _ _ h => h) (Or.inl ⟨by rfl, ?_⟩) ?_ ?_
        rotate_left
        ·intro w'
         go_simp
         with_reducible rfl
        rotate_left
        ·simp only [Act.put, ZD, ZE, ZF, Zh, Zi]
         rfl
        refine done_ (done_of HT_.out (by kernel_rfl)) ?_
        try go_wp2
        go_ret
        exact ⟨by first | rfl | (simp [Zy, Zz] <;> rfl) | (simp [*, Zy, Zz] <;> rfl), by repeat (first | (with_reducible first | exact HB.out | apply Zd | apply Zf | apply Ze) | exact HB.out)⟩
      ·rw [if_neg c6] at H
       exact absurd H (by simp)
     ·rw [if_neg c5] at H
      exact absurd H (by simp)
    ·rw [if_neg c4] at H
     have c4b0 : decide (x5_1 < (l0.length : Int)) = false := decide_eq_false c4
     clear c4
     obtain rfl := Option.some.inj H
     go_wp2
     go_ret
     exact ⟨by first | rfl | (simp [Zy, Zz] <;> rfl) | (simp [*, Zy, Zz] <;> rfl), by repeat (first | (with_reducible first | exact HB.out | apply Zd | apply Zf | apply Ze) | exact HB.out)⟩
 ·rw [if_neg c3] at H
  have c3b0 : ((l0.length : Int) == (l1.length : Int)) = false := beq_eq_false_iff_ne.mpr c3
  have c3b1 : ((l0.length : Int) != (l1.length : Int)) = true := bne_iff_ne.mpr c3
  have c3b2 : (l0.length == l1.length) = false := by first | simpa using c3 | (simp at c3 ⊢; omega)
  obtain rfl := Option.some.inj H
  go_enter Try.func8, Try.ntmps8
  go_wp2
  go_ret
  exact ⟨by first | rfl | (simp [Zy, Zz] <;> rfl) | (simp [*, Zy, Zz] <;> rfl), by repeat (first | (with_reducible first | exact HB.out | apply Zd | apply Zf | apply Ze) | exact HB.out)⟩
theorem below_call {B : Nat} {w W w1 : World} (h : Below B w W) (hb : Below W.heap.size W w1) (hB : B ≤ W.heap.size) : Below B w w1 := h.trans (hb.mono hB)
theorem below_set1 {B : Nat} {w W : World} (h : Below B w W) {p : Addr} (hp : B ≤ p.block) (v : Value) : Below B w (W.setCell p v) := h.setCell hp v
theorem blk_put3 {w : World} {g : Nat} {t : TypeId} {x0 x1 x2 : Value} (h : w.heap[g]? = some (.cells #[x0, x1, x2] t (0, 0))) (y0 y1 y2 : Value) :
    (((w.setCell ⟨g, 0, none⟩ y0).setCell ⟨g, 1, none⟩ y1).setCell ⟨g, 2, none⟩ y2).heap[g]? = some (.cells #[y0, y1, y2] t (0, 0)) :=
  blk_put (cs := #[y0, y1, x2]) (blk_put (cs := #[y0, x1, x2]) (blk_put h 0 y0 rfl) 1 y1 rfl) 2 y2 rfl
def Zas.l0 : Nat → List (S35) → Int → Int → Option (Int × List (S35))
  | 0, _, _, _ => none
  | k + 1, x0, x1, x5 => if x5 < (x0.length : Int) then (if 0 ≤ x5 then ((Zbb.f k (Zb x0 x5).f2 (wrap64 (wrap64 (x1 + 1) + 1))).bind fun bt => Zas.l0 k (x0.set (x5 : Int).toNat (⟨x1 % 4294967296, wrap64 (x1 + 1) % 4294967296, bt.2⟩ : S35)) bt.1 (wrap64 (x5 + 1))) else (none)) else (some (x1, x0))
def Zas.f (k : Nat) (l0 : List (S35)) (a1 : Int) : Option (Int × List (S35)) := Zas.l0 k l0 a1 0
set_option maxHeartbeats 8000000 in
set_option maxRecDepth 100000 in
theorem Zas.calls (k : Nat) (P0_ : Nat → Prop) (u9000_ : Value) (l0 : List (S35)) (a1 : Int) (r1 : Int) (r2 : List (S35)) (w0 w : World) (hB : Below w0.heap.size w0 w) (ho0 : Kd.S k35 35 w w0.heap.size P0_ u9000_ l0) (h : Zas.f k l0 a1 = some (r1, r2)) :
  Calls Try.prog 9 #[u9000_, .int .i64 a1] w fun e w' => e = .returned (.int .i64 r1) ∧ Kd.S k35 35 w' w0.heap.size (fun k_ => (P0_ k_ ∨ w.heap.size ≤ k_)) u9000_ r2 ∧ Below w0.heap.size w0 w' ∧ Kept w w' (fun k_ => P0_ k_) := by
 have HO0 := Za.mk (show Kd.S k35 35 w w0.heap.size (fun k_ => (P0_ k_ ∨ w.heap.size ≤ k_)) u9000_ l0 from Kd.S_mono ho0 (fun k_ hk => (.inl hk)))
 have HK := Za.mk (Kept.refl w (fun k_ => P0_ k_))
 have HB := Za.mk hB
 clear hB ho0
 have H' := Za.mk (show Zas.l0 k l0 a1 0 = some (r1, r2) from h)
 clear h
 go_enter Try.func9, Try.ntmps9
 go_wp2
 go_loopg [1, 5] k (fun kq v1 v5 w' => ∃ (x0 : List (S35)) (x1 : Int) (x5 : Int), v1 = .int .i64 x1 ∧ v5 = .int .i64 x5 ∧ Za (Zas.l0 kq x0 x1 x5 = some (r1, r2)) ∧ Za (kq ≤ k) ∧ Za (Kd.S k35 35 w' w0.heap.size (fun k_ => (P0_ k_ ∨ w.heap.size ≤ k_)) u9000_ x0) ∧ Za (Kept w w' (fun k_ => P0_ k_)) ∧ Za (Below w0.heap.size w0 w'))
 case atStart => exact ⟨l0, a1, 0, rfl, rfl, H', ⟨Nat.le_refl _⟩, HO0, HK, HB⟩
 case round =>
  clear H' HO0 HK HB
  obtain ⟨x0, x1, x5, rfl, rfl, HA, HK1, HO, HK, HB⟩ := hrel
  cases gk with
  | zero => exact absurd HA.out (by simp [Zas.l0])
  | succ k1 =>
   have H := HA.out
   clear HA
   simp only [Zas.l0] at H
   by_cases c3 : x5 < (x0.length : Int)
   ·rw [if_pos c3] at H
    by_cases c4 : 0 ≤ x5
    ·rw [if_pos c4] at H
     obtain ⟨⟨t1, t2⟩, hm, H⟩ := Option.bind_eq_some_iff.1 H
     obtain ⟨go, cap, rfl, gb, gl, _⟩ := Kd.S_form HO.out (by omega)
     obtain ⟨oki, c, hcl, hM, hcc, hfr, hoki, hH⟩ := Kd.S_elem HO.out z35 x5 c4 (by omega)
     obtain ⟨v, rfl, hR⟩ := k35_openM hM
     have e1 := hcc 0 _ rfl
     have e2 := hcc 1 _ rfl
     have e3 := hcc 2 _ rfl
     have f1 := hfr 0
     have f2 := hfr 1
     have hs : k35.sz = 3 := rfl
     rw [hs] at e1 e2 e3 f1 f2
     rw [Nat.add_zero] at e1 f1
     have c3b : decide (x5 < (x0.length : Int)) = true := decide_eq_true c3
     have c4b : decide (0 ≤ x5) = true := decide_eq_true c4
     have HM := Za.mk hm
     have HG := Za.mk H
     have HC := Za.mk hcc
     have HF := Za.mk hfr
     have HI := Za.mk hoki
     have HH := Za.mk hH
     have HR := Za.mk hR
     have c3e := eq_true c3
     have c4e := eq_true c4
     have GB := Za.mk gb
     have C3 := Za.mk c3
     have C4 := Za.mk c4
     clear hm H hcc hfr hoki hH hR hM hs c3 c4 gb gl hcl
     go_wp2_with (go_at_call 19; refine (Zbb.calls k1 oki v _ _ t1 t2 w0 _ (below_set1 (below_set1 HB.out GB.out _) GB.out _) (Kd.R_far (p := ⟨go, _, none⟩) (Kd.R_far (p := ⟨go, _, none⟩) HR.out (fun k hk => (HI.out k hk).2) _) (fun k hk => (HI.out k hk).2) _) HM.out).mono ?_; rintro e w3 ⟨rfl, hR3, hB3, hK3⟩; have HR3 := Za.mk hR3; have HB3 := Za.mk hB3; have HK3 := Za.mk hK3; clear hR3 hB3 hK3)
     have hH := HH.out
     have h1 := (Kd.H_seg hH C4.out C3.out (seg := [.int .u32 (x1 % 4294967296)]) (j := 0) (show (1 : Nat) ≤ 3 from by decide) (by simp [Value.oneCell'])).1
     have h2 := (Kd.H_seg h1 C4.out C3.out (seg := [.int .u32 (wrap64 (x1 + 1) % 4294967296)]) (j := 1) (show (2 : Nat) ≤ 3 from by decide) (by simp [Value.oneCell'])).1
     have h3 := Kd.H_step (w1 := w3) h2 (fun k _ hn hlt => HK3.out.2 k hlt hn)
     have hR4 : (Kd.int .u64).R 42 w3 w0.heap.size oki v t2 := Kd.R_mono (Kd.R_tight rfl HR3.out) (fun k hk => HR.out.1 k hk.symm)
     have h4 := Kd.H_back h3 (x' := (⟨x1 % 4294967296, wrap64 (x1 + 1) % 4294967296, t2⟩ : S35)) (k35_mkM w3 _ oki _ hR4) (fun _ h => h)
     have hgo := (Kd.S_R HO.out).1 go rfl
     have HO4 := Za.mk h4
     have HK4 := Za.mk (Kept.then_ (Kept.setCell (Kept.setCell HK.out (p := ⟨go, _, none⟩) hgo _) (p := ⟨go, _, none⟩) hgo _) HK3.out (fun k hk => (HI.out k hk).1))
     clear h1 h2 h3 h4 hH hgo hR4
     go_roundg k1
     case measure => have := HK1.out; omega
     case rel => exact ⟨_, t1, wrap64 (x5 + 1), rfl, rfl, HG, ⟨by have := HK1.out; omega⟩, HO4, HK4, HB3⟩
    ·rw [if_neg c4] at H
     exact absurd H (by simp)
   ·rw [if_neg c3] at H
    have c3b : decide (x5 < (x0.length : Int)) = false := decide_eq_false c3
    simp only [Option.some.injEq, Prod.mk.injEq] at H
    obtain ⟨rfl, rfl⟩ := H
    obtain ⟨Ao9, co9, eo9⟩ := Kd.S_slice HO.out
    subst eo9
    clear c3
    go_wp2
    go_ret
    exact ⟨rfl, HO.out, HB.out, HK.out⟩

end Go.Proofs.Ytjpjfkmnfppgkaa.P
