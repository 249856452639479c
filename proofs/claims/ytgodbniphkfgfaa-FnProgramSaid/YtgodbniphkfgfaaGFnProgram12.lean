import Derived.Test.YtgodbniphkfgfaaGFnProgram4
import Derived.Test.YtgodbniphkfgfaaGFnProgram9
namespace Go.Proofs.Ytgodbniphkfgfaa.P
open Go.RowKit Go.Proofs.YtgodbniphkfgfaaW.PrintWords Go.Proofs.YtgodbniphkfgfaaW.PrintLast Go.Proofs.YtgodbniphkfgfaaW.PrintMore
attribute [local go_sem] max2_int min2_int max_two min_two max_three min_three max_four min_four
set_option linter.unusedVariables false
set_option linter.unusedSimpArgs false

def spec_l1spoil.f (l0 : List (S54)) (s1_0 : List Int) (s1_1 : Int) : Option ((List (S54)) × Int) := (Zar.f s1_0 s1_1).bind fun bt578 => ((Zar.f s1_0 bt578.2).bind fun bt580 => (if (l0.length : Int) = 0 then (none) else ((Zar.f s1_0 bt580.2).bind fun bt582 => (if (Int.tmod bt578.1 10) = 0 then (if 0 ≤ (Int.tmod bt580.1 (l0.length : Int)) then (if (Int.tmod bt580.1 (l0.length : Int)) < (l0.length : Int) then (some ((l0.set ((Int.tmod bt580.1 (l0.length : Int)) : Int).toNat (⟨IntKind.u16.wrap (bt582.1), (Zb l0 (Int.tmod bt580.1 (l0.length : Int))).f1, (Zb l0 (Int.tmod bt580.1 (l0.length : Int))).f2, (Zb l0 (Int.tmod bt580.1 (l0.length : Int))).f3⟩ : S54)), bt582.2)) else (none)) else (none)) else (if (Int.tmod bt578.1 10) = 1 then (if 0 ≤ (Int.tmod bt580.1 (l0.length : Int)) then (if (Int.tmod bt580.1 (l0.length : Int)) < (l0.length : Int) then ((some (l0.set ((Int.tmod bt580.1 (l0.length : Int)) : Int).toNat (⟨32, (Zb l0 (Int.tmod bt580.1 (l0.length : Int))).f1, (Zb l0 (Int.tmod bt580.1 (l0.length : Int))).f2, (Zb l0 (Int.tmod bt580.1 (l0.length : Int))).f3⟩ : S54) : List (S54))).bind fun y585 => (some ((y585.set ((Int.tmod bt580.1 (l0.length : Int)) : Int).toNat (⟨(Zb y585 (Int.tmod bt580.1 (l0.length : Int))).f0, (Zb y585 (Int.tmod bt580.1 (l0.length : Int))).f1, (Zb y585 (Int.tmod bt580.1 (l0.length : Int))).f2, (bt582.1) % 4294967296⟩ : S54)), bt582.2))) else (none)) else (none)) else (if (Int.tmod bt578.1 10) = 2 then (if 0 ≤ (Int.tmod bt580.1 (l0.length : Int)) then (if (Int.tmod bt580.1 (l0.length : Int)) < (l0.length : Int) then ((some (l0.set ((Int.tmod bt580.1 (l0.length : Int)) : Int).toNat (⟨96, (Zb l0 (Int.tmod bt580.1 (l0.length : Int))).f1, (Zb l0 (Int.tmod bt580.1 (l0.length : Int))).f2, (Zb l0 (Int.tmod bt580.1 (l0.length : Int))).f3⟩ : S54) : List (S54))).bind fun y587 => (some ((y587.set ((Int.tmod bt580.1 (l0.length : Int)) : Int).toNat (⟨(Zb y587 (Int.tmod bt580.1 (l0.length : Int))).f0, (Zb y587 (Int.tmod bt580.1 (l0.length : Int))).f1, (Zb y587 (Int.tmod bt580.1 (l0.length : Int))).f2, (wrap64 (14 + (Int.tmod bt582.1 4))) % 4294967296⟩ : S54)), bt582.2))) else (none)) else (none)) else (if (Int.tmod bt578.1 10) = 3 then (if 0 ≤ (Int.tmod bt580.1 (l0.length : Int)) then (if (Int.tmod bt580.1 (l0.length : Int)) < (l0.length : Int) then ((some (l0.set ((Int.tmod bt580.1 (l0.length : Int)) : Int).toNat (⟨5, (Zb l0 (Int.tmod bt580.1 (l0.length : Int))).f1, (Zb l0 (Int.tmod bt580.1 (l0.length : Int))).f2, (Zb l0 (Int.tmod bt580.1 (l0.length : Int))).f3⟩ : S54) : List (S54))).bind fun y589 => (some ((y589.set ((Int.tmod bt580.1 (l0.length : Int)) : Int).toNat (⟨(Zb y589 (Int.tmod bt580.1 (l0.length : Int))).f0, (Zb y589 (Int.tmod bt580.1 (l0.length : Int))).f1, (Zb y589 (Int.tmod bt580.1 (l0.length : Int))).f2, (wrap64 ((wrap64 ((wrap64 ((l0.length : Int) - (Int.tmod bt580.1 (l0.length : Int)))) - 3)) + (Int.tmod bt582.1 3))) % 4294967296⟩ : S54)), bt582.2))) else (none)) else (none)) else (if (Int.tmod bt578.1 10) = 4 then (if 0 ≤ (Int.tmod bt580.1 (l0.length : Int)) then (if (Int.tmod bt580.1 (l0.length : Int)) < (l0.length : Int) then ((some (l0.set ((Int.tmod bt580.1 (l0.length : Int)) : Int).toNat (⟨21, (Zb l0 (Int.tmod bt580.1 (l0.length : Int))).f1, (Zb l0 (Int.tmod bt580.1 (l0.length : Int))).f2, (Zb l0 (Int.tmod bt580.1 (l0.length : Int))).f3⟩ : S54) : List (S54))).bind fun y591 => (some ((y591.set ((Int.tmod bt580.1 (l0.length : Int)) : Int).toNat (⟨(Zb y591 (Int.tmod bt580.1 (l0.length : Int))).f0, (wrap64 ((wrap64 ((wrap64 ((l0.length : Int) - (Int.tmod bt580.1 (l0.length : Int)))) - 3)) + (Int.tmod bt582.1 3))) % 256, (Zb y591 (Int.tmod bt580.1 (l0.length : Int))).f2, (Zb y591 (Int.tmod bt580.1 (l0.length : Int))).f3⟩ : S54)), bt582.2))) else (none)) else (none)) else (if (Int.tmod bt578.1 10) = 5 then (if 0 ≤ (Int.tmod bt580.1 (l0.length : Int)) then (if (Int.tmod bt580.1 (l0.length : Int)) < (l0.length : Int) then ((some (l0.set ((Int.tmod bt580.1 (l0.length : Int)) : Int).toNat (⟨37, (Zb l0 (Int.tmod bt580.1 (l0.length : Int))).f1, (Zb l0 (Int.tmod bt580.1 (l0.length : Int))).f2, (Zb l0 (Int.tmod bt580.1 (l0.length : Int))).f3⟩ : S54) : List (S54))).bind fun y593 => ((some (y593.set ((Int.tmod bt580.1 (l0.length : Int)) : Int).toNat (⟨(Zb y593 (Int.tmod bt580.1 (l0.length : Int))).f0, 0, (Zb y593 (Int.tmod bt580.1 (l0.length : Int))).f2, (Zb y593 (Int.tmod bt580.1 (l0.length : Int))).f3⟩ : S54) : List (S54))).bind fun y594 => (some ((y594.set ((Int.tmod bt580.1 (l0.length : Int)) : Int).toNat (⟨(Zb y594 (Int.tmod bt580.1 (l0.length : Int))).f0, (Zb y594 (Int.tmod bt580.1 (l0.length : Int))).f1, (wrap64 ((wrap64 ((wrap64 ((l0.length : Int) - (Int.tmod bt580.1 (l0.length : Int)))) - 3)) + (Int.tmod bt582.1 3))) % 256, (Zb y594 (Int.tmod bt580.1 (l0.length : Int))).f3⟩ : S54)), bt582.2)))) else (none)) else (none)) else (if (Int.tmod bt578.1 10) = 6 then (if 0 ≤ (Int.tmod bt580.1 (l0.length : Int)) then (if (Int.tmod bt580.1 (l0.length : Int)) < (l0.length : Int) then ((some (l0.set ((Int.tmod bt580.1 (l0.length : Int)) : Int).toNat (⟨52, (Zb l0 (Int.tmod bt580.1 (l0.length : Int))).f1, (Zb l0 (Int.tmod bt580.1 (l0.length : Int))).f2, (Zb l0 (Int.tmod bt580.1 (l0.length : Int))).f3⟩ : S54) : List (S54))).bind fun y596 => (some ((y596.set ((Int.tmod bt580.1 (l0.length : Int)) : Int).toNat (⟨(Zb y596 (Int.tmod bt580.1 (l0.length : Int))).f0, (Zb y596 (Int.tmod bt580.1 (l0.length : Int))).f1, (Zb y596 (Int.tmod bt580.1 (l0.length : Int))).f2, (Int.tmod bt582.1 2) % 4294967296⟩ : S54)), bt582.2))) else (none)) else (none)) else (if (Int.tmod bt578.1 10) = 7 then (if 0 ≤ (Int.tmod bt580.1 (l0.length : Int)) then (if (Int.tmod bt580.1 (l0.length : Int)) < (l0.length : Int) then ((some (l0.set ((Int.tmod bt580.1 (l0.length : Int)) : Int).toNat (⟨100, (Zb l0 (Int.tmod bt580.1 (l0.length : Int))).f1, (Zb l0 (Int.tmod bt580.1 (l0.length : Int))).f2, (Zb l0 (Int.tmod bt580.1 (l0.length : Int))).f3⟩ : S54) : List (S54))).bind fun y598 => (some ((y598.set ((Int.tmod bt580.1 (l0.length : Int)) : Int).toNat (⟨(Zb y598 (Int.tmod bt580.1 (l0.length : Int))).f0, (Zb y598 (Int.tmod bt580.1 (l0.length : Int))).f1, (Zb y598 (Int.tmod bt580.1 (l0.length : Int))).f2, (wrap64 (31 + (Int.tmod bt582.1 3))) % 4294967296⟩ : S54)), bt582.2))) else (none)) else (none)) else (if (Int.tmod bt578.1 10) = 8 then (if 0 ≤ (wrap64 ((l0.length : Int) - 1)) then (if (wrap64 ((l0.length : Int) - 1)) < (l0.length : Int) then (some ((l0.set ((wrap64 ((l0.length : Int) - 1)) : Int).toNat (⟨IntKind.u16.wrap (Int.tmod bt582.1 32), (Zb l0 (wrap64 ((l0.length : Int) - 1))).f1, (Zb l0 (wrap64 ((l0.length : Int) - 1))).f2, (Zb l0 (wrap64 ((l0.length : Int) - 1))).f3⟩ : S54)), bt582.2)) else (none)) else (none)) else (if 0 ≤ (Int.tmod bt580.1 (l0.length : Int)) then (if (Int.tmod bt580.1 (l0.length : Int)) < (l0.length : Int) then (some ((l0.set ((Int.tmod bt580.1 (l0.length : Int)) : Int).toNat (⟨IntKind.u16.wrap (((Zb l0 (Int.tmod bt580.1 (l0.length : Int))).f0) + 256), (Zb l0 (Int.tmod bt580.1 (l0.length : Int))).f1, (Zb l0 (Int.tmod bt580.1 (l0.length : Int))).f2, (Zb l0 (Int.tmod bt580.1 (l0.length : Int))).f3⟩ : S54)), bt582.2)) else (none)) else (none))))))))))))))
set_option maxHeartbeats 8000000 in
set_option maxRecDepth 100000 in
theorem spec_l1spoil.calls (P0_ : Nat → Prop) (u9000_ : Value) (l0 : List (S54)) (g : Nat) (s1_0 : List Int) (s1_1 : Int) (r1 : List (S54)) (r2 : Int) (w0 w : World) (hI : Zc w0 w g s1_0 s1_1) (hB : Below w0.heap.size w0 w) (ho0 : Kd.R k54 54 w w0.heap.size P0_ u9000_ l0) (h : spec_l1spoil.f l0 s1_0 s1_1 = some (r1, r2)) :
  Calls Try.prog 60 #[u9000_, .pointer (some ⟨g, 0, none⟩)] w fun e w' => ∃ v0_ : Value, e = .returned (v0_) ∧ Kd.R k54 54 w' w0.heap.size (fun k_ => (P0_ k_ ∨ w.heap.size ≤ k_)) v0_ r1 ∧ Zc w0 w' g s1_0 r2 ∧ Below w0.heap.size w0 w' ∧ Kept w w' (fun k_ => (P0_ k_) ∨ k_ = g) := by
 have HO0 := Za.mk (show Kd.R k54 54 w w0.heap.size (fun k_ => (P0_ k_ ∨ w.heap.size ≤ k_)) u9000_ l0 from Kd.Zah ho0 (fun k_ hk => (.inl hk)))
 have HI1 := Za.mk hI
 have HL := Za.mk hB.size
 clear hI
 have HK := Za.mk (Kept.refl w (fun k_ => (P0_ k_) ∨ k_ = g))
 have HW0 := Za.mk hB.size
 have HB := Za.mk hB
 clear hB
 have H := h
 unfold spec_l1spoil.f at H
 clear h
 replace H := Option.bind_eq_some_iff.mp H
 obtain ⟨⟨t578, t579⟩, A30, H⟩ := H
 (try dsimp only at H)
 have A3 := Za.mk A30
 clear A30
 replace H := Option.bind_eq_some_iff.mp H
 obtain ⟨⟨t580, t581⟩, A40, H⟩ := H
 (try dsimp only at H)
 have A4 := Za.mk A40
 clear A40
 by_cases c5 : (l0.length : Int) = 0
 ·rw [if_pos c5] at H
  exact absurd H (by simp)
 ·rw [if_neg c5] at H
  have c5b0 : ((l0.length : Int) == 0) = false := beq_eq_false_iff_ne.mpr c5
  have c5b1 : ((l0.length : Int) != 0) = true := bne_iff_ne.mpr c5
  have c5b2 : ¬ (l0 = []) := fun h_ => c5 (by rw [h_]; rfl)
  replace H := Option.bind_eq_some_iff.mp H
  obtain ⟨⟨t582, t583⟩, A60, H⟩ := H
  (try dsimp only at H)
  have A6 := Za.mk A60
  clear A60
  go_enter Try.func60, Try.ntmps60
  go_upto_if 22 with (first | ((with_reducible refine Zaf (f := 44) rfl ?_); refine Zae (some 10) rfl rfl Try.func44 (by kernel_rfl) rfl #[.pointer (some ⟨g, 0, none⟩)] rfl (by (try simp only [ZA, ZB, ZC]); first | done | rfl) ?_; (with_reducible refine (Zar.calls g s1_0 s1_1 t578 t579 w0 _ ?side1 ?side2 A3.out).mono ?_); (case side1 => repeat (first | (with_reducible first | exact HI1.out | apply Zc.alloc | apply Zc.drewN | apply Zc.drew | apply Zc.Zv) | exact HI1.out)); (case side2 => repeat (first | (with_reducible first | exact HB.out | apply Ze | apply Zf | apply Zd | refine Zk ?_ (Zc.ge HI1.out)) | exact HB.out)); rintro e w12 ⟨rfl, hi, hb, hk⟩; refine ⟨_, rfl, ?_⟩; replace HO0 := Za.mk (Kd.Zah (Kd.R_keep (Zc.apart (show Zc w0 _ g s1_0 s1_1 from by repeat (first | (with_reducible first | exact HI1.out | apply Zc.alloc | apply Zc.drewN | apply Zc.drew | apply Zc.Zv) | exact HI1.out)) (by (with_reducible repeat (first | apply Kd.Zs | apply Kd.Zt | apply Kd.Zr)); exact HO0.out) (by decide)) hk (fun _ h => h.2)) (fun _ h => h.1)); replace HK := Za.mk (Kept.of_keep (S := (fun k_ => (P0_ k_) ∨ k_ = g)) (by repeat (first | (with_reducible first | exact HK.out | apply Kept.alloc | apply Kept.drewN | apply Kept.drew | refine Kept.setCell ?_ (.inl (.inr rfl)) _) | exact HK.out)) hk (.inl (.inr rfl))); replace HB := Za.mk (hb); replace HI1 := Za.mk (hi); (try clear hb); (try clear hb2); (try clear hk); (try clear hi)) | ((with_reducible refine Zaf (f := 44) rfl ?_); refine Zae (some 13) rfl rfl Try.func44 (by kernel_rfl) rfl #[.pointer (some ⟨g, 0, none⟩)] rfl (by (try simp only [ZA, ZB, ZC]); first | done | rfl) ?_; (with_reducible refine (Zar.calls g s1_0 t579 t580 t581 w0 _ ?side1 ?side2 A4.out).mono ?_); (case side1 => repeat (first | (with_reducible first | exact HI1.out | apply Zc.alloc | apply Zc.drewN | apply Zc.drew | apply Zc.Zv) | exact HI1.out)); (case side2 => repeat (first | (with_reducible first | exact HB.out | apply Ze | apply Zf | apply Zd | refine Zk ?_ (Zc.ge HI1.out)) | exact HB.out)); rintro e w13 ⟨rfl, hi, hb, hk⟩; refine ⟨_, rfl, ?_⟩; replace HO0 := Za.mk (Kd.Zah (Kd.R_keep (Zc.apart (show Zc w0 _ g s1_0 t579 from by repeat (first | (with_reducible first | exact HI1.out | apply Zc.alloc | apply Zc.drewN | apply Zc.drew | apply Zc.Zv) | exact HI1.out)) (by (with_reducible repeat (first | apply Kd.Zs | apply Kd.Zt | apply Kd.Zr)); exact HO0.out) (by decide)) hk (fun _ h => h.2)) (fun _ h => h.1)); replace HK := Za.mk (Kept.of_keep (S := (fun k_ => (P0_ k_) ∨ k_ = g)) (by repeat (first | (with_reducible first | exact HK.out | apply Kept.alloc | apply Kept.drewN | apply Kept.drew | refine Kept.setCell ?_ (.inl (.inr rfl)) _) | exact HK.out)) hk (.inl (.inr rfl))); replace HB := Za.mk (hb); replace HI1 := Za.mk (hi); (try clear hb); (try clear hb2); (try clear hk); (try clear hi); obtain ⟨Ao14, co14, eo14⟩ := Kd.Zbf HO0.out; subst eo14) | ((with_reducible refine Zaf (f := 44) rfl ?_); refine Zae (some 18) rfl rfl Try.func44 (by kernel_rfl) rfl #[.pointer (some ⟨g, 0, none⟩)] rfl (by (try simp only [ZA, ZB, ZC]); first | done | rfl) ?_; (with_reducible refine (Zar.calls g s1_0 t581 t582 t583 w0 _ ?side1 ?side2 A6.out).mono ?_); (case side1 => repeat (first | (with_reducible first | exact HI1.out | apply Zc.alloc | apply Zc.drewN | apply Zc.drew | apply Zc.Zv) | exact HI1.out)); (case side2 => repeat (first | (with_reducible first | exact HB.out | apply Ze | apply Zf | apply Zd | refine Zk ?_ (Zc.ge HI1.out)) | exact HB.out)); rintro e w15 ⟨rfl, hi, hb, hk⟩; refine ⟨_, rfl, ?_⟩; replace HO0 := Za.mk (Kd.Zah (Kd.R_keep (Zc.apart (show Zc w0 _ g s1_0 t581 from by repeat (first | (with_reducible first | exact HI1.out | apply Zc.alloc | apply Zc.drewN | apply Zc.drew | apply Zc.Zv) | exact HI1.out)) (by (with_reducible repeat (first | apply Kd.Zs | apply Kd.Zt | apply Kd.Zr)); exact HO0.out) (by decide)) hk (fun _ h => h.2)) (fun _ h => h.1)); replace HK := Za.mk (Kept.of_keep (S := (fun k_ => (P0_ k_) ∨ k_ = g)) (by repeat (first | (with_reducible first | exact HK.out | apply Kept.alloc | apply Kept.drewN | apply Kept.drew | refine Kept.setCell ?_ (.inl (.inr rfl)) _) | exact HK.out)) hk (.inl (.inr rfl))); replace HB := Za.mk (hb); replace HI1 := Za.mk (hi); (try clear hb); (try clear hb2); (try clear hk); (try clear hi)))
  by_cases c7 : (Int.tmod t578 10) = 0
  ·rw [if_pos c7] at H
   have c7b0 : ((Int.tmod t578 10) == 0) = true := beq_iff_eq.mpr c7
   have c7b1 : ((Int.tmod t578 10) != 0) = false := bne_eq_false_iff_eq.mpr c7
   clear c7
   obtain ⟨ji8, hji8⟩ : ∃ j_ : Int, (Int.tmod t580 (l0.length : Int)) = j_ := ⟨_, rfl⟩
   replace H : (if 0 ≤ (ji8) then (if (ji8) < (l0.length : Int) then (some ((l0.set ((ji8) : Int).toNat (⟨IntKind.u16.wrap (t582), (Zb l0 (ji8)).f1, (Zb l0 (ji8)).f2, (Zb l0 (ji8)).f3⟩ : S54)), t583)) else (none)) else (none)) = some (r1, r2) := by first | (rw [hji8] at H; exact H) | (simp only [hji8] at H ⊢; exact H)
   (try rw [hji8] at A3)
   (try rw [hji8] at A4)
   (try rw [hji8] at A6)
   by_cases c9 : 0 ≤ (ji8)
   ·rw [if_pos c9] at H
    have c9b0 : decide (0 ≤ (ji8)) = true := decide_eq_true c9
    clear c9
    by_cases c10 : (ji8) < (l0.length : Int)
    ·rw [if_pos c10] at H
     have c10b0 : decide ((ji8) < (l0.length : Int)) = true := decide_eq_true c10
     clear c10
     obtain ⟨y584, hy584⟩ : ∃ y_ : List (S54), y_ = (l0.set ((ji8) : Int).toNat (⟨IntKind.u16.wrap (t582), (Zb l0 (ji8)).f1, (Zb l0 (ji8)).f2, (Zb l0 (ji8)).f3⟩ : S54)) := ⟨_, rfl⟩
     replace H : (some (y584, t583)) = some (r1, r2) := by first | (rw [hy584]; with_reducible exact H) | (have H2_ := (Option.bind_some _ _).symm.trans H; rw [hy584]; with_reducible exact H2_) | (have H2_ := (Option.bind_some _ _).symm.trans H; with_reducible exact H2_) | with_reducible exact H | (rw [hy584]; exact H) | exact H
     have Ny584 := Za.mk hy584
     clear hy584
     simp only [Option.some.injEq, Prod.mk.injEq] at H
     obtain ⟨rfl, rfl⟩ := H
     (try rw [c7b0])
     have p11 : 0 ≤ ((ji8) : Int) := of_decide_eq_true (by assumption)
     have q11 : ((ji8) : Int) < ((l0.length : Int) : Int) := of_decide_eq_true (by assumption)
     obtain ⟨go11, co11, eo11, gb11, gl11, cl11, HG11⟩ := Kd.R_form HO0.out (by omega)
     (first | cases eo11 | (injection eo11 with ea_ en_ ec_; (first | subst ea_ | (injection ea_ with ea_; subst ea_)); subst ec_; clear en_))
     have GB11 := Za.mk gb11
     have GG11 := Za.mk HG11
     clear gb11 gl11 HG11
     have HMgo11 := Za.mk (show (P0_ go11 ∨ w.heap.size ≤ go11) from (HO0.out.1 _ rfl))
     obtain ⟨ce11, hcl11, hM11, hcc11, hfr11⟩ := Kd.R_elem HO0.out z54 ((ji8) : Int) p11 q11
     obtain rfl := Zba hM11
     have hx11_0 : w15.cell? ⟨go11, ((ji8) : Int).toNat * 4, none⟩ = some (.int .u16 ((Zb l0 (ji8)).f0)) := hcc11 0 _ rfl
     have hx11_1 : w15.cell? ⟨go11, ((ji8) : Int).toNat * 4 + 1, none⟩ = some (.int .u8 ((Zb l0 (ji8)).f1)) := hcc11 1 _ rfl
     have hx11_2 : w15.cell? ⟨go11, ((ji8) : Int).toNat * 4 + 2, none⟩ = some (.int .u8 ((Zb l0 (ji8)).f2)) := hcc11 2 _ rfl
     have hx11_3 : w15.cell? ⟨go11, ((ji8) : Int).toNat * 4 + 3, none⟩ = some (.int .u32 ((Zb l0 (ji8)).f3)) := hcc11 3 _ rfl
     have hf11_0 : w15.frozen? ⟨go11, ((ji8) : Int).toNat * 4, none⟩ = false := hfr11 0
     have hf11_1 : w15.frozen? ⟨go11, ((ji8) : Int).toNat * 4 + 1, none⟩ = false := hfr11 1
     have hf11_2 : w15.frozen? ⟨go11, ((ji8) : Int).toNat * 4 + 2, none⟩ = false := hfr11 2
     have hf11_3 : w15.frozen? ⟨go11, ((ji8) : Int).toNat * 4 + 3, none⟩ = false := hfr11 3
     clear hcl11 hcc11 hfr11 hM11
     replace p11 := eq_true p11
     replace q11 := eq_true q11
     have HX16 := Za.mk (show Kd.R k54 54 w15 w0.heap.size (fun k_ => (P0_ k_ ∨ w.heap.size ≤ k_)) (.slice (some ⟨go11, 0, none⟩) l0.length co14) l0 from (by (with_reducible repeat (first | apply Kd.Zs | apply Kd.Zt | apply Kd.Zr)); exact HO0.out))
     obtain ⟨ce16, hcl16, hM16, hcc16, hfr16⟩ := Kd.R_elem HX16.out z54 ((ji8) : Int) (of_decide_eq_true (by assumption)) (by have h_ : ((ji8) : Int) < ((l0.length : Int) : Int) := of_decide_eq_true (by assumption); first | exact h_ | (have e_ := (Kd.Zag HO0.out).1; omega) | simpa using h_)
     obtain rfl := Zba hM16
     have HP16 := Kd.R_seg HX16.out ((ji8) : Int) (of_decide_eq_true (by assumption)) (by have h_ : ((ji8) : Int) < ((l0.length : Int) : Int) := of_decide_eq_true (by assumption); first | exact h_ | (have e_ := (Kd.Zag HO0.out).1; omega) | simpa using h_) (seg := [.int .u16 (IntKind.u16.wrap (t582))]) (j := 0) hcl16 hcc16 (show 1 ≤ 4 from by decide) (x' := (⟨IntKind.u16.wrap (t582), (Zb l0 (ji8)).f1, (Zb l0 (ji8)).f2, (Zb l0 (ji8)).f3⟩ : S54)) (k54_mkM _ _ _ (⟨IntKind.u16.wrap (t582), (Zb l0 (ji8)).f1, (Zb l0 (ji8)).f2, (Zb l0 (ji8)).f3⟩ : S54) ) (fun _ hk => hk)
     have hx16_0 := hcc16 0 _ rfl
     (try simp only [show (k54).sz = 4 from rfl, Nat.mul_one, Nat.add_zero] at hx16_0)
     have hf16_0 := hfr16 0
     (try simp only [show (k54).sz = 4 from rfl, Nat.mul_one, Nat.add_zero] at hf16_0)
     clear hcl16 hcc16 hfr16 hM16
     go_wp2_with (first | ((with_reducible refine Zby (t := 52) (p := 28) rfl ?_); refine Zbx (t := 52) (p := 28) (v := ?vo_w17) (w1 := (w15.setCell ⟨go11, ((ji8) : Int).toNat * 4, none⟩ (.int .u16 (IntKind.u16.wrap (t582))))) ?hg ?ho ?hn ?hr ?_; (case ho => rfl); (case hg => rfl); (case hn => rfl); (case hr => first | (go_simp; done) | (go_simp; rfl)); intro w17 hw; have hg : w15.grownBy w17 (some go11) := (by rw [hw]; exact HP16.2); have hp_ : Kd.R k54 54 w17 w0.heap.size (fun k_ => (P0_ k_ ∨ w.heap.size ≤ k_)) (.slice (some ⟨go11, 0, none⟩) l0.length co14) y584 := (by rw [hw, Ny584.out]; exact HP16.1); clear HP16; replace HI1 := Za.mk (Zc.grown (by repeat (first | (with_reducible first | exact HI1.out | apply Zc.alloc | apply Zc.drewN | apply Zc.drew | apply Zc.Zv) | exact HI1.out)) hg (Zc.own_ne HI1.out HO0.out (by decide))); replace HB := Za.mk ((by rw [hw]; exact Zk (HB.out) GB11.out : Below w0.heap.size w0 w17)); replace HK := Za.mk (Kept.Zbn (S := (fun k_ => (P0_ k_) ∨ k_ = g)) hg (by repeat (first | (with_reducible first | exact HK.out | apply Kept.alloc | apply Kept.drewN | apply Kept.drew | refine Kept.setCell ?_ (.inl (.inr rfl)) _) | exact HK.out)) (fun k_ e_ => Or.imp_left Or.inl ((HO0.out.1 k_ e_)))); replace HO0 := Za.mk (hp_); clear hg hw hp_))
     go_ret
     exact ⟨_, by first | rfl | (simp [Zo, Zp] <;> rfl) | (simp only [← hji8]; first | rfl | (simp [Zo, Zp] <;> rfl)) | (simp [*, Zo, Zp] <;> rfl), by (with_reducible repeat (first | apply Kd.Zs | apply Kd.Zt | apply Kd.Zr)); exact HO0.out, by repeat (first | (with_reducible first | exact HI1.out | apply Zc.alloc | apply Zc.drewN | apply Zc.drew | apply Zc.Zv) | exact HI1.out), by repeat (first | (with_reducible first | exact HB.out | apply Ze | apply Zf | apply Zd | refine Zk ?_ (Zc.ge HI1.out)) | exact HB.out), by repeat (first | (with_reducible first | exact HK.out | apply Kept.alloc | apply Kept.drewN | apply Kept.drew | refine Kept.setCell ?_ (.inl (.inr rfl)) _) | exact HK.out)⟩
    ·rw [if_neg c10] at H
     exact absurd H (by simp)
   ·rw [if_neg c9] at H
    exact absurd H (by simp)
  ·rw [if_neg c7] at H
   have c7b0 : ((Int.tmod t578 10) == 0) = false := beq_eq_false_iff_ne.mpr c7
   have c7b1 : ((Int.tmod t578 10) != 0) = true := bne_iff_ne.mpr c7
   by_cases c18 : (Int.tmod t578 10) = 1
   ·rw [if_pos c18] at H
    have c18b0 : ((Int.tmod t578 10) == 1) = true := beq_iff_eq.mpr c18
    have c18b1 : ((Int.tmod t578 10) != 1) = false := bne_eq_false_iff_eq.mpr c18
    clear c18
    obtain ⟨ji19, hji19⟩ : ∃ j_ : Int, (Int.tmod t580 (l0.length : Int)) = j_ := ⟨_, rfl⟩
    replace H : (if 0 ≤ (ji19) then (if (ji19) < (l0.length : Int) then ((some (l0.set ((ji19) : Int).toNat (⟨32, (Zb l0 (ji19)).f1, (Zb l0 (ji19)).f2, (Zb l0 (ji19)).f3⟩ : S54) : List (S54))).bind fun y585 => (some ((y585.set ((ji19) : Int).toNat (⟨(Zb y585 (ji19)).f0, (Zb y585 (ji19)).f1, (Zb y585 (ji19)).f2, (t582) % 4294967296⟩ : S54)), t583))) else (none)) else (none)) = some (r1, r2) := by first | (rw [hji19] at H; exact H) | (simp only [hji19] at H ⊢; exact H)
    (try rw [hji19] at A3)
    (try rw [hji19] at A4)
    (try rw [hji19] at A6)
    by_cases c20 : 0 ≤ (ji19)
    ·rw [if_pos c20] at H
     have c20b0 : decide (0 ≤ (ji19)) = true := decide_eq_true c20
     clear c20
     by_cases c21 : (ji19) < (l0.length : Int)
     ·rw [if_pos c21] at H
      have c21b0 : decide ((ji19) < (l0.length : Int)) = true := decide_eq_true c21
      clear c21
      obtain ⟨y585, hy585⟩ : ∃ y_ : List (S54), y_ = (l0.set ((ji19) : Int).toNat (⟨32, (Zb l0 (ji19)).f1, (Zb l0 (ji19)).f2, (Zb l0 (ji19)).f3⟩ : S54)) := ⟨_, rfl⟩
      replace H : (some ((y585.set ((ji19) : Int).toNat (⟨(Zb y585 (ji19)).f0, (Zb y585 (ji19)).f1, (Zb y585 (ji19)).f2, (t582) % 4294967296⟩ : S54)), t583)) = some (r1, r2) := by first | (rw [hy585]; with_reducible exact H) | (have H2_ := (Option.bind_some _ _).symm.trans H; rw [hy585]; with_reducible exact H2_) | (have H2_ := (Option.bind_some _ _).symm.trans H; with_reducible exact H2_) | with_reducible exact H | (rw [hy585]; exact H) | exact H
      have Ny585 := Za.mk hy585
      clear hy585
      obtain ⟨y586, hy586⟩ : ∃ y_ : List (S54), y_ = (y585.set ((ji19) : Int).toNat (⟨(Zb y585 (ji19)).f0, (Zb y585 (ji19)).f1, (Zb y585 (ji19)).f2, (t582) % 4294967296⟩ : S54)) := ⟨_, rfl⟩
      replace H : (some (y586, t583)) = some (r1, r2) := by first | (rw [hy586]; with_reducible exact H) | (have H2_ := (Option.bind_some _ _).symm.trans H; rw [hy586]; with_reducible exact H2_) | (have H2_ := (Option.bind_some _ _).symm.trans H; with_reducible exact H2_) | with_reducible exact H | (rw [hy586]; exact H) | exact H
      have Ny586 := Za.mk hy586
      clear hy586
      simp only [Option.some.injEq, Prod.mk.injEq] at H
      obtain ⟨rfl, rfl⟩ := H
      (try rw [c7b0])
      have p22 : 0 ≤ ((ji19) : Int) := of_decide_eq_true (by assumption)
      have q22 : ((ji19) : Int) < ((l0.length : Int) : Int) := of_decide_eq_true (by assumption)
      obtain ⟨go22, co22, eo22, gb22, gl22, cl22, HG22⟩ := Kd.R_form HO0.out (by omega)
      (first | cases eo22 | (injection eo22 with ea_ en_ ec_; (first | subst ea_ | (injection ea_ with ea_; subst ea_)); subst ec_; clear en_))
      have GB22 := Za.mk gb22
      have GG22 := Za.mk HG22
      clear gb22 gl22 HG22
      have HMgo22 := Za.mk (show (P0_ go22 ∨ w.heap.size ≤ go22) from (HO0.out.1 _ rfl))
      obtain ⟨ce22, hcl22, hM22, hcc22, hfr22⟩ := Kd.R_elem HO0.out z54 ((ji19) : Int) p22 q22
      obtain rfl := Zba hM22
      have hx22_0 : w15.cell? ⟨go22, ((ji19) : Int).toNat * 4, none⟩ = some (.int .u16 ((Zb l0 (ji19)).f0)) := hcc22 0 _ rfl
      have hx22_1 : w15.cell? ⟨go22, ((ji19) : Int).toNat * 4 + 1, none⟩ = some (.int .u8 ((Zb l0 (ji19)).f1)) := hcc22 1 _ rfl
      have hx22_2 : w15.cell? ⟨go22, ((ji19) : Int).toNat * 4 + 2, none⟩ = some (.int .u8 ((Zb l0 (ji19)).f2)) := hcc22 2 _ rfl
      have hx22_3 : w15.cell? ⟨go22, ((ji19) : Int).toNat * 4 + 3, none⟩ = some (.int .u32 ((Zb l0 (ji19)).f3)) := hcc22 3 _ rfl
      have hf22_0 : w15.frozen? ⟨go22, ((ji19) : Int).toNat * 4, none⟩ = false := hfr22 0
      have hf22_1 : w15.frozen? ⟨go22, ((ji19) : Int).toNat * 4 + 1, none⟩ = false := hfr22 1
      have hf22_2 : w15.frozen? ⟨go22, ((ji19) : Int).toNat * 4 + 2, none⟩ = false := hfr22 2
      have hf22_3 : w15.frozen? ⟨go22, ((ji19) : Int).toNat * 4 + 3, none⟩ = false := hfr22 3
      clear hcl22 hcc22 hfr22 hM22
      replace p22 := eq_true p22
      replace q22 := eq_true q22
      have HX28 := Za.mk (show Kd.R k54 54 w15 w0.heap.size (fun k_ => (P0_ k_ ∨ w.heap.size ≤ k_)) (.slice (some ⟨go22, 0, none⟩) l0.length co14) l0 from (by (with_reducible repeat (first | apply Kd.Zs | apply Kd.Zt | apply Kd.Zr)); exact HO0.out))
      obtain ⟨ce28, hcl28, hM28, hcc28, hfr28⟩ := Kd.R_elem HX28.out z54 ((ji19) : Int) (of_decide_eq_true (by assumption)) (by have h_ : ((ji19) : Int) < ((l0.length : Int) : Int) := of_decide_eq_true (by assumption); first | exact h_ | (have e_ := (Kd.Zag HO0.out).1; omega) | simpa using h_)
      obtain rfl := Zba hM28
      have HP28 := Kd.R_seg HX28.out ((ji19) : Int) (of_decide_eq_true (by assumption)) (by have h_ : ((ji19) : Int) < ((l0.length : Int) : Int) := of_decide_eq_true (by assumption); first | exact h_ | (have e_ := (Kd.Zag HO0.out).1; omega) | simpa using h_) (seg := [.int .u16 32]) (j := 0) hcl28 hcc28 (show 1 ≤ 4 from by decide) (x' := (⟨32, (Zb l0 (ji19)).f1, (Zb l0 (ji19)).f2, (Zb l0 (ji19)).f3⟩ : S54)) (k54_mkM _ _ _ (⟨32, (Zb l0 (ji19)).f1, (Zb l0 (ji19)).f2, (Zb l0 (ji19)).f3⟩ : S54) ) (fun _ hk => hk)
      have hx28_0 := hcc28 0 _ rfl
      (try simp only [show (k54).sz = 4 from rfl, Nat.mul_one, Nat.add_zero] at hx28_0)
      have hf28_0 := hfr28 0
      (try simp only [show (k54).sz = 4 from rfl, Nat.mul_one, Nat.add_zero] at hf28_0)
      clear hcl28 hcc28 hfr28 hM28
      go_wp2_with (first | ((with_reducible refine Zby (t := 52) (p := 34) rfl ?_); refine Zbx (t := 52) (p := 34) (v := ?vo_w29) (w1 := (w15.setCell ⟨go22, ((ji19) : Int).toNat * 4, none⟩ (.int .u16 32))) ?hg ?ho ?hn ?hr ?_; (case ho => rfl); (case hg => rfl); (case hn => rfl); (case hr => first | (go_simp; done) | (go_simp; rfl)); intro w29 hw; have hg : w15.grownBy w29 (some go22) := (by rw [hw]; exact HP28.2); have hp_ : Kd.R k54 54 w29 w0.heap.size (fun k_ => (P0_ k_ ∨ w.heap.size ≤ k_)) (.slice (some ⟨go22, 0, none⟩) l0.length co14) y585 := (by rw [hw, Ny585.out]; exact HP28.1); clear HP28; replace HI1 := Za.mk (Zc.grown (by repeat (first | (with_reducible first | exact HI1.out | apply Zc.alloc | apply Zc.drewN | apply Zc.drew | apply Zc.Zv) | exact HI1.out)) hg (Zc.own_ne HI1.out HO0.out (by decide))); replace HB := Za.mk ((by rw [hw]; exact Zk (HB.out) GB22.out : Below w0.heap.size w0 w29)); replace HK := Za.mk (Kept.Zbn (S := (fun k_ => (P0_ k_) ∨ k_ = g)) hg (by repeat (first | (with_reducible first | exact HK.out | apply Kept.alloc | apply Kept.drewN | apply Kept.drew | refine Kept.setCell ?_ (.inl (.inr rfl)) _) | exact HK.out)) (fun k_ e_ => Or.imp_left Or.inl ((HO0.out.1 k_ e_)))); replace HO0 := Za.mk (hp_); clear hg hw hp_; have p23 : 0 ≤ ((ji19) : Int) := of_decide_eq_true (by assumption); have q23 : ((ji19) : Int) < ((l0.length : Int) : Int) := of_decide_eq_true (by assumption); obtain ⟨ce23, hcl23, hM23, hcc23, hfr23⟩ := Kd.R_elem HO0.out z54 ((ji19) : Int) p23 q23; obtain rfl := Zba hM23; have hx23_0 : w29.cell? ⟨go22, ((ji19) : Int).toNat * 4, none⟩ = some (.int .u16 ((Zb y585 (ji19)).f0)) := hcc23 0 _ rfl; have hx23_1 : w29.cell? ⟨go22, ((ji19) : Int).toNat * 4 + 1, none⟩ = some (.int .u8 ((Zb y585 (ji19)).f1)) := hcc23 1 _ rfl; have hx23_2 : w29.cell? ⟨go22, ((ji19) : Int).toNat * 4 + 2, none⟩ = some (.int .u8 ((Zb y585 (ji19)).f2)) := hcc23 2 _ rfl; have hx23_3 : w29.cell? ⟨go22, ((ji19) : Int).toNat * 4 + 3, none⟩ = some (.int .u32 ((Zb y585 (ji19)).f3)) := hcc23 3 _ rfl; have hf23_0 : w29.frozen? ⟨go22, ((ji19) : Int).toNat * 4, none⟩ = false := hfr23 0; have hf23_1 : w29.frozen? ⟨go22, ((ji19) : Int).toNat * 4 + 1, none⟩ = false := hfr23 1; have hf23_2 : w29.frozen? ⟨go22, ((ji19) : Int).toNat * 4 + 2, none⟩ = false := hfr23 2; have hf23_3 : w29.frozen? ⟨go22, ((ji19) : Int).toNat * 4 + 3, none⟩ = false := hfr23 3; clear hcl23 hcc23 hfr23 hM23; replace p23 := eq_true p23; replace q23 := eq_true q23; have HX30 := Za.mk (show Kd.R k54 54 w29 w0.heap.size (fun k_ => (P0_ k_ ∨ w.heap.size ≤ k_)) (.slice (some ⟨go22, 0, none⟩) l0.length co14) y585 from (by (with_reducible repeat (first | apply Kd.Zs | apply Kd.Zt | apply Kd.Zr)); exact HO0.out)); obtain ⟨ce30, hcl30, hM30, hcc30, hfr30⟩ := Kd.R_elem HX30.out z54 ((ji19) : Int) (of_decide_eq_true (by assumption)) (by have h_ : ((ji19) : Int) < ((l0.length : Int) : Int) := of_decide_eq_true (by assumption); first | exact h_ | (have e_ := (Kd.Zag HO0.out).1; omega) | simpa using h_); obtain rfl := Zba hM30; have HP30 := Kd.R_seg HX30.out ((ji19) : Int) (of_decide_eq_true (by assumption)) (by have h_ : ((ji19) : Int) < ((l0.length : Int) : Int) := of_decide_eq_true (by assumption); first | exact h_ | (have e_ := (Kd.Zag HO0.out).1; omega) | simpa using h_) (seg := [.int .u32 ((t582) % 4294967296)]) (j := 3) hcl30 hcc30 (show 4 ≤ 4 from by decide) (x' := (⟨(Zb y585 (ji19)).f0, (Zb y585 (ji19)).f1, (Zb y585 (ji19)).f2, (t582) % 4294967296⟩ : S54)) (k54_mkM _ _ _ (⟨(Zb y585 (ji19)).f0, (Zb y585 (ji19)).f1, (Zb y585 (ji19)).f2, (t582) % 4294967296⟩ : S54) ) (fun _ hk => hk); have hx30_3 := hcc30 3 _ rfl; (try simp only [show (k54).sz = 4 from rfl, Nat.mul_one, Nat.add_zero] at hx30_3); have hf30_3 := hfr30 3; (try simp only [show (k54).sz = 4 from rfl, Nat.mul_one, Nat.add_zero] at hf30_3); clear hcl30 hcc30 hfr30 hM30) | ((with_reducible refine Zby (t := 42) (p := 40) rfl ?_); refine Zbx (t := 42) (p := 40) (v := ?vo_w31) (w1 := (w29.setCell ⟨go22, ((ji19) : Int).toNat * 4 + 3, none⟩ (.int .u32 ((t582) % 4294967296)))) ?hg ?ho ?hn ?hr ?_; (case ho => rfl); (case hg => rfl); (case hn => rfl); (case hr => first | (go_simp; done) | (go_simp; rfl)); intro w31 hw; have hg : w29.grownBy w31 (some go22) := (by rw [hw]; exact HP30.2); have hp_ : Kd.R k54 54 w31 w0.heap.size (fun k_ => (P0_ k_ ∨ w.heap.size ≤ k_)) (.slice (some ⟨go22, 0, none⟩) l0.length co14) y586 := (by rw [hw, Ny586.out]; exact HP30.1); clear HP30; replace HI1 := Za.mk (Zc.grown (by repeat (first | (with_reducible first | exact HI1.out | apply Zc.alloc | apply Zc.drewN | apply Zc.drew | apply Zc.Zv) | exact HI1.out)) hg (Zc.own_ne HI1.out HO0.out (by decide))); replace HB := Za.mk ((by rw [hw]; exact Zk (HB.out) GB22.out : Below w0.heap.size w0 w31)); replace HK := Za.mk (Kept.Zbn (S := (fun k_ => (P0_ k_) ∨ k_ = g)) hg (by repeat (first | (with_reducible first | exact HK.out | apply Kept.alloc | apply Kept.drewN | apply Kept.drew | refine Kept.setCell ?_ (.inl (.inr rfl)) _) | exact HK.out)) (fun k_ e_ => Or.imp_left Or.inl ((HO0.out.1 k_ e_)))); replace HO0 := Za.mk (hp_); clear hg hw hp_))
      go_ret
      exact ⟨_, by first | rfl | (simp [Zo, Zp] <;> rfl) | (simp only [← hji19]; first | rfl | (simp [Zo, Zp] <;> rfl)) | (simp [*, Zo, Zp] <;> rfl), by (with_reducible repeat (first | apply Kd.Zs | apply Kd.Zt | apply Kd.Zr)); exact HO0.out, by repeat (first | (with_reducible first | exact HI1.out | apply Zc.alloc | apply Zc.drewN | apply Zc.drew | apply Zc.Zv) | exact HI1.out), by repeat (first | (with_reducible first | exact HB.out | apply Ze | apply Zf | apply Zd | refine Zk ?_ (Zc.ge HI1.out)) | exact HB.out), by repeat (first | (with_reducible first | exact HK.out | apply Kept.alloc | apply Kept.drewN | apply Kept.drew | refine Kept.setCell ?_ (.inl (.inr rfl)) _) | exact HK.out)⟩
     ·rw [if_neg c21] at H
      exact absurd H (by simp)
    ·rw [if_neg c20] at H
     exact absurd H (by simp)
   ·rw [if_neg c18] at H
    have c18b0 : ((Int.tmod t578 10) == 1) = false := beq_eq_false_iff_ne.mpr c18
    have c18b1 : ((Int.tmod t578 10) != 1) = true := bne_iff_ne.mpr c18
    by_cases c32 : (Int.tmod t578 10) = 2
    ·rw [if_pos c32] at H
     have c32b0 : ((Int.tmod t578 10) == 2) = true := beq_iff_eq.mpr c32
     have c32b1 : ((Int.tmod t578 10) != 2) = false := bne_eq_false_iff_eq.mpr c32
     clear c32
     obtain ⟨ji33, hji33⟩ : ∃ j_ : Int, (Int.tmod t580 (l0.length : Int)) = j_ := ⟨_, rfl⟩
     replace H : (if 0 ≤ (ji33) then (if (ji33) < (l0.length : Int) then ((some (l0.set ((ji33) : Int).toNat (⟨96, (Zb l0 (ji33)).f1, (Zb l0 (ji33)).f2, (Zb l0 (ji33)).f3⟩ : S54) : List (S54))).bind fun y587 => (some ((y587.set ((ji33) : Int).toNat (⟨(Zb y587 (ji33)).f0, (Zb y587 (ji33)).f1, (Zb y587 (ji33)).f2, (wrap64 (14 + (Int.tmod t582 4))) % 4294967296⟩ : S54)), t583))) else (none)) else (none)) = some (r1, r2) := by first | (rw [hji33] at H; exact H) | (simp only [hji33] at H ⊢; exact H)
     (try rw [hji33] at A3)
     (try rw [hji33] at A4)
     (try rw [hji33] at A6)
     by_cases c34 : 0 ≤ (ji33)
     ·rw [if_pos c34] at H
      have c34b0 : decide (0 ≤ (ji33)) = true := decide_eq_true c34
      clear c34
      by_cases c35 : (ji33) < (l0.length : Int)
      ·rw [if_pos c35] at H
       have c35b0 : decide ((ji33) < (l0.length : Int)) = true := decide_eq_true c35
       clear c35
       obtain ⟨y587, hy587⟩ : ∃ y_ : List (S54), y_ = (l0.set ((ji33) : Int).toNat (⟨96, (Zb l0 (ji33)).f1, (Zb l0 (ji33)).f2, (Zb l0 (ji33)).f3⟩ : S54)) := ⟨_, rfl⟩
       replace H : (some ((y587.set ((ji33) : Int).toNat (⟨(Zb y587 (ji33)).f0, (Zb y587 (ji33)).f1, (Zb y587 (ji33)).f2, (wrap64 (14 + (Int.tmod t582 4))) % 4294967296⟩ : S54)), t583)) = some (r1, r2) := by first | (rw [hy587]; with_reducible exact H) | (have H2_ := (Option.bind_some _ _).symm.trans H; rw [hy587]; with_reducible exact H2_) | (have H2_ := (Option.bind_some _ _).symm.trans H; with_reducible exact H2_) | with_reducible exact H | (rw [hy587]; exact H) | exact H
       have Ny587 := Za.mk hy587
       clear hy587
       obtain ⟨y588, hy588⟩ : ∃ y_ : List (S54), y_ = (y587.set ((ji33) : Int).toNat (⟨(Zb y587 (ji33)).f0, (Zb y587 (ji33)).f1, (Zb y587 (ji33)).f2, (wrap64 (14 + (Int.tmod t582 4))) % 4294967296⟩ : S54)) := ⟨_, rfl⟩
       replace H : (some (y588, t583)) = some (r1, r2) := by first | (rw [hy588]; with_reducible exact H) | (have H2_ := (Option.bind_some _ _).symm.trans H; rw [hy588]; with_reducible exact H2_) | (have H2_ := (Option.bind_some _ _).symm.trans H; with_reducible exact H2_) | with_reducible exact H | (rw [hy588]; exact H) | exact H
       have Ny588 := Za.mk hy588
       clear hy588
       simp only [Option.some.injEq, Prod.mk.injEq] at H
       obtain ⟨rfl, rfl⟩ := H
       (try rw [c7b0])
       have p36 : 0 ≤ ((ji33) : Int) := of_decide_eq_true (by assumption)
       have q36 : ((ji33) : Int) < ((l0.length : Int) : Int) := of_decide_eq_true (by assumption)
       obtain ⟨go36, co36, eo36, gb36, gl36, cl36, HG36⟩ := Kd.R_form HO0.out (by omega)
       (first | cases eo36 | (injection eo36 with ea_ en_ ec_; (first | subst ea_ | (injection ea_ with ea_; subst ea_)); subst ec_; clear en_))
       have GB36 := Za.mk gb36
       have GG36 := Za.mk HG36
       clear gb36 gl36 HG36
       have HMgo36 := Za.mk (show (P0_ go36 ∨ w.heap.size ≤ go36) from (HO0.out.1 _ rfl))
       obtain ⟨ce36, hcl36, hM36, hcc36, hfr36⟩ := Kd.R_elem HO0.out z54 ((ji33) : Int) p36 q36
       obtain rfl := Zba hM36
       have hx36_0 : w15.cell? ⟨go36, ((ji33) : Int).toNat * 4, none⟩ = some (.int .u16 ((Zb l0 (ji33)).f0)) := hcc36 0 _ rfl
       have hx36_1 : w15.cell? ⟨go36, ((ji33) : Int).toNat * 4 + 1, none⟩ = some (.int .u8 ((Zb l0 (ji33)).f1)) := hcc36 1 _ rfl
       have hx36_2 : w15.cell? ⟨go36, ((ji33) : Int).toNat * 4 + 2, none⟩ = some (.int .u8 ((Zb l0 (ji33)).f2)) := hcc36 2 _ rfl
       have hx36_3 : w15.cell? ⟨go36, ((ji33) : Int).toNat * 4 + 3, none⟩ = some (.int .u32 ((Zb l0 (ji33)).f3)) := hcc36 3 _ rfl
       have hf36_0 : w15.frozen? ⟨go36, ((ji33) : Int).toNat * 4, none⟩ = false := hfr36 0
       have hf36_1 : w15.frozen? ⟨go36, ((ji33) : Int).toNat * 4 + 1, none⟩ = false := hfr36 1
       have hf36_2 : w15.frozen? ⟨go36, ((ji33) : Int).toNat * 4 + 2, none⟩ = false := hfr36 2
       have hf36_3 : w15.frozen? ⟨go36, ((ji33) : Int).toNat * 4 + 3, none⟩ = false := hfr36 3
       clear hcl36 hcc36 hfr36 hM36
       replace p36 := eq_true p36
       replace q36 := eq_true q36
       have HX42 := Za.mk (show Kd.R k54 54 w15 w0.heap.size (fun k_ => (P0_ k_ ∨ w.heap.size ≤ k_)) (.slice (some ⟨go36, 0, none⟩) l0.length co14) l0 from (by (with_reducible repeat (first | apply Kd.Zs | apply Kd.Zt | apply Kd.Zr)); exact HO0.out))
       obtain ⟨ce42, hcl42, hM42, hcc42, hfr42⟩ := Kd.R_elem HX42.out z54 ((ji33) : Int) (of_decide_eq_true (by assumption)) (by have h_ : ((ji33) : Int) < ((l0.length : Int) : Int) := of_decide_eq_true (by assumption); first | exact h_ | (have e_ := (Kd.Zag HO0.out).1; omega) | simpa using h_)
       obtain rfl := Zba hM42
       have HP42 := Kd.R_seg HX42.out ((ji33) : Int) (of_decide_eq_true (by assumption)) (by have h_ : ((ji33) : Int) < ((l0.length : Int) : Int) := of_decide_eq_true (by assumption); first | exact h_ | (have e_ := (Kd.Zag HO0.out).1; omega) | simpa using h_) (seg := [.int .u16 96]) (j := 0) hcl42 hcc42 (show 1 ≤ 4 from by decide) (x' := (⟨96, (Zb l0 (ji33)).f1, (Zb l0 (ji33)).f2, (Zb l0 (ji33)).f3⟩ : S54)) (k54_mkM _ _ _ (⟨96, (Zb l0 (ji33)).f1, (Zb l0 (ji33)).f2, (Zb l0 (ji33)).f3⟩ : S54) ) (fun _ hk => hk)
       have hx42_0 := hcc42 0 _ rfl
       (try simp only [show (k54).sz = 4 from rfl, Nat.mul_one, Nat.add_zero] at hx42_0)
       have hf42_0 := hfr42 0
       (try simp only [show (k54).sz = 4 from rfl, Nat.mul_one, Nat.add_zero] at hf42_0)
       clear hcl42 hcc42 hfr42 hM42
       go_wp2_with (first | ((with_reducible refine Zby (t := 52) (p := 46) rfl ?_); refine Zbx (t := 52) (p := 46) (v := ?vo_w43) (w1 := (w15.setCell ⟨go36, ((ji33) : Int).toNat * 4, none⟩ (.int .u16 96))) ?hg ?ho ?hn ?hr ?_; (case ho => rfl); (case hg => rfl); (case hn => rfl); (case hr => first | (go_simp; done) | (go_simp; rfl)); intro w43 hw; have hg : w15.grownBy w43 (some go36) := (by rw [hw]; exact HP42.2); have hp_ : Kd.R k54 54 w43 w0.heap.size (fun k_ => (P0_ k_ ∨ w.heap.size ≤ k_)) (.slice (some ⟨go36, 0, none⟩) l0.length co14) y587 := (by rw [hw, Ny587.out]; exact HP42.1); clear HP42; replace HI1 := Za.mk (Zc.grown (by repeat (first | (with_reducible first | exact HI1.out | apply Zc.alloc | apply Zc.drewN | apply Zc.drew | apply Zc.Zv) | exact HI1.out)) hg (Zc.own_ne HI1.out HO0.out (by decide))); replace HB := Za.mk ((by rw [hw]; exact Zk (HB.out) GB36.out : Below w0.heap.size w0 w43)); replace HK := Za.mk (Kept.Zbn (S := (fun k_ => (P0_ k_) ∨ k_ = g)) hg (by repeat (first | (with_reducible first | exact HK.out | apply Kept.alloc | apply Kept.drewN | apply Kept.drew | refine Kept.setCell ?_ (.inl (.inr rfl)) _) | exact HK.out)) (fun k_ e_ => Or.imp_left Or.inl ((HO0.out.1 k_ e_)))); replace HO0 := Za.mk (hp_); clear hg hw hp_; have p37 : 0 ≤ ((ji33) : Int) := of_decide_eq_true (by assumption); have q37 : ((ji33) : Int) < ((l0.length : Int) : Int) := of_decide_eq_true (by assumption); obtain ⟨ce37, hcl37, hM37, hcc37, hfr37⟩ := Kd.R_elem HO0.out z54 ((ji33) : Int) p37 q37; obtain rfl := Zba hM37; have hx37_0 : w43.cell? ⟨go36, ((ji33) : Int).toNat * 4, none⟩ = some (.int .u16 ((Zb y587 (ji33)).f0)) := hcc37 0 _ rfl; have hx37_1 : w43.cell? ⟨go36, ((ji33) : Int).toNat * 4 + 1, none⟩ = some (.int .u8 ((Zb y587 (ji33)).f1)) := hcc37 1 _ rfl; have hx37_2 : w43.cell? ⟨go36, ((ji33) : Int).toNat * 4 + 2, none⟩ = some (.int .u8 ((Zb y587 (ji33)).f2)) := hcc37 2 _ rfl; have hx37_3 : w43.cell? ⟨go36, ((ji33) : Int).toNat * 4 + 3, none⟩ = some (.int .u32 ((Zb y587 (ji33)).f3)) := hcc37 3 _ rfl; have hf37_0 : w43.frozen? ⟨go36, ((ji33) : Int).toNat * 4, none⟩ = false := hfr37 0; have hf37_1 : w43.frozen? ⟨go36, ((ji33) : Int).toNat * 4 + 1, none⟩ = false := hfr37 1; have hf37_2 : w43.frozen? ⟨go36, ((ji33) : Int).toNat * 4 + 2, none⟩ = false := hfr37 2; have hf37_3 : w43.frozen? ⟨go36, ((ji33) : Int).toNat * 4 + 3, none⟩ = false := hfr37 3; clear hcl37 hcc37 hfr37 hM37; replace p37 := eq_true p37; replace q37 := eq_true q37; have HX44 := Za.mk (show Kd.R k54 54 w43 w0.heap.size (fun k_ => (P0_ k_ ∨ w.heap.size ≤ k_)) (.slice (some ⟨go36, 0, none⟩) l0.length co14) y587 from (by (with_reducible repeat (first | apply Kd.Zs | apply Kd.Zt | apply Kd.Zr)); exact HO0.out)); obtain ⟨ce44, hcl44, hM44, hcc44, hfr44⟩ := Kd.R_elem HX44.out z54 ((ji33) : Int) (of_decide_eq_true (by assumption)) (by have h_ : ((ji33) : Int) < ((l0.length : Int) : Int) := of_decide_eq_true (by assumption); first | exact h_ | (have e_ := (Kd.Zag HO0.out).1; omega) | simpa using h_); obtain rfl := Zba hM44; have HP44 := Kd.R_seg HX44.out ((ji33) : Int) (of_decide_eq_true (by assumption)) (by have h_ : ((ji33) : Int) < ((l0.length : Int) : Int) := of_decide_eq_true (by assumption); first | exact h_ | (have e_ := (Kd.Zag HO0.out).1; omega) | simpa using h_) (seg := [.int .u32 ((wrap64 (14 + (Int.tmod t582 4))) % 4294967296)]) (j := 3) hcl44 hcc44 (show 4 ≤ 4 from by decide) (x' := (⟨(Zb y587 (ji33)).f0, (Zb y587 (ji33)).f1, (Zb y587 (ji33)).f2, (wrap64 (14 + (Int.tmod t582 4))) % 4294967296⟩ : S54)) (k54_mkM _ _ _ (⟨(Zb y587 (ji33)).f0, (Zb y587 (ji33)).f1, (Zb y587 (ji33)).f2, (wrap64 (14 + (Int.tmod t582 4))) % 4294967296⟩ : S54) ) (fun _ hk => hk); have hx44_3 := hcc44 3 _ rfl; (try simp only [show (k54).sz = 4 from rfl, Nat.mul_one, Nat.add_zero] at hx44_3); have hf44_3 := hfr44 3; (try simp only [show (k54).sz = 4 from rfl, Nat.mul_one, Nat.add_zero] at hf44_3); clear hcl44 hcc44 hfr44 hM44) | ((with_reducible refine Zby (t := 42) (p := 54) rfl ?_); refine Zbx (t := 42) (p := 54) (v := ?vo_w45) (w1 := (w43.setCell ⟨go36, ((ji33) : Int).toNat * 4 + 3, none⟩ (.int .u32 ((wrap64 (14 + (Int.tmod t582 4))) % 4294967296)))) ?hg ?ho ?hn ?hr ?_; (case ho => rfl); (case hg => rfl); (case hn => rfl); (case hr => first | (go_simp; done) | (go_simp; rfl)); intro w45 hw; have hg : w43.grownBy w45 (some go36) := (by rw [hw]; exact HP44.2); have hp_ : Kd.R k54 54 w45 w0.heap.size (fun k_ => (P0_ k_ ∨ w.heap.size ≤ k_)) (.slice (some ⟨go36, 0, none⟩) l0.length co14) y588 := (by rw [hw, Ny588.out]; exact HP44.1); clear HP44; replace HI1 := Za.mk (Zc.grown (by repeat (first | (with_reducible first | exact HI1.out | apply Zc.alloc | apply Zc.drewN | apply Zc.drew | apply Zc.Zv) | exact HI1.out)) hg (Zc.own_ne HI1.out HO0.out (by decide))); replace HB := Za.mk ((by rw [hw]; exact Zk (HB.out) GB36.out : Below w0.heap.size w0 w45)); replace HK := Za.mk (Kept.Zbn (S := (fun k_ => (P0_ k_) ∨ k_ = g)) hg (by repeat (first | (with_reducible first | exact HK.out | apply Kept.alloc | apply Kept.drewN | apply Kept.drew | refine Kept.setCell ?_ (.inl (.inr rfl)) _) | exact HK.out)) (fun k_ e_ => Or.imp_left Or.inl ((HO0.out.1 k_ e_)))); replace HO0 := Za.mk (hp_); clear hg hw hp_))
       go_ret
       exact ⟨_, by first | rfl | (simp [Zo, Zp] <;> rfl) | (simp only [← hji33]; first | rfl | (simp [Zo, Zp] <;> rfl)) | (simp [*, Zo, Zp] <;> rfl), by (with_reducible repeat (first | apply Kd.Zs | apply Kd.Zt | apply Kd.Zr)); exact HO0.out, by repeat (first | (with_reducible first | exact HI1.out | apply Zc.alloc | apply Zc.drewN | apply Zc.drew | apply Zc.Zv) | exact HI1.out), by repeat (first | (with_reducible first | exact HB.out | apply Ze | apply Zf | apply Zd | refine Zk ?_ (Zc.ge HI1.out)) | exact HB.out), by repeat (first | (with_reducible first | exact HK.out | apply Kept.alloc | apply Kept.drewN | apply Kept.drew | refine Kept.setCell ?_ (.inl (.inr rfl)) _) | exact HK.out)⟩
      ·rw [if_neg c35] at H
       exact absurd H (by simp)
     ·rw [if_neg c34] at H
      exact absurd H (by simp)
    ·rw [if_neg c32] at H
     have c32b0 : ((Int.tmod t578 10) == 2) = false := beq_eq_false_iff_ne.mpr c32
     have c32b1 : ((Int.tmod t578 10) != 2) = true := bne_iff_ne.mpr c32
     by_cases c46 : (Int.tmod t578 10) = 3
     ·rw [if_pos c46] at H
      have c46b0 : ((Int.tmod t578 10) == 3) = true := beq_iff_eq.mpr c46
      have c46b1 : ((Int.tmod t578 10) != 3) = false := bne_eq_false_iff_eq.mpr c46
      clear c46
      obtain ⟨ji47, hji47⟩ : ∃ j_ : Int, (Int.tmod t580 (l0.length : Int)) = j_ := ⟨_, rfl⟩
      replace H : (if 0 ≤ (ji47) then (if (ji47) < (l0.length : Int) then ((some (l0.set ((ji47) : Int).toNat (⟨5, (Zb l0 (ji47)).f1, (Zb l0 (ji47)).f2, (Zb l0 (ji47)).f3⟩ : S54) : List (S54))).bind fun y589 => (some ((y589.set ((ji47) : Int).toNat (⟨(Zb y589 (ji47)).f0, (Zb y589 (ji47)).f1, (Zb y589 (ji47)).f2, (wrap64 ((wrap64 ((wrap64 ((l0.length : Int) - (ji47))) - 3)) + (Int.tmod t582 3))) % 4294967296⟩ : S54)), t583))) else (none)) else (none)) = some (r1, r2) := by first | (rw [hji47] at H; exact H) | (simp only [hji47] at H ⊢; exact H)
      (try rw [hji47] at A3)
      (try rw [hji47] at A4)
      (try rw [hji47] at A6)
      by_cases c48 : 0 ≤ (ji47)
      ·rw [if_pos c48] at H
       have c48b0 : decide (0 ≤ (ji47)) = true := decide_eq_true c48
       clear c48
       by_cases c49 : (ji47) < (l0.length : Int)
       ·rw [if_pos c49] at H
        have c49b0 : decide ((ji47) < (l0.length : Int)) = true := decide_eq_true c49
        clear c49
        obtain ⟨y589, hy589⟩ : ∃ y_ : List (S54), y_ = (l0.set ((ji47) : Int).toNat (⟨5, (Zb l0 (ji47)).f1, (Zb l0 (ji47)).f2, (Zb l0 (ji47)).f3⟩ : S54)) := ⟨_, rfl⟩
        replace H : (some ((y589.set ((ji47) : Int).toNat (⟨(Zb y589 (ji47)).f0, (Zb y589 (ji47)).f1, (Zb y589 (ji47)).f2, (wrap64 ((wrap64 ((wrap64 ((l0.length : Int) - (ji47))) - 3)) + (Int.tmod t582 3))) % 4294967296⟩ : S54)), t583)) = some (r1, r2) := by first | (rw [hy589]; with_reducible exact H) | (have H2_ := (Option.bind_some _ _).symm.trans H; rw [hy589]; with_reducible exact H2_) | (have H2_ := (Option.bind_some _ _).symm.trans H; with_reducible exact H2_) | with_reducible exact H | (rw [hy589]; exact H) | exact H
        have Ny589 := Za.mk hy589
        clear hy589
        obtain ⟨y590, hy590⟩ : ∃ y_ : List (S54), y_ = (y589.set ((ji47) : Int).toNat (⟨(Zb y589 (ji47)).f0, (Zb y589 (ji47)).f1, (Zb y589 (ji47)).f2, (wrap64 ((wrap64 ((wrap64 ((l0.length : Int) - (ji47))) - 3)) + (Int.tmod t582 3))) % 4294967296⟩ : S54)) := ⟨_, rfl⟩
        replace H : (some (y590, t583)) = some (r1, r2) := by first | (rw [hy590]; with_reducible exact H) | (have H2_ := (Option.bind_some _ _).symm.trans H; rw [hy590]; with_reducible exact H2_) | (have H2_ := (Option.bind_some _ _).symm.trans H; with_reducible exact H2_) | with_reducible exact H | (rw [hy590]; exact H) | exact H
        have Ny590 := Za.mk hy590
        clear hy590
        simp only [Option.some.injEq, Prod.mk.injEq] at H
        obtain ⟨rfl, rfl⟩ := H
        (try rw [c7b0])
        have p50 : 0 ≤ ((ji47) : Int) := of_decide_eq_true (by assumption)
        have q50 : ((ji47) : Int) < ((l0.length : Int) : Int) := of_decide_eq_true (by assumption)
        obtain ⟨go50, co50, eo50, gb50, gl50, cl50, HG50⟩ := Kd.R_form HO0.out (by omega)
        (first | cases eo50 | (injection eo50 with ea_ en_ ec_; (first | subst ea_ | (injection ea_ with ea_; subst ea_)); subst ec_; clear en_))
        have GB50 := Za.mk gb50
        have GG50 := Za.mk HG50
        clear gb50 gl50 HG50
        have HMgo50 := Za.mk (show (P0_ go50 ∨ w.heap.size ≤ go50) from (HO0.out.1 _ rfl))
        obtain ⟨ce50, hcl50, hM50, hcc50, hfr50⟩ := Kd.R_elem HO0.out z54 ((ji47) : Int) p50 q50
        obtain rfl := Zba hM50
        have hx50_0 : w15.cell? ⟨go50, ((ji47) : Int).toNat * 4, none⟩ = some (.int .u16 ((Zb l0 (ji47)).f0)) := hcc50 0 _ rfl
        have hx50_1 : w15.cell? ⟨go50, ((ji47) : Int).toNat * 4 + 1, none⟩ = some (.int .u8 ((Zb l0 (ji47)).f1)) := hcc50 1 _ rfl
        have hx50_2 : w15.cell? ⟨go50, ((ji47) : Int).toNat * 4 + 2, none⟩ = some (.int .u8 ((Zb l0 (ji47)).f2)) := hcc50 2 _ rfl
        have hx50_3 : w15.cell? ⟨go50, ((ji47) : Int).toNat * 4 + 3, none⟩ = some (.int .u32 ((Zb l0 (ji47)).f3)) := hcc50 3 _ rfl
        have hf50_0 : w15.frozen? ⟨go50, ((ji47) : Int).toNat * 4, none⟩ = false := hfr50 0
        have hf50_1 : w15.frozen? ⟨go50, ((ji47) : Int).toNat * 4 + 1, none⟩ = false := hfr50 1
        have hf50_2 : w15.frozen? ⟨go50, ((ji47) : Int).toNat * 4 + 2, none⟩ = false := hfr50 2
        have hf50_3 : w15.frozen? ⟨go50, ((ji47) : Int).toNat * 4 + 3, none⟩ = false := hfr50 3
        clear hcl50 hcc50 hfr50 hM50
        replace p50 := eq_true p50
        replace q50 := eq_true q50
        have HX56 := Za.mk (show Kd.R k54 54 w15 w0.heap.size (fun k_ => (P0_ k_ ∨ w.heap.size ≤ k_)) (.slice (some ⟨go50, 0, none⟩) l0.length co14) l0 from (by (with_reducible repeat (first | apply Kd.Zs | apply Kd.Zt | apply Kd.Zr)); exact HO0.out))
        obtain ⟨ce56, hcl56, hM56, hcc56, hfr56⟩ := Kd.R_elem HX56.out z54 ((ji47) : Int) (of_decide_eq_true (by assumption)) (by have h_ : ((ji47) : Int) < ((l0.length : Int) : Int) := of_decide_eq_true (by assumption); first | exact h_ | (have e_ := (Kd.Zag HO0.out).1; omega) | simpa using h_)
        obtain rfl := Zba hM56
        have HP56 := Kd.R_seg HX56.out ((ji47) : Int) (of_decide_eq_true (by assumption)) (by have h_ : ((ji47) : Int) < ((l0.length : Int) : Int) := of_decide_eq_true (by assumption); first | exact h_ | (have e_ := (Kd.Zag HO0.out).1; omega) | simpa using h_) (seg := [.int .u16 5]) (j := 0) hcl56 hcc56 (show 1 ≤ 4 from by decide) (x' := (⟨5, (Zb l0 (ji47)).f1, (Zb l0 (ji47)).f2, (Zb l0 (ji47)).f3⟩ : S54)) (k54_mkM _ _ _ (⟨5, (Zb l0 (ji47)).f1, (Zb l0 (ji47)).f2, (Zb l0 (ji47)).f3⟩ : S54) ) (fun _ hk => hk)
        have hx56_0 := hcc56 0 _ rfl
        (try simp only [show (k54).sz = 4 from rfl, Nat.mul_one, Nat.add_zero] at hx56_0)
        have hf56_0 := hfr56 0
        (try simp only [show (k54).sz = 4 from rfl, Nat.mul_one, Nat.add_zero] at hf56_0)
        clear hcl56 hcc56 hfr56 hM56
        go_wp2_with (first | ((with_reducible refine Zby (t := 52) (p := 60) rfl ?_); refine Zbx (t := 52) (p := 60) (v := ?vo_w57) (w1 := (w15.setCell ⟨go50, ((ji47) : Int).toNat * 4, none⟩ (.int .u16 5))) ?hg ?ho ?hn ?hr ?_; (case ho => rfl); (case hg => rfl); (case hn => rfl); (case hr => first | (go_simp; done) | (go_simp; rfl)); intro w57 hw; have hg : w15.grownBy w57 (some go50) := (by rw [hw]; exact HP56.2); have hp_ : Kd.R k54 54 w57 w0.heap.size (fun k_ => (P0_ k_ ∨ w.heap.size ≤ k_)) (.slice (some ⟨go50, 0, none⟩) l0.length co14) y589 := (by rw [hw, Ny589.out]; exact HP56.1); clear HP56; replace HI1 := Za.mk (Zc.grown (by repeat (first | (with_reducible first | exact HI1.out | apply Zc.alloc | apply Zc.drewN | apply Zc.drew | apply Zc.Zv) | exact HI1.out)) hg (Zc.own_ne HI1.out HO0.out (by decide))); replace HB := Za.mk ((by rw [hw]; exact Zk (HB.out) GB50.out : Below w0.heap.size w0 w57)); replace HK := Za.mk (Kept.Zbn (S := (fun k_ => (P0_ k_) ∨ k_ = g)) hg (by repeat (first | (with_reducible first | exact HK.out | apply Kept.alloc | apply Kept.drewN | apply Kept.drew | refine Kept.setCell ?_ (.inl (.inr rfl)) _) | exact HK.out)) (fun k_ e_ => Or.imp_left Or.inl ((HO0.out.1 k_ e_)))); replace HO0 := Za.mk (hp_); clear hg hw hp_; have p51 : 0 ≤ ((ji47) : Int) := of_decide_eq_true (by assumption); have q51 : ((ji47) : Int) < ((l0.length : Int) : Int) := of_decide_eq_true (by assumption); obtain ⟨ce51, hcl51, hM51, hcc51, hfr51⟩ := Kd.R_elem HO0.out z54 ((ji47) : Int) p51 q51; obtain rfl := Zba hM51; have hx51_0 : w57.cell? ⟨go50, ((ji47) : Int).toNat * 4, none⟩ = some (.int .u16 ((Zb y589 (ji47)).f0)) := hcc51 0 _ rfl; have hx51_1 : w57.cell? ⟨go50, ((ji47) : Int).toNat * 4 + 1, none⟩ = some (.int .u8 ((Zb y589 (ji47)).f1)) := hcc51 1 _ rfl; have hx51_2 : w57.cell? ⟨go50, ((ji47) : Int).toNat * 4 + 2, none⟩ = some (.int .u8 ((Zb y589 (ji47)).f2)) := hcc51 2 _ rfl; have hx51_3 : w57.cell? ⟨go50, ((ji47) : Int).toNat * 4 + 3, none⟩ = some (.int .u32 ((Zb y589 (ji47)).f3)) := hcc51 3 _ rfl; have hf51_0 : w57.frozen? ⟨go50, ((ji47) : Int).toNat * 4, none⟩ = false := hfr51 0; have hf51_1 : w57.frozen? ⟨go50, ((ji47) : Int).toNat * 4 + 1, none⟩ = false := hfr51 1; have hf51_2 : w57.frozen? ⟨go50, ((ji47) : Int).toNat * 4 + 2, none⟩ = false := hfr51 2; have hf51_3 : w57.frozen? ⟨go50, ((ji47) : Int).toNat * 4 + 3, none⟩ = false := hfr51 3; clear hcl51 hcc51 hfr51 hM51; replace p51 := eq_true p51; replace q51 := eq_true q51; have HX58 := Za.mk (show Kd.R k54 54 w57 w0.heap.size (fun k_ => (P0_ k_ ∨ w.heap.size ≤ k_)) (.slice (some ⟨go50, 0, none⟩) l0.length co14) y589 from (by (with_reducible repeat (first | apply Kd.Zs | apply Kd.Zt | apply Kd.Zr)); exact HO0.out)); obtain ⟨ce58, hcl58, hM58, hcc58, hfr58⟩ := Kd.R_elem HX58.out z54 ((ji47) : Int) (of_decide_eq_true (by assumption)) (by have h_ : ((ji47) : Int) < ((l0.length : Int) : Int) := of_decide_eq_true (by assumption); first | exact h_ | (have e_ := (Kd.Zag HO0.out).1; omega) | simpa using h_); obtain rfl := Zba hM58; have HP58 := Kd.R_seg HX58.out ((ji47) : Int) (of_decide_eq_true (by assumption)) (by have h_ : ((ji47) : Int) < ((l0.length : Int) : Int) := of_decide_eq_true (by assumption); first | exact h_ | (have e_ := (Kd.Zag HO0.out).1; omega) | simpa using h_) (seg := [.int .u32 ((wrap64 ((wrap64 ((wrap64 ((l0.length : Int) - (ji47))) - 3)) + (Int.tmod t582 3))) % 4294967296)]) (j := 3) hcl58 hcc58 (show 4 ≤ 4 from by decide) (x' := (⟨(Zb y589 (ji47)).f0, (Zb y589 (ji47)).f1, (Zb y589 (ji47)).f2, (wrap64 ((wrap64 ((wrap64 ((l0.length : Int) - (ji47))) - 3)) + (Int.tmod t582 3))) % 4294967296⟩ : S54)) (k54_mkM _ _ _ (⟨(Zb y589 (ji47)).f0, (Zb y589 (ji47)).f1, (Zb y589 (ji47)).f2, (wrap64 ((wrap64 ((wrap64 ((l0.length : Int) - (ji47))) - 3)) + (Int.tmod t582 3))) % 4294967296⟩ : S54) ) (fun _ hk => hk); have hx58_3 := hcc58 3 _ rfl; (try simp only [show (k54).sz = 4 from rfl, Nat.mul_one, Nat.add_zero] at hx58_3); have hf58_3 := hfr58 3; (try simp only [show (k54).sz = 4 from rfl, Nat.mul_one, Nat.add_zero] at hf58_3); clear hcl58 hcc58 hfr58 hM58) | ((with_reducible refine Zby (t := 42) (p := 72) rfl ?_); refine Zbx (t := 42) (p := 72) (v := ?vo_w59) (w1 := (w57.setCell ⟨go50, ((ji47) : Int).toNat * 4 + 3, none⟩ (.int .u32 ((wrap64 ((wrap64 ((wrap64 ((l0.length : Int) - (ji47))) - 3)) + (Int.tmod t582 3))) % 4294967296)))) ?hg ?ho ?hn ?hr ?_; (case ho => rfl); (case hg => rfl); (case hn => rfl); (case hr => first | (go_simp; done) | (go_simp; rfl)); intro w59 hw; have hg : w57.grownBy w59 (some go50) := (by rw [hw]; exact HP58.2); have hp_ : Kd.R k54 54 w59 w0.heap.size (fun k_ => (P0_ k_ ∨ w.heap.size ≤ k_)) (.slice (some ⟨go50, 0, none⟩) l0.length co14) y590 := (by rw [hw, Ny590.out]; exact HP58.1); clear HP58; replace HI1 := Za.mk (Zc.grown (by repeat (first | (with_reducible first | exact HI1.out | apply Zc.alloc | apply Zc.drewN | apply Zc.drew | apply Zc.Zv) | exact HI1.out)) hg (Zc.own_ne HI1.out HO0.out (by decide))); replace HB := Za.mk ((by rw [hw]; exact Zk (HB.out) GB50.out : Below w0.heap.size w0 w59)); replace HK := Za.mk (Kept.Zbn (S := (fun k_ => (P0_ k_) ∨ k_ = g)) hg (by repeat (first | (with_reducible first | exact HK.out | apply Kept.alloc | apply Kept.drewN | apply Kept.drew | refine Kept.setCell ?_ (.inl (.inr rfl)) _) | exact HK.out)) (fun k_ e_ => Or.imp_left Or.inl ((HO0.out.1 k_ e_)))); replace HO0 := Za.mk (hp_); clear hg hw hp_))
        go_ret
        exact ⟨_, by first | rfl | (simp [Zo, Zp] <;> rfl) | (simp only [← hji47]; first | rfl | (simp [Zo, Zp] <;> rfl)) | (simp [*, Zo, Zp] <;> rfl), by (with_reducible repeat (first | apply Kd.Zs | apply Kd.Zt | apply Kd.Zr)); exact HO0.out, by repeat (first | (with_reducible first | exact HI1.out | apply Zc.alloc | apply Zc.drewN | apply Zc.drew | apply Zc.Zv) | exact HI1.out), by repeat (first | (with_reducible first | exact HB.out | apply Ze | apply Zf | apply Zd | refine Zk ?_ (Zc.ge HI1.out)) | exact HB.out), by repeat (first | (with_reducible first | exact HK.out | apply Kept.alloc | apply Kept.drewN | apply Kept.drew | refine Kept.setCell ?_ (.inl (.inr rfl)) _) | exact HK.out)⟩
       ·rw [if_neg c49] at H
        exact absurd H (by simp)
      ·rw [if_neg c48] at H
       exact absurd H (by simp)
     ·rw [if_neg c46] at H
      have c46b0 : ((Int.tmod t578 10) == 3) = false := beq_eq_false_iff_ne.mpr c46
      have c46b1 : ((Int.tmod t578 10) != 3) = true := bne_iff_ne.mpr c46
      by_cases c60 : (Int.tmod t578 10) = 4
      ·rw [if_pos c60] at H
       have c60b0 : ((Int.tmod t578 10) == 4) = true := beq_iff_eq.mpr c60
       have c60b1 : ((Int.tmod t578 10) != 4) = false := bne_eq_false_iff_eq.mpr c60
       clear c60
       obtain ⟨ji61, hji61⟩ : ∃ j_ : Int, (Int.tmod t580 (l0.length : Int)) = j_ := ⟨_, rfl⟩
       replace H : (if 0 ≤ (ji61) then (if (ji61) < (l0.length : Int) then ((some (l0.set ((ji61) : Int).toNat (⟨21, (Zb l0 (ji61)).f1, (Zb l0 (ji61)).f2, (Zb l0 (ji61)).f3⟩ : S54) : List (S54))).bind fun y591 => (some ((y591.set ((ji61) : Int).toNat (⟨(Zb y591 (ji61)).f0, (wrap64 ((wrap64 ((wrap64 ((l0.length : Int) - (ji61))) - 3)) + (Int.tmod t582 3))) % 256, (Zb y591 (ji61)).f2, (Zb y591 (ji61)).f3⟩ : S54)), t583))) else (none)) else (none)) = some (r1, r2) := by first | (rw [hji61] at H; exact H) | (simp only [hji61] at H ⊢; exact H)
       (try rw [hji61] at A3)
       (try rw [hji61] at A4)
       (try rw [hji61] at A6)
       by_cases c62 : 0 ≤ (ji61)
       ·rw [if_pos c62] at H
        have c62b0 : decide (0 ≤ (ji61)) = true := decide_eq_true c62
        clear c62
        by_cases c63 : (ji61) < (l0.length : Int)
        ·rw [if_pos c63] at H
         have c63b0 : decide ((ji61) < (l0.length : Int)) = true := decide_eq_true c63
         clear c63
         obtain ⟨y591, hy591⟩ : ∃ y_ : List (S54), y_ = (l0.set ((ji61) : Int).toNat (⟨21, (Zb l0 (ji61)).f1, (Zb l0 (ji61)).f2, (Zb l0 (ji61)).f3⟩ : S54)) := ⟨_, rfl⟩
         replace H : (some ((y591.set ((ji61) : Int).toNat (⟨(Zb y591 (ji61)).f0, (wrap64 ((wrap64 ((wrap64 ((l0.length : Int) - (ji61))) - 3)) + (Int.tmod t582 3))) % 256, (Zb y591 (ji61)).f2, (Zb y591 (ji61)).f3⟩ : S54)), t583)) = some (r1, r2) := by first | (rw [hy591]; with_reducible exact H) | (have H2_ := (Option.bind_some _ _).symm.trans H; rw [hy591]; with_reducible exact H2_) | (have H2_ := (Option.bind_some _ _).symm.trans H; with_reducible exact H2_) | with_reducible exact H | (rw [hy591]; exact H) | exact H
         have Ny591 := Za.mk hy591
         clear hy591
         obtain ⟨y592, hy592⟩ : ∃ y_ : List (S54), y_ = (y591.set ((ji61) : Int).toNat (⟨(Zb y591 (ji61)).f0, (wrap64 ((wrap64 ((wrap64 ((l0.length : Int) - (ji61))) - 3)) + (Int.tmod t582 3))) % 256, (Zb y591 (ji61)).f2, (Zb y591 (ji61)).f3⟩ : S54)) := ⟨_, rfl⟩
         replace H : (some (y592, t583)) = some (r1, r2) := by first | (rw [hy592]; with_reducible exact H) | (have H2_ := (Option.bind_some _ _).symm.trans H; rw [hy592]; with_reducible exact H2_) | (have H2_ := (Option.bind_some _ _).symm.trans H; with_reducible exact H2_) | with_reducible exact H | (rw [hy592]; exact H) | exact H
         have Ny592 := Za.mk hy592
         clear hy592
         simp only [Option.some.injEq, Prod.mk.injEq] at H
         obtain ⟨rfl, rfl⟩ := H
         (try rw [c7b0])
         have p64 : 0 ≤ ((ji61) : Int) := of_decide_eq_true (by assumption)
         have q64 : ((ji61) : Int) < ((l0.length : Int) : Int) := of_decide_eq_true (by assumption)
         obtain ⟨go64, co64, eo64, gb64, gl64, cl64, HG64⟩ := Kd.R_form HO0.out (by omega)
         (first | cases eo64 | (injection eo64 with ea_ en_ ec_; (first | subst ea_ | (injection ea_ with ea_; subst ea_)); subst ec_; clear en_))
         have GB64 := Za.mk gb64
         have GG64 := Za.mk HG64
         clear gb64 gl64 HG64
         have HMgo64 := Za.mk (show (P0_ go64 ∨ w.heap.size ≤ go64) from (HO0.out.1 _ rfl))
         obtain ⟨ce64, hcl64, hM64, hcc64, hfr64⟩ := Kd.R_elem HO0.out z54 ((ji61) : Int) p64 q64
         obtain rfl := Zba hM64
         have hx64_0 : w15.cell? ⟨go64, ((ji61) : Int).toNat * 4, none⟩ = some (.int .u16 ((Zb l0 (ji61)).f0)) := hcc64 0 _ rfl
         have hx64_1 : w15.cell? ⟨go64, ((ji61) : Int).toNat * 4 + 1, none⟩ = some (.int .u8 ((Zb l0 (ji61)).f1)) := hcc64 1 _ rfl
         have hx64_2 : w15.cell? ⟨go64, ((ji61) : Int).toNat * 4 + 2, none⟩ = some (.int .u8 ((Zb l0 (ji61)).f2)) := hcc64 2 _ rfl
         have hx64_3 : w15.cell? ⟨go64, ((ji61) : Int).toNat * 4 + 3, none⟩ = some (.int .u32 ((Zb l0 (ji61)).f3)) := hcc64 3 _ rfl
         have hf64_0 : w15.frozen? ⟨go64, ((ji61) : Int).toNat * 4, none⟩ = false := hfr64 0
         have hf64_1 : w15.frozen? ⟨go64, ((ji61) : Int).toNat * 4 + 1, none⟩ = false := hfr64 1
         have hf64_2 : w15.frozen? ⟨go64, ((ji61) : Int).toNat * 4 + 2, none⟩ = false := hfr64 2
         have hf64_3 : w15.frozen? ⟨go64, ((ji61) : Int).toNat * 4 + 3, none⟩ = false := hfr64 3
         clear hcl64 hcc64 hfr64 hM64
         replace p64 := eq_true p64
         replace q64 := eq_true q64
         have HX70 := Za.mk (show Kd.R k54 54 w15 w0.heap.size (fun k_ => (P0_ k_ ∨ w.heap.size ≤ k_)) (.slice (some ⟨go64, 0, none⟩) l0.length co14) l0 from (by (with_reducible repeat (first | apply Kd.Zs | apply Kd.Zt | apply Kd.Zr)); exact HO0.out))
         obtain ⟨ce70, hcl70, hM70, hcc70, hfr70⟩ := Kd.R_elem HX70.out z54 ((ji61) : Int) (of_decide_eq_true (by assumption)) (by have h_ : ((ji61) : Int) < ((l0.length : Int) : Int) := of_decide_eq_true (by assumption); first | exact h_ | (have e_ := (Kd.Zag HO0.out).1; omega) | simpa using h_)
         obtain rfl := Zba hM70
         have HP70 := Kd.R_seg HX70.out ((ji61) : Int) (of_decide_eq_true (by assumption)) (by have h_ : ((ji61) : Int) < ((l0.length : Int) : Int) := of_decide_eq_true (by assumption); first | exact h_ | (have e_ := (Kd.Zag HO0.out).1; omega) | simpa using h_) (seg := [.int .u16 21]) (j := 0) hcl70 hcc70 (show 1 ≤ 4 from by decide) (x' := (⟨21, (Zb l0 (ji61)).f1, (Zb l0 (ji61)).f2, (Zb l0 (ji61)).f3⟩ : S54)) (k54_mkM _ _ _ (⟨21, (Zb l0 (ji61)).f1, (Zb l0 (ji61)).f2, (Zb l0 (ji61)).f3⟩ : S54) ) (fun _ hk => hk)
         have hx70_0 := hcc70 0 _ rfl
         (try simp only [show (k54).sz = 4 from rfl, Nat.mul_one, Nat.add_zero] at hx70_0)
         have hf70_0 := hfr70 0
         (try simp only [show (k54).sz = 4 from rfl, Nat.mul_one, Nat.add_zero] at hf70_0)
         clear hcl70 hcc70 hfr70 hM70
         go_wp2_with (first | ((with_reducible refine Zby (t := 52) (p := 78) rfl ?_); refine Zbx (t := 52) (p := 78) (v := ?vo_w71) (w1 := (w15.setCell ⟨go64, ((ji61) : Int).toNat * 4, none⟩ (.int .u16 21))) ?hg ?ho ?hn ?hr ?_; (case ho => rfl); (case hg => rfl); (case hn => rfl); (case hr => first | (go_simp; done) | (go_simp; rfl)); intro w71 hw; have hg : w15.grownBy w71 (some go64) := (by rw [hw]; exact HP70.2); have hp_ : Kd.R k54 54 w71 w0.heap.size (fun k_ => (P0_ k_ ∨ w.heap.size ≤ k_)) (.slice (some ⟨go64, 0, none⟩) l0.length co14) y591 := (by rw [hw, Ny591.out]; exact HP70.1); clear HP70; replace HI1 := Za.mk (Zc.grown (by repeat (first | (with_reducible first | exact HI1.out | apply Zc.alloc | apply Zc.drewN | apply Zc.drew | apply Zc.Zv) | exact HI1.out)) hg (Zc.own_ne HI1.out HO0.out (by decide))); replace HB := Za.mk ((by rw [hw]; exact Zk (HB.out) GB64.out : Below w0.heap.size w0 w71)); replace HK := Za.mk (Kept.Zbn (S := (fun k_ => (P0_ k_) ∨ k_ = g)) hg (by repeat (first | (with_reducible first | exact HK.out | apply Kept.alloc | apply Kept.drewN | apply Kept.drew | refine Kept.setCell ?_ (.inl (.inr rfl)) _) | exact HK.out)) (fun k_ e_ => Or.imp_left Or.inl ((HO0.out.1 k_ e_)))); replace HO0 := Za.mk (hp_); clear hg hw hp_; have p65 : 0 ≤ ((ji61) : Int) := of_decide_eq_true (by assumption); have q65 : ((ji61) : Int) < ((l0.length : Int) : Int) := of_decide_eq_true (by assumption); obtain ⟨ce65, hcl65, hM65, hcc65, hfr65⟩ := Kd.R_elem HO0.out z54 ((ji61) : Int) p65 q65; obtain rfl := Zba hM65; have hx65_0 : w71.cell? ⟨go64, ((ji61) : Int).toNat * 4, none⟩ = some (.int .u16 ((Zb y591 (ji61)).f0)) := hcc65 0 _ rfl; have hx65_1 : w71.cell? ⟨go64, ((ji61) : Int).toNat * 4 + 1, none⟩ = some (.int .u8 ((Zb y591 (ji61)).f1)) := hcc65 1 _ rfl; have hx65_2 : w71.cell? ⟨go64, ((ji61) : Int).toNat * 4 + 2, none⟩ = some (.int .u8 ((Zb y591 (ji61)).f2)) := hcc65 2 _ rfl; have hx65_3 : w71.cell? ⟨go64, ((ji61) : Int).toNat * 4 + 3, none⟩ = some (.int .u32 ((Zb y591 (ji61)).f3)) := hcc65 3 _ rfl; have hf65_0 : w71.frozen? ⟨go64, ((ji61) : Int).toNat * 4, none⟩ = false := hfr65 0; have hf65_1 : w71.frozen? ⟨go64, ((ji61) : Int).toNat * 4 + 1, none⟩ = false := hfr65 1; have hf65_2 : w71.frozen? ⟨go64, ((ji61) : Int).toNat * 4 + 2, none⟩ = false := hfr65 2; have hf65_3 : w71.frozen? ⟨go64, ((ji61) : Int).toNat * 4 + 3, none⟩ = false := hfr65 3; clear hcl65 hcc65 hfr65 hM65; replace p65 := eq_true p65; replace q65 := eq_true q65; have HX72 := Za.mk (show Kd.R k54 54 w71 w0.heap.size (fun k_ => (P0_ k_ ∨ w.heap.size ≤ k_)) (.slice (some ⟨go64, 0, none⟩) l0.length co14) y591 from (by (with_reducible repeat (first | apply Kd.Zs | apply Kd.Zt | apply Kd.Zr)); exact HO0.out)); obtain ⟨ce72, hcl72, hM72, hcc72, hfr72⟩ := Kd.R_elem HX72.out z54 ((ji61) : Int) (of_decide_eq_true (by assumption)) (by have h_ : ((ji61) : Int) < ((l0.length : Int) : Int) := of_decide_eq_true (by assumption); first | exact h_ | (have e_ := (Kd.Zag HO0.out).1; omega) | simpa using h_); obtain rfl := Zba hM72; have HP72 := Kd.R_seg HX72.out ((ji61) : Int) (of_decide_eq_true (by assumption)) (by have h_ : ((ji61) : Int) < ((l0.length : Int) : Int) := of_decide_eq_true (by assumption); first | exact h_ | (have e_ := (Kd.Zag HO0.out).1; omega) | simpa using h_) (seg := [.int .u8 ((wrap64 ((wrap64 ((wrap64 ((l0.length : Int) - (ji61))) - 3)) + (Int.tmod t582 3))) % 256)]) (j := 1) hcl72 hcc72 (show 2 ≤ 4 from by decide) (x' := (⟨(Zb y591 (ji61)).f0, (wrap64 ((wrap64 ((wrap64 ((l0.length : Int) - (ji61))) - 3)) + (Int.tmod t582 3))) % 256, (Zb y591 (ji61)).f2, (Zb y591 (ji61)).f3⟩ : S54)) (k54_mkM _ _ _ (⟨(Zb y591 (ji61)).f0, (wrap64 ((wrap64 ((wrap64 ((l0.length : Int) - (ji61))) - 3)) + (Int.tmod t582 3))) % 256, (Zb y591 (ji61)).f2, (Zb y591 (ji61)).f3⟩ : S54) ) (fun _ hk => hk); have hx72_1 := hcc72 1 _ rfl; (try simp only [show (k54).sz = 4 from rfl, Nat.mul_one, Nat.add_zero] at hx72_1); have hf72_1 := hfr72 1; (try simp only [show (k54).sz = 4 from rfl, Nat.mul_one, Nat.add_zero] at hf72_1); clear hcl72 hcc72 hfr72 hM72) | ((with_reducible refine Zby (t := 5) (p := 90) rfl ?_); refine Zbx (t := 5) (p := 90) (v := ?vo_w73) (w1 := (w71.setCell ⟨go64, ((ji61) : Int).toNat * 4 + 1, none⟩ (.int .u8 ((wrap64 ((wrap64 ((wrap64 ((l0.length : Int) - (ji61))) - 3)) + (Int.tmod t582 3))) % 256)))) ?hg ?ho ?hn ?hr ?_; (case ho => rfl); (case hg => rfl); (case hn => rfl); (case hr => first | (go_simp; done) | (go_simp; rfl)); intro w73 hw; have hg : w71.grownBy w73 (some go64) := (by rw [hw]; exact HP72.2); have hp_ : Kd.R k54 54 w73 w0.heap.size (fun k_ => (P0_ k_ ∨ w.heap.size ≤ k_)) (.slice (some ⟨go64, 0, none⟩) l0.length co14) y592 := (by rw [hw, Ny592.out]; exact HP72.1); clear HP72; replace HI1 := Za.mk (Zc.grown (by repeat (first | (with_reducible first | exact HI1.out | apply Zc.alloc | apply Zc.drewN | apply Zc.drew | apply Zc.Zv) | exact HI1.out)) hg (Zc.own_ne HI1.out HO0.out (by decide))); replace HB := Za.mk ((by rw [hw]; exact Zk (HB.out) GB64.out : Below w0.heap.size w0 w73)); replace HK := Za.mk (Kept.Zbn (S := (fun k_ => (P0_ k_) ∨ k_ = g)) hg (by repeat (first | (with_reducible first | exact HK.out | apply Kept.alloc | apply Kept.drewN | apply Kept.drew | refine Kept.setCell ?_ (.inl (.inr rfl)) _) | exact HK.out)) (fun k_ e_ => Or.imp_left Or.inl ((HO0.out.1 k_ e_)))); replace HO0 := Za.mk (hp_); clear hg hw hp_))
         go_ret
         exact ⟨_, by first | rfl | (simp [Zo, Zp] <;> rfl) | (simp only [← hji61]; first | rfl | (simp [Zo, Zp] <;> rfl)) | (simp [*, Zo, Zp] <;> rfl), by (with_reducible repeat (first | apply Kd.Zs | apply Kd.Zt | apply Kd.Zr)); exact HO0.out, by repeat (first | (with_reducible first | exact HI1.out | apply Zc.alloc | apply Zc.drewN | apply Zc.drew | apply Zc.Zv) | exact HI1.out), by repeat (first | (with_reducible first | exact HB.out | apply Ze | apply Zf | apply Zd | refine Zk ?_ (Zc.ge HI1.out)) | exact HB.out), by repeat (first | (with_reducible first | exact HK.out | apply Kept.alloc | apply Kept.drewN | apply Kept.drew | refine Kept.setCell ?_ (.inl (.inr rfl)) _) | exact HK.out)⟩
        ·rw [if_neg c63] at H
         exact absurd H (by simp)
       ·rw [if_neg c62] at H
        exact absurd H (by simp)
      ·rw [if_neg c60] at H
       have c60b0 : ((Int.tmod t578 10) == 4) = false := beq_eq_false_iff_ne.mpr c60
       have c60b1 : ((Int.tmod t578 10) != 4) = true := bne_iff_ne.mpr c60
       by_cases c74 : (Int.tmod t578 10) = 5
       ·rw [if_pos c74] at H
        have c74b0 : ((Int.tmod t578 10) == 5) = true := beq_iff_eq.mpr c74
        have c74b1 : ((Int.tmod t578 10) != 5) = false := bne_eq_false_iff_eq.mpr c74
        clear c74
        obtain ⟨ji75, hji75⟩ : ∃ j_ : Int, (Int.tmod t580 (l0.length : Int)) = j_ := ⟨_, rfl⟩
        replace H : (if 0 ≤ (ji75) then (if (ji75) < (l0.length : Int) then ((some (l0.set ((ji75) : Int).toNat (⟨37, (Zb l0 (ji75)).f1, (Zb l0 (ji75)).f2, (Zb l0 (ji75)).f3⟩ : S54) : List (S54))).bind fun y593 => ((some (y593.set ((ji75) : Int).toNat (⟨(Zb y593 (ji75)).f0, 0, (Zb y593 (ji75)).f2, (Zb y593 (ji75)).f3⟩ : S54) : List (S54))).bind fun y594 => (some ((y594.set ((ji75) : Int).toNat (⟨(Zb y594 (ji75)).f0, (Zb y594 (ji75)).f1, (wrap64 ((wrap64 ((wrap64 ((l0.length : Int) - (ji75))) - 3)) + (Int.tmod t582 3))) % 256, (Zb y594 (ji75)).f3⟩ : S54)), t583)))) else (none)) else (none)) = some (r1, r2) := by first | (rw [hji75] at H; exact H) | (simp only [hji75] at H ⊢; exact H)
        (try rw [hji75] at A3)
        (try rw [hji75] at A4)
        (try rw [hji75] at A6)
        by_cases c76 : 0 ≤ (ji75)
        ·rw [if_pos c76] at H
         have c76b0 : decide (0 ≤ (ji75)) = true := decide_eq_true c76
         clear c76
         by_cases c77 : (ji75) < (l0.length : Int)
         ·rw [if_pos c77] at H
          have c77b0 : decide ((ji75) < (l0.length : Int)) = true := decide_eq_true c77
          clear c77
          obtain ⟨y593, hy593⟩ : ∃ y_ : List (S54), y_ = (l0.set ((ji75) : Int).toNat (⟨37, (Zb l0 (ji75)).f1, (Zb l0 (ji75)).f2, (Zb l0 (ji75)).f3⟩ : S54)) := ⟨_, rfl⟩
          replace H : ((some (y593.set ((ji75) : Int).toNat (⟨(Zb y593 (ji75)).f0, 0, (Zb y593 (ji75)).f2, (Zb y593 (ji75)).f3⟩ : S54) : List (S54))).bind fun y594 => (some ((y594.set ((ji75) : Int).toNat (⟨(Zb y594 (ji75)).f0, (Zb y594 (ji75)).f1, (wrap64 ((wrap64 ((wrap64 ((l0.length : Int) - (ji75))) - 3)) + (Int.tmod t582 3))) % 256, (Zb y594 (ji75)).f3⟩ : S54)), t583))) = some (r1, r2) := by first | (rw [hy593]; with_reducible exact H) | (have H2_ := (Option.bind_some _ _).symm.trans H; rw [hy593]; with_reducible exact H2_) | (have H2_ := (Option.bind_some _ _).symm.trans H; with_reducible exact H2_) | with_reducible exact H | (rw [hy593]; exact H) | exact H
          have Ny593 := Za.mk hy593
          clear hy593
          obtain ⟨y594, hy594⟩ : ∃ y_ : List (S54), y_ = (y593.set ((ji75) : Int).toNat (⟨(Zb y593 (ji75)).f0, 0, (Zb y593 (ji75)).f2, (Zb y593 (ji75)).f3⟩ : S54)) := ⟨_, rfl⟩
          replace H : (some ((y594.set ((ji75) : Int).toNat (⟨(Zb y594 (ji75)).f0, (Zb y594 (ji75)).f1, (wrap64 ((wrap64 ((wrap64 ((l0.length : Int) - (ji75))) - 3)) + (Int.tmod t582 3))) % 256, (Zb y594 (ji75)).f3⟩ : S54)), t583)) = some (r1, r2) := by first | (rw [hy594]; with_reducible exact H) | (have H2_ := (Option.bind_some _ _).symm.trans H; rw [hy594]; with_reducible exact H2_) | (have H2_ := (Option.bind_some _ _).symm.trans H; with_reducible exact H2_) | with_reducible exact H | (rw [hy594]; exact H) | exact H
          have Ny594 := Za.mk hy594
          clear hy594
          obtain ⟨y595, hy595⟩ : ∃ y_ : List (S54), y_ = (y594.set ((ji75) : Int).toNat (⟨(Zb y594 (ji75)).f0, (Zb y594 (ji75)).f1, (wrap64 ((wrap64 ((wrap64 ((l0.length : Int) - (ji75))) - 3)) + (Int.tmod t582 3))) % 256, (Zb y594 (ji75)).f3⟩ : S54)) := ⟨_, rfl⟩
          replace H : (some (y595, t583)) = some (r1, r2) := by first | (rw [hy595]; with_reducible exact H) | (have H2_ := (Option.bind_some _ _).symm.trans H; rw [hy595]; with_reducible exact H2_) | (have H2_ := (Option.bind_some _ _).symm.trans H; with_reducible exact H2_) | with_reducible exact H | (rw [hy595]; exact H) | exact H
          have Ny595 := Za.mk hy595
          clear hy595
          simp only [Option.some.injEq, Prod.mk.injEq] at H
          obtain ⟨rfl, rfl⟩ := H
          (try rw [c7b0])
          have p78 : 0 ≤ ((ji75) : Int) := of_decide_eq_true (by assumption)
          have q78 : ((ji75) : Int) < ((l0.length : Int) : Int) := of_decide_eq_true (by assumption)
          obtain ⟨go78, co78, eo78, gb78, gl78, cl78, HG78⟩ := Kd.R_form HO0.out (by omega)
          (first | cases eo78 | (injection eo78 with ea_ en_ ec_; (first | subst ea_ | (injection ea_ with ea_; subst ea_)); subst ec_; clear en_))
          have GB78 := Za.mk gb78
          have GG78 := Za.mk HG78
          clear gb78 gl78 HG78
          have HMgo78 := Za.mk (show (P0_ go78 ∨ w.heap.size ≤ go78) from (HO0.out.1 _ rfl))
          obtain ⟨ce78, hcl78, hM78, hcc78, hfr78⟩ := Kd.R_elem HO0.out z54 ((ji75) : Int) p78 q78
          obtain rfl := Zba hM78
          have hx78_0 : w15.cell? ⟨go78, ((ji75) : Int).toNat * 4, none⟩ = some (.int .u16 ((Zb l0 (ji75)).f0)) := hcc78 0 _ rfl
          have hx78_1 : w15.cell? ⟨go78, ((ji75) : Int).toNat * 4 + 1, none⟩ = some (.int .u8 ((Zb l0 (ji75)).f1)) := hcc78 1 _ rfl
          have hx78_2 : w15.cell? ⟨go78, ((ji75) : Int).toNat * 4 + 2, none⟩ = some (.int .u8 ((Zb l0 (ji75)).f2)) := hcc78 2 _ rfl
          have hx78_3 : w15.cell? ⟨go78, ((ji75) : Int).toNat * 4 + 3, none⟩ = some (.int .u32 ((Zb l0 (ji75)).f3)) := hcc78 3 _ rfl
          have hf78_0 : w15.frozen? ⟨go78, ((ji75) : Int).toNat * 4, none⟩ = false := hfr78 0
          have hf78_1 : w15.frozen? ⟨go78, ((ji75) : Int).toNat * 4 + 1, none⟩ = false := hfr78 1
          have hf78_2 : w15.frozen? ⟨go78, ((ji75) : Int).toNat * 4 + 2, none⟩ = false := hfr78 2
          have hf78_3 : w15.frozen? ⟨go78, ((ji75) : Int).toNat * 4 + 3, none⟩ = false := hfr78 3
          clear hcl78 hcc78 hfr78 hM78
          replace p78 := eq_true p78
          replace q78 := eq_true q78
          have HX85 := Za.mk (show Kd.R k54 54 w15 w0.heap.size (fun k_ => (P0_ k_ ∨ w.heap.size ≤ k_)) (.slice (some ⟨go78, 0, none⟩) l0.length co14) l0 from (by (with_reducible repeat (first | apply Kd.Zs | apply Kd.Zt | apply Kd.Zr)); exact HO0.out))
          obtain ⟨ce85, hcl85, hM85, hcc85, hfr85⟩ := Kd.R_elem HX85.out z54 ((ji75) : Int) (of_decide_eq_true (by assumption)) (by have h_ : ((ji75) : Int) < ((l0.length : Int) : Int) := of_decide_eq_true (by assumption); first | exact h_ | (have e_ := (Kd.Zag HO0.out).1; omega) | simpa using h_)
          obtain rfl := Zba hM85
          have HP85 := Kd.R_seg HX85.out ((ji75) : Int) (of_decide_eq_true (by assumption)) (by have h_ : ((ji75) : Int) < ((l0.length : Int) : Int) := of_decide_eq_true (by assumption); first | exact h_ | (have e_ := (Kd.Zag HO0.out).1; omega) | simpa using h_) (seg := [.int .u16 37]) (j := 0) hcl85 hcc85 (show 1 ≤ 4 from by decide) (x' := (⟨37, (Zb l0 (ji75)).f1, (Zb l0 (ji75)).f2, (Zb l0 (ji75)).f3⟩ : S54)) (k54_mkM _ _ _ (⟨37, (Zb l0 (ji75)).f1, (Zb l0 (ji75)).f2, (Zb l0 (ji75)).f3⟩ : S54) ) (fun _ hk => hk)
          have hx85_0 := hcc85 0 _ rfl
          (try simp only [show (k54).sz = 4 from rfl, Nat.mul_one, Nat.add_zero] at hx85_0)
          have hf85_0 := hfr85 0
          (try simp only [show (k54).sz = 4 from rfl, Nat.mul_one, Nat.add_zero] at hf85_0)
          clear hcl85 hcc85 hfr85 hM85
          go_wp2_with (first | ((with_reducible refine Zby (t := 52) (p := 96) rfl ?_); refine Zbx (t := 52) (p := 96) (v := ?vo_w86) (w1 := (w15.setCell ⟨go78, ((ji75) : Int).toNat * 4, none⟩ (.int .u16 37))) ?hg ?ho ?hn ?hr ?_; (case ho => rfl); (case hg => rfl); (case hn => rfl); (case hr => first | (go_simp; done) | (go_simp; rfl)); intro w86 hw; have hg : w15.grownBy w86 (some go78) := (by rw [hw]; exact HP85.2); have hp_ : Kd.R k54 54 w86 w0.heap.size (fun k_ => (P0_ k_ ∨ w.heap.size ≤ k_)) (.slice (some ⟨go78, 0, none⟩) l0.length co14) y593 := (by rw [hw, Ny593.out]; exact HP85.1); clear HP85; replace HI1 := Za.mk (Zc.grown (by repeat (first | (with_reducible first | exact HI1.out | apply Zc.alloc | apply Zc.drewN | apply Zc.drew | apply Zc.Zv) | exact HI1.out)) hg (Zc.own_ne HI1.out HO0.out (by decide))); replace HB := Za.mk ((by rw [hw]; exact Zk (HB.out) GB78.out : Below w0.heap.size w0 w86)); replace HK := Za.mk (Kept.Zbn (S := (fun k_ => (P0_ k_) ∨ k_ = g)) hg (by repeat (first | (with_reducible first | exact HK.out | apply Kept.alloc | apply Kept.drewN | apply Kept.drew | refine Kept.setCell ?_ (.inl (.inr rfl)) _) | exact HK.out)) (fun k_ e_ => Or.imp_left Or.inl ((HO0.out.1 k_ e_)))); replace HO0 := Za.mk (hp_); clear hg hw hp_; have p79 : 0 ≤ ((ji75) : Int) := of_decide_eq_true (by assumption); have q79 : ((ji75) : Int) < ((l0.length : Int) : Int) := of_decide_eq_true (by assumption); obtain ⟨ce79, hcl79, hM79, hcc79, hfr79⟩ := Kd.R_elem HO0.out z54 ((ji75) : Int) p79 q79; obtain rfl := Zba hM79; have hx79_0 : w86.cell? ⟨go78, ((ji75) : Int).toNat * 4, none⟩ = some (.int .u16 ((Zb y593 (ji75)).f0)) := hcc79 0 _ rfl; have hx79_1 : w86.cell? ⟨go78, ((ji75) : Int).toNat * 4 + 1, none⟩ = some (.int .u8 ((Zb y593 (ji75)).f1)) := hcc79 1 _ rfl; have hx79_2 : w86.cell? ⟨go78, ((ji75) : Int).toNat * 4 + 2, none⟩ = some (.int .u8 ((Zb y593 (ji75)).f2)) := hcc79 2 _ rfl; have hx79_3 : w86.cell? ⟨go78, ((ji75) : Int).toNat * 4 + 3, none⟩ = some (.int .u32 ((Zb y593 (ji75)).f3)) := hcc79 3 _ rfl; have hf79_0 : w86.frozen? ⟨go78, ((ji75) : Int).toNat * 4, none⟩ = false := hfr79 0; have hf79_1 : w86.frozen? ⟨go78, ((ji75) : Int).toNat * 4 + 1, none⟩ = false := hfr79 1; have hf79_2 : w86.frozen? ⟨go78, ((ji75) : Int).toNat * 4 + 2, none⟩ = false := hfr79 2; have hf79_3 : w86.frozen? ⟨go78, ((ji75) : Int).toNat * 4 + 3, none⟩ = false := hfr79 3; clear hcl79 hcc79 hfr79 hM79; replace p79 := eq_true p79; replace q79 := eq_true q79; have HX87 := Za.mk (show Kd.R k54 54 w86 w0.heap.size (fun k_ => (P0_ k_ ∨ w.heap.size ≤ k_)) (.slice (some ⟨go78, 0, none⟩) l0.length co14) y593 from (by (with_reducible repeat (first | apply Kd.Zs | apply Kd.Zt | apply Kd.Zr)); exact HO0.out)); obtain ⟨ce87, hcl87, hM87, hcc87, hfr87⟩ := Kd.R_elem HX87.out z54 ((ji75) : Int) (of_decide_eq_true (by assumption)) (by have h_ : ((ji75) : Int) < ((l0.length : Int) : Int) := of_decide_eq_true (by assumption); first | exact h_ | (have e_ := (Kd.Zag HO0.out).1; omega) | simpa using h_); obtain rfl := Zba hM87; have HP87 := Kd.R_seg HX87.out ((ji75) : Int) (of_decide_eq_true (by assumption)) (by have h_ : ((ji75) : Int) < ((l0.length : Int) : Int) := of_decide_eq_true (by assumption); first | exact h_ | (have e_ := (Kd.Zag HO0.out).1; omega) | simpa using h_) (seg := [.int .u8 0]) (j := 1) hcl87 hcc87 (show 2 ≤ 4 from by decide) (x' := (⟨(Zb y593 (ji75)).f0, 0, (Zb y593 (ji75)).f2, (Zb y593 (ji75)).f3⟩ : S54)) (k54_mkM _ _ _ (⟨(Zb y593 (ji75)).f0, 0, (Zb y593 (ji75)).f2, (Zb y593 (ji75)).f3⟩ : S54) ) (fun _ hk => hk); have hx87_1 := hcc87 1 _ rfl; (try simp only [show (k54).sz = 4 from rfl, Nat.mul_one, Nat.add_zero] at hx87_1); have hf87_1 := hfr87 1; (try simp only [show (k54).sz = 4 from rfl, Nat.mul_one, Nat.add_zero] at hf87_1); clear hcl87 hcc87 hfr87 hM87) | ((with_reducible refine Zby (t := 5) (p := 100) rfl ?_); refine Zbx (t := 5) (p := 100) (v := ?vo_w88) (w1 := (w86.setCell ⟨go78, ((ji75) : Int).toNat * 4 + 1, none⟩ (.int .u8 0))) ?hg ?ho ?hn ?hr ?_; (case ho => rfl); (case hg => rfl); (case hn => rfl); (case hr => first | (go_simp; done) | (go_simp; rfl)); intro w88 hw; have hg : w86.grownBy w88 (some go78) := (by rw [hw]; exact HP87.2); have hp_ : Kd.R k54 54 w88 w0.heap.size (fun k_ => (P0_ k_ ∨ w.heap.size ≤ k_)) (.slice (some ⟨go78, 0, none⟩) l0.length co14) y594 := (by rw [hw, Ny594.out]; exact HP87.1); clear HP87; replace HI1 := Za.mk (Zc.grown (by repeat (first | (with_reducible first | exact HI1.out | apply Zc.alloc | apply Zc.drewN | apply Zc.drew | apply Zc.Zv) | exact HI1.out)) hg (Zc.own_ne HI1.out HO0.out (by decide))); replace HB := Za.mk ((by rw [hw]; exact Zk (HB.out) GB78.out : Below w0.heap.size w0 w88)); replace HK := Za.mk (Kept.Zbn (S := (fun k_ => (P0_ k_) ∨ k_ = g)) hg (by repeat (first | (with_reducible first | exact HK.out | apply Kept.alloc | apply Kept.drewN | apply Kept.drew | refine Kept.setCell ?_ (.inl (.inr rfl)) _) | exact HK.out)) (fun k_ e_ => Or.imp_left Or.inl ((HO0.out.1 k_ e_)))); replace HO0 := Za.mk (hp_); clear hg hw hp_; have p80 : 0 ≤ ((ji75) : Int) := of_decide_eq_true (by assumption); have q80 : ((ji75) : Int) < ((l0.length : Int) : Int) := of_decide_eq_true (by assumption); obtain ⟨ce80, hcl80, hM80, hcc80, hfr80⟩ := Kd.R_elem HO0.out z54 ((ji75) : Int) p80 q80; obtain rfl := Zba hM80; have hx80_0 : w88.cell? ⟨go78, ((ji75) : Int).toNat * 4, none⟩ = some (.int .u16 ((Zb y594 (ji75)).f0)) := hcc80 0 _ rfl; have hx80_1 : w88.cell? ⟨go78, ((ji75) : Int).toNat * 4 + 1, none⟩ = some (.int .u8 ((Zb y594 (ji75)).f1)) := hcc80 1 _ rfl; have hx80_2 : w88.cell? ⟨go78, ((ji75) : Int).toNat * 4 + 2, none⟩ = some (.int .u8 ((Zb y594 (ji75)).f2)) := hcc80 2 _ rfl; have hx80_3 : w88.cell? ⟨go78, ((ji75) : Int).toNat * 4 + 3, none⟩ = some (.int .u32 ((Zb y594 (ji75)).f3)) := hcc80 3 _ rfl; have hf80_0 : w88.frozen? ⟨go78, ((ji75) : Int).toNat * 4, none⟩ = false := hfr80 0; have hf80_1 : w88.frozen? ⟨go78, ((ji75) : Int).toNat * 4 + 1, none⟩ = false := hfr80 1; have hf80_2 : w88.frozen? ⟨go78, ((ji75) : Int).toNat * 4 + 2, none⟩ = false := hfr80 2; have hf80_3 : w88.frozen? ⟨go78, ((ji75) : Int).toNat * 4 + 3, none⟩ = false := hfr80 3; clear hcl80 hcc80 hfr80 hM80; replace p80 := eq_true p80; replace q80 := eq_true q80; have HX89 := Za.mk (show Kd.R k54 54 w88 w0.heap.size (fun k_ => (P0_ k_ ∨ w.heap.size ≤ k_)) (.slice (some ⟨go78, 0, none⟩) l0.length co14) y594 from (by (with_reducible repeat (first | apply Kd.Zs | apply Kd.Zt | apply Kd.Zr)); exact HO0.out)); obtain ⟨ce89, hcl89, hM89, hcc89, hfr89⟩ := Kd.R_elem HX89.out z54 ((ji75) : Int) (of_decide_eq_true (by assumption)) (by have h_ : ((ji75) : Int) < ((l0.length : Int) : Int) := of_decide_eq_true (by assumption); first | exact h_ | (have e_ := (Kd.Zag HO0.out).1; omega) | simpa using h_); obtain rfl := Zba hM89; have HP89 := Kd.R_seg HX89.out ((ji75) : Int) (of_decide_eq_true (by assumption)) (by have h_ : ((ji75) : Int) < ((l0.length : Int) : Int) := of_decide_eq_true (by assumption); first | exact h_ | (have e_ := (Kd.Zag HO0.out).1; omega) | simpa using h_) (seg := [.int .u8 ((wrap64 ((wrap64 ((wrap64 ((l0.length : Int) - (ji75))) - 3)) + (Int.tmod t582 3))) % 256)]) (j := 2) hcl89 hcc89 (show 3 ≤ 4 from by decide) (x' := (⟨(Zb y594 (ji75)).f0, (Zb y594 (ji75)).f1, (wrap64 ((wrap64 ((wrap64 ((l0.length : Int) - (ji75))) - 3)) + (Int.tmod t582 3))) % 256, (Zb y594 (ji75)).f3⟩ : S54)) (k54_mkM _ _ _ (⟨(Zb y594 (ji75)).f0, (Zb y594 (ji75)).f1, (wrap64 ((wrap64 ((wrap64 ((l0.length : Int) - (ji75))) - 3)) + (Int.tmod t582 3))) % 256, (Zb y594 (ji75)).f3⟩ : S54) ) (fun _ hk => hk); have hx89_2 := hcc89 2 _ rfl; (try simp only [show (k54).sz = 4 from rfl, Nat.mul_one, Nat.add_zero] at hx89_2); have hf89_2 := hfr89 2; (try simp only [show (k54).sz = 4 from rfl, Nat.mul_one, Nat.add_zero] at hf89_2); clear hcl89 hcc89 hfr89 hM89) | ((with_reducible refine Zby (t := 5) (p := 112) rfl ?_); refine Zbx (t := 5) (p := 112) (v := ?vo_w90) (w1 := (w88.setCell ⟨go78, ((ji75) : Int).toNat * 4 + 2, none⟩ (.int .u8 ((wrap64 ((wrap64 ((wrap64 ((l0.length : Int) - (ji75))) - 3)) + (Int.tmod t582 3))) % 256)))) ?hg ?ho ?hn ?hr ?_; (case ho => rfl); (case hg => rfl); (case hn => rfl); (case hr => first | (go_simp; done) | (go_simp; rfl)); intro w90 hw; have hg : w88.grownBy w90 (some go78) := (by rw [hw]; exact HP89.2); have hp_ : Kd.R k54 54 w90 w0.heap.size (fun k_ => (P0_ k_ ∨ w.heap.size ≤ k_)) (.slice (some ⟨go78, 0, none⟩) l0.length co14) y595 := (by rw [hw, Ny595.out]; exact HP89.1); clear HP89; replace HI1 := Za.mk (Zc.grown (by repeat (first | (with_reducible first | exact HI1.out | apply Zc.alloc | apply Zc.drewN | apply Zc.drew | apply Zc.Zv) | exact HI1.out)) hg (Zc.own_ne HI1.out HO0.out (by decide))); replace HB := Za.mk ((by rw [hw]; exact Zk (HB.out) GB78.out : Below w0.heap.size w0 w90)); replace HK := Za.mk (Kept.Zbn (S := (fun k_ => (P0_ k_) ∨ k_ = g)) hg (by repeat (first | (with_reducible first | exact HK.out | apply Kept.alloc | apply Kept.drewN | apply Kept.drew | refine Kept.setCell ?_ (.inl (.inr rfl)) _) | exact HK.out)) (fun k_ e_ => Or.imp_left Or.inl ((HO0.out.1 k_ e_)))); replace HO0 := Za.mk (hp_); clear hg hw hp_))
          go_ret
          exact ⟨_, by first | rfl | (simp [Zo, Zp] <;> rfl) | (simp only [← hji75]; first | rfl | (simp [Zo, Zp] <;> rfl)) | (simp [*, Zo, Zp] <;> rfl), by (with_reducible repeat (first | apply Kd.Zs | apply Kd.Zt | apply Kd.Zr)); exact HO0.out, by repeat (first | (with_reducible first | exact HI1.out | apply Zc.alloc | apply Zc.drewN | apply Zc.drew | apply Zc.Zv) | exact HI1.out), by repeat (first | (with_reducible first | exact HB.out | apply Ze | apply Zf | apply Zd | refine Zk ?_ (Zc.ge HI1.out)) | exact HB.out), by repeat (first | (with_reducible first | exact HK.out | apply Kept.alloc | apply Kept.drewN | apply Kept.drew | refine Kept.setCell ?_ (.inl (.inr rfl)) _) | exact HK.out)⟩
         ·rw [if_neg c77] at H
          exact absurd H (by simp)
        ·rw [if_neg c76] at H
         exact absurd H (by simp)
       ·rw [if_neg c74] at H
        have c74b0 : ((Int.tmod t578 10) == 5) = false := beq_eq_false_iff_ne.mpr c74
        have c74b1 : ((Int.tmod t578 10) != 5) = true := bne_iff_ne.mpr c74
        by_cases c91 : (Int.tmod t578 10) = 6
        ·rw [if_pos c91] at H
         have c91b0 : ((Int.tmod t578 10) == 6) = true := beq_iff_eq.mpr c91
         have c91b1 : ((Int.tmod t578 10) != 6) = false := bne_eq_false_iff_eq.mpr c91
         clear c91
         obtain ⟨ji92, hji92⟩ : ∃ j_ : Int, (Int.tmod t580 (l0.length : Int)) = j_ := ⟨_, rfl⟩
         replace H : (if 0 ≤ (ji92) then (if (ji92) < (l0.length : Int) then ((some (l0.set ((ji92) : Int).toNat (⟨52, (Zb l0 (ji92)).f1, (Zb l0 (ji92)).f2, (Zb l0 (ji92)).f3⟩ : S54) : List (S54))).bind fun y596 => (some ((y596.set ((ji92) : Int).toNat (⟨(Zb y596 (ji92)).f0, (Zb y596 (ji92)).f1, (Zb y596 (ji92)).f2, (Int.tmod t582 2) % 4294967296⟩ : S54)), t583))) else (none)) else (none)) = some (r1, r2) := by first | (rw [hji92] at H; exact H) | (simp only [hji92] at H ⊢; exact H)
         (try rw [hji92] at A3)
         (try rw [hji92] at A4)
         (try rw [hji92] at A6)
         by_cases c93 : 0 ≤ (ji92)
         ·rw [if_pos c93] at H
          have c93b0 : decide (0 ≤ (ji92)) = true := decide_eq_true c93
          clear c93
          by_cases c94 : (ji92) < (l0.length : Int)
          ·rw [if_pos c94] at H
           have c94b0 : decide ((ji92) < (l0.length : Int)) = true := decide_eq_true c94
           clear c94
           obtain ⟨y596, hy596⟩ : ∃ y_ : List (S54), y_ = (l0.set ((ji92) : Int).toNat (⟨52, (Zb l0 (ji92)).f1, (Zb l0 (ji92)).f2, (Zb l0 (ji92)).f3⟩ : S54)) := ⟨_, rfl⟩
           replace H : (some ((y596.set ((ji92) : Int).toNat (⟨(Zb y596 (ji92)).f0, (Zb y596 (ji92)).f1, (Zb y596 (ji92)).f2, (Int.tmod t582 2) % 4294967296⟩ : S54)), t583)) = some (r1, r2) := by first | (rw [hy596]; with_reducible exact H) | (have H2_ := (Option.bind_some _ _).symm.trans H; rw [hy596]; with_reducible exact H2_) | (have H2_ := (Option.bind_some _ _).symm.trans H; with_reducible exact H2_) | with_reducible exact H | (rw [hy596]; exact H) | exact H
           have Ny596 := Za.mk hy596
           clear hy596
           obtain ⟨y597, hy597⟩ : ∃ y_ : List (S54), y_ = (y596.set ((ji92) : Int).toNat (⟨(Zb y596 (ji92)).f0, (Zb y596 (ji92)).f1, (Zb y596 (ji92)).f2, (Int.tmod t582 2) % 4294967296⟩ : S54)) := ⟨_, rfl⟩
           replace H : (some (y597, t583)) = some (r1, r2) := by first | (rw [hy597]; with_reducible exact H) | (have H2_ := (Option.bind_some _ _).symm.trans H; rw [hy597]; with_reducible exact H2_) | (have H2_ := (Option.bind_some _ _).symm.trans H; with_reducible exact H2_) | with_reducible exact H | (rw [hy597]; exact H) | exact H
           have Ny597 := Za.mk hy597
           clear hy597
           simp only [Option.some.injEq, Prod.mk.injEq] at H
           obtain ⟨rfl, rfl⟩ := H
           (try rw [c7b0])
           have p95 : 0 ≤ ((ji92) : Int) := of_decide_eq_true (by assumption)
           have q95 : ((ji92) : Int) < ((l0.length : Int) : Int) := of_decide_eq_true (by assumption)
           obtain ⟨go95, co95, eo95, gb95, gl95, cl95, HG95⟩ := Kd.R_form HO0.out (by omega)
           (first | cases eo95 | (injection eo95 with ea_ en_ ec_; (first | subst ea_ | (injection ea_ with ea_; subst ea_)); subst ec_; clear en_))
           have GB95 := Za.mk gb95
           have GG95 := Za.mk HG95
           clear gb95 gl95 HG95
           have HMgo95 := Za.mk (show (P0_ go95 ∨ w.heap.size ≤ go95) from (HO0.out.1 _ rfl))
           obtain ⟨ce95, hcl95, hM95, hcc95, hfr95⟩ := Kd.R_elem HO0.out z54 ((ji92) : Int) p95 q95
           obtain rfl := Zba hM95
           have hx95_0 : w15.cell? ⟨go95, ((ji92) : Int).toNat * 4, none⟩ = some (.int .u16 ((Zb l0 (ji92)).f0)) := hcc95 0 _ rfl
           have hx95_1 : w15.cell? ⟨go95, ((ji92) : Int).toNat * 4 + 1, none⟩ = some (.int .u8 ((Zb l0 (ji92)).f1)) := hcc95 1 _ rfl
           have hx95_2 : w15.cell? ⟨go95, ((ji92) : Int).toNat * 4 + 2, none⟩ = some (.int .u8 ((Zb l0 (ji92)).f2)) := hcc95 2 _ rfl
           have hx95_3 : w15.cell? ⟨go95, ((ji92) : Int).toNat * 4 + 3, none⟩ = some (.int .u32 ((Zb l0 (ji92)).f3)) := hcc95 3 _ rfl
           have hf95_0 : w15.frozen? ⟨go95, ((ji92) : Int).toNat * 4, none⟩ = false := hfr95 0
           have hf95_1 : w15.frozen? ⟨go95, ((ji92) : Int).toNat * 4 + 1, none⟩ = false := hfr95 1
           have hf95_2 : w15.frozen? ⟨go95, ((ji92) : Int).toNat * 4 + 2, none⟩ = false := hfr95 2
           have hf95_3 : w15.frozen? ⟨go95, ((ji92) : Int).toNat * 4 + 3, none⟩ = false := hfr95 3
           clear hcl95 hcc95 hfr95 hM95
           replace p95 := eq_true p95
           replace q95 := eq_true q95
           have HX101 := Za.mk (show Kd.R k54 54 w15 w0.heap.size (fun k_ => (P0_ k_ ∨ w.heap.size ≤ k_)) (.slice (some ⟨go95, 0, none⟩) l0.length co14) l0 from (by (with_reducible repeat (first | apply Kd.Zs | apply Kd.Zt | apply Kd.Zr)); exact HO0.out))
           obtain ⟨ce101, hcl101, hM101, hcc101, hfr101⟩ := Kd.R_elem HX101.out z54 ((ji92) : Int) (of_decide_eq_true (by assumption)) (by have h_ : ((ji92) : Int) < ((l0.length : Int) : Int) := of_decide_eq_true (by assumption); first | exact h_ | (have e_ := (Kd.Zag HO0.out).1; omega) | simpa using h_)
           obtain rfl := Zba hM101
           have HP101 := Kd.R_seg HX101.out ((ji92) : Int) (of_decide_eq_true (by assumption)) (by have h_ : ((ji92) : Int) < ((l0.length : Int) : Int) := of_decide_eq_true (by assumption); first | exact h_ | (have e_ := (Kd.Zag HO0.out).1; omega) | simpa using h_) (seg := [.int .u16 52]) (j := 0) hcl101 hcc101 (show 1 ≤ 4 from by decide) (x' := (⟨52, (Zb l0 (ji92)).f1, (Zb l0 (ji92)).f2, (Zb l0 (ji92)).f3⟩ : S54)) (k54_mkM _ _ _ (⟨52, (Zb l0 (ji92)).f1, (Zb l0 (ji92)).f2, (Zb l0 (ji92)).f3⟩ : S54) ) (fun _ hk => hk)
           have hx101_0 := hcc101 0 _ rfl
           (try simp only [show (k54).sz = 4 from rfl, Nat.mul_one, Nat.add_zero] at hx101_0)
           have hf101_0 := hfr101 0
           (try simp only [show (k54).sz = 4 from rfl, Nat.mul_one, Nat.add_zero] at hf101_0)
           clear hcl101 hcc101 hfr101 hM101
           go_wp2_with (first | ((with_reducible refine Zby (t := 52) (p := 118) rfl ?_); refine Zbx (t := 52) (p := 118) (v := ?vo_w102) (w1 := (w15.setCell ⟨go95, ((ji92) : Int).toNat * 4, none⟩ (.int .u16 52))) ?hg ?ho ?hn ?hr ?_; (case ho => rfl); (case hg => rfl); (case hn => rfl); (case hr => first | (go_simp; done) | (go_simp; rfl)); intro w102 hw; have hg : w15.grownBy w102 (some go95) := (by rw [hw]; exact HP101.2); have hp_ : Kd.R k54 54 w102 w0.heap.size (fun k_ => (P0_ k_ ∨ w.heap.size ≤ k_)) (.slice (some ⟨go95, 0, none⟩) l0.length co14) y596 := (by rw [hw, Ny596.out]; exact HP101.1); clear HP101; replace HI1 := Za.mk (Zc.grown (by repeat (first | (with_reducible first | exact HI1.out | apply Zc.alloc | apply Zc.drewN | apply Zc.drew | apply Zc.Zv) | exact HI1.out)) hg (Zc.own_ne HI1.out HO0.out (by decide))); replace HB := Za.mk ((by rw [hw]; exact Zk (HB.out) GB95.out : Below w0.heap.size w0 w102)); replace HK := Za.mk (Kept.Zbn (S := (fun k_ => (P0_ k_) ∨ k_ = g)) hg (by repeat (first | (with_reducible first | exact HK.out | apply Kept.alloc | apply Kept.drewN | apply Kept.drew | refine Kept.setCell ?_ (.inl (.inr rfl)) _) | exact HK.out)) (fun k_ e_ => Or.imp_left Or.inl ((HO0.out.1 k_ e_)))); replace HO0 := Za.mk (hp_); clear hg hw hp_; have p96 : 0 ≤ ((ji92) : Int) := of_decide_eq_true (by assumption); have q96 : ((ji92) : Int) < ((l0.length : Int) : Int) := of_decide_eq_true (by assumption); obtain ⟨ce96, hcl96, hM96, hcc96, hfr96⟩ := Kd.R_elem HO0.out z54 ((ji92) : Int) p96 q96; obtain rfl := Zba hM96; have hx96_0 : w102.cell? ⟨go95, ((ji92) : Int).toNat * 4, none⟩ = some (.int .u16 ((Zb y596 (ji92)).f0)) := hcc96 0 _ rfl; have hx96_1 : w102.cell? ⟨go95, ((ji92) : Int).toNat * 4 + 1, none⟩ = some (.int .u8 ((Zb y596 (ji92)).f1)) := hcc96 1 _ rfl; have hx96_2 : w102.cell? ⟨go95, ((ji92) : Int).toNat * 4 + 2, none⟩ = some (.int .u8 ((Zb y596 (ji92)).f2)) := hcc96 2 _ rfl; have hx96_3 : w102.cell? ⟨go95, ((ji92) : Int).toNat * 4 + 3, none⟩ = some (.int .u32 ((Zb y596 (ji92)).f3)) := hcc96 3 _ rfl; have hf96_0 : w102.frozen? ⟨go95, ((ji92) : Int).toNat * 4, none⟩ = false := hfr96 0; have hf96_1 : w102.frozen? ⟨go95, ((ji92) : Int).toNat * 4 + 1, none⟩ = false := hfr96 1; have hf96_2 : w102.frozen? ⟨go95, ((ji92) : Int).toNat * 4 + 2, none⟩ = false := hfr96 2; have hf96_3 : w102.frozen? ⟨go95, ((ji92) : Int).toNat * 4 + 3, none⟩ = false := hfr96 3; clear hcl96 hcc96 hfr96 hM96; replace p96 := eq_true p96; replace q96 := eq_true q96; have HX103 := Za.mk (show Kd.R k54 54 w102 w0.heap.size (fun k_ => (P0_ k_ ∨ w.heap.size ≤ k_)) (.slice (some ⟨go95, 0, none⟩) l0.length co14) y596 from (by (with_reducible repeat (first | apply Kd.Zs | apply Kd.Zt | apply Kd.Zr)); exact HO0.out)); obtain ⟨ce103, hcl103, hM103, hcc103, hfr103⟩ := Kd.R_elem HX103.out z54 ((ji92) : Int) (of_decide_eq_true (by assumption)) (by have h_ : ((ji92) : Int) < ((l0.length : Int) : Int) := of_decide_eq_true (by assumption); first | exact h_ | (have e_ := (Kd.Zag HO0.out).1; omega) | simpa using h_); obtain rfl := Zba hM103; have HP103 := Kd.R_seg HX103.out ((ji92) : Int) (of_decide_eq_true (by assumption)) (by have h_ : ((ji92) : Int) < ((l0.length : Int) : Int) := of_decide_eq_true (by assumption); first | exact h_ | (have e_ := (Kd.Zag HO0.out).1; omega) | simpa using h_) (seg := [.int .u32 ((Int.tmod t582 2) % 4294967296)]) (j := 3) hcl103 hcc103 (show 4 ≤ 4 from by decide) (x' := (⟨(Zb y596 (ji92)).f0, (Zb y596 (ji92)).f1, (Zb y596 (ji92)).f2, (Int.tmod t582 2) % 4294967296⟩ : S54)) (k54_mkM _ _ _ (⟨(Zb y596 (ji92)).f0, (Zb y596 (ji92)).f1, (Zb y596 (ji92)).f2, (Int.tmod t582 2) % 4294967296⟩ : S54) ) (fun _ hk => hk); have hx103_3 := hcc103 3 _ rfl; (try simp only [show (k54).sz = 4 from rfl, Nat.mul_one, Nat.add_zero] at hx103_3); have hf103_3 := hfr103 3; (try simp only [show (k54).sz = 4 from rfl, Nat.mul_one, Nat.add_zero] at hf103_3); clear hcl103 hcc103 hfr103 hM103) | ((with_reducible refine Zby (t := 42) (p := 125) rfl ?_); refine Zbx (t := 42) (p := 125) (v := ?vo_w104) (w1 := (w102.setCell ⟨go95, ((ji92) : Int).toNat * 4 + 3, none⟩ (.int .u32 ((Int.tmod t582 2) % 4294967296)))) ?hg ?ho ?hn ?hr ?_; (case ho => rfl); (case hg => rfl); (case hn => rfl); (case hr => first | (go_simp; done) | (go_simp; rfl)); intro w104 hw; have hg : w102.grownBy w104 (some go95) := (by rw [hw]; exact HP103.2); have hp_ : Kd.R k54 54 w104 w0.heap.size (fun k_ => (P0_ k_ ∨ w.heap.size ≤ k_)) (.slice (some ⟨go95, 0, none⟩) l0.length co14) y597 := (by rw [hw, Ny597.out]; exact HP103.1); clear HP103; replace HI1 := Za.mk (Zc.grown (by repeat (first | (with_reducible first | exact HI1.out | apply Zc.alloc | apply Zc.drewN | apply Zc.drew | apply Zc.Zv) | exact HI1.out)) hg (Zc.own_ne HI1.out HO0.out (by decide))); replace HB := Za.mk ((by rw [hw]; exact Zk (HB.out) GB95.out : Below w0.heap.size w0 w104)); replace HK := Za.mk (Kept.Zbn (S := (fun k_ => (P0_ k_) ∨ k_ = g)) hg (by repeat (first | (with_reducible first | exact HK.out | apply Kept.alloc | apply Kept.drewN | apply Kept.drew | refine Kept.setCell ?_ (.inl (.inr rfl)) _) | exact HK.out)) (fun k_ e_ => Or.imp_left Or.inl ((HO0.out.1 k_ e_)))); replace HO0 := Za.mk (hp_); clear hg hw hp_))
           go_ret
           exact ⟨_, by first | rfl | (simp [Zo, Zp] <;> rfl) | (simp only [← hji92]; first | rfl | (simp [Zo, Zp] <;> rfl)) | (simp [*, Zo, Zp] <;> rfl), by (with_reducible repeat (first | apply Kd.Zs | apply Kd.Zt | apply Kd.Zr)); exact HO0.out, by repeat (first | (with_reducible first | exact HI1.out | apply Zc.alloc | apply Zc.drewN | apply Zc.drew | apply Zc.Zv) | exact HI1.out), by repeat (first | (with_reducible first | exact HB.out | apply Ze | apply Zf | apply Zd | refine Zk ?_ (Zc.ge HI1.out)) | exact HB.out), by repeat (first | (with_reducible first | exact HK.out | apply Kept.alloc | apply Kept.drewN | apply Kept.drew | refine Kept.setCell ?_ (.inl (.inr rfl)) _) | exact HK.out)⟩
          ·rw [if_neg c94] at H
           exact absurd H (by simp)
         ·rw [if_neg c93] at H
          exact absurd H (by simp)
        ·rw [if_neg c91] at H
         have c91b0 : ((Int.tmod t578 10) == 6) = false := beq_eq_false_iff_ne.mpr c91
         have c91b1 : ((Int.tmod t578 10) != 6) = true := bne_iff_ne.mpr c91
         by_cases c105 : (Int.tmod t578 10) = 7
         ·rw [if_pos c105] at H
          have c105b0 : ((Int.tmod t578 10) == 7) = true := beq_iff_eq.mpr c105
          have c105b1 : ((Int.tmod t578 10) != 7) = false := bne_eq_false_iff_eq.mpr c105
          clear c105
          obtain ⟨ji106, hji106⟩ : ∃ j_ : Int, (Int.tmod t580 (l0.length : Int)) = j_ := ⟨_, rfl⟩
          replace H : (if 0 ≤ (ji106) then (if (ji106) < (l0.length : Int) then ((some (l0.set ((ji106) : Int).toNat (⟨100, (Zb l0 (ji106)).f1, (Zb l0 (ji106)).f2, (Zb l0 (ji106)).f3⟩ : S54) : List (S54))).bind fun y598 => (some ((y598.set ((ji106) : Int).toNat (⟨(Zb y598 (ji106)).f0, (Zb y598 (ji106)).f1, (Zb y598 (ji106)).f2, (wrap64 (31 + (Int.tmod t582 3))) % 4294967296⟩ : S54)), t583))) else (none)) else (none)) = some (r1, r2) := by first | (rw [hji106] at H; exact H) | (simp only [hji106] at H ⊢; exact H)
          (try rw [hji106] at A3)
          (try rw [hji106] at A4)
          (try rw [hji106] at A6)
          by_cases c107 : 0 ≤ (ji106)
          ·rw [if_pos c107] at H
           have c107b0 : decide (0 ≤ (ji106)) = true := decide_eq_true c107
           clear c107
           by_cases c108 : (ji106) < (l0.length : Int)
           ·rw [if_pos c108] at H
            have c108b0 : decide ((ji106) < (l0.length : Int)) = true := decide_eq_true c108
            clear c108
            obtain ⟨y598, hy598⟩ : ∃ y_ : List (S54), y_ = (l0.set ((ji106) : Int).toNat (⟨100, (Zb l0 (ji106)).f1, (Zb l0 (ji106)).f2, (Zb l0 (ji106)).f3⟩ : S54)) := ⟨_, rfl⟩
            replace H : (some ((y598.set ((ji106) : Int).toNat (⟨(Zb y598 (ji106)).f0, (Zb y598 (ji106)).f1, (Zb y598 (ji106)).f2, (wrap64 (31 + (Int.tmod t582 3))) % 4294967296⟩ : S54)), t583)) = some (r1, r2) := by first | (rw [hy598]; with_reducible exact H) | (have H2_ := (Option.bind_some _ _).symm.trans H; rw [hy598]; with_reducible exact H2_) | (have H2_ := (Option.bind_some _ _).symm.trans H; with_reducible exact H2_) | with_reducible exact H | (rw [hy598]; exact H) | exact H
            have Ny598 := Za.mk hy598
            clear hy598
            obtain ⟨y599, hy599⟩ : ∃ y_ : List (S54), y_ = (y598.set ((ji106) : Int).toNat (⟨(Zb y598 (ji106)).f0, (Zb y598 (ji106)).f1, (Zb y598 (ji106)).f2, (wrap64 (31 + (Int.tmod t582 3))) % 4294967296⟩ : S54)) := ⟨_, rfl⟩
            replace H : (some (y599, t583)) = some (r1, r2) := by first | (rw [hy599]; with_reducible exact H) | (have H2_ := (Option.bind_some _ _).symm.trans H; rw [hy599]; with_reducible exact H2_) | (have H2_ := (Option.bind_some _ _).symm.trans H; with_reducible exact H2_) | with_reducible exact H | (rw [hy599]; exact H) | exact H
            have Ny599 := Za.mk hy599
            clear hy599
            simp only [Option.some.injEq, Prod.mk.injEq] at H
            obtain ⟨rfl, rfl⟩ := H
            (try rw [c7b0])
            have p109 : 0 ≤ ((ji106) : Int) := of_decide_eq_true (by assumption)
            have q109 : ((ji106) : Int) < ((l0.length : Int) : Int) := of_decide_eq_true (by assumption)
            obtain ⟨go109, co109, eo109, gb109, gl109, cl109, HG109⟩ := Kd.R_form HO0.out (by omega)
            (first | cases eo109 | (injection eo109 with ea_ en_ ec_; (first | subst ea_ | (injection ea_ with ea_; subst ea_)); subst ec_; clear en_))
            have GB109 := Za.mk gb109
            have GG109 := Za.mk HG109
            clear gb109 gl109 HG109
            have HMgo109 := Za.mk (show (P0_ go109 ∨ w.heap.size ≤ go109) from (HO0.out.1 _ rfl))
            obtain ⟨ce109, hcl109, hM109, hcc109, hfr109⟩ := Kd.R_elem HO0.out z54 ((ji106) : Int) p109 q109
            obtain rfl := Zba hM109
            have hx109_0 : w15.cell? ⟨go109, ((ji106) : Int).toNat * 4, none⟩ = some (.int .u16 ((Zb l0 (ji106)).f0)) := hcc109 0 _ rfl
            have hx109_1 : w15.cell? ⟨go109, ((ji106) : Int).toNat * 4 + 1, none⟩ = some (.int .u8 ((Zb l0 (ji106)).f1)) := hcc109 1 _ rfl
            have hx109_2 : w15.cell? ⟨go109, ((ji106) : Int).toNat * 4 + 2, none⟩ = some (.int .u8 ((Zb l0 (ji106)).f2)) := hcc109 2 _ rfl
            have hx109_3 : w15.cell? ⟨go109, ((ji106) : Int).toNat * 4 + 3, none⟩ = some (.int .u32 ((Zb l0 (ji106)).f3)) := hcc109 3 _ rfl
            have hf109_0 : w15.frozen? ⟨go109, ((ji106) : Int).toNat * 4, none⟩ = false := hfr109 0
            have hf109_1 : w15.frozen? ⟨go109, ((ji106) : Int).toNat * 4 + 1, none⟩ = false := hfr109 1
            have hf109_2 : w15.frozen? ⟨go109, ((ji106) : Int).toNat * 4 + 2, none⟩ = false := hfr109 2
            have hf109_3 : w15.frozen? ⟨go109, ((ji106) : Int).toNat * 4 + 3, none⟩ = false := hfr109 3
            clear hcl109 hcc109 hfr109 hM109
            replace p109 := eq_true p109
            replace q109 := eq_true q109
            have HX115 := Za.mk (show Kd.R k54 54 w15 w0.heap.size (fun k_ => (P0_ k_ ∨ w.heap.size ≤ k_)) (.slice (some ⟨go109, 0, none⟩) l0.length co14) l0 from (by (with_reducible repeat (first | apply Kd.Zs | apply Kd.Zt | apply Kd.Zr)); exact HO0.out))
            obtain ⟨ce115, hcl115, hM115, hcc115, hfr115⟩ := Kd.R_elem HX115.out z54 ((ji106) : Int) (of_decide_eq_true (by assumption)) (by have h_ : ((ji106) : Int) < ((l0.length : Int) : Int) := of_decide_eq_true (by assumption); first | exact h_ | (have e_ := (Kd.Zag HO0.out).1; omega) | simpa using h_)
            obtain rfl := Zba hM115
            have HP115 := Kd.R_seg HX115.out ((ji106) : Int) (of_decide_eq_true (by assumption)) (by have h_ : ((ji106) : Int) < ((l0.length : Int) : Int) := of_decide_eq_true (by assumption); first | exact h_ | (have e_ := (Kd.Zag HO0.out).1; omega) | simpa using h_) (seg := [.int .u16 100]) (j := 0) hcl115 hcc115 (show 1 ≤ 4 from by decide) (x' := (⟨100, (Zb l0 (ji106)).f1, (Zb l0 (ji106)).f2, (Zb l0 (ji106)).f3⟩ : S54)) (k54_mkM _ _ _ (⟨100, (Zb l0 (ji106)).f1, (Zb l0 (ji106)).f2, (Zb l0 (ji106)).f3⟩ : S54) ) (fun _ hk => hk)
            have hx115_0 := hcc115 0 _ rfl
            (try simp only [show (k54).sz = 4 from rfl, Nat.mul_one, Nat.add_zero] at hx115_0)
            have hf115_0 := hfr115 0
            (try simp only [show (k54).sz = 4 from rfl, Nat.mul_one, Nat.add_zero] at hf115_0)
            clear hcl115 hcc115 hfr115 hM115
            go_wp2_with (first | ((with_reducible refine Zby (t := 52) (p := 131) rfl ?_); refine Zbx (t := 52) (p := 131) (v := ?vo_w116) (w1 := (w15.setCell ⟨go109, ((ji106) : Int).toNat * 4, none⟩ (.int .u16 100))) ?hg ?ho ?hn ?hr ?_; (case ho => rfl); (case hg => rfl); (case hn => rfl); (case hr => first | (go_simp; done) | (go_simp; rfl)); intro w116 hw; have hg : w15.grownBy w116 (some go109) := (by rw [hw]; exact HP115.2); have hp_ : Kd.R k54 54 w116 w0.heap.size (fun k_ => (P0_ k_ ∨ w.heap.size ≤ k_)) (.slice (some ⟨go109, 0, none⟩) l0.length co14) y598 := (by rw [hw, Ny598.out]; exact HP115.1); clear HP115; replace HI1 := Za.mk (Zc.grown (by repeat (first | (with_reducible first | exact HI1.out | apply Zc.alloc | apply Zc.drewN | apply Zc.drew | apply Zc.Zv) | exact HI1.out)) hg (Zc.own_ne HI1.out HO0.out (by decide))); replace HB := Za.mk ((by rw [hw]; exact Zk (HB.out) GB109.out : Below w0.heap.size w0 w116)); replace HK := Za.mk (Kept.Zbn (S := (fun k_ => (P0_ k_) ∨ k_ = g)) hg (by repeat (first | (with_reducible first | exact HK.out | apply Kept.alloc | apply Kept.drewN | apply Kept.drew | refine Kept.setCell ?_ (.inl (.inr rfl)) _) | exact HK.out)) (fun k_ e_ => Or.imp_left Or.inl ((HO0.out.1 k_ e_)))); replace HO0 := Za.mk (hp_); clear hg hw hp_; have p110 : 0 ≤ ((ji106) : Int) := of_decide_eq_true (by assumption); have q110 : ((ji106) : Int) < ((l0.length : Int) : Int) := of_decide_eq_true (by assumption); obtain ⟨ce110, hcl110, hM110, hcc110, hfr110⟩ := Kd.R_elem HO0.out z54 ((ji106) : Int) p110 q110; obtain rfl := Zba hM110; have hx110_0 : w116.cell? ⟨go109, ((ji106) : Int).toNat * 4, none⟩ = some (.int .u16 ((Zb y598 (ji106)).f0)) := hcc110 0 _ rfl; have hx110_1 : w116.cell? ⟨go109, ((ji106) : Int).toNat * 4 + 1, none⟩ = some (.int .u8 ((Zb y598 (ji106)).f1)) := hcc110 1 _ rfl; have hx110_2 : w116.cell? ⟨go109, ((ji106) : Int).toNat * 4 + 2, none⟩ = some (.int .u8 ((Zb y598 (ji106)).f2)) := hcc110 2 _ rfl; have hx110_3 : w116.cell? ⟨go109, ((ji106) : Int).toNat * 4 + 3, none⟩ = some (.int .u32 ((Zb y598 (ji106)).f3)) := hcc110 3 _ rfl; have hf110_0 : w116.frozen? ⟨go109, ((ji106) : Int).toNat * 4, none⟩ = false := hfr110 0; have hf110_1 : w116.frozen? ⟨go109, ((ji106) : Int).toNat * 4 + 1, none⟩ = false := hfr110 1; have hf110_2 : w116.frozen? ⟨go109, ((ji106) : Int).toNat * 4 + 2, none⟩ = false := hfr110 2; have hf110_3 : w116.frozen? ⟨go109, ((ji106) : Int).toNat * 4 + 3, none⟩ = false := hfr110 3; clear hcl110 hcc110 hfr110 hM110; replace p110 := eq_true p110; replace q110 := eq_true q110; have HX117 := Za.mk (show Kd.R k54 54 w116 w0.heap.size (fun k_ => (P0_ k_ ∨ w.heap.size ≤ k_)) (.slice (some ⟨go109, 0, none⟩) l0.length co14) y598 from (by (with_reducible repeat (first | apply Kd.Zs | apply Kd.Zt | apply Kd.Zr)); exact HO0.out)); obtain ⟨ce117, hcl117, hM117, hcc117, hfr117⟩ := Kd.R_elem HX117.out z54 ((ji106) : Int) (of_decide_eq_true (by assumption)) (by have h_ : ((ji106) : Int) < ((l0.length : Int) : Int) := of_decide_eq_true (by assumption); first | exact h_ | (have e_ := (Kd.Zag HO0.out).1; omega) | simpa using h_); obtain rfl := Zba hM117; have HP117 := Kd.R_seg HX117.out ((ji106) : Int) (of_decide_eq_true (by assumption)) (by have h_ : ((ji106) : Int) < ((l0.length : Int) : Int) := of_decide_eq_true (by assumption); first | exact h_ | (have e_ := (Kd.Zag HO0.out).1; omega) | simpa using h_) (seg := [.int .u32 ((wrap64 (31 + (Int.tmod t582 3))) % 4294967296)]) (j := 3) hcl117 hcc117 (show 4 ≤ 4 from by decide) (x' := (⟨(Zb y598 (ji106)).f0, (Zb y598 (ji106)).f1, (Zb y598 (ji106)).f2, (wrap64 (31 + (Int.tmod t582 3))) % 4294967296⟩ : S54)) (k54_mkM _ _ _ (⟨(Zb y598 (ji106)).f0, (Zb y598 (ji106)).f1, (Zb y598 (ji106)).f2, (wrap64 (31 + (Int.tmod t582 3))) % 4294967296⟩ : S54) ) (fun _ hk => hk); have hx117_3 := hcc117 3 _ rfl; (try simp only [show (k54).sz = 4 from rfl, Nat.mul_one, Nat.add_zero] at hx117_3); have hf117_3 := hfr117 3; (try simp only [show (k54).sz = 4 from rfl, Nat.mul_one, Nat.add_zero] at hf117_3); clear hcl117 hcc117 hfr117 hM117) | ((with_reducible refine Zby (t := 42) (p := 139) rfl ?_); refine Zbx (t := 42) (p := 139) (v := ?vo_w118) (w1 := (w116.setCell ⟨go109, ((ji106) : Int).toNat * 4 + 3, none⟩ (.int .u32 ((wrap64 (31 + (Int.tmod t582 3))) % 4294967296)))) ?hg ?ho ?hn ?hr ?_; (case ho => rfl); (case hg => rfl); (case hn => rfl); (case hr => first | (go_simp; done) | (go_simp; rfl)); intro w118 hw; have hg : w116.grownBy w118 (some go109) := (by rw [hw]; exact HP117.2); have hp_ : Kd.R k54 54 w118 w0.heap.size (fun k_ => (P0_ k_ ∨ w.heap.size ≤ k_)) (.slice (some ⟨go109, 0, none⟩) l0.length co14) y599 := (by rw [hw, Ny599.out]; exact HP117.1); clear HP117; replace HI1 := Za.mk (Zc.grown (by repeat (first | (with_reducible first | exact HI1.out | apply Zc.alloc | apply Zc.drewN | apply Zc.drew | apply Zc.Zv) | exact HI1.out)) hg (Zc.own_ne HI1.out HO0.out (by decide))); replace HB := Za.mk ((by rw [hw]; exact Zk (HB.out) GB109.out : Below w0.heap.size w0 w118)); replace HK := Za.mk (Kept.Zbn (S := (fun k_ => (P0_ k_) ∨ k_ = g)) hg (by repeat (first | (with_reducible first | exact HK.out | apply Kept.alloc | apply Kept.drewN | apply Kept.drew | refine Kept.setCell ?_ (.inl (.inr rfl)) _) | exact HK.out)) (fun k_ e_ => Or.imp_left Or.inl ((HO0.out.1 k_ e_)))); replace HO0 := Za.mk (hp_); clear hg hw hp_))
            go_ret
            exact ⟨_, by first | rfl | (simp [Zo, Zp] <;> rfl) | (simp only [← hji106]; first | rfl | (simp [Zo, Zp] <;> rfl)) | (simp [*, Zo, Zp] <;> rfl), by (with_reducible repeat (first | apply Kd.Zs | apply Kd.Zt | apply Kd.Zr)); exact HO0.out, by repeat (first | (with_reducible first | exact HI1.out | apply Zc.alloc | apply Zc.drewN | apply Zc.drew | apply Zc.Zv) | exact HI1.out), by repeat (first | (with_reducible first | exact HB.out | apply Ze | apply Zf | apply Zd | refine Zk ?_ (Zc.ge HI1.out)) | exact HB.out), by repeat (first | (with_reducible first | exact HK.out | apply Kept.alloc | apply Kept.drewN | apply Kept.drew | refine Kept.setCell ?_ (.inl (.inr rfl)) _) | exact HK.out)⟩
           ·rw [if_neg c108] at H
            exact absurd H (by simp)
          ·rw [if_neg c107] at H
           exact absurd H (by simp)
         ·rw [if_neg c105] at H
          have c105b0 : ((Int.tmod t578 10) == 7) = false := beq_eq_false_iff_ne.mpr c105
          have c105b1 : ((Int.tmod t578 10) != 7) = true := bne_iff_ne.mpr c105
          by_cases c119 : (Int.tmod t578 10) = 8
          ·rw [if_pos c119] at H
           have c119b0 : ((Int.tmod t578 10) == 8) = true := beq_iff_eq.mpr c119
           have c119b1 : ((Int.tmod t578 10) != 8) = false := bne_eq_false_iff_eq.mpr c119
           clear c119
           obtain ⟨ji120, hji120⟩ : ∃ j_ : Int, (wrap64 ((l0.length : Int) - 1)) = j_ := ⟨_, rfl⟩
           replace H : (if 0 ≤ (ji120) then (if (ji120) < (l0.length : Int) then (some ((l0.set ((ji120) : Int).toNat (⟨IntKind.u16.wrap (Int.tmod t582 32), (Zb l0 (ji120)).f1, (Zb l0 (ji120)).f2, (Zb l0 (ji120)).f3⟩ : S54)), t583)) else (none)) else (none)) = some (r1, r2) := by first | (rw [hji120] at H; exact H) | (simp only [hji120] at H ⊢; exact H)
           (try rw [hji120] at A3)
           (try rw [hji120] at A4)
           (try rw [hji120] at A6)
           have hji120w : (IntKind.i64.wrap ((l0.length : Int) - 1)) = ji120 := (Zn _).trans hji120
           by_cases c121 : 0 ≤ (ji120)
           ·rw [if_pos c121] at H
            have c121b0 : decide (0 ≤ (ji120)) = true := decide_eq_true c121
            clear c121
            by_cases c122 : (ji120) < (l0.length : Int)
            ·rw [if_pos c122] at H
             have c122b0 : decide ((ji120) < (l0.length : Int)) = true := decide_eq_true c122
             clear c122
             obtain ⟨y600, hy600⟩ : ∃ y_ : List (S54), y_ = (l0.set ((ji120) : Int).toNat (⟨IntKind.u16.wrap (Int.tmod t582 32), (Zb l0 (ji120)).f1, (Zb l0 (ji120)).f2, (Zb l0 (ji120)).f3⟩ : S54)) := ⟨_, rfl⟩
             replace H : (some (y600, t583)) = some (r1, r2) := by first | (rw [hy600]; with_reducible exact H) | (have H2_ := (Option.bind_some _ _).symm.trans H; rw [hy600]; with_reducible exact H2_) | (have H2_ := (Option.bind_some _ _).symm.trans H; with_reducible exact H2_) | with_reducible exact H | (rw [hy600]; exact H) | exact H
             have Ny600 := Za.mk hy600
             clear hy600
             simp only [Option.some.injEq, Prod.mk.injEq] at H
             obtain ⟨rfl, rfl⟩ := H
             (try rw [c7b0])
             have p123 : 0 ≤ ((ji120) : Int) := of_decide_eq_true (by assumption)
             have q123 : ((ji120) : Int) < ((l0.length : Int) : Int) := of_decide_eq_true (by assumption)
             obtain ⟨go123, co123, eo123, gb123, gl123, cl123, HG123⟩ := Kd.R_form HO0.out (by omega)
             (first | cases eo123 | (injection eo123 with ea_ en_ ec_; (first | subst ea_ | (injection ea_ with ea_; subst ea_)); subst ec_; clear en_))
             have GB123 := Za.mk gb123
             have GG123 := Za.mk HG123
             clear gb123 gl123 HG123
             have HMgo123 := Za.mk (show (P0_ go123 ∨ w.heap.size ≤ go123) from (HO0.out.1 _ rfl))
             obtain ⟨ce123, hcl123, hM123, hcc123, hfr123⟩ := Kd.R_elem HO0.out z54 ((ji120) : Int) p123 q123
             obtain rfl := Zba hM123
             have hx123_0 : w15.cell? ⟨go123, ((ji120) : Int).toNat * 4, none⟩ = some (.int .u16 ((Zb l0 (ji120)).f0)) := hcc123 0 _ rfl
             have hx123_1 : w15.cell? ⟨go123, ((ji120) : Int).toNat * 4 + 1, none⟩ = some (.int .u8 ((Zb l0 (ji120)).f1)) := hcc123 1 _ rfl
             have hx123_2 : w15.cell? ⟨go123, ((ji120) : Int).toNat * 4 + 2, none⟩ = some (.int .u8 ((Zb l0 (ji120)).f2)) := hcc123 2 _ rfl
             have hx123_3 : w15.cell? ⟨go123, ((ji120) : Int).toNat * 4 + 3, none⟩ = some (.int .u32 ((Zb l0 (ji120)).f3)) := hcc123 3 _ rfl
             have hf123_0 : w15.frozen? ⟨go123, ((ji120) : Int).toNat * 4, none⟩ = false := hfr123 0
             have hf123_1 : w15.frozen? ⟨go123, ((ji120) : Int).toNat * 4 + 1, none⟩ = false := hfr123 1
             have hf123_2 : w15.frozen? ⟨go123, ((ji120) : Int).toNat * 4 + 2, none⟩ = false := hfr123 2
             have hf123_3 : w15.frozen? ⟨go123, ((ji120) : Int).toNat * 4 + 3, none⟩ = false := hfr123 3
             clear hcl123 hcc123 hfr123 hM123
             replace p123 := eq_true p123
             replace q123 := eq_true q123
             have HX128 := Za.mk (show Kd.R k54 54 w15 w0.heap.size (fun k_ => (P0_ k_ ∨ w.heap.size ≤ k_)) (.slice (some ⟨go123, 0, none⟩) l0.length co14) l0 from (by (with_reducible repeat (first | apply Kd.Zs | apply Kd.Zt | apply Kd.Zr)); exact HO0.out))
             obtain ⟨ce128, hcl128, hM128, hcc128, hfr128⟩ := Kd.R_elem HX128.out z54 ((ji120) : Int) (of_decide_eq_true (by assumption)) (by have h_ : ((ji120) : Int) < ((l0.length : Int) : Int) := of_decide_eq_true (by assumption); first | exact h_ | (have e_ := (Kd.Zag HO0.out).1; omega) | simpa using h_)
             obtain rfl := Zba hM128
             have HP128 := Kd.R_seg HX128.out ((ji120) : Int) (of_decide_eq_true (by assumption)) (by have h_ : ((ji120) : Int) < ((l0.length : Int) : Int) := of_decide_eq_true (by assumption); first | exact h_ | (have e_ := (Kd.Zag HO0.out).1; omega) | simpa using h_) (seg := [.int .u16 (IntKind.u16.wrap (Int.tmod t582 32))]) (j := 0) hcl128 hcc128 (show 1 ≤ 4 from by decide) (x' := (⟨IntKind.u16.wrap (Int.tmod t582 32), (Zb l0 (ji120)).f1, (Zb l0 (ji120)).f2, (Zb l0 (ji120)).f3⟩ : S54)) (k54_mkM _ _ _ (⟨IntKind.u16.wrap (Int.tmod t582 32), (Zb l0 (ji120)).f1, (Zb l0 (ji120)).f2, (Zb l0 (ji120)).f3⟩ : S54) ) (fun _ hk => hk)
             have hx128_0 := hcc128 0 _ rfl
             (try simp only [show (k54).sz = 4 from rfl, Nat.mul_one, Nat.add_zero] at hx128_0)
             have hf128_0 := hfr128 0
             (try simp only [show (k54).sz = 4 from rfl, Nat.mul_one, Nat.add_zero] at hf128_0)
             clear hcl128 hcc128 hfr128 hM128
             go_wp2_with (first | ((with_reducible refine Zby (t := 52) (p := 149) rfl ?_); refine Zbx (t := 52) (p := 149) (v := ?vo_w129) (w1 := (w15.setCell ⟨go123, ((ji120) : Int).toNat * 4, none⟩ (.int .u16 (IntKind.u16.wrap (Int.tmod t582 32))))) ?hg ?ho ?hn ?hr ?_; (case ho => rfl); (case hg => rfl); (case hn => rfl); (case hr => first | (go_simp; done) | (go_simp; rfl)); intro w129 hw; have hg : w15.grownBy w129 (some go123) := (by rw [hw]; exact HP128.2); have hp_ : Kd.R k54 54 w129 w0.heap.size (fun k_ => (P0_ k_ ∨ w.heap.size ≤ k_)) (.slice (some ⟨go123, 0, none⟩) l0.length co14) y600 := (by rw [hw, Ny600.out]; exact HP128.1); clear HP128; replace HI1 := Za.mk (Zc.grown (by repeat (first | (with_reducible first | exact HI1.out | apply Zc.alloc | apply Zc.drewN | apply Zc.drew | apply Zc.Zv) | exact HI1.out)) hg (Zc.own_ne HI1.out HO0.out (by decide))); replace HB := Za.mk ((by rw [hw]; exact Zk (HB.out) GB123.out : Below w0.heap.size w0 w129)); replace HK := Za.mk (Kept.Zbn (S := (fun k_ => (P0_ k_) ∨ k_ = g)) hg (by repeat (first | (with_reducible first | exact HK.out | apply Kept.alloc | apply Kept.drewN | apply Kept.drew | refine Kept.setCell ?_ (.inl (.inr rfl)) _) | exact HK.out)) (fun k_ e_ => Or.imp_left Or.inl ((HO0.out.1 k_ e_)))); replace HO0 := Za.mk (hp_); clear hg hw hp_))
             go_ret
             exact ⟨_, by first | rfl | (simp [Zo, Zp] <;> rfl) | (simp only [← hji120]; first | rfl | (simp [Zo, Zp] <;> rfl)) | (simp [*, Zo, Zp] <;> rfl), by (with_reducible repeat (first | apply Kd.Zs | apply Kd.Zt | apply Kd.Zr)); exact HO0.out, by repeat (first | (with_reducible first | exact HI1.out | apply Zc.alloc | apply Zc.drewN | apply Zc.drew | apply Zc.Zv) | exact HI1.out), by repeat (first | (with_reducible first | exact HB.out | apply Ze | apply Zf | apply Zd | refine Zk ?_ (Zc.ge HI1.out)) | exact HB.out), by repeat (first | (with_reducible first | exact HK.out | apply Kept.alloc | apply Kept.drewN | apply Kept.drew | refine Kept.setCell ?_ (.inl (.inr rfl)) _) | exact HK.out)⟩
            ·rw [if_neg c122] at H
             exact absurd H (by simp)
           ·rw [if_neg c121] at H
            exact absurd H (by simp)
          ·rw [if_neg c119] at H
           have c119b0 : ((Int.tmod t578 10) == 8) = false := beq_eq_false_iff_ne.mpr c119
           have c119b1 : ((Int.tmod t578 10) != 8) = true := bne_iff_ne.mpr c119
           obtain ⟨ji130, hji130⟩ : ∃ j_ : Int, (Int.tmod t580 (l0.length : Int)) = j_ := ⟨_, rfl⟩
           replace H : (if 0 ≤ (ji130) then (if (ji130) < (l0.length : Int) then (some ((l0.set ((ji130) : Int).toNat (⟨IntKind.u16.wrap (((Zb l0 (ji130)).f0) + 256), (Zb l0 (ji130)).f1, (Zb l0 (ji130)).f2, (Zb l0 (ji130)).f3⟩ : S54)), t583)) else (none)) else (none)) = some (r1, r2) := by first | (rw [hji130] at H; exact H) | (simp only [hji130] at H ⊢; exact H)
           (try rw [hji130] at A3)
           (try rw [hji130] at A4)
           (try rw [hji130] at A6)
           by_cases c131 : 0 ≤ (ji130)
           ·rw [if_pos c131] at H
            have c131b0 : decide (0 ≤ (ji130)) = true := decide_eq_true c131
            clear c131
            by_cases c132 : (ji130) < (l0.length : Int)
            ·rw [if_pos c132] at H
             have c132b0 : decide ((ji130) < (l0.length : Int)) = true := decide_eq_true c132
             clear c132
             obtain ⟨y602, hy602⟩ : ∃ y_ : List (S54), y_ = (l0.set ((ji130) : Int).toNat (⟨IntKind.u16.wrap (((Zb l0 (ji130)).f0) + 256), (Zb l0 (ji130)).f1, (Zb l0 (ji130)).f2, (Zb l0 (ji130)).f3⟩ : S54)) := ⟨_, rfl⟩
             replace H : (some (y602, t583)) = some (r1, r2) := by first | (rw [hy602]; with_reducible exact H) | (have H2_ := (Option.bind_some _ _).symm.trans H; rw [hy602]; with_reducible exact H2_) | (have H2_ := (Option.bind_some _ _).symm.trans H; with_reducible exact H2_) | with_reducible exact H | (rw [hy602]; exact H) | exact H
             have Ny602 := Za.mk hy602
             clear hy602
             simp only [Option.some.injEq, Prod.mk.injEq] at H
             obtain ⟨rfl, rfl⟩ := H
             (try rw [c7b0])
             have p601 : 0 ≤ ((ji130) : Int) := of_decide_eq_true (by assumption)
             have q601 : (ji130) < (l0.length : Int) := of_decide_eq_true (by assumption)
             obtain ⟨ad601, e601, hx601_0, hx601_1, hx601_2, hx601_3⟩ := at_T54 (Kd.Zag HO0.out).2.2 (ji130) p601 q601
             cases e601
             replace p601 := eq_true p601
             replace q601 := eq_true q601
             have p133 : 0 ≤ ((ji130) : Int) := of_decide_eq_true (by assumption)
             have q133 : ((ji130) : Int) < ((l0.length : Int) : Int) := of_decide_eq_true (by assumption)
             obtain ⟨go133, co133, eo133, gb133, gl133, cl133, HG133⟩ := Kd.R_form HO0.out (by omega)
             (first | cases eo133 | (injection eo133 with ea_ en_ ec_; (first | subst ea_ | (injection ea_ with ea_; subst ea_)); subst ec_; clear en_))
             have GB133 := Za.mk gb133
             have GG133 := Za.mk HG133
             clear gb133 gl133 HG133
             have HMgo133 := Za.mk (show (P0_ go133 ∨ w.heap.size ≤ go133) from (HO0.out.1 _ rfl))
             (first | simp only [add_plain] at hx601_0 | skip)
             (first | simp only [add_plain] at hx601_1 | skip)
             (first | simp only [add_plain] at hx601_2 | skip)
             (first | simp only [add_plain] at hx601_3 | skip)
             obtain ⟨ce133, hcl133, hM133, hcc133, hfr133⟩ := Kd.R_elem HO0.out z54 ((ji130) : Int) p133 q133
             obtain rfl := Zba hM133
             have hx133_0 : w15.cell? ⟨go133, ((ji130) : Int).toNat * 4, none⟩ = some (.int .u16 ((Zb l0 (ji130)).f0)) := hcc133 0 _ rfl
             have hx133_1 : w15.cell? ⟨go133, ((ji130) : Int).toNat * 4 + 1, none⟩ = some (.int .u8 ((Zb l0 (ji130)).f1)) := hcc133 1 _ rfl
             have hx133_2 : w15.cell? ⟨go133, ((ji130) : Int).toNat * 4 + 2, none⟩ = some (.int .u8 ((Zb l0 (ji130)).f2)) := hcc133 2 _ rfl
             have hx133_3 : w15.cell? ⟨go133, ((ji130) : Int).toNat * 4 + 3, none⟩ = some (.int .u32 ((Zb l0 (ji130)).f3)) := hcc133 3 _ rfl
             have hf133_0 : w15.frozen? ⟨go133, ((ji130) : Int).toNat * 4, none⟩ = false := hfr133 0
             have hf133_1 : w15.frozen? ⟨go133, ((ji130) : Int).toNat * 4 + 1, none⟩ = false := hfr133 1
             have hf133_2 : w15.frozen? ⟨go133, ((ji130) : Int).toNat * 4 + 2, none⟩ = false := hfr133 2
             have hf133_3 : w15.frozen? ⟨go133, ((ji130) : Int).toNat * 4 + 3, none⟩ = false := hfr133 3
             clear hcl133 hcc133 hfr133 hM133
             replace p133 := eq_true p133
             replace q133 := eq_true q133
             have HX138 := Za.mk (show Kd.R k54 54 w15 w0.heap.size (fun k_ => (P0_ k_ ∨ w.heap.size ≤ k_)) (.slice (some ⟨go133, 0, none⟩) l0.length co14) l0 from (by (with_reducible repeat (first | apply Kd.Zs | apply Kd.Zt | apply Kd.Zr)); exact HO0.out))
             obtain ⟨ce138, hcl138, hM138, hcc138, hfr138⟩ := Kd.R_elem HX138.out z54 ((ji130) : Int) (of_decide_eq_true (by assumption)) (by have h_ : ((ji130) : Int) < ((l0.length : Int) : Int) := of_decide_eq_true (by assumption); first | exact h_ | (have e_ := (Kd.Zag HO0.out).1; omega) | simpa using h_)
             obtain rfl := Zba hM138
             have HP138 := Kd.R_seg HX138.out ((ji130) : Int) (of_decide_eq_true (by assumption)) (by have h_ : ((ji130) : Int) < ((l0.length : Int) : Int) := of_decide_eq_true (by assumption); first | exact h_ | (have e_ := (Kd.Zag HO0.out).1; omega) | simpa using h_) (seg := [.int .u16 (IntKind.u16.wrap (((Zb l0 (ji130)).f0) + 256))]) (j := 0) hcl138 hcc138 (show 1 ≤ 4 from by decide) (x' := (⟨IntKind.u16.wrap (((Zb l0 (ji130)).f0) + 256), (Zb l0 (ji130)).f1, (Zb l0 (ji130)).f2, (Zb l0 (ji130)).f3⟩ : S54)) (k54_mkM _ _ _ (⟨IntKind.u16.wrap (((Zb l0 (ji130)).f0) + 256), (Zb l0 (ji130)).f1, (Zb l0 (ji130)).f2, (Zb l0 (ji130)).f3⟩ : S54) ) (fun _ hk => hk)
             have hx138_0 := hcc138 0 _ rfl
             (try simp only [show (k54).sz = 4 from rfl, Nat.mul_one, Nat.add_zero] at hx138_0)
             have hf138_0 := hfr138 0
             (try simp only [show (k54).sz = 4 from rfl, Nat.mul_one, Nat.add_zero] at hf138_0)
             clear hcl138 hcc138 hfr138 hM138
             go_wp2_with (first | ((with_reducible refine Zby (t := 52) (p := 159) rfl ?_); refine Zbx (t := 52) (p := 159) (v := ?vo_w139) (w1 := (w15.setCell ⟨go133, ((ji130) : Int).toNat * 4, none⟩ (.int .u16 (IntKind.u16.wrap (((Zb l0 (ji130)).f0) + 256))))) ?hg ?ho ?hn ?hr ?_; (case ho => rfl); (case hg => rfl); (case hn => rfl); (case hr => first | (go_simp; done) | (go_simp; rfl)); intro w139 hw; have hg : w15.grownBy w139 (some go133) := (by rw [hw]; exact HP138.2); have hp_ : Kd.R k54 54 w139 w0.heap.size (fun k_ => (P0_ k_ ∨ w.heap.size ≤ k_)) (.slice (some ⟨go133, 0, none⟩) l0.length co14) y602 := (by rw [hw, Ny602.out]; exact HP138.1); clear HP138; replace HI1 := Za.mk (Zc.grown (by repeat (first | (with_reducible first | exact HI1.out | apply Zc.alloc | apply Zc.drewN | apply Zc.drew | apply Zc.Zv) | exact HI1.out)) hg (Zc.own_ne HI1.out HO0.out (by decide))); replace HB := Za.mk ((by rw [hw]; exact Zk (HB.out) GB133.out : Below w0.heap.size w0 w139)); replace HK := Za.mk (Kept.Zbn (S := (fun k_ => (P0_ k_) ∨ k_ = g)) hg (by repeat (first | (with_reducible first | exact HK.out | apply Kept.alloc | apply Kept.drewN | apply Kept.drew | refine Kept.setCell ?_ (.inl (.inr rfl)) _) | exact HK.out)) (fun k_ e_ => Or.imp_left Or.inl ((HO0.out.1 k_ e_)))); replace HO0 := Za.mk (hp_); clear hg hw hp_))
             go_ret
             exact ⟨_, by first | rfl | (simp [Zo, Zp] <;> rfl) | (simp only [← hji130]; first | rfl | (simp [Zo, Zp] <;> rfl)) | (simp [*, Zo, Zp] <;> rfl), by (with_reducible repeat (first | apply Kd.Zs | apply Kd.Zt | apply Kd.Zr)); exact HO0.out, by repeat (first | (with_reducible first | exact HI1.out | apply Zc.alloc | apply Zc.drewN | apply Zc.drew | apply Zc.Zv) | exact HI1.out), by repeat (first | (with_reducible first | exact HB.out | apply Ze | apply Zf | apply Zd | refine Zk ?_ (Zc.ge HI1.out)) | exact HB.out), by repeat (first | (with_reducible first | exact HK.out | apply Kept.alloc | apply Kept.drewN | apply Kept.drew | refine Kept.setCell ?_ (.inl (.inr rfl)) _) | exact HK.out)⟩
            ·rw [if_neg c132] at H
             exact absurd H (by simp)
           ·rw [if_neg c131] at H
            exact absurd H (by simp)

end Go.Proofs.Ytgodbniphkfgfaa.P
