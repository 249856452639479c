import Derived.Test.YtdipinclchkhjaaGFnCover1
import Derived.Test.YtdipinclchkhjaaGFnCover4
import Derived.Test.YtdipinclchkhjaaGFnCover5
namespace Go.Proofs.Ytdipinclchkhjaa.P
open Go.RowKit Go.Proofs.YtdipinclchkhjaaW.PrintWords Go.Proofs.YtdipinclchkhjaaW.PrintLast Go.Proofs.YtdipinclchkhjaaW.PrintMore
attribute [local go_sem] max2_int min2_int max_two min_two max_three min_three max_four min_four   -- for this text's walks alone
set_option linter.unusedVariables false
set_option linter.unusedSimpArgs false

/-! ### spec_DrawCover: function 35 -/
mutual
def spec_DrawCover.l0 : Nat → Int → Int → Int → Int → List Int → Int → List Int → Int → Option (List Int × Int)
  | 0, _, _, _, _, _, _, _, _ => none
  | k + 1, x5, x6, x7, x8, x9, x10, x447000, x447001 => if x10 < x7 then (if 0 ≤ (wrap64 (x10 - 1)) then (if (wrap64 (x10 - 1)) < (x9.length : Int) then ((spec_l2near.f (rd x9 (wrap64 (x10 - 1))) x447000 x447001).bind fun bt459 => (if x9.length < 17592186044416 then (spec_DrawCover.l0 k x5 x6 x7 x8 (x9 ++ [bt459.1]) (wrap64 (x10 + 1)) x447000 bt459.2) else (none))) else (none)) else (none)) else (if x5 = 1 then (spec_DrawCover.j1 k x5 3 x7 x8 x9 x447000 x447001) else (spec_DrawCover.j1 k x5 x6 x7 x8 x9 x447000 x447001))
def spec_DrawCover.j1 : Nat → Int → Int → Int → Int → List Int → List Int → Int → Option (List Int × Int)
  | 0, _, _, _, _, _, _, _ => none
  | k + 1, x5, x6, x7, x8, x9, x447000, x447001 => if x5 = 2 then (spec_DrawCover.j2 k x5 (-1) x7 x8 x9 x447000 x447001) else (spec_DrawCover.j2 k x5 x6 x7 x8 x9 x447000 x447001)
def spec_DrawCover.j2 : Nat → Int → Int → Int → Int → List Int → List Int → Int → Option (List Int × Int)
  | 0, _, _, _, _, _, _, _ => none
  | k + 1, x5, x6, x7, x8, x9, x447000, x447001 => if x5 = 3 then ((spec_l1rd_next.f x447000 x447001).bind fun bt464 => ((spec_l3low.f (wrap64 (1 + (Int.tmod bt464.1 4)))).bind fun t466 => (spec_DrawCover.l1 k x5 x6 x7 ([] : List Int) (wrap64 (1 + (Int.tmod bt464.1 4))) (Go.bits .andNot .u64 x8 t466) 0))) else (if x5 = 4 then (if x9.length < 17592186044416 then ((some (x9 ++ [0] : List Int)).bind fun y485 => (if y485.length < 17592186044416 then (some ((y485 ++ [18446744073709551615]), x6)) else (none))) else (none)) else (some (x9, x6)))
def spec_DrawCover.l1 : Nat → Int → Int → Int → List Int → Int → Int → Int → Option (List Int × Int)
  | 0, _, _, _, _, _, _, _ => none
  | k + 1, x5, x6, x7, x9, x11, x12, x13 => if 0 ≤ (IntKind.u64.wrap (x11)) then (if x13 < (shl .i64 1 (IntKind.u64.wrap (x11))) then (if (shl .i64 1 (IntKind.u64.wrap (x11))) = 0 then (none) else (if x9.length < 17592186044416 then (spec_DrawCover.l1 k x5 x6 x7 (x9 ++ [IntKind.u64.wrap (x12 + (IntKind.u64.wrap (Int.tmod (wrap64 ((wrap64 (x13 * 3)) + x7)) (shl .i64 1 (IntKind.u64.wrap (x11))))))]) x11 x12 (wrap64 (x13 + 1))) else (none))) else (if x7 = 2 then (if 1 ≤ (x9.length : Int) then ((some (x9.drop (1 : Int).toNat : List Int)).bind fun y470 => (if x5 = 4 then (if y470.length < 17592186044416 then ((some (y470 ++ [0] : List Int)).bind fun y473 => (if y473.length < 17592186044416 then (some ((y473 ++ [18446744073709551615]), x6)) else (none))) else (none)) else (some (y470, x6)))) else (none)) else (if x5 = 4 then (if x9.length < 17592186044416 then ((some (x9 ++ [0] : List Int)).bind fun y479 => (if y479.length < 17592186044416 then (some ((y479 ++ [18446744073709551615]), x6)) else (none))) else (none)) else (some (x9, x6))))) else (none)
end
def spec_DrawCover.f (k : Nat) (l0 : List Int) : Option (List Int × Int) := (spec_l1open.f l0).bind fun bt444 => ((spec_l1rd_next.f bt444.1 bt444.2).bind fun bt447 => ((spec_l1rd_next.f bt444.1 bt447.2).bind fun bt449 => (if (Int.tmod bt447.1 12) = 0 then (some (([] : List Int), Int.tmod bt449.1 3)) else ((spec_l1rd_next.f bt444.1 bt449.2).bind fun bt451 => ((spec_l2drawArg.f bt444.1 bt451.2).bind fun bt453 => (spec_DrawCover.l0 k (Int.tmod bt447.1 12) (Int.tmod bt449.1 3) (wrap64 (1 + (Int.tmod bt451.1 6))) bt453.1 (([bt453.1] : List Int)) 1 bt444.1 bt453.2))))))
theorem spec_DrawCover.mono_l : ∀ k, (∀ y0 y1 y2 y3 y4 y5 y6 y7, LeO (spec_DrawCover.l0 k y0 y1 y2 y3 y4 y5 y6 y7) (spec_DrawCover.l0 (k + 1) y0 y1 y2 y3 y4 y5 y6 y7)) ∧ (∀ y0 y1 y2 y3 y4 y5 y6, LeO (spec_DrawCover.j1 k y0 y1 y2 y3 y4 y5 y6) (spec_DrawCover.j1 (k + 1) y0 y1 y2 y3 y4 y5 y6)) ∧ (∀ y0 y1 y2 y3 y4 y5 y6, LeO (spec_DrawCover.j2 k y0 y1 y2 y3 y4 y5 y6) (spec_DrawCover.j2 (k + 1) y0 y1 y2 y3 y4 y5 y6)) ∧ (∀ y0 y1 y2 y3 y4 y5 y6, LeO (spec_DrawCover.l1 k y0 y1 y2 y3 y4 y5 y6) (spec_DrawCover.l1 (k + 1) y0 y1 y2 y3 y4 y5 y6))
  | 0 => ⟨fun _ _ _ _ _ _ _ _ r h => by simp [spec_DrawCover.l0] at h, fun _ _ _ _ _ _ _ r h => by simp [spec_DrawCover.j1] at h, fun _ _ _ _ _ _ _ r h => by simp [spec_DrawCover.j2] at h, fun _ _ _ _ _ _ _ r h => by simp [spec_DrawCover.l1] at h⟩
  | k + 1 => by
    obtain ⟨ih0, ih1, ih2, ih3⟩ := spec_DrawCover.mono_l k
    refine ⟨?_, ?_, ?_, ?_⟩
    · intro y0 y1 y2 y3 y4 y5 y6 y7
      unfold spec_DrawCover.l0
      repeat' first
      | (with_reducible exact ih0 _ _ _ _ _ _ _ _)
      | (with_reducible exact ih1 _ _ _ _ _ _ _)
      | (with_reducible exact ih2 _ _ _ _ _ _ _)
      | (with_reducible exact ih3 _ _ _ _ _ _ _)
      | (with_reducible exact LeO.refl _)
      | (with_reducible exact LeO.none _)
      | (with_reducible refine LeO.ite ?_ ?_)
      | (with_reducible refine LeO.bind ?_ (fun _ => ?_))
      | exact ih0 _ _ _ _ _ _ _ _
      | exact ih1 _ _ _ _ _ _ _
      | exact ih2 _ _ _ _ _ _ _
      | exact ih3 _ _ _ _ _ _ _
      | exact LeO.none _
      | refine LeO.ite ?_ ?_
      | refine LeO.bind ?_ (fun _ => ?_)
    · intro y0 y1 y2 y3 y4 y5 y6
      unfold spec_DrawCover.j1
      repeat' first
      | (with_reducible exact ih0 _ _ _ _ _ _ _ _)
      | (with_reducible exact ih1 _ _ _ _ _ _ _)
      | (with_reducible exact ih2 _ _ _ _ _ _ _)
      | (with_reducible exact ih3 _ _ _ _ _ _ _)
      | (with_reducible exact LeO.refl _)
      | (with_reducible exact LeO.none _)
      | (with_reducible refine LeO.ite ?_ ?_)
      | (with_reducible refine LeO.bind ?_ (fun _ => ?_))
      | exact ih0 _ _ _ _ _ _ _ _
      | exact ih1 _ _ _ _ _ _ _
      | exact ih2 _ _ _ _ _ _ _
      | exact ih3 _ _ _ _ _ _ _
      | exact LeO.none _
      | refine LeO.ite ?_ ?_
      | refine LeO.bind ?_ (fun _ => ?_)
    · intro y0 y1 y2 y3 y4 y5 y6
      unfold spec_DrawCover.j2
      repeat' first
      | (with_reducible exact ih0 _ _ _ _ _ _ _ _)
      | (with_reducible exact ih1 _ _ _ _ _ _ _)
      | (with_reducible exact ih2 _ _ _ _ _ _ _)
      | (with_reducible exact ih3 _ _ _ _ _ _ _)
      | (with_reducible exact LeO.refl _)
      | (with_reducible exact LeO.none _)
      | (with_reducible refine LeO.ite ?_ ?_)
      | (with_reducible refine LeO.bind ?_ (fun _ => ?_))
      | exact ih0 _ _ _ _ _ _ _ _
      | exact ih1 _ _ _ _ _ _ _
      | exact ih2 _ _ _ _ _ _ _
      | exact ih3 _ _ _ _ _ _ _
      | exact LeO.none _
      | refine LeO.ite ?_ ?_
      | refine LeO.bind ?_ (fun _ => ?_)
    · intro y0 y1 y2 y3 y4 y5 y6
      unfold spec_DrawCover.l1
      repeat' first
      | (with_reducible exact ih0 _ _ _ _ _ _ _ _)
      | (with_reducible exact ih1 _ _ _ _ _ _ _)
      | (with_reducible exact ih2 _ _ _ _ _ _ _)
      | (with_reducible exact ih3 _ _ _ _ _ _ _)
      | (with_reducible exact LeO.refl _)
      | (with_reducible exact LeO.none _)
      | (with_reducible refine LeO.ite ?_ ?_)
      | (with_reducible refine LeO.bind ?_ (fun _ => ?_))
      | exact ih0 _ _ _ _ _ _ _ _
      | exact ih1 _ _ _ _ _ _ _
      | exact ih2 _ _ _ _ _ _ _
      | exact ih3 _ _ _ _ _ _ _
      | exact LeO.none _
      | refine LeO.ite ?_ ?_
      | refine LeO.bind ?_ (fun _ => ?_)
theorem spec_DrawCover.mono : ∀ a0 k, LeO (spec_DrawCover.f k a0) (spec_DrawCover.f (k + 1) a0) := by
  intro a0 k
  obtain ⟨ih0, ih1, ih2, ih3⟩ := spec_DrawCover.mono_l k
  unfold spec_DrawCover.f
  repeat' first
      | (with_reducible exact ih0 _ _ _ _ _ _ _ _)
      | (with_reducible exact ih1 _ _ _ _ _ _ _)
      | (with_reducible exact ih2 _ _ _ _ _ _ _)
      | (with_reducible exact ih3 _ _ _ _ _ _ _)
      | (with_reducible exact LeO.refl _)
      | (with_reducible exact LeO.none _)
      | (with_reducible refine LeO.ite ?_ ?_)
      | (with_reducible refine LeO.bind ?_ (fun _ => ?_))
      | exact ih0 _ _ _ _ _ _ _ _
      | exact ih1 _ _ _ _ _ _ _
      | exact ih2 _ _ _ _ _ _ _
      | exact ih3 _ _ _ _ _ _ _
      | exact LeO.none _
      | refine LeO.ite ?_ ?_
      | refine LeO.bind ?_ (fun _ => ?_)
set_option maxHeartbeats 8000000 in
set_option maxRecDepth 100000 in
theorem spec_DrawCover.calls (k : Nat) (A0 : Option Addr) (c0 : Nat) (l0 : List Int) (r1 : List Int) (r2 : Int) (w : World) (hr0 : Kd.C (Kd.int .u8) w A0 l0.length l0) (hc0 : l0.length ≤ c0) (h : spec_DrawCover.f k l0 = some (r1, r2)) :
    Calls Try.prog 35 #[.slice A0 l0.length c0] w fun e w' => ∃ v0_ : Value, e = .returned (.tuple #[v0_, .int .i64 r2]) ∧ Kd.Q (Kd.int .u64) 22 w' w.heap.size (fun _ => True) v0_ r1 ∧ Below w.heap.size w w' := by
  have HR0 := Aside0.mk hr0
  have HC0 := Aside0.mk hc0
  clear hr0 hc0
  have HB := Aside0.mk (Below.refl w.heap.size w)
  have H : ((spec_l1open.f l0).bind fun bt444 => ((spec_l1rd_next.f bt444.1 bt444.2).bind fun bt447 => ((spec_l1rd_next.f bt444.1 bt447.2).bind fun bt449 => (if (Int.tmod bt447.1 12) = 0 then (some (([] : List Int), Int.tmod bt449.1 3)) else ((spec_l1rd_next.f bt444.1 bt449.2).bind fun bt451 => ((spec_l2drawArg.f bt444.1 bt451.2).bind fun bt453 => (spec_DrawCover.l0 k (Int.tmod bt447.1 12) (Int.tmod bt449.1 3) (wrap64 (1 + (Int.tmod bt451.1 6))) bt453.1 (([bt453.1] : List Int)) 1 bt444.1 bt453.2))))))) = some (r1, r2) := h
  clear h
  replace H := Option.bind_eq_some_iff.mp H
  obtain ⟨⟨t444, t445⟩, A20, H⟩ := H
  replace H : ((spec_l1rd_next.f t444 t445).bind fun bt447 => ((spec_l1rd_next.f t444 bt447.2).bind fun bt449 => (if (Int.tmod bt447.1 12) = 0 then (some (([] : List Int), Int.tmod bt449.1 3)) else ((spec_l1rd_next.f t444 bt449.2).bind fun bt451 => ((spec_l2drawArg.f t444 bt451.2).bind fun bt453 => (spec_DrawCover.l0 k (Int.tmod bt447.1 12) (Int.tmod bt449.1 3) (wrap64 (1 + (Int.tmod bt451.1 6))) bt453.1 (([bt453.1] : List Int)) 1 t444 bt453.2)))))) = some (r1, r2) := H
  have A2 := Aside0.mk A20
  clear A20
  replace H := Option.bind_eq_some_iff.mp H
  obtain ⟨⟨t447, t448⟩, A30, H⟩ := H
  replace H : ((spec_l1rd_next.f t444 t448).bind fun bt449 => (if (Int.tmod t447 12) = 0 then (some (([] : List Int), Int.tmod bt449.1 3)) else ((spec_l1rd_next.f t444 bt449.2).bind fun bt451 => ((spec_l2drawArg.f t444 bt451.2).bind fun bt453 => (spec_DrawCover.l0 k (Int.tmod t447 12) (Int.tmod bt449.1 3) (wrap64 (1 + (Int.tmod bt451.1 6))) bt453.1 (([bt453.1] : List Int)) 1 t444 bt453.2))))) = some (r1, r2) := H
  have A3 := Aside0.mk A30
  clear A30
  replace H := Option.bind_eq_some_iff.mp H
  obtain ⟨⟨t449, t450⟩, A40, H⟩ := H
  replace H : (if (Int.tmod t447 12) = 0 then (some (([] : List Int), Int.tmod t449 3)) else ((spec_l1rd_next.f t444 t450).bind fun bt451 => ((spec_l2drawArg.f t444 bt451.2).bind fun bt453 => (spec_DrawCover.l0 k (Int.tmod t447 12) (Int.tmod t449 3) (wrap64 (1 + (Int.tmod bt451.1 6))) bt453.1 (([bt453.1] : List Int)) 1 t444 bt453.2)))) = some (r1, r2) := H
  have A4 := Aside0.mk A40
  clear A40
  by_cases c5 : (Int.tmod t447 12) = 0
  · rw [if_pos c5] at H
    have c5b0 : ((Int.tmod t447 12) == 0) = true := beq_iff_eq.mpr c5
    have c5b1 : ((Int.tmod t447 12) != 0) = false := bne_eq_false_iff_eq.mpr c5
    clear c5
    simp only [Option.some.injEq, Prod.mk.injEq] at H
    obtain ⟨rfl, rfl⟩ := H
    go_enter Try.func35, Try.ntmps35
    go_wp2_with (first | ((with_reducible refine gate_callee (f := 82) rfl ?_); refine goesL_ (some 15) rfl rfl Try.func82 (by kernel_rfl) rfl #[.slice A0 l0.length c0] rfl (by (try simp only [List.map_toArray, List.map_cons, List.map_nil]); first | done | rfl | (simp only [List.length_drop, List.length_take]; rfl)) ?_; (with_reducible refine (spec_l1open.calls _ _ l0 t444 t445 w _ ?side1 ?side2 ?side3 A2.out).mono ?_); (case side1 => repeat (first | (with_reducible first | exact HB.out | apply below_alloc | apply pw_below_drewN | apply below_drew1) | exact HB.out)); (case side2 => exact HR0.out); (case side3 => exact HC0.out); rintro e w6 ⟨g446, rfl, hi, hb, hb2⟩; refine ⟨_, rfl, ?_⟩; have n0_ := Aside0.mk (hb); have n1_ := Aside0.mk (hi); clear HB; have HB := n0_; have HI446 := n1_; clear n0_ n1_; (try clear hb); (try clear hb2); (try clear hk); (try clear hi)) | ((with_reducible refine gate_callee (f := 83) rfl ?_); refine goesL_ (some 17) rfl rfl Try.func83 (by kernel_rfl) rfl #[.pointer (some ⟨g446, 0, none⟩)] rfl (by (try simp only [List.map_toArray, List.map_cons, List.map_nil]); first | done | rfl | (simp only [List.length_drop, List.length_take]; rfl)) ?_; (with_reducible refine (spec_l1rd_next.calls g446 t444 t445 t447 t448 w _ ?side1 ?side2 A3.out).mono ?_); (case side1 => repeat (first | (with_reducible first | exact HI446.out | apply IsS175.alloc | apply IsS175.drewN | apply IsS175.drew | apply IsS175.set_1) | exact HI446.out)); (case side2 => repeat (first | (with_reducible first | exact HB.out | apply below_alloc | apply pw_below_drewN | apply below_drew1 | refine below_set ?_ (IsS175.ge HI446.out)) | exact HB.out)); rintro e w7 ⟨rfl, hi, hb, hk⟩; refine ⟨_, rfl, ?_⟩; have n0_ := Aside0.mk (hb); have n1_ := Aside0.mk (hi); clear HB; clear HI446; have HB := n0_; have HI446 := n1_; clear n0_ n1_; (try clear hb); (try clear hb2); (try clear hk); (try clear hi)) | ((with_reducible refine gate_callee (f := 83) rfl ?_); refine goesL_ (some 20) rfl rfl Try.func83 (by kernel_rfl) rfl #[.pointer (some ⟨g446, 0, none⟩)] rfl (by (try simp only [List.map_toArray, List.map_cons, List.map_nil]); first | done | rfl | (simp only [List.length_drop, List.length_take]; rfl)) ?_; (with_reducible refine (spec_l1rd_next.calls g446 t444 t448 t449 t450 w _ ?side1 ?side2 A4.out).mono ?_); (case side1 => repeat (first | (with_reducible first | exact HI446.out | apply IsS175.alloc | apply IsS175.drewN | apply IsS175.drew | apply IsS175.set_1) | exact HI446.out)); (case side2 => repeat (first | (with_reducible first | exact HB.out | apply below_alloc | apply pw_below_drewN | apply below_drew1 | refine below_set ?_ (IsS175.ge HI446.out)) | exact HB.out)); rintro e w8 ⟨rfl, hi, hb, hk⟩; refine ⟨_, rfl, ?_⟩; have n0_ := Aside0.mk (hb); have n1_ := Aside0.mk (hi); clear HB; clear HI446; have HB := n0_; have HI446 := n1_; clear n0_ n1_; (try clear hb); (try clear hb2); (try clear hk); (try clear hi)))
    go_ret2
    exact ⟨_, by first | rfl | (simp [errW_none, errW_some] <;> rfl) | (simp [*, errW_none, errW_some] <;> rfl), Kd.Q_of_R (by first | exact Kd.R_nil _ _ _ _ _ | exact Kd.N_nil _ _ _ _ _ | exact Kd.V_nil _ _ _ _ _ | exact Kd.Q_nil _ _ _ _ _ | exact Kd.S_nil _ _ _ _ _), by repeat (first | (with_reducible first | exact HB.out | apply below_alloc | apply pw_below_drewN | apply below_drew1 | refine below_set ?_ (IsS175.ge HI446.out)) | exact HB.out)⟩
  · rw [if_neg c5] at H
    have c5b0 : ((Int.tmod t447 12) == 0) = false := beq_eq_false_iff_ne.mpr c5
    have c5b1 : ((Int.tmod t447 12) != 0) = true := bne_iff_ne.mpr c5
    replace H := Option.bind_eq_some_iff.mp H
    obtain ⟨⟨t451, t452⟩, A90, H⟩ := H
    replace H : ((spec_l2drawArg.f t444 t452).bind fun bt453 => (spec_DrawCover.l0 k (Int.tmod t447 12) (Int.tmod t449 3) (wrap64 (1 + (Int.tmod t451 6))) bt453.1 (([bt453.1] : List Int)) 1 t444 bt453.2)) = some (r1, r2) := H
    have A9 := Aside0.mk A90
    clear A90
    replace H := Option.bind_eq_some_iff.mp H
    obtain ⟨⟨t453, t454⟩, A100, H⟩ := H
    replace H : (spec_DrawCover.l0 k (Int.tmod t447 12) (Int.tmod t449 3) (wrap64 (1 + (Int.tmod t451 6))) t453 (([t453] : List Int)) 1 t444 t454) = some (r1, r2) := H
    have A10 := Aside0.mk A100
    clear A100
    obtain ⟨y455, hy455⟩ : ∃ y_ : List Int, y_ = (([t453] : List Int)) := ⟨_, rfl⟩
    replace H : (spec_DrawCover.l0 k (Int.tmod t447 12) (Int.tmod t449 3) (wrap64 (1 + (Int.tmod t451 6))) t453 y455 1 t444 t454) = some (r1, r2) := by first | (rw [hy455]; with_reducible exact H) | (have H2_ := (Option.bind_some _ _).symm.trans H; rw [hy455]; with_reducible exact H2_) | (have H2_ := (Option.bind_some _ _).symm.trans H; with_reducible exact H2_) | with_reducible exact H | (rw [hy455]; exact H) | exact H
    have Ny455 := Aside0.mk hy455
    clear hy455
    have H' := Aside0.mk H
    clear H
    go_enter Try.func35, Try.ntmps35
    go_wp2_with (first | ((with_reducible refine gate_callee (f := 82) rfl ?_); refine goesL_ (some 15) rfl rfl Try.func82 (by kernel_rfl) rfl #[.slice A0 l0.length c0] rfl (by (try simp only [List.map_toArray, List.map_cons, List.map_nil]); first | done | rfl | (simp only [List.length_drop, List.length_take]; rfl)) ?_; (with_reducible refine (spec_l1open.calls _ _ l0 t444 t445 w _ ?side1 ?side2 ?side3 A2.out).mono ?_); (case side1 => repeat (first | (with_reducible first | exact HB.out | apply below_alloc | apply pw_below_drewN | apply below_drew1) | exact HB.out)); (case side2 => exact HR0.out); (case side3 => exact HC0.out); rintro e w11 ⟨g446, rfl, hi, hb, hb2⟩; refine ⟨_, rfl, ?_⟩; have n0_ := Aside0.mk (hb); have n1_ := Aside0.mk (hi); clear HB; have HB := n0_; have HI446 := n1_; clear n0_ n1_; (try clear hb); (try clear hb2); (try clear hk); (try clear hi)) | ((with_reducible refine gate_callee (f := 83) rfl ?_); refine goesL_ (some 17) rfl rfl Try.func83 (by kernel_rfl) rfl #[.pointer (some ⟨g446, 0, none⟩)] rfl (by (try simp only [List.map_toArray, List.map_cons, List.map_nil]); first | done | rfl | (simp only [List.length_drop, List.length_take]; rfl)) ?_; (with_reducible refine (spec_l1rd_next.calls g446 t444 t445 t447 t448 w _ ?side1 ?side2 A3.out).mono ?_); (case side1 => repeat (first | (with_reducible first | exact HI446.out | apply IsS175.alloc | apply IsS175.drewN | apply IsS175.drew | apply IsS175.set_1) | exact HI446.out)); (case side2 => repeat (first | (with_reducible first | exact HB.out | apply below_alloc | apply pw_below_drewN | apply below_drew1 | refine below_set ?_ (IsS175.ge HI446.out)) | exact HB.out)); rintro e w12 ⟨rfl, hi, hb, hk⟩; refine ⟨_, rfl, ?_⟩; have n0_ := Aside0.mk (hb); have n1_ := Aside0.mk (hi); clear HB; clear HI446; have HB := n0_; have HI446 := n1_; clear n0_ n1_; (try clear hb); (try clear hb2); (try clear hk); (try clear hi)) | ((with_reducible refine gate_callee (f := 83) rfl ?_); refine goesL_ (some 20) rfl rfl Try.func83 (by kernel_rfl) rfl #[.pointer (some ⟨g446, 0, none⟩)] rfl (by (try simp only [List.map_toArray, List.map_cons, List.map_nil]); first | done | rfl | (simp only [List.length_drop, List.length_take]; rfl)) ?_; (with_reducible refine (spec_l1rd_next.calls g446 t444 t448 t449 t450 w _ ?side1 ?side2 A4.out).mono ?_); (case side1 => repeat (first | (with_reducible first | exact HI446.out | apply IsS175.alloc | apply IsS175.drewN | apply IsS175.drew | apply IsS175.set_1) | exact HI446.out)); (case side2 => repeat (first | (with_reducible first | exact HB.out | apply below_alloc | apply pw_below_drewN | apply below_drew1 | refine below_set ?_ (IsS175.ge HI446.out)) | exact HB.out)); rintro e w13 ⟨rfl, hi, hb, hk⟩; refine ⟨_, rfl, ?_⟩; have n0_ := Aside0.mk (hb); have n1_ := Aside0.mk (hi); clear HB; clear HI446; have HB := n0_; have HI446 := n1_; clear n0_ n1_; (try clear hb); (try clear hb2); (try clear hk); (try clear hi)) | ((with_reducible refine gate_callee (f := 83) rfl ?_); refine goesL_ (some 26) rfl rfl Try.func83 (by kernel_rfl) rfl #[.pointer (some ⟨g446, 0, none⟩)] rfl (by (try simp only [List.map_toArray, List.map_cons, List.map_nil]); first | done | rfl | (simp only [List.length_drop, List.length_take]; rfl)) ?_; (with_reducible refine (spec_l1rd_next.calls g446 t444 t450 t451 t452 w _ ?side1 ?side2 A9.out).mono ?_); (case side1 => repeat (first | (with_reducible first | exact HI446.out | apply IsS175.alloc | apply IsS175.drewN | apply IsS175.drew | apply IsS175.set_1) | exact HI446.out)); (case side2 => repeat (first | (with_reducible first | exact HB.out | apply below_alloc | apply pw_below_drewN | apply below_drew1 | refine below_set ?_ (IsS175.ge HI446.out)) | exact HB.out)); rintro e w14 ⟨rfl, hi, hb, hk⟩; refine ⟨_, rfl, ?_⟩; have n0_ := Aside0.mk (hb); have n1_ := Aside0.mk (hi); clear HB; clear HI446; have HB := n0_; have HI446 := n1_; clear n0_ n1_; (try clear hb); (try clear hb2); (try clear hk); (try clear hi)) | ((with_reducible refine gate_callee (f := 84) rfl ?_); refine goesL_ (some 30) rfl rfl Try.func84 (by kernel_rfl) rfl #[.pointer (some ⟨g446, 0, none⟩)] rfl (by (try simp only [List.map_toArray, List.map_cons, List.map_nil]); first | done | rfl | (simp only [List.length_drop, List.length_take]; rfl)) ?_; (with_reducible refine (spec_l2drawArg.calls g446 t444 t452 t453 t454 w _ ?side1 ?side2 A10.out).mono ?_); (case side1 => repeat (first | (with_reducible first | exact HI446.out | apply IsS175.alloc | apply IsS175.drewN | apply IsS175.drew | apply IsS175.set_1) | exact HI446.out)); (case side2 => repeat (first | (with_reducible first | exact HB.out | apply below_alloc | apply pw_below_drewN | apply below_drew1 | refine below_set ?_ (IsS175.ge HI446.out)) | exact HB.out)); rintro e w15 ⟨rfl, hi, hb, hk⟩; refine ⟨_, rfl, ?_⟩; have n0_ := Aside0.mk (hb); have n1_ := Aside0.mk (hi); clear HB; clear HI446; have HB := n0_; have HI446 := n1_; clear n0_ n1_; (try clear hb); (try clear hb2); (try clear hk); (try clear hi)) | ((with_reducible refine gate_dst (N := 32) rfl ?_); refine Kd.R_lit (Kd.int .u64) _ 22 ?hg (N := 32) ?hd (xs := ([t453] : List Int)) (inner := [.int .u64 t453]) (ok := fun _ => True) (okp := fun _ => True) ?hr ?hp (fun _ hk => hk) trivial (Below.refl _ _) (Nat.le_refl _) (by simp) ?_; (case hd => rfl); (case hg => rfl); (case hr => first | (go_simp; done) | (go_simp; rfl)); (case hp => exact (Reps.one (show Kd.M (Kd.int .u64) _ _ _ t453 [.int .u64 t453] from rfl) (Reps.none _ _))); intro v456 w16 ho17 hb hg_ hnew_; clear hg_ hnew_; (first | rw [← Ny455.out] at ho17 | (simp only [Int.reduceToNat] at ho17; rw [← Ny455.out] at ho17)); have n0_ := Aside0.mk (Kd.R_lower ho17 (below_size (by repeat (first | (with_reducible first | exact HB.out | apply below_alloc | apply pw_below_drewN | apply below_drew1 | refine below_set ?_ (IsS175.ge HI446.out)) | exact HB.out)))); have n1_ := Aside0.mk (IsS175.below (by repeat (first | (with_reducible first | exact HI446.out | apply IsS175.alloc | apply IsS175.drewN | apply IsS175.drew | apply IsS175.set_1) | exact HI446.out)) hb); have n2_ := Aside0.mk (below_step (by repeat (first | (with_reducible first | exact HB.out | apply below_alloc | apply pw_below_drewN | apply below_drew1 | refine below_set ?_ (IsS175.ge HI446.out)) | exact HB.out)) hb); clear HI446; clear HB; have HO457 := n0_; have HI446 := n1_; have HB := n2_; clear n0_ n1_ n2_; clear hb ho17))
    go_loopg [9, 10] k (fun kq v9 v10 w' => ∃ (x9_1 : List Int) (x10_1 : Int) (x447001_1 : Int), v10 = .int .i64 x10_1 ∧ Aside0 (spec_DrawCover.l0 kq (Int.tmod t447 12) (Int.tmod t449 3) (wrap64 (1 + (Int.tmod t451 6))) t453 x9_1 x10_1 t444 x447001_1 = some (r1, r2)) ∧ Aside0 (kq ≤ k) ∧ Aside0 (Kd.Q (Kd.int .u64) 22 w' w.heap.size (fun _ => True) v9 x9_1) ∧ Aside0 (IsS175 w w' g446 t444 x447001_1) ∧ Aside0 (Below w.heap.size w w'))
    case atStart => exact ⟨(y455), (1), (t454), (by first | rfl | (simp; done) | (simp [*]; done)), H', ⟨Nat.le_refl _⟩, ⟨Kd.Q_of_R (by (with_reducible repeat (first | apply Kd.R_alloc | apply Kd.R_drewN | apply Kd.R_drew)); exact HO457.out)⟩, ⟨by repeat (first | (with_reducible first | exact HI446.out | apply IsS175.alloc | apply IsS175.drewN | apply IsS175.drew | apply IsS175.set_1) | exact HI446.out)⟩, ⟨by repeat (first | (with_reducible first | exact HB.out | apply below_alloc | apply pw_below_drewN | apply below_drew1 | refine below_set ?_ (IsS175.ge HI446.out)) | exact HB.out)⟩⟩
    case round =>
      clear H'
      try clear p2
      try clear c3
      try clear c5
      try clear c5b0
      try clear c5b1
      try clear p6
      try clear c8
      obtain ⟨x9_1, x10_1, x447001_1, rfl, HA, HK1, HO_9, HI446, HB⟩ := hrel
      cases gk with
      | zero => exact absurd HA.out (by simp [spec_DrawCover.l0])
      | succ k1 =>
        have H := HA.out
        clear HA
        simp only [spec_DrawCover.l0] at H
        by_cases c18 : x10_1 < (wrap64 (1 + (Int.tmod t451 6)))
        · rw [if_pos c18] at H
          have c18b0 : decide (x10_1 < (wrap64 (1 + (Int.tmod t451 6)))) = true := decide_eq_true c18
          clear c18
          obtain ⟨ji19, hji19⟩ : ∃ j_ : Int, (wrap64 (x10_1 - 1)) = j_ := ⟨_, rfl⟩
          replace H : (if 0 ≤ (ji19) then (if (ji19) < (x9_1.length : Int) then ((spec_l2near.f (rd x9_1 (ji19)) t444 x447001_1).bind fun bt459 => (if x9_1.length < 17592186044416 then (spec_DrawCover.l0 k1 (Int.tmod t447 12) (Int.tmod t449 3) (wrap64 (1 + (Int.tmod t451 6))) t453 (x9_1 ++ [bt459.1]) (wrap64 (x10_1 + 1)) t444 bt459.2) else (none))) else (none)) else (none)) = some (r1, r2) := by first | (rw [hji19] at H; exact H) | (simp only [hji19] at H ⊢; exact H)
          have hji19w : (IntKind.i64.wrap (x10_1 - 1)) = ji19 := (i64_w _).trans hji19
          by_cases c20 : 0 ≤ (ji19)
          · rw [if_pos c20] at H
            have c20b0 : decide (0 ≤ (ji19)) = true := decide_eq_true c20
            clear c20
            by_cases c21 : (ji19) < (x9_1.length : Int)
            · rw [if_pos c21] at H
              have c21b0 : decide ((ji19) < (x9_1.length : Int)) = true := decide_eq_true c21
              clear c21
              replace H := Option.bind_eq_some_iff.mp H
              obtain ⟨⟨t459, t460⟩, A220, H⟩ := H
              replace H : (if x9_1.length < 17592186044416 then (spec_DrawCover.l0 k1 (Int.tmod t447 12) (Int.tmod t449 3) (wrap64 (1 + (Int.tmod t451 6))) t453 (x9_1 ++ [t459]) (wrap64 (x10_1 + 1)) t444 t460) else (none)) = some (r1, r2) := H
              have A22 := Aside0.mk A220
              clear A220
              by_cases c23 : x9_1.length < 17592186044416
              · rw [if_pos c23] at H
                have LMc23 := Aside0.mk c23
                clear c23
                obtain ⟨y461, hy461⟩ : ∃ y_ : List Int, y_ = (x9_1 ++ [t459]) := ⟨_, rfl⟩
                replace H : (spec_DrawCover.l0 k1 (Int.tmod t447 12) (Int.tmod t449 3) (wrap64 (1 + (Int.tmod t451 6))) t453 y461 (wrap64 (x10_1 + 1)) t444 t460) = some (r1, r2) := by first | (rw [hy461]; with_reducible exact H) | (have H2_ := (Option.bind_some _ _).symm.trans H; rw [hy461]; with_reducible exact H2_) | (have H2_ := (Option.bind_some _ _).symm.trans H; with_reducible exact H2_) | with_reducible exact H | (rw [hy461]; exact H) | exact H
                have Ny461 := Aside0.mk hy461
                clear hy461
                have H' := Aside0.mk H
                clear H
                obtain ⟨Ao24, co24, eo24, _⟩ := Kd.Q_slice HO_9.out
                subst eo24
                have p458 : 0 ≤ ((ji19) : Int) := of_decide_eq_true (by first | (with_reducible assumption) | assumption)
                have q458 : (ji19) < (x9_1.length : Int) := of_decide_eq_true (by first | (with_reducible assumption) | assumption)
                obtain ⟨ad458, e458, hx458_0⟩ := Kd.at_int (Kd.Q_reads' HO_9.out).2.2 (ji19) p458 q458
                cases e458
                replace p458 := eq_true p458
                replace q458 := eq_true q458
                go_wp2_with (first | ((with_reducible refine gate_callee (f := 85) rfl ?_); refine goesL_ (some 45) rfl rfl Try.func85 (by kernel_rfl) rfl #[.int .u64 (rd x9_1 (ji19)), .pointer (some ⟨g446, 0, none⟩)] rfl (by (try simp only [List.map_toArray, List.map_cons, List.map_nil]); first | done | (simp only [hji19]; rfl) | rfl | (simp only [List.length_drop, List.length_take]; rfl)) ?_; (with_reducible refine (spec_l2near.calls (rd x9_1 (ji19)) g446 t444 x447001_1 t459 t460 w _ ?side1 ?side2 A22.out).mono ?_); (case side1 => repeat (first | (with_reducible first | exact HI446.out | apply IsS175.alloc | apply IsS175.drewN | apply IsS175.drew | apply IsS175.set_1) | exact HI446.out)); (case side2 => repeat (first | (with_reducible first | exact HB.out | apply below_alloc | apply pw_below_drewN | apply below_drew1 | refine below_set ?_ (IsS175.ge HI446.out)) | exact HB.out)); rintro e w25 ⟨rfl, hi, hb, hk⟩; refine ⟨_, rfl, ?_⟩; have n0_ := Aside0.mk (Kd.Q_mono (Kd.Q_keep (IsS175.apartQ (show IsS175 w _ g446 t444 x447001_1 from by repeat (first | (with_reducible first | exact HI446.out | apply IsS175.alloc | apply IsS175.drewN | apply IsS175.drew | apply IsS175.set_1) | exact HI446.out)) (by (with_reducible repeat (first | apply Kd.Q_alloc | apply Kd.Q_drewN | apply Kd.Q_drew)); exact HO_9.out) (by decide)) hk (fun _ h => h.2)) (fun _ h => h.1)); have n1_ := Aside0.mk (hb); have n2_ := Aside0.mk (hi); clear HO_9; clear HB; clear HI446; have HO_9 := n0_; have HB := n1_; have HI446 := n2_; clear n0_ n1_ n2_; (try clear hb); (try clear hb2); (try clear hk); (try clear hi)) | ((with_reducible refine gate_builtin (b := .append) (xs := #[.tmp 38, .tmp 46]) rfl ?_); at_builtin; refine Kd.Q_append (Kd.int .u64) (w0 := w) w.heap.size rfl (.tmp 38) (.tmp 46) 37 22 (.int .u64 0) 8 rfl Try.underlying37 info22 rfl (by decide) (by omega) (.slice (some ad458) x9_1.length co24) x9_1 t459 [.int .u64 t459] (fun _ => True) (fun _ => False) rfl rfl ?aP (fun _ hk => hk.elim) ?aF ?aO ?aB ?aS ?aL ?_; (case aP => exact rfl); (case aB => exact (by repeat (first | (with_reducible first | exact HB.out | apply below_alloc | apply pw_below_drewN | apply below_drew1 | refine below_set ?_ (IsS175.ge HI446.out)) | exact HB.out))); (case aF => exact (fun _ _ => trivial)); (case aO => exact (by (with_reducible repeat (first | apply Kd.Q_alloc | apply Kd.Q_drewN | apply Kd.Q_drew)); exact HO_9.out)); (case aS => exact (below_size (by repeat (first | (with_reducible first | exact HB.out | apply below_alloc | apply pw_below_drewN | apply below_drew1 | refine below_set ?_ (IsS175.ge HI446.out)) | exact HB.out)))); (case aL => have := LMc23.out; omega); intro v462 w26 ho hb hg hat; rw [← Ny461.out] at ho; have n0_ := Aside0.mk (IsS175.grown (by repeat (first | (with_reducible first | exact HI446.out | apply IsS175.alloc | apply IsS175.drewN | apply IsS175.drew | apply IsS175.set_1) | exact HI446.out)) hg (IsS175.own_neQ HI446.out HO_9.out (by decide))); have n1_ := Aside0.mk (hb); have n2_ := Aside0.mk (ho); clear HI446; clear HB; clear HO_9; have HI446 := n0_; have HB := n1_; have HO463 := n2_; clear n0_ n1_ n2_; clear ho hb hg hat))
                go_roundg k1
                case measure => have := HK1.out; omega
                case rel => exact ⟨(y461), (wrap64 (x10_1 + 1)), (t460), (by first | rfl | (simp; done) | (simp [*]; done)), H', ⟨by have := HK1.out; omega⟩, ⟨by (with_reducible repeat (first | apply Kd.Q_alloc | apply Kd.Q_drewN | apply Kd.Q_drew)); exact HO463.out⟩, ⟨by repeat (first | (with_reducible first | exact HI446.out | apply IsS175.alloc | apply IsS175.drewN | apply IsS175.drew | apply IsS175.set_1) | exact HI446.out)⟩, ⟨by repeat (first | (with_reducible first | exact HB.out | apply below_alloc | apply pw_below_drewN | apply below_drew1 | refine below_set ?_ (IsS175.ge HI446.out)) | exact HB.out)⟩⟩
              · rw [if_neg c23] at H
                exact absurd H (by simp)
            · rw [if_neg c21] at H
              exact absurd H (by simp)
          · rw [if_neg c20] at H
            exact absurd H (by simp)
        · rw [if_neg c18] at H
          have c18b0 : decide (x10_1 < (wrap64 (1 + (Int.tmod t451 6)))) = false := decide_eq_false c18
          clear c18
          have HC27 := Aside0.mk H
          clear H
          go_upto_if 49 with (fail)
          go_cut [6] (fun v6 wc => ∃ (kq : Nat) (x6_26 : Int), v6 = .int .i64 x6_26 ∧ Aside0 (spec_DrawCover.j1 kq (Int.tmod t447 12) x6_26 (wrap64 (1 + (Int.tmod t451 6))) t453 x9_1 t444 x447001_1 = some (r1, r2)) ∧ Aside0 (kq ≤ k1) ∧ Aside0 (Kd.Q (Kd.int .u64) 22 wc w.heap.size (fun _ => True) u9 x9_1) ∧ Aside0 (IsS175 w wc g446 t444 x447001_1) ∧ Aside0 (Below w.heap.size w wc))
          case first =>
            have H := HC27.out
            clear HC27
            by_cases c28 : (Int.tmod t447 12) = 1
            · rw [if_pos c28] at H
              have c28b0 : ((Int.tmod t447 12) == 1) = true := beq_iff_eq.mpr c28
              have c28b1 : ((Int.tmod t447 12) != 1) = false := bne_eq_false_iff_eq.mpr c28
              clear c28
              (first | rw [c28b0] | (simp only [i64_w, i32_w]; rw [c28b0]) | skip)
              have H' := Aside0.mk H
              clear H
              go_wp2
              go_meet
              case rel => exact ⟨_, (3), (by first | rfl | (simp; done) | (simp [*]; done)), H', ⟨by have := HK1.out; first | omega | exact Nat.le_refl _⟩, ⟨by (with_reducible repeat (first | apply Kd.Q_alloc | apply Kd.Q_drewN | apply Kd.Q_drew)); exact HO_9.out⟩, ⟨by repeat (first | (with_reducible first | exact HI446.out | apply IsS175.alloc | apply IsS175.drewN | apply IsS175.drew | apply IsS175.set_1) | exact HI446.out)⟩, ⟨by repeat (first | (with_reducible first | exact HB.out | apply below_alloc | apply pw_below_drewN | apply below_drew1 | refine below_set ?_ (IsS175.ge HI446.out)) | exact HB.out)⟩⟩
            · rw [if_neg c28] at H
              have c28b0 : ((Int.tmod t447 12) == 1) = false := beq_eq_false_iff_ne.mpr c28
              have c28b1 : ((Int.tmod t447 12) != 1) = true := bne_iff_ne.mpr c28
              (first | rw [c28b0] | (simp only [i64_w, i32_w]; rw [c28b0]) | skip)
              have H' := Aside0.mk H
              clear H
              go_wp2
              go_meet
              case rel => exact ⟨_, ((Int.tmod t449 3)), (by first | rfl | (simp; done) | (simp [*]; done)), H', ⟨by have := HK1.out; first | omega | exact Nat.le_refl _⟩, ⟨by (with_reducible repeat (first | apply Kd.Q_alloc | apply Kd.Q_drewN | apply Kd.Q_drew)); exact HO_9.out⟩, ⟨by repeat (first | (with_reducible first | exact HI446.out | apply IsS175.alloc | apply IsS175.drewN | apply IsS175.drew | apply IsS175.set_1) | exact HI446.out)⟩, ⟨by repeat (first | (with_reducible first | exact HB.out | apply below_alloc | apply pw_below_drewN | apply below_drew1 | refine below_set ?_ (IsS175.ge HI446.out)) | exact HB.out)⟩⟩
          case rest =>
            clear HC27
            try clear c1
            try clear c2
            try clear p2
            try clear c3
            try clear p4
            try clear q4
            try clear hx4
            try clear c5
            try clear c5b0
            try clear c5b1
            try clear p6
            try clear c8
            try clear c18
            try clear c18b0
            try clear c20
            try clear c20b0
            try clear c21
            try clear c21b0
            try clear c23
            try clear c28
            try clear c28b0
            try clear c28b1
            try clear hx458_0
            try clear p2
            try clear p458
            try clear p6
            try clear q458
            obtain ⟨kq, x6_26, rfl, HA, HJ26, HO_9, HI446, HB⟩ := hcut
            cases kq with
            | zero => exact absurd HA.out (by simp [spec_DrawCover.j1])
            | succ kj26 =>
              have H := HA.out
              clear HA
              simp only [spec_DrawCover.j1] at H
              have HC29 := Aside0.mk H
              clear H
              go_upto_if 51 with (fail)
              go_cut [6] (fun v6 wc => ∃ (kq : Nat) (x6_28 : Int), v6 = .int .i64 x6_28 ∧ Aside0 (spec_DrawCover.j2 kq (Int.tmod t447 12) x6_28 (wrap64 (1 + (Int.tmod t451 6))) t453 x9_1 t444 x447001_1 = some (r1, r2)) ∧ Aside0 (kq ≤ kj26) ∧ Aside0 (Kd.Q (Kd.int .u64) 22 wc w.heap.size (fun _ => True) u9 x9_1) ∧ Aside0 (IsS175 w wc g446 t444 x447001_1) ∧ Aside0 (Below w.heap.size w wc))
              case first =>
                have H := HC29.out
                clear HC29
                by_cases c30 : (Int.tmod t447 12) = 2
                · rw [if_pos c30] at H
                  have c30b0 : ((Int.tmod t447 12) == 2) = true := beq_iff_eq.mpr c30
                  have c30b1 : ((Int.tmod t447 12) != 2) = false := bne_eq_false_iff_eq.mpr c30
                  clear c30
                  (first | rw [c30b0] | (simp only [i64_w, i32_w]; rw [c30b0]) | skip)
                  have H' := Aside0.mk H
                  clear H
                  go_wp2
                  go_meet
                  case rel => exact ⟨_, ((-1)), (by first | rfl | (simp; done) | (simp [*]; done)), H', ⟨by have := HK1.out; have := HJ26.out; first | omega | exact Nat.le_refl _⟩, ⟨by (with_reducible repeat (first | apply Kd.Q_alloc | apply Kd.Q_drewN | apply Kd.Q_drew)); exact HO_9.out⟩, ⟨by repeat (first | (with_reducible first | exact HI446.out | apply IsS175.alloc | apply IsS175.drewN | apply IsS175.drew | apply IsS175.set_1) | exact HI446.out)⟩, ⟨by repeat (first | (with_reducible first | exact HB.out | apply below_alloc | apply pw_below_drewN | apply below_drew1 | refine below_set ?_ (IsS175.ge HI446.out)) | exact HB.out)⟩⟩
                · rw [if_neg c30] at H
                  have c30b0 : ((Int.tmod t447 12) == 2) = false := beq_eq_false_iff_ne.mpr c30
                  have c30b1 : ((Int.tmod t447 12) != 2) = true := bne_iff_ne.mpr c30
                  (first | rw [c30b0] | (simp only [i64_w, i32_w]; rw [c30b0]) | skip)
                  have H' := Aside0.mk H
                  clear H
                  go_wp2
                  go_meet
                  case rel => exact ⟨_, (x6_26), (by first | rfl | (simp; done) | (simp [*]; done)), H', ⟨by have := HK1.out; have := HJ26.out; first | omega | exact Nat.le_refl _⟩, ⟨by (with_reducible repeat (first | apply Kd.Q_alloc | apply Kd.Q_drewN | apply Kd.Q_drew)); exact HO_9.out⟩, ⟨by repeat (first | (with_reducible first | exact HI446.out | apply IsS175.alloc | apply IsS175.drewN | apply IsS175.drew | apply IsS175.set_1) | exact HI446.out)⟩, ⟨by repeat (first | (with_reducible first | exact HB.out | apply below_alloc | apply pw_below_drewN | apply below_drew1 | refine below_set ?_ (IsS175.ge HI446.out)) | exact HB.out)⟩⟩
              case rest =>
                clear HC29
                try clear c1
                try clear c2
                try clear p2
                try clear c3
                try clear p4
                try clear q4
                try clear hx4
                try clear c5
                try clear c5b0
                try clear c5b1
                try clear p6
                try clear c8
                try clear c18
                try clear c18b0
                try clear c20
                try clear c20b0
                try clear c21
                try clear c21b0
                try clear c23
                try clear c28
                try clear c28b0
                try clear c28b1
                try clear c30
                try clear c30b0
                try clear c30b1
                try clear hx458_0
                try clear p2
                try clear p4
                try clear p458
                try clear p6
                try clear q4
                try clear q458
                obtain ⟨kq, x6_28, rfl, HA, HJ28, HO_9, HI446, HB⟩ := hcut
                cases kq with
                | zero => exact absurd HA.out (by simp [spec_DrawCover.j2])
                | succ kj28 =>
                  have H := HA.out
                  clear HA
                  simp only [spec_DrawCover.j2] at H
                  by_cases c31 : (Int.tmod t447 12) = 3
                  · rw [if_pos c31] at H
                    have c31b0 : ((Int.tmod t447 12) == 3) = true := beq_iff_eq.mpr c31
                    have c31b1 : ((Int.tmod t447 12) != 3) = false := bne_eq_false_iff_eq.mpr c31
                    clear c31
                    replace H := Option.bind_eq_some_iff.mp H
                    obtain ⟨⟨t464, t465⟩, A320, H⟩ := H
                    replace H : ((spec_l3low.f (wrap64 (1 + (Int.tmod t464 4)))).bind fun t466 => (spec_DrawCover.l1 kj28 (Int.tmod t447 12) x6_28 (wrap64 (1 + (Int.tmod t451 6))) ([] : List Int) (wrap64 (1 + (Int.tmod t464 4))) (Go.bits .andNot .u64 t453 t466) 0)) = some (r1, r2) := H
                    have A32 := Aside0.mk A320
                    clear A320
                    replace H := Option.bind_eq_some_iff.mp H
                    obtain ⟨t466, A330, H⟩ := H
                    replace H : (spec_DrawCover.l1 kj28 (Int.tmod t447 12) x6_28 (wrap64 (1 + (Int.tmod t451 6))) ([] : List Int) (wrap64 (1 + (Int.tmod t464 4))) (Go.bits .andNot .u64 t453 t466) 0) = some (r1, r2) := H
                    have A33 := Aside0.mk A330
                    clear A330
                    have H' := Aside0.mk H
                    clear H
                    go_wp2_with (first | ((with_reducible refine gate_callee (f := 83) rfl ?_); refine goesL_ (some 55) rfl rfl Try.func83 (by kernel_rfl) rfl #[.pointer (some ⟨g446, 0, none⟩)] rfl (by (try simp only [List.map_toArray, List.map_cons, List.map_nil]); first | done | rfl | (simp only [List.length_drop, List.length_take]; rfl)) ?_; (with_reducible refine (spec_l1rd_next.calls g446 t444 x447001_1 t464 t465 w _ ?side1 ?side2 A32.out).mono ?_); (case side1 => repeat (first | (with_reducible first | exact HI446.out | apply IsS175.alloc | apply IsS175.drewN | apply IsS175.drew | apply IsS175.set_1) | exact HI446.out)); (case side2 => repeat (first | (with_reducible first | exact HB.out | apply below_alloc | apply pw_below_drewN | apply below_drew1 | refine below_set ?_ (IsS175.ge HI446.out)) | exact HB.out)); rintro e w34 ⟨rfl, hi, hb, hk⟩; refine ⟨_, rfl, ?_⟩; have n0_ := Aside0.mk (Kd.Q_mono (Kd.Q_keep (IsS175.apartQ (show IsS175 w _ g446 t444 x447001_1 from by repeat (first | (with_reducible first | exact HI446.out | apply IsS175.alloc | apply IsS175.drewN | apply IsS175.drew | apply IsS175.set_1) | exact HI446.out)) (by (with_reducible repeat (first | apply Kd.Q_alloc | apply Kd.Q_drewN | apply Kd.Q_drew)); exact HO_9.out) (by decide)) hk (fun _ h => h.2)) (fun _ h => h.1)); have n1_ := Aside0.mk (hb); have n2_ := Aside0.mk (hi); clear HO_9; clear HB; clear HI446; have HO_9 := n0_; have HB := n1_; have HI446 := n2_; clear n0_ n1_ n2_; (try clear hb); (try clear hb2); (try clear hk); (try clear hi)) | ((with_reducible refine gate_callee (f := 86) rfl ?_); refine goesL_ (some 60) rfl rfl Try.func86 (by kernel_rfl) rfl #[.int .i64 (wrap64 (1 + (Int.tmod t464 4)))] rfl (by (try simp only [List.map_toArray, List.map_cons, List.map_nil]); first | done | rfl | (simp only [List.length_drop, List.length_take]; rfl)) ?_; (with_reducible refine (spec_l3low.calls (wrap64 (1 + (Int.tmod t464 4))) t466 _ A33.out).mono ?_); rintro e w' ⟨rfl, ⟨nd, rfl⟩⟩; refine ⟨_, rfl, ?_⟩))
                    go_loopg [9, 13] kj28 (fun kq v9 v13 w' => ∃ (x9_4 : List Int) (x13_4 : Int), v13 = .int .i64 x13_4 ∧ Aside0 (spec_DrawCover.l1 kq (Int.tmod t447 12) x6_28 (wrap64 (1 + (Int.tmod t451 6))) x9_4 (wrap64 (1 + (Int.tmod t464 4))) (Go.bits .andNot .u64 t453 t466) x13_4 = some (r1, r2)) ∧ Aside0 (kq ≤ kj28) ∧ Aside0 (Kd.Q (Kd.int .u64) 22 w' w.heap.size (fun _ => True) v9 x9_4) ∧ Aside0 (Below w.heap.size w w'))
                    case atStart => exact ⟨(([] : List Int)), (0), (by first | rfl | (simp; done) | (simp [*]; done)), H', ⟨Nat.le_refl _⟩, ⟨Kd.Q_of_R (by first | exact Kd.R_nil _ _ _ _ _ | exact Kd.N_nil _ _ _ _ _ | exact Kd.V_nil _ _ _ _ _ | exact Kd.Q_nil _ _ _ _ _ | exact Kd.S_nil _ _ _ _ _)⟩, ⟨by repeat (first | (with_reducible first | exact HB.out | apply below_alloc | apply pw_below_drewN | apply below_drew1 | refine below_set ?_ (IsS175.ge HI446.out)) | exact HB.out)⟩⟩
                    case round =>
                      clear H'
                      try clear c1
                      try clear c2
                      try clear p2
                      try clear c3
                      try clear p4
                      try clear q4
                      try clear hx4
                      try clear c5
                      try clear c5b0
                      try clear c5b1
                      try clear p6
                      try clear c8
                      try clear c18
                      try clear c18b0
                      try clear c20
                      try clear c20b0
                      try clear c21
                      try clear c21b0
                      try clear c23
                      try clear c28
                      try clear c28b0
                      try clear c28b1
                      try clear c30
                      try clear c30b0
                      try clear c30b1
                      try clear c31
                      try clear c31b0
                      try clear c31b1
                      try clear hx458_0
                      try clear p2
                      try clear p4
                      try clear p458
                      try clear p6
                      try clear q4
                      try clear q458
                      obtain ⟨x9_4, x13_4, rfl, HA, HK4, HO_9, HB⟩ := hrel
                      cases gk with
                      | zero => exact absurd HA.out (by simp [spec_DrawCover.l1])
                      | succ k4 =>
                        have H := HA.out
                        clear HA
                        simp only [spec_DrawCover.l1] at H
                        obtain ⟨ji35, hji35⟩ : ∃ j_ : Int, (IntKind.u64.wrap ((wrap64 (1 + (Int.tmod t464 4))))) = j_ := ⟨_, rfl⟩
                        replace H : (if 0 ≤ (ji35) then (if x13_4 < (shl .i64 1 (ji35)) then (if (shl .i64 1 (ji35)) = 0 then (none) else (if x9_4.length < 17592186044416 then (spec_DrawCover.l1 k4 (Int.tmod t447 12) x6_28 (wrap64 (1 + (Int.tmod t451 6))) (x9_4 ++ [IntKind.u64.wrap ((Go.bits .andNot .u64 t453 t466) + (IntKind.u64.wrap (Int.tmod (wrap64 ((wrap64 (x13_4 * 3)) + (wrap64 (1 + (Int.tmod t451 6))))) (shl .i64 1 (ji35)))))]) (wrap64 (1 + (Int.tmod t464 4))) (Go.bits .andNot .u64 t453 t466) (wrap64 (x13_4 + 1))) else (none))) else (if (wrap64 (1 + (Int.tmod t451 6))) = 2 then (if 1 ≤ (x9_4.length : Int) then ((some (x9_4.drop (1 : Int).toNat : List Int)).bind fun y470 => (if (Int.tmod t447 12) = 4 then (if y470.length < 17592186044416 then ((some (y470 ++ [0] : List Int)).bind fun y473 => (if y473.length < 17592186044416 then (some ((y473 ++ [18446744073709551615]), x6_28)) else (none))) else (none)) else (some (y470, x6_28)))) else (none)) else (if (Int.tmod t447 12) = 4 then (if x9_4.length < 17592186044416 then ((some (x9_4 ++ [0] : List Int)).bind fun y479 => (if y479.length < 17592186044416 then (some ((y479 ++ [18446744073709551615]), x6_28)) else (none))) else (none)) else (some (x9_4, x6_28))))) else (none)) = some (r1, r2) := by first | (rw [hji35] at H; exact H) | (simp only [hji35] at H ⊢; exact H)
                        by_cases c36 : 0 ≤ (ji35)
                        · rw [if_pos c36] at H
                          have c36b0 := eq_true c36
                          have c36b1 : decide (0 ≤ (ji35)) = true := decide_eq_true c36
                          clear c36
                          obtain ⟨ji37, hji37⟩ : ∃ j_ : Int, (shl .i64 1 (ji35)) = j_ := ⟨_, rfl⟩
                          replace H : (if x13_4 < (ji37) then (if (ji37) = 0 then (none) else (if x9_4.length < 17592186044416 then (spec_DrawCover.l1 k4 (Int.tmod t447 12) x6_28 (wrap64 (1 + (Int.tmod t451 6))) (x9_4 ++ [IntKind.u64.wrap ((Go.bits .andNot .u64 t453 t466) + (IntKind.u64.wrap (Int.tmod (wrap64 ((wrap64 (x13_4 * 3)) + (wrap64 (1 + (Int.tmod t451 6))))) (ji37))))]) (wrap64 (1 + (Int.tmod t464 4))) (Go.bits .andNot .u64 t453 t466) (wrap64 (x13_4 + 1))) else (none))) else (if (wrap64 (1 + (Int.tmod t451 6))) = 2 then (if 1 ≤ (x9_4.length : Int) then ((some (x9_4.drop (1 : Int).toNat : List Int)).bind fun y470 => (if (Int.tmod t447 12) = 4 then (if y470.length < 17592186044416 then ((some (y470 ++ [0] : List Int)).bind fun y473 => (if y473.length < 17592186044416 then (some ((y473 ++ [18446744073709551615]), x6_28)) else (none))) else (none)) else (some (y470, x6_28)))) else (none)) else (if (Int.tmod t447 12) = 4 then (if x9_4.length < 17592186044416 then ((some (x9_4 ++ [0] : List Int)).bind fun y479 => (if y479.length < 17592186044416 then (some ((y479 ++ [18446744073709551615]), x6_28)) else (none))) else (none)) else (some (x9_4, x6_28))))) = some (r1, r2) := by first | (rw [hji37] at H; exact H) | (simp only [hji37] at H ⊢; exact H)
                          have hji37_ : (IntKind.i64.wrap (1 * 2 ^ min (ji35).toNat 64)) = ji37 := hji37
                          try have hji37n : 0 ≤ (ji35) := by omega
                          have hji37z : (ji35) ≤ 64 → (IntKind.i64.wrap (1 * 2 ^ (ji35).toNat)) = ji37 := shl_small hji37
                          have hji37u : (IntKind.i64.wrap (2 ^ min (ji35).toNat 64)) = ji37 := by have h_ := hji37_; rw [Int.one_mul] at h_; exact h_
                          have hji37v : (ji35) ≤ 64 → (IntKind.i64.wrap (2 ^ (ji35).toNat)) = ji37 := fun hle_ => by have h_ := hji37z hle_; rw [Int.one_mul] at h_; exact h_
                          have hji37y : (wrap64 (1 * 2 ^ min (ji35).toNat 64)) = ji37 := (i64_w _).symm.trans hji37_
                          have hji37x : (ji35) ≤ 64 → (wrap64 (1 * 2 ^ (ji35).toNat)) = ji37 := fun h_ => (i64_w _).symm.trans (hji37z h_)
                          by_cases c38 : x13_4 < (ji37)
                          · rw [if_pos c38] at H
                            have c38b0 : decide (x13_4 < (ji37)) = true := decide_eq_true c38
                            clear c38
                            have c39b0 := eq_true (of_decide_eq_true (by first | (with_reducible assumption) | assumption) : 0 ≤ (ji35))
                            by_cases c41 : (ji37) = 0
                            · rw [if_pos c41] at H
                              exact absurd H (by simp)
                            · rw [if_neg c41] at H
                              have c41b0 : ((ji37) == 0) = false := beq_eq_false_iff_ne.mpr c41
                              have c41b1 : ((ji37) != 0) = true := bne_iff_ne.mpr c41
                              by_cases c42 : x9_4.length < 17592186044416
                              · rw [if_pos c42] at H
                                have LMc42 := Aside0.mk c42
                                clear c42
                                obtain ⟨y467, hy467⟩ : ∃ y_ : List Int, y_ = (x9_4 ++ [IntKind.u64.wrap ((Go.bits .andNot .u64 t453 t466) + (IntKind.u64.wrap (Int.tmod (wrap64 ((wrap64 (x13_4 * 3)) + (wrap64 (1 + (Int.tmod t451 6))))) (ji37))))]) := ⟨_, rfl⟩
                                replace H : (spec_DrawCover.l1 k4 (Int.tmod t447 12) x6_28 (wrap64 (1 + (Int.tmod t451 6))) y467 (wrap64 (1 + (Int.tmod t464 4))) (Go.bits .andNot .u64 t453 t466) (wrap64 (x13_4 + 1))) = some (r1, r2) := by first | (rw [hy467]; with_reducible exact H) | (have H2_ := (Option.bind_some _ _).symm.trans H; rw [hy467]; with_reducible exact H2_) | (have H2_ := (Option.bind_some _ _).symm.trans H; with_reducible exact H2_) | with_reducible exact H | (rw [hy467]; exact H) | exact H
                                have Ny467 := Aside0.mk hy467
                                clear hy467
                                have H' := Aside0.mk H
                                clear H
                                go_wp2_with (first | ((with_reducible refine gate_builtin (b := .append) (xs := #[.tmp 69, .tmp 81]) rfl ?_); at_builtin; refine Kd.Q_append (Kd.int .u64) (w0 := w) w.heap.size rfl (.tmp 69) (.tmp 81) 37 22 (.int .u64 0) 8 rfl Try.underlying37 info22 rfl (by decide) (by omega) u9 x9_4 (IntKind.u64.wrap ((Go.bits .andNot .u64 t453 t466) + (IntKind.u64.wrap (Int.tmod (wrap64 ((wrap64 (x13_4 * 3)) + (wrap64 (1 + (Int.tmod t451 6))))) (ji37))))) [.int .u64 (IntKind.u64.wrap ((Go.bits .andNot .u64 t453 t466) + (IntKind.u64.wrap (Int.tmod (wrap64 ((wrap64 (x13_4 * 3)) + (wrap64 (1 + (Int.tmod t451 6))))) (ji37)))))] (fun _ => True) (fun _ => False) rfl rfl ?aP (fun _ hk => hk.elim) ?aF ?aO ?aB ?aS ?aL ?_; (case aP => exact rfl); (case aB => exact (by repeat (first | (with_reducible first | exact HB.out | apply below_alloc | apply pw_below_drewN | apply below_drew1) | exact HB.out))); (case aF => exact (fun _ _ => trivial)); (case aO => exact (by (with_reducible repeat (first | apply Kd.Q_alloc | apply Kd.Q_drewN | apply Kd.Q_drew)); exact HO_9.out)); (case aS => exact (below_size (by repeat (first | (with_reducible first | exact HB.out | apply below_alloc | apply pw_below_drewN | apply below_drew1) | exact HB.out)))); (case aL => have := LMc42.out; omega); intro v468 w43 ho hb hg hat; rw [← Ny467.out] at ho; have n0_ := Aside0.mk (hb); have n1_ := Aside0.mk (ho); clear HB; clear HO_9; have HB := n0_; have HO469 := n1_; clear n0_ n1_; clear ho hb hg hat))
                                go_roundg k4
                                case measure => have := HK1.out; have := HJ26.out; have := HJ28.out; have := HK4.out; omega
                                case rel => exact ⟨(y467), (wrap64 (x13_4 + 1)), (by first | rfl | (simp; done) | (simp [*]; done)), H', ⟨by have := HK1.out; have := HJ26.out; have := HJ28.out; have := HK4.out; omega⟩, ⟨by (with_reducible repeat (first | apply Kd.Q_alloc | apply Kd.Q_drewN | apply Kd.Q_drew)); exact HO469.out⟩, ⟨by repeat (first | (with_reducible first | exact HB.out | apply below_alloc | apply pw_below_drewN | apply below_drew1) | exact HB.out)⟩⟩
                              · rw [if_neg c42] at H
                                exact absurd H (by simp)
                          · rw [if_neg c38] at H
                            have c38b0 : decide (x13_4 < (ji37)) = false := decide_eq_false c38
                            clear c38
                            by_cases c44 : (wrap64 (1 + (Int.tmod t451 6))) = 2
                            · rw [if_pos c44] at H
                              have c44b0 : ((wrap64 (1 + (Int.tmod t451 6))) == 2) = true := beq_iff_eq.mpr c44
                              have c44b1 : ((wrap64 (1 + (Int.tmod t451 6))) != 2) = false := bne_eq_false_iff_eq.mpr c44
                              clear c44
                              by_cases c45 : 1 ≤ (x9_4.length : Int)
                              · rw [if_pos c45] at H
                                have c45b0 := eq_true c45
                                have c45b1 : decide (1 ≤ (x9_4.length : Int)) = true := decide_eq_true c45
                                clear c45
                                obtain ⟨y470, hy470⟩ : ∃ y_ : List Int, y_ = (x9_4.drop (1 : Int).toNat) := ⟨_, rfl⟩
                                replace H : (if (Int.tmod t447 12) = 4 then (if y470.length < 17592186044416 then ((some (y470 ++ [0] : List Int)).bind fun y473 => (if y473.length < 17592186044416 then (some ((y473 ++ [18446744073709551615]), x6_28)) else (none))) else (none)) else (some (y470, x6_28))) = some (r1, r2) := by first | (rw [hy470]; with_reducible exact H) | (have H2_ := (Option.bind_some _ _).symm.trans H; rw [hy470]; with_reducible exact H2_) | (have H2_ := (Option.bind_some _ _).symm.trans H; with_reducible exact H2_) | with_reducible exact H | (rw [hy470]; exact H) | exact H
                                have Ny470 := Aside0.mk hy470
                                clear hy470
                                by_cases c46 : (Int.tmod t447 12) = 4
                                · rw [if_pos c46] at H
                                  have c46b0 : ((Int.tmod t447 12) == 4) = true := beq_iff_eq.mpr c46
                                  have c46b1 : ((Int.tmod t447 12) != 4) = false := bne_eq_false_iff_eq.mpr c46
                                  clear c46
                                  by_cases c47 : y470.length < 17592186044416
                                  · rw [if_pos c47] at H
                                    have LMc47 := Aside0.mk c47
                                    clear c47
                                    obtain ⟨y473, hy473⟩ : ∃ y_ : List Int, y_ = (y470 ++ [0]) := ⟨_, rfl⟩
                                    replace H : (if y473.length < 17592186044416 then (some ((y473 ++ [18446744073709551615]), x6_28)) else (none)) = some (r1, r2) := by first | (rw [hy473]; with_reducible exact H) | (have H2_ := (Option.bind_some _ _).symm.trans H; rw [hy473]; with_reducible exact H2_) | (have H2_ := (Option.bind_some _ _).symm.trans H; with_reducible exact H2_) | with_reducible exact H | (rw [hy473]; exact H) | exact H
                                    have Ny473 := Aside0.mk hy473
                                    clear hy473
                                    by_cases c48 : y473.length < 17592186044416
                                    · rw [if_pos c48] at H
                                      have LMc48 := Aside0.mk c48
                                      clear c48
                                      obtain ⟨y476, hy476⟩ : ∃ y_ : List Int, y_ = (y473 ++ [18446744073709551615]) := ⟨_, rfl⟩
                                      replace H : (some (y476, x6_28)) = some (r1, r2) := by first | (rw [hy476]; with_reducible exact H) | (have H2_ := (Option.bind_some _ _).symm.trans H; rw [hy476]; with_reducible exact H2_) | (have H2_ := (Option.bind_some _ _).symm.trans H; with_reducible exact H2_) | with_reducible exact H | (rw [hy476]; exact H) | exact H
                                      have Ny476 := Aside0.mk hy476
                                      clear hy476
                                      simp only [Option.some.injEq, Prod.mk.injEq] at H
                                      obtain ⟨rfl, rfl⟩ := H
                                      obtain ⟨Ao49, co49, eo49, _⟩ := Kd.Q_slice HO_9.out
                                      subst eo49
                                      have q50 : (1 : Int) ≤ ((x9_4.length : Int) : Int) := of_decide_eq_true (by first | (with_reducible assumption) | assumption)
                                      obtain ⟨i050, hi050, _, hsz50, _⟩ := info_parts info22
                                      have hcut50 := cut_from (P := Try.prog) 37 22 .i64 Try.underlying37 hi050 1 hsz50 Ao49 x9_4.length co49 1 (by omega) q50
                                      have hr50 := Kd.Q_drop (k := (1 : Int).toNat) HO_9.out (by omega)
                                      obtain ⟨A50, hA50⟩ : ∃ A1, A1 = (if co49 = (1 : Int).toNat then Ao49 else (Ao49 : Option Addr).map (·.add ((1 : Int).toNat * 1))) := ⟨_, rfl⟩
                                      obtain ⟨c50, hc50⟩ : ∃ c1, c1 = co49 - (1 : Int).toNat := ⟨_, rfl⟩
                                      have hy50 : y470.length = x9_4.length - (1 : Int).toNat := (by rw [Ny470.out, List.length_drop])
                                      rw [← Ny470.out] at hr50
                                      rw [← hy50, ← hA50, ← hc50] at hcut50
                                      replace hr50 : Kd.Q (Kd.int .u64) 22 wr w.heap.size (fun _ => True) (.slice A50 y470.length c50) y470 := (by rw [hA50, hc50, hy50]; exact hr50)
                                      have HE50 : Aside0 ((Value.slice A50 y470.length c50).ownBlock = (.slice Ao49 x9_4.length co49 : Value).ownBlock) := ⟨by rw [hA50]; split <;> (cases (Ao49 : Option Addr) <;> rfl)⟩
                                      clear hy50 hi050 hsz50 HO_9 hA50 hc50
                                      have HO472 := Aside0.mk hr50
                                      clear hr50
                                      replace q50 := eq_true q50
                                      go_wp2_with (first | ((with_reducible refine gate_builtin (b := .append) (xs := #[.tmp 89, .tmp 90]) rfl ?_); at_builtin; refine Kd.Q_append (Kd.int .u64) (w0 := w) w.heap.size rfl (.tmp 89) (.tmp 90) 37 22 (.int .u64 0) 8 rfl Try.underlying37 info22 rfl (by decide) (by omega) (.slice A50 y470.length c50) y470 0 [.int .u64 0] (fun _ => True) (fun _ => False) rfl rfl ?aP (fun _ hk => hk.elim) ?aF ?aO ?aB ?aS ?aL ?_; (case aP => exact rfl); (case aB => exact (by repeat (first | (with_reducible first | exact HB.out | apply below_alloc | apply pw_below_drewN | apply below_drew1) | exact HB.out))); (case aF => exact (fun _ _ => trivial)); (case aO => exact (by (with_reducible repeat (first | apply Kd.Q_alloc | apply Kd.Q_drewN | apply Kd.Q_drew)); exact HO472.out)); (case aS => exact (below_size (by repeat (first | (with_reducible first | exact HB.out | apply below_alloc | apply pw_below_drewN | apply below_drew1) | exact HB.out)))); (case aL => have := LMc47.out; omega); intro v474 w51 ho hb hg hat; rw [← Ny473.out] at ho; have n0_ := Aside0.mk (hb); have n1_ := Aside0.mk (ho); clear HB; clear HO472; have HB := n0_; have HO475 := n1_; clear n0_ n1_; clear ho hb hg hat) | ((with_reducible refine gate_builtin (b := .append) (xs := #[.tmp 92, .tmp 93]) rfl ?_); at_builtin; refine Kd.Q_append (Kd.int .u64) (w0 := w) w.heap.size rfl (.tmp 92) (.tmp 93) 37 22 (.int .u64 0) 8 rfl Try.underlying37 info22 rfl (by decide) (by omega) v474 y473 18446744073709551615 [.int .u64 18446744073709551615] (fun _ => True) (fun _ => False) rfl rfl ?aP (fun _ hk => hk.elim) ?aF ?aO ?aB ?aS ?aL ?_; (case aP => exact rfl); (case aB => exact (by repeat (first | (with_reducible first | exact HB.out | apply below_alloc | apply pw_below_drewN | apply below_drew1) | exact HB.out))); (case aF => exact (fun _ _ => trivial)); (case aO => exact (by (with_reducible repeat (first | apply Kd.Q_alloc | apply Kd.Q_drewN | apply Kd.Q_drew)); exact HO475.out)); (case aS => exact (below_size (by repeat (first | (with_reducible first | exact HB.out | apply below_alloc | apply pw_below_drewN | apply below_drew1) | exact HB.out)))); (case aL => have := LMc48.out; omega); intro v477 w52 ho hb hg hat; rw [← Ny476.out] at ho; have n0_ := Aside0.mk (hb); have n1_ := Aside0.mk (ho); clear HB; clear HO475; have HB := n0_; have HO478 := n1_; clear n0_ n1_; clear ho hb hg hat))
                                      go_ret2
                                      exact ⟨_, by first | rfl | (simp [errW_none, errW_some] <;> rfl) | (simp only [← hji35, ← hji37]; first | rfl | (simp [errW_none, errW_some] <;> rfl)) | (simp [*, errW_none, errW_some] <;> rfl), by (with_reducible repeat (first | apply Kd.Q_alloc | apply Kd.Q_drewN | apply Kd.Q_drew)); exact HO478.out, by repeat (first | (with_reducible first | exact HB.out | apply below_alloc | apply pw_below_drewN | apply below_drew1) | exact HB.out)⟩
                                    · rw [if_neg c48] at H
                                      exact absurd H (by simp)
                                  · rw [if_neg c47] at H
                                    exact absurd H (by simp)
                                · rw [if_neg c46] at H
                                  have c46b0 : ((Int.tmod t447 12) == 4) = false := beq_eq_false_iff_ne.mpr c46
                                  have c46b1 : ((Int.tmod t447 12) != 4) = true := bne_iff_ne.mpr c46
                                  simp only [Option.some.injEq, Prod.mk.injEq] at H
                                  obtain ⟨rfl, rfl⟩ := H
                                  obtain ⟨Ao53, co53, eo53, _⟩ := Kd.Q_slice HO_9.out
                                  subst eo53
                                  have q54 : (1 : Int) ≤ ((x9_4.length : Int) : Int) := of_decide_eq_true (by first | (with_reducible assumption) | assumption)
                                  obtain ⟨i054, hi054, _, hsz54, _⟩ := info_parts info22
                                  have hcut54 := cut_from (P := Try.prog) 37 22 .i64 Try.underlying37 hi054 1 hsz54 Ao53 x9_4.length co53 1 (by omega) q54
                                  have hr54 := Kd.Q_drop (k := (1 : Int).toNat) HO_9.out (by omega)
                                  obtain ⟨A54, hA54⟩ : ∃ A1, A1 = (if co53 = (1 : Int).toNat then Ao53 else (Ao53 : Option Addr).map (·.add ((1 : Int).toNat * 1))) := ⟨_, rfl⟩
                                  obtain ⟨c54, hc54⟩ : ∃ c1, c1 = co53 - (1 : Int).toNat := ⟨_, rfl⟩
                                  have hy54 : y470.length = x9_4.length - (1 : Int).toNat := (by rw [Ny470.out, List.length_drop])
                                  rw [← Ny470.out] at hr54
                                  rw [← hy54, ← hA54, ← hc54] at hcut54
                                  replace hr54 : Kd.Q (Kd.int .u64) 22 wr w.heap.size (fun _ => True) (.slice A54 y470.length c54) y470 := (by rw [hA54, hc54, hy54]; exact hr54)
                                  have HE54 : Aside0 ((Value.slice A54 y470.length c54).ownBlock = (.slice Ao53 x9_4.length co53 : Value).ownBlock) := ⟨by rw [hA54]; split <;> (cases (Ao53 : Option Addr) <;> rfl)⟩
                                  clear hy54 hi054 hsz54 HO_9 hA54 hc54
                                  have HO472 := Aside0.mk hr54
                                  clear hr54
                                  replace q54 := eq_true q54
                                  go_wp2
                                  go_ret2
                                  exact ⟨_, by first | rfl | (simp [errW_none, errW_some] <;> rfl) | (simp only [← hji35, ← hji37]; first | rfl | (simp [errW_none, errW_some] <;> rfl)) | (simp [*, errW_none, errW_some] <;> rfl), by (with_reducible repeat (first | apply Kd.Q_alloc | apply Kd.Q_drewN | apply Kd.Q_drew)); exact HO472.out, by repeat (first | (with_reducible first | exact HB.out | apply below_alloc | apply pw_below_drewN | apply below_drew1) | exact HB.out)⟩
                              · rw [if_neg c45] at H
                                exact absurd H (by simp)
                            · rw [if_neg c44] at H
                              have c44b0 : ((wrap64 (1 + (Int.tmod t451 6))) == 2) = false := beq_eq_false_iff_ne.mpr c44
                              have c44b1 : ((wrap64 (1 + (Int.tmod t451 6))) != 2) = true := bne_iff_ne.mpr c44
                              by_cases c55 : (Int.tmod t447 12) = 4
                              · rw [if_pos c55] at H
                                have c55b0 : ((Int.tmod t447 12) == 4) = true := beq_iff_eq.mpr c55
                                have c55b1 : ((Int.tmod t447 12) != 4) = false := bne_eq_false_iff_eq.mpr c55
                                clear c55
                                by_cases c56 : x9_4.length < 17592186044416
                                · rw [if_pos c56] at H
                                  have LMc56 := Aside0.mk c56
                                  clear c56
                                  obtain ⟨y479, hy479⟩ : ∃ y_ : List Int, y_ = (x9_4 ++ [0]) := ⟨_, rfl⟩
                                  replace H : (if y479.length < 17592186044416 then (some ((y479 ++ [18446744073709551615]), x6_28)) else (none)) = some (r1, r2) := by first | (rw [hy479]; with_reducible exact H) | (have H2_ := (Option.bind_some _ _).symm.trans H; rw [hy479]; with_reducible exact H2_) | (have H2_ := (Option.bind_some _ _).symm.trans H; with_reducible exact H2_) | with_reducible exact H | (rw [hy479]; exact H) | exact H
                                  have Ny479 := Aside0.mk hy479
                                  clear hy479
                                  by_cases c57 : y479.length < 17592186044416
                                  · rw [if_pos c57] at H
                                    have LMc57 := Aside0.mk c57
                                    clear c57
                                    obtain ⟨y482, hy482⟩ : ∃ y_ : List Int, y_ = (y479 ++ [18446744073709551615]) := ⟨_, rfl⟩
                                    replace H : (some (y482, x6_28)) = some (r1, r2) := by first | (rw [hy482]; with_reducible exact H) | (have H2_ := (Option.bind_some _ _).symm.trans H; rw [hy482]; with_reducible exact H2_) | (have H2_ := (Option.bind_some _ _).symm.trans H; with_reducible exact H2_) | with_reducible exact H | (rw [hy482]; exact H) | exact H
                                    have Ny482 := Aside0.mk hy482
                                    clear hy482
                                    simp only [Option.some.injEq, Prod.mk.injEq] at H
                                    obtain ⟨rfl, rfl⟩ := H
                                    go_wp2_with (first | ((with_reducible refine gate_builtin (b := .append) (xs := #[.tmp 89, .tmp 90]) rfl ?_); at_builtin; refine Kd.Q_append (Kd.int .u64) (w0 := w) w.heap.size rfl (.tmp 89) (.tmp 90) 37 22 (.int .u64 0) 8 rfl Try.underlying37 info22 rfl (by decide) (by omega) u9 x9_4 0 [.int .u64 0] (fun _ => True) (fun _ => False) rfl rfl ?aP (fun _ hk => hk.elim) ?aF ?aO ?aB ?aS ?aL ?_; (case aP => exact rfl); (case aB => exact (by repeat (first | (with_reducible first | exact HB.out | apply below_alloc | apply pw_below_drewN | apply below_drew1) | exact HB.out))); (case aF => exact (fun _ _ => trivial)); (case aO => exact (by (with_reducible repeat (first | apply Kd.Q_alloc | apply Kd.Q_drewN | apply Kd.Q_drew)); exact HO_9.out)); (case aS => exact (below_size (by repeat (first | (with_reducible first | exact HB.out | apply below_alloc | apply pw_below_drewN | apply below_drew1) | exact HB.out)))); (case aL => have := LMc56.out; omega); intro v480 w58 ho hb hg hat; rw [← Ny479.out] at ho; have n0_ := Aside0.mk (hb); have n1_ := Aside0.mk (ho); clear HB; clear HO_9; have HB := n0_; have HO481 := n1_; clear n0_ n1_; clear ho hb hg hat) | ((with_reducible refine gate_builtin (b := .append) (xs := #[.tmp 92, .tmp 93]) rfl ?_); at_builtin; refine Kd.Q_append (Kd.int .u64) (w0 := w) w.heap.size rfl (.tmp 92) (.tmp 93) 37 22 (.int .u64 0) 8 rfl Try.underlying37 info22 rfl (by decide) (by omega) v480 y479 18446744073709551615 [.int .u64 18446744073709551615] (fun _ => True) (fun _ => False) rfl rfl ?aP (fun _ hk => hk.elim) ?aF ?aO ?aB ?aS ?aL ?_; (case aP => exact rfl); (case aB => exact (by repeat (first | (with_reducible first | exact HB.out | apply below_alloc | apply pw_below_drewN | apply below_drew1) | exact HB.out))); (case aF => exact (fun _ _ => trivial)); (case aO => exact (by (with_reducible repeat (first | apply Kd.Q_alloc | apply Kd.Q_drewN | apply Kd.Q_drew)); exact HO481.out)); (case aS => exact (below_size (by repeat (first | (with_reducible first | exact HB.out | apply below_alloc | apply pw_below_drewN | apply below_drew1) | exact HB.out)))); (case aL => have := LMc57.out; omega); intro v483 w59 ho hb hg hat; rw [← Ny482.out] at ho; have n0_ := Aside0.mk (hb); have n1_ := Aside0.mk (ho); clear HB; clear HO481; have HB := n0_; have HO484 := n1_; clear n0_ n1_; clear ho hb hg hat))
                                    go_ret2
                                    exact ⟨_, by first | rfl | (simp [errW_none, errW_some] <;> rfl) | (simp only [← hji35, ← hji37]; first | rfl | (simp [errW_none, errW_some] <;> rfl)) | (simp [*, errW_none, errW_some] <;> rfl), by (with_reducible repeat (first | apply Kd.Q_alloc | apply Kd.Q_drewN | apply Kd.Q_drew)); exact HO484.out, by repeat (first | (with_reducible first | exact HB.out | apply below_alloc | apply pw_below_drewN | apply below_drew1) | exact HB.out)⟩
                                  · rw [if_neg c57] at H
                                    exact absurd H (by simp)
                                · rw [if_neg c56] at H
                                  exact absurd H (by simp)
                              · rw [if_neg c55] at H
                                have c55b0 : ((Int.tmod t447 12) == 4) = false := beq_eq_false_iff_ne.mpr c55
                                have c55b1 : ((Int.tmod t447 12) != 4) = true := bne_iff_ne.mpr c55
                                simp only [Option.some.injEq, Prod.mk.injEq] at H
                                obtain ⟨rfl, rfl⟩ := H
                                go_wp2
                                go_ret2
                                exact ⟨_, by first | rfl | (simp [errW_none, errW_some] <;> rfl) | (simp only [← hji35, ← hji37]; first | rfl | (simp [errW_none, errW_some] <;> rfl)) | (simp [*, errW_none, errW_some] <;> rfl), by (with_reducible repeat (first | apply Kd.Q_alloc | apply Kd.Q_drewN | apply Kd.Q_drew)); exact HO_9.out, by repeat (first | (with_reducible first | exact HB.out | apply below_alloc | apply pw_below_drewN | apply below_drew1) | exact HB.out)⟩
                        · rw [if_neg c36] at H
                          exact absurd H (by simp)
                  · rw [if_neg c31] at H
                    have c31b0 : ((Int.tmod t447 12) == 3) = false := beq_eq_false_iff_ne.mpr c31
                    have c31b1 : ((Int.tmod t447 12) != 3) = true := bne_iff_ne.mpr c31
                    by_cases c60 : (Int.tmod t447 12) = 4
                    · rw [if_pos c60] at H
                      have c60b0 : ((Int.tmod t447 12) == 4) = true := beq_iff_eq.mpr c60
                      have c60b1 : ((Int.tmod t447 12) != 4) = false := bne_eq_false_iff_eq.mpr c60
                      clear c60
                      by_cases c61 : x9_1.length < 17592186044416
                      · rw [if_pos c61] at H
                        have LMc61 := Aside0.mk c61
                        clear c61
                        obtain ⟨y485, hy485⟩ : ∃ y_ : List Int, y_ = (x9_1 ++ [0]) := ⟨_, rfl⟩
                        replace H : (if y485.length < 17592186044416 then (some ((y485 ++ [18446744073709551615]), x6_28)) else (none)) = some (r1, r2) := by first | (rw [hy485]; with_reducible exact H) | (have H2_ := (Option.bind_some _ _).symm.trans H; rw [hy485]; with_reducible exact H2_) | (have H2_ := (Option.bind_some _ _).symm.trans H; with_reducible exact H2_) | with_reducible exact H | (rw [hy485]; exact H) | exact H
                        have Ny485 := Aside0.mk hy485
                        clear hy485
                        by_cases c62 : y485.length < 17592186044416
                        · rw [if_pos c62] at H
                          have LMc62 := Aside0.mk c62
                          clear c62
                          obtain ⟨y488, hy488⟩ : ∃ y_ : List Int, y_ = (y485 ++ [18446744073709551615]) := ⟨_, rfl⟩
                          replace H : (some (y488, x6_28)) = some (r1, r2) := by first | (rw [hy488]; with_reducible exact H) | (have H2_ := (Option.bind_some _ _).symm.trans H; rw [hy488]; with_reducible exact H2_) | (have H2_ := (Option.bind_some _ _).symm.trans H; with_reducible exact H2_) | with_reducible exact H | (rw [hy488]; exact H) | exact H
                          have Ny488 := Aside0.mk hy488
                          clear hy488
                          simp only [Option.some.injEq, Prod.mk.injEq] at H
                          obtain ⟨rfl, rfl⟩ := H
                          go_wp2_with (first | ((with_reducible refine gate_builtin (b := .append) (xs := #[.tmp 89, .tmp 90]) rfl ?_); at_builtin; refine Kd.Q_append (Kd.int .u64) (w0 := w) w.heap.size rfl (.tmp 89) (.tmp 90) 37 22 (.int .u64 0) 8 rfl Try.underlying37 info22 rfl (by decide) (by omega) u9 x9_1 0 [.int .u64 0] (fun _ => True) (fun _ => False) rfl rfl ?aP (fun _ hk => hk.elim) ?aF ?aO ?aB ?aS ?aL ?_; (case aP => exact rfl); (case aB => exact (by repeat (first | (with_reducible first | exact HB.out | apply below_alloc | apply pw_below_drewN | apply below_drew1 | refine below_set ?_ (IsS175.ge HI446.out)) | exact HB.out))); (case aF => exact (fun _ _ => trivial)); (case aO => exact (by (with_reducible repeat (first | apply Kd.Q_alloc | apply Kd.Q_drewN | apply Kd.Q_drew)); exact HO_9.out)); (case aS => exact (below_size (by repeat (first | (with_reducible first | exact HB.out | apply below_alloc | apply pw_below_drewN | apply below_drew1 | refine below_set ?_ (IsS175.ge HI446.out)) | exact HB.out)))); (case aL => have := LMc61.out; omega); intro v486 w63 ho hb hg hat; rw [← Ny485.out] at ho; have n0_ := Aside0.mk (IsS175.grown (by repeat (first | (with_reducible first | exact HI446.out | apply IsS175.alloc | apply IsS175.drewN | apply IsS175.drew | apply IsS175.set_1) | exact HI446.out)) hg (IsS175.own_neQ HI446.out HO_9.out (by decide))); have n1_ := Aside0.mk (hb); have n2_ := Aside0.mk (ho); clear HI446; clear HB; clear HO_9; have HI446 := n0_; have HB := n1_; have HO487 := n2_; clear n0_ n1_ n2_; clear ho hb hg hat) | ((with_reducible refine gate_builtin (b := .append) (xs := #[.tmp 92, .tmp 93]) rfl ?_); at_builtin; refine Kd.Q_append (Kd.int .u64) (w0 := w) w.heap.size rfl (.tmp 92) (.tmp 93) 37 22 (.int .u64 0) 8 rfl Try.underlying37 info22 rfl (by decide) (by omega) v486 y485 18446744073709551615 [.int .u64 18446744073709551615] (fun _ => True) (fun _ => False) rfl rfl ?aP (fun _ hk => hk.elim) ?aF ?aO ?aB ?aS ?aL ?_; (case aP => exact rfl); (case aB => exact (by repeat (first | (with_reducible first | exact HB.out | apply below_alloc | apply pw_below_drewN | apply below_drew1 | refine below_set ?_ (IsS175.ge HI446.out)) | exact HB.out))); (case aF => exact (fun _ _ => trivial)); (case aO => exact (by (with_reducible repeat (first | apply Kd.Q_alloc | apply Kd.Q_drewN | apply Kd.Q_drew)); exact HO487.out)); (case aS => exact (below_size (by repeat (first | (with_reducible first | exact HB.out | apply below_alloc | apply pw_below_drewN | apply below_drew1 | refine below_set ?_ (IsS175.ge HI446.out)) | exact HB.out)))); (case aL => have := LMc62.out; omega); intro v489 w64 ho hb hg hat; rw [← Ny488.out] at ho; have n0_ := Aside0.mk (IsS175.grown (by repeat (first | (with_reducible first | exact HI446.out | apply IsS175.alloc | apply IsS175.drewN | apply IsS175.drew | apply IsS175.set_1) | exact HI446.out)) hg (IsS175.own_neQ HI446.out HO487.out (by decide))); have n1_ := Aside0.mk (hb); have n2_ := Aside0.mk (ho); clear HI446; clear HB; clear HO487; have HI446 := n0_; have HB := n1_; have HO490 := n2_; clear n0_ n1_ n2_; clear ho hb hg hat))
                          go_ret2
                          exact ⟨_, by first | rfl | (simp [errW_none, errW_some] <;> rfl) | (simp [*, errW_none, errW_some] <;> rfl), by (with_reducible repeat (first | apply Kd.Q_alloc | apply Kd.Q_drewN | apply Kd.Q_drew)); exact HO490.out, by repeat (first | (with_reducible first | exact HB.out | apply below_alloc | apply pw_below_drewN | apply below_drew1 | refine below_set ?_ (IsS175.ge HI446.out)) | exact HB.out)⟩
                        · rw [if_neg c62] at H
                          exact absurd H (by simp)
                      · rw [if_neg c61] at H
                        exact absurd H (by simp)
                    · rw [if_neg c60] at H
                      have c60b0 : ((Int.tmod t447 12) == 4) = false := beq_eq_false_iff_ne.mpr c60
                      have c60b1 : ((Int.tmod t447 12) != 4) = true := bne_iff_ne.mpr c60
                      simp only [Option.some.injEq, Prod.mk.injEq] at H
                      obtain ⟨rfl, rfl⟩ := H
                      go_wp2
                      go_ret2
                      exact ⟨_, by first | rfl | (simp [errW_none, errW_some] <;> rfl) | (simp [*, errW_none, errW_some] <;> rfl), by (with_reducible repeat (first | apply Kd.Q_alloc | apply Kd.Q_drewN | apply Kd.Q_drew)); exact HO_9.out, by repeat (first | (with_reducible first | exact HB.out | apply below_alloc | apply pw_below_drewN | apply below_drew1 | refine below_set ?_ (IsS175.ge HI446.out)) | exact HB.out)⟩

end Go.Proofs.Ytdipinclchkhjaa.P
