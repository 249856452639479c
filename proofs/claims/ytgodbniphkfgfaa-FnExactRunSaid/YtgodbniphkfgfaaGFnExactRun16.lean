import Derived.Test.YtgodbniphkfgfaaGFnExactRun5
import Derived.Test.YtgodbniphkfgfaaGFnExactRun13
import Derived.Test.YtgodbniphkfgfaaGFnExactRun15
import Derived.Test.YtgodbniphkfgfaaGFnExactRun14
import Derived.Test.YtgodbniphkfgfaaGFnExactRun8
import Derived.Handy
import Derived.Deep.LoopGhost
import Derived.Deep.QuietTactic
import Derived.BigQuiet
import Derived.StillTailTactics
namespace Go.Proofs.Ytgodbniphkfgfaa.P
open Go.RowKit Go.Proofs.YtgodbniphkfgfaaW.PrintWords Go.Proofs.YtgodbniphkfgfaaW.PrintLast Go.Proofs.YtgodbniphkfgfaaW.PrintMore
attribute [local go_sem] max2_int min2_int max_two min_two max_three min_three max_four min_four   -- for this text's walks alone
set_option linter.unusedVariables false
set_option linter.unusedSimpArgs false

/-! ### spec_l1valid: function 37 -/
def spec_l1valid.f (k : Nat) (l0 : List (S54)) : Option (Bool) := (spec_Validate.f k l0).bind fun bt278 => (some (bt278.1 == 0))
set_option maxHeartbeats 8000000 in
set_option maxRecDepth 100000 in
theorem spec_l1valid.calls (k : Nat) (A0 : Option Addr) (c0 : Nat) (l0 : List (S54)) (r : Bool) (w : World) (hr0 : Kd.C k54 w A0 l0.length l0) (hc0 : l0.length ≤ c0) (h : spec_l1valid.f k l0 = some r) :
    Calls Try.prog 37 #[.slice A0 l0.length c0] w fun e w' => e = .returned (.bool r) ∧ Below w.heap.size w w' := by
  have HR0 := Aside0.mk hr0
  have HC0 := Aside0.mk hc0
  clear hr0 hc0
  have HB := Aside0.mk (Below.refl w.heap.size w)
  have H : ((spec_Validate.f k l0).bind fun bt278 => (some (bt278.1 == 0))) = some r := h
  clear h
  replace H := Option.bind_eq_some_iff.mp H
  obtain ⟨⟨t278, t279⟩, A20, H⟩ := H
  replace H : (some (t278 == 0)) = some r := H
  have A2 := Aside0.mk A20
  clear A20
  obtain rfl := Option.some.inj H
  go_enter Try.func37, Try.ntmps37
  go_wp2_with (first | ((with_reducible refine gate_callee (f := 26) rfl ?_); refine goesL_ (some 7) rfl rfl Try.func26 (by kernel_rfl) rfl #[.slice A0 l0.length c0] rfl (by (try simp only [List.map_toArray, List.map_cons, List.map_nil]); first | done | rfl | (simp only [List.length_drop, List.length_take]; rfl)) ?_; (with_reducible refine (spec_Validate.calls k _ _ l0 t278 t279 _ ?side1 ?side2 A2.out).mono ?_); (case side1 => repeat (first | exact HR0.out | (with_reducible refine Kd.C_alloc ?_ _) | (with_reducible refine Kd.C_drewN ?_ _) | (with_reducible refine Kd.C_drew ?_))); (case side2 => exact HC0.out); rintro e w3 ⟨rfl, hb⟩; refine ⟨_, rfl, ?_⟩; have n0_ := Aside0.mk (below_step (by repeat (first | (with_reducible first | exact HB.out | apply below_alloc | apply pw_below_drewN | apply below_drew1) | exact HB.out)) hb); clear HB; have HB := n0_; clear n0_; (try clear hb); (try clear hb2); (try clear hk); (try clear hi)))
  go_ret
  exact ⟨by first | rfl | (simp [errW_none, errW_some] <;> rfl) | (simp [*, errW_none, errW_some] <;> rfl), by repeat (first | (with_reducible first | exact HB.out | apply below_alloc | apply pw_below_drewN | apply below_drew1) | exact HB.out)⟩

end Go.Proofs.Ytgodbniphkfgfaa.P

namespace Go.Proofs.Ytgodbniphkfgfaa.P
open Go.RowKit Go.Proofs.YtgodbniphkfgfaaW.PrintWords Go.Proofs.YtgodbniphkfgfaaW.PrintLast Go.Proofs.YtgodbniphkfgfaaW.PrintMore
attribute [local go_sem] max2_int min2_int max_two min_two max_three min_three max_four min_four   -- for this text's walks alone
set_option linter.unusedVariables false
set_option linter.unusedSimpArgs false

/-! ### spec_l1run: function 38 -/
def spec_l1run.f (k : Nat) (l0 : List (S54)) (l1 : List Int) : Option (Int × Int) := if 16 ≤ 35184372088832 then ((spec_l1go.f k l0 l1 0 0 (List.replicate 16 0)).bind fun bt396 => (some (bt396.1, bt396.2))) else (none)
set_option maxHeartbeats 8000000 in
set_option maxRecDepth 100000 in
theorem spec_l1run.calls (k : Nat) (A0 : Option Addr) (c0 : Nat) (l0 : List (S54)) (A1 : Option Addr) (c1 : Nat) (l1 : List Int) (r1 : Int) (r2 : Int) (w : World) (hr0 : Kd.C k54 w A0 l0.length l0) (hc0 : l0.length ≤ c0) (hr1 : Kd.C (Kd.int .u8) w A1 l1.length l1) (hc1 : l1.length ≤ c1) (h : spec_l1run.f k l0 l1 = some (r1, r2)) :
    Calls Try.prog 38 #[.slice A0 l0.length c0, .slice A1 l1.length c1] w fun e w' => e = .returned (.tuple #[.int .i64 r1, .int .i64 r2]) ∧ Below w.heap.size w w' := by
  have hu98 := Try.underlying98
  have HR0 := Aside0.mk hr0
  have HC0 := Aside0.mk hc0
  clear hr0 hc0
  have HR1 := Aside0.mk hr1
  have HC1 := Aside0.mk hc1
  clear hr1 hc1
  have HB := Aside0.mk (Below.refl w.heap.size w)
  have H : (if 16 ≤ 35184372088832 then ((spec_l1go.f k l0 l1 0 0 (List.replicate 16 0)).bind fun bt396 => (some (bt396.1, bt396.2))) else (none)) = some (r1, r2) := h
  clear h
  by_cases c3 : 16 ≤ 35184372088832
  · rw [if_pos c3] at H
    have c3b0 := eq_true c3
    have c3b1 : decide (16 ≤ 35184372088832) = true := decide_eq_true c3
    clear c3
    obtain ⟨y393, hy393⟩ : ∃ y_ : List Int, y_ = (List.replicate 16 0) := ⟨_, rfl⟩
    replace H : ((spec_l1go.f k l0 l1 0 0 y393).bind fun bt396 => (some (bt396.1, bt396.2))) = some (r1, r2) := by first | (rw [hy393]; with_reducible exact H) | (have H2_ := (Option.bind_some _ _).symm.trans H; rw [hy393]; with_reducible exact H2_) | (have H2_ := (Option.bind_some _ _).symm.trans H; with_reducible exact H2_) | with_reducible exact H | (rw [hy393]; exact H) | exact H
    have Ny393 := Aside0.mk hy393
    clear hy393
    replace H := Option.bind_eq_some_iff.mp H
    obtain ⟨⟨t396, t397⟩, A40, H⟩ := H
    replace H : (some (t396, t397)) = some (r1, r2) := H
    have A4 := Aside0.mk A40
    clear A40
    simp only [Option.some.injEq, Prod.mk.injEq] at H
    obtain ⟨rfl, rfl⟩ := H
    go_enter Try.func38, Try.ntmps38
    go_wp2_with (first | ((with_reducible refine gate_dst (N := 8) rfl ?_); refine Kd.R_make (Kd.int .i64) _ 3 rfl (N := 8) rfl 96 _ _ rfl 16 rfl rfl Try.underlying96 (.int .i64 0) 8 info3 rfl (by decide) (by omega) 0 (ok := fun _ => True) (okp := fun _ => True) rfl (fun _ hk => hk) trivial (by omega) (by omega) (Below.refl _ _) (Nat.le_refl _) ?_; intro v394 w5 ho6 hb hg_ hnew_; clear hg_ hnew_; (first | rw [← Ny393.out] at ho6 | (simp only [Int.reduceToNat] at ho6; rw [← Ny393.out] at ho6)); have n0_ := Aside0.mk (Kd.R_lower ho6 (below_size (by repeat (first | (with_reducible first | exact HB.out | apply below_alloc | apply pw_below_drewN | apply below_drew1) | exact HB.out)))); have n1_ := Aside0.mk (below_step (by repeat (first | (with_reducible first | exact HB.out | apply below_alloc | apply pw_below_drewN | apply below_drew1) | exact HB.out)) hb); clear HB; have HO395 := n0_; have HB := n1_; clear n0_ n1_; clear hb ho6; obtain ⟨Ao7, co7, eo7⟩ := Kd.R_slice HO395.out; subst eo7) | ((with_reducible refine gate_callee (f := 54) rfl ?_); refine goesL_ (some 10) rfl rfl Try.func54 (by kernel_rfl) rfl #[.slice A0 l0.length c0, .slice A1 l1.length c1, .agg #[.int .i64 0, .int .i64 0, .slice Ao7 y393.length co7]] rfl (by (try simp only [List.map_toArray, List.map_cons, List.map_nil]); first | done | rfl | (simp only [List.length_drop, List.length_take]; rfl)) ?_; (with_reducible refine (spec_l1go.calls k _ _ l0 _ _ l1 0 0 _ _ y393 t396 t397 _ ?side1 ?side2 ?side3 ?side4 ?side5 ?side6 A4.out).mono ?_); (case side1 => repeat (first | exact (Kd.C_below HR0.out HB.out) | (with_reducible refine Kd.C_alloc ?_ _) | (with_reducible refine Kd.C_drewN ?_ _) | (with_reducible refine Kd.C_drew ?_))); (case side2 => exact HC0.out); (case side3 => repeat (first | exact (Kd.C_below HR1.out HB.out) | (with_reducible refine Kd.C_alloc ?_ _) | (with_reducible refine Kd.C_drewN ?_ _) | (with_reducible refine Kd.C_drew ?_))); (case side4 => exact HC1.out); (case side5 => repeat (first | exact (Kd.R_reads' HO395.out).2.2 | (with_reducible refine Kd.C_alloc ?_ _) | (with_reducible refine Kd.C_drewN ?_ _) | (with_reducible refine Kd.C_drew ?_))); (case side6 => exact (Kd.R_reads' HO395.out).2.1); rintro e w8 ⟨rfl, hb⟩; refine ⟨_, rfl, ?_⟩; have n0_ := Aside0.mk (Kd.R_below (by (with_reducible repeat (first | apply Kd.R_alloc | apply Kd.R_drewN | apply Kd.R_drew)); exact HO395.out) hb); have n1_ := Aside0.mk (below_step (by repeat (first | (with_reducible first | exact HB.out | apply below_alloc | apply pw_below_drewN | apply below_drew1) | exact HB.out)) hb); clear HO395; clear HB; have HO395 := n0_; have HB := n1_; clear n0_ n1_; (try clear hb); (try clear hb2); (try clear hk); (try clear hi)))
    go_ret2
    exact ⟨by first | rfl | (simp [errW_none, errW_some] <;> rfl) | (simp [*, errW_none, errW_some] <;> rfl), by repeat (first | (with_reducible first | exact HB.out | apply below_alloc | apply pw_below_drewN | apply below_drew1) | exact HB.out)⟩
  · rw [if_neg c3] at H
    exact absurd H (by simp)

end Go.Proofs.Ytgodbniphkfgfaa.P

namespace Go.Proofs.Ytgodbniphkfgfaa.P
open Go.RowKit Go.Proofs.YtgodbniphkfgfaaW.PrintWords Go.Proofs.YtgodbniphkfgfaaW.PrintLast Go.Proofs.YtgodbniphkfgfaaW.PrintMore
attribute [local go_sem] max2_int min2_int max_two min_two max_three min_three max_four min_four   -- for this text's walks alone
set_option linter.unusedVariables false
set_option linter.unusedSimpArgs false

/-! ### spec_Run: function 22 -/
def spec_Run.f (k : Nat) (l0 : List (S54)) (l1 : List Int) : Option (Int × Int × Int) := (spec_l1valid.f k l0).bind fun t398 => (if t398 = true then (if (l1.length : Int) = 64 then ((spec_l1run.f k l0 l1).bind fun bt399 => (some ((bt399.1) % 4294967296, bt399.2, 0))) else (some (0, 0, 1))) else (some (0, 0, 1)))
set_option maxHeartbeats 8000000 in
set_option maxRecDepth 100000 in
theorem spec_Run.calls (k : Nat) (A0 : Option Addr) (c0 : Nat) (l0 : List (S54)) (A1 : Option Addr) (c1 : Nat) (l1 : List Int) (r1 : Int) (r2 : Int) (r3 : Int) (w : World) (hr0 : Kd.C k54 w A0 l0.length l0) (hc0 : l0.length ≤ c0) (hr1 : Kd.C (Kd.int .u8) w A1 l1.length l1) (hc1 : l1.length ≤ c1) (h : spec_Run.f k l0 l1 = some (r1, r2, r3)) :
    Calls Try.prog 22 #[.slice A0 l0.length c0, .slice A1 l1.length c1] w fun e w' => e = .returned (.tuple #[.int .u32 r1, .int .i64 r2, .int .i64 r3]) ∧ Below w.heap.size w w' := by
  have HR0 := Aside0.mk hr0
  have HC0 := Aside0.mk hc0
  clear hr0 hc0
  have HR1 := Aside0.mk hr1
  have HC1 := Aside0.mk hc1
  clear hr1 hc1
  have HB := Aside0.mk (Below.refl w.heap.size w)
  have H : ((spec_l1valid.f k l0).bind fun t398 => (if t398 = true then (if (l1.length : Int) = 64 then ((spec_l1run.f k l0 l1).bind fun bt399 => (some ((bt399.1) % 4294967296, bt399.2, 0))) else (some (0, 0, 1))) else (some (0, 0, 1)))) = some (r1, r2, r3) := h
  clear h
  replace H := Option.bind_eq_some_iff.mp H
  obtain ⟨t398, A30, H⟩ := H
  replace H : (if t398 = true then (if (l1.length : Int) = 64 then ((spec_l1run.f k l0 l1).bind fun bt399 => (some ((bt399.1) % 4294967296, bt399.2, 0))) else (some (0, 0, 1))) else (some (0, 0, 1))) = some (r1, r2, r3) := H
  have A3 := Aside0.mk A30
  clear A30
  by_cases c4 : t398 = true
  · subst c4
    have H1 : (if (l1.length : Int) = 64 then ((spec_l1run.f k l0 l1).bind fun bt399 => (some ((bt399.1) % 4294967296, bt399.2, 0))) else (some (0, 0, 1))) = some (r1, r2, r3) := by rw [if_pos rfl] at H; exact H
    clear H
    have H := H1
    clear H1
    by_cases c5 : (l1.length : Int) = 64
    · rw [if_pos c5] at H
      have c5b0 : ((l1.length : Int) == 64) = true := beq_iff_eq.mpr c5
      have c5b1 : ((l1.length : Int) != 64) = false := bne_eq_false_iff_eq.mpr c5
      clear c5
      replace H := Option.bind_eq_some_iff.mp H
      obtain ⟨⟨t399, t400⟩, A60, H⟩ := H
      replace H : (some ((t399) % 4294967296, t400, 0)) = some (r1, r2, r3) := H
      have A6 := Aside0.mk A60
      clear A60
      simp only [Option.some.injEq, Prod.mk.injEq] at H
      obtain ⟨rfl, rfl, rfl⟩ := H
      go_enter Try.func22, Try.ntmps22
      go_wp2_with (first | ((with_reducible refine gate_callee (f := 37) rfl ?_); refine goesL_ (some 10) rfl rfl Try.func37 (by kernel_rfl) rfl #[.slice A0 l0.length c0] rfl (by (try simp only [List.map_toArray, List.map_cons, List.map_nil]); first | done | rfl | (simp only [List.length_drop, List.length_take]; rfl)) ?_; (with_reducible refine (spec_l1valid.calls k _ _ l0 true _ ?side1 ?side2 A3.out).mono ?_); (case side1 => repeat (first | exact HR0.out | (with_reducible refine Kd.C_alloc ?_ _) | (with_reducible refine Kd.C_drewN ?_ _) | (with_reducible refine Kd.C_drew ?_))); (case side2 => exact HC0.out); rintro e w7 ⟨rfl, hb⟩; refine ⟨_, rfl, ?_⟩; have n0_ := Aside0.mk (below_step (by repeat (first | (with_reducible first | exact HB.out | apply below_alloc | apply pw_below_drewN | apply below_drew1) | exact HB.out)) hb); clear HB; have HB := n0_; clear n0_; (try clear hb); (try clear hb2); (try clear hk); (try clear hi)) | ((with_reducible refine gate_callee (f := 38) rfl ?_); refine goesL_ (some 20) rfl rfl Try.func38 (by kernel_rfl) rfl #[.slice A0 l0.length c0, .slice A1 l1.length c1] rfl (by (try simp only [List.map_toArray, List.map_cons, List.map_nil]); first | done | rfl | (simp only [List.length_drop, List.length_take]; rfl)) ?_; (with_reducible refine (spec_l1run.calls k _ _ l0 _ _ l1 t399 t400 _ ?side1 ?side2 ?side3 ?side4 A6.out).mono ?_); (case side1 => repeat (first | exact (Kd.C_below HR0.out HB.out) | (with_reducible refine Kd.C_alloc ?_ _) | (with_reducible refine Kd.C_drewN ?_ _) | (with_reducible refine Kd.C_drew ?_))); (case side2 => exact HC0.out); (case side3 => repeat (first | exact (Kd.C_below HR1.out HB.out) | (with_reducible refine Kd.C_alloc ?_ _) | (with_reducible refine Kd.C_drewN ?_ _) | (with_reducible refine Kd.C_drew ?_))); (case side4 => exact HC1.out); rintro e w8 ⟨rfl, hb⟩; refine ⟨_, rfl, ?_⟩; have n0_ := Aside0.mk (below_step (by repeat (first | (with_reducible first | exact HB.out | apply below_alloc | apply pw_below_drewN | apply below_drew1) | exact HB.out)) hb); clear HB; have HB := n0_; clear n0_; (try clear hb); (try clear hb2); (try clear hk); (try clear hi)))
      go_ret3
      exact ⟨by first | rfl | (simp [errW_none, errW_some] <;> rfl) | (simp [*, errW_none, errW_some] <;> rfl), by repeat (first | (with_reducible first | exact HB.out | apply below_alloc | apply pw_below_drewN | apply below_drew1) | exact HB.out)⟩
    · rw [if_neg c5] at H
      have c5b0 : ((l1.length : Int) == 64) = false := beq_eq_false_iff_ne.mpr c5
      have c5b1 : ((l1.length : Int) != 64) = true := bne_iff_ne.mpr c5
      simp only [Option.some.injEq, Prod.mk.injEq] at H
      obtain ⟨rfl, rfl, rfl⟩ := H
      go_enter Try.func22, Try.ntmps22
      go_wp2_with (first | ((with_reducible refine gate_callee (f := 37) rfl ?_); refine goesL_ (some 10) rfl rfl Try.func37 (by kernel_rfl) rfl #[.slice A0 l0.length c0] rfl (by (try simp only [List.map_toArray, List.map_cons, List.map_nil]); first | done | rfl | (simp only [List.length_drop, List.length_take]; rfl)) ?_; (with_reducible refine (spec_l1valid.calls k _ _ l0 true _ ?side1 ?side2 A3.out).mono ?_); (case side1 => repeat (first | exact HR0.out | (with_reducible refine Kd.C_alloc ?_ _) | (with_reducible refine Kd.C_drewN ?_ _) | (with_reducible refine Kd.C_drew ?_))); (case side2 => exact HC0.out); rintro e w9 ⟨rfl, hb⟩; refine ⟨_, rfl, ?_⟩; have n0_ := Aside0.mk (below_step (by repeat (first | (with_reducible first | exact HB.out | apply below_alloc | apply pw_below_drewN | apply below_drew1) | exact HB.out)) hb); clear HB; have HB := n0_; clear n0_; (try clear hb); (try clear hb2); (try clear hk); (try clear hi)))
      go_ret3
      exact ⟨by first | rfl | (simp [errW_none, errW_some] <;> rfl) | (simp [*, errW_none, errW_some] <;> rfl), by repeat (first | (with_reducible first | exact HB.out | apply below_alloc | apply pw_below_drewN | apply below_drew1) | exact HB.out)⟩
  · replace c4 := Bool.eq_false_iff.mpr c4
    subst c4
    have H1 : (some (0, 0, 1)) = some (r1, r2, r3) := by rw [if_neg (show ¬ (false = true) by decide)] at H; exact H
    clear H
    have H := H1
    clear H1
    simp only [Option.some.injEq, Prod.mk.injEq] at H
    obtain ⟨rfl, rfl, rfl⟩ := H
    go_enter Try.func22, Try.ntmps22
    go_wp2_with (first | ((with_reducible refine gate_callee (f := 37) rfl ?_); refine goesL_ (some 10) rfl rfl Try.func37 (by kernel_rfl) rfl #[.slice A0 l0.length c0] rfl (by (try simp only [List.map_toArray, List.map_cons, List.map_nil]); first | done | rfl | (simp only [List.length_drop, List.length_take]; rfl)) ?_; (with_reducible refine (spec_l1valid.calls k _ _ l0 false _ ?side1 ?side2 A3.out).mono ?_); (case side1 => repeat (first | exact HR0.out | (with_reducible refine Kd.C_alloc ?_ _) | (with_reducible refine Kd.C_drewN ?_ _) | (with_reducible refine Kd.C_drew ?_))); (case side2 => exact HC0.out); rintro e w10 ⟨rfl, hb⟩; refine ⟨_, rfl, ?_⟩; have n0_ := Aside0.mk (below_step (by repeat (first | (with_reducible first | exact HB.out | apply below_alloc | apply pw_below_drewN | apply below_drew1) | exact HB.out)) hb); clear HB; have HB := n0_; clear n0_; (try clear hb); (try clear hb2); (try clear hk); (try clear hi)))
    go_ret3
    exact ⟨by first | rfl | (simp [errW_none, errW_some] <;> rfl) | (simp [*, errW_none, errW_some] <;> rfl), by repeat (first | (with_reducible first | exact HB.out | apply below_alloc | apply pw_below_drewN | apply below_drew1) | exact HB.out)⟩

end Go.Proofs.Ytgodbniphkfgfaa.P

namespace Go.Proofs.Ytgodbniphkfgfaa.P
open Go.RowKit Go.Proofs.YtgodbniphkfgfaaW.PrintWords Go.Proofs.YtgodbniphkfgfaaW.PrintLast Go.Proofs.YtgodbniphkfgfaaW.PrintMore
attribute [local go_sem] max2_int min2_int max_two min_two max_three min_three max_four min_four   -- for this text's walks alone
set_option linter.unusedVariables false
set_option linter.unusedSimpArgs false

def newS : St := ⟨0, 0, List.replicate 16 0, 0, 0⟩
def impl_Run.f (k : Nat) (l0 : List S54) (l1 : List Int) : Option (Int × Int × Int) :=
  (impl_Validate.f k l0).bind fun v => if v.1 = 0 then (if l1.length = 64 then (runF k l0 l1 newS).bind fun q => some (q.1, q.2.st, 0) else some (0, 0, 1)) else some (0, 0, 1)
set_option maxHeartbeats 8000000 in
set_option maxRecDepth 100000 in
theorem impl_Run.calls (k : Nat) (A0 : Option Addr) (c0 : Nat) (l0 : List S54) (A1 : Option Addr) (c1 : Nat) (l1 : List Int) (r1 : Int) (r2 : Int) (r3 : Int) (w : World) (hr0 : Kd.C k54 w A0 l0.length l0) (hc0 : l0.length ≤ c0) (hr1 : Kd.C (Kd.int .u8) w A1 l1.length l1) (hc1 : l1.length ≤ c1) (h : impl_Run.f k l0 l1 = some (r1, r2, r3)) :
    Calls Try.prog 24 #[.slice A0 l0.length c0, .slice A1 l1.length c1] w fun e w' => e = .returned (.tuple #[.int .u32 r1, .int .i64 r2, .int .i64 r3]) ∧ Below w.heap.size w w' := by
  unfold impl_Run.f at h
  replace h := Option.bind_eq_some_iff.1 h
  obtain ⟨⟨v1, v2⟩, hv, h⟩ := h
  dsimp only at h
  have HV := Aside0.mk hv
  have HR0 := Aside0.mk hr0
  have HC0 := Aside0.mk hc0
  have HR1 := Aside0.mk hr1
  have HC1 := Aside0.mk hc1
  clear hv hr0 hc0 hr1 hc1
  by_cases cv : v1 = 0
  case neg =>
    rw [if_neg cv] at h
    simp only [Option.some.injEq, Prod.mk.injEq] at h
    obtain ⟨rfl, rfl, rfl⟩ := h
    have cb : (v1 != 0) = true := bne_iff_ne.2 cv
    clear cv
    go_enter Try.func24, Try.ntmps24
    go_wp2_with (go_at_call 28; refine (impl_Validate.calls k A0 c0 l0 v1 v2 _ HR0.out HC0.out HV.out).mono ?_; clear HV; rintro e w1 ⟨rfl, hb⟩; have HB := Aside0.mk hb; clear hb)
    go_returns
    exact ⟨rfl, HB.out⟩
  subst cv
  rw [if_pos rfl] at h
  by_cases c6 : l1.length = 64
  case neg =>
    rw [if_neg c6] at h
    simp only [Option.some.injEq, Prod.mk.injEq] at h
    obtain ⟨rfl, rfl, rfl⟩ := h
    have cb : ((l1.length : Int) != 64) = true := bne_iff_ne.2 (by omega)
    clear c6
    go_enter Try.func24, Try.ntmps24
    go_wp2_with (go_at_call 28; refine (impl_Validate.calls k A0 c0 l0 0 v2 _ HR0.out HC0.out HV.out).mono ?_; clear HV; rintro e w1 ⟨rfl, hb⟩; have HB := Aside0.mk hb; clear hb)
    go_returns
    exact ⟨rfl, HB.out⟩
  rw [if_pos c6] at h
  replace h := Option.bind_eq_some_iff.1 h
  obtain ⟨⟨q1, q2⟩, hq, h⟩ := h
  simp only [Option.some.injEq, Prod.mk.injEq] at h
  obtain ⟨rfl, rfl, rfl⟩ := h
  have HQ := Aside0.mk hq
  have cb : ((l1.length : Int) != 64) = false := by rw [bne_eq_false_iff_eq]; omega
  obtain ⟨R, rfl, _⟩ := Kd.at_int HR1.out 0 (by omega) (by omega)
  have hrec : ∀ i, i < 64 → w.cell? (R.add i) = some (.int .u8 (rd l1 (i : Int))) := fun i hi => by
    obtain ⟨R', e, he⟩ := Kd.at_int HR1.out (i : Int) (by omega) (by omega)
    obtain rfl := Option.some.inj e
    simpa only [Int.toNat_natCast] using he
  have HREC := Aside0.mk hrec
  have H6 := Aside0.mk c6
  rw [c6] at HC1 ⊢
  clear hq hrec c6
  have HDO := Aside0.mk (fun (w1 : World) (hb : Below w.heap.size w w1) => run_does k w1.heap.size R c1 l1 A0 c0 l0 newS q2 q1 HQ.out w (w1.alloc (.cells (mcells newS (.slice (some R) 64 c1)) 76)) ⟨blk_new w1 _, rfl⟩ HREC.out HC1.out HR0.out HC0.out hb.size (below_alloc hb _))
  go_enter Try.func24, Try.ntmps24
  go_wp2_with (first | (go_at_call 28; refine (impl_Validate.calls k A0 c0 l0 0 v2 _ HR0.out HC0.out HV.out).mono ?_; clear HV; rintro e w1 ⟨rfl, hb⟩; have HB := Aside0.mk hb; clear hb) | (go_at_call 40; refine (HDO.out _ HB.out).mono ?_; rintro e w2 ⟨rfl, hb2, hm2⟩; have HB2 := Aside0.mk hb2; have HM2 := Aside0.mk hm2; have hcs := HM2.out.cs; clear hb2 hm2))
  go_quiet (fail)
  go_wp2
  go_returns
  exact ⟨rfl, pw_below_drewN HB2.out _⟩

end Go.Proofs.Ytgodbniphkfgfaa.P

namespace Go.Proofs.Ytgodbniphkfgfaa.P
open Go.RowKit Go.Proofs.YtgodbniphkfgfaaW.PrintWords Go.Proofs.YtgodbniphkfgfaaW.PrintLast Go.Proofs.YtgodbniphkfgfaaW.PrintMore
set_option linter.unusedVariables false
set_option linter.unusedSimpArgs false
/-! What an instruction without fault says. -/
theorem fault_facts (x : S54) (i n : Int) (h : insFault x i n = 0) :
    sortN x.f0 ≠ 0 ∧ (x.f0 = 32 → x.f3 ≤ 60) ∧ (x.f0 = 96 ∨ x.f0 = 97 ∨ x.f0 = 2 ∨ x.f0 = 3 → x.f3 < 16) ∧ (x.f0 = 5 → i + 1 + x.f3 < n) ∧ (sortN x.f0 = 2 → i + 1 + x.f1 < n ∧ i + 1 + x.f2 < n) ∧ (i = n - 1 → x.f0 = 6 ∨ x.f0 = 22) := by
  unfold insFault at h
  by_cases c0 : sortN x.f0 = 0
  · rw [if_pos c0] at h; omega
  rw [if_neg c0] at h
  by_cases c1 : x.f0 = 32 ∧ (x.f3 % 4 ≠ 0 ∨ x.f3 > 60)
  · rw [if_pos c1] at h; omega
  rw [if_neg c1] at h
  unfold ft0 at h
  by_cases c2 : (x.f0 = 96 ∨ x.f0 = 97 ∨ x.f0 = 2 ∨ x.f0 = 3) ∧ x.f3 ≥ 16
  · rw [if_pos c2] at h; omega
  rw [if_neg c2] at h
  unfold ft1 at h
  by_cases c3 : x.f0 = 5 ∧ i + 1 + x.f3 ≥ n
  · rw [if_pos c3] at h; omega
  rw [if_neg c3] at h
  unfold ft2 at h
  by_cases c4 : sortN x.f0 = 2 ∧ (i + 1 + x.f1 ≥ n ∨ i + 1 + x.f2 ≥ n)
  · rw [if_pos c4] at h; omega
  rw [if_neg c4] at h
  unfold ft3 at h
  by_cases c5 : x.f0 = 52 ∧ x.f3 = 0
  · rw [if_pos c5] at h; omega
  rw [if_neg c5] at h
  unfold ft4 at h
  by_cases c6 : (x.f0 = 100 ∨ x.f0 = 116) ∧ x.f3 ≥ 32
  · rw [if_pos c6] at h; omega
  rw [if_neg c6] at h
  unfold ft5 at h
  by_cases c7 : i = n - 1 ∧ x.f0 ≠ 6 ∧ x.f0 ≠ 22
  · rw [if_pos c7] at h; omega
  clear h
  refine ⟨c0, fun e => by omega, fun e => by omega, fun e => by omega, fun e => ?_, fun e => by omega⟩
  exact ⟨Int.not_le.1 (fun h2 => c4 ⟨e, .inl h2⟩), Int.not_le.1 (fun h2 => c4 ⟨e, .inr h2⟩)⟩
theorem faultFrom_none (l : List S54) (n : Int) : ∀ (r : List S54) (i : Nat), (faultFrom l n i r).1 = 0 → ∀ j (h : j < r.length), insFault r[j] ((i + j : Nat) : Int) n = 0
  | [], _, _, j, h => absurd h (by simp)
  | x :: r, i, h, j, hj => by
    unfold faultFrom at h
    by_cases c : insFault x i n = 0
    · rw [if_pos c] at h
      cases j with
      | zero => exact c
      | succ j =>
        have := faultFrom_none l n r (i + 1) h j (by simpa using hj)
        rw [show i + 1 + j = i + (j + 1) by omega] at this
        exact this
    · rw [if_neg c] at h
      exact absurd h c
theorem valid_facts (l : List S54) (h : (validN l).1 = 0) : (1 ≤ l.length ∧ l.length ≤ 4096) ∧ ∀ j (hj : j < l.length), insFault l[j] (j : Int) l.length = 0 := by
  unfold validN at h
  by_cases c : l.length < 1 ∨ l.length > 4096
  · rw [if_pos c] at h; exact absurd h (by decide)
  · rw [if_neg c] at h
    refine ⟨by omega, fun j hj => ?_⟩
    have := faultFrom_none l l.length l 0 h j hj
    rw [Nat.zero_add] at this
    exact this
/-! The codes, by what they do. -/
def aluCodes : List Int := [4, 12, 20, 28, 36, 44, 52, 60, 68, 76, 84, 92, 164, 172, 100, 108, 116, 124, 132]
theorem code_cases (c : Int) (h : sortN c ≠ 0) : c ∈ aluCodes ∨ (c = 0 ∨ c = 1 ∨ c = 7 ∨ c = 135) ∨ c = 32 ∨ (c = 96 ∨ c = 97) ∨ (c = 2 ∨ c = 3) ∨ c = 5 ∨ isTest c ∨ c = 6 ∨ c = 22 := by
  unfold sortN at h
  split at h
  · rename_i h1
    simp only [plainCodes, List.mem_cons, List.not_mem_nil, or_false] at h1
    simp only [aluCodes, List.mem_cons, List.not_mem_nil, or_false]
    omega
  · split at h
    · rename_i h1; simp [h1]
    · split at h
      · rename_i h1
        simp only [testCodes, List.mem_cons, List.not_mem_nil, or_false] at h1
        unfold isTest
        omega
      · split at h
        · rename_i h1
          simp only [endCodes, List.mem_cons, List.not_mem_nil, or_false] at h1
          omega
        · exact absurd rfl h
def vN (c k x : Int) : Int := if c / 8 % 2 = 1 then x else k
/-! The program's step, for each kind. -/
theorem stepF_alu (rec : List Int) (c t f k : Int) (s : St) (hc : c ∈ aluCodes) (k0 : 0 ≤ k) (a0 : 0 ≤ s.a) (a1 : s.a < 4294967296) (x0 : 0 ≤ s.x) :
    stepF rec ⟨c, t, f, k⟩ s = if c / 16 = 3 ∧ vN c k s.x = 0 then some (s, some 2147483648) else some ({ s with a := aluN (c / 16) s.a (vN c k s.x) }, none) := by
  simp only [aluCodes, List.mem_cons, List.not_mem_nil, or_false] at hc
  unfold stepF
  rw [if_pos ⟨k0, a0, a1, x0⟩]
  dsimp only
  rcases hc with rfl | rfl | rfl | rfl | rfl | rfl | rfl | rfl | rfl | rfl | rfl | rfl | rfl | rfl | rfl | rfl | rfl | rfl | rfl
  case inr.inr.inr.inr.inr.inr.inl =>
    have e : vN 52 k s.x = k := rfl
    rw [e]
    by_cases h : k = 0
    · simp [isMove, isNum, divS, h]
    · simp [isMove, isNum, divS, h, aluN]
  case inr.inr.inr.inr.inr.inr.inr.inl =>
    have e : vN 60 k s.x = s.x := rfl
    rw [e]
    by_cases h : s.x = 0
    · simp [isMove, isNum, divS, h]
    · simp [isMove, isNum, divS, h, aluN]
  all_goals
    refine Eq.trans ?_ (if_neg (fun h => absurd h.1 (by decide))).symm
    rfl
theorem stepF_test (rec : List Int) (c t f k : Int) (s : St) (hc : isTest c) (k0 : 0 ≤ k) (a0 : 0 ≤ s.a) (a1 : s.a < 4294967296) (x0 : 0 ≤ s.x) :
    stepF rec ⟨c, t, f, k⟩ s = some ({ s with p := wrap64 (s.p + wrap64 (if holdsN (c / 16) s.a (vN c k s.x) = true then t else f)) }, none) := by
  unfold isTest at hc
  unfold stepF
  rw [if_pos ⟨k0, a0, a1, x0⟩]
  dsimp only
  rcases hc with rfl | rfl | rfl | rfl | rfl | rfl | rfl | rfl
  all_goals rfl
/-! The reference's step. -/
def goCont (k : Nat) (rest : List S54) (rec : List Int) (a x : Int) (m : List Int) (s : Int) : Option (Int × Int) :=
  if 0 ≤ wrap64 (1 + s) then (if wrap64 (1 + s) ≤ (rest.length : Int) then ((spec_l1go.f k (rest.drop (wrap64 (1 + s)).toNat) rec a x m).bind fun bt => some (bt.1, wrap64 (bt.2 + 1))) else none) else none
theorem goCont_ev (rest : List S54) (rec : List Int) (a x : Int) (m : List Int) (s : Nat) (hs : 1 + s ≤ rest.length) (hl : rest.length ≤ 4096) (v t : Int) (h : Ev (fun k => spec_l1go.f k (rest.drop (1 + s)) rec a x m) (v, t)) :
    Ev (fun k => goCont k rest rec a x m (s : Int)) (v, wrap64 (t + 1)) := by
  have e : wrap64 (1 + (s : Int)) = ((1 + s : Nat) : Int) := by rw [wrap64_id (by omega) (by omega)]; omega
  obtain ⟨K, h⟩ := ev_get h
  refine ev_mk K fun k hk => ?_
  unfold goCont
  rw [e, if_pos (by omega), if_pos (by omega), Int.toNat_natCast]
  exact bo (h k hk) rfl
theorem go_open (k : Nat) (rest : List S54) (rec : List Int) (a x : Int) (m : List Int) (h0 : 0 < rest.length) (hR : InsR rest[0]) :
    spec_l1go.f (k + 2) rest rec a x m = spec_l1go.j1 k rest rec rest[0].f0 rest[0].f3 (rest[0].f0 % 8) (rest[0].f0 / 16) 0 (if (rest[0].f0 % 8 ≥ 4 ∧ rest[0].f0 % 8 ≤ 6) ∧ rest[0].f0 / 8 % 2 = 1 then x else rest[0].f3) a x m := by
  have hrd : rd_T54 rest 0 = rest[0] := rdIns_eq rest 0 h0
  obtain ⟨⟨a0, a1⟩, _, _, d0, d1⟩ := hR
  rw [spec_l1go.f, hrd]
  generalize rest[0].f0 = c at *
  generalize rest[0].f3 = kk at *
  rw [if_pos (by omega), wrap64_id (i := c) (by omega) (by omega), wrap64_id (i := kk) (by omega) (by omega), Int.tmod_eq_emod_of_nonneg (a := c) a0, Int.tdiv_eq_ediv_of_nonneg a0, Int.tdiv_eq_ediv_of_nonneg a0, wrap64_id (i := c / 16) (by omega) (by omega), wrap64_id (i := c / 8) (by omega) (by omega), Int.tmod_eq_emod_of_nonneg (a := c / 8) (by omega)]
  by_cases c1 : c % 8 ≥ 4
  · rw [if_pos c1]
    by_cases c2 : c % 8 ≤ 6
    · rw [if_pos c2, spec_l1go.j0]
      by_cases c3 : c / 8 % 2 = 1
      · rw [if_pos (by simp [c3]), if_pos ⟨⟨c1, c2⟩, c3⟩]
      · rw [if_neg (by simp [c3]), if_neg (fun h => c3 h.2)]
    · rw [if_neg c2, spec_l1go.j0, if_neg (by decide), if_neg (fun h => c2 h.1.2)]
  · rw [if_neg c1, spec_l1go.j0, if_neg (by decide), if_neg (fun h => c1 h.1.1)]
theorem j1_alu (k : Nat) (rest : List S54) (rec : List Int) (c kk op s v a x : Int) (m : List Int) :
    spec_l1go.j1 (k + 2) rest rec c kk 4 op s v a x m = if op = 3 ∧ v = 0 then some (2147483648, 1) else (spec_l1alu.f k op a v).bind fun t => goCont k rest rec t x m s := by
  rw [spec_l1go.j1, if_neg (by decide), if_pos rfl]
  by_cases c1 : op = 3
  · rw [if_pos c1, spec_l1go.j2]
    by_cases c2 : v = 0
    · rw [if_pos (by simp [c2]), if_pos ⟨c1, c2⟩]
    · rw [if_neg (by simp [c2]), if_neg (fun h => c2 h.2)]
      rfl
  · rw [if_neg c1, spec_l1go.j2, if_neg (by decide), if_neg (fun h => c1 h.1)]
    rfl
theorem j1_end (k : Nat) (rest : List S54) (rec : List Int) (c kk op s v a x : Int) (m : List Int) :
    spec_l1go.j1 (k + 1) rest rec c kk 6 op s v a x m = if op = 1 then some (a, 1) else some (kk, 1) := by
  rw [spec_l1go.j1, if_pos rfl]
theorem j1_jump (k : Nat) (rest : List S54) (rec : List Int) (kk op s v a x : Int) (m : List Int) :
    spec_l1go.j1 (k + 1) rest rec 5 kk 5 op s v a x m = goCont k rest rec a x m kk := by
  rw [spec_l1go.j1, if_neg (by decide), if_neg (by decide), if_pos rfl]
  rfl
theorem j1_test (k : Nat) (rest : List S54) (rec : List Int) (c kk op s v a x : Int) (m : List Int) (h0 : 0 < rest.length) (hR : InsR rest[0]) (hc : c ≠ 5) :
    spec_l1go.j1 (k + 1) rest rec c kk 5 op s v a x m = (spec_l1holds.f k op a v).bind fun t => goCont k rest rec a x m (if t = true then rest[0].f1 else rest[0].f2) := by
  have hrd : rd_T54 rest 0 = rest[0] := rdIns_eq rest 0 h0
  obtain ⟨_, ⟨b0, b1⟩, ⟨c0, c1⟩, _⟩ := hR
  rw [spec_l1go.j1, if_neg (by decide), if_neg (by decide), if_neg hc, if_pos rfl, if_pos (by omega), hrd, wrap64_id (i := rest[0].f1) (by omega) (by omega), wrap64_id (i := rest[0].f2) (by omega) (by omega)]
  refine congrArg _ (funext fun t => ?_)
  cases t <;> rfl
theorem j1_zero (k : Nat) (rest : List S54) (rec : List Int) (kk op s v a x : Int) (m : List Int) :
    spec_l1go.j1 (k + 1) rest rec 0 kk 0 op s v a x m = goCont k rest rec kk x m s := by
  rw [spec_l1go.j1, if_neg (by decide), if_neg (by decide), if_neg (by decide), if_neg (by decide), if_pos rfl]
  rfl
theorem j1_one (k : Nat) (rest : List S54) (rec : List Int) (kk op s v a x : Int) (m : List Int) :
    spec_l1go.j1 (k + 1) rest rec 1 kk 1 op s v a x m = goCont k rest rec a kk m s := by
  rw [spec_l1go.j1, if_neg (by decide), if_neg (by decide), if_neg (by decide), if_neg (by decide), if_neg (by decide), if_pos rfl]
  rfl
theorem j1_word (k : Nat) (rest : List S54) (rec : List Int) (kk op s v a x : Int) (m : List Int) :
    spec_l1go.j1 (k + 1) rest rec 32 kk 0 op s v a x m = (spec_l1word.f rec kk).bind fun t => goCont k rest rec t x m s := by
  rw [spec_l1go.j1, if_neg (by decide), if_neg (by decide), if_neg (by decide), if_neg (by decide), if_neg (by decide), if_neg (by decide), if_pos rfl]
  rfl
theorem j1_ma (k : Nat) (rest : List S54) (rec : List Int) (kk op s v a x : Int) (m : List Int) (h0 : 0 ≤ kk) (h1 : kk < (m.length : Int)) :
    spec_l1go.j1 (k + 1) rest rec 96 kk 0 op s v a x m = goCont k rest rec (rd m kk) x m s := by
  rw [spec_l1go.j1, if_neg (by decide), if_neg (by decide), if_neg (by decide), if_neg (by decide), if_neg (by decide), if_neg (by decide), if_neg (by decide), if_pos rfl, if_pos h0, if_pos h1]
  rfl
theorem j1_mx (k : Nat) (rest : List S54) (rec : List Int) (kk op s v a x : Int) (m : List Int) (h0 : 0 ≤ kk) (h1 : kk < (m.length : Int)) :
    spec_l1go.j1 (k + 1) rest rec 97 kk 1 op s v a x m = goCont k rest rec a (rd m kk) m s := by
  rw [spec_l1go.j1, if_neg (by decide), if_neg (by decide), if_neg (by decide), if_neg (by decide), if_neg (by decide), if_neg (by decide), if_neg (by decide), if_neg (by decide), if_pos rfl, if_pos h0, if_pos h1]
  rfl
theorem j1_pa (k : Nat) (rest : List S54) (rec : List Int) (kk op s v a x : Int) (m : List Int) :
    spec_l1go.j1 (k + 1) rest rec 2 kk 2 op s v a x m = (spec_l1put.f k m kk a).bind fun t => goCont k rest rec a x t s := by
  rw [spec_l1go.j1, if_neg (by decide), if_neg (by decide), if_neg (by decide), if_neg (by decide), if_neg (by decide), if_neg (by decide), if_neg (by decide), if_neg (by decide), if_neg (by decide), if_pos rfl]
  rfl
theorem j1_px (k : Nat) (rest : List S54) (rec : List Int) (kk op s v a x : Int) (m : List Int) :
    spec_l1go.j1 (k + 1) rest rec 3 kk 3 op s v a x m = (spec_l1put.f k m kk x).bind fun t => goCont k rest rec a x t s := by
  rw [spec_l1go.j1, if_neg (by decide), if_neg (by decide), if_neg (by decide), if_neg (by decide), if_neg (by decide), if_neg (by decide), if_neg (by decide), if_neg (by decide), if_neg (by decide), if_neg (by decide), if_pos rfl]
  rfl
theorem j1_tax (k : Nat) (rest : List S54) (rec : List Int) (kk op s v a x : Int) (m : List Int) :
    spec_l1go.j1 (k + 1) rest rec 7 kk 7 op s v a x m = goCont k rest rec a a m s := by
  rw [spec_l1go.j1, if_neg (by decide), if_neg (by decide), if_neg (by decide), if_neg (by decide), if_neg (by decide), if_neg (by decide), if_neg (by decide), if_neg (by decide), if_neg (by decide), if_neg (by decide), if_neg (by decide), if_pos rfl]
  rfl
theorem j1_txa (k : Nat) (rest : List S54) (rec : List Int) (kk op s v a x : Int) (m : List Int) :
    spec_l1go.j1 (k + 1) rest rec 135 kk 7 op s v a x m = goCont k rest rec x x m s := by
  rw [spec_l1go.j1, if_neg (by decide), if_neg (by decide), if_neg (by decide), if_neg (by decide), if_neg (by decide), if_neg (by decide), if_neg (by decide), if_neg (by decide), if_neg (by decide), if_neg (by decide), if_neg (by decide), if_neg (by decide)]
  rfl
end Go.Proofs.Ytgodbniphkfgfaa.P
