import Derived.Test.YtgodbniphkfgfaaGFnExactRun5
import Derived.Handy
import Derived.Deep.LoopGhost
import Derived.Deep.QuietTactic
import Derived.BigQuiet
import Derived.StillTailTactics
namespace Go.Proofs.Ytgodbniphkfgfaa.P
open Go.RowKit Go.Proofs.YtgodbniphkfgfaaW.PrintWords Go.Proofs.YtgodbniphkfgfaaW.PrintLast Go.Proofs.YtgodbniphkfgfaaW.PrintMore
attribute [local go_sem] max2_int min2_int max_two min_two max_three min_three max_four min_four   -- for this text's walks alone
set_option linter.unusedVariables false
set_option linter.unusedSimpArgs false

/-! ### spec_l1word: function 67 -/
def spec_l1word.f (l0 : List Int) (a1 : Int) : Option (Int) := if 0 ≤ a1 then (if a1 < (l0.length : Int) then (if 0 ≤ (wrap64 (a1 + 1)) then (if (wrap64 (a1 + 1)) < (l0.length : Int) then (if 0 ≤ (wrap64 (a1 + 2)) then (if (wrap64 (a1 + 2)) < (l0.length : Int) then (if 0 ≤ (wrap64 (a1 + 3)) then (if (wrap64 (a1 + 3)) < (l0.length : Int) then (some (wrap64 ((wrap64 ((wrap64 ((wrap64 (rd l0 a1)) + (wrap64 (256 * (wrap64 (rd l0 (wrap64 (a1 + 1)))))))) + (wrap64 (65536 * (wrap64 (rd l0 (wrap64 (a1 + 2)))))))) + (wrap64 (16777216 * (wrap64 (rd l0 (wrap64 (a1 + 3))))))))) else (none)) else (none)) else (none)) else (none)) else (none)) else (none)) else (none)) else (none)
set_option maxHeartbeats 8000000 in
set_option maxRecDepth 100000 in
theorem spec_l1word.calls (A0 : Option Addr) (c0 : Nat) (l0 : List Int) (a1 : Int) (r : Int) (w : World) (hr0 : Kd.C (Kd.int .u8) w A0 l0.length l0) (hc0 : l0.length ≤ c0) (h : spec_l1word.f l0 a1 = some r) :
    Calls Try.prog 67 #[.slice A0 l0.length c0, .int .i64 a1] w fun e w' => e = .returned (.int .i64 r) ∧ Drawn0 w w' := by
  have HR0 := Aside0.mk hr0
  have HC0 := Aside0.mk hc0
  clear hr0 hc0
  have H : (if 0 ≤ a1 then (if a1 < (l0.length : Int) then (if 0 ≤ (wrap64 (a1 + 1)) then (if (wrap64 (a1 + 1)) < (l0.length : Int) then (if 0 ≤ (wrap64 (a1 + 2)) then (if (wrap64 (a1 + 2)) < (l0.length : Int) then (if 0 ≤ (wrap64 (a1 + 3)) then (if (wrap64 (a1 + 3)) < (l0.length : Int) then (some (wrap64 ((wrap64 ((wrap64 ((wrap64 (rd l0 a1)) + (wrap64 (256 * (wrap64 (rd l0 (wrap64 (a1 + 1)))))))) + (wrap64 (65536 * (wrap64 (rd l0 (wrap64 (a1 + 2)))))))) + (wrap64 (16777216 * (wrap64 (rd l0 (wrap64 (a1 + 3))))))))) else (none)) else (none)) else (none)) else (none)) else (none)) else (none)) else (none)) else (none)) = some r := h
  clear h
  by_cases c3 : 0 ≤ a1
  · rw [if_pos c3] at H
    have c3b0 : decide (0 ≤ a1) = true := decide_eq_true c3
    clear c3
    by_cases c4 : a1 < (l0.length : Int)
    · rw [if_pos c4] at H
      have c4b0 : decide (a1 < (l0.length : Int)) = true := decide_eq_true c4
      clear c4
      obtain ⟨ji5, hji5⟩ : ∃ j_ : Int, (wrap64 (a1 + 1)) = j_ := ⟨_, rfl⟩
      replace H : (if 0 ≤ (ji5) then (if (ji5) < (l0.length : Int) then (if 0 ≤ (wrap64 (a1 + 2)) then (if (wrap64 (a1 + 2)) < (l0.length : Int) then (if 0 ≤ (wrap64 (a1 + 3)) then (if (wrap64 (a1 + 3)) < (l0.length : Int) then (some (wrap64 ((wrap64 ((wrap64 ((wrap64 (rd l0 a1)) + (wrap64 (256 * (wrap64 (rd l0 (ji5))))))) + (wrap64 (65536 * (wrap64 (rd l0 (wrap64 (a1 + 2)))))))) + (wrap64 (16777216 * (wrap64 (rd l0 (wrap64 (a1 + 3))))))))) else (none)) else (none)) else (none)) else (none)) else (none)) else (none)) = some r := by first | (rw [hji5] at H; exact H) | (simp only [hji5] at H ⊢; exact H)
      have hji5w : (IntKind.i64.wrap (a1 + 1)) = ji5 := (i64_w _).trans hji5
      by_cases c6 : 0 ≤ (ji5)
      · rw [if_pos c6] at H
        have c6b0 : decide (0 ≤ (ji5)) = true := decide_eq_true c6
        clear c6
        by_cases c7 : (ji5) < (l0.length : Int)
        · rw [if_pos c7] at H
          have c7b0 : decide ((ji5) < (l0.length : Int)) = true := decide_eq_true c7
          clear c7
          obtain ⟨ji8, hji8⟩ : ∃ j_ : Int, (wrap64 (a1 + 2)) = j_ := ⟨_, rfl⟩
          replace H : (if 0 ≤ (ji8) then (if (ji8) < (l0.length : Int) then (if 0 ≤ (wrap64 (a1 + 3)) then (if (wrap64 (a1 + 3)) < (l0.length : Int) then (some (wrap64 ((wrap64 ((wrap64 ((wrap64 (rd l0 a1)) + (wrap64 (256 * (wrap64 (rd l0 (ji5))))))) + (wrap64 (65536 * (wrap64 (rd l0 (ji8))))))) + (wrap64 (16777216 * (wrap64 (rd l0 (wrap64 (a1 + 3))))))))) else (none)) else (none)) else (none)) else (none)) = some r := by first | (rw [hji8] at H; exact H) | (simp only [hji8] at H ⊢; exact H)
          have hji8w : (IntKind.i64.wrap (a1 + 2)) = ji8 := (i64_w _).trans hji8
          by_cases c9 : 0 ≤ (ji8)
          · rw [if_pos c9] at H
            have c9b0 : decide (0 ≤ (ji8)) = true := decide_eq_true c9
            clear c9
            by_cases c10 : (ji8) < (l0.length : Int)
            · rw [if_pos c10] at H
              have c10b0 : decide ((ji8) < (l0.length : Int)) = true := decide_eq_true c10
              clear c10
              obtain ⟨ji11, hji11⟩ : ∃ j_ : Int, (wrap64 (a1 + 3)) = j_ := ⟨_, rfl⟩
              replace H : (if 0 ≤ (ji11) then (if (ji11) < (l0.length : Int) then (some (wrap64 ((wrap64 ((wrap64 ((wrap64 (rd l0 a1)) + (wrap64 (256 * (wrap64 (rd l0 (ji5))))))) + (wrap64 (65536 * (wrap64 (rd l0 (ji8))))))) + (wrap64 (16777216 * (wrap64 (rd l0 (ji11)))))))) else (none)) else (none)) = some r := by first | (rw [hji11] at H; exact H) | (simp only [hji11] at H ⊢; exact H)
              have hji11w : (IntKind.i64.wrap (a1 + 3)) = ji11 := (i64_w _).trans hji11
              by_cases c12 : 0 ≤ (ji11)
              · rw [if_pos c12] at H
                have c12b0 : decide (0 ≤ (ji11)) = true := decide_eq_true c12
                clear c12
                by_cases c13 : (ji11) < (l0.length : Int)
                · rw [if_pos c13] at H
                  have c13b0 : decide ((ji11) < (l0.length : Int)) = true := decide_eq_true c13
                  clear c13
                  obtain rfl := Option.some.inj H
                  have p288 : 0 ≤ (a1 : Int) := of_decide_eq_true (by first | (with_reducible assumption) | assumption)
                  have q288 : a1 < (l0.length : Int) := of_decide_eq_true (by first | (with_reducible assumption) | assumption)
                  obtain ⟨ad288, e288, hx288_0⟩ := Kd.at_int HR0.out a1 p288 q288
                  cases e288
                  replace p288 := eq_true p288
                  replace q288 := eq_true q288
                  have p289 : 0 ≤ ((ji5) : Int) := of_decide_eq_true (by first | (with_reducible assumption) | assumption)
                  have q289 : (ji5) < (l0.length : Int) := of_decide_eq_true (by first | (with_reducible assumption) | assumption)
                  obtain ⟨ad289, e289, hx289_0⟩ := Kd.at_int HR0.out (ji5) p289 q289
                  obtain rfl : ad288 = ad289 := (by injection e289)
                  replace p289 := eq_true p289
                  replace q289 := eq_true q289
                  have p290 : 0 ≤ ((ji8) : Int) := of_decide_eq_true (by first | (with_reducible assumption) | assumption)
                  have q290 : (ji8) < (l0.length : Int) := of_decide_eq_true (by first | (with_reducible assumption) | assumption)
                  obtain ⟨ad290, e290, hx290_0⟩ := Kd.at_int HR0.out (ji8) p290 q290
                  obtain rfl : ad288 = ad290 := (by injection e290)
                  replace p290 := eq_true p290
                  replace q290 := eq_true q290
                  have p291 : 0 ≤ ((ji11) : Int) := of_decide_eq_true (by first | (with_reducible assumption) | assumption)
                  have q291 : (ji11) < (l0.length : Int) := of_decide_eq_true (by first | (with_reducible assumption) | assumption)
                  obtain ⟨ad291, e291, hx291_0⟩ := Kd.at_int HR0.out (ji11) p291 q291
                  obtain rfl : ad288 = ad291 := (by injection e291)
                  replace p291 := eq_true p291
                  replace q291 := eq_true q291
                  go_enter Try.func67, Try.ntmps67
                  go_wp2
                  repeat (go_quiet (fail); try go_wp2)
                  go_ret
                  exact ⟨by first | rfl | (simp; done) | (simp only [← hji5, ← hji8, ← hji11] <;> (first | rfl | simp)) | (simp [*]; done), by repeat (first | exact Drawn0.refl _ | apply Drawn0.step)⟩
                · rw [if_neg c13] at H
                  exact absurd H (by simp)
              · rw [if_neg c12] at H
                exact absurd H (by simp)
            · rw [if_neg c10] at H
              exact absurd H (by simp)
          · rw [if_neg c9] at H
            exact absurd H (by simp)
        · rw [if_neg c7] at H
          exact absurd H (by simp)
      · rw [if_neg c6] at H
        exact absurd H (by simp)
    · rw [if_neg c4] at H
      exact absurd H (by simp)
  · rw [if_neg c3] at H
    exact absurd H (by simp)

end Go.Proofs.Ytgodbniphkfgfaa.P

namespace Go.Proofs.Ytgodbniphkfgfaa.P
open Go.RowKit Go.Proofs.YtgodbniphkfgfaaW.PrintWords Go.Proofs.YtgodbniphkfgfaaW.PrintLast Go.Proofs.YtgodbniphkfgfaaW.PrintMore
attribute [local go_sem] max2_int min2_int max_two min_two max_three min_three max_four min_four   -- for this text's walks alone
set_option linter.unusedVariables false
set_option linter.unusedSimpArgs false

/-! ### spec_l1put: function 68 -/
def spec_l1put.l0 : Nat → List Int → Int → Int → List Int → Int → Option (List Int)
  | 0, _, _, _, _, _ => none
  | k + 1, x0, x1, x2, x7, x8 => if x8 < (x0.length : Int) then (if x8 = x1 then (if x7.length < 17592186044416 then (spec_l1put.l0 k x0 x1 x2 (x7 ++ [x2]) (wrap64 (x8 + 1))) else (none)) else (if 0 ≤ x8 then (if x7.length < 17592186044416 then (spec_l1put.l0 k x0 x1 x2 (x7 ++ [rd x0 x8]) (wrap64 (x8 + 1))) else (none)) else (none))) else (some x7)
def spec_l1put.f (k : Nat) (l0 : List Int) (a1 : Int) (a2 : Int) : Option (List Int) := spec_l1put.l0 k l0 a1 a2 ([] : List Int) 0
set_option maxHeartbeats 8000000 in
set_option maxRecDepth 100000 in
theorem spec_l1put.calls (k : Nat) (A0 : Option Addr) (c0 : Nat) (l0 : List Int) (a1 : Int) (a2 : Int) (r : List Int) (w : World) (hr0 : Kd.C (Kd.int .i64) w A0 l0.length l0) (hc0 : l0.length ≤ c0) (h : spec_l1put.f k l0 a1 a2 = some r) :
    Calls Try.prog 68 #[.slice A0 l0.length c0, .int .i64 a1, .int .i64 a2] w fun e w' => ∃ v0_ : Value, e = .returned (v0_) ∧ Kd.R (Kd.int .i64) 3 w' w.heap.size (fun _ => True) v0_ r ∧ Below w.heap.size w w' := by
  have HR0 := Aside0.mk hr0
  have HC0 := Aside0.mk hc0
  clear hr0 hc0
  have HB := Aside0.mk (Below.refl w.heap.size w)
  have H : (spec_l1put.l0 k l0 a1 a2 ([] : List Int) 0) = some r := h
  clear h
  have H' := Aside0.mk H
  clear H
  go_enter Try.func68, Try.ntmps68
  go_wp2
  go_loopg [7, 8] k (fun kq v7 v8 w' => ∃ (x7_1 : List Int) (x8_1 : Int), v8 = .int .i64 x8_1 ∧ Aside0 (spec_l1put.l0 kq l0 a1 a2 x7_1 x8_1 = some r) ∧ Aside0 (kq ≤ k) ∧ Aside0 (Kd.R (Kd.int .i64) 3 w' w.heap.size (fun _ => True) v7 x7_1) ∧ Aside0 (Below w.heap.size w w'))
  case atStart => exact ⟨(([] : List Int)), (0), (by first | rfl | (simp; done) | (simp [*]; done)), H', ⟨Nat.le_refl _⟩, ⟨by first | exact Kd.R_nil _ _ _ _ _ | exact Kd.N_nil _ _ _ _ _ | exact Kd.V_nil _ _ _ _ _ | exact Kd.Q_nil _ _ _ _ _ | exact Kd.S_nil _ _ _ _ _⟩, ⟨by repeat (first | (with_reducible first | exact HB.out | apply below_alloc | apply pw_below_drewN | apply below_drew1) | exact HB.out)⟩⟩
  case round =>
    clear H'
    try clear p2
    obtain ⟨x7_1, x8_1, rfl, HA, HK1, HO_7, HB⟩ := hrel
    cases gk with
    | zero => exact absurd HA.out (by simp [spec_l1put.l0])
    | succ k1 =>
      have H := HA.out
      clear HA
      simp only [spec_l1put.l0] at H
      by_cases c4 : x8_1 < (l0.length : Int)
      · rw [if_pos c4] at H
        have c4b0 : decide (x8_1 < (l0.length : Int)) = true := decide_eq_true c4
        clear c4
        by_cases c5 : x8_1 = a1
        · rw [if_pos c5] at H
          have c5b0 : (x8_1 == a1) = true := beq_iff_eq.mpr c5
          have c5b1 : (x8_1 != a1) = false := bne_eq_false_iff_eq.mpr c5
          clear c5
          by_cases c6 : x7_1.length < 17592186044416
          · rw [if_pos c6] at H
            have LMc6 := Aside0.mk c6
            clear c6
            obtain ⟨y292, hy292⟩ : ∃ y_ : List Int, y_ = (x7_1 ++ [a2]) := ⟨_, rfl⟩
            replace H : (spec_l1put.l0 k1 l0 a1 a2 y292 (wrap64 (x8_1 + 1))) = some r := by first | (rw [hy292]; with_reducible exact H) | (have H2_ := (Option.bind_some _ _).symm.trans H; rw [hy292]; with_reducible exact H2_) | (have H2_ := (Option.bind_some _ _).symm.trans H; with_reducible exact H2_) | with_reducible exact H | (rw [hy292]; exact H) | exact H
            have Ny292 := Aside0.mk hy292
            clear hy292
            have H' := Aside0.mk H
            clear H
            go_wp2_with (first | ((with_reducible refine gate_builtin (b := .append) (xs := #[.tmp 18, .tmp 20]) rfl ?_); at_builtin; refine Kd.R_append (Kd.int .i64) (w0 := w) w.heap.size rfl (.tmp 18) (.tmp 20) 96 3 (.int .i64 0) 8 rfl Try.underlying96 info3 rfl (by decide) (by omega) u7 x7_1 a2 [.int .i64 a2] (fun _ => True) (fun _ => False) rfl rfl ?aP (fun _ hk => hk.elim) ?aF ?aO ?aB ?aS ?aL ?_; (case aP => exact rfl); (case aB => exact (by repeat (first | (with_reducible first | exact HB.out | apply below_alloc | apply pw_below_drewN | apply below_drew1) | exact HB.out))); (case aF => exact (fun _ _ => trivial)); (case aO => exact (by (with_reducible repeat (first | apply Kd.R_alloc | apply Kd.R_drewN | apply Kd.R_drew)); exact HO_7.out)); (case aS => exact (below_size (by repeat (first | (with_reducible first | exact HB.out | apply below_alloc | apply pw_below_drewN | apply below_drew1) | exact HB.out)))); (case aL => have := LMc6.out; omega); intro v293 w7 ho hb hg hat; rw [← Ny292.out] at ho; have n0_ := Aside0.mk (hb); have n1_ := Aside0.mk (ho); clear HB; clear HO_7; have HB := n0_; have HO294 := n1_; clear n0_ n1_; clear ho hb hg hat))
            go_roundg k1
            case measure => have := HK1.out; omega
            case rel => exact ⟨(y292), (wrap64 (x8_1 + 1)), (by first | rfl | (simp; done) | (simp [*]; done)), H', ⟨by have := HK1.out; omega⟩, ⟨by (with_reducible repeat (first | apply Kd.R_alloc | apply Kd.R_drewN | apply Kd.R_drew)); exact HO294.out⟩, ⟨by repeat (first | (with_reducible first | exact HB.out | apply below_alloc | apply pw_below_drewN | apply below_drew1) | exact HB.out)⟩⟩
          · rw [if_neg c6] at H
            exact absurd H (by simp)
        · rw [if_neg c5] at H
          have c5b0 : (x8_1 == a1) = false := beq_eq_false_iff_ne.mpr c5
          have c5b1 : (x8_1 != a1) = true := bne_iff_ne.mpr c5
          by_cases c8 : 0 ≤ x8_1
          · rw [if_pos c8] at H
            have c8b0 : decide (0 ≤ x8_1) = true := decide_eq_true c8
            clear c8
            by_cases c9 : x7_1.length < 17592186044416
            · rw [if_pos c9] at H
              have LMc9 := Aside0.mk c9
              clear c9
              obtain ⟨y296, hy296⟩ : ∃ y_ : List Int, y_ = (x7_1 ++ [rd l0 x8_1]) := ⟨_, rfl⟩
              replace H : (spec_l1put.l0 k1 l0 a1 a2 y296 (wrap64 (x8_1 + 1))) = some r := by first | (rw [hy296]; with_reducible exact H) | (have H2_ := (Option.bind_some _ _).symm.trans H; rw [hy296]; with_reducible exact H2_) | (have H2_ := (Option.bind_some _ _).symm.trans H; with_reducible exact H2_) | with_reducible exact H | (rw [hy296]; exact H) | exact H
              have Ny296 := Aside0.mk hy296
              clear hy296
              have H' := Aside0.mk H
              clear H
              have p295 : 0 ≤ (x8_1 : Int) := of_decide_eq_true (by first | (with_reducible assumption) | assumption)
              have q295 : x8_1 < (l0.length : Int) := of_decide_eq_true (by first | (with_reducible assumption) | assumption)
              obtain ⟨ad295, e295, hx295_0⟩ := Kd.at_int HR0.out x8_1 p295 q295
              cases e295
              replace hx295_0 := (HB.out.cell (World.block_lt_of_cell? w _ hx295_0)).trans hx295_0
              replace p295 := eq_true p295
              replace q295 := eq_true q295
              go_wp2_with (first | ((with_reducible refine gate_builtin (b := .append) (xs := #[.tmp 22, .tmp 27]) rfl ?_); at_builtin; refine Kd.R_append (Kd.int .i64) (w0 := w) w.heap.size rfl (.tmp 22) (.tmp 27) 96 3 (.int .i64 0) 8 rfl Try.underlying96 info3 rfl (by decide) (by omega) u7 x7_1 (rd l0 x8_1) [.int .i64 (rd l0 x8_1)] (fun _ => True) (fun _ => False) rfl rfl ?aP (fun _ hk => hk.elim) ?aF ?aO ?aB ?aS ?aL ?_; (case aP => exact rfl); (case aB => exact (by repeat (first | (with_reducible first | exact HB.out | apply below_alloc | apply pw_below_drewN | apply below_drew1) | exact HB.out))); (case aF => exact (fun _ _ => trivial)); (case aO => exact (by (with_reducible repeat (first | apply Kd.R_alloc | apply Kd.R_drewN | apply Kd.R_drew)); exact HO_7.out)); (case aS => exact (below_size (by repeat (first | (with_reducible first | exact HB.out | apply below_alloc | apply pw_below_drewN | apply below_drew1) | exact HB.out)))); (case aL => have := LMc9.out; omega); intro v297 w10 ho hb hg hat; rw [← Ny296.out] at ho; have n0_ := Aside0.mk (hb); have n1_ := Aside0.mk (ho); clear HB; clear HO_7; have HB := n0_; have HO298 := n1_; clear n0_ n1_; clear ho hb hg hat))
              go_roundg k1
              case measure => have := HK1.out; omega
              case rel => exact ⟨(y296), (wrap64 (x8_1 + 1)), (by first | rfl | (simp; done) | (simp [*]; done)), H', ⟨by have := HK1.out; omega⟩, ⟨by (with_reducible repeat (first | apply Kd.R_alloc | apply Kd.R_drewN | apply Kd.R_drew)); exact HO298.out⟩, ⟨by repeat (first | (with_reducible first | exact HB.out | apply below_alloc | apply pw_below_drewN | apply below_drew1) | exact HB.out)⟩⟩
            · rw [if_neg c9] at H
              exact absurd H (by simp)
          · rw [if_neg c8] at H
            exact absurd H (by simp)
      · rw [if_neg c4] at H
        have c4b0 : decide (x8_1 < (l0.length : Int)) = false := decide_eq_false c4
        clear c4
        obtain rfl := Option.some.inj H
        go_wp2
        go_ret
        exact ⟨_, by first | rfl | (simp [errW_none, errW_some] <;> rfl) | (simp [*, errW_none, errW_some] <;> rfl), by (with_reducible repeat (first | apply Kd.R_alloc | apply Kd.R_drewN | apply Kd.R_drew)); exact HO_7.out, by repeat (first | (with_reducible first | exact HB.out | apply below_alloc | apply pw_below_drewN | apply below_drew1) | exact HB.out)⟩

end Go.Proofs.Ytgodbniphkfgfaa.P

namespace Go.Proofs.Ytgodbniphkfgfaa.P
open Go.RowKit Go.Proofs.YtgodbniphkfgfaaW.PrintWords Go.Proofs.YtgodbniphkfgfaaW.PrintLast Go.Proofs.YtgodbniphkfgfaaW.PrintMore
set_option linter.unusedVariables false
set_option linter.unusedSimpArgs false

end Go.Proofs.Ytgodbniphkfgfaa.P

namespace Go.Proofs.Ytgodbniphkfgfaa.P
open Go.RowKit Go.Proofs.YtgodbniphkfgfaaW.PrintWords Go.Proofs.YtgodbniphkfgfaaW.PrintLast Go.Proofs.YtgodbniphkfgfaaW.PrintMore
set_option linter.unusedVariables false
set_option linter.unusedSimpArgs false

/-! The machine that runs a program: its one block, and what its methods do. -/
structure St where
  a : Int
  x : Int
  m : List Int
  p : Int
  st : Int
def mcells (s : St) (rv : Value) : Array Value := (Value.int .u32 s.a :: Value.int .u32 s.x :: (s.m.map (Value.int .u32) ++ [rv, Value.int .i64 s.p, Value.int .i64 s.st])).toArray
def Mach (W : World) (g : Nat) (rv : Value) (s : St) : Prop := W.heap[g]? = some (.cells (mcells s rv) 76 (0, 0)) ∧ s.m.length = 16
theorem mc_a (s : St) (rv : Value) : (mcells s rv)[0]? = some (.int .u32 s.a) := rfl
theorem mc_x (s : St) (rv : Value) : (mcells s rv)[1]? = some (.int .u32 s.x) := rfl
theorem mc_m (s : St) (rv : Value) (k : Nat) (hk : k < s.m.length) : (mcells s rv)[2 + k]? = some (.int .u32 (s.m[k])) := by
  unfold mcells
  rw [List.getElem?_toArray, show 2 + k = k + 1 + 1 by omega, List.getElem?_cons_succ, List.getElem?_cons_succ, List.getElem?_append_left (by simpa using hk), List.getElem?_map, List.getElem?_eq_getElem hk]
  rfl
theorem mc_tail (s : St) (rv : Value) (h : s.m.length = 16) (j : Nat) : (mcells s rv)[18 + j]? = [rv, Value.int .i64 s.p, Value.int .i64 s.st][j]? := by
  unfold mcells
  rw [List.getElem?_toArray, show 18 + j = 16 + j + 1 + 1 by omega, List.getElem?_cons_succ, List.getElem?_cons_succ, List.getElem?_append_right (by rw [List.length_map]; omega), List.length_map, h, show 16 + j - 16 = j by omega]
theorem mc_set_a (s : St) (rv : Value) (v : Int) : (mcells s rv).setIfInBounds 0 (.int .u32 v) = mcells { s with a := v } rv := by
  unfold mcells; rw [List.setIfInBounds_toArray]; rfl
theorem mc_set_x (s : St) (rv : Value) (v : Int) : (mcells s rv).setIfInBounds 1 (.int .u32 v) = mcells { s with x := v } rv := by
  unfold mcells; rw [List.setIfInBounds_toArray]; rfl
theorem mc_set_m (s : St) (rv : Value) (k : Nat) (hk : k < s.m.length) (v : Int) : (mcells s rv).setIfInBounds (2 + k) (.int .u32 v) = mcells { s with m := s.m.set k v } rv := by
  unfold mcells
  rw [List.setIfInBounds_toArray, show 2 + k = k + 1 + 1 by omega, List.set_cons_succ, List.set_cons_succ, List.set_append_left _ _ (by simpa using hk), List.map_set]
theorem mc_set_p (s : St) (rv : Value) (h : s.m.length = 16) (v : Int) : (mcells s rv).setIfInBounds 19 (.int .i64 v) = mcells { s with p := v } rv := by
  unfold mcells
  rw [List.setIfInBounds_toArray, List.set_cons_succ, List.set_cons_succ, List.set_append_right _ _ (by rw [List.length_map]; omega), List.length_map, h]
  rfl
theorem mc_set_st (s : St) (rv : Value) (h : s.m.length = 16) (v : Int) : (mcells s rv).setIfInBounds 20 (.int .i64 v) = mcells { s with st := v } rv := by
  unfold mcells
  rw [List.setIfInBounds_toArray, List.set_cons_succ, List.set_cons_succ, List.set_append_right _ _ (by rw [List.length_map]; omega), List.length_map, h]
  rfl
section
variable {W : World} {g : Nat} {rv : Value} {s : St}
theorem Mach.ca (h : Mach W g rv s) : W.cell? ⟨g, 0, none⟩ = some (.int .u32 s.a) := (blk_cell h.1 0).trans (mc_a s rv)
theorem Mach.cx (h : Mach W g rv s) : W.cell? ⟨g, 1, none⟩ = some (.int .u32 s.x) := (blk_cell h.1 1).trans (mc_x s rv)
theorem Mach.cm (h : Mach W g rv s) (k : Nat) (hk : k < 16) : W.cell? ⟨g, 2 + k, none⟩ = some (.int .u32 (rd s.m (k : Int))) := by
  have hl : k < s.m.length := by have := h.2; omega
  rw [blk_cell h.1 (2 + k), mc_m s rv k hl]
  simp [rd, List.getD_eq_getElem?_getD, List.getElem?_eq_getElem hl]
theorem Mach.cr (h : Mach W g rv s) : W.cell? ⟨g, 18, none⟩ = some rv := (blk_cell h.1 18).trans (mc_tail s rv h.2 0)
theorem Mach.cp (h : Mach W g rv s) : W.cell? ⟨g, 19, none⟩ = some (.int .i64 s.p) := (blk_cell h.1 19).trans (mc_tail s rv h.2 1)
theorem Mach.cs (h : Mach W g rv s) : W.cell? ⟨g, 20, none⟩ = some (.int .i64 s.st) := (blk_cell h.1 20).trans (mc_tail s rv h.2 2)
theorem Mach.fr (h : Mach W g rv s) (i : Nat) : W.frozen? ⟨g, i, none⟩ = false := blk_frozen h.1 i
theorem Mach.lt (h : Mach W g rv s) : g < W.heap.size := blk_lt h.1
theorem Mach.below {W' : World} (h : Mach W g rv s) (hb : Below W.heap.size W W') : Mach W' g rv s := ⟨blk_below h.1 hb, h.2⟩
theorem Mach.alloc (h : Mach W g rv s) (o : Obj) : Mach (W.alloc o) g rv s := ⟨blk_alloc h.1 o, h.2⟩
theorem Mach.drew (h : Mach W g rv s) : Mach W.drew g rv s := ⟨blk_drew h.1, h.2⟩
theorem Mach.set_a (h : Mach W g rv s) (v : Int) : Mach (W.setCell ⟨g, 0, none⟩ (.int .u32 v)) g rv { s with a := v } := ⟨blk_put h.1 0 _ (mc_set_a s rv v), h.2⟩
theorem Mach.set_x (h : Mach W g rv s) (v : Int) : Mach (W.setCell ⟨g, 1, none⟩ (.int .u32 v)) g rv { s with x := v } := ⟨blk_put h.1 1 _ (mc_set_x s rv v), h.2⟩
theorem Mach.set_m (h : Mach W g rv s) (k : Nat) (hk : k < 16) (v : Int) : Mach (W.setCell ⟨g, 2 + k, none⟩ (.int .u32 v)) g rv { s with m := s.m.set k v } := ⟨blk_put h.1 (2 + k) _ (mc_set_m s rv k (by have := h.2; omega) v), by rw [List.length_set]; exact h.2⟩
theorem Mach.set_p (h : Mach W g rv s) (v : Int) : Mach (W.setCell ⟨g, 19, none⟩ (.int .i64 v)) g rv { s with p := v } := ⟨blk_put h.1 19 _ (mc_set_p s rv h.2 v), h.2⟩
theorem Mach.set_st (h : Mach W g rv s) (v : Int) : Mach (W.setCell ⟨g, 20, none⟩ (.int .i64 v)) g rv { s with st := v } := ⟨blk_put h.1 20 _ (mc_set_st s rv h.2 v), h.2⟩
end
/-- What a method leaves: the machine in its new state; all elder blocks as they were. -/
def MPost (B : Nat) (w : World) (g : Nat) (rv : Value) (s : St) (r : Ending) (e : Ending) (w' : World) : Prop := e = r ∧ Below B w w' ∧ Mach w' g rv s
set_option maxHeartbeats 4000000 in
theorem skip_does (B g : Nat) (rv : Value) (s : St) (c j f k : Int) (b : Bool) (w : World) (hM : Mach w g rv s) (hB : B ≤ g) :
    Calls Try.prog 77 #[.pointer (some ⟨g, 0, none⟩), .agg #[.int .u16 c, .int .u8 j, .int .u8 f, .int .u32 k], .bool b] w (MPost B w g rv { s with p := wrap64 (s.p + wrap64 (if b = true then j else f)) } (.returned (.tuple #[]))) := by
  have HM0 := Aside0.mk hM
  have HM := Aside0.mk (hM.alloc (.cells #[.int .u16 c, .int .u8 j, .int .u8 f, .int .u32 k] 54))
  have hcp := HM.out.cp
  have hcf := HM.out.fr 19
  have hlt := hM.lt
  have hne : w.heap.size ≠ g := by omega
  have hne2 : g ≠ w.heap.size := by omega
  clear hM
  cases b with
  | true =>
    go_enter Try.func77, Try.ntmps77
    go_wp2
    go_region
    go_end0
    exact ⟨rfl, Below.drew (Below.alloc (Below.setCell (Below.refl B w) hB _) (by simp [World.setCell]; omega) _), ((HM0.out.set_p _).alloc _).drew⟩
  | false =>
    go_enter Try.func77, Try.ntmps77
    go_wp2
    go_region
    go_end0
    exact ⟨rfl, Below.drew (Below.alloc (Below.setCell (Below.refl B w) hB _) (by simp [World.setCell]; omega) _), ((HM0.out.set_p _).alloc _).drew⟩
def loadR (rec : List Int) (k : Nat) : Int := bits .or .u32 (bits .or .u32 (bits .or .u32 (rd rec (k : Int) % 4294967296) (rd rec ((k : Int) + 1) % 4294967296 * 256 % 4294967296)) (rd rec ((k : Int) + 2) % 4294967296 * 65536 % 4294967296)) (rd rec ((k : Int) + 3) % 4294967296 * 16777216 % 4294967296)
set_option maxHeartbeats 4000000 in
theorem load_does (B g : Nat) (R : Addr) (cR : Nat) (rec : List Int) (s : St) (k : Nat) (w : World) (hM : Mach w g (.slice (some R) 64 cR) s) (hr : ∀ i, i < 64 → w.cell? (R.add i) = some (.int .u8 (rd rec (i : Int)))) (hc : 64 ≤ cR) (hk : k ≤ 60) :
    Calls Try.prog 69 #[.pointer (some ⟨g, 0, none⟩), .int .u32 (k : Int)] w fun e w' => e = .returned (.int .u32 (loadR rec k)) ∧ ∃ n, w' = w.drewN n := by
  have hcr := hM.cr
  have h0 := hr k (by omega)
  have h1 := hr (k + 1) (by omega)
  have h2 := hr (k + 2) (by omega)
  have h3 := hr (k + 3) (by omega)
  have a1 : w.cell? ⟨(R.add k).block, (R.add k).off + 1, none⟩ = some (.int .u8 (rd rec ((k + 1 : Nat) : Int))) := (show w.cell? ((R.add k).add 1) = _ from by rw [Addr.add_add]; exact h1)
  have a2 : w.cell? ⟨(R.add k).block, (R.add k).off + 2, none⟩ = some (.int .u8 (rd rec ((k + 2 : Nat) : Int))) := (show w.cell? ((R.add k).add 2) = _ from by rw [Addr.add_add]; exact h2)
  have a3 : w.cell? ⟨(R.add k).block, (R.add k).off + 3, none⟩ = some (.int .u8 (rd rec ((k + 3 : Nat) : Int))) := (show w.cell? ((R.add k).add 3) = _ from by rw [Addr.add_add]; exact h3)
  have hw : IntKind.u32.wrap ((k : Int) + 4) = (k : Int) + 4 := by go_arith
  have hs : (k + 4 - k : Nat) = 4 := by omega
  clear hr hM h1 h2 h3
  go_enter Try.func69, Try.ntmps69
  go_wp2
  rw [hs]
  go_quiet (fail)
  go_wp2
  go_ret
  exact ⟨rfl, _, rfl⟩
/-- What the operations on bits make of A. -/
def bitsA (c k : Int) (s : St) : Int := match c with
  | 68 => bits .or .u32 s.a k
  | 76 => bits .or .u32 s.a s.x
  | 84 => bits .and .u32 s.a k
  | 92 => bits .and .u32 s.a s.x
  | 164 => bits .xor .u32 s.a k
  | 172 => bits .xor .u32 s.a s.x
  | 100 => s.a * 2 ^ min k.toNat 32 % 4294967296
  | 108 => s.a * 2 ^ min s.x.toNat 32 % 4294967296
  | 116 => s.a / 2 ^ min k.toNat 32
  | _ => s.a / 2 ^ min s.x.toNat 32
def isBits (c : Int) : Prop := c = 68 ∨ c = 76 ∨ c = 84 ∨ c = 92 ∨ c = 164 ∨ c = 172 ∨ c = 100 ∨ c = 108 ∨ c = 116 ∨ c = 124
set_option maxHeartbeats 40000000 in
set_option maxRecDepth 100000 in
theorem bits_does (B g : Nat) (rv : Value) (s : St) (c j f k : Int) (hc : isBits c) (hk : 0 ≤ k) (hx : 0 ≤ s.x) (w : World) (hM : Mach w g rv s) (hB : B ≤ g) :
    Calls Try.prog 76 #[.pointer (some ⟨g, 0, none⟩), .agg #[.int .u16 c, .int .u8 j, .int .u8 f, .int .u32 k]] w (MPost B w g rv { s with a := bitsA c k s } (.returned (.tuple #[]))) := by
  have HM0 := Aside0.mk hM
  have HM := Aside0.mk (hM.alloc (.cells #[.int .u16 c, .int .u8 j, .int .u8 f, .int .u32 k] 54))
  have hca := HM.out.ca
  have hcaf := HM.out.fr 0
  have hcx := HM.out.cx
  have hlt := hM.lt
  have hne : w.heap.size ≠ g := by omega
  have hne2 : g ≠ w.heap.size := by omega
  have hend : ∀ v : Int, MPost B w g rv { s with a := v } (.returned (.tuple #[])) (.returned (.tuple #[])) ((w.setCell ⟨g, 0, none⟩ (.int .u32 v)).alloc (.cells #[.int .u16 c, .int .u8 j, .int .u8 f, .int .u32 k] 54)) := fun v =>
    ⟨rfl, Below.alloc (Below.setCell (Below.refl B w) hB _) (by simp [World.setCell]; omega) _, (HM0.out.set_a v).alloc _⟩
  have HE := Aside0.mk hend
  clear hM hend HM HM0
  unfold isBits at hc
  rcases hc with rfl | rfl | rfl | rfl | rfl | rfl | rfl | rfl | rfl | rfl
  all_goals
    go_enter Try.func76, Try.ntmps76
    go_wp2
    go_end0
    exact HE.out _
def testB (c k : Int) (s : St) : Bool := match c with
  | 21 => s.a == k
  | 29 => s.a == s.x
  | 37 => decide (s.a > k)
  | 45 => decide (s.a > s.x)
  | 53 => decide (s.a ≥ k)
  | 61 => decide (s.a ≥ s.x)
  | 69 => bits .and .u32 s.a k != 0
  | _ => bits .and .u32 s.a s.x != 0
def isTest (c : Int) : Prop := c = 21 ∨ c = 29 ∨ c = 37 ∨ c = 45 ∨ c = 53 ∨ c = 61 ∨ c = 69 ∨ c = 77
set_option maxHeartbeats 40000000 in
set_option maxRecDepth 100000 in
theorem tests_does (B g : Nat) (rv : Value) (s : St) (c j f k : Int) (hc : isTest c) (w : World) (hM : Mach w g rv s) (hB : B ≤ g) :
    Calls Try.prog 76 #[.pointer (some ⟨g, 0, none⟩), .agg #[.int .u16 c, .int .u8 j, .int .u8 f, .int .u32 k]] w (MPost B w g rv { s with p := wrap64 (s.p + wrap64 (if testB c k s = true then j else f)) } (.returned (.tuple #[]))) := by
  have HM0 := Aside0.mk hM
  have HM := Aside0.mk (hM.alloc (.cells #[.int .u16 c, .int .u8 j, .int .u8 f, .int .u32 k] 54))
  have hca := HM.out.ca
  have hcaf := HM.out.fr 0
  have hcx := HM.out.cx
  have hlt := hM.lt
  have hne : w.heap.size ≠ g := by omega
  have hne2 : g ≠ w.heap.size := by omega
  obtain ⟨b, hb⟩ : ∃ b, testB c k s = b := ⟨_, rfl⟩
  rw [hb]
  obtain ⟨s2, hs2⟩ : ∃ s2 : St, s2 = { s with p := wrap64 (s.p + wrap64 (if b = true then j else f)) } := ⟨_, rfl⟩
  rw [← hs2]
  have HS2 := Aside0.mk hs2
  have HBB := Aside0.mk hb
  have HB0 := Aside0.mk (Below.drew (Below.alloc (Below.refl B w) (Nat.le_of_lt (Nat.lt_of_le_of_lt hB hM.lt)) (.cells #[.int .u16 c, .int .u8 j, .int .u8 f, .int .u32 k] 54)))
  have HBg := Aside0.mk hB
  clear hM hs2 hb
  have hi0 : (w.alloc (.cells #[.int .u16 c, .int .u8 j, .int .u8 f, .int .u32 k] 54)).cell? ⟨w.heap.size, 0, none⟩ = some (.int .u16 c) := (blk_cell (blk_new w _) 0).trans rfl
  have hi1 : (w.alloc (.cells #[.int .u16 c, .int .u8 j, .int .u8 f, .int .u32 k] 54)).cell? ⟨w.heap.size, 1, none⟩ = some (.int .u8 j) := (blk_cell (blk_new w _) 1).trans rfl
  have hi2 : (w.alloc (.cells #[.int .u16 c, .int .u8 j, .int .u8 f, .int .u32 k] 54)).cell? ⟨w.heap.size, 2, none⟩ = some (.int .u8 f) := (blk_cell (blk_new w _) 2).trans rfl
  have hi3 : (w.alloc (.cells #[.int .u16 c, .int .u8 j, .int .u8 f, .int .u32 k] 54)).cell? ⟨w.heap.size, 3, none⟩ = some (.int .u32 k) := (blk_cell (blk_new w _) 3).trans rfl
  unfold isTest at hc
  rcases hc with rfl | rfl | rfl | rfl | rfl | rfl | rfl | rfl
  · go_enter Try.func76, Try.ntmps76
    go_wp2
    generalize w.alloc (.cells #[.int .u16 21, .int .u8 j, .int .u8 f, .int .u32 k] 54) = W1 at HM HB0 hca hcx hi0 hi1 hi2 hi3 ⊢
    go_still_tail 8, (by kernel_rfl)
    go_wp2_with (go_at_call 77; refine (skip_does B g rv s _ j f k _ _ HM.out.drew HBg.out).mono ?_; rintro e w1 ⟨rfl, hb1, hm1⟩; have HB1 := Aside0.mk (HB0.out.trans hb1); have HM1 := Aside0.mk hm1; clear hb1 hm1)
    go_end0
    exact ⟨rfl, HB1.out, by rw [HS2.out, ← HBB.out]; exact HM1.out⟩
  · go_enter Try.func76, Try.ntmps76
    go_wp2
    generalize w.alloc (.cells #[.int .u16 29, .int .u8 j, .int .u8 f, .int .u32 k] 54) = W1 at HM HB0 hca hcx hi0 hi1 hi2 hi3 ⊢
    go_still_tail 8, (by kernel_rfl)
    go_wp2_with (go_at_call 77; refine (skip_does B g rv s _ j f k _ _ HM.out.drew HBg.out).mono ?_; rintro e w1 ⟨rfl, hb1, hm1⟩; have HB1 := Aside0.mk (HB0.out.trans hb1); have HM1 := Aside0.mk hm1; clear hb1 hm1)
    go_end0
    exact ⟨rfl, HB1.out, by rw [HS2.out, ← HBB.out]; exact HM1.out⟩
  · go_enter Try.func76, Try.ntmps76
    go_wp2
    generalize w.alloc (.cells #[.int .u16 37, .int .u8 j, .int .u8 f, .int .u32 k] 54) = W1 at HM HB0 hca hcx hi0 hi1 hi2 hi3 ⊢
    go_still_tail 8, (by kernel_rfl)
    go_wp2_with (go_at_call 77; refine (skip_does B g rv s _ j f k _ _ HM.out.drew HBg.out).mono ?_; rintro e w1 ⟨rfl, hb1, hm1⟩; have HB1 := Aside0.mk (HB0.out.trans hb1); have HM1 := Aside0.mk hm1; clear hb1 hm1)
    go_end0
    exact ⟨rfl, HB1.out, by rw [HS2.out, ← HBB.out]; exact HM1.out⟩
  · go_enter Try.func76, Try.ntmps76
    go_wp2
    generalize w.alloc (.cells #[.int .u16 45, .int .u8 j, .int .u8 f, .int .u32 k] 54) = W1 at HM HB0 hca hcx hi0 hi1 hi2 hi3 ⊢
    go_still_tail 8, (by kernel_rfl)
    go_wp2_with (go_at_call 77; refine (skip_does B g rv s _ j f k _ _ HM.out.drew HBg.out).mono ?_; rintro e w1 ⟨rfl, hb1, hm1⟩; have HB1 := Aside0.mk (HB0.out.trans hb1); have HM1 := Aside0.mk hm1; clear hb1 hm1)
    go_end0
    exact ⟨rfl, HB1.out, by rw [HS2.out, ← HBB.out]; exact HM1.out⟩
  · go_enter Try.func76, Try.ntmps76
    go_wp2
    generalize w.alloc (.cells #[.int .u16 53, .int .u8 j, .int .u8 f, .int .u32 k] 54) = W1 at HM HB0 hca hcx hi0 hi1 hi2 hi3 ⊢
    go_still_tail 8, (by kernel_rfl)
    go_wp2_with (go_at_call 77; refine (skip_does B g rv s _ j f k _ _ HM.out.drew HBg.out).mono ?_; rintro e w1 ⟨rfl, hb1, hm1⟩; have HB1 := Aside0.mk (HB0.out.trans hb1); have HM1 := Aside0.mk hm1; clear hb1 hm1)
    go_end0
    exact ⟨rfl, HB1.out, by rw [HS2.out, ← HBB.out]; exact HM1.out⟩
  · go_enter Try.func76, Try.ntmps76
    go_wp2
    generalize w.alloc (.cells #[.int .u16 61, .int .u8 j, .int .u8 f, .int .u32 k] 54) = W1 at HM HB0 hca hcx hi0 hi1 hi2 hi3 ⊢
    go_still_tail 8, (by kernel_rfl)
    go_wp2_with (go_at_call 77; refine (skip_does B g rv s _ j f k _ _ HM.out.drew HBg.out).mono ?_; rintro e w1 ⟨rfl, hb1, hm1⟩; have HB1 := Aside0.mk (HB0.out.trans hb1); have HM1 := Aside0.mk hm1; clear hb1 hm1)
    go_end0
    exact ⟨rfl, HB1.out, by rw [HS2.out, ← HBB.out]; exact HM1.out⟩
  · go_enter Try.func76, Try.ntmps76
    go_wp2
    generalize w.alloc (.cells #[.int .u16 69, .int .u8 j, .int .u8 f, .int .u32 k] 54) = W1 at HM HB0 hca hcx hi0 hi1 hi2 hi3 ⊢
    go_still_tail 9, (by kernel_rfl)
    go_wp2_with (go_at_call 77; refine (skip_does B g rv s _ j f k _ _ HM.out.drew HBg.out).mono ?_; rintro e w1 ⟨rfl, hb1, hm1⟩; have HB1 := Aside0.mk (HB0.out.trans hb1); have HM1 := Aside0.mk hm1; clear hb1 hm1)
    go_end0
    exact ⟨rfl, HB1.out, by rw [HS2.out, ← HBB.out]; exact HM1.out⟩
  · go_enter Try.func76, Try.ntmps76
    go_wp2
    generalize w.alloc (.cells #[.int .u16 77, .int .u8 j, .int .u8 f, .int .u32 k] 54) = W1 at HM HB0 hca hcx hi0 hi1 hi2 hi3 ⊢
    go_still_tail 9, (by kernel_rfl)
    go_wp2_with (go_at_call 77; refine (skip_does B g rv s _ j f k _ _ HM.out.drew HBg.out).mono ?_; rintro e w1 ⟨rfl, hb1, hm1⟩; have HB1 := Aside0.mk (HB0.out.trans hb1); have HM1 := Aside0.mk hm1; clear hb1 hm1)
    go_end0
    exact ⟨rfl, HB1.out, by rw [HS2.out, ← HBB.out]; exact HM1.out⟩
/-- What the operations on numbers make of A. -/
def numA (c k : Int) (s : St) : Int := match c with
  | 4 => (s.a + k) % 4294967296
  | 12 => (s.a + s.x) % 4294967296
  | 20 => (s.a - k) % 4294967296
  | 28 => (s.a - s.x) % 4294967296
  | 36 => s.a * k % 4294967296
  | _ => s.a * s.x % 4294967296
def isNum (c : Int) : Prop := c = 4 ∨ c = 12 ∨ c = 20 ∨ c = 28 ∨ c = 36 ∨ c = 44
def goOn : Ending := .returned (.tuple #[.int .u32 0, .bool false])
set_option maxHeartbeats 40000000 in
set_option maxRecDepth 100000 in
theorem nums_does (B g : Nat) (rv : Value) (s : St) (c j f k : Int) (hc : isNum c) (w : World) (hM : Mach w g rv s) (hB : B ≤ g) :
    Calls Try.prog 70 #[.pointer (some ⟨g, 0, none⟩), .agg #[.int .u16 c, .int .u8 j, .int .u8 f, .int .u32 k]] w (MPost B w g rv { s with a := numA c k s } goOn) := by
  have HM0 := Aside0.mk hM
  have HM := Aside0.mk (hM.alloc (.cells #[.int .u16 c, .int .u8 j, .int .u8 f, .int .u32 k] 54))
  have hca := HM.out.ca
  have hcaf := HM.out.fr 0
  have hcx := HM.out.cx
  have hlt := hM.lt
  have hne : w.heap.size ≠ g := by omega
  have hne2 : g ≠ w.heap.size := by omega
  have hend : ∀ v : Int, MPost B w g rv { s with a := v } goOn goOn ((w.setCell ⟨g, 0, none⟩ (.int .u32 v)).alloc (.cells #[.int .u16 c, .int .u8 j, .int .u8 f, .int .u32 k] 54)) := fun v =>
    ⟨rfl, Below.alloc (Below.setCell (Below.refl B w) hB _) (by simp [World.setCell]; omega) _, (HM0.out.set_a v).alloc _⟩
  have HE := Aside0.mk hend
  clear hM hend HM HM0
  unfold isNum at hc
  rcases hc with rfl | rfl | rfl | rfl | rfl | rfl
  all_goals
    go_enter Try.func70, Try.ntmps70
    go_wp2
    go_returns
    exact HE.out _

end Go.Proofs.Ytgodbniphkfgfaa.P
