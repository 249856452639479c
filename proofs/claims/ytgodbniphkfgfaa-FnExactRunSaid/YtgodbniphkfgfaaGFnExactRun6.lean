import Derived.Test.YtgodbniphkfgfaaGFnExactRun5
namespace Go.Proofs.Ytgodbniphkfgfaa.P
open Go.RowKit Go.Proofs.YtgodbniphkfgfaaW.PrintWords Go.Proofs.YtgodbniphkfgfaaW.PrintLast Go.Proofs.YtgodbniphkfgfaaW.PrintMore
attribute [local go_sem] max2_int min2_int max_two min_two max_three min_three max_four min_four   -- for this text's walks alone
set_option linter.unusedVariables false
set_option linter.unusedSimpArgs false

/-! ### spec_l1power: function 75 -/
def spec_l1power.f : Nat → Int → Option (Int)
  | 0, _ => none
  | k + 1, a0 => if a0 = 0 then (some 1) else ((spec_l1power.f k (wrap64 (a0 - 1))).bind fun t280 => (some (wrap64 (2 * t280))))
set_option maxHeartbeats 8000000 in
set_option maxRecDepth 100000 in
theorem spec_l1power.calls (k : Nat) : ∀ (a0 : Int) (r : Int) (w : World) (h : spec_l1power.f k a0 = some r),
    Calls Try.prog 75 #[.int .i64 a0] w fun e w' => e = .returned (.int .i64 r) ∧ Drawn0 w w' := by
  induction k using Nat.strongRecOn with
  | _ k ih =>
  intro a0 r w h
  cases k with
  | zero => exact absurd h (by simp [spec_l1power.f])
  | succ k =>
  simp only [spec_l1power.f] at h
  have H : (if a0 = 0 then (some 1) else ((spec_l1power.f k (wrap64 (a0 - 1))).bind fun t280 => (some (wrap64 (2 * t280))))) = some r := h
  clear h
  by_cases c2 : a0 = 0
  · rw [if_pos c2] at H
    have c2b0 : (a0 == 0) = true := beq_iff_eq.mpr c2
    have c2b1 : (a0 != 0) = false := bne_eq_false_iff_eq.mpr c2
    clear c2
    obtain rfl := Option.some.inj H
    go_enter Try.func75, Try.ntmps75
    go_wp2
    go_ret
    exact ⟨by first | rfl | (simp; done) | (simp [*]; done), by repeat (first | exact Drawn0.refl _ | apply Drawn0.step)⟩
  · rw [if_neg c2] at H
    have c2b0 : (a0 == 0) = false := beq_eq_false_iff_ne.mpr c2
    have c2b1 : (a0 != 0) = true := bne_iff_ne.mpr c2
    replace H := Option.bind_eq_some_iff.mp H
    obtain ⟨t280, A30, H⟩ := H
    replace H : (some (wrap64 (2 * t280))) = some r := H
    have A3 := Aside0.mk A30
    clear A30
    obtain rfl := Option.some.inj H
    go_enter Try.func75, Try.ntmps75
    go_wp2_with (first | ((with_reducible refine gate_callee (f := 75) rfl ?_); refine goesL_ (some 7) rfl rfl Try.func75 (by kernel_rfl) rfl #[.int .i64 (wrap64 (a0 - 1))] rfl (by (try simp only [List.map_toArray, List.map_cons, List.map_nil]); first | done | rfl | (simp only [List.length_drop, List.length_take]; rfl)) ?_; (with_reducible refine (ih k (by omega) (wrap64 (a0 - 1)) t280 _ A3.out).mono ?_); rintro e w' ⟨rfl, ⟨nd, rfl⟩⟩; refine ⟨_, rfl, ?_⟩))
    go_ret
    exact ⟨by first | rfl | (simp; done) | (simp [*]; done), by repeat (first | exact Drawn0.refl _ | apply Drawn0.step)⟩

end Go.Proofs.Ytgodbniphkfgfaa.P

namespace Go.Proofs.Ytgodbniphkfgfaa.P
open Go.RowKit Go.Proofs.YtgodbniphkfgfaaW.PrintWords Go.Proofs.YtgodbniphkfgfaaW.PrintLast Go.Proofs.YtgodbniphkfgfaaW.PrintMore
attribute [local go_sem] max2_int min2_int max_two min_two max_three min_three max_four min_four   -- for this text's walks alone
set_option linter.unusedVariables false
set_option linter.unusedSimpArgs false

/-! ### spec_l1alu: function 65 -/
def spec_l1alu.f (k : Nat) (a0 : Int) (a1 : Int) (a2 : Int) : Option (Int) := if a0 = 0 then (some (Int.tmod (wrap64 (a1 + a2)) 4294967296)) else (if a0 = 1 then (some (Int.tmod (wrap64 ((wrap64 (a1 - a2)) + 4294967296)) 4294967296)) else (if a0 = 2 then (some (Int.tmod (wrap64 ((wrap64 ((Int.tmod a1 65536) * a2)) + (wrap64 ((Int.tmod (wrap64 ((wrap64 (Int.tdiv a1 65536)) * a2)) 65536) * 65536)))) 4294967296)) else (if a0 = 3 then (if a2 = 0 then (none) else (some (wrap64 (Int.tdiv a1 a2)))) else (if a0 = 4 then ((spec_l1bits.f k a1 a2 true true).bind fun t281 => (some t281)) else (if a0 = 5 then ((spec_l1bits.f k a1 a2 false true).bind fun t282 => (some t282)) else (if a0 = 10 then ((spec_l1bits.f k a1 a2 true false).bind fun t283 => (some t283)) else (if a0 = 8 then (some (Int.tmod (wrap64 (4294967296 - a1)) 4294967296)) else (if a2 ≥ 32 then (some 0) else (if a0 = 6 then ((spec_l1power.f k (wrap64 (32 - a2))).bind fun t284 => (if t284 = 0 then (none) else ((spec_l1power.f k a2).bind fun t285 => (some (wrap64 ((Int.tmod a1 t284) * t285)))))) else ((spec_l1power.f k a2).bind fun t286 => (if t286 = 0 then (none) else (some (wrap64 (Int.tdiv a1 t286))))))))))))))
set_option maxHeartbeats 8000000 in
set_option maxRecDepth 100000 in
theorem spec_l1alu.calls (k : Nat) (a0 : Int) (a1 : Int) (a2 : Int) (r : Int) (w : World) (h : spec_l1alu.f k a0 a1 a2 = some r) :
    Calls Try.prog 65 #[.int .i64 a0, .int .i64 a1, .int .i64 a2] w fun e w' => e = .returned (.int .i64 r) ∧ Drawn0 w w' := by
  have H : (if a0 = 0 then (some (Int.tmod (wrap64 (a1 + a2)) 4294967296)) else (if a0 = 1 then (some (Int.tmod (wrap64 ((wrap64 (a1 - a2)) + 4294967296)) 4294967296)) else (if a0 = 2 then (some (Int.tmod (wrap64 ((wrap64 ((Int.tmod a1 65536) * a2)) + (wrap64 ((Int.tmod (wrap64 ((wrap64 (Int.tdiv a1 65536)) * a2)) 65536) * 65536)))) 4294967296)) else (if a0 = 3 then (if a2 = 0 then (none) else (some (wrap64 (Int.tdiv a1 a2)))) else (if a0 = 4 then ((spec_l1bits.f k a1 a2 true true).bind fun t281 => (some t281)) else (if a0 = 5 then ((spec_l1bits.f k a1 a2 false true).bind fun t282 => (some t282)) else (if a0 = 10 then ((spec_l1bits.f k a1 a2 true false).bind fun t283 => (some t283)) else (if a0 = 8 then (some (Int.tmod (wrap64 (4294967296 - a1)) 4294967296)) else (if a2 ≥ 32 then (some 0) else (if a0 = 6 then ((spec_l1power.f k (wrap64 (32 - a2))).bind fun t284 => (if t284 = 0 then (none) else ((spec_l1power.f k a2).bind fun t285 => (some (wrap64 ((Int.tmod a1 t284) * t285)))))) else ((spec_l1power.f k a2).bind fun t286 => (if t286 = 0 then (none) else (some (wrap64 (Int.tdiv a1 t286))))))))))))))) = some r := h
  clear h
  by_cases c4 : a0 = 0
  · rw [if_pos c4] at H
    have c4b0 : (a0 == 0) = true := beq_iff_eq.mpr c4
    have c4b1 : (a0 != 0) = false := bne_eq_false_iff_eq.mpr c4
    clear c4
    obtain rfl := Option.some.inj H
    go_enter Try.func65, Try.ntmps65
    go_wp2
    repeat (go_quiet (fail); try go_wp2)
    go_ret
    exact ⟨by first | rfl | (simp; done) | (simp [*]; done), by repeat (first | exact Drawn0.refl _ | apply Drawn0.step)⟩
  · rw [if_neg c4] at H
    have c4b0 : (a0 == 0) = false := beq_eq_false_iff_ne.mpr c4
    have c4b1 : (a0 != 0) = true := bne_iff_ne.mpr c4
    by_cases c5 : a0 = 1
    · rw [if_pos c5] at H
      have c5b0 : (a0 == 1) = true := beq_iff_eq.mpr c5
      have c5b1 : (a0 != 1) = false := bne_eq_false_iff_eq.mpr c5
      clear c5
      obtain rfl := Option.some.inj H
      go_enter Try.func65, Try.ntmps65
      go_wp2
      repeat (go_quiet (fail); try go_wp2)
      go_ret
      exact ⟨by first | rfl | (simp; done) | (simp [*]; done), by repeat (first | exact Drawn0.refl _ | apply Drawn0.step)⟩
    · rw [if_neg c5] at H
      have c5b0 : (a0 == 1) = false := beq_eq_false_iff_ne.mpr c5
      have c5b1 : (a0 != 1) = true := bne_iff_ne.mpr c5
      by_cases c6 : a0 = 2
      · rw [if_pos c6] at H
        have c6b0 : (a0 == 2) = true := beq_iff_eq.mpr c6
        have c6b1 : (a0 != 2) = false := bne_eq_false_iff_eq.mpr c6
        clear c6
        obtain rfl := Option.some.inj H
        go_enter Try.func65, Try.ntmps65
        go_wp2
        repeat (go_quiet (fail); try go_wp2)
        go_ret
        exact ⟨by first | rfl | (simp; done) | (simp [*]; done), by repeat (first | exact Drawn0.refl _ | apply Drawn0.step)⟩
      · rw [if_neg c6] at H
        have c6b0 : (a0 == 2) = false := beq_eq_false_iff_ne.mpr c6
        have c6b1 : (a0 != 2) = true := bne_iff_ne.mpr c6
        by_cases c7 : a0 = 3
        · rw [if_pos c7] at H
          have c7b0 : (a0 == 3) = true := beq_iff_eq.mpr c7
          have c7b1 : (a0 != 3) = false := bne_eq_false_iff_eq.mpr c7
          clear c7
          by_cases c8 : a2 = 0
          · rw [if_pos c8] at H
            exact absurd H (by simp)
          · rw [if_neg c8] at H
            have c8b0 : (a2 == 0) = false := beq_eq_false_iff_ne.mpr c8
            have c8b1 : (a2 != 0) = true := bne_iff_ne.mpr c8
            obtain rfl := Option.some.inj H
            go_enter Try.func65, Try.ntmps65
            go_wp2
            repeat (go_quiet (fail); try go_wp2)
            go_ret
            exact ⟨by first | rfl | (simp; done) | (simp [*]; done), by repeat (first | exact Drawn0.refl _ | apply Drawn0.step)⟩
        · rw [if_neg c7] at H
          have c7b0 : (a0 == 3) = false := beq_eq_false_iff_ne.mpr c7
          have c7b1 : (a0 != 3) = true := bne_iff_ne.mpr c7
          by_cases c9 : a0 = 4
          · rw [if_pos c9] at H
            have c9b0 : (a0 == 4) = true := beq_iff_eq.mpr c9
            have c9b1 : (a0 != 4) = false := bne_eq_false_iff_eq.mpr c9
            clear c9
            replace H := Option.bind_eq_some_iff.mp H
            obtain ⟨t281, A100, H⟩ := H
            replace H : (some t281) = some r := H
            have A10 := Aside0.mk A100
            clear A100
            obtain rfl := Option.some.inj H
            go_enter Try.func65, Try.ntmps65
            go_wp2_with (first | (go_at_call 74; (with_reducible refine (spec_l1bits.calls k a1 a2 true true t281 _ A10.out).mono ?_); rintro e w' ⟨rfl, ⟨nd, rfl⟩⟩; (try first | exact ⟨rfl, _, World.drewN_drewN _ _ _⟩ | exact ⟨rfl, _, Eq.trans (World.drewN_drewN _ _ _) (congrArg (World.drewN _) (Nat.add_assoc _ _ _))⟩)))
            repeat (go_quiet (first | (go_at_call 74; (with_reducible refine (spec_l1bits.calls k a1 a2 true true t281 _ A10.out).mono ?_); rintro e w' ⟨rfl, ⟨nd, rfl⟩⟩; (try first | exact ⟨rfl, _, World.drewN_drewN _ _ _⟩ | exact ⟨rfl, _, Eq.trans (World.drewN_drewN _ _ _) (congrArg (World.drewN _) (Nat.add_assoc _ _ _))⟩))); try go_wp2_with (first | (go_at_call 74; (with_reducible refine (spec_l1bits.calls k a1 a2 true true t281 _ A10.out).mono ?_); rintro e w' ⟨rfl, ⟨nd, rfl⟩⟩; (try first | exact ⟨rfl, _, World.drewN_drewN _ _ _⟩ | exact ⟨rfl, _, Eq.trans (World.drewN_drewN _ _ _) (congrArg (World.drewN _) (Nat.add_assoc _ _ _))⟩))))
            go_ret
            exact ⟨by first | rfl | (simp; done) | (simp [*]; done), by repeat (first | exact Drawn0.refl _ | apply Drawn0.step)⟩
          · rw [if_neg c9] at H
            have c9b0 : (a0 == 4) = false := beq_eq_false_iff_ne.mpr c9
            have c9b1 : (a0 != 4) = true := bne_iff_ne.mpr c9
            by_cases c11 : a0 = 5
            · rw [if_pos c11] at H
              have c11b0 : (a0 == 5) = true := beq_iff_eq.mpr c11
              have c11b1 : (a0 != 5) = false := bne_eq_false_iff_eq.mpr c11
              clear c11
              replace H := Option.bind_eq_some_iff.mp H
              obtain ⟨t282, A120, H⟩ := H
              replace H : (some t282) = some r := H
              have A12 := Aside0.mk A120
              clear A120
              obtain rfl := Option.some.inj H
              go_enter Try.func65, Try.ntmps65
              go_wp2_with (first | (go_at_call 74; (with_reducible refine (spec_l1bits.calls k a1 a2 false true t282 _ A12.out).mono ?_); rintro e w' ⟨rfl, ⟨nd, rfl⟩⟩; (try first | exact ⟨rfl, _, World.drewN_drewN _ _ _⟩ | exact ⟨rfl, _, Eq.trans (World.drewN_drewN _ _ _) (congrArg (World.drewN _) (Nat.add_assoc _ _ _))⟩)))
              repeat (go_quiet (first | (go_at_call 74; (with_reducible refine (spec_l1bits.calls k a1 a2 false true t282 _ A12.out).mono ?_); rintro e w' ⟨rfl, ⟨nd, rfl⟩⟩; (try first | exact ⟨rfl, _, World.drewN_drewN _ _ _⟩ | exact ⟨rfl, _, Eq.trans (World.drewN_drewN _ _ _) (congrArg (World.drewN _) (Nat.add_assoc _ _ _))⟩))); try go_wp2_with (first | (go_at_call 74; (with_reducible refine (spec_l1bits.calls k a1 a2 false true t282 _ A12.out).mono ?_); rintro e w' ⟨rfl, ⟨nd, rfl⟩⟩; (try first | exact ⟨rfl, _, World.drewN_drewN _ _ _⟩ | exact ⟨rfl, _, Eq.trans (World.drewN_drewN _ _ _) (congrArg (World.drewN _) (Nat.add_assoc _ _ _))⟩))))
              go_ret
              exact ⟨by first | rfl | (simp; done) | (simp [*]; done), by repeat (first | exact Drawn0.refl _ | apply Drawn0.step)⟩
            · rw [if_neg c11] at H
              have c11b0 : (a0 == 5) = false := beq_eq_false_iff_ne.mpr c11
              have c11b1 : (a0 != 5) = true := bne_iff_ne.mpr c11
              by_cases c13 : a0 = 10
              · rw [if_pos c13] at H
                have c13b0 : (a0 == 10) = true := beq_iff_eq.mpr c13
                have c13b1 : (a0 != 10) = false := bne_eq_false_iff_eq.mpr c13
                clear c13
                replace H := Option.bind_eq_some_iff.mp H
                obtain ⟨t283, A140, H⟩ := H
                replace H : (some t283) = some r := H
                have A14 := Aside0.mk A140
                clear A140
                obtain rfl := Option.some.inj H
                go_enter Try.func65, Try.ntmps65
                go_wp2_with (first | (go_at_call 74; (with_reducible refine (spec_l1bits.calls k a1 a2 true false t283 _ A14.out).mono ?_); rintro e w' ⟨rfl, ⟨nd, rfl⟩⟩; (try first | exact ⟨rfl, _, World.drewN_drewN _ _ _⟩ | exact ⟨rfl, _, Eq.trans (World.drewN_drewN _ _ _) (congrArg (World.drewN _) (Nat.add_assoc _ _ _))⟩)))
                repeat (go_quiet (first | (go_at_call 74; (with_reducible refine (spec_l1bits.calls k a1 a2 true false t283 _ A14.out).mono ?_); rintro e w' ⟨rfl, ⟨nd, rfl⟩⟩; (try first | exact ⟨rfl, _, World.drewN_drewN _ _ _⟩ | exact ⟨rfl, _, Eq.trans (World.drewN_drewN _ _ _) (congrArg (World.drewN _) (Nat.add_assoc _ _ _))⟩))); try go_wp2_with (first | (go_at_call 74; (with_reducible refine (spec_l1bits.calls k a1 a2 true false t283 _ A14.out).mono ?_); rintro e w' ⟨rfl, ⟨nd, rfl⟩⟩; (try first | exact ⟨rfl, _, World.drewN_drewN _ _ _⟩ | exact ⟨rfl, _, Eq.trans (World.drewN_drewN _ _ _) (congrArg (World.drewN _) (Nat.add_assoc _ _ _))⟩))))
                go_ret
                exact ⟨by first | rfl | (simp; done) | (simp [*]; done), by repeat (first | exact Drawn0.refl _ | apply Drawn0.step)⟩
              · rw [if_neg c13] at H
                have c13b0 : (a0 == 10) = false := beq_eq_false_iff_ne.mpr c13
                have c13b1 : (a0 != 10) = true := bne_iff_ne.mpr c13
                by_cases c15 : a0 = 8
                · rw [if_pos c15] at H
                  have c15b0 : (a0 == 8) = true := beq_iff_eq.mpr c15
                  have c15b1 : (a0 != 8) = false := bne_eq_false_iff_eq.mpr c15
                  clear c15
                  obtain rfl := Option.some.inj H
                  go_enter Try.func65, Try.ntmps65
                  go_wp2
                  repeat (go_quiet (fail); try go_wp2)
                  go_ret
                  exact ⟨by first | rfl | (simp; done) | (simp [*]; done), by repeat (first | exact Drawn0.refl _ | apply Drawn0.step)⟩
                · rw [if_neg c15] at H
                  have c15b0 : (a0 == 8) = false := beq_eq_false_iff_ne.mpr c15
                  have c15b1 : (a0 != 8) = true := bne_iff_ne.mpr c15
                  by_cases c16 : a2 ≥ 32
                  · rw [if_pos c16] at H
                    have c16b0 : decide (32 ≤ a2) = true := decide_eq_true c16
                    clear c16
                    obtain rfl := Option.some.inj H
                    go_enter Try.func65, Try.ntmps65
                    go_wp2
                    repeat (go_quiet (fail); try go_wp2)
                    go_ret
                    exact ⟨by first | rfl | (simp; done) | (simp [*]; done), by repeat (first | exact Drawn0.refl _ | apply Drawn0.step)⟩
                  · rw [if_neg c16] at H
                    have c16b0 : decide (32 ≤ a2) = false := decide_eq_false c16
                    clear c16
                    by_cases c17 : a0 = 6
                    · rw [if_pos c17] at H
                      have c17b0 : (a0 == 6) = true := beq_iff_eq.mpr c17
                      have c17b1 : (a0 != 6) = false := bne_eq_false_iff_eq.mpr c17
                      clear c17
                      replace H := Option.bind_eq_some_iff.mp H
                      obtain ⟨t284, A180, H⟩ := H
                      replace H : (if t284 = 0 then (none) else ((spec_l1power.f k a2).bind fun t285 => (some (wrap64 ((Int.tmod a1 t284) * t285))))) = some r := H
                      have A18 := Aside0.mk A180
                      clear A180
                      by_cases c19 : t284 = 0
                      · rw [if_pos c19] at H
                        exact absurd H (by simp)
                      · rw [if_neg c19] at H
                        have c19b0 : (t284 == 0) = false := beq_eq_false_iff_ne.mpr c19
                        have c19b1 : (t284 != 0) = true := bne_iff_ne.mpr c19
                        replace H := Option.bind_eq_some_iff.mp H
                        obtain ⟨t285, A200, H⟩ := H
                        replace H : (some (wrap64 ((Int.tmod a1 t284) * t285))) = some r := H
                        have A20 := Aside0.mk A200
                        clear A200
                        obtain rfl := Option.some.inj H
                        go_enter Try.func65, Try.ntmps65
                        go_wp2_with (first | (go_at_call 75; (with_reducible refine (spec_l1power.calls k (wrap64 (32 - a2)) t284 _ A18.out).mono ?_); rintro e w' ⟨rfl, ⟨nd, rfl⟩⟩; (try first | exact ⟨rfl, _, World.drewN_drewN _ _ _⟩ | exact ⟨rfl, _, Eq.trans (World.drewN_drewN _ _ _) (congrArg (World.drewN _) (Nat.add_assoc _ _ _))⟩)) | (go_at_call 75; (with_reducible refine (spec_l1power.calls k a2 t285 _ A20.out).mono ?_); rintro e w' ⟨rfl, ⟨nd, rfl⟩⟩; (try first | exact ⟨rfl, _, World.drewN_drewN _ _ _⟩ | exact ⟨rfl, _, Eq.trans (World.drewN_drewN _ _ _) (congrArg (World.drewN _) (Nat.add_assoc _ _ _))⟩)))
                        repeat (go_quiet (first | (go_at_call 75; (with_reducible refine (spec_l1power.calls k (wrap64 (32 - a2)) t284 _ A18.out).mono ?_); rintro e w' ⟨rfl, ⟨nd, rfl⟩⟩; (try first | exact ⟨rfl, _, World.drewN_drewN _ _ _⟩ | exact ⟨rfl, _, Eq.trans (World.drewN_drewN _ _ _) (congrArg (World.drewN _) (Nat.add_assoc _ _ _))⟩)) | (go_at_call 75; (with_reducible refine (spec_l1power.calls k a2 t285 _ A20.out).mono ?_); rintro e w' ⟨rfl, ⟨nd, rfl⟩⟩; (try first | exact ⟨rfl, _, World.drewN_drewN _ _ _⟩ | exact ⟨rfl, _, Eq.trans (World.drewN_drewN _ _ _) (congrArg (World.drewN _) (Nat.add_assoc _ _ _))⟩))); try go_wp2_with (first | (go_at_call 75; (with_reducible refine (spec_l1power.calls k (wrap64 (32 - a2)) t284 _ A18.out).mono ?_); rintro e w' ⟨rfl, ⟨nd, rfl⟩⟩; (try first | exact ⟨rfl, _, World.drewN_drewN _ _ _⟩ | exact ⟨rfl, _, Eq.trans (World.drewN_drewN _ _ _) (congrArg (World.drewN _) (Nat.add_assoc _ _ _))⟩)) | (go_at_call 75; (with_reducible refine (spec_l1power.calls k a2 t285 _ A20.out).mono ?_); rintro e w' ⟨rfl, ⟨nd, rfl⟩⟩; (try first | exact ⟨rfl, _, World.drewN_drewN _ _ _⟩ | exact ⟨rfl, _, Eq.trans (World.drewN_drewN _ _ _) (congrArg (World.drewN _) (Nat.add_assoc _ _ _))⟩))))
                        go_ret
                        exact ⟨by first | rfl | (simp; done) | (simp [*]; done), by repeat (first | exact Drawn0.refl _ | apply Drawn0.step)⟩
                    · rw [if_neg c17] at H
                      have c17b0 : (a0 == 6) = false := beq_eq_false_iff_ne.mpr c17
                      have c17b1 : (a0 != 6) = true := bne_iff_ne.mpr c17
                      replace H := Option.bind_eq_some_iff.mp H
                      obtain ⟨t286, A210, H⟩ := H
                      replace H : (if t286 = 0 then (none) else (some (wrap64 (Int.tdiv a1 t286)))) = some r := H
                      have A21 := Aside0.mk A210
                      clear A210
                      by_cases c22 : t286 = 0
                      · rw [if_pos c22] at H
                        exact absurd H (by simp)
                      · rw [if_neg c22] at H
                        have c22b0 : (t286 == 0) = false := beq_eq_false_iff_ne.mpr c22
                        have c22b1 : (t286 != 0) = true := bne_iff_ne.mpr c22
                        obtain rfl := Option.some.inj H
                        go_enter Try.func65, Try.ntmps65
                        go_wp2_with (first | (go_at_call 75; (with_reducible refine (spec_l1power.calls k a2 t286 _ A21.out).mono ?_); rintro e w' ⟨rfl, ⟨nd, rfl⟩⟩; (try first | exact ⟨rfl, _, World.drewN_drewN _ _ _⟩ | exact ⟨rfl, _, Eq.trans (World.drewN_drewN _ _ _) (congrArg (World.drewN _) (Nat.add_assoc _ _ _))⟩)))
                        repeat (go_quiet (first | (go_at_call 75; (with_reducible refine (spec_l1power.calls k a2 t286 _ A21.out).mono ?_); rintro e w' ⟨rfl, ⟨nd, rfl⟩⟩; (try first | exact ⟨rfl, _, World.drewN_drewN _ _ _⟩ | exact ⟨rfl, _, Eq.trans (World.drewN_drewN _ _ _) (congrArg (World.drewN _) (Nat.add_assoc _ _ _))⟩))); try go_wp2_with (first | (go_at_call 75; (with_reducible refine (spec_l1power.calls k a2 t286 _ A21.out).mono ?_); rintro e w' ⟨rfl, ⟨nd, rfl⟩⟩; (try first | exact ⟨rfl, _, World.drewN_drewN _ _ _⟩ | exact ⟨rfl, _, Eq.trans (World.drewN_drewN _ _ _) (congrArg (World.drewN _) (Nat.add_assoc _ _ _))⟩))))
                        go_ret
                        exact ⟨by first | rfl | (simp; done) | (simp [*]; done), by repeat (first | exact Drawn0.refl _ | apply Drawn0.step)⟩

end Go.Proofs.Ytgodbniphkfgfaa.P

namespace Go.Proofs.Ytgodbniphkfgfaa.P
open Go.RowKit Go.Proofs.YtgodbniphkfgfaaW.PrintWords Go.Proofs.YtgodbniphkfgfaaW.PrintLast Go.Proofs.YtgodbniphkfgfaaW.PrintMore
attribute [local go_sem] max2_int min2_int max_two min_two max_three min_three max_four min_four   -- for this text's walks alone
set_option linter.unusedVariables false
set_option linter.unusedSimpArgs false

/-! ### spec_l1holds: function 66 -/
def spec_l1holds.f (k : Nat) (a0 : Int) (a1 : Int) (a2 : Int) : Option (Bool) := if a0 = 1 then (some (a1 == a2)) else (if a0 = 2 then (some (decide (a1 > a2))) else (if a0 = 3 then (some (decide (a1 ≥ a2))) else ((spec_l1bits.f k a1 a2 false true).bind fun t287 => (some (t287 != 0)))))
set_option maxHeartbeats 8000000 in
set_option maxRecDepth 100000 in
theorem spec_l1holds.calls (k : Nat) (a0 : Int) (a1 : Int) (a2 : Int) (r : Bool) (w : World) (h : spec_l1holds.f k a0 a1 a2 = some r) :
    Calls Try.prog 66 #[.int .i64 a0, .int .i64 a1, .int .i64 a2] w fun e w' => e = .returned (.bool r) ∧ Drawn0 w w' := by
  have H : (if a0 = 1 then (some (a1 == a2)) else (if a0 = 2 then (some (decide (a1 > a2))) else (if a0 = 3 then (some (decide (a1 ≥ a2))) else ((spec_l1bits.f k a1 a2 false true).bind fun t287 => (some (t287 != 0)))))) = some r := h
  clear h
  by_cases c4 : a0 = 1
  · rw [if_pos c4] at H
    have c4b0 : (a0 == 1) = true := beq_iff_eq.mpr c4
    have c4b1 : (a0 != 1) = false := bne_eq_false_iff_eq.mpr c4
    clear c4
    obtain rfl := Option.some.inj H
    go_enter Try.func66, Try.ntmps66
    go_wp2
    go_ret
    exact ⟨by first | rfl | (simp; done) | (simp [*]; done), by repeat (first | exact Drawn0.refl _ | apply Drawn0.step)⟩
  · rw [if_neg c4] at H
    have c4b0 : (a0 == 1) = false := beq_eq_false_iff_ne.mpr c4
    have c4b1 : (a0 != 1) = true := bne_iff_ne.mpr c4
    by_cases c5 : a0 = 2
    · rw [if_pos c5] at H
      have c5b0 : (a0 == 2) = true := beq_iff_eq.mpr c5
      have c5b1 : (a0 != 2) = false := bne_eq_false_iff_eq.mpr c5
      clear c5
      obtain rfl := Option.some.inj H
      go_enter Try.func66, Try.ntmps66
      go_wp2
      go_ret
      exact ⟨by first | rfl | (simp; done) | (simp [*]; done), by repeat (first | exact Drawn0.refl _ | apply Drawn0.step)⟩
    · rw [if_neg c5] at H
      have c5b0 : (a0 == 2) = false := beq_eq_false_iff_ne.mpr c5
      have c5b1 : (a0 != 2) = true := bne_iff_ne.mpr c5
      by_cases c6 : a0 = 3
      · rw [if_pos c6] at H
        have c6b0 : (a0 == 3) = true := beq_iff_eq.mpr c6
        have c6b1 : (a0 != 3) = false := bne_eq_false_iff_eq.mpr c6
        clear c6
        obtain rfl := Option.some.inj H
        go_enter Try.func66, Try.ntmps66
        go_wp2
        go_ret
        exact ⟨by first | rfl | (simp; done) | (simp [*]; done), by repeat (first | exact Drawn0.refl _ | apply Drawn0.step)⟩
      · rw [if_neg c6] at H
        have c6b0 : (a0 == 3) = false := beq_eq_false_iff_ne.mpr c6
        have c6b1 : (a0 != 3) = true := bne_iff_ne.mpr c6
        replace H := Option.bind_eq_some_iff.mp H
        obtain ⟨t287, A70, H⟩ := H
        replace H : (some (t287 != 0)) = some r := H
        have A7 := Aside0.mk A70
        clear A70
        obtain rfl := Option.some.inj H
        go_enter Try.func66, Try.ntmps66
        go_wp2_with (first | ((with_reducible refine gate_callee (f := 74) rfl ?_); refine goesL_ (some 24) rfl rfl Try.func74 (by kernel_rfl) rfl #[.int .i64 a1, .int .i64 a2, .bool false, .bool true] rfl (by (try simp only [List.map_toArray, List.map_cons, List.map_nil]); first | done | rfl | (simp only [List.length_drop, List.length_take]; rfl)) ?_; (with_reducible refine (spec_l1bits.calls k a1 a2 false true t287 _ A7.out).mono ?_); rintro e w' ⟨rfl, ⟨nd, rfl⟩⟩; refine ⟨_, rfl, ?_⟩))
        go_ret
        exact ⟨by first | rfl | (simp; done) | (simp [*]; done), by repeat (first | exact Drawn0.refl _ | apply Drawn0.step)⟩

end Go.Proofs.Ytgodbniphkfgfaa.P

namespace Go.Proofs.Ytgodbniphkfgfaa.P
open Go.RowKit Go.Proofs.YtgodbniphkfgfaaW.PrintWords Go.Proofs.YtgodbniphkfgfaaW.PrintLast Go.Proofs.YtgodbniphkfgfaaW.PrintMore
set_option linter.unusedVariables false
set_option linter.unusedSimpArgs false
/-! The reference's sums over bits, of two words. -/
theorem l1bits_succ (k : Nat) (x0 x1 : Int) (x2 x3 : Bool) (x9 x10 x11 : Int) : spec_l1bits.l0 (k + 1) x0 x1 x2 x3 x9 x10 x11 = if x11 < 32 then (if (wrap64 ((Int.tmod x0 2) + (Int.tmod x1 2))) = 1 then (if x2 = true then (spec_l1bits.l0 k (wrap64 (Int.tdiv x0 2)) (wrap64 (Int.tdiv x1 2)) x2 x3 (wrap64 (x9 + x10)) (wrap64 (x10 * 2)) (wrap64 (x11 + 1))) else (if (wrap64 ((Int.tmod x0 2) + (Int.tmod x1 2))) = 2 then (if x3 = true then (spec_l1bits.l0 k (wrap64 (Int.tdiv x0 2)) (wrap64 (Int.tdiv x1 2)) x2 x3 (wrap64 (x9 + x10)) (wrap64 (x10 * 2)) (wrap64 (x11 + 1))) else (spec_l1bits.l0 k (wrap64 (Int.tdiv x0 2)) (wrap64 (Int.tdiv x1 2)) x2 x3 x9 (wrap64 (x10 * 2)) (wrap64 (x11 + 1)))) else (spec_l1bits.l0 k (wrap64 (Int.tdiv x0 2)) (wrap64 (Int.tdiv x1 2)) x2 x3 x9 (wrap64 (x10 * 2)) (wrap64 (x11 + 1))))) else (if (wrap64 ((Int.tmod x0 2) + (Int.tmod x1 2))) = 2 then (if x3 = true then (spec_l1bits.l0 k (wrap64 (Int.tdiv x0 2)) (wrap64 (Int.tdiv x1 2)) x2 x3 (wrap64 (x9 + x10)) (wrap64 (x10 * 2)) (wrap64 (x11 + 1))) else (spec_l1bits.l0 k (wrap64 (Int.tdiv x0 2)) (wrap64 (Int.tdiv x1 2)) x2 x3 x9 (wrap64 (x10 * 2)) (wrap64 (x11 + 1)))) else (spec_l1bits.l0 k (wrap64 (Int.tdiv x0 2)) (wrap64 (Int.tdiv x1 2)) x2 x3 x9 (wrap64 (x10 * 2)) (wrap64 (x11 + 1))))) else (some x9) := rfl
theorem l1bits_one (k : Nat) (x0 x1 a' b' z z' u u' i i' n : Int) (one two : Bool) (hi : i < 32) (hn : wrap64 ((Int.tmod x0 2) + (Int.tmod x1 2)) = n) (ha : wrap64 (Int.tdiv x0 2) = a') (hb : wrap64 (Int.tdiv x1 2) = b')
    (hz : (if n = 1 then (if one = true then wrap64 (z + u) else z) else if n = 2 then (if two = true then wrap64 (z + u) else z) else z) = z') (hu : wrap64 (u * 2) = u') (hi' : wrap64 (i + 1) = i') :
    spec_l1bits.l0 (k + 1) x0 x1 one two z u i = spec_l1bits.l0 k a' b' one two z' u' i' := by
  rw [l1bits_succ, if_pos hi]
  subst hn ha hb hz hu hi'
  generalize wrap64 ((Int.tmod x0 2) + (Int.tmod x1 2)) = n
  generalize wrap64 (Int.tdiv x0 2) = a'
  generalize wrap64 (Int.tdiv x1 2) = b'
  by_cases c1 : n = 1
  · rw [if_pos c1, if_pos c1]
    cases one
    · rw [if_neg Bool.false_ne_true, if_neg Bool.false_ne_true, if_neg (by omega)]
    · rw [if_pos rfl, if_pos rfl]
  · rw [if_neg c1, if_neg c1]
    by_cases c2 : n = 2
    · rw [if_pos c2, if_pos c2]
      cases two
      · rw [if_neg Bool.false_ne_true, if_neg Bool.false_ne_true]
      · rw [if_pos rfl, if_pos rfl]
    · rw [if_neg c2, if_neg c2]
def sel (one two : Bool) (n : Nat) : Nat := if n = 1 then (if one = true then 1 else 0) else if n = 2 then (if two = true then 1 else 0) else 0
theorem nat_tmod2 (x : Nat) : Int.tmod (x : Int) 2 = ((x % 2 : Nat) : Int) := by
  rw [Int.tmod_eq_emod_of_nonneg (by omega)]; omega
theorem nat_tdiv2 (x : Nat) : Int.tdiv (x : Int) 2 = ((x / 2 : Nat) : Int) := by
  rw [Int.tdiv_eq_ediv_of_nonneg (by omega)]; omega
theorem w64_nat (n : Nat) (h : n < 8589934592) : wrap64 (n : Int) = (n : Int) := wrap64_id (by omega) (by omega)
theorem bit_sum (x y : Nat) : wrap64 (Int.tmod (x : Int) 2 + Int.tmod (y : Int) 2) = ((x % 2 + y % 2 : Nat) : Int) := by
  rewrite [nat_tmod2, nat_tmod2, ← Int.natCast_add]
  exact w64_nat _ (by omega)
theorem bit_half (x : Nat) (h : x < 4294967296) : wrap64 (Int.tdiv (x : Int) 2) = ((x / 2 : Nat) : Int) := by
  rewrite [nat_tdiv2]
  exact w64_nat _ (by omega)
theorem bit_unit (u : Nat) (h : u ≤ 2147483648) : wrap64 ((u : Int) * 2) = ((u * 2 : Nat) : Int) := by
  rw [wrap64_id (by omega) (by omega)]; omega
theorem bit_add (z u : Nat) (h : u ≤ 2147483648) (hz : z < u) : wrap64 ((z : Int) + (u : Int)) = ((z + u * 1 : Nat) : Int) := by
  rw [wrap64_id (by omega) (by omega)]; omega
theorem bit_next (i : Nat) (h : i < 32) : wrap64 ((i : Int) + 1) = ((i + 1 : Nat) : Int) := by
  rw [wrap64_id (by omega) (by omega)]; omega
theorem bit_sel (z u n : Nat) (one two : Bool) (h : u ≤ 2147483648) (hz : z < u) : (if (n : Int) = 1 then (if one = true then wrap64 ((z : Int) + (u : Int)) else (z : Int)) else if (n : Int) = 2 then (if two = true then wrap64 ((z : Int) + (u : Int)) else (z : Int)) else (z : Int)) = ((z + u * sel one two n : Nat) : Int) := by
  have w2 := bit_add z u h hz
  have w0 : (z : Int) = ((z + u * 0 : Nat) : Int) := by omega
  unfold sel
  by_cases c1 : n = 1
  · rw [if_pos (show (n : Int) = 1 by omega), if_pos c1]
    cases one
    · rw [if_neg Bool.false_ne_true, if_neg Bool.false_ne_true]; exact w0
    · rw [if_pos rfl, if_pos rfl]; exact w2
  · rw [if_neg (show ¬ (n : Int) = 1 by omega), if_neg c1]
    by_cases c2 : n = 2
    · rw [if_pos (show (n : Int) = 2 by omega), if_pos c2]
      cases two
      · rw [if_neg Bool.false_ne_true, if_neg Bool.false_ne_true]; exact w0
      · rw [if_pos rfl, if_pos rfl]; exact w2
    · rw [if_neg (show ¬ (n : Int) = 2 by omega), if_neg c2]; exact w0
theorem l1bits_nat (k x y z u i : Nat) (one two : Bool) (hx : x < 4294967296) (hy : y < 4294967296) (h : u ≤ 2147483648) (hz : z < u) (hi : i < 32) :
    spec_l1bits.l0 (k + 1) (x : Int) (y : Int) one two (z : Int) (u : Int) (i : Int) = spec_l1bits.l0 k ((x / 2 : Nat) : Int) ((y / 2 : Nat) : Int) one two ((z + u * sel one two (x % 2 + y % 2) : Nat) : Int) ((u * 2 : Nat) : Int) ((i + 1 : Nat) : Int) :=
  l1bits_one k _ _ _ _ _ _ _ _ _ _ _ one two (by omega) (bit_sum x y) (bit_half x hx) (bit_half y hy) (bit_sel z u _ one two h hz) (bit_unit u h) (bit_next i hi)
theorem l1bits_gen (a b F : Nat) (one two : Bool) (ha : a < 4294967296) (hb : b < 4294967296) (hF : F < 4294967296)
    (hbit : ∀ i, F / 2 ^ i % 2 = sel one two (a / 2 ^ i % 2 + b / 2 ^ i % 2)) :
    Ev (fun k => spec_l1bits.f k a b one two) ((F : Nat) : Int) := by
  have key : ∀ d i : Nat, i + d = 32 → Ev (fun k => spec_l1bits.l0 k ((a / 2 ^ i : Nat) : Int) ((b / 2 ^ i : Nat) : Int) one two ((F % 2 ^ i : Nat) : Int) ((2 ^ i : Nat) : Int) (i : Int)) ((F : Nat) : Int) := by
    intro d
    induction d with
    | zero =>
      intro i hi
      obtain rfl : i = 32 := by omega
      have e : F % 2 ^ 32 = F := Nat.mod_eq_of_lt hF
      rw [e]
      exact ev_end fun k => by simp only [spec_l1bits.l0]; rw [if_neg (by omega)]
    | succ d ih =>
      intro i hi
      have hp : 2 ^ i ≤ 2147483648 := by
        have : 2 ^ i ≤ 2 ^ 31 := Nat.pow_le_pow_right (by decide) (by omega)
        omega
      have ea : a / 2 ^ (i + 1) = a / 2 ^ i / 2 := by rw [Nat.pow_succ, Nat.div_div_eq_div_mul]
      have eb : b / 2 ^ (i + 1) = b / 2 ^ i / 2 := by rw [Nat.pow_succ, Nat.div_div_eq_div_mul]
      have la : a / 2 ^ i ≤ a := Nat.div_le_self _ _
      have lb : b / 2 ^ i ≤ b := Nat.div_le_self _ _
      have lF : F % 2 ^ i < 2 ^ i := Nat.mod_lt _ (Nat.two_pow_pos i)
      have eF : F % 2 ^ (i + 1) = F % 2 ^ i + 2 ^ i * (F / 2 ^ i % 2) := Nat.mod_pow_succ
      have ep : 2 ^ (i + 1) = 2 ^ i * 2 := Nat.pow_succ ..
      have hb' := hbit i
      have hnext := ih (i + 1) (by omega)
      rw [ea, eb, eF, ep] at hnext
      rw [hb'] at hnext
      exact ev_step _ (fun k => l1bits_nat k _ _ _ _ _ one two (Nat.lt_of_le_of_lt la ha) (Nat.lt_of_le_of_lt lb hb) hp lF (by omega)) hnext
  have := key 32 0 (by omega)
  simp only [Nat.pow_zero, Nat.div_one, Nat.mod_one] at this
  refine Ev.congr (fun k => ?_) this
  unfold spec_l1bits.f
  rfl
theorem bit_val (x i : Nat) : x / 2 ^ i % 2 = if x.testBit i = true then 1 else 0 := by
  rw [Nat.testBit_eq_decide_div_mod_eq]
  have : x / 2 ^ i % 2 < 2 := Nat.mod_lt _ (by decide)
  by_cases h : x / 2 ^ i % 2 = 1
  · rw [h]; rfl
  · have : x / 2 ^ i % 2 = 0 := by omega
    rw [this]; rfl
theorem l1or_ev (a b : Nat) (ha : a < 4294967296) (hb : b < 4294967296) : Ev (fun k => spec_l1bits.f k a b true true) (bits .or .u32 a b) := by
  rw [bits_or_nat .u32 rfl a b (by simpa [IntKind.bits] using ha) (by simpa [IntKind.bits] using hb)]
  refine l1bits_gen a b _ true true ha hb (Nat.or_lt_two_pow (n := 32) ha hb) fun i => ?_
  simp only [bit_val, Nat.testBit_or]
  cases a.testBit i <;> cases b.testBit i <;> rfl
theorem l1and_ev (a b : Nat) (ha : a < 4294967296) (hb : b < 4294967296) : Ev (fun k => spec_l1bits.f k a b false true) (bits .and .u32 a b) := by
  rw [bits_and_nat .u32 rfl a b (by simpa [IntKind.bits] using ha) (by simpa [IntKind.bits] using hb)]
  refine l1bits_gen a b _ false true ha hb (Nat.lt_of_le_of_lt Nat.and_le_left ha) fun i => ?_
  simp only [bit_val, Nat.testBit_and]
  cases a.testBit i <;> cases b.testBit i <;> rfl
theorem l1xor_ev (a b : Nat) (ha : a < 4294967296) (hb : b < 4294967296) : Ev (fun k => spec_l1bits.f k a b true false) (bits .xor .u32 a b) := by
  rw [bits_xor_nat .u32 rfl a b (by simpa [IntKind.bits] using ha) (by simpa [IntKind.bits] using hb)]
  refine l1bits_gen a b _ true false ha hb (Nat.xor_lt_two_pow (n := 32) ha hb) fun i => ?_
  simp only [bit_val, Nat.testBit_xor]
  cases a.testBit i <;> cases b.testBit i <;> rfl
theorem l1power_ev (n : Nat) (h : n ≤ 32) : Ev (fun k => spec_l1power.f k (n : Int)) ((2 ^ n : Nat) : Int) := by
  induction n with
  | zero => exact ev_end fun k => by simp only [spec_l1power.f]; rfl
  | succ n ih =>
    have hp : 2 ^ n ≤ 2147483648 := by
      have : 2 ^ n ≤ 2 ^ 31 := Nat.pow_le_pow_right (by decide) (by omega)
      omega
    have e : 2 ^ (n + 1) = 2 ^ n * 2 := Nat.pow_succ ..
    have w : wrap64 (((n + 1 : Nat) : Int) - 1) = (n : Int) := by rw [wrap64_id (by omega) (by omega)]; omega
    refine ev_step _ (fun k => by simp only [spec_l1power.f]; rw [if_neg (by omega), w]) (Ev.bind (ih (by omega)) (ev_is fun k => ?_))
    rw [e]
    generalize 2 ^ n = u at hp ⊢
    rw [wrap64_id (by omega) (by omega)]
    congr 1
    omega
end Go.Proofs.Ytgodbniphkfgfaa.P
