import Derived.Test.YtjpjfkmnfppgkaaDoorGFnExactDecodeLog5
import Derived.Test.YtjpjfkmnfppgkaaDoorGFnExactDecodeLog10
import Derived.Test.YtjpjfkmnfppgkaaDoorGFnExactDecodeLog6
import Derived.Test.YtjpjfkmnfppgkaaDoorGFnExactDecodeLog9
namespace Go.Proofs.YtjpjfkmnfppgkaaDoor.P
open Go.RowKit Go.Proofs.YtjpjfkmnfppgkaaDoorW.PrintWords Go.Proofs.YtjpjfkmnfppgkaaDoorW.PrintLast Go.Proofs.YtjpjfkmnfppgkaaDoorW.PrintMore
attribute [local go_sem] max2_int min2_int max_two min_two max_three min_three max_four min_four   -- for this text's walks alone
set_option linter.unusedVariables false
set_option linter.unusedSimpArgs false

/-! ### spec_DecodeLog: function 10 -/
mutual
def spec_DecodeLog.l0 : Nat → List Int → Int → ByteArray → Int → Option ((List (S28)) × Int × Int)
  | 0, _, _, _, _ => none
  | k + 1, x0, x5, x6, x7 => if x7 < 4 then (if 0 ≤ x7 then (if x7 < (x0.length : Int) then (if x7 < (x6.size : Int) then (if (rd x0 x7) = (bt x6 x7) then (spec_DecodeLog.l0 k x0 x5 x6 (wrap64 (x7 + 1))) else (some (([] : List (S28)), 2, x7))) else (none)) else (none)) else (none)) else (if 4 < (x0.length : Int) then (if (rd x0 4) = 1 then (if 5 ≤ 7 then (if 7 ≤ (x0.length : Int) then ((spec_l1number.f k ((x0.take 7).drop 5)).bind fun t328 => (if (wrap64 (t328)) > 1000 then (some (([] : List (S28)), 4, 5)) else (spec_DecodeLog.l1 k x0 x5 (wrap64 (t328)) ([] : List (S28)) 7 0))) else (none)) else (none)) else (some (([] : List (S28)), 3, 4))) else (none))
def spec_DecodeLog.l1 : Nat → List Int → Int → Int → List (S28) → Int → Int → Option ((List (S28)) × Int × Int)
  | 0, _, _, _, _, _, _ => none
  | k + 1, x0, x5, x8, x9, x10, x11 => if x11 < x8 then (if x10 = x5 then (some (([] : List (S28)), 5, x5)) else (if 0 ≤ x10 then (if x10 < (x0.length : Int) then (if (wrap64 (rd x0 x10)) < 8 then (spec_DecodeLog.j2 k x0 x5 x8 x9 x10 x11 (wrap64 (rd x0 x10)) true) else (spec_DecodeLog.j2 k x0 x5 x8 x9 x10 x11 (wrap64 (rd x0 x10)) (decide ((wrap64 (rd x0 x10)) > 70)))) else (none)) else (none))) else (if x10 < x5 then (some (([] : List (S28)), 9, x10)) else (some (x9, 0, 0)))
def spec_DecodeLog.j2 : Nat → List Int → Int → Int → List (S28) → Int → Int → Int → Bool → Option ((List (S28)) × Int × Int)
  | 0, _, _, _, _, _, _, _, _ => none
  | k + 1, x0, x5, x8, x9, x10, x11, x12, x63 => if x63 = true then (some (([] : List (S28)), 6, x10)) else (if (wrap64 ((wrap64 ((wrap64 (x10 + 1)) + x12)) + 4)) > x5 then (some (([] : List (S28)), 5, x5)) else (if 0 ≤ (wrap64 (x10 + 1)) then (if (wrap64 (x10 + 1)) ≤ (wrap64 ((wrap64 (x10 + 1)) + x12)) then (if (wrap64 ((wrap64 (x10 + 1)) + x12)) ≤ (x0.length : Int) then ((spec_Checksum.f k ((x0.take ((wrap64 ((wrap64 (x10 + 1)) + x12)) : Int).toNat).drop ((wrap64 (x10 + 1)) : Int).toNat)).bind fun t331 => ((spec_l1little.f k (IntKind.u64.wrap (t331)) 4).bind fun t332 => (if 0 ≤ (wrap64 ((wrap64 (x10 + 1)) + x12)) then (if (wrap64 ((wrap64 (x10 + 1)) + x12)) ≤ (wrap64 ((wrap64 ((wrap64 (x10 + 1)) + x12)) + 4)) then (if (wrap64 ((wrap64 ((wrap64 (x10 + 1)) + x12)) + 4)) ≤ (x0.length : Int) then (if (strOfNums t332).toList = (strOfNums ((x0.take ((wrap64 ((wrap64 ((wrap64 (x10 + 1)) + x12)) + 4)) : Int).toNat).drop ((wrap64 ((wrap64 (x10 + 1)) + x12)) : Int).toNat)).toList then ((spec_l2call.f k ((x0.take ((wrap64 ((wrap64 (x10 + 1)) + x12)) : Int).toNat).drop ((wrap64 (x10 + 1)) : Int).toNat)).bind fun bt336 => (if bt336.2.2.2 = true then (if x9.length < 4398046511104 then (spec_DecodeLog.l1 k x0 x5 x8 (x9 ++ [(⟨bt336.1, bt336.2.1, bt336.2.2.1⟩ : S28)]) (wrap64 (x10 + (wrap64 ((wrap64 (1 + x12)) + 4)))) (wrap64 (x11 + 1))) else (none)) else (some (([] : List (S28)), 8, wrap64 (x10 + 1))))) else (some (([] : List (S28)), 7, wrap64 ((wrap64 (x10 + 1)) + x12)))) else (none)) else (none)) else (none)))) else (none)) else (none)) else (none)))
end
def spec_DecodeLog.f (k : Nat) (l0 : List Int) : Option ((List (S28)) × Int × Int) := if (l0.length : Int) < 7 then (some (([] : List (S28)), 5, (l0.length : Int))) else (spec_DecodeLog.l0 k l0 (l0.length : Int) (⟨#[67, 76, 79, 71]⟩ : ByteArray) 0)
def spec_DecodeLog.T8 : Bool × List (List Nat × List Nat) := (true, [([], []), ([], []), ([0, 1], [0, 1]), ([2], [2]), ([], []), ([], []), ([4, 5], [4, 5]), ([3, 6], [3, 6])])
def spec_DecodeLog.B8 : List Nat := [0, 0, 3, 7, 0, 0, 48, 127]
theorem spec_DecodeLog.tab8 : rtab .any (opsOf Tryd.f10 8) = spec_DecodeLog.T8 := by kernel_rfl
theorem spec_DecodeLog.bits8 : waitsOk spec_DecodeLog.T8.2 spec_DecodeLog.B8 = true := by kernel_rfl
def spec_DecodeLog.T28 : Bool × List (List Nat × List Nat) := (true, [([], []), ([0], [0]), ([1], [1]), ([2, 1], [2]), ([3], [3]), ([], []), ([], []), ([6], [6]), ([], []), ([7, 8], [7, 8]), ([], []), ([10], [10]), ([], []), ([11, 12], [11, 12]), ([13], [13]), ([5, 9, 14], [5, 9, 14]), ([15], [15]), ([4, 16], [4, 16])])
def spec_DecodeLog.B28 : List Nat := [0, 1, 3, 7, 15, 0, 0, 64, 0, 448, 0, 1024, 0, 7168, 15360, 32736, 65504, 131071]
theorem spec_DecodeLog.tab28 : rtab .any (opsOf Tryd.f10 28) = spec_DecodeLog.T28 := by kernel_rfl
theorem spec_DecodeLog.bits28 : waitsOk spec_DecodeLog.T28.2 spec_DecodeLog.B28 = true := by kernel_rfl
set_option maxHeartbeats 8000000 in
set_option maxRecDepth 100000 in
theorem spec_DecodeLog.calls (k : Nat) (A0 : Option Addr) (c0 : Nat) (l0 : List Int) (r1 : List (S28)) (r2 : Int) (r3 : Int) (w : World) (hr0 : Kd.C (Kd.int .u8) w A0 l0.length l0) (hc0 : l0.length ≤ c0) (h : spec_DecodeLog.f k l0 = some (r1, r2, r3)) :
    Calls Tryd.prog 10 #[.slice A0 l0.length c0] w fun e w' => ∃ v0_ : Value, e = .returned (.tuple #[v0_, .int .i64 r2, .int .i64 r3]) ∧ Kd.S k28 28 w' w.heap.size (fun _ => True) v0_ r1 ∧ Below w.heap.size w w' := by
  have hu28 := Tryd.underlying28
  have HR0 := Aside0.mk hr0
  have HC0 := Aside0.mk hc0
  clear hr0 hc0
  have HB := Aside0.mk (Below.refl w.heap.size w)
  have H : (if (l0.length : Int) < 7 then (some (([] : List (S28)), 5, (l0.length : Int))) else (spec_DecodeLog.l0 k l0 (l0.length : Int) (⟨#[67, 76, 79, 71]⟩ : ByteArray) 0)) = some (r1, r2, r3) := h
  clear h
  by_cases c2 : (l0.length : Int) < 7
  · rw [if_pos c2] at H
    have c2b0 : decide ((l0.length : Int) < 7) = true := decide_eq_true c2
    have c2b1 : decide (l0.length < 7) = true := decide_eq_true (by omega)
    clear c2
    simp only [Option.some.injEq, Prod.mk.injEq] at H
    obtain ⟨rfl, rfl, rfl⟩ := H
    go_enter Tryd.func10, Tryd.ntmps10
    go_wp2
    go_ret3
    exact ⟨_, by first | rfl | (simp [errW_none, errW_some] <;> rfl) | (simp [*, errW_none, errW_some] <;> rfl), by first | exact Kd.S_nil _ _ _ _ _ | exact Kd.N_nil _ _ _ _ _ | exact Kd.V_nil _ _ _ _ _ | exact Kd.Q_nil _ _ _ _ _ | exact Kd.R_nil _ _ _ _ _, by repeat (first | (with_reducible first | exact HB.out | apply below_alloc | apply pw_below_drewN | apply below_drew1) | exact HB.out)⟩
  · rw [if_neg c2] at H
    have c2b0 : decide ((l0.length : Int) < 7) = false := decide_eq_false c2
    have c2b1 : decide (l0.length < 7) = false := decide_eq_false (by omega)
    clear c2
    have H' := Aside0.mk H
    clear H
    go_enter Tryd.func10, Tryd.ntmps10
    go_wp2
    go_loopg [7] k (fun kq v7 w' => ∃ (x7_1 : Int), v7 = .int .i64 x7_1 ∧ Aside0 (spec_DecodeLog.l0 kq l0 (l0.length : Int) (⟨#[67, 76, 79, 71]⟩ : ByteArray) x7_1 = some (r1, r2, r3)) ∧ Aside0 (kq ≤ k) ∧ Aside0 (Below w.heap.size w w'))
    case atStart => exact ⟨(0), (by first | rfl | (simp; done) | (simp [*]; done)), H', ⟨Nat.le_refl _⟩, ⟨by repeat (first | (with_reducible first | exact HB.out | apply below_alloc | apply pw_below_drewN | apply below_drew1) | exact HB.out)⟩⟩
    case round =>
      clear H'
      try clear c1
      try clear c2
      try clear c2b0
      try clear c2b1
      try clear p2
      obtain ⟨x7_1, rfl, HA, HK1, HB⟩ := hrel
      cases gk with
      | zero => exact absurd HA.out (by simp [spec_DecodeLog.l0])
      | succ k1 =>
        have H := HA.out
        clear HA
        simp only [spec_DecodeLog.l0] at H
        by_cases c3 : x7_1 < 4
        · rw [if_pos c3] at H
          have c3b0 : decide (x7_1 < 4) = true := decide_eq_true c3
          clear c3
          by_cases c4 : 0 ≤ x7_1
          · rw [if_pos c4] at H
            have c4b0 : decide (0 ≤ x7_1) = true := decide_eq_true c4
            clear c4
            by_cases c5 : x7_1 < (l0.length : Int)
            · rw [if_pos c5] at H
              have c5b0 : decide (x7_1 < (l0.length : Int)) = true := decide_eq_true c5
              clear c5
              by_cases c6 : x7_1 < ((⟨#[67, 76, 79, 71]⟩ : ByteArray).size : Int)
              · rw [if_pos c6] at H
                have c6b0 : decide (x7_1 < ((⟨#[67, 76, 79, 71]⟩ : ByteArray).size : Int)) = true := decide_eq_true c6
                clear c6
                by_cases c8 : (rd l0 x7_1) = (bt (⟨#[67, 76, 79, 71]⟩ : ByteArray) x7_1)
                · rw [if_pos c8] at H
                  have c8b0 : ((rd l0 x7_1) == (bt (⟨#[67, 76, 79, 71]⟩ : ByteArray) x7_1)) = true := beq_iff_eq.mpr c8
                  have c8b1 : ((rd l0 x7_1) != (bt (⟨#[67, 76, 79, 71]⟩ : ByteArray) x7_1)) = false := bne_eq_false_iff_eq.mpr c8
                  clear c8
                  have H' := Aside0.mk H
                  clear H
                  try go_wp2
                  have n0_ := Aside0.mk (below_drew1 HB.out)
                  clear HB
                  have HB := n0_
                  clear n0_
                  have p325 : 0 ≤ (x7_1 : Int) := of_decide_eq_true (by first | (with_reducible assumption) | assumption)
                  have q325 : x7_1 < (l0.length : Int) := of_decide_eq_true (by first | (with_reducible assumption) | assumption)
                  obtain ⟨ad325, e325, hx325_0⟩ := Kd.at_int HR0.out x7_1 p325 q325
                  have hw325_0 := hx325_0
                  cases e325
                  replace hx325_0 := (HB.out.cell (World.block_lt_of_cell? w _ hx325_0)).trans hx325_0
                  replace p325 := eq_true p325
                  replace q325 := eq_true q325
                  have p7 : 0 ≤ (x7_1 : Int) := of_decide_eq_true (by first | (with_reducible assumption) | assumption)
                  have q7 : x7_1 < (4 : Int) := of_decide_eq_true (by first | (with_reducible assumption) | assumption)
                  have hx7 := bt_at (⟨#[67, 76, 79, 71]⟩ : ByteArray) x7_1
                  replace p7 := eq_true p7
                  replace q7 := eq_true q7
                  refine start_ (n := 8) (S := fun w' => w'.cell? (ad325.add (x7_1).toNat) = some (.int .u8 (rd l0 x7_1))) (ds := []) #[false, false, false, false, false, false, false, false] (by kernel_rfl) rfl rfl (((HB.out.cell (World.block_lt_of_cell? w _ hw325_0)).trans hw325_0)) (fun hHeld => ?_); refine with_tabW spec_DecodeLog.tab8 spec_DecodeLog.bits8 (fun HT_ HW_ => ?_)
                  generalize wr.drew = w9 at HB hx325_0 hHeld ⊢
                  refine pure_ (i := 0) (N := some 25) (v := ?_) (a' := ?_) #[true, false, false, false, false, false, false, false] rfl rfl (any_of HT_.out (by kernel_rfl)) (fun _ _ _ h => h) (Or.inl ⟨by rfl, ?_⟩) ?_ ?_
                  rotate_left
                  · intro w'
                    go_simp
                    with_reducible rfl
                  rotate_left
                  · simp only [Act.put, List.setIfInBounds_toArray, List.set_cons_zero, List.set_cons_succ, i64_w, i32_w]
                    rfl
                  refine pure_ (i := 1) (N := some 26) (v := ?_) (a' := ?_) #[true, true, false, false, false, false, false, false] rfl rfl (any_of HT_.out (by kernel_rfl)) (fun _ _ _ h => h) (Or.inl ⟨by rfl, ?_⟩) ?_ ?_
                  rotate_left
                  · intro w'
                    go_simp
                    with_reducible rfl
                  rotate_left
                  · simp only [Act.put, List.setIfInBounds_toArray, List.set_cons_zero, List.set_cons_succ, i64_w, i32_w]
                    rfl
                  refine pure_ (i := 2) (N := some 27) (v := ?_) (a' := ?_) #[true, true, true, false, false, false, false, false] rfl rfl (any_of HT_.out (by kernel_rfl)) (fun _ _ _ h => h) (Or.inl ⟨by rfl, ?_⟩) ?_ ?_
                  rotate_left
                  · intro w'
                    go_simp
                    with_reducible rfl
                  rotate_left
                  · simp only [Act.put, List.setIfInBounds_toArray, List.set_cons_zero, List.set_cons_succ, i64_w, i32_w]
                    rfl
                  refine pure_ (i := 4) (N := some 29) (v := ?_) (a' := ?_) #[true, true, true, false, true, false, false, false] rfl rfl (any_of HT_.out (by kernel_rfl)) (fun _ _ _ h => h) (Or.inl ⟨by rfl, ?_⟩) ?_ ?_
                  rotate_left
                  · intro w'
                    go_simp
                    with_reducible rfl
                  rotate_left
                  · simp only [Act.put, List.setIfInBounds_toArray, List.set_cons_zero, List.set_cons_succ, i64_w, i32_w]
                    rfl
                  refine pure_ (i := 5) (N := some 30) (v := ?_) (a' := ?_) #[true, true, true, false, true, true, false, false] rfl rfl (any_of HT_.out (by kernel_rfl)) (fun _ _ _ h => h) (Or.inl ⟨by rfl, ?_⟩) ?_ ?_
                  rotate_left
                  · intro w'
                    go_simp
                    with_reducible rfl
                  rotate_left
                  · simp only [Act.put, List.setIfInBounds_toArray, List.set_cons_zero, List.set_cons_succ, i64_w, i32_w]
                    rfl
                  refine take_ (i := 3) (N := some 28) (v := ?_) (a' := ?_) #[true, true, true, true, true, true, false, false] rfl rfl (take_ofW HT_.out HW_.out (by kernel_rfl)) (fun _ _ _ h => h) (Or.inl ⟨by rfl, ?_⟩) hHeld ?_ ?_
                  rotate_left
                  · intro w' s0
                    go_simp
                    with_reducible rfl
                  rotate_left
                  · simp only [Act.put, List.setIfInBounds_toArray, List.set_cons_zero, List.set_cons_succ, i64_w, i32_w]
                    rfl
                  refine take_ (i := 6) (N := some 31) (v := ?_) (a' := ?_) #[true, true, true, true, true, true, true, false] rfl rfl (take_ofW HT_.out HW_.out (by kernel_rfl)) (fun _ _ _ h => h) (Or.inl ⟨by rfl, ?_⟩) hHeld ?_ ?_
                  rotate_left
                  · intro w' s0
                    go_simp
                    with_reducible rfl
                  rotate_left
                  · simp only [Act.put, List.setIfInBounds_toArray, List.set_cons_zero, List.set_cons_succ, i64_w, i32_w]
                    rfl
                  refine pure_ (i := 7) (N := some 32) (v := ?_) (a' := ?_) #[true, true, true, true, true, true, true, true] rfl rfl (any_of HT_.out (by kernel_rfl)) (fun _ _ _ h => h) (Or.inl ⟨by rfl, ?_⟩) ?_ ?_
                  rotate_left
                  · intro w'
                    go_simp
                    with_reducible rfl
                  rotate_left
                  · simp only [Act.put, List.setIfInBounds_toArray, List.set_cons_zero, List.set_cons_succ, i64_w, i32_w]
                    rfl
                  refine done_ (done_of HT_.out (by kernel_rfl)) ?_
                  try go_wp2
                  go_roundg k1
                  case measure => have := HK1.out; omega
                  case rel => exact ⟨(wrap64 (x7_1 + 1)), (by first | rfl | (simp; done) | (simp [*]; done)), H', ⟨by have := HK1.out; omega⟩, ⟨by repeat (first | (with_reducible first | exact HB.out | apply below_alloc | apply pw_below_drewN | apply below_drew1) | exact HB.out)⟩⟩
                · rw [if_neg c8] at H
                  have c8b0 : ((rd l0 x7_1) == (bt (⟨#[67, 76, 79, 71]⟩ : ByteArray) x7_1)) = false := beq_eq_false_iff_ne.mpr c8
                  have c8b1 : ((rd l0 x7_1) != (bt (⟨#[67, 76, 79, 71]⟩ : ByteArray) x7_1)) = true := bne_iff_ne.mpr c8
                  simp only [Option.some.injEq, Prod.mk.injEq] at H
                  obtain ⟨rfl, rfl, rfl⟩ := H
                  try go_wp2
                  have n0_ := Aside0.mk (below_drew1 HB.out)
                  clear HB
                  have HB := n0_
                  clear n0_
                  have p325 : 0 ≤ (x7_1 : Int) := of_decide_eq_true (by first | (with_reducible assumption) | assumption)
                  have q325 : x7_1 < (l0.length : Int) := of_decide_eq_true (by first | (with_reducible assumption) | assumption)
                  obtain ⟨ad325, e325, hx325_0⟩ := Kd.at_int HR0.out x7_1 p325 q325
                  have hw325_0 := hx325_0
                  cases e325
                  replace hx325_0 := (HB.out.cell (World.block_lt_of_cell? w _ hx325_0)).trans hx325_0
                  replace p325 := eq_true p325
                  replace q325 := eq_true q325
                  have p7 : 0 ≤ (x7_1 : Int) := of_decide_eq_true (by first | (with_reducible assumption) | assumption)
                  have q7 : x7_1 < (4 : Int) := of_decide_eq_true (by first | (with_reducible assumption) | assumption)
                  have hx7 := bt_at (⟨#[67, 76, 79, 71]⟩ : ByteArray) x7_1
                  replace p7 := eq_true p7
                  replace q7 := eq_true q7
                  refine start_ (n := 8) (S := fun w' => w'.cell? (ad325.add (x7_1).toNat) = some (.int .u8 (rd l0 x7_1))) (ds := []) #[false, false, false, false, false, false, false, false] (by kernel_rfl) rfl rfl (((HB.out.cell (World.block_lt_of_cell? w _ hw325_0)).trans hw325_0)) (fun hHeld => ?_); refine with_tabW spec_DecodeLog.tab8 spec_DecodeLog.bits8 (fun HT_ HW_ => ?_)
                  generalize wr.drew = w10 at HB hx325_0 hHeld ⊢
                  refine pure_ (i := 0) (N := some 25) (v := ?_) (a' := ?_) #[true, false, false, false, false, false, false, false] rfl rfl (any_of HT_.out (by kernel_rfl)) (fun _ _ _ h => h) (Or.inl ⟨by rfl, ?_⟩) ?_ ?_
                  rotate_left
                  · intro w'
                    go_simp
                    with_reducible rfl
                  rotate_left
                  · simp only [Act.put, List.setIfInBounds_toArray, List.set_cons_zero, List.set_cons_succ, i64_w, i32_w]
                    rfl
                  refine pure_ (i := 1) (N := some 26) (v := ?_) (a' := ?_) #[true, true, false, false, false, false, false, false] rfl rfl (any_of HT_.out (by kernel_rfl)) (fun _ _ _ h => h) (Or.inl ⟨by rfl, ?_⟩) ?_ ?_
                  rotate_left
                  · intro w'
                    go_simp
                    with_reducible rfl
                  rotate_left
                  · simp only [Act.put, List.setIfInBounds_toArray, List.set_cons_zero, List.set_cons_succ, i64_w, i32_w]
                    rfl
                  refine pure_ (i := 2) (N := some 27) (v := ?_) (a' := ?_) #[true, true, true, false, false, false, false, false] rfl rfl (any_of HT_.out (by kernel_rfl)) (fun _ _ _ h => h) (Or.inl ⟨by rfl, ?_⟩) ?_ ?_
                  rotate_left
                  · intro w'
                    go_simp
                    with_reducible rfl
                  rotate_left
                  · simp only [Act.put, List.setIfInBounds_toArray, List.set_cons_zero, List.set_cons_succ, i64_w, i32_w]
                    rfl
                  refine pure_ (i := 4) (N := some 29) (v := ?_) (a' := ?_) #[true, true, true, false, true, false, false, false] rfl rfl (any_of HT_.out (by kernel_rfl)) (fun _ _ _ h => h) (Or.inl ⟨by rfl, ?_⟩) ?_ ?_
                  rotate_left
                  · intro w'
                    go_simp
                    with_reducible rfl
                  rotate_left
                  · simp only [Act.put, List.setIfInBounds_toArray, List.set_cons_zero, List.set_cons_succ, i64_w, i32_w]
                    rfl
                  refine pure_ (i := 5) (N := some 30) (v := ?_) (a' := ?_) #[true, true, true, false, true, true, false, false] rfl rfl (any_of HT_.out (by kernel_rfl)) (fun _ _ _ h => h) (Or.inl ⟨by rfl, ?_⟩) ?_ ?_
                  rotate_left
                  · intro w'
                    go_simp
                    with_reducible rfl
                  rotate_left
                  · simp only [Act.put, List.setIfInBounds_toArray, List.set_cons_zero, List.set_cons_succ, i64_w, i32_w]
                    rfl
                  refine take_ (i := 3) (N := some 28) (v := ?_) (a' := ?_) #[true, true, true, true, true, true, false, false] rfl rfl (take_ofW HT_.out HW_.out (by kernel_rfl)) (fun _ _ _ h => h) (Or.inl ⟨by rfl, ?_⟩) hHeld ?_ ?_
                  rotate_left
                  · intro w' s0
                    go_simp
                    with_reducible rfl
                  rotate_left
                  · simp only [Act.put, List.setIfInBounds_toArray, List.set_cons_zero, List.set_cons_succ, i64_w, i32_w]
                    rfl
                  refine take_ (i := 6) (N := some 31) (v := ?_) (a' := ?_) #[true, true, true, true, true, true, true, false] rfl rfl (take_ofW HT_.out HW_.out (by kernel_rfl)) (fun _ _ _ h => h) (Or.inl ⟨by rfl, ?_⟩) hHeld ?_ ?_
                  rotate_left
                  · intro w' s0
                    go_simp
                    with_reducible rfl
                  rotate_left
                  · simp only [Act.put, List.setIfInBounds_toArray, List.set_cons_zero, List.set_cons_succ, i64_w, i32_w]
                    rfl
                  refine pure_ (i := 7) (N := some 32) (v := ?_) (a' := ?_) #[true, true, true, true, true, true, true, true] rfl rfl (any_of HT_.out (by kernel_rfl)) (fun _ _ _ h => h) (Or.inl ⟨by rfl, ?_⟩) ?_ ?_
                  rotate_left
                  · intro w'
                    go_simp
                    with_reducible rfl
                  rotate_left
                  · simp only [Act.put, List.setIfInBounds_toArray, List.set_cons_zero, List.set_cons_succ, i64_w, i32_w]
                    rfl
                  refine done_ (done_of HT_.out (by kernel_rfl)) ?_
                  try go_wp2
                  go_ret3
                  exact ⟨_, by first | rfl | (simp [errW_none, errW_some] <;> rfl) | (simp [*, errW_none, errW_some] <;> rfl), by first | exact Kd.S_nil _ _ _ _ _ | exact Kd.N_nil _ _ _ _ _ | exact Kd.V_nil _ _ _ _ _ | exact Kd.Q_nil _ _ _ _ _ | exact Kd.R_nil _ _ _ _ _, by repeat (first | (with_reducible first | exact HB.out | apply below_alloc | apply pw_below_drewN | apply below_drew1) | exact HB.out)⟩
              · rw [if_neg c6] at H
                exact absurd H (by simp)
            · rw [if_neg c5] at H
              exact absurd H (by simp)
          · rw [if_neg c4] at H
            exact absurd H (by simp)
        · rw [if_neg c3] at H
          have c3b0 : decide (x7_1 < 4) = false := decide_eq_false c3
          clear c3
          by_cases c11 : 4 < (l0.length : Int)
          · rw [if_pos c11] at H
            have c11b0 : decide (4 < (l0.length : Int)) = true := decide_eq_true c11
            have c11b1 : decide (4 < l0.length) = true := decide_eq_true (by omega)
            clear c11
            by_cases c12 : (rd l0 4) = 1
            · rw [if_pos c12] at H
              have c12b0 : ((rd l0 4) == 1) = true := beq_iff_eq.mpr c12
              have c12b1 : ((rd l0 4) != 1) = false := bne_eq_false_iff_eq.mpr c12
              clear c12
              by_cases c13 : 5 ≤ 7
              · rw [if_pos c13] at H
                have c13b0 := eq_true c13
                have c13b1 : decide (5 ≤ 7) = true := decide_eq_true c13
                clear c13
                by_cases c14 : 7 ≤ (l0.length : Int)
                · rw [if_pos c14] at H
                  have c14b0 := eq_true c14
                  have c14b1 : decide (7 ≤ (l0.length : Int)) = true := decide_eq_true c14
                  clear c14
                  replace H := Option.bind_eq_some_iff.mp H
                  obtain ⟨t328, A150, H⟩ := H
                  replace H : (if (wrap64 (t328)) > 1000 then (some (([] : List (S28)), 4, 5)) else (spec_DecodeLog.l1 k1 l0 (l0.length : Int) (wrap64 (t328)) ([] : List (S28)) 7 0)) = some (r1, r2, r3) := H
                  have A15 := Aside0.mk A150
                  clear A150
                  by_cases c16 : (wrap64 (t328)) > 1000
                  · rw [if_pos c16] at H
                    have c16b0 : decide (1000 < (wrap64 (t328))) = true := decide_eq_true c16
                    clear c16
                    simp only [Option.some.injEq, Prod.mk.injEq] at H
                    obtain ⟨rfl, rfl, rfl⟩ := H
                    have p326 : 0 ≤ (4 : Int) := (by omega)
                    have q326 : 4 < (l0.length : Int) := of_decide_eq_true (by first | (with_reducible assumption) | assumption)
                    obtain ⟨ad326, e326, hx326_0⟩ := Kd.at_int HR0.out 4 p326 q326
                    cases e326
                    (try simp only [show (4 : Int).toNat = 4 from rfl, Nat.reduceMul, Nat.reduceEqDiff, Go.Addr.add, ↓reduceIte] at hx326_0)
                    have qi326 : (4 < l0.length) = True := eq_true (by omega)
                    (try rw [show ((4 : Int)).toNat = 4 from rfl] at hx326_0)
                    replace hx326_0 := (HB.out.cell (World.block_lt_of_cell? w _ hx326_0)).trans hx326_0
                    replace p326 := eq_true p326
                    replace q326 := eq_true q326
                    obtain ⟨i017, hi017, _, hsz17, _⟩ := info_parts info5
                    obtain ⟨A17, hcut17, hA17, hC17⟩ := print_mid_of (P := Tryd.prog) (Value.int .u8) 0 22 5 .i64 .i64 Tryd.underlying22 hi017 hsz17 (some ad326) c0 l0 5 7 (by omega) (by first | omega | exact of_decide_eq_true (by first | (with_reducible assumption) | assumption)) (of_decide_eq_true (by first | (with_reducible assumption) | assumption)) HC0.out
                    have HR327 := Aside0.mk (Kd.C_of_reads (h1 := fun _ => rfl) (hA17 _ (Kd.reads_of_C HR0.out)))
                    have HC327 := Aside0.mk hC17
                    clear hA17 hC17 hi017 hsz17
                    go_wp2_with (first | ((with_reducible refine gate_callee (f := 30) rfl ?_); refine goesL_ (some 40) rfl rfl Tryd.func30 (by kernel_rfl) rfl #[.slice A17 ((l0.take 7).drop 5).length (c0 - 5)] rfl (by (try simp only [List.map_toArray, List.map_cons, List.map_nil]); first | done | (rw [show ((l0.take 7).drop 5).length = (7 - 5) from (by rw [List.length_drop, List.length_take]; have h_ : (7 : Int) ≤ (l0.length : Int) := of_decide_eq_true (by first | (with_reducible assumption) | assumption); omega)] <;> rfl) | rfl | (simp only [List.length_drop, List.length_take]; rfl)) ?_; (with_reducible refine (spec_l1number.calls k1 _ _ ((l0.take 7).drop 5) t328 _ ?side1 ?side2 A15.out).mono ?_); (case side1 => repeat (first | exact (Kd.C_below HR327.out HB.out) | (with_reducible refine Kd.C_alloc ?_ _) | (with_reducible refine Kd.C_drewN ?_ _) | (with_reducible refine Kd.C_drew ?_))); (case side2 => exact HC327.out); rintro e w' ⟨rfl, ⟨nd, rfl⟩⟩; refine ⟨_, rfl, ?_⟩))
                    go_ret3
                    exact ⟨_, by first | rfl | (simp [errW_none, errW_some] <;> rfl) | (simp [*, errW_none, errW_some] <;> rfl), by first | exact Kd.S_nil _ _ _ _ _ | exact Kd.N_nil _ _ _ _ _ | exact Kd.V_nil _ _ _ _ _ | exact Kd.Q_nil _ _ _ _ _ | exact Kd.R_nil _ _ _ _ _, by repeat (first | (with_reducible first | exact HB.out | apply below_alloc | apply pw_below_drewN | apply below_drew1) | exact HB.out)⟩
                  · rw [if_neg c16] at H
                    have c16b0 : decide (1000 < (wrap64 (t328))) = false := decide_eq_false c16
                    clear c16
                    have H' := Aside0.mk H
                    clear H
                    have p326 : 0 ≤ (4 : Int) := (by omega)
                    have q326 : 4 < (l0.length : Int) := of_decide_eq_true (by first | (with_reducible assumption) | assumption)
                    obtain ⟨ad326, e326, hx326_0⟩ := Kd.at_int HR0.out 4 p326 q326
                    cases e326
                    (try simp only [show (4 : Int).toNat = 4 from rfl, Nat.reduceMul, Nat.reduceEqDiff, Go.Addr.add, ↓reduceIte] at hx326_0)
                    have qi326 : (4 < l0.length) = True := eq_true (by omega)
                    (try rw [show ((4 : Int)).toNat = 4 from rfl] at hx326_0)
                    replace hx326_0 := (HB.out.cell (World.block_lt_of_cell? w _ hx326_0)).trans hx326_0
                    replace p326 := eq_true p326
                    replace q326 := eq_true q326
                    obtain ⟨i018, hi018, _, hsz18, _⟩ := info_parts info5
                    obtain ⟨A18, hcut18, hA18, hC18⟩ := print_mid_of (P := Tryd.prog) (Value.int .u8) 0 22 5 .i64 .i64 Tryd.underlying22 hi018 hsz18 (some ad326) c0 l0 5 7 (by omega) (by first | omega | exact of_decide_eq_true (by first | (with_reducible assumption) | assumption)) (of_decide_eq_true (by first | (with_reducible assumption) | assumption)) HC0.out
                    have HR327 := Aside0.mk (Kd.C_of_reads (h1 := fun _ => rfl) (hA18 _ (Kd.reads_of_C HR0.out)))
                    have HC327 := Aside0.mk hC18
                    clear hA18 hC18 hi018 hsz18
                    go_wp2_with (first | ((with_reducible refine gate_callee (f := 30) rfl ?_); refine goesL_ (some 40) rfl rfl Tryd.func30 (by kernel_rfl) rfl #[.slice A18 ((l0.take 7).drop 5).length (c0 - 5)] rfl (by (try simp only [List.map_toArray, List.map_cons, List.map_nil]); first | done | (rw [show ((l0.take 7).drop 5).length = (7 - 5) from (by rw [List.length_drop, List.length_take]; have h_ : (7 : Int) ≤ (l0.length : Int) := of_decide_eq_true (by first | (with_reducible assumption) | assumption); omega)] <;> rfl) | rfl | (simp only [List.length_drop, List.length_take]; rfl)) ?_; (with_reducible refine (spec_l1number.calls k1 _ _ ((l0.take 7).drop 5) t328 _ ?side1 ?side2 A15.out).mono ?_); (case side1 => repeat (first | exact (Kd.C_below HR327.out HB.out) | (with_reducible refine Kd.C_alloc ?_ _) | (with_reducible refine Kd.C_drewN ?_ _) | (with_reducible refine Kd.C_drew ?_))); (case side2 => exact HC327.out); rintro e w' ⟨rfl, ⟨nd, rfl⟩⟩; refine ⟨_, rfl, ?_⟩))
                    go_loopg [9, 10, 11] k1 (fun kq v9 v10 v11 w' => ∃ (x9_2 : List (S28)) (x10_2 : Int) (x11_2 : Int), v10 = .int .i64 x10_2 ∧ v11 = .int .i64 x11_2 ∧ Aside0 (spec_DecodeLog.l1 kq l0 (l0.length : Int) (wrap64 (t328)) x9_2 x10_2 x11_2 = some (r1, r2, r3)) ∧ Aside0 (kq ≤ k1) ∧ Aside0 (Kd.S k28 28 w' w.heap.size (fun _ => True) v9 x9_2) ∧ Aside0 (Below w.heap.size w w'))
                    case atStart => exact ⟨(([] : List (S28))), (7), (0), (by first | rfl | (simp; done) | (simp [*]; done)), (by first | rfl | (simp; done) | (simp [*]; done)), H', ⟨Nat.le_refl _⟩, ⟨by first | exact Kd.S_nil _ _ _ _ _ | exact Kd.N_nil _ _ _ _ _ | exact Kd.V_nil _ _ _ _ _ | exact Kd.Q_nil _ _ _ _ _ | exact Kd.R_nil _ _ _ _ _⟩, ⟨by repeat (first | (with_reducible first | exact HB.out | apply below_alloc | apply pw_below_drewN | apply below_drew1) | exact HB.out)⟩⟩
                    case round =>
                      clear H'
                      try clear c1
                      try clear c2
                      try clear c2b0
                      try clear c2b1
                      try clear p2
                      try clear c3
                      try clear c3b0
                      try clear p3
                      try clear q3
                      try clear hx3
                      try clear qi3
                      try clear c4
                      try clear c4b0
                      try clear c5
                      try clear c5b0
                      try clear c6
                      try clear c6b0
                      try clear p6
                      try clear p7
                      try clear q7
                      try clear hx7
                      try clear c8
                      try clear c8b0
                      try clear c8b1
                      try clear c10
                      try clear c11
                      try clear c11b0
                      try clear c11b1
                      try clear c12
                      try clear c12b0
                      try clear c12b1
                      try clear c13
                      try clear c13b0
                      try clear c13b1
                      try clear c14
                      try clear c14b0
                      try clear c14b1
                      try clear c16
                      try clear c16b0
                      try clear hx325_0
                      try clear hx326_0
                      try clear p2
                      try clear p325
                      try clear p326
                      try clear p7
                      try clear q325
                      try clear q326
                      try clear q7
                      obtain ⟨x9_2, x10_2, x11_2, rfl, rfl, HA, HK2, HO_9, HB⟩ := hrel
                      cases gk with
                      | zero => exact absurd HA.out (by simp [spec_DecodeLog.l1])
                      | succ k2 =>
                        have H := HA.out
                        clear HA
                        simp only [spec_DecodeLog.l1] at H
                        by_cases c19 : x11_2 < (wrap64 (t328))
                        · rw [if_pos c19] at H
                          have c19b0 : decide (x11_2 < (wrap64 (t328))) = true := decide_eq_true c19
                          clear c19
                          by_cases c20 : x10_2 = (l0.length : Int)
                          · rw [if_pos c20] at H
                            have c20b0 : (x10_2 == (l0.length : Int)) = true := beq_iff_eq.mpr c20
                            have c20b1 : (x10_2 != (l0.length : Int)) = false := bne_eq_false_iff_eq.mpr c20
                            clear c20
                            simp only [Option.some.injEq, Prod.mk.injEq] at H
                            obtain ⟨rfl, rfl, rfl⟩ := H
                            go_wp2
                            go_ret3
                            exact ⟨_, by first | rfl | (simp [errW_none, errW_some] <;> rfl) | (simp [*, errW_none, errW_some] <;> rfl), by first | exact Kd.S_nil _ _ _ _ _ | exact Kd.N_nil _ _ _ _ _ | exact Kd.V_nil _ _ _ _ _ | exact Kd.Q_nil _ _ _ _ _ | exact Kd.R_nil _ _ _ _ _, by repeat (first | (with_reducible first | exact HB.out | apply below_alloc | apply pw_below_drewN | apply below_drew1) | exact HB.out)⟩
                          · rw [if_neg c20] at H
                            have c20b0 : (x10_2 == (l0.length : Int)) = false := beq_eq_false_iff_ne.mpr c20
                            have c20b1 : (x10_2 != (l0.length : Int)) = true := bne_iff_ne.mpr c20
                            by_cases c21 : 0 ≤ x10_2
                            · rw [if_pos c21] at H
                              have c21b0 : decide (0 ≤ x10_2) = true := decide_eq_true c21
                              clear c21
                              by_cases c22 : x10_2 < (l0.length : Int)
                              · rw [if_pos c22] at H
                                have c22b0 : decide (x10_2 < (l0.length : Int)) = true := decide_eq_true c22
                                clear c22
                                have HC23 := Aside0.mk H
                                clear H
                                have p329 : 0 ≤ (x10_2 : Int) := of_decide_eq_true (by first | (with_reducible assumption) | assumption)
                                have q329 : x10_2 < (l0.length : Int) := of_decide_eq_true (by first | (with_reducible assumption) | assumption)
                                obtain ⟨ad329, e329, hx329_0⟩ := Kd.at_int HR0.out x10_2 p329 q329
                                obtain rfl : ad326 = ad329 := (by injection e329)
                                replace hx329_0 := (HB.out.cell (World.block_lt_of_cell? w _ hx329_0)).trans hx329_0
                                replace p329 := eq_true p329
                                replace q329 := eq_true q329
                                go_upto_region 23 with (fail)
                                go_cut [63] (fun v63 wc => ∃ (kq : Nat) (x63_22 : Bool), v63 = .bool x63_22 ∧ Aside0 (spec_DecodeLog.j2 kq l0 (l0.length : Int) (wrap64 (t328)) x9_2 x10_2 x11_2 (wrap64 (rd l0 x10_2)) x63_22 = some (r1, r2, r3)) ∧ Aside0 (kq ≤ k2) ∧ Aside0 (Kd.S k28 28 wc w.heap.size (fun _ => True) u9 x9_2) ∧ Aside0 (Below w.heap.size w wc))
                                case first =>
                                  have H := HC23.out
                                  clear HC23
                                  by_cases c24 : (wrap64 (rd l0 x10_2)) < 8
                                  · rw [if_pos c24] at H
                                    have c24b0 : decide ((wrap64 (rd l0 x10_2)) < 8) = true := decide_eq_true c24
                                    clear c24
                                    (first | rw [c24b0] | (simp only [i64_w, i32_w]; rw [c24b0]) | skip)
                                    have H' := Aside0.mk H
                                    clear H
                                    go_wp2
                                    go_meet
                                    case rel => exact ⟨_, (true), (by first | rfl | (simp; done) | (simp [*]; done)), H', ⟨by have := HK1.out; have := HK2.out; first | omega | exact Nat.le_refl _⟩, ⟨by (with_reducible repeat (first | apply Kd.S_alloc | apply Kd.S_drewN | apply Kd.S_drew)); exact HO_9.out⟩, ⟨by repeat (first | (with_reducible first | exact HB.out | apply below_alloc | apply pw_below_drewN | apply below_drew1) | exact HB.out)⟩⟩
                                  · rw [if_neg c24] at H
                                    have c24b0 : decide ((wrap64 (rd l0 x10_2)) < 8) = false := decide_eq_false c24
                                    clear c24
                                    (first | rw [c24b0] | (simp only [i64_w, i32_w]; rw [c24b0]) | skip)
                                    have H' := Aside0.mk H
                                    clear H
                                    go_wp2
                                    go_meet
                                    case rel => exact ⟨_, (decide ((wrap64 (rd l0 x10_2)) > 70)), (by first | rfl | (simp; done) | (simp [*]; done)), H', ⟨by have := HK1.out; have := HK2.out; first | omega | exact Nat.le_refl _⟩, ⟨by (with_reducible repeat (first | apply Kd.S_alloc | apply Kd.S_drewN | apply Kd.S_drew)); exact HO_9.out⟩, ⟨by repeat (first | (with_reducible first | exact HB.out | apply below_alloc | apply pw_below_drewN | apply below_drew1) | exact HB.out)⟩⟩
                                case rest =>
                                  clear HC23
                                  try clear c1
                                  try clear c2
                                  try clear c2b0
                                  try clear c2b1
                                  try clear p2
                                  try clear c3
                                  try clear c3b0
                                  try clear p3
                                  try clear q3
                                  try clear hx3
                                  try clear qi3
                                  try clear c4
                                  try clear c4b0
                                  try clear c5
                                  try clear c5b0
                                  try clear c6
                                  try clear c6b0
                                  try clear p6
                                  try clear p7
                                  try clear q7
                                  try clear hx7
                                  try clear c8
                                  try clear c8b0
                                  try clear c8b1
                                  try clear c10
                                  try clear c11
                                  try clear c11b0
                                  try clear c11b1
                                  try clear c12
                                  try clear c12b0
                                  try clear c12b1
                                  try clear c13
                                  try clear c13b0
                                  try clear c13b1
                                  try clear c14
                                  try clear c14b0
                                  try clear c14b1
                                  try clear c16
                                  try clear c16b0
                                  try clear c19
                                  try clear c19b0
                                  try clear c20
                                  try clear c20b0
                                  try clear c20b1
                                  try clear c21
                                  try clear c21b0
                                  try clear c22
                                  try clear c22b0
                                  try clear c24
                                  try clear c24b0
                                  try clear hx325_0
                                  try clear hx326_0
                                  try clear hx329_0
                                  try clear p2
                                  try clear p3
                                  try clear p325
                                  try clear p326
                                  try clear p329
                                  try clear p6
                                  try clear p7
                                  try clear q3
                                  try clear q325
                                  try clear q326
                                  try clear q329
                                  try clear q7
                                  obtain ⟨kq, x63_22, rfl, HA, HJ22, HO_9, HB⟩ := hcut
                                  cases kq with
                                  | zero => exact absurd HA.out (by simp [spec_DecodeLog.j2])
                                  | succ kj22 =>
                                    have H := HA.out
                                    clear HA
                                    simp only [spec_DecodeLog.j2] at H
                                    by_cases c25 : x63_22 = true
                                    · subst c25
                                      have H1 : (some (([] : List (S28)), 6, x10_2)) = some (r1, r2, r3) := by rw [if_pos rfl] at H; exact H
                                      clear H
                                      have H := H1
                                      clear H1
                                      simp only [Option.some.injEq, Prod.mk.injEq] at H
                                      obtain ⟨rfl, rfl, rfl⟩ := H
                                      go_wp2
                                      go_ret3
                                      exact ⟨_, by first | rfl | (simp [errW_none, errW_some] <;> rfl) | (simp [*, errW_none, errW_some] <;> rfl), by first | exact Kd.S_nil _ _ _ _ _ | exact Kd.N_nil _ _ _ _ _ | exact Kd.V_nil _ _ _ _ _ | exact Kd.Q_nil _ _ _ _ _ | exact Kd.R_nil _ _ _ _ _, by repeat (first | (with_reducible first | exact HB.out | apply below_alloc | apply pw_below_drewN | apply below_drew1) | exact HB.out)⟩
                                    · replace c25 := Bool.eq_false_iff.mpr c25
                                      subst c25
                                      have H1 : (if (wrap64 ((wrap64 ((wrap64 (x10_2 + 1)) + (wrap64 (rd l0 x10_2)))) + 4)) > (l0.length : Int) then (some (([] : List (S28)), 5, (l0.length : Int))) else (if 0 ≤ (wrap64 (x10_2 + 1)) then (if (wrap64 (x10_2 + 1)) ≤ (wrap64 ((wrap64 (x10_2 + 1)) + (wrap64 (rd l0 x10_2)))) then (if (wrap64 ((wrap64 (x10_2 + 1)) + (wrap64 (rd l0 x10_2)))) ≤ (l0.length : Int) then ((spec_Checksum.f kj22 ((l0.take ((wrap64 ((wrap64 (x10_2 + 1)) + (wrap64 (rd l0 x10_2)))) : Int).toNat).drop ((wrap64 (x10_2 + 1)) : Int).toNat)).bind fun t331 => ((spec_l1little.f kj22 (IntKind.u64.wrap (t331)) 4).bind fun t332 => (if 0 ≤ (wrap64 ((wrap64 (x10_2 + 1)) + (wrap64 (rd l0 x10_2)))) then (if (wrap64 ((wrap64 (x10_2 + 1)) + (wrap64 (rd l0 x10_2)))) ≤ (wrap64 ((wrap64 ((wrap64 (x10_2 + 1)) + (wrap64 (rd l0 x10_2)))) + 4)) then (if (wrap64 ((wrap64 ((wrap64 (x10_2 + 1)) + (wrap64 (rd l0 x10_2)))) + 4)) ≤ (l0.length : Int) then (if (strOfNums t332).toList = (strOfNums ((l0.take ((wrap64 ((wrap64 ((wrap64 (x10_2 + 1)) + (wrap64 (rd l0 x10_2)))) + 4)) : Int).toNat).drop ((wrap64 ((wrap64 (x10_2 + 1)) + (wrap64 (rd l0 x10_2)))) : Int).toNat)).toList then ((spec_l2call.f kj22 ((l0.take ((wrap64 ((wrap64 (x10_2 + 1)) + (wrap64 (rd l0 x10_2)))) : Int).toNat).drop ((wrap64 (x10_2 + 1)) : Int).toNat)).bind fun bt336 => (if bt336.2.2.2 = true then (if x9_2.length < 4398046511104 then (spec_DecodeLog.l1 kj22 l0 (l0.length : Int) (wrap64 (t328)) (x9_2 ++ [(⟨bt336.1, bt336.2.1, bt336.2.2.1⟩ : S28)]) (wrap64 (x10_2 + (wrap64 ((wrap64 (1 + (wrap64 (rd l0 x10_2)))) + 4)))) (wrap64 (x11_2 + 1))) else (none)) else (some (([] : List (S28)), 8, wrap64 (x10_2 + 1))))) else (some (([] : List (S28)), 7, wrap64 ((wrap64 (x10_2 + 1)) + (wrap64 (rd l0 x10_2)))))) else (none)) else (none)) else (none)))) else (none)) else (none)) else (none))) = some (r1, r2, r3) := by rw [if_neg (show ¬ (false = true) by decide)] at H; exact H
                                      clear H
                                      have H := H1
                                      clear H1
                                      by_cases c26 : (wrap64 ((wrap64 ((wrap64 (x10_2 + 1)) + (wrap64 (rd l0 x10_2)))) + 4)) > (l0.length : Int)
                                      · rw [if_pos c26] at H
                                        have c26b0 : decide ((l0.length : Int) < (wrap64 ((wrap64 ((wrap64 (x10_2 + 1)) + (wrap64 (rd l0 x10_2)))) + 4))) = true := decide_eq_true c26
                                        clear c26
                                        simp only [Option.some.injEq, Prod.mk.injEq] at H
                                        obtain ⟨rfl, rfl, rfl⟩ := H
                                        go_wp2
                                        go_ret3
                                        exact ⟨_, by first | rfl | (simp [errW_none, errW_some] <;> rfl) | (simp [*, errW_none, errW_some] <;> rfl), by first | exact Kd.S_nil _ _ _ _ _ | exact Kd.N_nil _ _ _ _ _ | exact Kd.V_nil _ _ _ _ _ | exact Kd.Q_nil _ _ _ _ _ | exact Kd.R_nil _ _ _ _ _, by repeat (first | (with_reducible first | exact HB.out | apply below_alloc | apply pw_below_drewN | apply below_drew1) | exact HB.out)⟩
                                      · rw [if_neg c26] at H
                                        have c26b0 : decide ((l0.length : Int) < (wrap64 ((wrap64 ((wrap64 (x10_2 + 1)) + (wrap64 (rd l0 x10_2)))) + 4))) = false := decide_eq_false c26
                                        clear c26
                                        obtain ⟨ji27, hji27⟩ : ∃ j_ : Int, (wrap64 (x10_2 + 1)) = j_ := ⟨_, rfl⟩
                                        replace H : (if 0 ≤ (ji27) then (if (ji27) ≤ (wrap64 ((ji27) + (wrap64 (rd l0 x10_2)))) then (if (wrap64 ((ji27) + (wrap64 (rd l0 x10_2)))) ≤ (l0.length : Int) then ((spec_Checksum.f kj22 ((l0.take ((wrap64 ((ji27) + (wrap64 (rd l0 x10_2)))) : Int).toNat).drop ((ji27) : Int).toNat)).bind fun t331 => ((spec_l1little.f kj22 (IntKind.u64.wrap (t331)) 4).bind fun t332 => (if 0 ≤ (wrap64 ((ji27) + (wrap64 (rd l0 x10_2)))) then (if (wrap64 ((ji27) + (wrap64 (rd l0 x10_2)))) ≤ (wrap64 ((wrap64 ((ji27) + (wrap64 (rd l0 x10_2)))) + 4)) then (if (wrap64 ((wrap64 ((ji27) + (wrap64 (rd l0 x10_2)))) + 4)) ≤ (l0.length : Int) then (if (strOfNums t332).toList = (strOfNums ((l0.take ((wrap64 ((wrap64 ((ji27) + (wrap64 (rd l0 x10_2)))) + 4)) : Int).toNat).drop ((wrap64 ((ji27) + (wrap64 (rd l0 x10_2)))) : Int).toNat)).toList then ((spec_l2call.f kj22 ((l0.take ((wrap64 ((ji27) + (wrap64 (rd l0 x10_2)))) : Int).toNat).drop ((ji27) : Int).toNat)).bind fun bt336 => (if bt336.2.2.2 = true then (if x9_2.length < 4398046511104 then (spec_DecodeLog.l1 kj22 l0 (l0.length : Int) (wrap64 (t328)) (x9_2 ++ [(⟨bt336.1, bt336.2.1, bt336.2.2.1⟩ : S28)]) (wrap64 (x10_2 + (wrap64 ((wrap64 (1 + (wrap64 (rd l0 x10_2)))) + 4)))) (wrap64 (x11_2 + 1))) else (none)) else (some (([] : List (S28)), 8, ji27)))) else (some (([] : List (S28)), 7, wrap64 ((ji27) + (wrap64 (rd l0 x10_2)))))) else (none)) else (none)) else (none)))) else (none)) else (none)) else (none)) = some (r1, r2, r3) := by first | (rw [hji27] at H; exact H) | (simp only [hji27] at H ⊢; exact H)
                                        (try rw [hji27] at c26b0)
                                        have hji27w : (IntKind.i64.wrap (x10_2 + 1)) = ji27 := (i64_w _).trans hji27
                                        by_cases c28 : 0 ≤ (ji27)
                                        · rw [if_pos c28] at H
                                          have c28b0 := eq_true c28
                                          have c28b1 : decide (0 ≤ (ji27)) = true := decide_eq_true c28
                                          clear c28
                                          by_cases c29 : (ji27) ≤ (wrap64 ((ji27) + (wrap64 (rd l0 x10_2))))
                                          · rw [if_pos c29] at H
                                            have c29b0 := eq_true c29
                                            have c29b1 : decide ((ji27) ≤ (wrap64 ((ji27) + (wrap64 (rd l0 x10_2))))) = true := decide_eq_true c29
                                            by_cases c30 : (wrap64 ((ji27) + (wrap64 (rd l0 x10_2)))) ≤ (l0.length : Int)
                                            · rw [if_pos c30] at H
                                              have c30b0 := eq_true c30
                                              have c30b1 : decide ((wrap64 ((ji27) + (wrap64 (rd l0 x10_2)))) ≤ (l0.length : Int)) = true := decide_eq_true c30
                                              replace H := Option.bind_eq_some_iff.mp H
                                              obtain ⟨t331, A310, H⟩ := H
                                              replace H : ((spec_l1little.f kj22 (IntKind.u64.wrap (t331)) 4).bind fun t332 => (if 0 ≤ (wrap64 ((ji27) + (wrap64 (rd l0 x10_2)))) then (if (wrap64 ((ji27) + (wrap64 (rd l0 x10_2)))) ≤ (wrap64 ((wrap64 ((ji27) + (wrap64 (rd l0 x10_2)))) + 4)) then (if (wrap64 ((wrap64 ((ji27) + (wrap64 (rd l0 x10_2)))) + 4)) ≤ (l0.length : Int) then (if (strOfNums t332).toList = (strOfNums ((l0.take ((wrap64 ((wrap64 ((ji27) + (wrap64 (rd l0 x10_2)))) + 4)) : Int).toNat).drop ((wrap64 ((ji27) + (wrap64 (rd l0 x10_2)))) : Int).toNat)).toList then ((spec_l2call.f kj22 ((l0.take ((wrap64 ((ji27) + (wrap64 (rd l0 x10_2)))) : Int).toNat).drop ((ji27) : Int).toNat)).bind fun bt336 => (if bt336.2.2.2 = true then (if x9_2.length < 4398046511104 then (spec_DecodeLog.l1 kj22 l0 (l0.length : Int) (wrap64 (t328)) (x9_2 ++ [(⟨bt336.1, bt336.2.1, bt336.2.2.1⟩ : S28)]) (wrap64 (x10_2 + (wrap64 ((wrap64 (1 + (wrap64 (rd l0 x10_2)))) + 4)))) (wrap64 (x11_2 + 1))) else (none)) else (some (([] : List (S28)), 8, ji27)))) else (some (([] : List (S28)), 7, wrap64 ((ji27) + (wrap64 (rd l0 x10_2)))))) else (none)) else (none)) else (none))) = some (r1, r2, r3) := H
                                              have A31 := Aside0.mk A310
                                              clear A310
                                              replace H := Option.bind_eq_some_iff.mp H
                                              obtain ⟨t332, A320, H⟩ := H
                                              replace H : (if 0 ≤ (wrap64 ((ji27) + (wrap64 (rd l0 x10_2)))) then (if (wrap64 ((ji27) + (wrap64 (rd l0 x10_2)))) ≤ (wrap64 ((wrap64 ((ji27) + (wrap64 (rd l0 x10_2)))) + 4)) then (if (wrap64 ((wrap64 ((ji27) + (wrap64 (rd l0 x10_2)))) + 4)) ≤ (l0.length : Int) then (if (strOfNums t332).toList = (strOfNums ((l0.take ((wrap64 ((wrap64 ((ji27) + (wrap64 (rd l0 x10_2)))) + 4)) : Int).toNat).drop ((wrap64 ((ji27) + (wrap64 (rd l0 x10_2)))) : Int).toNat)).toList then ((spec_l2call.f kj22 ((l0.take ((wrap64 ((ji27) + (wrap64 (rd l0 x10_2)))) : Int).toNat).drop ((ji27) : Int).toNat)).bind fun bt336 => (if bt336.2.2.2 = true then (if x9_2.length < 4398046511104 then (spec_DecodeLog.l1 kj22 l0 (l0.length : Int) (wrap64 (t328)) (x9_2 ++ [(⟨bt336.1, bt336.2.1, bt336.2.2.1⟩ : S28)]) (wrap64 (x10_2 + (wrap64 ((wrap64 (1 + (wrap64 (rd l0 x10_2)))) + 4)))) (wrap64 (x11_2 + 1))) else (none)) else (some (([] : List (S28)), 8, ji27)))) else (some (([] : List (S28)), 7, wrap64 ((ji27) + (wrap64 (rd l0 x10_2)))))) else (none)) else (none)) else (none)) = some (r1, r2, r3) := H
                                              have A32 := Aside0.mk A320
                                              clear A320
                                              obtain ⟨ji33, hji33⟩ : ∃ j_ : Int, (wrap64 ((ji27) + (wrap64 (rd l0 x10_2)))) = j_ := ⟨_, rfl⟩
                                              replace H : (if 0 ≤ (ji33) then (if (ji33) ≤ (wrap64 ((ji33) + 4)) then (if (wrap64 ((ji33) + 4)) ≤ (l0.length : Int) then (if (strOfNums t332).toList = (strOfNums ((l0.take ((wrap64 ((ji33) + 4)) : Int).toNat).drop ((ji33) : Int).toNat)).toList then ((spec_l2call.f kj22 ((l0.take ((ji33) : Int).toNat).drop ((ji27) : Int).toNat)).bind fun bt336 => (if bt336.2.2.2 = true then (if x9_2.length < 4398046511104 then (spec_DecodeLog.l1 kj22 l0 (l0.length : Int) (wrap64 (t328)) (x9_2 ++ [(⟨bt336.1, bt336.2.1, bt336.2.2.1⟩ : S28)]) (wrap64 (x10_2 + (wrap64 ((wrap64 (1 + (wrap64 (rd l0 x10_2)))) + 4)))) (wrap64 (x11_2 + 1))) else (none)) else (some (([] : List (S28)), 8, ji27)))) else (some (([] : List (S28)), 7, ji33))) else (none)) else (none)) else (none)) = some (r1, r2, r3) := by first | (rw [hji33] at H; exact H) | (simp only [hji33] at H ⊢; exact H)
                                              (try rw [hji33] at c29b0)
                                              (try rw [hji33] at c29b1)
                                              (try rw [hji33] at c29)
                                              (try rw [hji33] at c30b0)
                                              (try rw [hji33] at c30b1)
                                              (try rw [hji33] at c30)
                                              (try rw [hji33] at A31)
                                              (try rw [hji33] at A32)
                                              have hji33w : (IntKind.i64.wrap ((ji27) + (wrap64 (rd l0 x10_2)))) = ji33 := (i64_w _).trans hji33
                                              by_cases c34 : 0 ≤ (ji33)
                                              · rw [if_pos c34] at H
                                                have c34b0 := eq_true c34
                                                have c34b1 : decide (0 ≤ (ji33)) = true := decide_eq_true c34
                                                clear c34
                                                by_cases c35 : (ji33) ≤ (wrap64 ((ji33) + 4))
                                                · rw [if_pos c35] at H
                                                  have c35b0 := eq_true c35
                                                  have c35b1 : decide ((ji33) ≤ (wrap64 ((ji33) + 4))) = true := decide_eq_true c35
                                                  by_cases c36 : (wrap64 ((ji33) + 4)) ≤ (l0.length : Int)
                                                  · rw [if_pos c36] at H
                                                    have c36b0 := eq_true c36
                                                    have c36b1 : decide ((wrap64 ((ji33) + 4)) ≤ (l0.length : Int)) = true := decide_eq_true c36
                                                    by_cases c37 : (strOfNums t332).toList = (strOfNums ((l0.take ((wrap64 ((ji33) + 4)) : Int).toNat).drop ((ji33) : Int).toNat)).toList
                                                    · rw [if_pos c37] at H
                                                      have c37b0 : ((strOfNums t332).toList == (strOfNums ((l0.take ((wrap64 ((ji33) + 4)) : Int).toNat).drop ((ji33) : Int).toNat)).toList) = true := beq_iff_eq.mpr c37
                                                      have c37b1 : ((strOfNums t332).toList != (strOfNums ((l0.take ((wrap64 ((ji33) + 4)) : Int).toNat).drop ((ji33) : Int).toNat)).toList) = false := bne_eq_false_iff_eq.mpr c37
                                                      clear c37
                                                      replace H := Option.bind_eq_some_iff.mp H
                                                      obtain ⟨⟨t336, t337, t338, t341⟩, A380, H⟩ := H
                                                      replace H : (if t341 = true then (if x9_2.length < 4398046511104 then (spec_DecodeLog.l1 kj22 l0 (l0.length : Int) (wrap64 (t328)) (x9_2 ++ [(⟨t336, t337, t338⟩ : S28)]) (wrap64 (x10_2 + (wrap64 ((wrap64 (1 + (wrap64 (rd l0 x10_2)))) + 4)))) (wrap64 (x11_2 + 1))) else (none)) else (some (([] : List (S28)), 8, ji27))) = some (r1, r2, r3) := H
                                                      have A38 := Aside0.mk A380
                                                      clear A380
                                                      by_cases c39 : t341 = true
                                                      · subst c39
                                                        have H1 : (if x9_2.length < 4398046511104 then (spec_DecodeLog.l1 kj22 l0 (l0.length : Int) (wrap64 (t328)) (x9_2 ++ [(⟨t336, t337, t338⟩ : S28)]) (wrap64 (x10_2 + (wrap64 ((wrap64 (1 + (wrap64 (rd l0 x10_2)))) + 4)))) (wrap64 (x11_2 + 1))) else (none)) = some (r1, r2, r3) := by rw [if_pos rfl] at H; exact H
                                                        clear H
                                                        have H := H1
                                                        clear H1
                                                        by_cases c40 : x9_2.length < 4398046511104
                                                        · rw [if_pos c40] at H
                                                          have LMc40 := Aside0.mk c40
                                                          clear c40
                                                          obtain ⟨y343, hy343⟩ : ∃ y_ : List (S28), y_ = (x9_2 ++ [(⟨t336, t337, t338⟩ : S28)]) := ⟨_, rfl⟩
                                                          replace H : (spec_DecodeLog.l1 kj22 l0 (l0.length : Int) (wrap64 (t328)) y343 (wrap64 (x10_2 + (wrap64 ((wrap64 (1 + (wrap64 (rd l0 x10_2)))) + 4)))) (wrap64 (x11_2 + 1))) = some (r1, r2, r3) := by first | (rw [hy343]; with_reducible exact H) | (have H2_ := (Option.bind_some _ _).symm.trans H; rw [hy343]; with_reducible exact H2_) | (have H2_ := (Option.bind_some _ _).symm.trans H; with_reducible exact H2_) | with_reducible exact H | (rw [hy343]; exact H) | exact H
                                                          have Ny343 := Aside0.mk hy343
                                                          clear hy343
                                                          have H' := Aside0.mk H
                                                          clear H
                                                          obtain ⟨i041, hi041, _, hsz41, _⟩ := info_parts info5
                                                          obtain ⟨A41, hcut41, hA41, hC41⟩ := print_mid_of (P := Tryd.prog) (Value.int .u8) 0 22 5 .i64 .i64 Tryd.underlying22 hi041 hsz41 (some ad326) c0 l0 (ji27) (ji33) (of_decide_eq_true (by first | (with_reducible assumption) | assumption)) (by first | omega | exact of_decide_eq_true (by first | (with_reducible assumption) | assumption)) (of_decide_eq_true (by first | (with_reducible assumption) | assumption)) HC0.out
                                                          have HR330 := Aside0.mk (Kd.C_of_reads (h1 := fun _ => rfl) (hA41 _ (Kd.reads_of_C HR0.out)))
                                                          have HC330 := Aside0.mk hC41
                                                          clear hA41 hC41 hi041 hsz41
                                                          try go_wp2
                                                          have n0_ := Aside0.mk (Kd.S_drew HO_9.out)
                                                          have n1_ := Aside0.mk (below_drew1 HB.out)
                                                          clear HO_9
                                                          clear HB
                                                          have HO_9 := n0_
                                                          have HB := n1_
                                                          clear n0_ n1_
                                                          obtain ⟨i043, hi043, _, hsz43, _⟩ := info_parts info5
                                                          obtain ⟨A43, hcut43, hA43, hC43⟩ := print_mid_of (P := Tryd.prog) (Value.int .u8) 0 22 5 .i64 .i64 Tryd.underlying22 hi043 hsz43 (some ad326) c0 l0 (ji33) (wrap64 ((ji33) + 4)) (of_decide_eq_true (by first | (with_reducible assumption) | assumption)) (by first | omega | exact of_decide_eq_true (by first | (with_reducible assumption) | assumption)) (of_decide_eq_true (by first | (with_reducible assumption) | assumption)) HC0.out
                                                          have HR335 := Aside0.mk (Kd.C_of_reads (h1 := fun _ => rfl) (hA43 _ (Kd.reads_of_C HR0.out)))
                                                          have HC335 := Aside0.mk hC43
                                                          clear hA43 hC43 hi043 hsz43
                                                          refine start_ (n := 18) (S := fun w' => Below w.heap.size w w') (ds := []) #[false, false, false, false, false, false, false, false, false, false, false, false, false, false, false, false, false, false] (by kernel_rfl) rfl rfl (by first | exact HB.out | exact below_drew1 HB.out | exact pw_below_drewN HB.out _ | exact pw_below_drewN (below_drew1 HB.out) _) (fun hHeld => ?_); refine with_tabW spec_DecodeLog.tab28 spec_DecodeLog.bits28 (fun HT_ HW_ => ?_)
                                                          generalize wc.drew = w42 at HO_9 HB HR335 hHeld ⊢
                                                          refine pure_ (i := 0) (N := some 81) (v := ?_) (a' := ?_) #[true, false, false, false, false, false, false, false, false, false, false, false, false, false, false, false, false, false] rfl rfl (any_of HT_.out (by kernel_rfl)) (fun _ _ _ h => h) (Or.inl ⟨by rfl, ?_⟩) ?_ ?_
                                                          rotate_left
                                                          · intro w'
                                                            go_simp
                                                            with_reducible rfl
                                                          rotate_left
                                                          · simp only [Act.put, List.setIfInBounds_toArray, List.set_cons_zero, List.set_cons_succ, i64_w, i32_w]
                                                            rfl
                                                          refine pure_ (i := 5) (N := some 86) (v := ?_) (a' := ?_) #[true, false, false, false, false, true, false, false, false, false, false, false, false, false, false, false, false, false] rfl rfl (any_of HT_.out (by kernel_rfl)) (fun _ _ _ h => h) (Or.inl ⟨by rfl, ?_⟩) ?_ ?_
                                                          rotate_left
                                                          · intro w'
                                                            go_simp
                                                            with_reducible rfl
                                                          rotate_left
                                                          · simp only [Act.put, List.setIfInBounds_toArray, List.set_cons_zero, List.set_cons_succ, i64_w, i32_w]
                                                            rfl
                                                          refine pure_ (i := 6) (N := some 87) (v := ?_) (a' := ?_) #[true, false, false, false, false, true, true, false, false, false, false, false, false, false, false, false, false, false] rfl rfl (any_of HT_.out (by kernel_rfl)) (fun _ _ _ h => h) (Or.inl ⟨by rfl, ?_⟩) ?_ ?_
                                                          rotate_left
                                                          · intro w'
                                                            go_simp
                                                            with_reducible rfl
                                                          rotate_left
                                                          · simp only [Act.put, List.setIfInBounds_toArray, List.set_cons_zero, List.set_cons_succ, i64_w, i32_w]
                                                            rfl
                                                          refine pure_ (i := 7) (N := some 88) (v := ?_) (a' := ?_) #[true, false, false, false, false, true, true, true, false, false, false, false, false, false, false, false, false, false] rfl rfl (any_of HT_.out (by kernel_rfl)) (fun _ _ _ h => h) (Or.inl ⟨by rfl, ?_⟩) ?_ ?_
                                                          rotate_left
                                                          · intro w'
                                                            go_simp
                                                            with_reducible rfl
                                                          rotate_left
                                                          · simp only [Act.put, List.setIfInBounds_toArray, List.set_cons_zero, List.set_cons_succ, i64_w, i32_w]
                                                            rfl
                                                          refine pure_ (i := 8) (N := some 89) (v := ?_) (a' := ?_) #[true, false, false, false, false, true, true, true, true, false, false, false, false, false, false, false, false, false] rfl rfl (any_of HT_.out (by kernel_rfl)) (fun _ _ _ h => h) (Or.inl ⟨by rfl, ?_⟩) ?_ ?_
                                                          rotate_left
                                                          · intro w'
                                                            go_simp
                                                            with_reducible rfl
                                                          rotate_left
                                                          · simp only [Act.put, List.setIfInBounds_toArray, List.set_cons_zero, List.set_cons_succ, i64_w, i32_w]
                                                            rfl
                                                          refine pure_ (i := 9) (N := some 90) (v := ?_) (a' := ?_) #[true, false, false, false, false, true, true, true, true, true, false, false, false, false, false, false, false, false] rfl rfl (any_of HT_.out (by kernel_rfl)) (fun _ _ _ h => h) (Or.inl ⟨by rfl, ?_⟩) ?_ ?_
                                                          rotate_left
                                                          · intro w'
                                                            go_simp
                                                            with_reducible rfl
                                                          rotate_left
                                                          · simp only [Act.put, List.setIfInBounds_toArray, List.set_cons_zero, List.set_cons_succ, i64_w, i32_w]
                                                            rfl
                                                          refine pure_ (i := 10) (N := some 91) (v := ?_) (a' := ?_) #[true, false, false, false, false, true, true, true, true, true, true, false, false, false, false, false, false, false] rfl rfl (any_of HT_.out (by kernel_rfl)) (fun _ _ _ h => h) (Or.inl ⟨by rfl, ?_⟩) ?_ ?_
                                                          rotate_left
                                                          · intro w'
                                                            go_simp
                                                            with_reducible rfl
                                                          rotate_left
                                                          · simp only [Act.put, List.setIfInBounds_toArray, List.set_cons_zero, List.set_cons_succ, i64_w, i32_w]
                                                            rfl
                                                          refine pure_ (i := 11) (N := some 92) (v := ?_) (a' := ?_) #[true, false, false, false, false, true, true, true, true, true, true, true, false, false, false, false, false, false] rfl rfl (any_of HT_.out (by kernel_rfl)) (fun _ _ _ h => h) (Or.inl ⟨by rfl, ?_⟩) ?_ ?_
                                                          rotate_left
                                                          · intro w'
                                                            go_simp
                                                            with_reducible rfl
                                                          rotate_left
                                                          · simp only [Act.put, List.setIfInBounds_toArray, List.set_cons_zero, List.set_cons_succ, i64_w, i32_w]
                                                            rfl
                                                          refine pure_ (i := 12) (N := some 93) (v := ?_) (a' := ?_) #[true, false, false, false, false, true, true, true, true, true, true, true, true, false, false, false, false, false] rfl rfl (any_of HT_.out (by kernel_rfl)) (fun _ _ _ h => h) (Or.inl ⟨by rfl, ?_⟩) ?_ ?_
                                                          rotate_left
                                                          · intro w'
                                                            go_simp
                                                            with_reducible rfl
                                                          rotate_left
                                                          · simp only [Act.put, List.setIfInBounds_toArray, List.set_cons_zero, List.set_cons_succ, i64_w, i32_w]
                                                            rfl
                                                          refine pure_ (i := 13) (N := some 94) (v := ?_) (a' := ?_) #[true, false, false, false, false, true, true, true, true, true, true, true, true, true, false, false, false, false] rfl rfl (any_of HT_.out (by kernel_rfl)) (fun _ _ _ h => h) (Or.inl ⟨by rfl, ?_⟩) ?_ ?_
                                                          rotate_left
                                                          · intro w'
                                                            go_simp
                                                            with_reducible rfl
                                                          rotate_left
                                                          · simp only [Act.put, List.setIfInBounds_toArray, List.set_cons_zero, List.set_cons_succ, i64_w, i32_w]
                                                            rfl
                                                          refine pure_ (i := 14) (N := some 95) (v := ?_) (a' := ?_) #[true, false, false, false, false, true, true, true, true, true, true, true, true, true, true, false, false, false] rfl rfl (any_of HT_.out (by kernel_rfl)) (fun _ _ _ h => h) (Or.inl ⟨by rfl, ?_⟩) ?_ ?_
                                                          rotate_left
                                                          · intro w'
                                                            go_simp
                                                            with_reducible rfl
                                                          rotate_left
                                                          · simp only [Act.put, List.setIfInBounds_toArray, List.set_cons_zero, List.set_cons_succ, i64_w, i32_w]
                                                            rfl
                                                          refine pure_ (i := 15) (N := some 96) (v := ?_) (a' := ?_) #[true, false, false, false, false, true, true, true, true, true, true, true, true, true, true, true, false, false] rfl rfl (any_of HT_.out (by kernel_rfl)) (fun _ _ _ h => h) (Or.inl ⟨by rfl, ?_⟩) ?_ ?_
                                                          rotate_left
                                                          · intro w'
                                                            go_simp
                                                            with_reducible rfl
                                                          rotate_left
                                                          · simp only [Act.put, List.setIfInBounds_toArray, List.set_cons_zero, List.set_cons_succ, i64_w, i32_w]
                                                            rfl
                                                          refine take_ (i := 16) (N := some 97) (v := ?_) (a' := ?_) #[true, false, false, false, false, true, true, true, true, true, true, true, true, true, true, true, true, false] rfl rfl (take_ofW HT_.out HW_.out (by kernel_rfl)) (fun _ _ _ h => h) (Or.inl ⟨by rfl, ?_⟩) hHeld ?_ ?_
                                                          rotate_left
                                                          · rintro w' s0
                                                            have hcv_ := Kd.C_string (P := Tryd.prog) (A := A43) (c := (c0 - (ji33).toNat)) Tryd.underlying22 Tryd.underlying5 Tryd.underlying9 (Kd.C_below HR335.out s0)
                                                            rw [show ((l0.take ((wrap64 ((ji33) + 4)) : Int).toNat).drop ((ji33) : Int).toNat).length = ((wrap64 ((ji33) + 4)).toNat - (ji33).toNat) from (by rw [List.length_drop, List.length_take]; have h_ : ((wrap64 ((ji33) + 4)) : Int) ≤ (l0.length : Int) := of_decide_eq_true (by first | (with_reducible assumption) | assumption); omega)] at hcv_
                                                            go_simp
                                                            with_reducible rfl
                                                          rotate_left
                                                          · simp only [Act.put, List.setIfInBounds_toArray, List.set_cons_zero, List.set_cons_succ, i64_w, i32_w]
                                                            rfl
                                                          refine one_ (i := 1) (N := some 82) #[true, true, false, false, false, true, true, true, true, true, true, true, true, true, true, true, true, false] rfl rfl (one_of HT_.out (by kernel_rfl)) (by decide) (fun K hK => ?_)
                                                          refine goes_ Tryd.func32 (by kernel_rfl) rfl #[.slice A41 ((l0.take ((ji33) : Int).toNat).drop ((ji27) : Int).toNat).length (c0 - (ji27).toNat)] (by rfl) rfl rfl (by (try simp only [List.map_toArray, List.map_cons, List.map_nil]); first | done | (rw [show ((l0.take ((ji33) : Int).toNat).drop ((ji27) : Int).toNat).length = ((ji33).toNat - (ji27).toNat) from (by rw [List.length_drop, List.length_take]; have h_ : ((ji33) : Int) ≤ (l0.length : Int) := of_decide_eq_true (by first | (with_reducible assumption) | assumption); omega)] <;> rfl) | (simp only [hji27, hji33]; rfl) | rfl | (simp only [List.length_drop, List.length_take]; rfl)) ?_
                                                          with_reducible refine (spec_Checksum.calls kj22 _ _ ((l0.take ((ji33) : Int).toNat).drop ((ji27) : Int).toNat) t331 _ ?side1 ?side2 A31.out).mono ?_
                                                          (case side1 => repeat (first | exact (Kd.C_below HR330.out HB.out) | (with_reducible refine Kd.C_alloc ?_ _) | (with_reducible refine Kd.C_drewN ?_ _) | (with_reducible refine Kd.C_drew ?_)))
                                                          (case side2 => exact HC330.out)
                                                          rintro e w' ⟨rfl, ⟨nd, rfl⟩⟩
                                                          refine ⟨_, rfl, ?_⟩
                                                          refine hK.out _ _ (by first | exact HB.out | exact below_drew1 HB.out | exact pw_below_drewN HB.out _ | exact pw_below_drewN (below_drew1 HB.out) _) (fun hHeld => ?_)
                                                          clear hK K
                                                          refine norm_ (a' := ?_) ?_ ?_
                                                          rotate_left
                                                          · show Act.put _ (some 82) _ = _
                                                            simp only [Act.put, List.setIfInBounds_toArray, List.set_cons_zero, List.set_cons_succ, i64_w, i32_w]
                                                            rfl
                                                          refine pure_ (i := 2) (N := some 83) (v := ?_) (a' := ?_) #[true, true, true, false, false, true, true, true, true, true, true, true, true, true, true, true, true, false] rfl rfl (any_of HT_.out (by kernel_rfl)) (fun _ _ _ h => h) (Or.inl ⟨by rfl, ?_⟩) ?_ ?_
                                                          rotate_left
                                                          · intro w'
                                                            go_simp
                                                            with_reducible rfl
                                                          rotate_left
                                                          · simp only [Act.put, List.setIfInBounds_toArray, List.set_cons_zero, List.set_cons_succ, i64_w, i32_w]
                                                            rfl
                                                          refine one_ (i := 3) (N := some 84) #[true, true, true, true, false, true, true, true, true, true, true, true, true, true, true, true, true, false] rfl rfl (one_of HT_.out (by kernel_rfl)) (by decide) (fun K hK => ?_)
                                                          refine goes_ Tryd.func31 (by kernel_rfl) rfl #[.int .u64 (IntKind.u64.wrap (t331)), .int .i64 4] (by rfl) rfl rfl (by (try simp only [List.map_toArray, List.map_cons, List.map_nil]); first | done | rfl | (simp only [List.length_drop, List.length_take]; rfl)) ?_
                                                          with_reducible refine (spec_l1little.calls kj22 (IntKind.u64.wrap (t331)) 4 t332 _ A32.out).mono ?_
                                                          rintro e w44 ⟨v333, rfl, ho0, hb⟩
                                                          refine ⟨_, rfl, ?_⟩
                                                          have n0_ := Aside0.mk (Kd.S_below (by (with_reducible repeat (first | apply Kd.S_alloc | apply Kd.S_drewN | apply Kd.S_drew)); exact HO_9.out) hb)
                                                          have n1_ := Aside0.mk (Kd.R_lower ho0 (below_size (by repeat (first | (with_reducible first | exact HB.out | apply below_alloc | apply pw_below_drewN | apply below_drew1) | exact HB.out))))
                                                          have n2_ := Aside0.mk (below_step (by repeat (first | (with_reducible first | exact HB.out | apply below_alloc | apply pw_below_drewN | apply below_drew1) | exact HB.out)) hb)
                                                          clear HO_9
                                                          clear HB
                                                          have HO_9 := n0_
                                                          have HO334 := n1_
                                                          have HB := n2_
                                                          clear n0_ n1_ n2_
                                                          (try clear hb)
                                                          (try clear hb2)
                                                          (try clear hk)
                                                          (try clear hi)
                                                          (try clear ho0)
                                                          have hcv46 := Kd.C_string (P := Tryd.prog) (A := A43) (c := (c0 - (ji33).toNat)) Tryd.underlying22 Tryd.underlying5 Tryd.underlying9 (Kd.C_below HR335.out HB.out)
                                                          refine hK.out _ _ (by first | exact HB.out | exact below_drew1 HB.out | exact pw_below_drewN HB.out _ | exact pw_below_drewN (below_drew1 HB.out) _) (fun hHeld => ?_)
                                                          clear hK K
                                                          refine norm_ (a' := ?_) ?_ ?_
                                                          rotate_left
                                                          · show Act.put _ (some 84) _ = _
                                                            simp only [Act.put, List.setIfInBounds_toArray, List.set_cons_zero, List.set_cons_succ, i64_w, i32_w]
                                                            rfl
                                                          refine one_ (i := 4) (N := some 85) #[true, true, true, true, true, true, true, true, true, true, true, true, true, true, true, true, true, false] rfl rfl (one_of HT_.out (by kernel_rfl)) (by decide) (fun K hK => ?_)
                                                          have hcv45 := own_string (P := Tryd.prog) Tryd.underlying22 Tryd.underlying5 Tryd.underlying9 (Kd.own_of_R HO334.out)
                                                          refine value_ (w1 := ?_) (v := ?_) (by rfl) rfl ?_ ?_
                                                          rotate_left 2
                                                          · go_simp
                                                            constructor
                                                            · rfl
                                                            · rfl
                                                          clear hcv45
                                                          refine hK.out _ _ (by first | exact HB.out | exact below_drew1 HB.out | exact pw_below_drewN HB.out _ | exact pw_below_drewN (below_drew1 HB.out) _) (fun hHeld => ?_)
                                                          clear hK K
                                                          refine norm_ (a' := ?_) ?_ ?_
                                                          rotate_left
                                                          · show Act.put _ (some 85) _ = _
                                                            simp only [Act.put, List.setIfInBounds_toArray, List.set_cons_zero, List.set_cons_succ, i64_w, i32_w]
                                                            rfl
                                                          refine pure_ (i := 17) (N := some 98) (v := ?_) (a' := ?_) #[true, true, true, true, true, true, true, true, true, true, true, true, true, true, true, true, true, true] rfl rfl (any_of HT_.out (by kernel_rfl)) (fun _ _ _ h => h) (Or.inl ⟨by rfl, ?_⟩) ?_ ?_
                                                          rotate_left
                                                          · intro w'
                                                            go_simp
                                                            with_reducible rfl
                                                          rotate_left
                                                          · simp only [Act.put, List.setIfInBounds_toArray, List.set_cons_zero, List.set_cons_succ, i64_w, i32_w]
                                                            rfl
                                                          refine done_ (done_of HT_.out (by kernel_rfl)) ?_
                                                          try go_wp2_with (first | ((with_reducible refine gate_callee (f := 33) rfl ?_); refine goesL_ (some 105) rfl rfl Tryd.func33 (by kernel_rfl) rfl #[.slice A41 ((l0.take ((ji33) : Int).toNat).drop ((ji27) : Int).toNat).length (c0 - (ji27).toNat)] rfl (by (try simp only [List.map_toArray, List.map_cons, List.map_nil]); first | done | (rw [show ((l0.take ((ji33) : Int).toNat).drop ((ji27) : Int).toNat).length = ((ji33).toNat - (ji27).toNat) from (by rw [List.length_drop, List.length_take]; have h_ : ((ji33) : Int) ≤ (l0.length : Int) := of_decide_eq_true (by first | (with_reducible assumption) | assumption); omega)] <;> rfl) | (simp only [hji27, hji33]; rfl) | rfl | (simp only [List.length_drop, List.length_take]; rfl)) ?_; (with_reducible refine (spec_l2call.calls kj22 _ _ ((l0.take ((ji33) : Int).toNat).drop ((ji27) : Int).toNat) t336 t337 t338 true _ ?side1 ?side2 A38.out).mono ?_); (case side1 => repeat (first | exact (Kd.C_below HR330.out HB.out) | (with_reducible refine Kd.C_alloc ?_ _) | (with_reducible refine Kd.C_drewN ?_ _) | (with_reducible refine Kd.C_drew ?_))); (case side2 => exact HC330.out); rintro e w48 ⟨v339, rfl, ho0, hb⟩; refine ⟨_, rfl, ?_⟩; have n0_ := Aside0.mk (Kd.S_elder' (by (with_reducible repeat (first | apply Kd.S_alloc | apply Kd.S_drewN | apply Kd.S_drew)); exact HO_9.out) (Kd.R_base ho0) hb); have n1_ := Aside0.mk (Kd.R_below (by (with_reducible repeat (first | apply Kd.R_alloc | apply Kd.R_drewN | apply Kd.R_drew)); exact HO334.out) hb); have n2_ := Aside0.mk (Kd.R_lower ho0 (below_size (by repeat (first | (with_reducible first | exact HB.out | apply below_alloc | apply pw_below_drewN | apply below_drew1) | exact HB.out)))); have n3_ := Aside0.mk (below_step (by repeat (first | (with_reducible first | exact HB.out | apply below_alloc | apply pw_below_drewN | apply below_drew1) | exact HB.out)) hb); clear HO_9; clear HO334; clear HB; have HO_9 := n0_; have HO334 := n1_; have HO340 := n2_; have HB := n3_; clear n0_ n1_ n2_ n3_; (try clear hb); (try clear hb2); (try clear hk); (try clear hi); (try clear ho0)) | ((with_reducible refine gate_dst (N := 14) rfl ?_); refine box_event ?hg (N := 14) ?hd (cs := #[.int .u32 0, .int .u32 0, .slice none 0 0]) (t := 28) ?hr ?_; (case hd => rfl); (case hg => rfl); (case hr => first | (go_simp; done) | (go_simp; rfl)); intro gb342 hg w49 hbox hb; have n0_ := Aside0.mk (Kd.S_below (Kd.S_elderB (by (with_reducible repeat (first | apply Kd.S_alloc | apply Kd.S_drewN | apply Kd.S_drew)); exact HO_9.out) gb342 (Nat.le_of_eq hg.symm)) hb); have n1_ := Aside0.mk (Kd.R_below (by (with_reducible repeat (first | apply Kd.R_alloc | apply Kd.R_drewN | apply Kd.R_drew)); exact HO334.out) hb); have n2_ := Aside0.mk (Kd.R_below (by (with_reducible repeat (first | apply Kd.R_alloc | apply Kd.R_drewN | apply Kd.R_drew)); exact HO340.out) hb); have n3_ := Aside0.mk (below_step (by repeat (first | (with_reducible first | exact HB.out | apply below_alloc | apply pw_below_drewN | apply below_drew1) | exact HB.out)) hb); have n4_ := Aside0.mk (hbox); have n5_ := Aside0.mk ((by rw [hg]; exact (below_size (by repeat (first | (with_reducible first | exact HB.out | apply below_alloc | apply pw_below_drewN | apply below_drew1) | exact HB.out))) : w.heap.size ≤ gb342)); have n6_ := Aside0.mk ((by rw [hg]; exact (below_size (by repeat (first | (with_reducible first | exact HB.out | apply below_alloc | apply pw_below_drewN | apply below_drew1) | exact HB.out))) : w.heap.size ≤ gb342)); clear HO_9; clear HO334; clear HO340; clear HB; have HO_9 := n0_; have HO334 := n1_; have HO340 := n2_; have HB := n3_; have BK342 := n4_; have GW342 := n5_; have GE342 := n6_; clear n0_ n1_ n2_ n3_ n4_ n5_ n6_; clear hb hbox hg; have hcz50_0 : w49.cell? ⟨gb342, 0, none⟩ = some (.int .u32 0) := (blk_cell BK342.out 0).trans rfl; have hcz50_1 : w49.cell? ⟨gb342, 1, none⟩ = some (.int .u32 0) := (blk_cell BK342.out 1).trans rfl; have hcz50_2 : w49.cell? ⟨gb342, 2, none⟩ = some (.slice none 0 0) := (blk_cell BK342.out 2).trans rfl; have hfz50_0 := blk_frozen BK342.out 0; have hfz50_1 := blk_frozen BK342.out 1; have hfz50_2 := blk_frozen BK342.out 2; obtain ⟨Ao51, co51, eo51⟩ := Kd.R_slice HO340.out; subst eo51) | ((with_reducible refine gate_store (t := 28) (p := 14) rfl ?_); refine store_event (t := 28) (p := 14) (v := ?vo_w52) (w1 := (((w49.setCell ⟨gb342, 0, none⟩ (.int .u32 t336)).setCell ⟨gb342, 1, none⟩ (.int .u32 t337)).setCell ⟨gb342, 2, none⟩ (.slice Ao51 t338.length co51))) ?hg ?ho ?hn ?hr ?_; (case ho => rfl); (case hg => rfl); (case hn => rfl); (case hr => first | (go_simp; done) | (go_simp; rfl)); intro w52 hw; have n0_ : Aside0 (Kd.S k28 28 w52 w.heap.size (fun k_ => some k_ ≠ (.slice Ao51 t338.length co51 : Value).ownBlock ∧ k_ ≠ gb342) u9 x9_2) := ⟨(by rw [hw]; exact (by (with_reducible repeat (first | apply Kd.S_alloc | apply Kd.S_drewN | apply Kd.S_drew)); exact Kd.S_mono (Kd.S_far (p := ⟨gb342, 2, none⟩) (Kd.S_far (p := ⟨gb342, 1, none⟩) (Kd.S_far (p := ⟨gb342, 0, none⟩) (Kd.S_mono HO_9.out (fun k_ hk => (⟨hk, hk.2⟩ : _ ∧ k_ ≠ gb342))) (fun _ hk => hk.2) (.int .u32 t336)) (fun _ hk => hk.2) (.int .u32 t337)) (fun _ hk => hk.2) (.slice Ao51 t338.length co51)) (fun _ hk => ⟨hk.1.1.2, hk.1.2⟩)))⟩; have n1_ : Aside0 (Kd.R (Kd.int .u8) 5 w52 w.heap.size (fun _ => True) v333 t332) := ⟨(by rw [hw]; exact (by (with_reducible repeat (first | apply Kd.R_alloc | apply Kd.R_drewN | apply Kd.R_drew)); exact Kd.R_mono (Kd.R_far (p := ⟨gb342, 2, none⟩) (Kd.R_far (p := ⟨gb342, 1, none⟩) (Kd.R_far (p := ⟨gb342, 0, none⟩) (Kd.R_types HO334.out BK342.out (by decide)) (fun _ hk => hk.2) (.int .u32 t336)) (fun _ hk => hk.2) (.int .u32 t337)) (fun _ hk => hk.2) (.slice Ao51 t338.length co51)) (fun _ hk => trivial)))⟩; have n2_ : Aside0 (Kd.R (Kd.int .u64) 43 w52 w.heap.size (fun _ => True) (.slice Ao51 t338.length co51) t338) := ⟨(by rw [hw]; exact (by (with_reducible repeat (first | apply Kd.R_alloc | apply Kd.R_drewN | apply Kd.R_drew)); exact Kd.R_mono (Kd.R_far (p := ⟨gb342, 2, none⟩) (Kd.R_far (p := ⟨gb342, 1, none⟩) (Kd.R_far (p := ⟨gb342, 0, none⟩) (Kd.R_types HO340.out BK342.out (by decide)) (fun _ hk => hk.2) (.int .u32 t336)) (fun _ hk => hk.2) (.int .u32 t337)) (fun _ hk => hk.2) (.slice Ao51 t338.length co51)) (fun _ hk => trivial)))⟩; have n3_ : Aside0 (w52.heap[gb342]? = some (.cells #[.int .u32 t336, .int .u32 t337, .slice Ao51 t338.length co51] 28 (0, 0))) := ⟨(by rw [hw]; exact (by (with_reducible repeat (first | refine blk_drewN ?_ _ | refine blk_drew ?_ | refine blk_alloc ?_ _)); refine blk_put (cs := #[.int .u32 t336, .int .u32 t337, .slice none 0 0]) ?_ 2 _ rfl; (with_reducible repeat (first | refine blk_drewN ?_ _ | refine blk_drew ?_ | refine blk_alloc ?_ _)); refine blk_put (cs := #[.int .u32 t336, .int .u32 0, .slice none 0 0]) ?_ 1 _ rfl; (with_reducible repeat (first | refine blk_drewN ?_ _ | refine blk_drew ?_ | refine blk_alloc ?_ _)); refine blk_put (cs := #[.int .u32 0, .int .u32 0, .slice none 0 0]) ?_ 0 _ rfl; (with_reducible repeat (first | refine blk_drewN ?_ _ | refine blk_drew ?_ | refine blk_alloc ?_ _)); exact BK342.out))⟩; have n4_ : Aside0 (Below w.heap.size w w52) := ⟨(by rw [hw]; exact (by repeat (first | (with_reducible first | exact HB.out | apply below_alloc | apply pw_below_drewN | apply below_drew1 | refine below_set ?_ GE342.out) | exact HB.out)))⟩; clear hw; clear HO_9; clear HO334; clear HO340; clear BK342; clear HB; have HO_9 := n0_; have HO334 := n1_; have HO340 := n2_; have BK342 := n3_; have HB := n4_; clear n0_ n1_ n2_ n3_ n4_; have hcz53_0 : w52.cell? ⟨gb342, 0, none⟩ = some (.int .u32 t336) := (blk_cell BK342.out 0).trans rfl; have hcz53_1 : w52.cell? ⟨gb342, 1, none⟩ = some (.int .u32 t337) := (blk_cell BK342.out 1).trans rfl; have hcz53_2 : w52.cell? ⟨gb342, 2, none⟩ = some (.slice Ao51 t338.length co51) := (blk_cell BK342.out 2).trans rfl; have hfz53_0 := blk_frozen BK342.out 0; have hfz53_1 := blk_frozen BK342.out 1; have hfz53_2 := blk_frozen BK342.out 2) | ((with_reducible refine gate_builtin (b := .append) (xs := #[.tmp 112, .tmp 114]) rfl ?_); at_builtin; refine Kd.S_append k28 (w0 := w) w.heap.size rfl (.tmp 112) (.tmp 114) 23 28 (.agg #[(.int .u32 0), (.int .u32 0), (.slice none 0 0)]) 32 rfl Tryd.underlying23 info28 rfl (by decide) (by omega) u9 x9_2 (⟨t336, t337, t338⟩ : S28) [.int .u32 t336, .int .u32 t337, .slice Ao51 t338.length co51] (fun k_ => k_ ≠ gb342) (fun k_ => some k_ = (.slice Ao51 t338.length co51 : Value).ownBlock) rfl rfl ?aP (fun k_ hk_ => ((Kd.R_mono (ok' := fun k_ => ((fun k_ => k_ ≠ gb342)) k_ ∧ some k_ ≠ (u9 : Value).ownBlock) (Kd.R_types (Kd.R_apart' (HO340.out) (Kd.S_typed HO_9.out) (by decide)) BK342.out (by decide)) (fun k_ hk => ⟨hk.2, hk.1.2⟩))).1 k_ hk_.symm) ?aF ?aO ?aB ?aS ?aL ?_; (case aP => exact k28_mkM _ _ _ (⟨t336, t337, t338⟩ : S28) (Kd.R_mono (Kd.R_tight rfl (Kd.R_mono (ok' := fun k_ => ((fun k_ => k_ ≠ gb342)) k_ ∧ some k_ ≠ (u9 : Value).ownBlock) (Kd.R_types (Kd.R_apart' (HO340.out) (Kd.S_typed HO_9.out) (by decide)) BK342.out (by decide)) (fun k_ hk => ⟨hk.2, hk.1.2⟩))) (fun _ h_ => h_))); (case aB => exact (by repeat (first | (with_reducible first | exact HB.out | apply below_alloc | apply pw_below_drewN | apply below_drew1 | refine below_set ?_ GE342.out) | exact HB.out))); (case aF => exact (fun k_ hk => Kd.freshB (g := gb342) (o := .cells #[.int .u32 t336, .int .u32 t337, .slice Ao51 t338.length co51] 28 (0, 0)) (by (with_reducible repeat (first | refine blk_drewN ?_ _ | refine blk_drew ?_ | refine blk_alloc ?_ _)); exact BK342.out) k_ hk)); (case aO => exact (by (with_reducible repeat (first | apply Kd.S_alloc | apply Kd.S_drewN | apply Kd.S_drew)); exact Kd.S_mono HO_9.out (fun k_ hk => ⟨hk.2, fun e_ => hk.1 e_⟩))); (case aS => exact (below_size (by repeat (first | (with_reducible first | exact HB.out | apply below_alloc | apply pw_below_drewN | apply below_drew1 | refine below_set ?_ GE342.out) | exact HB.out)))); (case aL => have := LMc40.out; omega); intro v344 w54 ho hb hg hat; rw [← Ny343.out] at ho; have n0_ := Aside0.mk (Kd.R_over' (by (with_reducible repeat (first | apply Kd.R_alloc | apply Kd.R_drewN | apply Kd.R_drew)); exact HO334.out) (Kd.S_typed (by (with_reducible repeat (first | apply Kd.S_alloc | apply Kd.S_drewN | apply Kd.S_drew)); exact HO_9.out)) (by decide) hg); have n1_ := Aside0.mk (blk_grown (g := gb342) (o := .cells #[.int .u32 t336, .int .u32 t337, .slice Ao51 t338.length co51] 28 (0, 0)) (by (with_reducible repeat (first | refine blk_drewN ?_ _ | refine blk_drew ?_ | refine blk_alloc ?_ _)); exact BK342.out) hg (Kd.S_away HO_9.out (fun _ hk => hk.2))); have n2_ := Aside0.mk (hb); have n3_ := Aside0.mk (ho); clear HO334; clear BK342; clear HB; clear HO_9; clear HO340; have HO334 := n0_; have BK342 := n1_; have HB := n2_; have HO345 := n3_; clear n0_ n1_ n2_ n3_; clear ho hb hg hat))
                                                          go_roundg kj22
                                                          case measure => have := HK1.out; have := HK2.out; have := HJ22.out; omega
                                                          case rel => exact ⟨(y343), (wrap64 (x10_2 + (wrap64 ((wrap64 (1 + (wrap64 (rd l0 x10_2)))) + 4)))), (wrap64 (x11_2 + 1)), (by first | rfl | (simp; done) | (simp [*]; done)), (by first | rfl | (simp; done) | (simp [*]; done)), H', ⟨by have := HK1.out; have := HK2.out; have := HJ22.out; omega⟩, ⟨by (with_reducible repeat (first | apply Kd.S_alloc | apply Kd.S_drewN | apply Kd.S_drew)); exact Kd.S_mono HO345.out (fun _ hk => trivial)⟩, ⟨by repeat (first | (with_reducible first | exact HB.out | apply below_alloc | apply pw_below_drewN | apply below_drew1 | refine below_set ?_ GE342.out) | exact HB.out)⟩⟩
                                                        · rw [if_neg c40] at H
                                                          exact absurd H (by simp)
                                                      · replace c39 := Bool.eq_false_iff.mpr c39
                                                        subst c39
                                                        have H1 : (some (([] : List (S28)), 8, ji27)) = some (r1, r2, r3) := by rw [if_neg (show ¬ (false = true) by decide)] at H; exact H
                                                        clear H
                                                        have H := H1
                                                        clear H1
                                                        simp only [Option.some.injEq, Prod.mk.injEq] at H
                                                        obtain ⟨rfl, rfl, rfl⟩ := H
                                                        obtain ⟨i055, hi055, _, hsz55, _⟩ := info_parts info5
                                                        obtain ⟨A55, hcut55, hA55, hC55⟩ := print_mid_of (P := Tryd.prog) (Value.int .u8) 0 22 5 .i64 .i64 Tryd.underlying22 hi055 hsz55 (some ad326) c0 l0 (ji27) (ji33) (of_decide_eq_true (by first | (with_reducible assumption) | assumption)) (by first | omega | exact of_decide_eq_true (by first | (with_reducible assumption) | assumption)) (of_decide_eq_true (by first | (with_reducible assumption) | assumption)) HC0.out
                                                        have HR330 := Aside0.mk (Kd.C_of_reads (h1 := fun _ => rfl) (hA55 _ (Kd.reads_of_C HR0.out)))
                                                        have HC330 := Aside0.mk hC55
                                                        clear hA55 hC55 hi055 hsz55
                                                        try go_wp2
                                                        have n0_ := Aside0.mk (Kd.S_drew HO_9.out)
                                                        have n1_ := Aside0.mk (below_drew1 HB.out)
                                                        clear HO_9
                                                        clear HB
                                                        have HO_9 := n0_
                                                        have HB := n1_
                                                        clear n0_ n1_
                                                        obtain ⟨i057, hi057, _, hsz57, _⟩ := info_parts info5
                                                        obtain ⟨A57, hcut57, hA57, hC57⟩ := print_mid_of (P := Tryd.prog) (Value.int .u8) 0 22 5 .i64 .i64 Tryd.underlying22 hi057 hsz57 (some ad326) c0 l0 (ji33) (wrap64 ((ji33) + 4)) (of_decide_eq_true (by first | (with_reducible assumption) | assumption)) (by first | omega | exact of_decide_eq_true (by first | (with_reducible assumption) | assumption)) (of_decide_eq_true (by first | (with_reducible assumption) | assumption)) HC0.out
                                                        have HR335 := Aside0.mk (Kd.C_of_reads (h1 := fun _ => rfl) (hA57 _ (Kd.reads_of_C HR0.out)))
                                                        have HC335 := Aside0.mk hC57
                                                        clear hA57 hC57 hi057 hsz57
                                                        refine start_ (n := 18) (S := fun w' => Below w.heap.size w w') (ds := []) #[false, false, false, false, false, false, false, false, false, false, false, false, false, false, false, false, false, false] (by kernel_rfl) rfl rfl (by first | exact HB.out | exact below_drew1 HB.out | exact pw_below_drewN HB.out _ | exact pw_below_drewN (below_drew1 HB.out) _) (fun hHeld => ?_); refine with_tabW spec_DecodeLog.tab28 spec_DecodeLog.bits28 (fun HT_ HW_ => ?_)
                                                        generalize wc.drew = w56 at HO_9 HB HR335 hHeld ⊢
                                                        refine pure_ (i := 0) (N := some 81) (v := ?_) (a' := ?_) #[true, false, false, false, false, false, false, false, false, false, false, false, false, false, false, false, false, false] rfl rfl (any_of HT_.out (by kernel_rfl)) (fun _ _ _ h => h) (Or.inl ⟨by rfl, ?_⟩) ?_ ?_
                                                        rotate_left
                                                        · intro w'
                                                          go_simp
                                                          with_reducible rfl
                                                        rotate_left
                                                        · simp only [Act.put, List.setIfInBounds_toArray, List.set_cons_zero, List.set_cons_succ, i64_w, i32_w]
                                                          rfl
                                                        refine pure_ (i := 5) (N := some 86) (v := ?_) (a' := ?_) #[true, false, false, false, false, true, false, false, false, false, false, false, false, false, false, false, false, false] rfl rfl (any_of HT_.out (by kernel_rfl)) (fun _ _ _ h => h) (Or.inl ⟨by rfl, ?_⟩) ?_ ?_
                                                        rotate_left
                                                        · intro w'
                                                          go_simp
                                                          with_reducible rfl
                                                        rotate_left
                                                        · simp only [Act.put, List.setIfInBounds_toArray, List.set_cons_zero, List.set_cons_succ, i64_w, i32_w]
                                                          rfl
                                                        refine pure_ (i := 6) (N := some 87) (v := ?_) (a' := ?_) #[true, false, false, false, false, true, true, false, false, false, false, false, false, false, false, false, false, false] rfl rfl (any_of HT_.out (by kernel_rfl)) (fun _ _ _ h => h) (Or.inl ⟨by rfl, ?_⟩) ?_ ?_
                                                        rotate_left
                                                        · intro w'
                                                          go_simp
                                                          with_reducible rfl
                                                        rotate_left
                                                        · simp only [Act.put, List.setIfInBounds_toArray, List.set_cons_zero, List.set_cons_succ, i64_w, i32_w]
                                                          rfl
                                                        refine pure_ (i := 7) (N := some 88) (v := ?_) (a' := ?_) #[true, false, false, false, false, true, true, true, false, false, false, false, false, false, false, false, false, false] rfl rfl (any_of HT_.out (by kernel_rfl)) (fun _ _ _ h => h) (Or.inl ⟨by rfl, ?_⟩) ?_ ?_
                                                        rotate_left
                                                        · intro w'
                                                          go_simp
                                                          with_reducible rfl
                                                        rotate_left
                                                        · simp only [Act.put, List.setIfInBounds_toArray, List.set_cons_zero, List.set_cons_succ, i64_w, i32_w]
                                                          rfl
                                                        refine pure_ (i := 8) (N := some 89) (v := ?_) (a' := ?_) #[true, false, false, false, false, true, true, true, true, false, false, false, false, false, false, false, false, false] rfl rfl (any_of HT_.out (by kernel_rfl)) (fun _ _ _ h => h) (Or.inl ⟨by rfl, ?_⟩) ?_ ?_
                                                        rotate_left
                                                        · intro w'
                                                          go_simp
                                                          with_reducible rfl
                                                        rotate_left
                                                        · simp only [Act.put, List.setIfInBounds_toArray, List.set_cons_zero, List.set_cons_succ, i64_w, i32_w]
                                                          rfl
                                                        refine pure_ (i := 9) (N := some 90) (v := ?_) (a' := ?_) #[true, false, false, false, false, true, true, true, true, true, false, false, false, false, false, false, false, false] rfl rfl (any_of HT_.out (by kernel_rfl)) (fun _ _ _ h => h) (Or.inl ⟨by rfl, ?_⟩) ?_ ?_
                                                        rotate_left
                                                        · intro w'
                                                          go_simp
                                                          with_reducible rfl
                                                        rotate_left
                                                        · simp only [Act.put, List.setIfInBounds_toArray, List.set_cons_zero, List.set_cons_succ, i64_w, i32_w]
                                                          rfl
                                                        refine pure_ (i := 10) (N := some 91) (v := ?_) (a' := ?_) #[true, false, false, false, false, true, true, true, true, true, true, false, false, false, false, false, false, false] rfl rfl (any_of HT_.out (by kernel_rfl)) (fun _ _ _ h => h) (Or.inl ⟨by rfl, ?_⟩) ?_ ?_
                                                        rotate_left
                                                        · intro w'
                                                          go_simp
                                                          with_reducible rfl
                                                        rotate_left
                                                        · simp only [Act.put, List.setIfInBounds_toArray, List.set_cons_zero, List.set_cons_succ, i64_w, i32_w]
                                                          rfl
                                                        refine pure_ (i := 11) (N := some 92) (v := ?_) (a' := ?_) #[true, false, false, false, false, true, true, true, true, true, true, true, false, false, false, false, false, false] rfl rfl (any_of HT_.out (by kernel_rfl)) (fun _ _ _ h => h) (Or.inl ⟨by rfl, ?_⟩) ?_ ?_
                                                        rotate_left
                                                        · intro w'
                                                          go_simp
                                                          with_reducible rfl
                                                        rotate_left
                                                        · simp only [Act.put, List.setIfInBounds_toArray, List.set_cons_zero, List.set_cons_succ, i64_w, i32_w]
                                                          rfl
                                                        refine pure_ (i := 12) (N := some 93) (v := ?_) (a' := ?_) #[true, false, false, false, false, true, true, true, true, true, true, true, true, false, false, false, false, false] rfl rfl (any_of HT_.out (by kernel_rfl)) (fun _ _ _ h => h) (Or.inl ⟨by rfl, ?_⟩) ?_ ?_
                                                        rotate_left
                                                        · intro w'
                                                          go_simp
                                                          with_reducible rfl
                                                        rotate_left
                                                        · simp only [Act.put, List.setIfInBounds_toArray, List.set_cons_zero, List.set_cons_succ, i64_w, i32_w]
                                                          rfl
                                                        refine pure_ (i := 13) (N := some 94) (v := ?_) (a' := ?_) #[true, false, false, false, false, true, true, true, true, true, true, true, true, true, false, false, false, false] rfl rfl (any_of HT_.out (by kernel_rfl)) (fun _ _ _ h => h) (Or.inl ⟨by rfl, ?_⟩) ?_ ?_
                                                        rotate_left
                                                        · intro w'
                                                          go_simp
                                                          with_reducible rfl
                                                        rotate_left
                                                        · simp only [Act.put, List.setIfInBounds_toArray, List.set_cons_zero, List.set_cons_succ, i64_w, i32_w]
                                                          rfl
                                                        refine pure_ (i := 14) (N := some 95) (v := ?_) (a' := ?_) #[true, false, false, false, false, true, true, true, true, true, true, true, true, true, true, false, false, false] rfl rfl (any_of HT_.out (by kernel_rfl)) (fun _ _ _ h => h) (Or.inl ⟨by rfl, ?_⟩) ?_ ?_
                                                        rotate_left
                                                        · intro w'
                                                          go_simp
                                                          with_reducible rfl
                                                        rotate_left
                                                        · simp only [Act.put, List.setIfInBounds_toArray, List.set_cons_zero, List.set_cons_succ, i64_w, i32_w]
                                                          rfl
                                                        refine pure_ (i := 15) (N := some 96) (v := ?_) (a' := ?_) #[true, false, false, false, false, true, true, true, true, true, true, true, true, true, true, true, false, false] rfl rfl (any_of HT_.out (by kernel_rfl)) (fun _ _ _ h => h) (Or.inl ⟨by rfl, ?_⟩) ?_ ?_
                                                        rotate_left
                                                        · intro w'
                                                          go_simp
                                                          with_reducible rfl
                                                        rotate_left
                                                        · simp only [Act.put, List.setIfInBounds_toArray, List.set_cons_zero, List.set_cons_succ, i64_w, i32_w]
                                                          rfl
                                                        refine take_ (i := 16) (N := some 97) (v := ?_) (a' := ?_) #[true, false, false, false, false, true, true, true, true, true, true, true, true, true, true, true, true, false] rfl rfl (take_ofW HT_.out HW_.out (by kernel_rfl)) (fun _ _ _ h => h) (Or.inl ⟨by rfl, ?_⟩) hHeld ?_ ?_
                                                        rotate_left
                                                        · rintro w' s0
                                                          have hcv_ := Kd.C_string (P := Tryd.prog) (A := A57) (c := (c0 - (ji33).toNat)) Tryd.underlying22 Tryd.underlying5 Tryd.underlying9 (Kd.C_below HR335.out s0)
                                                          rw [show ((l0.take ((wrap64 ((ji33) + 4)) : Int).toNat).drop ((ji33) : Int).toNat).length = ((wrap64 ((ji33) + 4)).toNat - (ji33).toNat) from (by rw [List.length_drop, List.length_take]; have h_ : ((wrap64 ((ji33) + 4)) : Int) ≤ (l0.length : Int) := of_decide_eq_true (by first | (with_reducible assumption) | assumption); omega)] at hcv_
                                                          go_simp
                                                          with_reducible rfl
                                                        rotate_left
                                                        · simp only [Act.put, List.setIfInBounds_toArray, List.set_cons_zero, List.set_cons_succ, i64_w, i32_w]
                                                          rfl
                                                        refine one_ (i := 1) (N := some 82) #[true, true, false, false, false, true, true, true, true, true, true, true, true, true, true, true, true, false] rfl rfl (one_of HT_.out (by kernel_rfl)) (by decide) (fun K hK => ?_)
                                                        refine goes_ Tryd.func32 (by kernel_rfl) rfl #[.slice A55 ((l0.take ((ji33) : Int).toNat).drop ((ji27) : Int).toNat).length (c0 - (ji27).toNat)] (by rfl) rfl rfl (by (try simp only [List.map_toArray, List.map_cons, List.map_nil]); first | done | (rw [show ((l0.take ((ji33) : Int).toNat).drop ((ji27) : Int).toNat).length = ((ji33).toNat - (ji27).toNat) from (by rw [List.length_drop, List.length_take]; have h_ : ((ji33) : Int) ≤ (l0.length : Int) := of_decide_eq_true (by first | (with_reducible assumption) | assumption); omega)] <;> rfl) | (simp only [hji27, hji33]; rfl) | rfl | (simp only [List.length_drop, List.length_take]; rfl)) ?_
                                                        with_reducible refine (spec_Checksum.calls kj22 _ _ ((l0.take ((ji33) : Int).toNat).drop ((ji27) : Int).toNat) t331 _ ?side1 ?side2 A31.out).mono ?_
                                                        (case side1 => repeat (first | exact (Kd.C_below HR330.out HB.out) | (with_reducible refine Kd.C_alloc ?_ _) | (with_reducible refine Kd.C_drewN ?_ _) | (with_reducible refine Kd.C_drew ?_)))
                                                        (case side2 => exact HC330.out)
                                                        rintro e w' ⟨rfl, ⟨nd, rfl⟩⟩
                                                        refine ⟨_, rfl, ?_⟩
                                                        refine hK.out _ _ (by first | exact HB.out | exact below_drew1 HB.out | exact pw_below_drewN HB.out _ | exact pw_below_drewN (below_drew1 HB.out) _) (fun hHeld => ?_)
                                                        clear hK K
                                                        refine norm_ (a' := ?_) ?_ ?_
                                                        rotate_left
                                                        · show Act.put _ (some 82) _ = _
                                                          simp only [Act.put, List.setIfInBounds_toArray, List.set_cons_zero, List.set_cons_succ, i64_w, i32_w]
                                                          rfl
                                                        refine pure_ (i := 2) (N := some 83) (v := ?_) (a' := ?_) #[true, true, true, false, false, true, true, true, true, true, true, true, true, true, true, true, true, false] rfl rfl (any_of HT_.out (by kernel_rfl)) (fun _ _ _ h => h) (Or.inl ⟨by rfl, ?_⟩) ?_ ?_
                                                        rotate_left
                                                        · intro w'
                                                          go_simp
                                                          with_reducible rfl
                                                        rotate_left
                                                        · simp only [Act.put, List.setIfInBounds_toArray, List.set_cons_zero, List.set_cons_succ, i64_w, i32_w]
                                                          rfl
                                                        refine one_ (i := 3) (N := some 84) #[true, true, true, true, false, true, true, true, true, true, true, true, true, true, true, true, true, false] rfl rfl (one_of HT_.out (by kernel_rfl)) (by decide) (fun K hK => ?_)
                                                        refine goes_ Tryd.func31 (by kernel_rfl) rfl #[.int .u64 (IntKind.u64.wrap (t331)), .int .i64 4] (by rfl) rfl rfl (by (try simp only [List.map_toArray, List.map_cons, List.map_nil]); first | done | rfl | (simp only [List.length_drop, List.length_take]; rfl)) ?_
                                                        with_reducible refine (spec_l1little.calls kj22 (IntKind.u64.wrap (t331)) 4 t332 _ A32.out).mono ?_
                                                        rintro e w58 ⟨v333, rfl, ho0, hb⟩
                                                        refine ⟨_, rfl, ?_⟩
                                                        have n0_ := Aside0.mk (Kd.S_below (by (with_reducible repeat (first | apply Kd.S_alloc | apply Kd.S_drewN | apply Kd.S_drew)); exact HO_9.out) hb)
                                                        have n1_ := Aside0.mk (Kd.R_lower ho0 (below_size (by repeat (first | (with_reducible first | exact HB.out | apply below_alloc | apply pw_below_drewN | apply below_drew1) | exact HB.out))))
                                                        have n2_ := Aside0.mk (below_step (by repeat (first | (with_reducible first | exact HB.out | apply below_alloc | apply pw_below_drewN | apply below_drew1) | exact HB.out)) hb)
                                                        clear HO_9
                                                        clear HB
                                                        have HO_9 := n0_
                                                        have HO334 := n1_
                                                        have HB := n2_
                                                        clear n0_ n1_ n2_
                                                        (try clear hb)
                                                        (try clear hb2)
                                                        (try clear hk)
                                                        (try clear hi)
                                                        (try clear ho0)
                                                        have hcv60 := Kd.C_string (P := Tryd.prog) (A := A57) (c := (c0 - (ji33).toNat)) Tryd.underlying22 Tryd.underlying5 Tryd.underlying9 (Kd.C_below HR335.out HB.out)
                                                        refine hK.out _ _ (by first | exact HB.out | exact below_drew1 HB.out | exact pw_below_drewN HB.out _ | exact pw_below_drewN (below_drew1 HB.out) _) (fun hHeld => ?_)
                                                        clear hK K
                                                        refine norm_ (a' := ?_) ?_ ?_
                                                        rotate_left
                                                        · show Act.put _ (some 84) _ = _
                                                          simp only [Act.put, List.setIfInBounds_toArray, List.set_cons_zero, List.set_cons_succ, i64_w, i32_w]
                                                          rfl
                                                        refine one_ (i := 4) (N := some 85) #[true, true, true, true, true, true, true, true, true, true, true, true, true, true, true, true, true, false] rfl rfl (one_of HT_.out (by kernel_rfl)) (by decide) (fun K hK => ?_)
                                                        have hcv59 := own_string (P := Tryd.prog) Tryd.underlying22 Tryd.underlying5 Tryd.underlying9 (Kd.own_of_R HO334.out)
                                                        refine value_ (w1 := ?_) (v := ?_) (by rfl) rfl ?_ ?_
                                                        rotate_left 2
                                                        · go_simp
                                                          constructor
                                                          · rfl
                                                          · rfl
                                                        clear hcv59
                                                        refine hK.out _ _ (by first | exact HB.out | exact below_drew1 HB.out | exact pw_below_drewN HB.out _ | exact pw_below_drewN (below_drew1 HB.out) _) (fun hHeld => ?_)
                                                        clear hK K
                                                        refine norm_ (a' := ?_) ?_ ?_
                                                        rotate_left
                                                        · show Act.put _ (some 85) _ = _
                                                          simp only [Act.put, List.setIfInBounds_toArray, List.set_cons_zero, List.set_cons_succ, i64_w, i32_w]
                                                          rfl
                                                        refine pure_ (i := 17) (N := some 98) (v := ?_) (a' := ?_) #[true, true, true, true, true, true, true, true, true, true, true, true, true, true, true, true, true, true] rfl rfl (any_of HT_.out (by kernel_rfl)) (fun _ _ _ h => h) (Or.inl ⟨by rfl, ?_⟩) ?_ ?_
                                                        rotate_left
                                                        · intro w'
                                                          go_simp
                                                          with_reducible rfl
                                                        rotate_left
                                                        · simp only [Act.put, List.setIfInBounds_toArray, List.set_cons_zero, List.set_cons_succ, i64_w, i32_w]
                                                          rfl
                                                        refine done_ (done_of HT_.out (by kernel_rfl)) ?_
                                                        try go_wp2_with (first | ((with_reducible refine gate_callee (f := 33) rfl ?_); refine goesL_ (some 105) rfl rfl Tryd.func33 (by kernel_rfl) rfl #[.slice A55 ((l0.take ((ji33) : Int).toNat).drop ((ji27) : Int).toNat).length (c0 - (ji27).toNat)] rfl (by (try simp only [List.map_toArray, List.map_cons, List.map_nil]); first | done | (rw [show ((l0.take ((ji33) : Int).toNat).drop ((ji27) : Int).toNat).length = ((ji33).toNat - (ji27).toNat) from (by rw [List.length_drop, List.length_take]; have h_ : ((ji33) : Int) ≤ (l0.length : Int) := of_decide_eq_true (by first | (with_reducible assumption) | assumption); omega)] <;> rfl) | (simp only [hji27, hji33]; rfl) | rfl | (simp only [List.length_drop, List.length_take]; rfl)) ?_; (with_reducible refine (spec_l2call.calls kj22 _ _ ((l0.take ((ji33) : Int).toNat).drop ((ji27) : Int).toNat) t336 t337 t338 false _ ?side1 ?side2 A38.out).mono ?_); (case side1 => repeat (first | exact (Kd.C_below HR330.out HB.out) | (with_reducible refine Kd.C_alloc ?_ _) | (with_reducible refine Kd.C_drewN ?_ _) | (with_reducible refine Kd.C_drew ?_))); (case side2 => exact HC330.out); rintro e w62 ⟨v339, rfl, ho0, hb⟩; refine ⟨_, rfl, ?_⟩; have n0_ := Aside0.mk (Kd.S_elder' (by (with_reducible repeat (first | apply Kd.S_alloc | apply Kd.S_drewN | apply Kd.S_drew)); exact HO_9.out) (Kd.R_base ho0) hb); have n1_ := Aside0.mk (Kd.R_below (by (with_reducible repeat (first | apply Kd.R_alloc | apply Kd.R_drewN | apply Kd.R_drew)); exact HO334.out) hb); have n2_ := Aside0.mk (Kd.R_lower ho0 (below_size (by repeat (first | (with_reducible first | exact HB.out | apply below_alloc | apply pw_below_drewN | apply below_drew1) | exact HB.out)))); have n3_ := Aside0.mk (below_step (by repeat (first | (with_reducible first | exact HB.out | apply below_alloc | apply pw_below_drewN | apply below_drew1) | exact HB.out)) hb); clear HO_9; clear HO334; clear HB; have HO_9 := n0_; have HO334 := n1_; have HO340 := n2_; have HB := n3_; clear n0_ n1_ n2_ n3_; (try clear hb); (try clear hb2); (try clear hk); (try clear hi); (try clear ho0)) | ((with_reducible refine gate_dst (N := 14) rfl ?_); refine box_event ?hg (N := 14) ?hd (cs := #[.int .u32 0, .int .u32 0, .slice none 0 0]) (t := 28) ?hr ?_; (case hd => rfl); (case hg => rfl); (case hr => first | (go_simp; done) | (go_simp; rfl)); intro gb342 hg w63 hbox hb; have n0_ := Aside0.mk (Kd.S_below (Kd.S_elderB (by (with_reducible repeat (first | apply Kd.S_alloc | apply Kd.S_drewN | apply Kd.S_drew)); exact HO_9.out) gb342 (Nat.le_of_eq hg.symm)) hb); have n1_ := Aside0.mk (Kd.R_below (by (with_reducible repeat (first | apply Kd.R_alloc | apply Kd.R_drewN | apply Kd.R_drew)); exact HO334.out) hb); have n2_ := Aside0.mk (Kd.R_below (by (with_reducible repeat (first | apply Kd.R_alloc | apply Kd.R_drewN | apply Kd.R_drew)); exact HO340.out) hb); have n3_ := Aside0.mk (below_step (by repeat (first | (with_reducible first | exact HB.out | apply below_alloc | apply pw_below_drewN | apply below_drew1) | exact HB.out)) hb); have n4_ := Aside0.mk (hbox); have n5_ := Aside0.mk ((by rw [hg]; exact (below_size (by repeat (first | (with_reducible first | exact HB.out | apply below_alloc | apply pw_below_drewN | apply below_drew1) | exact HB.out))) : w.heap.size ≤ gb342)); have n6_ := Aside0.mk ((by rw [hg]; exact (below_size (by repeat (first | (with_reducible first | exact HB.out | apply below_alloc | apply pw_below_drewN | apply below_drew1) | exact HB.out))) : w.heap.size ≤ gb342)); clear HO_9; clear HO334; clear HO340; clear HB; have HO_9 := n0_; have HO334 := n1_; have HO340 := n2_; have HB := n3_; have BK342 := n4_; have GW342 := n5_; have GE342 := n6_; clear n0_ n1_ n2_ n3_ n4_ n5_ n6_; clear hb hbox hg; have hcz64_0 : w63.cell? ⟨gb342, 0, none⟩ = some (.int .u32 0) := (blk_cell BK342.out 0).trans rfl; have hcz64_1 : w63.cell? ⟨gb342, 1, none⟩ = some (.int .u32 0) := (blk_cell BK342.out 1).trans rfl; have hcz64_2 : w63.cell? ⟨gb342, 2, none⟩ = some (.slice none 0 0) := (blk_cell BK342.out 2).trans rfl; have hfz64_0 := blk_frozen BK342.out 0; have hfz64_1 := blk_frozen BK342.out 1; have hfz64_2 := blk_frozen BK342.out 2; obtain ⟨Ao65, co65, eo65⟩ := Kd.R_slice HO340.out; subst eo65))
                                                        go_ret3
                                                        exact ⟨_, by first | rfl | (simp [errW_none, errW_some] <;> rfl) | (simp only [← hji27, ← hji33]; first | rfl | (simp [errW_none, errW_some] <;> rfl)) | (simp [*, errW_none, errW_some] <;> rfl), by first | exact Kd.S_nil _ _ _ _ _ | exact Kd.N_nil _ _ _ _ _ | exact Kd.V_nil _ _ _ _ _ | exact Kd.Q_nil _ _ _ _ _ | exact Kd.R_nil _ _ _ _ _, by repeat (first | (with_reducible first | exact HB.out | apply below_alloc | apply pw_below_drewN | apply below_drew1 | refine below_set ?_ GE342.out) | exact HB.out)⟩
                                                    · rw [if_neg c37] at H
                                                      have c37b0 : ((strOfNums t332).toList == (strOfNums ((l0.take ((wrap64 ((ji33) + 4)) : Int).toNat).drop ((ji33) : Int).toNat)).toList) = false := beq_eq_false_iff_ne.mpr c37
                                                      have c37b1 : ((strOfNums t332).toList != (strOfNums ((l0.take ((wrap64 ((ji33) + 4)) : Int).toNat).drop ((ji33) : Int).toNat)).toList) = true := bne_iff_ne.mpr c37
                                                      simp only [Option.some.injEq, Prod.mk.injEq] at H
                                                      obtain ⟨rfl, rfl, rfl⟩ := H
                                                      obtain ⟨i066, hi066, _, hsz66, _⟩ := info_parts info5
                                                      obtain ⟨A66, hcut66, hA66, hC66⟩ := print_mid_of (P := Tryd.prog) (Value.int .u8) 0 22 5 .i64 .i64 Tryd.underlying22 hi066 hsz66 (some ad326) c0 l0 (ji27) (ji33) (of_decide_eq_true (by first | (with_reducible assumption) | assumption)) (by first | omega | exact of_decide_eq_true (by first | (with_reducible assumption) | assumption)) (of_decide_eq_true (by first | (with_reducible assumption) | assumption)) HC0.out
                                                      have HR330 := Aside0.mk (Kd.C_of_reads (h1 := fun _ => rfl) (hA66 _ (Kd.reads_of_C HR0.out)))
                                                      have HC330 := Aside0.mk hC66
                                                      clear hA66 hC66 hi066 hsz66
                                                      try go_wp2
                                                      have n0_ := Aside0.mk (Kd.S_drew HO_9.out)
                                                      have n1_ := Aside0.mk (below_drew1 HB.out)
                                                      clear HO_9
                                                      clear HB
                                                      have HO_9 := n0_
                                                      have HB := n1_
                                                      clear n0_ n1_
                                                      obtain ⟨i068, hi068, _, hsz68, _⟩ := info_parts info5
                                                      obtain ⟨A68, hcut68, hA68, hC68⟩ := print_mid_of (P := Tryd.prog) (Value.int .u8) 0 22 5 .i64 .i64 Tryd.underlying22 hi068 hsz68 (some ad326) c0 l0 (ji33) (wrap64 ((ji33) + 4)) (of_decide_eq_true (by first | (with_reducible assumption) | assumption)) (by first | omega | exact of_decide_eq_true (by first | (with_reducible assumption) | assumption)) (of_decide_eq_true (by first | (with_reducible assumption) | assumption)) HC0.out
                                                      have HR335 := Aside0.mk (Kd.C_of_reads (h1 := fun _ => rfl) (hA68 _ (Kd.reads_of_C HR0.out)))
                                                      have HC335 := Aside0.mk hC68
                                                      clear hA68 hC68 hi068 hsz68
                                                      refine start_ (n := 18) (S := fun w' => Below w.heap.size w w') (ds := []) #[false, false, false, false, false, false, false, false, false, false, false, false, false, false, false, false, false, false] (by kernel_rfl) rfl rfl (by first | exact HB.out | exact below_drew1 HB.out | exact pw_below_drewN HB.out _ | exact pw_below_drewN (below_drew1 HB.out) _) (fun hHeld => ?_); refine with_tabW spec_DecodeLog.tab28 spec_DecodeLog.bits28 (fun HT_ HW_ => ?_)
                                                      generalize wc.drew = w67 at HO_9 HB HR335 hHeld ⊢
                                                      refine pure_ (i := 0) (N := some 81) (v := ?_) (a' := ?_) #[true, false, false, false, false, false, false, false, false, false, false, false, false, false, false, false, false, false] rfl rfl (any_of HT_.out (by kernel_rfl)) (fun _ _ _ h => h) (Or.inl ⟨by rfl, ?_⟩) ?_ ?_
                                                      rotate_left
                                                      · intro w'
                                                        go_simp
                                                        with_reducible rfl
                                                      rotate_left
                                                      · simp only [Act.put, List.setIfInBounds_toArray, List.set_cons_zero, List.set_cons_succ, i64_w, i32_w]
                                                        rfl
                                                      refine pure_ (i := 5) (N := some 86) (v := ?_) (a' := ?_) #[true, false, false, false, false, true, false, false, false, false, false, false, false, false, false, false, false, false] rfl rfl (any_of HT_.out (by kernel_rfl)) (fun _ _ _ h => h) (Or.inl ⟨by rfl, ?_⟩) ?_ ?_
                                                      rotate_left
                                                      · intro w'
                                                        go_simp
                                                        with_reducible rfl
                                                      rotate_left
                                                      · simp only [Act.put, List.setIfInBounds_toArray, List.set_cons_zero, List.set_cons_succ, i64_w, i32_w]
                                                        rfl
                                                      refine pure_ (i := 6) (N := some 87) (v := ?_) (a' := ?_) #[true, false, false, false, false, true, true, false, false, false, false, false, false, false, false, false, false, false] rfl rfl (any_of HT_.out (by kernel_rfl)) (fun _ _ _ h => h) (Or.inl ⟨by rfl, ?_⟩) ?_ ?_
                                                      rotate_left
                                                      · intro w'
                                                        go_simp
                                                        with_reducible rfl
                                                      rotate_left
                                                      · simp only [Act.put, List.setIfInBounds_toArray, List.set_cons_zero, List.set_cons_succ, i64_w, i32_w]
                                                        rfl
                                                      refine pure_ (i := 7) (N := some 88) (v := ?_) (a' := ?_) #[true, false, false, false, false, true, true, true, false, false, false, false, false, false, false, false, false, false] rfl rfl (any_of HT_.out (by kernel_rfl)) (fun _ _ _ h => h) (Or.inl ⟨by rfl, ?_⟩) ?_ ?_
                                                      rotate_left
                                                      · intro w'
                                                        go_simp
                                                        with_reducible rfl
                                                      rotate_left
                                                      · simp only [Act.put, List.setIfInBounds_toArray, List.set_cons_zero, List.set_cons_succ, i64_w, i32_w]
                                                        rfl
                                                      refine pure_ (i := 8) (N := some 89) (v := ?_) (a' := ?_) #[true, false, false, false, false, true, true, true, true, false, false, false, false, false, false, false, false, false] rfl rfl (any_of HT_.out (by kernel_rfl)) (fun _ _ _ h => h) (Or.inl ⟨by rfl, ?_⟩) ?_ ?_
                                                      rotate_left
                                                      · intro w'
                                                        go_simp
                                                        with_reducible rfl
                                                      rotate_left
                                                      · simp only [Act.put, List.setIfInBounds_toArray, List.set_cons_zero, List.set_cons_succ, i64_w, i32_w]
                                                        rfl
                                                      refine pure_ (i := 9) (N := some 90) (v := ?_) (a' := ?_) #[true, false, false, false, false, true, true, true, true, true, false, false, false, false, false, false, false, false] rfl rfl (any_of HT_.out (by kernel_rfl)) (fun _ _ _ h => h) (Or.inl ⟨by rfl, ?_⟩) ?_ ?_
                                                      rotate_left
                                                      · intro w'
                                                        go_simp
                                                        with_reducible rfl
                                                      rotate_left
                                                      · simp only [Act.put, List.setIfInBounds_toArray, List.set_cons_zero, List.set_cons_succ, i64_w, i32_w]
                                                        rfl
                                                      refine pure_ (i := 10) (N := some 91) (v := ?_) (a' := ?_) #[true, false, false, false, false, true, true, true, true, true, true, false, false, false, false, false, false, false] rfl rfl (any_of HT_.out (by kernel_rfl)) (fun _ _ _ h => h) (Or.inl ⟨by rfl, ?_⟩) ?_ ?_
                                                      rotate_left
                                                      · intro w'
                                                        go_simp
                                                        with_reducible rfl
                                                      rotate_left
                                                      · simp only [Act.put, List.setIfInBounds_toArray, List.set_cons_zero, List.set_cons_succ, i64_w, i32_w]
                                                        rfl
                                                      refine pure_ (i := 11) (N := some 92) (v := ?_) (a' := ?_) #[true, false, false, false, false, true, true, true, true, true, true, true, false, false, false, false, false, false] rfl rfl (any_of HT_.out (by kernel_rfl)) (fun _ _ _ h => h) (Or.inl ⟨by rfl, ?_⟩) ?_ ?_
                                                      rotate_left
                                                      · intro w'
                                                        go_simp
                                                        with_reducible rfl
                                                      rotate_left
                                                      · simp only [Act.put, List.setIfInBounds_toArray, List.set_cons_zero, List.set_cons_succ, i64_w, i32_w]
                                                        rfl
                                                      refine pure_ (i := 12) (N := some 93) (v := ?_) (a' := ?_) #[true, false, false, false, false, true, true, true, true, true, true, true, true, false, false, false, false, false] rfl rfl (any_of HT_.out (by kernel_rfl)) (fun _ _ _ h => h) (Or.inl ⟨by rfl, ?_⟩) ?_ ?_
                                                      rotate_left
                                                      · intro w'
                                                        go_simp
                                                        with_reducible rfl
                                                      rotate_left
                                                      · simp only [Act.put, List.setIfInBounds_toArray, List.set_cons_zero, List.set_cons_succ, i64_w, i32_w]
                                                        rfl
                                                      refine pure_ (i := 13) (N := some 94) (v := ?_) (a' := ?_) #[true, false, false, false, false, true, true, true, true, true, true, true, true, true, false, false, false, false] rfl rfl (any_of HT_.out (by kernel_rfl)) (fun _ _ _ h => h) (Or.inl ⟨by rfl, ?_⟩) ?_ ?_
                                                      rotate_left
                                                      · intro w'
                                                        go_simp
                                                        with_reducible rfl
                                                      rotate_left
                                                      · simp only [Act.put, List.setIfInBounds_toArray, List.set_cons_zero, List.set_cons_succ, i64_w, i32_w]
                                                        rfl
                                                      refine pure_ (i := 14) (N := some 95) (v := ?_) (a' := ?_) #[true, false, false, false, false, true, true, true, true, true, true, true, true, true, true, false, false, false] rfl rfl (any_of HT_.out (by kernel_rfl)) (fun _ _ _ h => h) (Or.inl ⟨by rfl, ?_⟩) ?_ ?_
                                                      rotate_left
                                                      · intro w'
                                                        go_simp
                                                        with_reducible rfl
                                                      rotate_left
                                                      · simp only [Act.put, List.setIfInBounds_toArray, List.set_cons_zero, List.set_cons_succ, i64_w, i32_w]
                                                        rfl
                                                      refine pure_ (i := 15) (N := some 96) (v := ?_) (a' := ?_) #[true, false, false, false, false, true, true, true, true, true, true, true, true, true, true, true, false, false] rfl rfl (any_of HT_.out (by kernel_rfl)) (fun _ _ _ h => h) (Or.inl ⟨by rfl, ?_⟩) ?_ ?_
                                                      rotate_left
                                                      · intro w'
                                                        go_simp
                                                        with_reducible rfl
                                                      rotate_left
                                                      · simp only [Act.put, List.setIfInBounds_toArray, List.set_cons_zero, List.set_cons_succ, i64_w, i32_w]
                                                        rfl
                                                      refine take_ (i := 16) (N := some 97) (v := ?_) (a' := ?_) #[true, false, false, false, false, true, true, true, true, true, true, true, true, true, true, true, true, false] rfl rfl (take_ofW HT_.out HW_.out (by kernel_rfl)) (fun _ _ _ h => h) (Or.inl ⟨by rfl, ?_⟩) hHeld ?_ ?_
                                                      rotate_left
                                                      · rintro w' s0
                                                        have hcv_ := Kd.C_string (P := Tryd.prog) (A := A68) (c := (c0 - (ji33).toNat)) Tryd.underlying22 Tryd.underlying5 Tryd.underlying9 (Kd.C_below HR335.out s0)
                                                        rw [show ((l0.take ((wrap64 ((ji33) + 4)) : Int).toNat).drop ((ji33) : Int).toNat).length = ((wrap64 ((ji33) + 4)).toNat - (ji33).toNat) from (by rw [List.length_drop, List.length_take]; have h_ : ((wrap64 ((ji33) + 4)) : Int) ≤ (l0.length : Int) := of_decide_eq_true (by first | (with_reducible assumption) | assumption); omega)] at hcv_
                                                        go_simp
                                                        with_reducible rfl
                                                      rotate_left
                                                      · simp only [Act.put, List.setIfInBounds_toArray, List.set_cons_zero, List.set_cons_succ, i64_w, i32_w]
                                                        rfl
                                                      refine one_ (i := 1) (N := some 82) #[true, true, false, false, false, true, true, true, true, true, true, true, true, true, true, true, true, false] rfl rfl (one_of HT_.out (by kernel_rfl)) (by decide) (fun K hK => ?_)
                                                      refine goes_ Tryd.func32 (by kernel_rfl) rfl #[.slice A66 ((l0.take ((ji33) : Int).toNat).drop ((ji27) : Int).toNat).length (c0 - (ji27).toNat)] (by rfl) rfl rfl (by (try simp only [List.map_toArray, List.map_cons, List.map_nil]); first | done | (rw [show ((l0.take ((ji33) : Int).toNat).drop ((ji27) : Int).toNat).length = ((ji33).toNat - (ji27).toNat) from (by rw [List.length_drop, List.length_take]; have h_ : ((ji33) : Int) ≤ (l0.length : Int) := of_decide_eq_true (by first | (with_reducible assumption) | assumption); omega)] <;> rfl) | (simp only [hji27, hji33]; rfl) | rfl | (simp only [List.length_drop, List.length_take]; rfl)) ?_
                                                      with_reducible refine (spec_Checksum.calls kj22 _ _ ((l0.take ((ji33) : Int).toNat).drop ((ji27) : Int).toNat) t331 _ ?side1 ?side2 A31.out).mono ?_
                                                      (case side1 => repeat (first | exact (Kd.C_below HR330.out HB.out) | (with_reducible refine Kd.C_alloc ?_ _) | (with_reducible refine Kd.C_drewN ?_ _) | (with_reducible refine Kd.C_drew ?_)))
                                                      (case side2 => exact HC330.out)
                                                      rintro e w' ⟨rfl, ⟨nd, rfl⟩⟩
                                                      refine ⟨_, rfl, ?_⟩
                                                      refine hK.out _ _ (by first | exact HB.out | exact below_drew1 HB.out | exact pw_below_drewN HB.out _ | exact pw_below_drewN (below_drew1 HB.out) _) (fun hHeld => ?_)
                                                      clear hK K
                                                      refine norm_ (a' := ?_) ?_ ?_
                                                      rotate_left
                                                      · show Act.put _ (some 82) _ = _
                                                        simp only [Act.put, List.setIfInBounds_toArray, List.set_cons_zero, List.set_cons_succ, i64_w, i32_w]
                                                        rfl
                                                      refine pure_ (i := 2) (N := some 83) (v := ?_) (a' := ?_) #[true, true, true, false, false, true, true, true, true, true, true, true, true, true, true, true, true, false] rfl rfl (any_of HT_.out (by kernel_rfl)) (fun _ _ _ h => h) (Or.inl ⟨by rfl, ?_⟩) ?_ ?_
                                                      rotate_left
                                                      · intro w'
                                                        go_simp
                                                        with_reducible rfl
                                                      rotate_left
                                                      · simp only [Act.put, List.setIfInBounds_toArray, List.set_cons_zero, List.set_cons_succ, i64_w, i32_w]
                                                        rfl
                                                      refine one_ (i := 3) (N := some 84) #[true, true, true, true, false, true, true, true, true, true, true, true, true, true, true, true, true, false] rfl rfl (one_of HT_.out (by kernel_rfl)) (by decide) (fun K hK => ?_)
                                                      refine goes_ Tryd.func31 (by kernel_rfl) rfl #[.int .u64 (IntKind.u64.wrap (t331)), .int .i64 4] (by rfl) rfl rfl (by (try simp only [List.map_toArray, List.map_cons, List.map_nil]); first | done | rfl | (simp only [List.length_drop, List.length_take]; rfl)) ?_
                                                      with_reducible refine (spec_l1little.calls kj22 (IntKind.u64.wrap (t331)) 4 t332 _ A32.out).mono ?_
                                                      rintro e w69 ⟨v333, rfl, ho0, hb⟩
                                                      refine ⟨_, rfl, ?_⟩
                                                      have n0_ := Aside0.mk (Kd.S_below (by (with_reducible repeat (first | apply Kd.S_alloc | apply Kd.S_drewN | apply Kd.S_drew)); exact HO_9.out) hb)
                                                      have n1_ := Aside0.mk (Kd.R_lower ho0 (below_size (by repeat (first | (with_reducible first | exact HB.out | apply below_alloc | apply pw_below_drewN | apply below_drew1) | exact HB.out))))
                                                      have n2_ := Aside0.mk (below_step (by repeat (first | (with_reducible first | exact HB.out | apply below_alloc | apply pw_below_drewN | apply below_drew1) | exact HB.out)) hb)
                                                      clear HO_9
                                                      clear HB
                                                      have HO_9 := n0_
                                                      have HO334 := n1_
                                                      have HB := n2_
                                                      clear n0_ n1_ n2_
                                                      (try clear hb)
                                                      (try clear hb2)
                                                      (try clear hk)
                                                      (try clear hi)
                                                      (try clear ho0)
                                                      have hcv71 := Kd.C_string (P := Tryd.prog) (A := A68) (c := (c0 - (ji33).toNat)) Tryd.underlying22 Tryd.underlying5 Tryd.underlying9 (Kd.C_below HR335.out HB.out)
                                                      refine hK.out _ _ (by first | exact HB.out | exact below_drew1 HB.out | exact pw_below_drewN HB.out _ | exact pw_below_drewN (below_drew1 HB.out) _) (fun hHeld => ?_)
                                                      clear hK K
                                                      refine norm_ (a' := ?_) ?_ ?_
                                                      rotate_left
                                                      · show Act.put _ (some 84) _ = _
                                                        simp only [Act.put, List.setIfInBounds_toArray, List.set_cons_zero, List.set_cons_succ, i64_w, i32_w]
                                                        rfl
                                                      refine one_ (i := 4) (N := some 85) #[true, true, true, true, true, true, true, true, true, true, true, true, true, true, true, true, true, false] rfl rfl (one_of HT_.out (by kernel_rfl)) (by decide) (fun K hK => ?_)
                                                      have hcv70 := own_string (P := Tryd.prog) Tryd.underlying22 Tryd.underlying5 Tryd.underlying9 (Kd.own_of_R HO334.out)
                                                      refine value_ (w1 := ?_) (v := ?_) (by rfl) rfl ?_ ?_
                                                      rotate_left 2
                                                      · go_simp
                                                        constructor
                                                        · rfl
                                                        · rfl
                                                      clear hcv70
                                                      refine hK.out _ _ (by first | exact HB.out | exact below_drew1 HB.out | exact pw_below_drewN HB.out _ | exact pw_below_drewN (below_drew1 HB.out) _) (fun hHeld => ?_)
                                                      clear hK K
                                                      refine norm_ (a' := ?_) ?_ ?_
                                                      rotate_left
                                                      · show Act.put _ (some 85) _ = _
                                                        simp only [Act.put, List.setIfInBounds_toArray, List.set_cons_zero, List.set_cons_succ, i64_w, i32_w]
                                                        rfl
                                                      refine pure_ (i := 17) (N := some 98) (v := ?_) (a' := ?_) #[true, true, true, true, true, true, true, true, true, true, true, true, true, true, true, true, true, true] rfl rfl (any_of HT_.out (by kernel_rfl)) (fun _ _ _ h => h) (Or.inl ⟨by rfl, ?_⟩) ?_ ?_
                                                      rotate_left
                                                      · intro w'
                                                        go_simp
                                                        with_reducible rfl
                                                      rotate_left
                                                      · simp only [Act.put, List.setIfInBounds_toArray, List.set_cons_zero, List.set_cons_succ, i64_w, i32_w]
                                                        rfl
                                                      refine done_ (done_of HT_.out (by kernel_rfl)) ?_
                                                      try go_wp2
                                                      go_ret3
                                                      exact ⟨_, by first | rfl | (simp [errW_none, errW_some] <;> rfl) | (simp only [← hji27, ← hji33]; first | rfl | (simp [errW_none, errW_some] <;> rfl)) | (simp [*, errW_none, errW_some] <;> rfl), by first | exact Kd.S_nil _ _ _ _ _ | exact Kd.N_nil _ _ _ _ _ | exact Kd.V_nil _ _ _ _ _ | exact Kd.Q_nil _ _ _ _ _ | exact Kd.R_nil _ _ _ _ _, by repeat (first | (with_reducible first | exact HB.out | apply below_alloc | apply pw_below_drewN | apply below_drew1) | exact HB.out)⟩
                                                  · rw [if_neg c36] at H
                                                    exact absurd H (by simp)
                                                · rw [if_neg c35] at H
                                                  exact absurd H (by simp)
                                              · rw [if_neg c34] at H
                                                exact absurd H (by simp)
                                            · rw [if_neg c30] at H
                                              exact absurd H (by simp)
                                          · rw [if_neg c29] at H
                                            exact absurd H (by simp)
                                        · rw [if_neg c28] at H
                                          exact absurd H (by simp)
                              · rw [if_neg c22] at H
                                exact absurd H (by simp)
                            · rw [if_neg c21] at H
                              exact absurd H (by simp)
                        · rw [if_neg c19] at H
                          have c19b0 : decide (x11_2 < (wrap64 (t328))) = false := decide_eq_false c19
                          clear c19
                          by_cases c73 : x10_2 < (l0.length : Int)
                          · rw [if_pos c73] at H
                            have c73b0 : decide (x10_2 < (l0.length : Int)) = true := decide_eq_true c73
                            clear c73
                            simp only [Option.some.injEq, Prod.mk.injEq] at H
                            obtain ⟨rfl, rfl, rfl⟩ := H
                            go_wp2
                            go_ret3
                            exact ⟨_, by first | rfl | (simp [errW_none, errW_some] <;> rfl) | (simp [*, errW_none, errW_some] <;> rfl), by first | exact Kd.S_nil _ _ _ _ _ | exact Kd.N_nil _ _ _ _ _ | exact Kd.V_nil _ _ _ _ _ | exact Kd.Q_nil _ _ _ _ _ | exact Kd.R_nil _ _ _ _ _, by repeat (first | (with_reducible first | exact HB.out | apply below_alloc | apply pw_below_drewN | apply below_drew1) | exact HB.out)⟩
                          · rw [if_neg c73] at H
                            have c73b0 : decide (x10_2 < (l0.length : Int)) = false := decide_eq_false c73
                            clear c73
                            simp only [Option.some.injEq, Prod.mk.injEq] at H
                            obtain ⟨rfl, rfl, rfl⟩ := H
                            go_wp2
                            go_ret3
                            exact ⟨_, by first | rfl | (simp [errW_none, errW_some] <;> rfl) | (simp [*, errW_none, errW_some] <;> rfl), by (with_reducible repeat (first | apply Kd.S_alloc | apply Kd.S_drewN | apply Kd.S_drew)); exact HO_9.out, by repeat (first | (with_reducible first | exact HB.out | apply below_alloc | apply pw_below_drewN | apply below_drew1) | exact HB.out)⟩
                · rw [if_neg c14] at H
                  exact absurd H (by simp)
              · rw [if_neg c13] at H
                exact absurd H (by simp)
            · rw [if_neg c12] at H
              have c12b0 : ((rd l0 4) == 1) = false := beq_eq_false_iff_ne.mpr c12
              have c12b1 : ((rd l0 4) != 1) = true := bne_iff_ne.mpr c12
              simp only [Option.some.injEq, Prod.mk.injEq] at H
              obtain ⟨rfl, rfl, rfl⟩ := H
              have p326 : 0 ≤ (4 : Int) := (by omega)
              have q326 : 4 < (l0.length : Int) := of_decide_eq_true (by first | (with_reducible assumption) | assumption)
              obtain ⟨ad326, e326, hx326_0⟩ := Kd.at_int HR0.out 4 p326 q326
              cases e326
              (try simp only [show (4 : Int).toNat = 4 from rfl, Nat.reduceMul, Nat.reduceEqDiff, Go.Addr.add, ↓reduceIte] at hx326_0)
              have qi326 : (4 < l0.length) = True := eq_true (by omega)
              (try rw [show ((4 : Int)).toNat = 4 from rfl] at hx326_0)
              replace hx326_0 := (HB.out.cell (World.block_lt_of_cell? w _ hx326_0)).trans hx326_0
              replace p326 := eq_true p326
              replace q326 := eq_true q326
              go_wp2
              go_ret3
              exact ⟨_, by first | rfl | (simp [errW_none, errW_some] <;> rfl) | (simp [*, errW_none, errW_some] <;> rfl), by first | exact Kd.S_nil _ _ _ _ _ | exact Kd.N_nil _ _ _ _ _ | exact Kd.V_nil _ _ _ _ _ | exact Kd.Q_nil _ _ _ _ _ | exact Kd.R_nil _ _ _ _ _, by repeat (first | (with_reducible first | exact HB.out | apply below_alloc | apply pw_below_drewN | apply below_drew1) | exact HB.out)⟩
          · rw [if_neg c11] at H
            exact absurd H (by simp)

end Go.Proofs.YtjpjfkmnfppgkaaDoor.P
