import Derived.Test.YtgodbniphkfgfaaGFnExactRun5
import Derived.Test.YtgodbniphkfgfaaGFnExactRun6
import Derived.Test.YtgodbniphkfgfaaGFnExactRun7
namespace Go.Proofs.Ytgodbniphkfgfaa.P
open Go.RowKit Go.Proofs.YtgodbniphkfgfaaW.PrintWords Go.Proofs.YtgodbniphkfgfaaW.PrintLast Go.Proofs.YtgodbniphkfgfaaW.PrintMore
attribute [local go_sem] max2_int min2_int max_two min_two max_three min_three max_four min_four   -- for this text's walks alone
set_option linter.unusedVariables false
set_option linter.unusedSimpArgs false

/-! ### spec_l1go: function 54 -/
mutual
def spec_l1go.j0 : Nat → List (S54) → List Int → Int → Int → Int → Int → Int → Int → Bool → Int → Int → List Int → Option (Int × Int)
 | 0, _, _, _, _, _, _, _, _, _, _, _, _ => none
 | k + 1, x0, x1, x8, x9, x10, x11, x12, x13, x42, x300000, x300001, x300002 => if x42 = true then (spec_l1go.j1 k x0 x1 x8 x9 x10 x11 x12 x300001 x300000 x300001 x300002) else (spec_l1go.j1 k x0 x1 x8 x9 x10 x11 x12 x13 x300000 x300001 x300002)
def spec_l1go.j1 : Nat → List (S54) → List Int → Int → Int → Int → Int → Int → Int → Int → Int → List Int → Option (Int × Int)
 | 0, _, _, _, _, _, _, _, _, _, _, _ => none
 | k + 1, x0, x1, x8, x9, x10, x11, x12, x13, x300000, x300001, x300002 => if x10 = 6 then (if x11 = 1 then (some (x300000, 1)) else (some (x9, 1))) else (if x10 = 4 then (if x11 = 3 then (spec_l1go.j2 k x0 x1 x11 x12 x13 (x13 == 0) x300000 x300001 x300002) else (spec_l1go.j2 k x0 x1 x11 x12 x13 false x300000 x300001 x300002)) else (if x8 = 5 then (if 0 ≤ (wrap64 (1 + x9)) then (if (wrap64 (1 + x9)) ≤ (x0.length : Int) then ((spec_l1go.f k (x0.drop ((wrap64 (1 + x9)) : Int).toNat) x1 x300000 x300001 x300002).bind fun bt313 => (some (bt313.1, wrap64 (bt313.2 + 1)))) else (none)) else (none)) else (if x10 = 5 then (if 0 < (x0.length : Int) then ((spec_l1holds.f k x11 x300000 x13).bind fun t316 => (if t316 = true then (if 0 ≤ (wrap64 (1 + (wrap64 ((rd_T54 x0 0).f1)))) then (if (wrap64 (1 + (wrap64 ((rd_T54 x0 0).f1)))) ≤ (x0.length : Int) then ((spec_l1go.f k (x0.drop ((wrap64 (1 + (wrap64 ((rd_T54 x0 0).f1)))) : Int).toNat) x1 x300000 x300001 x300002).bind fun bt322 => (some (bt322.1, wrap64 (bt322.2 + 1)))) else (none)) else (none)) else (if 0 ≤ (wrap64 (1 + (wrap64 ((rd_T54 x0 0).f2)))) then (if (wrap64 (1 + (wrap64 ((rd_T54 x0 0).f2)))) ≤ (x0.length : Int) then ((spec_l1go.f k (x0.drop ((wrap64 (1 + (wrap64 ((rd_T54 x0 0).f2)))) : Int).toNat) x1 x300000 x300001 x300002).bind fun bt328 => (some (bt328.1, wrap64 (bt328.2 + 1)))) else (none)) else (none)))) else (none)) else (if x8 = 0 then (if 0 ≤ (wrap64 (1 + x12)) then (if (wrap64 (1 + x12)) ≤ (x0.length : Int) then ((spec_l1go.f k (x0.drop ((wrap64 (1 + x12)) : Int).toNat) x1 x9 x300001 x300002).bind fun bt334 => (some (bt334.1, wrap64 (bt334.2 + 1)))) else (none)) else (none)) else (if x8 = 1 then (if 0 ≤ (wrap64 (1 + x12)) then (if (wrap64 (1 + x12)) ≤ (x0.length : Int) then ((spec_l1go.f k (x0.drop ((wrap64 (1 + x12)) : Int).toNat) x1 x300000 x9 x300002).bind fun bt340 => (some (bt340.1, wrap64 (bt340.2 + 1)))) else (none)) else (none)) else (if x8 = 32 then ((spec_l1word.f x1 x9).bind fun t342 => (if 0 ≤ (wrap64 (1 + x12)) then (if (wrap64 (1 + x12)) ≤ (x0.length : Int) then ((spec_l1go.f k (x0.drop ((wrap64 (1 + x12)) : Int).toNat) x1 t342 x300001 x300002).bind fun bt347 => (some (bt347.1, wrap64 (bt347.2 + 1)))) else (none)) else (none))) else (if x8 = 96 then (if 0 ≤ x9 then (if x9 < (x300002.length : Int) then (if 0 ≤ (wrap64 (1 + x12)) then (if (wrap64 (1 + x12)) ≤ (x0.length : Int) then ((spec_l1go.f k (x0.drop ((wrap64 (1 + x12)) : Int).toNat) x1 (rd x300002 x9) x300001 x300002).bind fun bt354 => (some (bt354.1, wrap64 (bt354.2 + 1)))) else (none)) else (none)) else (none)) else (none)) else (if x8 = 97 then (if 0 ≤ x9 then (if x9 < (x300002.length : Int) then (if 0 ≤ (wrap64 (1 + x12)) then (if (wrap64 (1 + x12)) ≤ (x0.length : Int) then ((spec_l1go.f k (x0.drop ((wrap64 (1 + x12)) : Int).toNat) x1 x300000 (rd x300002 x9) x300002).bind fun bt361 => (some (bt361.1, wrap64 (bt361.2 + 1)))) else (none)) else (none)) else (none)) else (none)) else (if x8 = 2 then ((spec_l1put.f k x300002 x9 x300000).bind fun t363 => (if 0 ≤ (wrap64 (1 + x12)) then (if (wrap64 (1 + x12)) ≤ (x0.length : Int) then ((spec_l1go.f k (x0.drop ((wrap64 (1 + x12)) : Int).toNat) x1 x300000 x300001 t363).bind fun bt370 => (some (bt370.1, wrap64 (bt370.2 + 1)))) else (none)) else (none))) else (if x8 = 3 then ((spec_l1put.f k x300002 x9 x300001).bind fun t372 => (if 0 ≤ (wrap64 (1 + x12)) then (if (wrap64 (1 + x12)) ≤ (x0.length : Int) then ((spec_l1go.f k (x0.drop ((wrap64 (1 + x12)) : Int).toNat) x1 x300000 x300001 t372).bind fun bt379 => (some (bt379.1, wrap64 (bt379.2 + 1)))) else (none)) else (none))) else (if x8 = 7 then (if 0 ≤ (wrap64 (1 + x12)) then (if (wrap64 (1 + x12)) ≤ (x0.length : Int) then ((spec_l1go.f k (x0.drop ((wrap64 (1 + x12)) : Int).toNat) x1 x300000 x300000 x300002).bind fun bt385 => (some (bt385.1, wrap64 (bt385.2 + 1)))) else (none)) else (none)) else (if 0 ≤ (wrap64 (1 + x12)) then (if (wrap64 (1 + x12)) ≤ (x0.length : Int) then ((spec_l1go.f k (x0.drop ((wrap64 (1 + x12)) : Int).toNat) x1 x300001 x300001 x300002).bind fun bt391 => (some (bt391.1, wrap64 (bt391.2 + 1)))) else (none)) else (none)))))))))))))
def spec_l1go.j2 : Nat → List (S54) → List Int → Int → Int → Int → Bool → Int → Int → List Int → Option (Int × Int)
 | 0, _, _, _, _, _, _, _, _, _ => none
 | k + 1, x0, x1, x11, x12, x13, x59, x300000, x300001, x300002 => if x59 = true then (some (2147483648, 1)) else ((spec_l1alu.f k x11 x300000 x13).bind fun t302 => (if 0 ≤ (wrap64 (1 + x12)) then (if (wrap64 (1 + x12)) ≤ (x0.length : Int) then ((spec_l1go.f k (x0.drop ((wrap64 (1 + x12)) : Int).toNat) x1 t302 x300001 x300002).bind fun bt307 => (some (bt307.1, wrap64 (bt307.2 + 1)))) else (none)) else (none)))
def spec_l1go.f : Nat → List (S54) → List Int → Int → Int → List Int → Option (Int × Int)
 | 0, _, _, _, _, _ => none
 | k + 1, l0, l1, a2_0, a2_1, l2_2 => if 0 < (l0.length : Int) then (if (Int.tmod (wrap64 ((rd_T54 l0 0).f0)) 8) ≥ 4 then (if (Int.tmod (wrap64 ((rd_T54 l0 0).f0)) 8) ≤ 6 then (spec_l1go.j0 k l0 l1 (wrap64 ((rd_T54 l0 0).f0)) (wrap64 ((rd_T54 l0 0).f3)) (Int.tmod (wrap64 ((rd_T54 l0 0).f0)) 8) (wrap64 (Int.tdiv (wrap64 ((rd_T54 l0 0).f0)) 16)) 0 (wrap64 ((rd_T54 l0 0).f3)) ((Int.tmod (wrap64 (Int.tdiv (wrap64 ((rd_T54 l0 0).f0)) 8)) 2) == 1) a2_0 a2_1 l2_2) else (spec_l1go.j0 k l0 l1 (wrap64 ((rd_T54 l0 0).f0)) (wrap64 ((rd_T54 l0 0).f3)) (Int.tmod (wrap64 ((rd_T54 l0 0).f0)) 8) (wrap64 (Int.tdiv (wrap64 ((rd_T54 l0 0).f0)) 16)) 0 (wrap64 ((rd_T54 l0 0).f3)) false a2_0 a2_1 l2_2)) else (spec_l1go.j0 k l0 l1 (wrap64 ((rd_T54 l0 0).f0)) (wrap64 ((rd_T54 l0 0).f3)) (Int.tmod (wrap64 ((rd_T54 l0 0).f0)) 8) (wrap64 (Int.tdiv (wrap64 ((rd_T54 l0 0).f0)) 16)) 0 (wrap64 ((rd_T54 l0 0).f3)) false a2_0 a2_1 l2_2)) else (none)
end
def spec_l1go.T40 : Bool × List (List Nat × List Nat) := (true, [([], []), ([], []), ([1], [1]), ([0, 2], [0, 2]), ([], []), ([], []), ([3, 4, 5], [3, 4, 5]), ([6], [6]), ([7], [7]), ([7], [7]), ([8, 6, 0, 1, 2, 3, 4, 5, 6, 7, 8], [8]), ([9, 10, 0, 1, 2, 3, 4, 5, 6, 7, 8, 9, 10], [9])])
def spec_l1go.B40 : List Nat := [0, 0, 2, 7, 0, 0, 63, 127, 255, 255, 511, 2047]
theorem spec_l1go.tab40 : rtab .any (opsOf Try.f54 40) = spec_l1go.T40 := by kernel_rfl
theorem spec_l1go.bits40 : waitsOk spec_l1go.T40.2 spec_l1go.B40 = true := by kernel_rfl
set_option maxHeartbeats 8000000 in
set_option maxRecDepth 100000 in
theorem spec_l1go.calls (k : Nat) : ∀ (A0 : Option Addr) (c0 : Nat) (l0 : List (S54)) (A1 : Option Addr) (c1 : Nat) (l1 : List Int) (a2_0 : Int) (a2_1 : Int) (A2_2 : Option Addr) (c2_2 : Nat) (l2_2 : List Int) (r1 : Int) (r2 : Int) (w : World) (hr0 : Kd.C k54 w A0 l0.length l0) (hc0 : l0.length ≤ c0) (hr1 : Kd.C (Kd.int .u8) w A1 l1.length l1) (hc1 : l1.length ≤ c1) (hr2_2 : Kd.C (Kd.int .i64) w A2_2 l2_2.length l2_2) (hc2_2 : l2_2.length ≤ c2_2) (h : spec_l1go.f k l0 l1 a2_0 a2_1 l2_2 = some (r1, r2)),
  Calls Try.prog 54 #[.slice A0 l0.length c0, .slice A1 l1.length c1, .agg #[.int .i64 a2_0, .int .i64 a2_1, .slice A2_2 l2_2.length c2_2]] w fun e w' => e = .returned (.tuple #[.int .i64 r1, .int .i64 r2]) ∧ Below w.heap.size w w' := by
 induction k using Nat.strongRecOn with
 | _ k ih =>
 intro A0 c0 l0 A1 c1 l1 a2_0 a2_1 A2_2 c2_2 l2_2 r1 r2 w hr0 hc0 hr1 hc1 hr2_2 hc2_2 h
 cases k with
 | zero => exact absurd h (by simp [spec_l1go.f])
 | succ k =>
 simp only [spec_l1go.f] at h
 have hu98 := Try.underlying98
 have HR0 := Aside0.mk hr0
 have HC0 := Aside0.mk hc0
 clear hr0 hc0
 have HR1 := Aside0.mk hr1
 have HC1 := Aside0.mk hc1
 clear hr1 hc1
 have HR2_2 := Aside0.mk hr2_2
 have HC2_2 := Aside0.mk hc2_2
 clear hr2_2 hc2_2
 have HB := Aside0.mk (Below.refl w.heap.size w)
 have H : (if 0 < (l0.length : Int) then (if (Int.tmod (wrap64 ((rd_T54 l0 0).f0)) 8) ≥ 4 then (if (Int.tmod (wrap64 ((rd_T54 l0 0).f0)) 8) ≤ 6 then (spec_l1go.j0 k l0 l1 (wrap64 ((rd_T54 l0 0).f0)) (wrap64 ((rd_T54 l0 0).f3)) (Int.tmod (wrap64 ((rd_T54 l0 0).f0)) 8) (wrap64 (Int.tdiv (wrap64 ((rd_T54 l0 0).f0)) 16)) 0 (wrap64 ((rd_T54 l0 0).f3)) ((Int.tmod (wrap64 (Int.tdiv (wrap64 ((rd_T54 l0 0).f0)) 8)) 2) == 1) a2_0 a2_1 l2_2) else (spec_l1go.j0 k l0 l1 (wrap64 ((rd_T54 l0 0).f0)) (wrap64 ((rd_T54 l0 0).f3)) (Int.tmod (wrap64 ((rd_T54 l0 0).f0)) 8) (wrap64 (Int.tdiv (wrap64 ((rd_T54 l0 0).f0)) 16)) 0 (wrap64 ((rd_T54 l0 0).f3)) false a2_0 a2_1 l2_2)) else (spec_l1go.j0 k l0 l1 (wrap64 ((rd_T54 l0 0).f0)) (wrap64 ((rd_T54 l0 0).f3)) (Int.tmod (wrap64 ((rd_T54 l0 0).f0)) 8) (wrap64 (Int.tdiv (wrap64 ((rd_T54 l0 0).f0)) 16)) 0 (wrap64 ((rd_T54 l0 0).f3)) false a2_0 a2_1 l2_2)) else (none)) = some (r1, r2) := h
 clear h
 by_cases c4 : 0 < (l0.length : Int)
 ·rw [if_pos c4] at H
  have c4b0 : decide (0 < (l0.length : Int)) = true := decide_eq_true c4
  have c4b1 : decide (0 < l0.length) = true := decide_eq_true (by omega)
  clear c4
  have HC5 := Aside0.mk H
  clear H
  go_enter Try.func54, Try.ntmps54
  go_upto_region 7 with (first | ((with_reducible refine gate_dst (N := 5) rfl ?_); refine box_event ?hg (N := 5) ?hd (cs := #[.int .i64 a2_0, .int .i64 a2_1, .slice A2_2 l2_2.length c2_2]) (t := 98) ?hr ?_; (case hd => rfl); (case hg => rfl); (case hr => first | (go_simp; done) | (go_simp; rfl)); intro gb299 hg w6 hbox hb; have n0_ := Aside0.mk (below_step (by repeat (first | (with_reducible first | exact HB.out | apply below_alloc | apply pw_below_drewN | apply below_drew1) | exact HB.out)) hb); have n1_ := Aside0.mk (hbox); have n2_ := Aside0.mk ((by rw [hg]; exact (below_size (by repeat (first | (with_reducible first | exact HB.out | apply below_alloc | apply pw_below_drewN | apply below_drew1) | exact HB.out))) : w.heap.size ≤ gb299)); have n3_ := Aside0.mk ((by rw [hg]; exact (below_size (by repeat (first | (with_reducible first | exact HB.out | apply below_alloc | apply pw_below_drewN | apply below_drew1) | exact HB.out))) : w.heap.size ≤ gb299)); clear HB; have HB := n0_; have BK299 := n1_; have GW299 := n2_; have GE299 := n3_; clear n0_ n1_ n2_ n3_; clear hb hbox hg; have p300 : 0 ≤ (0 : Int) := (by omega); have q300 : 0 < (l0.length : Int) := of_decide_eq_true (by first | (with_reducible assumption) | assumption); obtain ⟨ad300, e300, hx300_0, hx300_1, hx300_2, hx300_3⟩ := at_T54 HR0.out 0 p300 q300; cases e300; have qi300 : (0 < l0.length) = True := eq_true (by omega); (try rw [show ((0 : Int)).toNat = 0 from rfl] at hx300_0); (try rw [show 0 * 4 = 0 from rfl] at hx300_0); (try rw [Addr.add_zero'] at hx300_0); (try rw [show ((0 : Int)).toNat = 0 from rfl] at hx300_1); (try rw [show 0 * 4 = 0 from rfl] at hx300_1); (try rw [Addr.add_zero'] at hx300_1); (try rw [show ((0 : Int)).toNat = 0 from rfl] at hx300_2); (try rw [show 0 * 4 = 0 from rfl] at hx300_2); (try rw [Addr.add_zero'] at hx300_2); (try rw [show ((0 : Int)).toNat = 0 from rfl] at hx300_3); (try rw [show 0 * 4 = 0 from rfl] at hx300_3); (try rw [Addr.add_zero'] at hx300_3); replace hx300_0 := (HB.out.cell (World.block_lt_of_cell? w _ hx300_0)).trans hx300_0; replace hx300_1 := (HB.out.cell (World.block_lt_of_cell? w _ hx300_1)).trans hx300_1; replace hx300_2 := (HB.out.cell (World.block_lt_of_cell? w _ hx300_2)).trans hx300_2; replace hx300_3 := (HB.out.cell (World.block_lt_of_cell? w _ hx300_3)).trans hx300_3; replace p300 := eq_true p300; replace q300 := eq_true q300; have p301 : 0 ≤ (0 : Int) := (by omega); have q301 : 0 < (l0.length : Int) := of_decide_eq_true (by first | (with_reducible assumption) | assumption); obtain ⟨ad301, e301, hx301_0, hx301_1, hx301_2, hx301_3⟩ := at_T54 HR0.out 0 p301 q301; obtain rfl : ad300 = ad301 := (by injection e301); have qi301 : (0 < l0.length) = True := eq_true (by omega); (try rw [show ((0 : Int)).toNat = 0 from rfl] at hx301_0); (try rw [show 0 * 4 = 0 from rfl] at hx301_0); (try rw [Addr.add_zero'] at hx301_0); (try rw [show ((0 : Int)).toNat = 0 from rfl] at hx301_1); (try rw [show 0 * 4 = 0 from rfl] at hx301_1); (try rw [Addr.add_zero'] at hx301_1); (try rw [show ((0 : Int)).toNat = 0 from rfl] at hx301_2); (try rw [show 0 * 4 = 0 from rfl] at hx301_2); (try rw [Addr.add_zero'] at hx301_2); (try rw [show ((0 : Int)).toNat = 0 from rfl] at hx301_3); (try rw [show 0 * 4 = 0 from rfl] at hx301_3); (try rw [Addr.add_zero'] at hx301_3); replace hx301_0 := (HB.out.cell (World.block_lt_of_cell? w _ hx301_0)).trans hx301_0; replace hx301_1 := (HB.out.cell (World.block_lt_of_cell? w _ hx301_1)).trans hx301_1; replace hx301_2 := (HB.out.cell (World.block_lt_of_cell? w _ hx301_2)).trans hx301_2; replace hx301_3 := (HB.out.cell (World.block_lt_of_cell? w _ hx301_3)).trans hx301_3; replace p301 := eq_true p301; replace q301 := eq_true q301))
  (try simp only [Act.put, List.setIfInBounds_toArray, List.set_cons_zero, List.set_cons_succ])
  go_cut [42] (fun v42 wc => ∃ (kq : Nat) (x42_4 : Bool), v42 = .bool x42_4 ∧ Aside0 (spec_l1go.j0 kq l0 l1 (wrap64 ((rd_T54 l0 0).f0)) (wrap64 ((rd_T54 l0 0).f3)) (Int.tmod (wrap64 ((rd_T54 l0 0).f0)) 8) (wrap64 (Int.tdiv (wrap64 ((rd_T54 l0 0).f0)) 16)) 0 (wrap64 ((rd_T54 l0 0).f3)) x42_4 a2_0 a2_1 l2_2 = some (r1, r2)) ∧ Aside0 (kq ≤ k) ∧ Aside0 (wc.heap[gb299]? = some (.cells #[.int .i64 a2_0, .int .i64 a2_1, (.slice A2_2 l2_2.length c2_2)] 98 (0, 0))) ∧ Aside0 (Below w.heap.size w wc))
  case first =>
   have H := HC5.out
   clear HC5
   by_cases c7 : (Int.tmod (wrap64 ((rd_T54 l0 0).f0)) 8) ≥ 4
   ·rw [if_pos c7] at H
    have c7b0 : decide (4 ≤ (Int.tmod (wrap64 ((rd_T54 l0 0).f0)) 8)) = true := decide_eq_true c7
    clear c7
    (first | rw [c7b0] | (simp only [i64_w, i32_w]; rw [c7b0]) | skip)
    by_cases c8 : (Int.tmod (wrap64 ((rd_T54 l0 0).f0)) 8) ≤ 6
    ·rw [if_pos c8] at H
     have c8b0 : decide ((Int.tmod (wrap64 ((rd_T54 l0 0).f0)) 8) ≤ 6) = true := decide_eq_true c8
     clear c8
     have H' := Aside0.mk H
     clear H
     go_wp2
     go_meet
     case rel => exact ⟨_, (((Int.tmod (wrap64 (Int.tdiv (wrap64 ((rd_T54 l0 0).f0)) 8)) 2) == 1)), (by first | rfl | (simp; done) | (simp [*]; done)), H', ⟨by first | omega | exact Nat.le_refl _⟩, ⟨by (with_reducible repeat (first | refine blk_drewN ?_ _ | refine blk_drew ?_ | refine blk_alloc ?_ _)); exact BK299.out⟩, ⟨by repeat (first | (with_reducible first | exact HB.out | apply below_alloc | apply pw_below_drewN | apply below_drew1 | refine below_set ?_ GE299.out) | exact HB.out)⟩⟩
    ·rw [if_neg c8] at H
     have c8b0 : decide ((Int.tmod (wrap64 ((rd_T54 l0 0).f0)) 8) ≤ 6) = false := decide_eq_false c8
     clear c8
     have H' := Aside0.mk H
     clear H
     go_wp2
     go_meet
     case rel => exact ⟨_, (false), (by first | rfl | (simp; done) | (simp [*]; done)), H', ⟨by first | omega | exact Nat.le_refl _⟩, ⟨by (with_reducible repeat (first | refine blk_drewN ?_ _ | refine blk_drew ?_ | refine blk_alloc ?_ _)); exact BK299.out⟩, ⟨by repeat (first | (with_reducible first | exact HB.out | apply below_alloc | apply pw_below_drewN | apply below_drew1 | refine below_set ?_ GE299.out) | exact HB.out)⟩⟩
   ·rw [if_neg c7] at H
    have c7b0 : decide (4 ≤ (Int.tmod (wrap64 ((rd_T54 l0 0).f0)) 8)) = false := decide_eq_false c7
    clear c7
    (first | rw [c7b0] | (simp only [i64_w, i32_w]; rw [c7b0]) | skip)
    have H' := Aside0.mk H
    clear H
    go_wp2
    go_meet
    case rel => exact ⟨_, (false), (by first | rfl | (simp; done) | (simp [*]; done)), H', ⟨by first | omega | exact Nat.le_refl _⟩, ⟨by (with_reducible repeat (first | refine blk_drewN ?_ _ | refine blk_drew ?_ | refine blk_alloc ?_ _)); exact BK299.out⟩, ⟨by repeat (first | (with_reducible first | exact HB.out | apply below_alloc | apply pw_below_drewN | apply below_drew1 | refine below_set ?_ GE299.out) | exact HB.out)⟩⟩
  case rest =>
   clear HC5
   try clear c1
   try clear c2
   try clear p2
   try clear p3
   try clear q3
   try clear hx3
   try clear qi3
   try clear c4
   try clear c4b0
   try clear c4b1
   try clear c5
   try clear p6
   try clear c7
   try clear c7b0
   try clear c8
   try clear c8b0
   try clear hx300_0
   try clear hx300_1
   try clear hx300_2
   try clear hx300_3
   try clear hx301_0
   try clear hx301_1
   try clear hx301_2
   try clear hx301_3
   try clear p300
   try clear p301
   try clear q300
   try clear q301
   obtain ⟨kq, x42_4, rfl, HA, HJ4, BK299, HB⟩ := hcut
   cases kq with
   | zero => exact absurd HA.out (by simp [spec_l1go.j0])
   | succ kj4 =>
    have H := HA.out
    clear HA
    simp only [spec_l1go.j0] at H
    have HC9 := Aside0.mk H
    clear H
    go_upto_if 42 with (fail)
    go_cut [13] (fun v13 wc => ∃ (kq : Nat) (x13_8 : Int), v13 = .int .i64 x13_8 ∧ Aside0 (spec_l1go.j1 kq l0 l1 (wrap64 ((rd_T54 l0 0).f0)) (wrap64 ((rd_T54 l0 0).f3)) (Int.tmod (wrap64 ((rd_T54 l0 0).f0)) 8) (wrap64 (Int.tdiv (wrap64 ((rd_T54 l0 0).f0)) 16)) 0 x13_8 a2_0 a2_1 l2_2 = some (r1, r2)) ∧ Aside0 (kq ≤ kj4) ∧ Aside0 (wc.heap[gb299]? = some (.cells #[.int .i64 a2_0, .int .i64 a2_1, (.slice A2_2 l2_2.length c2_2)] 98 (0, 0))) ∧ Aside0 (Below w.heap.size w wc))
    case first =>
     have H := HC9.out
     clear HC9
     by_cases c10 : x42_4 = true
     ·subst c10
      have H1 : (spec_l1go.j1 kj4 l0 l1 (wrap64 ((rd_T54 l0 0).f0)) (wrap64 ((rd_T54 l0 0).f3)) (Int.tmod (wrap64 ((rd_T54 l0 0).f0)) 8) (wrap64 (Int.tdiv (wrap64 ((rd_T54 l0 0).f0)) 16)) 0 a2_1 a2_0 a2_1 l2_2) = some (r1, r2) := by rw [if_pos rfl] at H; exact H
      clear H
      have H := H1
      clear H1
      have H' := Aside0.mk H
      clear H
      have hcz11_0 : wc.cell? ⟨gb299, 0, none⟩ = some (.int .i64 a2_0) := (blk_cell BK299.out 0).trans rfl
      have hcz11_1 : wc.cell? ⟨gb299, 1, none⟩ = some (.int .i64 a2_1) := (blk_cell BK299.out 1).trans rfl
      have hcz11_2 : wc.cell? ⟨gb299, 2, none⟩ = some (.slice A2_2 l2_2.length c2_2) := (blk_cell BK299.out 2).trans rfl
      have hfz11_0 := blk_frozen BK299.out 0
      have hfz11_1 := blk_frozen BK299.out 1
      have hfz11_2 := blk_frozen BK299.out 2
      go_wp2
      go_meet
      case rel => exact ⟨_, (a2_1), (by first | rfl | (simp; done) | (simp [*]; done)), H', ⟨by have := HJ4.out; first | omega | exact Nat.le_refl _⟩, ⟨by (with_reducible repeat (first | refine blk_drewN ?_ _ | refine blk_drew ?_ | refine blk_alloc ?_ _)); exact BK299.out⟩, ⟨by repeat (first | (with_reducible first | exact HB.out | apply below_alloc | apply pw_below_drewN | apply below_drew1 | refine below_set ?_ GE299.out) | exact HB.out)⟩⟩
     ·replace c10 := Bool.eq_false_iff.mpr c10
      subst c10
      have H1 : (spec_l1go.j1 kj4 l0 l1 (wrap64 ((rd_T54 l0 0).f0)) (wrap64 ((rd_T54 l0 0).f3)) (Int.tmod (wrap64 ((rd_T54 l0 0).f0)) 8) (wrap64 (Int.tdiv (wrap64 ((rd_T54 l0 0).f0)) 16)) 0 (wrap64 ((rd_T54 l0 0).f3)) a2_0 a2_1 l2_2) = some (r1, r2) := by rw [if_neg (show ¬ (false = true) by decide)] at H; exact H
      clear H
      have H := H1
      clear H1
      have H' := Aside0.mk H
      clear H
      go_wp2
      go_meet
      case rel => exact ⟨_, ((wrap64 ((rd_T54 l0 0).f3))), (by first | rfl | (simp; done) | (simp [*]; done)), H', ⟨by have := HJ4.out; first | omega | exact Nat.le_refl _⟩, ⟨by (with_reducible repeat (first | refine blk_drewN ?_ _ | refine blk_drew ?_ | refine blk_alloc ?_ _)); exact BK299.out⟩, ⟨by repeat (first | (with_reducible first | exact HB.out | apply below_alloc | apply pw_below_drewN | apply below_drew1 | refine below_set ?_ GE299.out) | exact HB.out)⟩⟩
    case rest =>
     clear HC9
     try clear c1
     try clear c2
     try clear p2
     try clear p3
     try clear q3
     try clear hx3
     try clear qi3
     try clear c4
     try clear c4b0
     try clear c4b1
     try clear c5
     try clear p6
     try clear c7
     try clear c7b0
     try clear c8
     try clear c8b0
     try clear c10
     try clear hcz11_0
     try clear hcz11_1
     try clear hcz11_2
     try clear hfz11_0
     try clear hfz11_1
     try clear hfz11_2
     try clear hx300_0
     try clear hx300_1
     try clear hx300_2
     try clear hx300_3
     try clear hx301_0
     try clear hx301_1
     try clear hx301_2
     try clear hx301_3
     try clear p2
     try clear p3
     try clear p300
     try clear p301
     try clear p6
     try clear q3
     try clear q300
     try clear q301
     obtain ⟨kq, x13_8, rfl, HA, HJ8, BK299, HB⟩ := hcut
     cases kq with
     | zero => exact absurd HA.out (by simp [spec_l1go.j1])
     | succ kj8 =>
      have H := HA.out
      clear HA
      simp only [spec_l1go.j1] at H
      by_cases c12 : (Int.tmod (wrap64 ((rd_T54 l0 0).f0)) 8) = 6
      ·rw [if_pos c12] at H
       have c12b0 : ((Int.tmod (wrap64 ((rd_T54 l0 0).f0)) 8) == 6) = true := beq_iff_eq.mpr c12
       have c12b1 : ((Int.tmod (wrap64 ((rd_T54 l0 0).f0)) 8) != 6) = false := bne_eq_false_iff_eq.mpr c12
       clear c12
       by_cases c13 : (wrap64 (Int.tdiv (wrap64 ((rd_T54 l0 0).f0)) 16)) = 1
       ·rw [if_pos c13] at H
        have c13b0 : ((wrap64 (Int.tdiv (wrap64 ((rd_T54 l0 0).f0)) 16)) == 1) = true := beq_iff_eq.mpr c13
        have c13b1 : ((wrap64 (Int.tdiv (wrap64 ((rd_T54 l0 0).f0)) 16)) != 1) = false := bne_eq_false_iff_eq.mpr c13
        clear c13
        simp only [Option.some.injEq, Prod.mk.injEq] at H
        obtain ⟨rfl, rfl⟩ := H
        have hcz14_0 : wc.cell? ⟨gb299, 0, none⟩ = some (.int .i64 a2_0) := (blk_cell BK299.out 0).trans rfl
        have hcz14_1 : wc.cell? ⟨gb299, 1, none⟩ = some (.int .i64 a2_1) := (blk_cell BK299.out 1).trans rfl
        have hcz14_2 : wc.cell? ⟨gb299, 2, none⟩ = some (.slice A2_2 l2_2.length c2_2) := (blk_cell BK299.out 2).trans rfl
        have hfz14_0 := blk_frozen BK299.out 0
        have hfz14_1 := blk_frozen BK299.out 1
        have hfz14_2 := blk_frozen BK299.out 2
        go_wp2
        go_ret2
        exact ⟨by first | rfl | (simp [errW_none, errW_some] <;> rfl) | (simp [*, errW_none, errW_some] <;> rfl), by repeat (first | (with_reducible first | exact HB.out | apply below_alloc | apply pw_below_drewN | apply below_drew1 | refine below_set ?_ GE299.out) | exact HB.out)⟩
       ·rw [if_neg c13] at H
        have c13b0 : ((wrap64 (Int.tdiv (wrap64 ((rd_T54 l0 0).f0)) 16)) == 1) = false := beq_eq_false_iff_ne.mpr c13
        have c13b1 : ((wrap64 (Int.tdiv (wrap64 ((rd_T54 l0 0).f0)) 16)) != 1) = true := bne_iff_ne.mpr c13
        simp only [Option.some.injEq, Prod.mk.injEq] at H
        obtain ⟨rfl, rfl⟩ := H
        go_wp2
        go_ret2
        exact ⟨by first | rfl | (simp [errW_none, errW_some] <;> rfl) | (simp [*, errW_none, errW_some] <;> rfl), by repeat (first | (with_reducible first | exact HB.out | apply below_alloc | apply pw_below_drewN | apply below_drew1 | refine below_set ?_ GE299.out) | exact HB.out)⟩
      ·rw [if_neg c12] at H
       have c12b0 : ((Int.tmod (wrap64 ((rd_T54 l0 0).f0)) 8) == 6) = false := beq_eq_false_iff_ne.mpr c12
       have c12b1 : ((Int.tmod (wrap64 ((rd_T54 l0 0).f0)) 8) != 6) = true := bne_iff_ne.mpr c12
       by_cases c15 : (Int.tmod (wrap64 ((rd_T54 l0 0).f0)) 8) = 4
       ·rw [if_pos c15] at H
        have c15b0 : ((Int.tmod (wrap64 ((rd_T54 l0 0).f0)) 8) == 4) = true := beq_iff_eq.mpr c15
        have c15b1 : ((Int.tmod (wrap64 ((rd_T54 l0 0).f0)) 8) != 4) = false := bne_eq_false_iff_eq.mpr c15
        clear c15
        have HC16 := Aside0.mk H
        clear H
        go_upto_region 14 with (fail)
        go_cut [59] (fun v59 wc => ∃ (kq : Nat) (x59_15 : Bool), v59 = .bool x59_15 ∧ Aside0 (spec_l1go.j2 kq l0 l1 (wrap64 (Int.tdiv (wrap64 ((rd_T54 l0 0).f0)) 16)) 0 x13_8 x59_15 a2_0 a2_1 l2_2 = some (r1, r2)) ∧ Aside0 (kq ≤ kj8) ∧ Aside0 (wc.heap[gb299]? = some (.cells #[.int .i64 a2_0, .int .i64 a2_1, (.slice A2_2 l2_2.length c2_2)] 98 (0, 0))) ∧ Aside0 (Below w.heap.size w wc))
        case first =>
         have H := HC16.out
         clear HC16
         by_cases c17 : (wrap64 (Int.tdiv (wrap64 ((rd_T54 l0 0).f0)) 16)) = 3
         ·rw [if_pos c17] at H
          have c17b0 : ((wrap64 (Int.tdiv (wrap64 ((rd_T54 l0 0).f0)) 16)) == 3) = true := beq_iff_eq.mpr c17
          have c17b1 : ((wrap64 (Int.tdiv (wrap64 ((rd_T54 l0 0).f0)) 16)) != 3) = false := bne_eq_false_iff_eq.mpr c17
          clear c17
          (first | rw [c17b0] | (simp only [i64_w, i32_w]; rw [c17b0]) | skip)
          have H' := Aside0.mk H
          clear H
          go_wp2
          go_meet
          case rel => exact ⟨_, ((x13_8 == 0)), (by first | rfl | (simp; done) | (simp [*]; done)), H', ⟨by have := HJ4.out; have := HJ8.out; first | omega | exact Nat.le_refl _⟩, ⟨by (with_reducible repeat (first | refine blk_drewN ?_ _ | refine blk_drew ?_ | refine blk_alloc ?_ _)); exact BK299.out⟩, ⟨by repeat (first | (with_reducible first | exact HB.out | apply below_alloc | apply pw_below_drewN | apply below_drew1 | refine below_set ?_ GE299.out) | exact HB.out)⟩⟩
         ·rw [if_neg c17] at H
          have c17b0 : ((wrap64 (Int.tdiv (wrap64 ((rd_T54 l0 0).f0)) 16)) == 3) = false := beq_eq_false_iff_ne.mpr c17
          have c17b1 : ((wrap64 (Int.tdiv (wrap64 ((rd_T54 l0 0).f0)) 16)) != 3) = true := bne_iff_ne.mpr c17
          (first | rw [c17b0] | (simp only [i64_w, i32_w]; rw [c17b0]) | skip)
          have H' := Aside0.mk H
          clear H
          go_wp2
          go_meet
          case rel => exact ⟨_, (false), (by first | rfl | (simp; done) | (simp [*]; done)), H', ⟨by have := HJ4.out; have := HJ8.out; first | omega | exact Nat.le_refl _⟩, ⟨by (with_reducible repeat (first | refine blk_drewN ?_ _ | refine blk_drew ?_ | refine blk_alloc ?_ _)); exact BK299.out⟩, ⟨by repeat (first | (with_reducible first | exact HB.out | apply below_alloc | apply pw_below_drewN | apply below_drew1 | refine below_set ?_ GE299.out) | exact HB.out)⟩⟩
        case rest =>
         clear HC16
         try clear c1
         try clear c2
         try clear p2
         try clear p3
         try clear q3
         try clear hx3
         try clear qi3
         try clear c4
         try clear c4b0
         try clear c4b1
         try clear c5
         try clear p6
         try clear c7
         try clear c7b0
         try clear c8
         try clear c8b0
         try clear c10
         try clear c12
         try clear c12b0
         try clear c12b1
         try clear c13
         try clear c13b0
         try clear c13b1
         try clear c15
         try clear c15b0
         try clear c15b1
         try clear c17
         try clear c17b0
         try clear c17b1
         try clear hcz11_0
         try clear hcz11_1
         try clear hcz11_2
         try clear hcz14_0
         try clear hcz14_1
         try clear hcz14_2
         try clear hfz11_0
         try clear hfz11_1
         try clear hfz11_2
         try clear hfz14_0
         try clear hfz14_1
         try clear hfz14_2
         try clear hx300_0
         try clear hx300_1
         try clear hx300_2
         try clear hx300_3
         try clear hx301_0
         try clear hx301_1
         try clear hx301_2
         try clear hx301_3
         try clear p2
         try clear p3
         try clear p300
         try clear p301
         try clear p6
         try clear q3
         try clear q300
         try clear q301
         obtain ⟨kq, x59_15, rfl, HA, HJ15, BK299, HB⟩ := hcut
         cases kq with
         | zero => exact absurd HA.out (by simp [spec_l1go.j2])
         | succ kj15 =>
          have H := HA.out
          clear HA
          simp only [spec_l1go.j2] at H
          by_cases c18 : x59_15 = true
          ·subst c18
           have H1 : (some (2147483648, 1)) = some (r1, r2) := by rw [if_pos rfl] at H; exact H
           clear H
           have H := H1
           clear H1
           simp only [Option.some.injEq, Prod.mk.injEq] at H
           obtain ⟨rfl, rfl⟩ := H
           go_wp2
           go_ret2
           exact ⟨by first | rfl | (simp [errW_none, errW_some] <;> rfl) | (simp [*, errW_none, errW_some] <;> rfl), by repeat (first | (with_reducible first | exact HB.out | apply below_alloc | apply pw_below_drewN | apply below_drew1 | refine below_set ?_ GE299.out) | exact HB.out)⟩
          ·replace c18 := Bool.eq_false_iff.mpr c18
           subst c18
           have H1 : ((spec_l1alu.f kj15 (wrap64 (Int.tdiv (wrap64 ((rd_T54 l0 0).f0)) 16)) a2_0 x13_8).bind fun t302 => (if 0 ≤ (wrap64 1) then (if (wrap64 1) ≤ (l0.length : Int) then ((spec_l1go.f kj15 (l0.drop ((wrap64 1) : Int).toNat) l1 t302 a2_1 l2_2).bind fun bt307 => (some (bt307.1, wrap64 (bt307.2 + 1)))) else (none)) else (none))) = some (r1, r2) := by rw [if_neg (show ¬ (false = true) by decide)] at H; exact H
           clear H
           have H := H1
           clear H1
           replace H := Option.bind_eq_some_iff.mp H
           obtain ⟨t302, A190, H⟩ := H
           replace H : (if 0 ≤ (wrap64 1) then (if (wrap64 1) ≤ (l0.length : Int) then ((spec_l1go.f kj15 (l0.drop ((wrap64 1) : Int).toNat) l1 t302 a2_1 l2_2).bind fun bt307 => (some (bt307.1, wrap64 (bt307.2 + 1)))) else (none)) else (none)) = some (r1, r2) := H
           have A19 := Aside0.mk A190
           clear A190
           obtain ⟨ji20, hji20⟩ : ∃ j_ : Int, (wrap64 1) = j_ := ⟨_, rfl⟩
           replace H : (if 0 ≤ (ji20) then (if (ji20) ≤ (l0.length : Int) then ((spec_l1go.f kj15 (l0.drop ((ji20) : Int).toNat) l1 t302 a2_1 l2_2).bind fun bt307 => (some (bt307.1, wrap64 (bt307.2 + 1)))) else (none)) else (none)) = some (r1, r2) := by first | (rw [hji20] at H; exact H) | (rw [show ((1 : Int) + 0) = 1 from rfl, hji20] at H; exact H) | (simp only [hji20] at H ⊢; exact H)
           (try rw [hji20] at A19)
           have hji20w : (IntKind.i64.wrap 1) = ji20 := (i64_w _).trans hji20
           by_cases c21 : 0 ≤ (ji20)
           ·rw [if_pos c21] at H
            have c21b0 := eq_true c21
            have c21b1 : decide (0 ≤ (ji20)) = true := decide_eq_true c21
            clear c21
            by_cases c22 : (ji20) ≤ (l0.length : Int)
            ·rw [if_pos c22] at H
             have c22b0 := eq_true c22
             have c22b1 : decide ((ji20) ≤ (l0.length : Int)) = true := decide_eq_true c22
             clear c22
             obtain ⟨y303, hy303⟩ : ∃ y_ : List (S54), y_ = (l0.drop ((ji20) : Int).toNat) := ⟨_, rfl⟩
             replace H : ((spec_l1go.f kj15 y303 l1 t302 a2_1 l2_2).bind fun bt307 => (some (bt307.1, wrap64 (bt307.2 + 1)))) = some (r1, r2) := by first | (rw [hy303]; with_reducible exact H) | (have H2_ := (Option.bind_some _ _).symm.trans H; rw [hy303]; with_reducible exact H2_) | (have H2_ := (Option.bind_some _ _).symm.trans H; with_reducible exact H2_) | with_reducible exact H | (rw [hy303]; exact H) | exact H
             have Ny303 := Aside0.mk hy303
             clear hy303
             replace H := Option.bind_eq_some_iff.mp H
             obtain ⟨⟨t307, t308⟩, A230, H⟩ := H
             replace H : (some (t307, wrap64 (t308 + 1))) = some (r1, r2) := H
             have A23 := Aside0.mk A230
             clear A230
             simp only [Option.some.injEq, Prod.mk.injEq] at H
             obtain ⟨rfl, rfl⟩ := H
             have hcz24_0 : wc.cell? ⟨gb299, 0, none⟩ = some (.int .i64 a2_0) := (blk_cell BK299.out 0).trans rfl
             have hcz24_1 : wc.cell? ⟨gb299, 1, none⟩ = some (.int .i64 a2_1) := (blk_cell BK299.out 1).trans rfl
             have hcz24_2 : wc.cell? ⟨gb299, 2, none⟩ = some (.slice A2_2 l2_2.length c2_2) := (blk_cell BK299.out 2).trans rfl
             have hfz24_0 := blk_frozen BK299.out 0
             have hfz24_1 := blk_frozen BK299.out 1
             have hfz24_2 := blk_frozen BK299.out 2
             try go_wp2_with (first | ((with_reducible refine gate_callee (f := 65) rfl ?_); refine goesL_ (some 64) rfl rfl Try.func65 (by kernel_rfl) rfl #[.int .i64 (wrap64 (Int.tdiv (wrap64 ((rd_T54 l0 0).f0)) 16)), .int .i64 a2_0, .int .i64 x13_8] rfl (by (try simp only [List.map_toArray, List.map_cons, List.map_nil]); first | done | rfl | (simp only [List.length_drop, List.length_take]; rfl)) ?_; (with_reducible refine (spec_l1alu.calls kj15 (wrap64 (Int.tdiv (wrap64 ((rd_T54 l0 0).f0)) 16)) a2_0 x13_8 t302 _ A19.out).mono ?_); rintro e w' ⟨rfl, ⟨nd, rfl⟩⟩; refine ⟨_, rfl, ?_⟩; (try (rw [drewN_self wc]; generalize hq_ : World.drewN wc _ = wc; have n0_ : Aside0 (wc.heap[gb299]? = some (.cells #[.int .i64 a2_0, .int .i64 a2_1, .slice A2_2 l2_2.length c2_2] 98 (0, 0))) := ⟨by rw [← hq_]; exact (by (with_reducible repeat (first | refine blk_drewN ?_ _ | refine blk_drew ?_ | refine blk_alloc ?_ _)); exact BK299.out)⟩; have n1_ : Aside0 (Below w.heap.size w wc) := ⟨by rw [← hq_]; exact (by repeat (first | (with_reducible first | exact HB.out | apply below_alloc | apply pw_below_drewN | apply below_drew1 | refine below_set ?_ GE299.out) | exact HB.out))⟩; clear BK299 HB hq_; have BK299 := n0_; have HB := n1_; clear n0_ n1_)); have hcz24_0 : wc.cell? ⟨gb299, 0, none⟩ = some (.int .i64 a2_0) := (blk_cell BK299.out 0).trans rfl; have hcz24_1 : wc.cell? ⟨gb299, 1, none⟩ = some (.int .i64 a2_1) := (blk_cell BK299.out 1).trans rfl; have hcz24_2 : wc.cell? ⟨gb299, 2, none⟩ = some (.slice A2_2 l2_2.length c2_2) := (blk_cell BK299.out 2).trans rfl; have hfz24_0 := blk_frozen BK299.out 0; have hfz24_1 := blk_frozen BK299.out 1; have hfz24_2 := blk_frozen BK299.out 2))
             have n0_ : Aside0 ((wc.setCell ⟨gb299, 0, none⟩ (.int .i64 t302)).heap[gb299]? = some (.cells #[.int .i64 t302, .int .i64 a2_1, .slice A2_2 l2_2.length c2_2] 98 (0, 0))) := ⟨by (with_reducible repeat (first | refine blk_drewN ?_ _ | refine blk_drew ?_ | refine blk_alloc ?_ _)); refine blk_put (cs := #[.int .i64 a2_0, .int .i64 a2_1, .slice A2_2 l2_2.length c2_2]) ?_ 0 _ rfl; (with_reducible repeat (first | refine blk_drewN ?_ _ | refine blk_drew ?_ | refine blk_alloc ?_ _)); exact BK299.out⟩
             have n1_ : Aside0 (Below w.heap.size w (wc.setCell ⟨gb299, 0, none⟩ (.int .i64 t302))) := ⟨by repeat (first | (with_reducible first | exact HB.out | apply below_alloc | apply pw_below_drewN | apply below_drew1 | refine below_set ?_ GE299.out) | exact HB.out)⟩
             (try clear BK299)
             (try clear HB)
             generalize (wc.setCell ⟨gb299, 0, none⟩ (.int .i64 t302)) = w25 at n0_ n1_ ⊢
             have BK299 := n0_
             have HB := n1_
             clear n0_ n1_
             have n0_ := Aside0.mk (blk_drew BK299.out)
             have n1_ := Aside0.mk (below_drew1 HB.out)
             clear BK299
             clear HB
             have BK299 := n0_
             have HB := n1_
             clear n0_ n1_
             have q27 : ((ji20) : Int) ≤ ((l0.length : Int) : Int) := of_decide_eq_true (by first | (with_reducible assumption) | assumption)
             obtain ⟨i027, hi027, _, hsz27, _⟩ := info_parts info54
             have hroom27 : l0.length ≤ c0 := HC0.out
             have hC27 : Kd.C k54 _ (some ad300) l0.length l0 := HR0.out
             have q027 : (0 : Int) ≤ ((ji20) : Int) := of_decide_eq_true (by first | (with_reducible assumption) | assumption)
             have hcut27 := cut_from (P := Try.prog) 23 54 .i64 Try.underlying23 hi027 4 hsz27 (some ad300) l0.length c0 (ji20) q027 q27
             have hr27 := Kd.C_drop (m := ((ji20) : Int).toNat) (c := c0) hC27 (by omega) hroom27
             obtain ⟨A27, hA27⟩ : ∃ A1, A1 = (if c0 = ((ji20) : Int).toNat then (some ad300) else ((some ad300) : Option Addr).map (·.add (((ji20) : Int).toNat * 4))) := ⟨_, rfl⟩
             obtain ⟨c27, hc27⟩ : ∃ c1, c1 = c0 - ((ji20) : Int).toNat := ⟨_, rfl⟩
             have hy27 : y303.length = l0.length - ((ji20) : Int).toNat := (by rw [Ny303.out, List.length_drop] <;> omega)
             rw [show (l0).drop ((ji20) : Int).toNat = y303 from Ny303.out.symm] at hr27
             replace hr27 : Kd.C k54 _ A27 y303.length y303 := (by rw [hA27]; exact hr27)
             rw [← hy27, ← hA27, ← hc27] at hcut27
             have HR306 := Aside0.mk hr27
             have HC306 := Aside0.mk (show y303.length ≤ c27 from by rw [hy27, hc27]; exact Nat.sub_le_sub_right hroom27 _)
             clear hr27 hC27 hroom27 hi027 hsz27 hc27
             have KY27 := Aside0.mk hy27
             have KA27 := Aside0.mk hA27
             clear hy27 hA27
             replace q27 := eq_true q27
             refine start_ (n := 12) (S := fun w' => w'.cell? ⟨gb299, 0, none⟩ = some (.int .i64 t302) ∧ w'.cell? ⟨gb299, 1, none⟩ = some (.int .i64 a2_1) ∧ w'.cell? ⟨gb299, 2, none⟩ = some (.slice A2_2 l2_2.length c2_2)) (ds := []) #[false, false, false, false, false, false, false, false, false, false, false, false] (by kernel_rfl) rfl rfl ⟨(blk_cell BK299.out 0).trans rfl, (blk_cell BK299.out 1).trans rfl, (blk_cell BK299.out 2).trans rfl⟩ (fun hHeld => ?_); refine with_tabW spec_l1go.tab40 spec_l1go.bits40 (fun HT_ HW_ => ?_)
             generalize w25.drew = w26 at BK299 HB HR306 hHeld ⊢
             refine pure_ (i := 0) (N := some 143) (v := ?_) (a' := ?_) #[true, false, false, false, false, false, false, false, false, false, false, false] rfl rfl (any_of HT_.out (by kernel_rfl)) (fun _ _ _ h => h) (Or.inl ⟨by rfl, ?_⟩) ?_ ?_
             rotate_left
             ·intro w'
              go_simp
              with_reducible rfl
             rotate_left
             ·simp only [Act.put, List.setIfInBounds_toArray, List.set_cons_zero, List.set_cons_succ, i64_w, i32_w]
              rfl
             refine pure_ (i := 1) (N := some 144) (v := ?_) (a' := ?_) #[true, true, false, false, false, false, false, false, false, false, false, false] rfl rfl (any_of HT_.out (by kernel_rfl)) (fun _ _ _ h => h) (Or.inl ⟨by rfl, ?_⟩) ?_ ?_
             rotate_left
             ·intro w'
              go_simp
              with_reducible rfl
             rotate_left
             ·simp only [Act.put, List.setIfInBounds_toArray, List.set_cons_zero, List.set_cons_succ, i64_w, i32_w]
              rfl
             refine pure_ (i := 2) (N := some 145) (v := ?_) (a' := ?_) #[true, true, true, false, false, false, false, false, false, false, false, false] rfl rfl (any_of HT_.out (by kernel_rfl)) (fun _ _ _ h => h) (Or.inl ⟨by rfl, ?_⟩) ?_ ?_
             rotate_left
             ·intro w'
              go_simp
              with_reducible rfl
             rotate_left
             ·simp only [Act.put, List.setIfInBounds_toArray, List.set_cons_zero, List.set_cons_succ, i64_w, i32_w]
              rfl
             refine pure_ (i := 3) (N := some 146) (v := ?_) (a' := ?_) #[true, true, true, true, false, false, false, false, false, false, false, false] rfl rfl (any_of HT_.out (by kernel_rfl)) (fun _ _ _ h => h) (Or.inl ⟨by rfl, ?_⟩) ?_ ?_
             rotate_left
             ·intro w'
              go_simp
              with_reducible rfl
             rotate_left
             ·simp only [Act.put, List.setIfInBounds_toArray, List.set_cons_zero, List.set_cons_succ, i64_w, i32_w]
              rfl
             refine pure_ (i := 4) (N := some 147) (v := ?_) (a' := ?_) #[true, true, true, true, true, false, false, false, false, false, false, false] rfl rfl (any_of HT_.out (by kernel_rfl)) (fun _ _ _ h => h) (Or.inl ⟨by rfl, ?_⟩) ?_ ?_
             rotate_left
             ·intro w'
              go_simp
              with_reducible rfl
             rotate_left
             ·simp only [Act.put, List.setIfInBounds_toArray, List.set_cons_zero, List.set_cons_succ, i64_w, i32_w]
              rfl
             refine take_ (i := 5) (N := some 148) (v := ?_) (a' := ?_) #[true, true, true, true, true, true, false, false, false, false, false, false] rfl rfl (take_ofW HT_.out HW_.out (by kernel_rfl)) (fun _ _ _ h => h) (Or.inl ⟨by rfl, ?_⟩) hHeld ?_ ?_
             rotate_left
             ·rintro w' ⟨s0, s1, s2⟩
              go_simp
              with_reducible rfl
             rotate_left
             ·simp only [Act.put, List.setIfInBounds_toArray, List.set_cons_zero, List.set_cons_succ, i64_w, i32_w]
              rfl
             refine one_ (i := 6) (N := some 149) #[true, true, true, true, true, true, true, false, false, false, false, false] rfl rfl (one_of HT_.out (by kernel_rfl)) (by decide) (fun K hK => ?_)
             refine goes_ Try.func54 (by kernel_rfl) rfl #[.slice A27 y303.length c27, .slice A1 l1.length c1, .agg #[.int .i64 t302, .int .i64 a2_1, .slice A2_2 l2_2.length c2_2]] (by rfl) rfl rfl (by (try simp only [List.map_toArray, List.map_cons, List.map_nil]); first | done | rfl | (simp only [List.length_drop, List.length_take]; rfl)) ?_
             with_reducible refine (ih kj15 (by have := HJ4.out; have := HJ8.out; have := HJ15.out; omega) _ _ y303 _ _ l1 t302 a2_1 _ _ l2_2 t307 t308 _ ?side1 ?side2 ?side3 ?side4 ?side5 ?side6 A23.out).mono ?_
             (case side1 => repeat (first | exact (Kd.C_below HR306.out HB.out) | (with_reducible refine Kd.C_alloc ?_ _) | (with_reducible refine Kd.C_drewN ?_ _) | (with_reducible refine Kd.C_drew ?_)))
             (case side2 => exact HC306.out)
             (case side3 => repeat (first | exact (Kd.C_below HR1.out HB.out) | (with_reducible refine Kd.C_alloc ?_ _) | (with_reducible refine Kd.C_drewN ?_ _) | (with_reducible refine Kd.C_drew ?_)))
             (case side4 => exact HC1.out)
             (case side5 => repeat (first | exact (Kd.C_below HR2_2.out HB.out) | (with_reducible refine Kd.C_alloc ?_ _) | (with_reducible refine Kd.C_drewN ?_ _) | (with_reducible refine Kd.C_drew ?_)))
             (case side6 => exact HC2_2.out)
             rintro e w28 ⟨rfl, hb⟩
             refine ⟨_, rfl, ?_⟩
             have n0_ := Aside0.mk (blk_below (g := gb299) (o := .cells #[.int .i64 t302, .int .i64 a2_1, .slice A2_2 l2_2.length c2_2] 98 (0, 0)) (by (with_reducible repeat (first | refine blk_drewN ?_ _ | refine blk_drew ?_ | refine blk_alloc ?_ _)); exact BK299.out) hb)
             have n1_ := Aside0.mk (below_step (by repeat (first | (with_reducible first | exact HB.out | apply below_alloc | apply pw_below_drewN | apply below_drew1 | refine below_set ?_ GE299.out) | exact HB.out)) hb)
             clear BK299
             clear HB
             have BK299 := n0_
             have HB := n1_
             clear n0_ n1_
             (try clear hb)
             (try clear hb2)
             (try clear hk)
             (try clear hi)
             refine hK.out _ _ ⟨(blk_cell BK299.out 0).trans rfl, (blk_cell BK299.out 1).trans rfl, (blk_cell BK299.out 2).trans rfl⟩ (fun hHeld => ?_)
             clear hK K
             refine norm_ (a' := ?_) ?_ ?_
             rotate_left
             ·show Act.put _ (some 149) _ = _
              simp only [Act.put, List.setIfInBounds_toArray, List.set_cons_zero, List.set_cons_succ, i64_w, i32_w]
              rfl
             refine pure_ (i := 7) (N := some 142) (v := ?_) (a' := ?_) #[true, true, true, true, true, true, true, true, false, false, false, false] rfl rfl (any_of HT_.out (by kernel_rfl)) (fun _ _ _ h => h) (Or.inl ⟨by rfl, ?_⟩) ?_ ?_
             rotate_left
             ·intro w'
              go_simp
              with_reducible rfl
             rotate_left
             ·simp only [Act.put, List.setIfInBounds_toArray, List.set_cons_zero, List.set_cons_succ, i64_w, i32_w]
              rfl
             refine pure_ (i := 8) (N := some 150) (v := ?_) (a' := ?_) #[true, true, true, true, true, true, true, true, true, false, false, false] rfl rfl (any_of HT_.out (by kernel_rfl)) (fun _ _ _ h => h) (Or.inl ⟨by rfl, ?_⟩) ?_ ?_
             rotate_left
             ·intro w'
              go_simp
              with_reducible rfl
             rotate_left
             ·simp only [Act.put, List.setIfInBounds_toArray, List.set_cons_zero, List.set_cons_succ, i64_w, i32_w]
              rfl
             refine pure_ (i := 9) (N := some 151) (v := ?_) (a' := ?_) #[true, true, true, true, true, true, true, true, true, true, false, false] rfl rfl (any_of HT_.out (by kernel_rfl)) (fun _ _ _ h => h) (Or.inl ⟨by rfl, ?_⟩) ?_ ?_
             rotate_left
             ·intro w'
              go_simp
              with_reducible rfl
             rotate_left
             ·simp only [Act.put, List.setIfInBounds_toArray, List.set_cons_zero, List.set_cons_succ, i64_w, i32_w]
              rfl
             refine pure_ (i := 10) (N := some 14) (v := ?_) (a' := ?_) #[true, true, true, true, true, true, true, true, true, true, true, false] rfl rfl (any_of HT_.out (by kernel_rfl)) (fun _ _ _ h => h) (Or.inl ⟨by rfl, ?_⟩) ?_ ?_
             rotate_left
             ·intro w'
              go_simp
              with_reducible rfl
             rotate_left
             ·simp only [Act.put, List.setIfInBounds_toArray, List.set_cons_zero, List.set_cons_succ, i64_w, i32_w]
              rfl
             refine pure_ (i := 11) (N := some 15) (v := ?_) (a' := ?_) #[true, true, true, true, true, true, true, true, true, true, true, true] rfl rfl (any_of HT_.out (by kernel_rfl)) (fun _ _ _ h => h) (Or.inl ⟨by rfl, ?_⟩) ?_ ?_
             rotate_left
             ·intro w'
              go_simp
              with_reducible rfl
             rotate_left
             ·simp only [Act.put, List.setIfInBounds_toArray, List.set_cons_zero, List.set_cons_succ, i64_w, i32_w]
              rfl
             refine done_ (done_of HT_.out (by kernel_rfl)) ?_
             try go_wp2
             go_ret2
             exact ⟨by first | rfl | (simp [errW_none, errW_some] <;> rfl) | (simp only [← hji20]; first | rfl | (simp [errW_none, errW_some] <;> rfl)) | (simp [*, errW_none, errW_some] <;> rfl), by repeat (first | (with_reducible first | exact HB.out | apply below_alloc | apply pw_below_drewN | apply below_drew1 | refine below_set ?_ GE299.out) | exact HB.out)⟩
            ·rw [if_neg c22] at H
             exact absurd H (by simp)
           ·rw [if_neg c21] at H
            exact absurd H (by simp)
       ·rw [if_neg c15] at H
        have c15b0 : ((Int.tmod (wrap64 ((rd_T54 l0 0).f0)) 8) == 4) = false := beq_eq_false_iff_ne.mpr c15
        have c15b1 : ((Int.tmod (wrap64 ((rd_T54 l0 0).f0)) 8) != 4) = true := bne_iff_ne.mpr c15
        by_cases c29 : (wrap64 ((rd_T54 l0 0).f0)) = 5
        ·rw [if_pos c29] at H
         have c29b0 : ((wrap64 ((rd_T54 l0 0).f0)) == 5) = true := beq_iff_eq.mpr c29
         have c29b1 : ((wrap64 ((rd_T54 l0 0).f0)) != 5) = false := bne_eq_false_iff_eq.mpr c29
         clear c29
         obtain ⟨ji30, hji30⟩ : ∃ j_ : Int, (wrap64 (1 + (wrap64 ((rd_T54 l0 0).f3)))) = j_ := ⟨_, rfl⟩
         replace H : (if 0 ≤ (ji30) then (if (ji30) ≤ (l0.length : Int) then ((spec_l1go.f kj8 (l0.drop ((ji30) : Int).toNat) l1 a2_0 a2_1 l2_2).bind fun bt313 => (some (bt313.1, wrap64 (bt313.2 + 1)))) else (none)) else (none)) = some (r1, r2) := by first | (rw [hji30] at H; exact H) | (rw [show ((1 : Int) + 0) = 1 from rfl, hji30] at H; exact H) | (simp only [hji30] at H ⊢; exact H)
         have hji30w : (IntKind.i64.wrap (1 + (wrap64 ((rd_T54 l0 0).f3)))) = ji30 := (i64_w _).trans hji30
         by_cases c31 : 0 ≤ (ji30)
         ·rw [if_pos c31] at H
          have c31b0 := eq_true c31
          have c31b1 : decide (0 ≤ (ji30)) = true := decide_eq_true c31
          clear c31
          by_cases c32 : (ji30) ≤ (l0.length : Int)
          ·rw [if_pos c32] at H
           have c32b0 := eq_true c32
           have c32b1 : decide ((ji30) ≤ (l0.length : Int)) = true := decide_eq_true c32
           clear c32
           obtain ⟨y309, hy309⟩ : ∃ y_ : List (S54), y_ = (l0.drop ((ji30) : Int).toNat) := ⟨_, rfl⟩
           replace H : ((spec_l1go.f kj8 y309 l1 a2_0 a2_1 l2_2).bind fun bt313 => (some (bt313.1, wrap64 (bt313.2 + 1)))) = some (r1, r2) := by first | (rw [hy309]; with_reducible exact H) | (have H2_ := (Option.bind_some _ _).symm.trans H; rw [hy309]; with_reducible exact H2_) | (have H2_ := (Option.bind_some _ _).symm.trans H; with_reducible exact H2_) | with_reducible exact H | (rw [hy309]; exact H) | exact H
           have Ny309 := Aside0.mk hy309
           clear hy309
           replace H := Option.bind_eq_some_iff.mp H
           obtain ⟨⟨t313, t314⟩, A330, H⟩ := H
           replace H : (some (t313, wrap64 (t314 + 1))) = some (r1, r2) := H
           have A33 := Aside0.mk A330
           clear A330
           simp only [Option.some.injEq, Prod.mk.injEq] at H
           obtain ⟨rfl, rfl⟩ := H
           try go_wp2
           have n0_ := Aside0.mk (blk_drew BK299.out)
           have n1_ := Aside0.mk (below_drew1 HB.out)
           clear BK299
           clear HB
           have BK299 := n0_
           have HB := n1_
           clear n0_ n1_
           have q35 : ((ji30) : Int) ≤ ((l0.length : Int) : Int) := of_decide_eq_true (by first | (with_reducible assumption) | assumption)
           obtain ⟨i035, hi035, _, hsz35, _⟩ := info_parts info54
           have hroom35 : l0.length ≤ c0 := HC0.out
           have hC35 : Kd.C k54 _ (some ad300) l0.length l0 := HR0.out
           have q035 : (0 : Int) ≤ ((ji30) : Int) := of_decide_eq_true (by first | (with_reducible assumption) | assumption)
           have hcut35 := cut_from (P := Try.prog) 23 54 .i64 Try.underlying23 hi035 4 hsz35 (some ad300) l0.length c0 (ji30) q035 q35
           have hr35 := Kd.C_drop (m := ((ji30) : Int).toNat) (c := c0) hC35 (by omega) hroom35
           obtain ⟨A35, hA35⟩ : ∃ A1, A1 = (if c0 = ((ji30) : Int).toNat then (some ad300) else ((some ad300) : Option Addr).map (·.add (((ji30) : Int).toNat * 4))) := ⟨_, rfl⟩
           obtain ⟨c35, hc35⟩ : ∃ c1, c1 = c0 - ((ji30) : Int).toNat := ⟨_, rfl⟩
           have hy35 : y309.length = l0.length - ((ji30) : Int).toNat := (by rw [Ny309.out, List.length_drop] <;> omega)
           rw [show (l0).drop ((ji30) : Int).toNat = y309 from Ny309.out.symm] at hr35
           replace hr35 : Kd.C k54 _ A35 y309.length y309 := (by rw [hA35]; exact hr35)
           rw [← hy35, ← hA35, ← hc35] at hcut35
           have HR312 := Aside0.mk hr35
           have HC312 := Aside0.mk (show y309.length ≤ c35 from by rw [hy35, hc35]; exact Nat.sub_le_sub_right hroom35 _)
           clear hr35 hC35 hroom35 hi035 hsz35 hc35
           have KY35 := Aside0.mk hy35
           have KA35 := Aside0.mk hA35
           clear hy35 hA35
           replace q35 := eq_true q35
           refine start_ (n := 12) (S := fun w' => w'.cell? ⟨gb299, 0, none⟩ = some (.int .i64 a2_0) ∧ w'.cell? ⟨gb299, 1, none⟩ = some (.int .i64 a2_1) ∧ w'.cell? ⟨gb299, 2, none⟩ = some (.slice A2_2 l2_2.length c2_2)) (ds := []) #[false, false, false, false, false, false, false, false, false, false, false, false] (by kernel_rfl) rfl rfl ⟨(blk_cell BK299.out 0).trans rfl, (blk_cell BK299.out 1).trans rfl, (blk_cell BK299.out 2).trans rfl⟩ (fun hHeld => ?_); refine with_tabW spec_l1go.tab40 spec_l1go.bits40 (fun HT_ HW_ => ?_)
           generalize wc.drew = w34 at BK299 HB HR312 hHeld ⊢
           refine pure_ (i := 0) (N := some 143) (v := ?_) (a' := ?_) #[true, false, false, false, false, false, false, false, false, false, false, false] rfl rfl (any_of HT_.out (by kernel_rfl)) (fun _ _ _ h => h) (Or.inl ⟨by rfl, ?_⟩) ?_ ?_
           rotate_left
           ·intro w'
            go_simp
            with_reducible rfl
           rotate_left
           ·simp only [Act.put, List.setIfInBounds_toArray, List.set_cons_zero, List.set_cons_succ, i64_w, i32_w]
            rfl
           refine pure_ (i := 1) (N := some 144) (v := ?_) (a' := ?_) #[true, true, false, false, false, false, false, false, false, false, false, false] rfl rfl (any_of HT_.out (by kernel_rfl)) (fun _ _ _ h => h) (Or.inl ⟨by rfl, ?_⟩) ?_ ?_
           rotate_left
           ·intro w'
            go_simp
            with_reducible rfl
           rotate_left
           ·simp only [Act.put, List.setIfInBounds_toArray, List.set_cons_zero, List.set_cons_succ, i64_w, i32_w]
            rfl
           refine pure_ (i := 2) (N := some 145) (v := ?_) (a' := ?_) #[true, true, true, false, false, false, false, false, false, false, false, false] rfl rfl (any_of HT_.out (by kernel_rfl)) (fun _ _ _ h => h) (Or.inl ⟨by rfl, ?_⟩) ?_ ?_
           rotate_left
           ·intro w'
            go_simp
            with_reducible rfl
           rotate_left
           ·simp only [Act.put, List.setIfInBounds_toArray, List.set_cons_zero, List.set_cons_succ, i64_w, i32_w]
            rfl
           refine pure_ (i := 3) (N := some 146) (v := ?_) (a' := ?_) #[true, true, true, true, false, false, false, false, false, false, false, false] rfl rfl (any_of HT_.out (by kernel_rfl)) (fun _ _ _ h => h) (Or.inl ⟨by rfl, ?_⟩) ?_ ?_
           rotate_left
           ·intro w'
            go_simp
            with_reducible rfl
           rotate_left
           ·simp only [Act.put, List.setIfInBounds_toArray, List.set_cons_zero, List.set_cons_succ, i64_w, i32_w]
            rfl
           refine pure_ (i := 4) (N := some 147) (v := ?_) (a' := ?_) #[true, true, true, true, true, false, false, false, false, false, false, false] rfl rfl (any_of HT_.out (by kernel_rfl)) (fun _ _ _ h => h) (Or.inl ⟨by rfl, ?_⟩) ?_ ?_
           rotate_left
           ·intro w'
            go_simp
            with_reducible rfl
           rotate_left
           ·simp only [Act.put, List.setIfInBounds_toArray, List.set_cons_zero, List.set_cons_succ, i64_w, i32_w]
            rfl
           refine take_ (i := 5) (N := some 148) (v := ?_) (a' := ?_) #[true, true, true, true, true, true, false, false, false, false, false, false] rfl rfl (take_ofW HT_.out HW_.out (by kernel_rfl)) (fun _ _ _ h => h) (Or.inl ⟨by rfl, ?_⟩) hHeld ?_ ?_
           rotate_left
           ·rintro w' ⟨s0, s1, s2⟩
            go_simp
            with_reducible rfl
           rotate_left
           ·simp only [Act.put, List.setIfInBounds_toArray, List.set_cons_zero, List.set_cons_succ, i64_w, i32_w]
            rfl
           refine one_ (i := 6) (N := some 149) #[true, true, true, true, true, true, true, false, false, false, false, false] rfl rfl (one_of HT_.out (by kernel_rfl)) (by decide) (fun K hK => ?_)
           refine goes_ Try.func54 (by kernel_rfl) rfl #[.slice A35 y309.length c35, .slice A1 l1.length c1, .agg #[.int .i64 a2_0, .int .i64 a2_1, .slice A2_2 l2_2.length c2_2]] (by rfl) rfl rfl (by (try simp only [List.map_toArray, List.map_cons, List.map_nil]); first | done | rfl | (simp only [List.length_drop, List.length_take]; rfl)) ?_
           with_reducible refine (ih kj8 (by have := HJ4.out; have := HJ8.out; omega) _ _ y309 _ _ l1 a2_0 a2_1 _ _ l2_2 t313 t314 _ ?side1 ?side2 ?side3 ?side4 ?side5 ?side6 A33.out).mono ?_
           (case side1 => repeat (first | exact (Kd.C_below HR312.out HB.out) | (with_reducible refine Kd.C_alloc ?_ _) | (with_reducible refine Kd.C_drewN ?_ _) | (with_reducible refine Kd.C_drew ?_)))
           (case side2 => exact HC312.out)
           (case side3 => repeat (first | exact (Kd.C_below HR1.out HB.out) | (with_reducible refine Kd.C_alloc ?_ _) | (with_reducible refine Kd.C_drewN ?_ _) | (with_reducible refine Kd.C_drew ?_)))
           (case side4 => exact HC1.out)
           (case side5 => repeat (first | exact (Kd.C_below HR2_2.out HB.out) | (with_reducible refine Kd.C_alloc ?_ _) | (with_reducible refine Kd.C_drewN ?_ _) | (with_reducible refine Kd.C_drew ?_)))
           (case side6 => exact HC2_2.out)
           rintro e w36 ⟨rfl, hb⟩
           refine ⟨_, rfl, ?_⟩
           have n0_ := Aside0.mk (blk_below (g := gb299) (o := .cells #[.int .i64 a2_0, .int .i64 a2_1, .slice A2_2 l2_2.length c2_2] 98 (0, 0)) (by (with_reducible repeat (first | refine blk_drewN ?_ _ | refine blk_drew ?_ | refine blk_alloc ?_ _)); exact BK299.out) hb)
           have n1_ := Aside0.mk (below_step (by repeat (first | (with_reducible first | exact HB.out | apply below_alloc | apply pw_below_drewN | apply below_drew1 | refine below_set ?_ GE299.out) | exact HB.out)) hb)
           clear BK299
           clear HB
           have BK299 := n0_
           have HB := n1_
           clear n0_ n1_
           (try clear hb)
           (try clear hb2)
           (try clear hk)
           (try clear hi)
           refine hK.out _ _ ⟨(blk_cell BK299.out 0).trans rfl, (blk_cell BK299.out 1).trans rfl, (blk_cell BK299.out 2).trans rfl⟩ (fun hHeld => ?_)
           clear hK K
           refine norm_ (a' := ?_) ?_ ?_
           rotate_left
           ·show Act.put _ (some 149) _ = _
            simp only [Act.put, List.setIfInBounds_toArray, List.set_cons_zero, List.set_cons_succ, i64_w, i32_w]
            rfl
           refine pure_ (i := 7) (N := some 142) (v := ?_) (a' := ?_) #[true, true, true, true, true, true, true, true, false, false, false, false] rfl rfl (any_of HT_.out (by kernel_rfl)) (fun _ _ _ h => h) (Or.inl ⟨by rfl, ?_⟩) ?_ ?_
           rotate_left
           ·intro w'
            go_simp
            with_reducible rfl
           rotate_left
           ·simp only [Act.put, List.setIfInBounds_toArray, List.set_cons_zero, List.set_cons_succ, i64_w, i32_w]
            rfl
           refine pure_ (i := 8) (N := some 150) (v := ?_) (a' := ?_) #[true, true, true, true, true, true, true, true, true, false, false, false] rfl rfl (any_of HT_.out (by kernel_rfl)) (fun _ _ _ h => h) (Or.inl ⟨by rfl, ?_⟩) ?_ ?_
           rotate_left
           ·intro w'
            go_simp
            with_reducible rfl
           rotate_left
           ·simp only [Act.put, List.setIfInBounds_toArray, List.set_cons_zero, List.set_cons_succ, i64_w, i32_w]
            rfl
           refine pure_ (i := 9) (N := some 151) (v := ?_) (a' := ?_) #[true, true, true, true, true, true, true, true, true, true, false, false] rfl rfl (any_of HT_.out (by kernel_rfl)) (fun _ _ _ h => h) (Or.inl ⟨by rfl, ?_⟩) ?_ ?_
           rotate_left
           ·intro w'
            go_simp
            with_reducible rfl
           rotate_left
           ·simp only [Act.put, List.setIfInBounds_toArray, List.set_cons_zero, List.set_cons_succ, i64_w, i32_w]
            rfl
           refine pure_ (i := 10) (N := some 14) (v := ?_) (a' := ?_) #[true, true, true, true, true, true, true, true, true, true, true, false] rfl rfl (any_of HT_.out (by kernel_rfl)) (fun _ _ _ h => h) (Or.inl ⟨by rfl, ?_⟩) ?_ ?_
           rotate_left
           ·intro w'
            go_simp
            with_reducible rfl
           rotate_left
           ·simp only [Act.put, List.setIfInBounds_toArray, List.set_cons_zero, List.set_cons_succ, i64_w, i32_w]
            rfl
           refine pure_ (i := 11) (N := some 15) (v := ?_) (a' := ?_) #[true, true, true, true, true, true, true, true, true, true, true, true] rfl rfl (any_of HT_.out (by kernel_rfl)) (fun _ _ _ h => h) (Or.inl ⟨by rfl, ?_⟩) ?_ ?_
           rotate_left
           ·intro w'
            go_simp
            with_reducible rfl
           rotate_left
           ·simp only [Act.put, List.setIfInBounds_toArray, List.set_cons_zero, List.set_cons_succ, i64_w, i32_w]
            rfl
           refine done_ (done_of HT_.out (by kernel_rfl)) ?_
           try go_wp2
           go_ret2
           exact ⟨by first | rfl | (simp [errW_none, errW_some] <;> rfl) | (simp only [← hji30]; first | rfl | (simp [errW_none, errW_some] <;> rfl)) | (simp [*, errW_none, errW_some] <;> rfl), by repeat (first | (with_reducible first | exact HB.out | apply below_alloc | apply pw_below_drewN | apply below_drew1 | refine below_set ?_ GE299.out) | exact HB.out)⟩
          ·rw [if_neg c32] at H
           exact absurd H (by simp)
         ·rw [if_neg c31] at H
          exact absurd H (by simp)
        ·rw [if_neg c29] at H
         have c29b0 : ((wrap64 ((rd_T54 l0 0).f0)) == 5) = false := beq_eq_false_iff_ne.mpr c29
         have c29b1 : ((wrap64 ((rd_T54 l0 0).f0)) != 5) = true := bne_iff_ne.mpr c29
         by_cases c37 : (Int.tmod (wrap64 ((rd_T54 l0 0).f0)) 8) = 5
         ·rw [if_pos c37] at H
          have c37b0 : ((Int.tmod (wrap64 ((rd_T54 l0 0).f0)) 8) == 5) = true := beq_iff_eq.mpr c37
          have c37b1 : ((Int.tmod (wrap64 ((rd_T54 l0 0).f0)) 8) != 5) = false := bne_eq_false_iff_eq.mpr c37
          clear c37
          by_cases c38 : 0 < (l0.length : Int)
          ·rw [if_pos c38] at H
           have c38b0 : decide (0 < (l0.length : Int)) = true := decide_eq_true c38
           have c38b1 : decide (0 < l0.length) = true := decide_eq_true (by omega)
           clear c38
           replace H := Option.bind_eq_some_iff.mp H
           obtain ⟨t316, A390, H⟩ := H
           replace H : (if t316 = true then (if 0 ≤ (wrap64 (1 + (wrap64 ((rd_T54 l0 0).f1)))) then (if (wrap64 (1 + (wrap64 ((rd_T54 l0 0).f1)))) ≤ (l0.length : Int) then ((spec_l1go.f kj8 (l0.drop ((wrap64 (1 + (wrap64 ((rd_T54 l0 0).f1)))) : Int).toNat) l1 a2_0 a2_1 l2_2).bind fun bt322 => (some (bt322.1, wrap64 (bt322.2 + 1)))) else (none)) else (none)) else (if 0 ≤ (wrap64 (1 + (wrap64 ((rd_T54 l0 0).f2)))) then (if (wrap64 (1 + (wrap64 ((rd_T54 l0 0).f2)))) ≤ (l0.length : Int) then ((spec_l1go.f kj8 (l0.drop ((wrap64 (1 + (wrap64 ((rd_T54 l0 0).f2)))) : Int).toNat) l1 a2_0 a2_1 l2_2).bind fun bt328 => (some (bt328.1, wrap64 (bt328.2 + 1)))) else (none)) else (none))) = some (r1, r2) := H
           have A39 := Aside0.mk A390
           clear A390
           by_cases c40 : t316 = true
           ·subst c40
            have H1 : (if 0 ≤ (wrap64 (1 + (wrap64 ((rd_T54 l0 0).f1)))) then (if (wrap64 (1 + (wrap64 ((rd_T54 l0 0).f1)))) ≤ (l0.length : Int) then ((spec_l1go.f kj8 (l0.drop ((wrap64 (1 + (wrap64 ((rd_T54 l0 0).f1)))) : Int).toNat) l1 a2_0 a2_1 l2_2).bind fun bt322 => (some (bt322.1, wrap64 (bt322.2 + 1)))) else (none)) else (none)) = some (r1, r2) := by rw [if_pos rfl] at H; exact H
            clear H
            have H := H1
            clear H1
            obtain ⟨ji41, hji41⟩ : ∃ j_ : Int, (wrap64 (1 + (wrap64 ((rd_T54 l0 0).f1)))) = j_ := ⟨_, rfl⟩
            replace H : (if 0 ≤ (ji41) then (if (ji41) ≤ (l0.length : Int) then ((spec_l1go.f kj8 (l0.drop ((ji41) : Int).toNat) l1 a2_0 a2_1 l2_2).bind fun bt322 => (some (bt322.1, wrap64 (bt322.2 + 1)))) else (none)) else (none)) = some (r1, r2) := by first | (rw [hji41] at H; exact H) | (rw [show ((1 : Int) + 0) = 1 from rfl, hji41] at H; exact H) | (simp only [hji41] at H ⊢; exact H)
            (try rw [hji41] at A39)
            have hji41w : (IntKind.i64.wrap (1 + (wrap64 ((rd_T54 l0 0).f1)))) = ji41 := (i64_w _).trans hji41
            by_cases c42 : 0 ≤ (ji41)
            ·rw [if_pos c42] at H
             have c42b0 := eq_true c42
             have c42b1 : decide (0 ≤ (ji41)) = true := decide_eq_true c42
             clear c42
             by_cases c43 : (ji41) ≤ (l0.length : Int)
             ·rw [if_pos c43] at H
              have c43b0 := eq_true c43
              have c43b1 : decide ((ji41) ≤ (l0.length : Int)) = true := decide_eq_true c43
              clear c43
              obtain ⟨y318, hy318⟩ : ∃ y_ : List (S54), y_ = (l0.drop ((ji41) : Int).toNat) := ⟨_, rfl⟩
              replace H : ((spec_l1go.f kj8 y318 l1 a2_0 a2_1 l2_2).bind fun bt322 => (some (bt322.1, wrap64 (bt322.2 + 1)))) = some (r1, r2) := by first | (rw [hy318]; with_reducible exact H) | (have H2_ := (Option.bind_some _ _).symm.trans H; rw [hy318]; with_reducible exact H2_) | (have H2_ := (Option.bind_some _ _).symm.trans H; with_reducible exact H2_) | with_reducible exact H | (rw [hy318]; exact H) | exact H
              have Ny318 := Aside0.mk hy318
              clear hy318
              replace H := Option.bind_eq_some_iff.mp H
              obtain ⟨⟨t322, t323⟩, A440, H⟩ := H
              replace H : (some (t322, wrap64 (t323 + 1))) = some (r1, r2) := H
              have A44 := Aside0.mk A440
              clear A440
              simp only [Option.some.injEq, Prod.mk.injEq] at H
              obtain ⟨rfl, rfl⟩ := H
              have p315 : 0 ≤ (0 : Int) := (by omega)
              have q315 : 0 < (l0.length : Int) := of_decide_eq_true (by first | (with_reducible assumption) | assumption)
              obtain ⟨ad315, e315, hx315_0, hx315_1, hx315_2, hx315_3⟩ := at_T54 HR0.out 0 p315 q315
              obtain rfl : ad300 = ad315 := (by injection e315)
              have qi315 : (0 < l0.length) = True := eq_true (by omega)
              (try rw [show ((0 : Int)).toNat = 0 from rfl] at hx315_0)
              (try rw [show 0 * 4 = 0 from rfl] at hx315_0)
              (try rw [Addr.add_zero'] at hx315_0)
              (try rw [show ((0 : Int)).toNat = 0 from rfl] at hx315_1)
              (try rw [show 0 * 4 = 0 from rfl] at hx315_1)
              (try rw [Addr.add_zero'] at hx315_1)
              (try rw [show ((0 : Int)).toNat = 0 from rfl] at hx315_2)
              (try rw [show 0 * 4 = 0 from rfl] at hx315_2)
              (try rw [Addr.add_zero'] at hx315_2)
              (try rw [show ((0 : Int)).toNat = 0 from rfl] at hx315_3)
              (try rw [show 0 * 4 = 0 from rfl] at hx315_3)
              (try rw [Addr.add_zero'] at hx315_3)
              replace hx315_0 := (HB.out.cell (World.block_lt_of_cell? w _ hx315_0)).trans hx315_0
              replace hx315_1 := (HB.out.cell (World.block_lt_of_cell? w _ hx315_1)).trans hx315_1
              replace hx315_2 := (HB.out.cell (World.block_lt_of_cell? w _ hx315_2)).trans hx315_2
              replace hx315_3 := (HB.out.cell (World.block_lt_of_cell? w _ hx315_3)).trans hx315_3
              replace p315 := eq_true p315
              replace q315 := eq_true q315
              have hcz45_0 : wc.cell? ⟨gb299, 0, none⟩ = some (.int .i64 a2_0) := (blk_cell BK299.out 0).trans rfl
              have hcz45_1 : wc.cell? ⟨gb299, 1, none⟩ = some (.int .i64 a2_1) := (blk_cell BK299.out 1).trans rfl
              have hcz45_2 : wc.cell? ⟨gb299, 2, none⟩ = some (.slice A2_2 l2_2.length c2_2) := (blk_cell BK299.out 2).trans rfl
              have hfz45_0 := blk_frozen BK299.out 0
              have hfz45_1 := blk_frozen BK299.out 1
              have hfz45_2 := blk_frozen BK299.out 2
              try go_wp2_with (first | ((with_reducible refine gate_callee (f := 66) rfl ?_); refine goesL_ (some 80) rfl rfl Try.func66 (by kernel_rfl) rfl #[.int .i64 (wrap64 (Int.tdiv (wrap64 ((rd_T54 l0 0).f0)) 16)), .int .i64 a2_0, .int .i64 x13_8] rfl (by (try simp only [List.map_toArray, List.map_cons, List.map_nil]); first | done | rfl | (simp only [List.length_drop, List.length_take]; rfl)) ?_; (with_reducible refine (spec_l1holds.calls kj8 (wrap64 (Int.tdiv (wrap64 ((rd_T54 l0 0).f0)) 16)) a2_0 x13_8 true _ A39.out).mono ?_); rintro e w' ⟨rfl, ⟨nd, rfl⟩⟩; refine ⟨_, rfl, ?_⟩; have p317 : 0 ≤ (0 : Int) := (by omega); have q317 : 0 < (l0.length : Int) := of_decide_eq_true (by first | (with_reducible assumption) | assumption); obtain ⟨ad317, e317, hx317_0, hx317_1, hx317_2, hx317_3⟩ := at_T54 HR0.out 0 p317 q317; obtain rfl : ad300 = ad317 := (by injection e317); have qi317 : (0 < l0.length) = True := eq_true (by omega); (try rw [show ((0 : Int)).toNat = 0 from rfl] at hx317_0); (try rw [show 0 * 4 = 0 from rfl] at hx317_0); (try rw [Addr.add_zero'] at hx317_0); (try rw [show ((0 : Int)).toNat = 0 from rfl] at hx317_1); (try rw [show 0 * 4 = 0 from rfl] at hx317_1); (try rw [Addr.add_zero'] at hx317_1); (try rw [show ((0 : Int)).toNat = 0 from rfl] at hx317_2); (try rw [show 0 * 4 = 0 from rfl] at hx317_2); (try rw [Addr.add_zero'] at hx317_2); (try rw [show ((0 : Int)).toNat = 0 from rfl] at hx317_3); (try rw [show 0 * 4 = 0 from rfl] at hx317_3); (try rw [Addr.add_zero'] at hx317_3); replace hx317_0 := (HB.out.cell (World.block_lt_of_cell? w _ hx317_0)).trans hx317_0; replace hx317_1 := (HB.out.cell (World.block_lt_of_cell? w _ hx317_1)).trans hx317_1; replace hx317_2 := (HB.out.cell (World.block_lt_of_cell? w _ hx317_2)).trans hx317_2; replace hx317_3 := (HB.out.cell (World.block_lt_of_cell? w _ hx317_3)).trans hx317_3; replace p317 := eq_true p317; replace q317 := eq_true q317))
              (try (rw [drewN_self wc]; generalize hq_ : World.drewN wc _ = wc; have n0_ : Aside0 (wc.heap[gb299]? = some (.cells #[.int .i64 a2_0, .int .i64 a2_1, .slice A2_2 l2_2.length c2_2] 98 (0, 0))) := ⟨by rw [← hq_]; exact (by (with_reducible repeat (first | refine blk_drewN ?_ _ | refine blk_drew ?_ | refine blk_alloc ?_ _)); exact BK299.out)⟩; have n1_ : Aside0 (Below w.heap.size w wc) := ⟨by rw [← hq_]; exact (by repeat (first | (with_reducible first | exact HB.out | apply below_alloc | apply pw_below_drewN | apply below_drew1 | refine below_set ?_ GE299.out) | exact HB.out))⟩; clear BK299 HB hq_; have BK299 := n0_; have HB := n1_; clear n0_ n1_))
              have n0_ := Aside0.mk (blk_drew BK299.out)
              have n1_ := Aside0.mk (below_drew1 HB.out)
              clear BK299
              clear HB
              have BK299 := n0_
              have HB := n1_
              clear n0_ n1_
              have q47 : ((ji41) : Int) ≤ ((l0.length : Int) : Int) := of_decide_eq_true (by first | (with_reducible assumption) | assumption)
              obtain ⟨i047, hi047, _, hsz47, _⟩ := info_parts info54
              have hroom47 : l0.length ≤ c0 := HC0.out
              have hC47 : Kd.C k54 _ (some ad300) l0.length l0 := HR0.out
              have q047 : (0 : Int) ≤ ((ji41) : Int) := of_decide_eq_true (by first | (with_reducible assumption) | assumption)
              have hcut47 := cut_from (P := Try.prog) 23 54 .i64 Try.underlying23 hi047 4 hsz47 (some ad300) l0.length c0 (ji41) q047 q47
              have hr47 := Kd.C_drop (m := ((ji41) : Int).toNat) (c := c0) hC47 (by omega) hroom47
              obtain ⟨A47, hA47⟩ : ∃ A1, A1 = (if c0 = ((ji41) : Int).toNat then (some ad300) else ((some ad300) : Option Addr).map (·.add (((ji41) : Int).toNat * 4))) := ⟨_, rfl⟩
              obtain ⟨c47, hc47⟩ : ∃ c1, c1 = c0 - ((ji41) : Int).toNat := ⟨_, rfl⟩
              have hy47 : y318.length = l0.length - ((ji41) : Int).toNat := (by rw [Ny318.out, List.length_drop] <;> omega)
              rw [show (l0).drop ((ji41) : Int).toNat = y318 from Ny318.out.symm] at hr47
              replace hr47 : Kd.C k54 _ A47 y318.length y318 := (by rw [hA47]; exact hr47)
              rw [← hy47, ← hA47, ← hc47] at hcut47
              have HR321 := Aside0.mk hr47
              have HC321 := Aside0.mk (show y318.length ≤ c47 from by rw [hy47, hc47]; exact Nat.sub_le_sub_right hroom47 _)
              clear hr47 hC47 hroom47 hi047 hsz47 hc47
              have KY47 := Aside0.mk hy47
              have KA47 := Aside0.mk hA47
              clear hy47 hA47
              replace q47 := eq_true q47
              refine start_ (n := 12) (S := fun w' => w'.cell? ⟨gb299, 0, none⟩ = some (.int .i64 a2_0) ∧ w'.cell? ⟨gb299, 1, none⟩ = some (.int .i64 a2_1) ∧ w'.cell? ⟨gb299, 2, none⟩ = some (.slice A2_2 l2_2.length c2_2)) (ds := []) #[false, false, false, false, false, false, false, false, false, false, false, false] (by kernel_rfl) rfl rfl ⟨(blk_cell BK299.out 0).trans rfl, (blk_cell BK299.out 1).trans rfl, (blk_cell BK299.out 2).trans rfl⟩ (fun hHeld => ?_); refine with_tabW spec_l1go.tab40 spec_l1go.bits40 (fun HT_ HW_ => ?_)
              generalize wc.drew = w46 at BK299 HB HR321 hHeld ⊢
              refine pure_ (i := 0) (N := some 143) (v := ?_) (a' := ?_) #[true, false, false, false, false, false, false, false, false, false, false, false] rfl rfl (any_of HT_.out (by kernel_rfl)) (fun _ _ _ h => h) (Or.inl ⟨by rfl, ?_⟩) ?_ ?_
              rotate_left
              ·intro w'
               go_simp
               with_reducible rfl
              rotate_left
              ·simp only [Act.put, List.setIfInBounds_toArray, List.set_cons_zero, List.set_cons_succ, i64_w, i32_w]
               rfl
              refine pure_ (i := 1) (N := some 144) (v := ?_) (a' := ?_) #[true, true, false, false, false, false, false, false, false, false, false, false] rfl rfl (any_of HT_.out (by kernel_rfl)) (fun _ _ _ h => h) (Or.inl ⟨by rfl, ?_⟩) ?_ ?_
              rotate_left
              ·intro w'
               go_simp
               with_reducible rfl
              rotate_left
              ·simp only [Act.put, List.setIfInBounds_toArray, List.set_cons_zero, List.set_cons_succ, i64_w, i32_w]
               rfl
              refine pure_ (i := 2) (N := some 145) (v := ?_) (a' := ?_) #[true, true, true, false, false, false, false, false, false, false, false, false] rfl rfl (any_of HT_.out (by kernel_rfl)) (fun _ _ _ h => h) (Or.inl ⟨by rfl, ?_⟩) ?_ ?_
              rotate_left
              ·intro w'
               go_simp
               with_reducible rfl
              rotate_left
              ·simp only [Act.put, List.setIfInBounds_toArray, List.set_cons_zero, List.set_cons_succ, i64_w, i32_w]
               rfl
              refine pure_ (i := 3) (N := some 146) (v := ?_) (a' := ?_) #[true, true, true, true, false, false, false, false, false, false, false, false] rfl rfl (any_of HT_.out (by kernel_rfl)) (fun _ _ _ h => h) (Or.inl ⟨by rfl, ?_⟩) ?_ ?_
              rotate_left
              ·intro w'
               go_simp
               with_reducible rfl
              rotate_left
              ·simp only [Act.put, List.setIfInBounds_toArray, List.set_cons_zero, List.set_cons_succ, i64_w, i32_w]
               rfl
              refine pure_ (i := 4) (N := some 147) (v := ?_) (a' := ?_) #[true, true, true, true, true, false, false, false, false, false, false, false] rfl rfl (any_of HT_.out (by kernel_rfl)) (fun _ _ _ h => h) (Or.inl ⟨by rfl, ?_⟩) ?_ ?_
              rotate_left
              ·intro w'
               go_simp
               with_reducible rfl
              rotate_left
              ·simp only [Act.put, List.setIfInBounds_toArray, List.set_cons_zero, List.set_cons_succ, i64_w, i32_w]
               rfl
              refine take_ (i := 5) (N := some 148) (v := ?_) (a' := ?_) #[true, true, true, true, true, true, false, false, false, false, false, false] rfl rfl (take_ofW HT_.out HW_.out (by kernel_rfl)) (fun _ _ _ h => h) (Or.inl ⟨by rfl, ?_⟩) hHeld ?_ ?_
              rotate_left
              ·rintro w' ⟨s0, s1, s2⟩
               go_simp
               with_reducible rfl
              rotate_left
              ·simp only [Act.put, List.setIfInBounds_toArray, List.set_cons_zero, List.set_cons_succ, i64_w, i32_w]
               rfl
              refine one_ (i := 6) (N := some 149) #[true, true, true, true, true, true, true, false, false, false, false, false] rfl rfl (one_of HT_.out (by kernel_rfl)) (by decide) (fun K hK => ?_)
              refine goes_ Try.func54 (by kernel_rfl) rfl #[.slice A47 y318.length c47, .slice A1 l1.length c1, .agg #[.int .i64 a2_0, .int .i64 a2_1, .slice A2_2 l2_2.length c2_2]] (by rfl) rfl rfl (by (try simp only [List.map_toArray, List.map_cons, List.map_nil]); first | done | rfl | (simp only [List.length_drop, List.length_take]; rfl)) ?_
              with_reducible refine (ih kj8 (by have := HJ4.out; have := HJ8.out; omega) _ _ y318 _ _ l1 a2_0 a2_1 _ _ l2_2 t322 t323 _ ?side1 ?side2 ?side3 ?side4 ?side5 ?side6 A44.out).mono ?_
              (case side1 => repeat (first | exact (Kd.C_below HR321.out HB.out) | (with_reducible refine Kd.C_alloc ?_ _) | (with_reducible refine Kd.C_drewN ?_ _) | (with_reducible refine Kd.C_drew ?_)))
              (case side2 => exact HC321.out)
              (case side3 => repeat (first | exact (Kd.C_below HR1.out HB.out) | (with_reducible refine Kd.C_alloc ?_ _) | (with_reducible refine Kd.C_drewN ?_ _) | (with_reducible refine Kd.C_drew ?_)))
              (case side4 => exact HC1.out)
              (case side5 => repeat (first | exact (Kd.C_below HR2_2.out HB.out) | (with_reducible refine Kd.C_alloc ?_ _) | (with_reducible refine Kd.C_drewN ?_ _) | (with_reducible refine Kd.C_drew ?_)))
              (case side6 => exact HC2_2.out)
              rintro e w48 ⟨rfl, hb⟩
              refine ⟨_, rfl, ?_⟩
              have n0_ := Aside0.mk (blk_below (g := gb299) (o := .cells #[.int .i64 a2_0, .int .i64 a2_1, .slice A2_2 l2_2.length c2_2] 98 (0, 0)) (by (with_reducible repeat (first | refine blk_drewN ?_ _ | refine blk_drew ?_ | refine blk_alloc ?_ _)); exact BK299.out) hb)
              have n1_ := Aside0.mk (below_step (by repeat (first | (with_reducible first | exact HB.out | apply below_alloc | apply pw_below_drewN | apply below_drew1 | refine below_set ?_ GE299.out) | exact HB.out)) hb)
              clear BK299
              clear HB
              have BK299 := n0_
              have HB := n1_
              clear n0_ n1_
              (try clear hb)
              (try clear hb2)
              (try clear hk)
              (try clear hi)
              refine hK.out _ _ ⟨(blk_cell BK299.out 0).trans rfl, (blk_cell BK299.out 1).trans rfl, (blk_cell BK299.out 2).trans rfl⟩ (fun hHeld => ?_)
              clear hK K
              refine norm_ (a' := ?_) ?_ ?_
              rotate_left
              ·show Act.put _ (some 149) _ = _
               simp only [Act.put, List.setIfInBounds_toArray, List.set_cons_zero, List.set_cons_succ, i64_w, i32_w]
               rfl
              refine pure_ (i := 7) (N := some 142) (v := ?_) (a' := ?_) #[true, true, true, true, true, true, true, true, false, false, false, false] rfl rfl (any_of HT_.out (by kernel_rfl)) (fun _ _ _ h => h) (Or.inl ⟨by rfl, ?_⟩) ?_ ?_
              rotate_left
              ·intro w'
               go_simp
               with_reducible rfl
              rotate_left
              ·simp only [Act.put, List.setIfInBounds_toArray, List.set_cons_zero, List.set_cons_succ, i64_w, i32_w]
               rfl
              refine pure_ (i := 8) (N := some 150) (v := ?_) (a' := ?_) #[true, true, true, true, true, true, true, true, true, false, false, false] rfl rfl (any_of HT_.out (by kernel_rfl)) (fun _ _ _ h => h) (Or.inl ⟨by rfl, ?_⟩) ?_ ?_
              rotate_left
              ·intro w'
               go_simp
               with_reducible rfl
              rotate_left
              ·simp only [Act.put, List.setIfInBounds_toArray, List.set_cons_zero, List.set_cons_succ, i64_w, i32_w]
               rfl
              refine pure_ (i := 9) (N := some 151) (v := ?_) (a' := ?_) #[true, true, true, true, true, true, true, true, true, true, false, false] rfl rfl (any_of HT_.out (by kernel_rfl)) (fun _ _ _ h => h) (Or.inl ⟨by rfl, ?_⟩) ?_ ?_
              rotate_left
              ·intro w'
               go_simp
               with_reducible rfl
              rotate_left
              ·simp only [Act.put, List.setIfInBounds_toArray, List.set_cons_zero, List.set_cons_succ, i64_w, i32_w]
               rfl
              refine pure_ (i := 10) (N := some 14) (v := ?_) (a' := ?_) #[true, true, true, true, true, true, true, true, true, true, true, false] rfl rfl (any_of HT_.out (by kernel_rfl)) (fun _ _ _ h => h) (Or.inl ⟨by rfl, ?_⟩) ?_ ?_
              rotate_left
              ·intro w'
               go_simp
               with_reducible rfl
              rotate_left
              ·simp only [Act.put, List.setIfInBounds_toArray, List.set_cons_zero, List.set_cons_succ, i64_w, i32_w]
               rfl
              refine pure_ (i := 11) (N := some 15) (v := ?_) (a' := ?_) #[true, true, true, true, true, true, true, true, true, true, true, true] rfl rfl (any_of HT_.out (by kernel_rfl)) (fun _ _ _ h => h) (Or.inl ⟨by rfl, ?_⟩) ?_ ?_
              rotate_left
              ·intro w'
               go_simp
               with_reducible rfl
              rotate_left
              ·simp only [Act.put, List.setIfInBounds_toArray, List.set_cons_zero, List.set_cons_succ, i64_w, i32_w]
               rfl
              refine done_ (done_of HT_.out (by kernel_rfl)) ?_
              try go_wp2
              go_ret2
              exact ⟨by first | rfl | (simp [errW_none, errW_some] <;> rfl) | (simp only [← hji41]; first | rfl | (simp [errW_none, errW_some] <;> rfl)) | (simp [*, errW_none, errW_some] <;> rfl), by repeat (first | (with_reducible first | exact HB.out | apply below_alloc | apply pw_below_drewN | apply below_drew1 | refine below_set ?_ GE299.out) | exact HB.out)⟩
             ·rw [if_neg c43] at H
              exact absurd H (by simp)
            ·rw [if_neg c42] at H
             exact absurd H (by simp)
           ·replace c40 := Bool.eq_false_iff.mpr c40
            subst c40
            have H1 : (if 0 ≤ (wrap64 (1 + (wrap64 ((rd_T54 l0 0).f2)))) then (if (wrap64 (1 + (wrap64 ((rd_T54 l0 0).f2)))) ≤ (l0.length : Int) then ((spec_l1go.f kj8 (l0.drop ((wrap64 (1 + (wrap64 ((rd_T54 l0 0).f2)))) : Int).toNat) l1 a2_0 a2_1 l2_2).bind fun bt328 => (some (bt328.1, wrap64 (bt328.2 + 1)))) else (none)) else (none)) = some (r1, r2) := by rw [if_neg (show ¬ (false = true) by decide)] at H; exact H
            clear H
            have H := H1
            clear H1
            obtain ⟨ji49, hji49⟩ : ∃ j_ : Int, (wrap64 (1 + (wrap64 ((rd_T54 l0 0).f2)))) = j_ := ⟨_, rfl⟩
            replace H : (if 0 ≤ (ji49) then (if (ji49) ≤ (l0.length : Int) then ((spec_l1go.f kj8 (l0.drop ((ji49) : Int).toNat) l1 a2_0 a2_1 l2_2).bind fun bt328 => (some (bt328.1, wrap64 (bt328.2 + 1)))) else (none)) else (none)) = some (r1, r2) := by first | (rw [hji49] at H; exact H) | (rw [show ((1 : Int) + 0) = 1 from rfl, hji49] at H; exact H) | (simp only [hji49] at H ⊢; exact H)
            (try rw [hji49] at A39)
            have hji49w : (IntKind.i64.wrap (1 + (wrap64 ((rd_T54 l0 0).f2)))) = ji49 := (i64_w _).trans hji49
            by_cases c50 : 0 ≤ (ji49)
            ·rw [if_pos c50] at H
             have c50b0 := eq_true c50
             have c50b1 : decide (0 ≤ (ji49)) = true := decide_eq_true c50
             clear c50
             by_cases c51 : (ji49) ≤ (l0.length : Int)
             ·rw [if_pos c51] at H
              have c51b0 := eq_true c51
              have c51b1 : decide ((ji49) ≤ (l0.length : Int)) = true := decide_eq_true c51
              clear c51
              obtain ⟨y324, hy324⟩ : ∃ y_ : List (S54), y_ = (l0.drop ((ji49) : Int).toNat) := ⟨_, rfl⟩
              replace H : ((spec_l1go.f kj8 y324 l1 a2_0 a2_1 l2_2).bind fun bt328 => (some (bt328.1, wrap64 (bt328.2 + 1)))) = some (r1, r2) := by first | (rw [hy324]; with_reducible exact H) | (have H2_ := (Option.bind_some _ _).symm.trans H; rw [hy324]; with_reducible exact H2_) | (have H2_ := (Option.bind_some _ _).symm.trans H; with_reducible exact H2_) | with_reducible exact H | (rw [hy324]; exact H) | exact H
              have Ny324 := Aside0.mk hy324
              clear hy324
              replace H := Option.bind_eq_some_iff.mp H
              obtain ⟨⟨t328, t329⟩, A520, H⟩ := H
              replace H : (some (t328, wrap64 (t329 + 1))) = some (r1, r2) := H
              have A52 := Aside0.mk A520
              clear A520
              simp only [Option.some.injEq, Prod.mk.injEq] at H
              obtain ⟨rfl, rfl⟩ := H
              have p315 : 0 ≤ (0 : Int) := (by omega)
              have q315 : 0 < (l0.length : Int) := of_decide_eq_true (by first | (with_reducible assumption) | assumption)
              obtain ⟨ad315, e315, hx315_0, hx315_1, hx315_2, hx315_3⟩ := at_T54 HR0.out 0 p315 q315
              obtain rfl : ad300 = ad315 := (by injection e315)
              have qi315 : (0 < l0.length) = True := eq_true (by omega)
              (try rw [show ((0 : Int)).toNat = 0 from rfl] at hx315_0)
              (try rw [show 0 * 4 = 0 from rfl] at hx315_0)
              (try rw [Addr.add_zero'] at hx315_0)
              (try rw [show ((0 : Int)).toNat = 0 from rfl] at hx315_1)
              (try rw [show 0 * 4 = 0 from rfl] at hx315_1)
              (try rw [Addr.add_zero'] at hx315_1)
              (try rw [show ((0 : Int)).toNat = 0 from rfl] at hx315_2)
              (try rw [show 0 * 4 = 0 from rfl] at hx315_2)
              (try rw [Addr.add_zero'] at hx315_2)
              (try rw [show ((0 : Int)).toNat = 0 from rfl] at hx315_3)
              (try rw [show 0 * 4 = 0 from rfl] at hx315_3)
              (try rw [Addr.add_zero'] at hx315_3)
              replace hx315_0 := (HB.out.cell (World.block_lt_of_cell? w _ hx315_0)).trans hx315_0
              replace hx315_1 := (HB.out.cell (World.block_lt_of_cell? w _ hx315_1)).trans hx315_1
              replace hx315_2 := (HB.out.cell (World.block_lt_of_cell? w _ hx315_2)).trans hx315_2
              replace hx315_3 := (HB.out.cell (World.block_lt_of_cell? w _ hx315_3)).trans hx315_3
              replace p315 := eq_true p315
              replace q315 := eq_true q315
              have hcz53_0 : wc.cell? ⟨gb299, 0, none⟩ = some (.int .i64 a2_0) := (blk_cell BK299.out 0).trans rfl
              have hcz53_1 : wc.cell? ⟨gb299, 1, none⟩ = some (.int .i64 a2_1) := (blk_cell BK299.out 1).trans rfl
              have hcz53_2 : wc.cell? ⟨gb299, 2, none⟩ = some (.slice A2_2 l2_2.length c2_2) := (blk_cell BK299.out 2).trans rfl
              have hfz53_0 := blk_frozen BK299.out 0
              have hfz53_1 := blk_frozen BK299.out 1
              have hfz53_2 := blk_frozen BK299.out 2
              try go_wp2_with (first | ((with_reducible refine gate_callee (f := 66) rfl ?_); refine goesL_ (some 80) rfl rfl Try.func66 (by kernel_rfl) rfl #[.int .i64 (wrap64 (Int.tdiv (wrap64 ((rd_T54 l0 0).f0)) 16)), .int .i64 a2_0, .int .i64 x13_8] rfl (by (try simp only [List.map_toArray, List.map_cons, List.map_nil]); first | done | rfl | (simp only [List.length_drop, List.length_take]; rfl)) ?_; (with_reducible refine (spec_l1holds.calls kj8 (wrap64 (Int.tdiv (wrap64 ((rd_T54 l0 0).f0)) 16)) a2_0 x13_8 false _ A39.out).mono ?_); rintro e w' ⟨rfl, ⟨nd, rfl⟩⟩; refine ⟨_, rfl, ?_⟩))
              (try (rw [drewN_self wc]; generalize hq_ : World.drewN wc _ = wc; have n0_ : Aside0 (wc.heap[gb299]? = some (.cells #[.int .i64 a2_0, .int .i64 a2_1, .slice A2_2 l2_2.length c2_2] 98 (0, 0))) := ⟨by rw [← hq_]; exact (by (with_reducible repeat (first | refine blk_drewN ?_ _ | refine blk_drew ?_ | refine blk_alloc ?_ _)); exact BK299.out)⟩; have n1_ : Aside0 (Below w.heap.size w wc) := ⟨by rw [← hq_]; exact (by repeat (first | (with_reducible first | exact HB.out | apply below_alloc | apply pw_below_drewN | apply below_drew1 | refine below_set ?_ GE299.out) | exact HB.out))⟩; clear BK299 HB hq_; have BK299 := n0_; have HB := n1_; clear n0_ n1_))
              have n0_ := Aside0.mk (blk_drew BK299.out)
              have n1_ := Aside0.mk (below_drew1 HB.out)
              clear BK299
              clear HB
              have BK299 := n0_
              have HB := n1_
              clear n0_ n1_
              have q55 : ((ji49) : Int) ≤ ((l0.length : Int) : Int) := of_decide_eq_true (by first | (with_reducible assumption) | assumption)
              obtain ⟨i055, hi055, _, hsz55, _⟩ := info_parts info54
              have hroom55 : l0.length ≤ c0 := HC0.out
              have hC55 : Kd.C k54 _ (some ad300) l0.length l0 := HR0.out
              have q055 : (0 : Int) ≤ ((ji49) : Int) := of_decide_eq_true (by first | (with_reducible assumption) | assumption)
              have hcut55 := cut_from (P := Try.prog) 23 54 .i64 Try.underlying23 hi055 4 hsz55 (some ad300) l0.length c0 (ji49) q055 q55
              have hr55 := Kd.C_drop (m := ((ji49) : Int).toNat) (c := c0) hC55 (by omega) hroom55
              obtain ⟨A55, hA55⟩ : ∃ A1, A1 = (if c0 = ((ji49) : Int).toNat then (some ad300) else ((some ad300) : Option Addr).map (·.add (((ji49) : Int).toNat * 4))) := ⟨_, rfl⟩
              obtain ⟨c55, hc55⟩ : ∃ c1, c1 = c0 - ((ji49) : Int).toNat := ⟨_, rfl⟩
              have hy55 : y324.length = l0.length - ((ji49) : Int).toNat := (by rw [Ny324.out, List.length_drop] <;> omega)
              rw [show (l0).drop ((ji49) : Int).toNat = y324 from Ny324.out.symm] at hr55
              replace hr55 : Kd.C k54 _ A55 y324.length y324 := (by rw [hA55]; exact hr55)
              rw [← hy55, ← hA55, ← hc55] at hcut55
              have HR327 := Aside0.mk hr55
              have HC327 := Aside0.mk (show y324.length ≤ c55 from by rw [hy55, hc55]; exact Nat.sub_le_sub_right hroom55 _)
              clear hr55 hC55 hroom55 hi055 hsz55 hc55
              have KY55 := Aside0.mk hy55
              have KA55 := Aside0.mk hA55
              clear hy55 hA55
              replace q55 := eq_true q55
              refine start_ (n := 12) (S := fun w' => w'.cell? ⟨gb299, 0, none⟩ = some (.int .i64 a2_0) ∧ w'.cell? ⟨gb299, 1, none⟩ = some (.int .i64 a2_1) ∧ w'.cell? ⟨gb299, 2, none⟩ = some (.slice A2_2 l2_2.length c2_2)) (ds := []) #[false, false, false, false, false, false, false, false, false, false, false, false] (by kernel_rfl) rfl rfl ⟨(blk_cell BK299.out 0).trans rfl, (blk_cell BK299.out 1).trans rfl, (blk_cell BK299.out 2).trans rfl⟩ (fun hHeld => ?_); refine with_tabW spec_l1go.tab40 spec_l1go.bits40 (fun HT_ HW_ => ?_)
              generalize wc.drew = w54 at BK299 HB HR327 hHeld ⊢
              refine pure_ (i := 0) (N := some 143) (v := ?_) (a' := ?_) #[true, false, false, false, false, false, false, false, false, false, false, false] rfl rfl (any_of HT_.out (by kernel_rfl)) (fun _ _ _ h => h) (Or.inl ⟨by rfl, ?_⟩) ?_ ?_
              rotate_left
              ·intro w'
               go_simp
               with_reducible rfl
              rotate_left
              ·simp only [Act.put, List.setIfInBounds_toArray, List.set_cons_zero, List.set_cons_succ, i64_w, i32_w]
               rfl
              refine pure_ (i := 1) (N := some 144) (v := ?_) (a' := ?_) #[true, true, false, false, false, false, false, false, false, false, false, false] rfl rfl (any_of HT_.out (by kernel_rfl)) (fun _ _ _ h => h) (Or.inl ⟨by rfl, ?_⟩) ?_ ?_
              rotate_left
              ·intro w'
               go_simp
               with_reducible rfl
              rotate_left
              ·simp only [Act.put, List.setIfInBounds_toArray, List.set_cons_zero, List.set_cons_succ, i64_w, i32_w]
               rfl
              refine pure_ (i := 2) (N := some 145) (v := ?_) (a' := ?_) #[true, true, true, false, false, false, false, false, false, false, false, false] rfl rfl (any_of HT_.out (by kernel_rfl)) (fun _ _ _ h => h) (Or.inl ⟨by rfl, ?_⟩) ?_ ?_
              rotate_left
              ·intro w'
               go_simp
               with_reducible rfl
              rotate_left
              ·simp only [Act.put, List.setIfInBounds_toArray, List.set_cons_zero, List.set_cons_succ, i64_w, i32_w]
               rfl
              refine pure_ (i := 3) (N := some 146) (v := ?_) (a' := ?_) #[true, true, true, true, false, false, false, false, false, false, false, false] rfl rfl (any_of HT_.out (by kernel_rfl)) (fun _ _ _ h => h) (Or.inl ⟨by rfl, ?_⟩) ?_ ?_
              rotate_left
              ·intro w'
               go_simp
               with_reducible rfl
              rotate_left
              ·simp only [Act.put, List.setIfInBounds_toArray, List.set_cons_zero, List.set_cons_succ, i64_w, i32_w]
               rfl
              refine pure_ (i := 4) (N := some 147) (v := ?_) (a' := ?_) #[true, true, true, true, true, false, false, false, false, false, false, false] rfl rfl (any_of HT_.out (by kernel_rfl)) (fun _ _ _ h => h) (Or.inl ⟨by rfl, ?_⟩) ?_ ?_
              rotate_left
              ·intro w'
               go_simp
               with_reducible rfl
              rotate_left
              ·simp only [Act.put, List.setIfInBounds_toArray, List.set_cons_zero, List.set_cons_succ, i64_w, i32_w]
               rfl
              refine take_ (i := 5) (N := some 148) (v := ?_) (a' := ?_) #[true, true, true, true, true, true, false, false, false, false, false, false] rfl rfl (take_ofW HT_.out HW_.out (by kernel_rfl)) (fun _ _ _ h => h) (Or.inl ⟨by rfl, ?_⟩) hHeld ?_ ?_
              rotate_left
              ·rintro w' ⟨s0, s1, s2⟩
               go_simp
               with_reducible rfl
              rotate_left
              ·simp only [Act.put, List.setIfInBounds_toArray, List.set_cons_zero, List.set_cons_succ, i64_w, i32_w]
               rfl
              refine one_ (i := 6) (N := some 149) #[true, true, true, true, true, true, true, false, false, false, false, false] rfl rfl (one_of HT_.out (by kernel_rfl)) (by decide) (fun K hK => ?_)
              refine goes_ Try.func54 (by kernel_rfl) rfl #[.slice A55 y324.length c55, .slice A1 l1.length c1, .agg #[.int .i64 a2_0, .int .i64 a2_1, .slice A2_2 l2_2.length c2_2]] (by rfl) rfl rfl (by (try simp only [List.map_toArray, List.map_cons, List.map_nil]); first | done | rfl | (simp only [List.length_drop, List.length_take]; rfl)) ?_
              with_reducible refine (ih kj8 (by have := HJ4.out; have := HJ8.out; omega) _ _ y324 _ _ l1 a2_0 a2_1 _ _ l2_2 t328 t329 _ ?side1 ?side2 ?side3 ?side4 ?side5 ?side6 A52.out).mono ?_
              (case side1 => repeat (first | exact (Kd.C_below HR327.out HB.out) | (with_reducible refine Kd.C_alloc ?_ _) | (with_reducible refine Kd.C_drewN ?_ _) | (with_reducible refine Kd.C_drew ?_)))
              (case side2 => exact HC327.out)
              (case side3 => repeat (first | exact (Kd.C_below HR1.out HB.out) | (with_reducible refine Kd.C_alloc ?_ _) | (with_reducible refine Kd.C_drewN ?_ _) | (with_reducible refine Kd.C_drew ?_)))
              (case side4 => exact HC1.out)
              (case side5 => repeat (first | exact (Kd.C_below HR2_2.out HB.out) | (with_reducible refine Kd.C_alloc ?_ _) | (with_reducible refine Kd.C_drewN ?_ _) | (with_reducible refine Kd.C_drew ?_)))
              (case side6 => exact HC2_2.out)
              rintro e w56 ⟨rfl, hb⟩
              refine ⟨_, rfl, ?_⟩
              have n0_ := Aside0.mk (blk_below (g := gb299) (o := .cells #[.int .i64 a2_0, .int .i64 a2_1, .slice A2_2 l2_2.length c2_2] 98 (0, 0)) (by (with_reducible repeat (first | refine blk_drewN ?_ _ | refine blk_drew ?_ | refine blk_alloc ?_ _)); exact BK299.out) hb)
              have n1_ := Aside0.mk (below_step (by repeat (first | (with_reducible first | exact HB.out | apply below_alloc | apply pw_below_drewN | apply below_drew1 | refine below_set ?_ GE299.out) | exact HB.out)) hb)
              clear BK299
              clear HB
              have BK299 := n0_
              have HB := n1_
              clear n0_ n1_
              (try clear hb)
              (try clear hb2)
              (try clear hk)
              (try clear hi)
              refine hK.out _ _ ⟨(blk_cell BK299.out 0).trans rfl, (blk_cell BK299.out 1).trans rfl, (blk_cell BK299.out 2).trans rfl⟩ (fun hHeld => ?_)
              clear hK K
              refine norm_ (a' := ?_) ?_ ?_
              rotate_left
              ·show Act.put _ (some 149) _ = _
               simp only [Act.put, List.setIfInBounds_toArray, List.set_cons_zero, List.set_cons_succ, i64_w, i32_w]
               rfl
              refine pure_ (i := 7) (N := some 142) (v := ?_) (a' := ?_) #[true, true, true, true, true, true, true, true, false, false, false, false] rfl rfl (any_of HT_.out (by kernel_rfl)) (fun _ _ _ h => h) (Or.inl ⟨by rfl, ?_⟩) ?_ ?_
              rotate_left
              ·intro w'
               go_simp
               with_reducible rfl
              rotate_left
              ·simp only [Act.put, List.setIfInBounds_toArray, List.set_cons_zero, List.set_cons_succ, i64_w, i32_w]
               rfl
              refine pure_ (i := 8) (N := some 150) (v := ?_) (a' := ?_) #[true, true, true, true, true, true, true, true, true, false, false, false] rfl rfl (any_of HT_.out (by kernel_rfl)) (fun _ _ _ h => h) (Or.inl ⟨by rfl, ?_⟩) ?_ ?_
              rotate_left
              ·intro w'
               go_simp
               with_reducible rfl
              rotate_left
              ·simp only [Act.put, List.setIfInBounds_toArray, List.set_cons_zero, List.set_cons_succ, i64_w, i32_w]
               rfl
              refine pure_ (i := 9) (N := some 151) (v := ?_) (a' := ?_) #[true, true, true, true, true, true, true, true, true, true, false, false] rfl rfl (any_of HT_.out (by kernel_rfl)) (fun _ _ _ h => h) (Or.inl ⟨by rfl, ?_⟩) ?_ ?_
              rotate_left
              ·intro w'
               go_simp
               with_reducible rfl
              rotate_left
              ·simp only [Act.put, List.setIfInBounds_toArray, List.set_cons_zero, List.set_cons_succ, i64_w, i32_w]
               rfl
              refine pure_ (i := 10) (N := some 14) (v := ?_) (a' := ?_) #[true, true, true, true, true, true, true, true, true, true, true, false] rfl rfl (any_of HT_.out (by kernel_rfl)) (fun _ _ _ h => h) (Or.inl ⟨by rfl, ?_⟩) ?_ ?_
              rotate_left
              ·intro w'
               go_simp
               with_reducible rfl
              rotate_left
              ·simp only [Act.put, List.setIfInBounds_toArray, List.set_cons_zero, List.set_cons_succ, i64_w, i32_w]
               rfl
              refine pure_ (i := 11) (N := some 15) (v := ?_) (a' := ?_) #[true, true, true, true, true, true, true, true, true, true, true, true] rfl rfl (any_of HT_.out (by kernel_rfl)) (fun _ _ _ h => h) (Or.inl ⟨by rfl, ?_⟩) ?_ ?_
              rotate_left
              ·intro w'
               go_simp
               with_reducible rfl
              rotate_left
              ·simp only [Act.put, List.setIfInBounds_toArray, List.set_cons_zero, List.set_cons_succ, i64_w, i32_w]
               rfl
              refine done_ (done_of HT_.out (by kernel_rfl)) ?_
              try go_wp2
              go_ret2
              exact ⟨by first | rfl | (simp [errW_none, errW_some] <;> rfl) | (simp only [← hji49]; first | rfl | (simp [errW_none, errW_some] <;> rfl)) | (simp [*, errW_none, errW_some] <;> rfl), by repeat (first | (with_reducible first | exact HB.out | apply below_alloc | apply pw_below_drewN | apply below_drew1 | refine below_set ?_ GE299.out) | exact HB.out)⟩
             ·rw [if_neg c51] at H
              exact absurd H (by simp)
            ·rw [if_neg c50] at H
             exact absurd H (by simp)
          ·rw [if_neg c38] at H
           exact absurd H (by simp)
         ·rw [if_neg c37] at H
          have c37b0 : ((Int.tmod (wrap64 ((rd_T54 l0 0).f0)) 8) == 5) = false := beq_eq_false_iff_ne.mpr c37
          have c37b1 : ((Int.tmod (wrap64 ((rd_T54 l0 0).f0)) 8) != 5) = true := bne_iff_ne.mpr c37
          by_cases c57 : (wrap64 ((rd_T54 l0 0).f0)) = 0
          ·rw [if_pos c57] at H
           have c57b0 : ((wrap64 ((rd_T54 l0 0).f0)) == 0) = true := beq_iff_eq.mpr c57
           have c57b1 : ((wrap64 ((rd_T54 l0 0).f0)) != 0) = false := bne_eq_false_iff_eq.mpr c57
           clear c57
           obtain ⟨ji58, hji58⟩ : ∃ j_ : Int, (wrap64 1) = j_ := ⟨_, rfl⟩
           replace H : (if 0 ≤ (ji58) then (if (ji58) ≤ (l0.length : Int) then ((spec_l1go.f kj8 (l0.drop ((ji58) : Int).toNat) l1 (wrap64 ((rd_T54 l0 0).f3)) a2_1 l2_2).bind fun bt334 => (some (bt334.1, wrap64 (bt334.2 + 1)))) else (none)) else (none)) = some (r1, r2) := by first | (rw [hji58] at H; exact H) | (rw [show ((1 : Int) + 0) = 1 from rfl, hji58] at H; exact H) | (simp only [hji58] at H ⊢; exact H)
           have hji58w : (IntKind.i64.wrap 1) = ji58 := (i64_w _).trans hji58
           by_cases c59 : 0 ≤ (ji58)
           ·rw [if_pos c59] at H
            have c59b0 := eq_true c59
            have c59b1 : decide (0 ≤ (ji58)) = true := decide_eq_true c59
            clear c59
            by_cases c60 : (ji58) ≤ (l0.length : Int)
            ·rw [if_pos c60] at H
             have c60b0 := eq_true c60
             have c60b1 : decide ((ji58) ≤ (l0.length : Int)) = true := decide_eq_true c60
             clear c60
             obtain ⟨y330, hy330⟩ : ∃ y_ : List (S54), y_ = (l0.drop ((ji58) : Int).toNat) := ⟨_, rfl⟩
             replace H : ((spec_l1go.f kj8 y330 l1 (wrap64 ((rd_T54 l0 0).f3)) a2_1 l2_2).bind fun bt334 => (some (bt334.1, wrap64 (bt334.2 + 1)))) = some (r1, r2) := by first | (rw [hy330]; with_reducible exact H) | (have H2_ := (Option.bind_some _ _).symm.trans H; rw [hy330]; with_reducible exact H2_) | (have H2_ := (Option.bind_some _ _).symm.trans H; with_reducible exact H2_) | with_reducible exact H | (rw [hy330]; exact H) | exact H
             have Ny330 := Aside0.mk hy330
             clear hy330
             replace H := Option.bind_eq_some_iff.mp H
             obtain ⟨⟨t334, t335⟩, A610, H⟩ := H
             replace H : (some (t334, wrap64 (t335 + 1))) = some (r1, r2) := H
             have A61 := Aside0.mk A610
             clear A610
             simp only [Option.some.injEq, Prod.mk.injEq] at H
             obtain ⟨rfl, rfl⟩ := H
             have hcz62_0 : wc.cell? ⟨gb299, 0, none⟩ = some (.int .i64 a2_0) := (blk_cell BK299.out 0).trans rfl
             have hcz62_1 : wc.cell? ⟨gb299, 1, none⟩ = some (.int .i64 a2_1) := (blk_cell BK299.out 1).trans rfl
             have hcz62_2 : wc.cell? ⟨gb299, 2, none⟩ = some (.slice A2_2 l2_2.length c2_2) := (blk_cell BK299.out 2).trans rfl
             have hfz62_0 := blk_frozen BK299.out 0
             have hfz62_1 := blk_frozen BK299.out 1
             have hfz62_2 := blk_frozen BK299.out 2
             try go_wp2
             have n0_ : Aside0 ((wc.setCell ⟨gb299, 0, none⟩ (.int .i64 (wrap64 ((rd_T54 l0 0).f3)))).heap[gb299]? = some (.cells #[.int .i64 (wrap64 ((rd_T54 l0 0).f3)), .int .i64 a2_1, .slice A2_2 l2_2.length c2_2] 98 (0, 0))) := ⟨by (with_reducible repeat (first | refine blk_drewN ?_ _ | refine blk_drew ?_ | refine blk_alloc ?_ _)); refine blk_put (cs := #[.int .i64 a2_0, .int .i64 a2_1, .slice A2_2 l2_2.length c2_2]) ?_ 0 _ rfl; (with_reducible repeat (first | refine blk_drewN ?_ _ | refine blk_drew ?_ | refine blk_alloc ?_ _)); exact BK299.out⟩
             have n1_ : Aside0 (Below w.heap.size w (wc.setCell ⟨gb299, 0, none⟩ (.int .i64 (wrap64 ((rd_T54 l0 0).f3))))) := ⟨by repeat (first | (with_reducible first | exact HB.out | apply below_alloc | apply pw_below_drewN | apply below_drew1 | refine below_set ?_ GE299.out) | exact HB.out)⟩
             (try clear BK299)
             (try clear HB)
             generalize (wc.setCell ⟨gb299, 0, none⟩ (.int .i64 (wrap64 ((rd_T54 l0 0).f3)))) = w63 at n0_ n1_ ⊢
             have BK299 := n0_
             have HB := n1_
             clear n0_ n1_
             have n0_ := Aside0.mk (blk_drew BK299.out)
             have n1_ := Aside0.mk (below_drew1 HB.out)
             clear BK299
             clear HB
             have BK299 := n0_
             have HB := n1_
             clear n0_ n1_
             have q65 : ((ji58) : Int) ≤ ((l0.length : Int) : Int) := of_decide_eq_true (by first | (with_reducible assumption) | assumption)
             obtain ⟨i065, hi065, _, hsz65, _⟩ := info_parts info54
             have hroom65 : l0.length ≤ c0 := HC0.out
             have hC65 : Kd.C k54 _ (some ad300) l0.length l0 := HR0.out
             have q065 : (0 : Int) ≤ ((ji58) : Int) := of_decide_eq_true (by first | (with_reducible assumption) | assumption)
             have hcut65 := cut_from (P := Try.prog) 23 54 .i64 Try.underlying23 hi065 4 hsz65 (some ad300) l0.length c0 (ji58) q065 q65
             have hr65 := Kd.C_drop (m := ((ji58) : Int).toNat) (c := c0) hC65 (by omega) hroom65
             obtain ⟨A65, hA65⟩ : ∃ A1, A1 = (if c0 = ((ji58) : Int).toNat then (some ad300) else ((some ad300) : Option Addr).map (·.add (((ji58) : Int).toNat * 4))) := ⟨_, rfl⟩
             obtain ⟨c65, hc65⟩ : ∃ c1, c1 = c0 - ((ji58) : Int).toNat := ⟨_, rfl⟩
             have hy65 : y330.length = l0.length - ((ji58) : Int).toNat := (by rw [Ny330.out, List.length_drop] <;> omega)
             rw [show (l0).drop ((ji58) : Int).toNat = y330 from Ny330.out.symm] at hr65
             replace hr65 : Kd.C k54 _ A65 y330.length y330 := (by rw [hA65]; exact hr65)
             rw [← hy65, ← hA65, ← hc65] at hcut65
             have HR333 := Aside0.mk hr65
             have HC333 := Aside0.mk (show y330.length ≤ c65 from by rw [hy65, hc65]; exact Nat.sub_le_sub_right hroom65 _)
             clear hr65 hC65 hroom65 hi065 hsz65 hc65
             have KY65 := Aside0.mk hy65
             have KA65 := Aside0.mk hA65
             clear hy65 hA65
             replace q65 := eq_true q65
             refine start_ (n := 12) (S := fun w' => w'.cell? ⟨gb299, 0, none⟩ = some (.int .i64 (wrap64 ((rd_T54 l0 0).f3))) ∧ w'.cell? ⟨gb299, 1, none⟩ = some (.int .i64 a2_1) ∧ w'.cell? ⟨gb299, 2, none⟩ = some (.slice A2_2 l2_2.length c2_2)) (ds := []) #[false, false, false, false, false, false, false, false, false, false, false, false] (by kernel_rfl) rfl rfl ⟨(blk_cell BK299.out 0).trans rfl, (blk_cell BK299.out 1).trans rfl, (blk_cell BK299.out 2).trans rfl⟩ (fun hHeld => ?_); refine with_tabW spec_l1go.tab40 spec_l1go.bits40 (fun HT_ HW_ => ?_)
             generalize w63.drew = w64 at BK299 HB HR333 hHeld ⊢
             refine pure_ (i := 0) (N := some 143) (v := ?_) (a' := ?_) #[true, false, false, false, false, false, false, false, false, false, false, false] rfl rfl (any_of HT_.out (by kernel_rfl)) (fun _ _ _ h => h) (Or.inl ⟨by rfl, ?_⟩) ?_ ?_
             rotate_left
             ·intro w'
              go_simp
              with_reducible rfl
             rotate_left
             ·simp only [Act.put, List.setIfInBounds_toArray, List.set_cons_zero, List.set_cons_succ, i64_w, i32_w]
              rfl
             refine pure_ (i := 1) (N := some 144) (v := ?_) (a' := ?_) #[true, true, false, false, false, false, false, false, false, false, false, false] rfl rfl (any_of HT_.out (by kernel_rfl)) (fun _ _ _ h => h) (Or.inl ⟨by rfl, ?_⟩) ?_ ?_
             rotate_left
             ·intro w'
              go_simp
              with_reducible rfl
             rotate_left
             ·simp only [Act.put, List.setIfInBounds_toArray, List.set_cons_zero, List.set_cons_succ, i64_w, i32_w]
              rfl
             refine pure_ (i := 2) (N := some 145) (v := ?_) (a' := ?_) #[true, true, true, false, false, false, false, false, false, false, false, false] rfl rfl (any_of HT_.out (by kernel_rfl)) (fun _ _ _ h => h) (Or.inl ⟨by rfl, ?_⟩) ?_ ?_
             rotate_left
             ·intro w'
              go_simp
              with_reducible rfl
             rotate_left
             ·simp only [Act.put, List.setIfInBounds_toArray, List.set_cons_zero, List.set_cons_succ, i64_w, i32_w]
              rfl
             refine pure_ (i := 3) (N := some 146) (v := ?_) (a' := ?_) #[true, true, true, true, false, false, false, false, false, false, false, false] rfl rfl (any_of HT_.out (by kernel_rfl)) (fun _ _ _ h => h) (Or.inl ⟨by rfl, ?_⟩) ?_ ?_
             rotate_left
             ·intro w'
              go_simp
              with_reducible rfl
             rotate_left
             ·simp only [Act.put, List.setIfInBounds_toArray, List.set_cons_zero, List.set_cons_succ, i64_w, i32_w]
              rfl
             refine pure_ (i := 4) (N := some 147) (v := ?_) (a' := ?_) #[true, true, true, true, true, false, false, false, false, false, false, false] rfl rfl (any_of HT_.out (by kernel_rfl)) (fun _ _ _ h => h) (Or.inl ⟨by rfl, ?_⟩) ?_ ?_
             rotate_left
             ·intro w'
              go_simp
              with_reducible rfl
             rotate_left
             ·simp only [Act.put, List.setIfInBounds_toArray, List.set_cons_zero, List.set_cons_succ, i64_w, i32_w]
              rfl
             refine take_ (i := 5) (N := some 148) (v := ?_) (a' := ?_) #[true, true, true, true, true, true, false, false, false, false, false, false] rfl rfl (take_ofW HT_.out HW_.out (by kernel_rfl)) (fun _ _ _ h => h) (Or.inl ⟨by rfl, ?_⟩) hHeld ?_ ?_
             rotate_left
             ·rintro w' ⟨s0, s1, s2⟩
              go_simp
              with_reducible rfl
             rotate_left
             ·simp only [Act.put, List.setIfInBounds_toArray, List.set_cons_zero, List.set_cons_succ, i64_w, i32_w]
              rfl
             refine one_ (i := 6) (N := some 149) #[true, true, true, true, true, true, true, false, false, false, false, false] rfl rfl (one_of HT_.out (by kernel_rfl)) (by decide) (fun K hK => ?_)
             refine goes_ Try.func54 (by kernel_rfl) rfl #[.slice A65 y330.length c65, .slice A1 l1.length c1, .agg #[.int .i64 (wrap64 ((rd_T54 l0 0).f3)), .int .i64 a2_1, .slice A2_2 l2_2.length c2_2]] (by rfl) rfl rfl (by (try simp only [List.map_toArray, List.map_cons, List.map_nil]); first | done | rfl | (simp only [List.length_drop, List.length_take]; rfl)) ?_
             with_reducible refine (ih kj8 (by have := HJ4.out; have := HJ8.out; omega) _ _ y330 _ _ l1 (wrap64 ((rd_T54 l0 0).f3)) a2_1 _ _ l2_2 t334 t335 _ ?side1 ?side2 ?side3 ?side4 ?side5 ?side6 A61.out).mono ?_
             (case side1 => repeat (first | exact (Kd.C_below HR333.out HB.out) | (with_reducible refine Kd.C_alloc ?_ _) | (with_reducible refine Kd.C_drewN ?_ _) | (with_reducible refine Kd.C_drew ?_)))
             (case side2 => exact HC333.out)
             (case side3 => repeat (first | exact (Kd.C_below HR1.out HB.out) | (with_reducible refine Kd.C_alloc ?_ _) | (with_reducible refine Kd.C_drewN ?_ _) | (with_reducible refine Kd.C_drew ?_)))
             (case side4 => exact HC1.out)
             (case side5 => repeat (first | exact (Kd.C_below HR2_2.out HB.out) | (with_reducible refine Kd.C_alloc ?_ _) | (with_reducible refine Kd.C_drewN ?_ _) | (with_reducible refine Kd.C_drew ?_)))
             (case side6 => exact HC2_2.out)
             rintro e w66 ⟨rfl, hb⟩
             refine ⟨_, rfl, ?_⟩
             have n0_ := Aside0.mk (blk_below (g := gb299) (o := .cells #[.int .i64 (wrap64 ((rd_T54 l0 0).f3)), .int .i64 a2_1, .slice A2_2 l2_2.length c2_2] 98 (0, 0)) (by (with_reducible repeat (first | refine blk_drewN ?_ _ | refine blk_drew ?_ | refine blk_alloc ?_ _)); exact BK299.out) hb)
             have n1_ := Aside0.mk (below_step (by repeat (first | (with_reducible first | exact HB.out | apply below_alloc | apply pw_below_drewN | apply below_drew1 | refine below_set ?_ GE299.out) | exact HB.out)) hb)
             clear BK299
             clear HB
             have BK299 := n0_
             have HB := n1_
             clear n0_ n1_
             (try clear hb)
             (try clear hb2)
             (try clear hk)
             (try clear hi)
             refine hK.out _ _ ⟨(blk_cell BK299.out 0).trans rfl, (blk_cell BK299.out 1).trans rfl, (blk_cell BK299.out 2).trans rfl⟩ (fun hHeld => ?_)
             clear hK K
             refine norm_ (a' := ?_) ?_ ?_
             rotate_left
             ·show Act.put _ (some 149) _ = _
              simp only [Act.put, List.setIfInBounds_toArray, List.set_cons_zero, List.set_cons_succ, i64_w, i32_w]
              rfl
             refine pure_ (i := 7) (N := some 142) (v := ?_) (a' := ?_) #[true, true, true, true, true, true, true, true, false, false, false, false] rfl rfl (any_of HT_.out (by kernel_rfl)) (fun _ _ _ h => h) (Or.inl ⟨by rfl, ?_⟩) ?_ ?_
             rotate_left
             ·intro w'
              go_simp
              with_reducible rfl
             rotate_left
             ·simp only [Act.put, List.setIfInBounds_toArray, List.set_cons_zero, List.set_cons_succ, i64_w, i32_w]
              rfl
             refine pure_ (i := 8) (N := some 150) (v := ?_) (a' := ?_) #[true, true, true, true, true, true, true, true, true, false, false, false] rfl rfl (any_of HT_.out (by kernel_rfl)) (fun _ _ _ h => h) (Or.inl ⟨by rfl, ?_⟩) ?_ ?_
             rotate_left
             ·intro w'
              go_simp
              with_reducible rfl
             rotate_left
             ·simp only [Act.put, List.setIfInBounds_toArray, List.set_cons_zero, List.set_cons_succ, i64_w, i32_w]
              rfl
             refine pure_ (i := 9) (N := some 151) (v := ?_) (a' := ?_) #[true, true, true, true, true, true, true, true, true, true, false, false] rfl rfl (any_of HT_.out (by kernel_rfl)) (fun _ _ _ h => h) (Or.inl ⟨by rfl, ?_⟩) ?_ ?_
             rotate_left
             ·intro w'
              go_simp
              with_reducible rfl
             rotate_left
             ·simp only [Act.put, List.setIfInBounds_toArray, List.set_cons_zero, List.set_cons_succ, i64_w, i32_w]
              rfl
             refine pure_ (i := 10) (N := some 14) (v := ?_) (a' := ?_) #[true, true, true, true, true, true, true, true, true, true, true, false] rfl rfl (any_of HT_.out (by kernel_rfl)) (fun _ _ _ h => h) (Or.inl ⟨by rfl, ?_⟩) ?_ ?_
             rotate_left
             ·intro w'
              go_simp
              with_reducible rfl
             rotate_left
             ·simp only [Act.put, List.setIfInBounds_toArray, List.set_cons_zero, List.set_cons_succ, i64_w, i32_w]
              rfl
             refine pure_ (i := 11) (N := some 15) (v := ?_) (a' := ?_) #[true, true, true, true, true, true, true, true, true, true, true, true] rfl rfl (any_of HT_.out (by kernel_rfl)) (fun _ _ _ h => h) (Or.inl ⟨by rfl, ?_⟩) ?_ ?_
             rotate_left
             ·intro w'
              go_simp
              with_reducible rfl
             rotate_left
             ·simp only [Act.put, List.setIfInBounds_toArray, List.set_cons_zero, List.set_cons_succ, i64_w, i32_w]
              rfl
             refine done_ (done_of HT_.out (by kernel_rfl)) ?_
             try go_wp2
             go_ret2
             exact ⟨by first | rfl | (simp [errW_none, errW_some] <;> rfl) | (simp only [← hji58]; first | rfl | (simp [errW_none, errW_some] <;> rfl)) | (simp [*, errW_none, errW_some] <;> rfl), by repeat (first | (with_reducible first | exact HB.out | apply below_alloc | apply pw_below_drewN | apply below_drew1 | refine below_set ?_ GE299.out) | exact HB.out)⟩
            ·rw [if_neg c60] at H
             exact absurd H (by simp)
           ·rw [if_neg c59] at H
            exact absurd H (by simp)
          ·rw [if_neg c57] at H
           have c57b0 : ((wrap64 ((rd_T54 l0 0).f0)) == 0) = false := beq_eq_false_iff_ne.mpr c57
           have c57b1 : ((wrap64 ((rd_T54 l0 0).f0)) != 0) = true := bne_iff_ne.mpr c57
           by_cases c67 : (wrap64 ((rd_T54 l0 0).f0)) = 1
           ·rw [if_pos c67] at H
            have c67b0 : ((wrap64 ((rd_T54 l0 0).f0)) == 1) = true := beq_iff_eq.mpr c67
            have c67b1 : ((wrap64 ((rd_T54 l0 0).f0)) != 1) = false := bne_eq_false_iff_eq.mpr c67
            clear c67
            obtain ⟨ji68, hji68⟩ : ∃ j_ : Int, (wrap64 1) = j_ := ⟨_, rfl⟩
            replace H : (if 0 ≤ (ji68) then (if (ji68) ≤ (l0.length : Int) then ((spec_l1go.f kj8 (l0.drop ((ji68) : Int).toNat) l1 a2_0 (wrap64 ((rd_T54 l0 0).f3)) l2_2).bind fun bt340 => (some (bt340.1, wrap64 (bt340.2 + 1)))) else (none)) else (none)) = some (r1, r2) := by first | (rw [hji68] at H; exact H) | (rw [show ((1 : Int) + 0) = 1 from rfl, hji68] at H; exact H) | (simp only [hji68] at H ⊢; exact H)
            have hji68w : (IntKind.i64.wrap 1) = ji68 := (i64_w _).trans hji68
            by_cases c69 : 0 ≤ (ji68)
            ·rw [if_pos c69] at H
             have c69b0 := eq_true c69
             have c69b1 : decide (0 ≤ (ji68)) = true := decide_eq_true c69
             clear c69
             by_cases c70 : (ji68) ≤ (l0.length : Int)
             ·rw [if_pos c70] at H
              have c70b0 := eq_true c70
              have c70b1 : decide ((ji68) ≤ (l0.length : Int)) = true := decide_eq_true c70
              clear c70
              obtain ⟨y336, hy336⟩ : ∃ y_ : List (S54), y_ = (l0.drop ((ji68) : Int).toNat) := ⟨_, rfl⟩
              replace H : ((spec_l1go.f kj8 y336 l1 a2_0 (wrap64 ((rd_T54 l0 0).f3)) l2_2).bind fun bt340 => (some (bt340.1, wrap64 (bt340.2 + 1)))) = some (r1, r2) := by first | (rw [hy336]; with_reducible exact H) | (have H2_ := (Option.bind_some _ _).symm.trans H; rw [hy336]; with_reducible exact H2_) | (have H2_ := (Option.bind_some _ _).symm.trans H; with_reducible exact H2_) | with_reducible exact H | (rw [hy336]; exact H) | exact H
              have Ny336 := Aside0.mk hy336
              clear hy336
              replace H := Option.bind_eq_some_iff.mp H
              obtain ⟨⟨t340, t341⟩, A710, H⟩ := H
              replace H : (some (t340, wrap64 (t341 + 1))) = some (r1, r2) := H
              have A71 := Aside0.mk A710
              clear A710
              simp only [Option.some.injEq, Prod.mk.injEq] at H
              obtain ⟨rfl, rfl⟩ := H
              have hcz72_0 : wc.cell? ⟨gb299, 0, none⟩ = some (.int .i64 a2_0) := (blk_cell BK299.out 0).trans rfl
              have hcz72_1 : wc.cell? ⟨gb299, 1, none⟩ = some (.int .i64 a2_1) := (blk_cell BK299.out 1).trans rfl
              have hcz72_2 : wc.cell? ⟨gb299, 2, none⟩ = some (.slice A2_2 l2_2.length c2_2) := (blk_cell BK299.out 2).trans rfl
              have hfz72_0 := blk_frozen BK299.out 0
              have hfz72_1 := blk_frozen BK299.out 1
              have hfz72_2 := blk_frozen BK299.out 2
              try go_wp2
              have n0_ : Aside0 ((wc.setCell ⟨gb299, 1, none⟩ (.int .i64 (wrap64 ((rd_T54 l0 0).f3)))).heap[gb299]? = some (.cells #[.int .i64 a2_0, .int .i64 (wrap64 ((rd_T54 l0 0).f3)), .slice A2_2 l2_2.length c2_2] 98 (0, 0))) := ⟨by (with_reducible repeat (first | refine blk_drewN ?_ _ | refine blk_drew ?_ | refine blk_alloc ?_ _)); refine blk_put (cs := #[.int .i64 a2_0, .int .i64 a2_1, .slice A2_2 l2_2.length c2_2]) ?_ 1 _ rfl; (with_reducible repeat (first | refine blk_drewN ?_ _ | refine blk_drew ?_ | refine blk_alloc ?_ _)); exact BK299.out⟩
              have n1_ : Aside0 (Below w.heap.size w (wc.setCell ⟨gb299, 1, none⟩ (.int .i64 (wrap64 ((rd_T54 l0 0).f3))))) := ⟨by repeat (first | (with_reducible first | exact HB.out | apply below_alloc | apply pw_below_drewN | apply below_drew1 | refine below_set ?_ GE299.out) | exact HB.out)⟩
              (try clear BK299)
              (try clear HB)
              generalize (wc.setCell ⟨gb299, 1, none⟩ (.int .i64 (wrap64 ((rd_T54 l0 0).f3)))) = w73 at n0_ n1_ ⊢
              have BK299 := n0_
              have HB := n1_
              clear n0_ n1_
              have n0_ := Aside0.mk (blk_drew BK299.out)
              have n1_ := Aside0.mk (below_drew1 HB.out)
              clear BK299
              clear HB
              have BK299 := n0_
              have HB := n1_
              clear n0_ n1_
              have q75 : ((ji68) : Int) ≤ ((l0.length : Int) : Int) := of_decide_eq_true (by first | (with_reducible assumption) | assumption)
              obtain ⟨i075, hi075, _, hsz75, _⟩ := info_parts info54
              have hroom75 : l0.length ≤ c0 := HC0.out
              have hC75 : Kd.C k54 _ (some ad300) l0.length l0 := HR0.out
              have q075 : (0 : Int) ≤ ((ji68) : Int) := of_decide_eq_true (by first | (with_reducible assumption) | assumption)
              have hcut75 := cut_from (P := Try.prog) 23 54 .i64 Try.underlying23 hi075 4 hsz75 (some ad300) l0.length c0 (ji68) q075 q75
              have hr75 := Kd.C_drop (m := ((ji68) : Int).toNat) (c := c0) hC75 (by omega) hroom75
              obtain ⟨A75, hA75⟩ : ∃ A1, A1 = (if c0 = ((ji68) : Int).toNat then (some ad300) else ((some ad300) : Option Addr).map (·.add (((ji68) : Int).toNat * 4))) := ⟨_, rfl⟩
              obtain ⟨c75, hc75⟩ : ∃ c1, c1 = c0 - ((ji68) : Int).toNat := ⟨_, rfl⟩
              have hy75 : y336.length = l0.length - ((ji68) : Int).toNat := (by rw [Ny336.out, List.length_drop] <;> omega)
              rw [show (l0).drop ((ji68) : Int).toNat = y336 from Ny336.out.symm] at hr75
              replace hr75 : Kd.C k54 _ A75 y336.length y336 := (by rw [hA75]; exact hr75)
              rw [← hy75, ← hA75, ← hc75] at hcut75
              have HR339 := Aside0.mk hr75
              have HC339 := Aside0.mk (show y336.length ≤ c75 from by rw [hy75, hc75]; exact Nat.sub_le_sub_right hroom75 _)
              clear hr75 hC75 hroom75 hi075 hsz75 hc75
              have KY75 := Aside0.mk hy75
              have KA75 := Aside0.mk hA75
              clear hy75 hA75
              replace q75 := eq_true q75
              refine start_ (n := 12) (S := fun w' => w'.cell? ⟨gb299, 0, none⟩ = some (.int .i64 a2_0) ∧ w'.cell? ⟨gb299, 1, none⟩ = some (.int .i64 (wrap64 ((rd_T54 l0 0).f3))) ∧ w'.cell? ⟨gb299, 2, none⟩ = some (.slice A2_2 l2_2.length c2_2)) (ds := []) #[false, false, false, false, false, false, false, false, false, false, false, false] (by kernel_rfl) rfl rfl ⟨(blk_cell BK299.out 0).trans rfl, (blk_cell BK299.out 1).trans rfl, (blk_cell BK299.out 2).trans rfl⟩ (fun hHeld => ?_); refine with_tabW spec_l1go.tab40 spec_l1go.bits40 (fun HT_ HW_ => ?_)
              generalize w73.drew = w74 at BK299 HB HR339 hHeld ⊢
              refine pure_ (i := 0) (N := some 143) (v := ?_) (a' := ?_) #[true, false, false, false, false, false, false, false, false, false, false, false] rfl rfl (any_of HT_.out (by kernel_rfl)) (fun _ _ _ h => h) (Or.inl ⟨by rfl, ?_⟩) ?_ ?_
              rotate_left
              ·intro w'
               go_simp
               with_reducible rfl
              rotate_left
              ·simp only [Act.put, List.setIfInBounds_toArray, List.set_cons_zero, List.set_cons_succ, i64_w, i32_w]
               rfl
              refine pure_ (i := 1) (N := some 144) (v := ?_) (a' := ?_) #[true, true, false, false, false, false, false, false, false, false, false, false] rfl rfl (any_of HT_.out (by kernel_rfl)) (fun _ _ _ h => h) (Or.inl ⟨by rfl, ?_⟩) ?_ ?_
              rotate_left
              ·intro w'
               go_simp
               with_reducible rfl
              rotate_left
              ·simp only [Act.put, List.setIfInBounds_toArray, List.set_cons_zero, List.set_cons_succ, i64_w, i32_w]
               rfl
              refine pure_ (i := 2) (N := some 145) (v := ?_) (a' := ?_) #[true, true, true, false, false, false, false, false, false, false, false, false] rfl rfl (any_of HT_.out (by kernel_rfl)) (fun _ _ _ h => h) (Or.inl ⟨by rfl, ?_⟩) ?_ ?_
              rotate_left
              ·intro w'
               go_simp
               with_reducible rfl
              rotate_left
              ·simp only [Act.put, List.setIfInBounds_toArray, List.set_cons_zero, List.set_cons_succ, i64_w, i32_w]
               rfl
              refine pure_ (i := 3) (N := some 146) (v := ?_) (a' := ?_) #[true, true, true, true, false, false, false, false, false, false, false, false] rfl rfl (any_of HT_.out (by kernel_rfl)) (fun _ _ _ h => h) (Or.inl ⟨by rfl, ?_⟩) ?_ ?_
              rotate_left
              ·intro w'
               go_simp
               with_reducible rfl
              rotate_left
              ·simp only [Act.put, List.setIfInBounds_toArray, List.set_cons_zero, List.set_cons_succ, i64_w, i32_w]
               rfl
              refine pure_ (i := 4) (N := some 147) (v := ?_) (a' := ?_) #[true, true, true, true, true, false, false, false, false, false, false, false] rfl rfl (any_of HT_.out (by kernel_rfl)) (fun _ _ _ h => h) (Or.inl ⟨by rfl, ?_⟩) ?_ ?_
              rotate_left
              ·intro w'
               go_simp
               with_reducible rfl
              rotate_left
              ·simp only [Act.put, List.setIfInBounds_toArray, List.set_cons_zero, List.set_cons_succ, i64_w, i32_w]
               rfl
              refine take_ (i := 5) (N := some 148) (v := ?_) (a' := ?_) #[true, true, true, true, true, true, false, false, false, false, false, false] rfl rfl (take_ofW HT_.out HW_.out (by kernel_rfl)) (fun _ _ _ h => h) (Or.inl ⟨by rfl, ?_⟩) hHeld ?_ ?_
              rotate_left
              ·rintro w' ⟨s0, s1, s2⟩
               go_simp
               with_reducible rfl
              rotate_left
              ·simp only [Act.put, List.setIfInBounds_toArray, List.set_cons_zero, List.set_cons_succ, i64_w, i32_w]
               rfl
              refine one_ (i := 6) (N := some 149) #[true, true, true, true, true, true, true, false, false, false, false, false] rfl rfl (one_of HT_.out (by kernel_rfl)) (by decide) (fun K hK => ?_)
              refine goes_ Try.func54 (by kernel_rfl) rfl #[.slice A75 y336.length c75, .slice A1 l1.length c1, .agg #[.int .i64 a2_0, .int .i64 (wrap64 ((rd_T54 l0 0).f3)), .slice A2_2 l2_2.length c2_2]] (by rfl) rfl rfl (by (try simp only [List.map_toArray, List.map_cons, List.map_nil]); first | done | rfl | (simp only [List.length_drop, List.length_take]; rfl)) ?_
              with_reducible refine (ih kj8 (by have := HJ4.out; have := HJ8.out; omega) _ _ y336 _ _ l1 a2_0 (wrap64 ((rd_T54 l0 0).f3)) _ _ l2_2 t340 t341 _ ?side1 ?side2 ?side3 ?side4 ?side5 ?side6 A71.out).mono ?_
              (case side1 => repeat (first | exact (Kd.C_below HR339.out HB.out) | (with_reducible refine Kd.C_alloc ?_ _) | (with_reducible refine Kd.C_drewN ?_ _) | (with_reducible refine Kd.C_drew ?_)))
              (case side2 => exact HC339.out)
              (case side3 => repeat (first | exact (Kd.C_below HR1.out HB.out) | (with_reducible refine Kd.C_alloc ?_ _) | (with_reducible refine Kd.C_drewN ?_ _) | (with_reducible refine Kd.C_drew ?_)))
              (case side4 => exact HC1.out)
              (case side5 => repeat (first | exact (Kd.C_below HR2_2.out HB.out) | (with_reducible refine Kd.C_alloc ?_ _) | (with_reducible refine Kd.C_drewN ?_ _) | (with_reducible refine Kd.C_drew ?_)))
              (case side6 => exact HC2_2.out)
              rintro e w76 ⟨rfl, hb⟩
              refine ⟨_, rfl, ?_⟩
              have n0_ := Aside0.mk (blk_below (g := gb299) (o := .cells #[.int .i64 a2_0, .int .i64 (wrap64 ((rd_T54 l0 0).f3)), .slice A2_2 l2_2.length c2_2] 98 (0, 0)) (by (with_reducible repeat (first | refine blk_drewN ?_ _ | refine blk_drew ?_ | refine blk_alloc ?_ _)); exact BK299.out) hb)
              have n1_ := Aside0.mk (below_step (by repeat (first | (with_reducible first | exact HB.out | apply below_alloc | apply pw_below_drewN | apply below_drew1 | refine below_set ?_ GE299.out) | exact HB.out)) hb)
              clear BK299
              clear HB
              have BK299 := n0_
              have HB := n1_
              clear n0_ n1_
              (try clear hb)
              (try clear hb2)
              (try clear hk)
              (try clear hi)
              refine hK.out _ _ ⟨(blk_cell BK299.out 0).trans rfl, (blk_cell BK299.out 1).trans rfl, (blk_cell BK299.out 2).trans rfl⟩ (fun hHeld => ?_)
              clear hK K
              refine norm_ (a' := ?_) ?_ ?_
              rotate_left
              ·show Act.put _ (some 149) _ = _
               simp only [Act.put, List.setIfInBounds_toArray, List.set_cons_zero, List.set_cons_succ, i64_w, i32_w]
               rfl
              refine pure_ (i := 7) (N := some 142) (v := ?_) (a' := ?_) #[true, true, true, true, true, true, true, true, false, false, false, false] rfl rfl (any_of HT_.out (by kernel_rfl)) (fun _ _ _ h => h) (Or.inl ⟨by rfl, ?_⟩) ?_ ?_
              rotate_left
              ·intro w'
               go_simp
               with_reducible rfl
              rotate_left
              ·simp only [Act.put, List.setIfInBounds_toArray, List.set_cons_zero, List.set_cons_succ, i64_w, i32_w]
               rfl
              refine pure_ (i := 8) (N := some 150) (v := ?_) (a' := ?_) #[true, true, true, true, true, true, true, true, true, false, false, false] rfl rfl (any_of HT_.out (by kernel_rfl)) (fun _ _ _ h => h) (Or.inl ⟨by rfl, ?_⟩) ?_ ?_
              rotate_left
              ·intro w'
               go_simp
               with_reducible rfl
              rotate_left
              ·simp only [Act.put, List.setIfInBounds_toArray, List.set_cons_zero, List.set_cons_succ, i64_w, i32_w]
               rfl
              refine pure_ (i := 9) (N := some 151) (v := ?_) (a' := ?_) #[true, true, true, true, true, true, true, true, true, true, false, false] rfl rfl (any_of HT_.out (by kernel_rfl)) (fun _ _ _ h => h) (Or.inl ⟨by rfl, ?_⟩) ?_ ?_
              rotate_left
              ·intro w'
               go_simp
               with_reducible rfl
              rotate_left
              ·simp only [Act.put, List.setIfInBounds_toArray, List.set_cons_zero, List.set_cons_succ, i64_w, i32_w]
               rfl
              refine pure_ (i := 10) (N := some 14) (v := ?_) (a' := ?_) #[true, true, true, true, true, true, true, true, true, true, true, false] rfl rfl (any_of HT_.out (by kernel_rfl)) (fun _ _ _ h => h) (Or.inl ⟨by rfl, ?_⟩) ?_ ?_
              rotate_left
              ·intro w'
               go_simp
               with_reducible rfl
              rotate_left
              ·simp only [Act.put, List.setIfInBounds_toArray, List.set_cons_zero, List.set_cons_succ, i64_w, i32_w]
               rfl
              refine pure_ (i := 11) (N := some 15) (v := ?_) (a' := ?_) #[true, true, true, true, true, true, true, true, true, true, true, true] rfl rfl (any_of HT_.out (by kernel_rfl)) (fun _ _ _ h => h) (Or.inl ⟨by rfl, ?_⟩) ?_ ?_
              rotate_left
              ·intro w'
               go_simp
               with_reducible rfl
              rotate_left
              ·simp only [Act.put, List.setIfInBounds_toArray, List.set_cons_zero, List.set_cons_succ, i64_w, i32_w]
               rfl
              refine done_ (done_of HT_.out (by kernel_rfl)) ?_
              try go_wp2
              go_ret2
              exact ⟨by first | rfl | (simp [errW_none, errW_some] <;> rfl) | (simp only [← hji68]; first | rfl | (simp [errW_none, errW_some] <;> rfl)) | (simp [*, errW_none, errW_some] <;> rfl), by repeat (first | (with_reducible first | exact HB.out | apply below_alloc | apply pw_below_drewN | apply below_drew1 | refine below_set ?_ GE299.out) | exact HB.out)⟩
             ·rw [if_neg c70] at H
              exact absurd H (by simp)
            ·rw [if_neg c69] at H
             exact absurd H (by simp)
           ·rw [if_neg c67] at H
            have c67b0 : ((wrap64 ((rd_T54 l0 0).f0)) == 1) = false := beq_eq_false_iff_ne.mpr c67
            have c67b1 : ((wrap64 ((rd_T54 l0 0).f0)) != 1) = true := bne_iff_ne.mpr c67
            by_cases c77 : (wrap64 ((rd_T54 l0 0).f0)) = 32
            ·rw [if_pos c77] at H
             have c77b0 : ((wrap64 ((rd_T54 l0 0).f0)) == 32) = true := beq_iff_eq.mpr c77
             have c77b1 : ((wrap64 ((rd_T54 l0 0).f0)) != 32) = false := bne_eq_false_iff_eq.mpr c77
             clear c77
             replace H := Option.bind_eq_some_iff.mp H
             obtain ⟨t342, A780, H⟩ := H
             replace H : (if 0 ≤ (wrap64 1) then (if (wrap64 1) ≤ (l0.length : Int) then ((spec_l1go.f kj8 (l0.drop ((wrap64 1) : Int).toNat) l1 t342 a2_1 l2_2).bind fun bt347 => (some (bt347.1, wrap64 (bt347.2 + 1)))) else (none)) else (none)) = some (r1, r2) := H
             have A78 := Aside0.mk A780
             clear A780
             obtain ⟨ji79, hji79⟩ : ∃ j_ : Int, (wrap64 1) = j_ := ⟨_, rfl⟩
             replace H : (if 0 ≤ (ji79) then (if (ji79) ≤ (l0.length : Int) then ((spec_l1go.f kj8 (l0.drop ((ji79) : Int).toNat) l1 t342 a2_1 l2_2).bind fun bt347 => (some (bt347.1, wrap64 (bt347.2 + 1)))) else (none)) else (none)) = some (r1, r2) := by first | (rw [hji79] at H; exact H) | (rw [show ((1 : Int) + 0) = 1 from rfl, hji79] at H; exact H) | (simp only [hji79] at H ⊢; exact H)
             (try rw [hji79] at A78)
             have hji79w : (IntKind.i64.wrap 1) = ji79 := (i64_w _).trans hji79
             by_cases c80 : 0 ≤ (ji79)
             ·rw [if_pos c80] at H
              have c80b0 := eq_true c80
              have c80b1 : decide (0 ≤ (ji79)) = true := decide_eq_true c80
              clear c80
              by_cases c81 : (ji79) ≤ (l0.length : Int)
              ·rw [if_pos c81] at H
               have c81b0 := eq_true c81
               have c81b1 : decide ((ji79) ≤ (l0.length : Int)) = true := decide_eq_true c81
               clear c81
               obtain ⟨y343, hy343⟩ : ∃ y_ : List (S54), y_ = (l0.drop ((ji79) : Int).toNat) := ⟨_, rfl⟩
               replace H : ((spec_l1go.f kj8 y343 l1 t342 a2_1 l2_2).bind fun bt347 => (some (bt347.1, wrap64 (bt347.2 + 1)))) = some (r1, r2) := by first | (rw [hy343]; with_reducible exact H) | (have H2_ := (Option.bind_some _ _).symm.trans H; rw [hy343]; with_reducible exact H2_) | (have H2_ := (Option.bind_some _ _).symm.trans H; with_reducible exact H2_) | with_reducible exact H | (rw [hy343]; exact H) | exact H
               have Ny343 := Aside0.mk hy343
               clear hy343
               replace H := Option.bind_eq_some_iff.mp H
               obtain ⟨⟨t347, t348⟩, A820, H⟩ := H
               replace H : (some (t347, wrap64 (t348 + 1))) = some (r1, r2) := H
               have A82 := Aside0.mk A820
               clear A820
               simp only [Option.some.injEq, Prod.mk.injEq] at H
               obtain ⟨rfl, rfl⟩ := H
               try go_wp2_with (first | ((with_reducible refine gate_callee (f := 67) rfl ?_); refine goesL_ (some 98) rfl rfl Try.func67 (by kernel_rfl) rfl #[.slice A1 l1.length c1, .int .i64 (wrap64 ((rd_T54 l0 0).f3))] rfl (by (try simp only [List.map_toArray, List.map_cons, List.map_nil]); first | done | rfl | (simp only [List.length_drop, List.length_take]; rfl)) ?_; (with_reducible refine (spec_l1word.calls _ _ l1 (wrap64 ((rd_T54 l0 0).f3)) t342 _ ?side1 ?side2 A78.out).mono ?_); (case side1 => repeat (first | exact (Kd.C_below HR1.out HB.out) | (with_reducible refine Kd.C_alloc ?_ _) | (with_reducible refine Kd.C_drewN ?_ _) | (with_reducible refine Kd.C_drew ?_))); (case side2 => exact HC1.out); rintro e w' ⟨rfl, ⟨nd, rfl⟩⟩; refine ⟨_, rfl, ?_⟩; (try (rw [drewN_self wc]; generalize hq_ : World.drewN wc _ = wc; have n0_ : Aside0 (wc.heap[gb299]? = some (.cells #[.int .i64 a2_0, .int .i64 a2_1, .slice A2_2 l2_2.length c2_2] 98 (0, 0))) := ⟨by rw [← hq_]; exact (by (with_reducible repeat (first | refine blk_drewN ?_ _ | refine blk_drew ?_ | refine blk_alloc ?_ _)); exact BK299.out)⟩; have n1_ : Aside0 (Below w.heap.size w wc) := ⟨by rw [← hq_]; exact (by repeat (first | (with_reducible first | exact HB.out | apply below_alloc | apply pw_below_drewN | apply below_drew1 | refine below_set ?_ GE299.out) | exact HB.out))⟩; clear BK299 HB hq_; have BK299 := n0_; have HB := n1_; clear n0_ n1_)); have hcz83_0 : wc.cell? ⟨gb299, 0, none⟩ = some (.int .i64 a2_0) := (blk_cell BK299.out 0).trans rfl; have hcz83_1 : wc.cell? ⟨gb299, 1, none⟩ = some (.int .i64 a2_1) := (blk_cell BK299.out 1).trans rfl; have hcz83_2 : wc.cell? ⟨gb299, 2, none⟩ = some (.slice A2_2 l2_2.length c2_2) := (blk_cell BK299.out 2).trans rfl; have hfz83_0 := blk_frozen BK299.out 0; have hfz83_1 := blk_frozen BK299.out 1; have hfz83_2 := blk_frozen BK299.out 2))
               have n0_ : Aside0 ((wc.setCell ⟨gb299, 0, none⟩ (.int .i64 t342)).heap[gb299]? = some (.cells #[.int .i64 t342, .int .i64 a2_1, .slice A2_2 l2_2.length c2_2] 98 (0, 0))) := ⟨by (with_reducible repeat (first | refine blk_drewN ?_ _ | refine blk_drew ?_ | refine blk_alloc ?_ _)); refine blk_put (cs := #[.int .i64 a2_0, .int .i64 a2_1, .slice A2_2 l2_2.length c2_2]) ?_ 0 _ rfl; (with_reducible repeat (first | refine blk_drewN ?_ _ | refine blk_drew ?_ | refine blk_alloc ?_ _)); exact BK299.out⟩
               have n1_ : Aside0 (Below w.heap.size w (wc.setCell ⟨gb299, 0, none⟩ (.int .i64 t342))) := ⟨by repeat (first | (with_reducible first | exact HB.out | apply below_alloc | apply pw_below_drewN | apply below_drew1 | refine below_set ?_ GE299.out) | exact HB.out)⟩
               (try clear BK299)
               (try clear HB)
               generalize (wc.setCell ⟨gb299, 0, none⟩ (.int .i64 t342)) = w84 at n0_ n1_ ⊢
               have BK299 := n0_
               have HB := n1_
               clear n0_ n1_
               have n0_ := Aside0.mk (blk_drew BK299.out)
               have n1_ := Aside0.mk (below_drew1 HB.out)
               clear BK299
               clear HB
               have BK299 := n0_
               have HB := n1_
               clear n0_ n1_
               have q86 : ((ji79) : Int) ≤ ((l0.length : Int) : Int) := of_decide_eq_true (by first | (with_reducible assumption) | assumption)
               obtain ⟨i086, hi086, _, hsz86, _⟩ := info_parts info54
               have hroom86 : l0.length ≤ c0 := HC0.out
               have hC86 : Kd.C k54 _ (some ad300) l0.length l0 := HR0.out
               have q086 : (0 : Int) ≤ ((ji79) : Int) := of_decide_eq_true (by first | (with_reducible assumption) | assumption)
               have hcut86 := cut_from (P := Try.prog) 23 54 .i64 Try.underlying23 hi086 4 hsz86 (some ad300) l0.length c0 (ji79) q086 q86
               have hr86 := Kd.C_drop (m := ((ji79) : Int).toNat) (c := c0) hC86 (by omega) hroom86
               obtain ⟨A86, hA86⟩ : ∃ A1, A1 = (if c0 = ((ji79) : Int).toNat then (some ad300) else ((some ad300) : Option Addr).map (·.add (((ji79) : Int).toNat * 4))) := ⟨_, rfl⟩
               obtain ⟨c86, hc86⟩ : ∃ c1, c1 = c0 - ((ji79) : Int).toNat := ⟨_, rfl⟩
               have hy86 : y343.length = l0.length - ((ji79) : Int).toNat := (by rw [Ny343.out, List.length_drop] <;> omega)
               rw [show (l0).drop ((ji79) : Int).toNat = y343 from Ny343.out.symm] at hr86
               replace hr86 : Kd.C k54 _ A86 y343.length y343 := (by rw [hA86]; exact hr86)
               rw [← hy86, ← hA86, ← hc86] at hcut86
               have HR346 := Aside0.mk hr86
               have HC346 := Aside0.mk (show y343.length ≤ c86 from by rw [hy86, hc86]; exact Nat.sub_le_sub_right hroom86 _)
               clear hr86 hC86 hroom86 hi086 hsz86 hc86
               have KY86 := Aside0.mk hy86
               have KA86 := Aside0.mk hA86
               clear hy86 hA86
               replace q86 := eq_true q86
               refine start_ (n := 12) (S := fun w' => w'.cell? ⟨gb299, 0, none⟩ = some (.int .i64 t342) ∧ w'.cell? ⟨gb299, 1, none⟩ = some (.int .i64 a2_1) ∧ w'.cell? ⟨gb299, 2, none⟩ = some (.slice A2_2 l2_2.length c2_2)) (ds := []) #[false, false, false, false, false, false, false, false, false, false, false, false] (by kernel_rfl) rfl rfl ⟨(blk_cell BK299.out 0).trans rfl, (blk_cell BK299.out 1).trans rfl, (blk_cell BK299.out 2).trans rfl⟩ (fun hHeld => ?_); refine with_tabW spec_l1go.tab40 spec_l1go.bits40 (fun HT_ HW_ => ?_)
               generalize w84.drew = w85 at BK299 HB HR346 hHeld ⊢
               refine pure_ (i := 0) (N := some 143) (v := ?_) (a' := ?_) #[true, false, false, false, false, false, false, false, false, false, false, false] rfl rfl (any_of HT_.out (by kernel_rfl)) (fun _ _ _ h => h) (Or.inl ⟨by rfl, ?_⟩) ?_ ?_
               rotate_left
               ·intro w'
                go_simp
                with_reducible rfl
               rotate_left
               ·simp only [Act.put, List.setIfInBounds_toArray, List.set_cons_zero, List.set_cons_succ, i64_w, i32_w]
                rfl
               refine pure_ (i := 1) (N := some 144) (v := ?_) (a' := ?_) #[true, true, false, false, false, false, false, false, false, false, false, false] rfl rfl (any_of HT_.out (by kernel_rfl)) (fun _ _ _ h => h) (Or.inl ⟨by rfl, ?_⟩) ?_ ?_
               rotate_left
               ·intro w'
                go_simp
                with_reducible rfl
               rotate_left
               ·simp only [Act.put, List.setIfInBounds_toArray, List.set_cons_zero, List.set_cons_succ, i64_w, i32_w]
                rfl
               refine pure_ (i := 2) (N := some 145) (v := ?_) (a' := ?_) #[true, true, true, false, false, false, false, false, false, false, false, false] rfl rfl (any_of HT_.out (by kernel_rfl)) (fun _ _ _ h => h) (Or.inl ⟨by rfl, ?_⟩) ?_ ?_
               rotate_left
               ·intro w'
                go_simp
                with_reducible rfl
               rotate_left
               ·simp only [Act.put, List.setIfInBounds_toArray, List.set_cons_zero, List.set_cons_succ, i64_w, i32_w]
                rfl
               refine pure_ (i := 3) (N := some 146) (v := ?_) (a' := ?_) #[true, true, true, true, false, false, false, false, false, false, false, false] rfl rfl (any_of HT_.out (by kernel_rfl)) (fun _ _ _ h => h) (Or.inl ⟨by rfl, ?_⟩) ?_ ?_
               rotate_left
               ·intro w'
                go_simp
                with_reducible rfl
               rotate_left
               ·simp only [Act.put, List.setIfInBounds_toArray, List.set_cons_zero, List.set_cons_succ, i64_w, i32_w]
                rfl
               refine pure_ (i := 4) (N := some 147) (v := ?_) (a' := ?_) #[true, true, true, true, true, false, false, false, false, false, false, false] rfl rfl (any_of HT_.out (by kernel_rfl)) (fun _ _ _ h => h) (Or.inl ⟨by rfl, ?_⟩) ?_ ?_
               rotate_left
               ·intro w'
                go_simp
                with_reducible rfl
               rotate_left
               ·simp only [Act.put, List.setIfInBounds_toArray, List.set_cons_zero, List.set_cons_succ, i64_w, i32_w]
                rfl
               refine take_ (i := 5) (N := some 148) (v := ?_) (a' := ?_) #[true, true, true, true, true, true, false, false, false, false, false, false] rfl rfl (take_ofW HT_.out HW_.out (by kernel_rfl)) (fun _ _ _ h => h) (Or.inl ⟨by rfl, ?_⟩) hHeld ?_ ?_
               rotate_left
               ·rintro w' ⟨s0, s1, s2⟩
                go_simp
                with_reducible rfl
               rotate_left
               ·simp only [Act.put, List.setIfInBounds_toArray, List.set_cons_zero, List.set_cons_succ, i64_w, i32_w]
                rfl
               refine one_ (i := 6) (N := some 149) #[true, true, true, true, true, true, true, false, false, false, false, false] rfl rfl (one_of HT_.out (by kernel_rfl)) (by decide) (fun K hK => ?_)
               refine goes_ Try.func54 (by kernel_rfl) rfl #[.slice A86 y343.length c86, .slice A1 l1.length c1, .agg #[.int .i64 t342, .int .i64 a2_1, .slice A2_2 l2_2.length c2_2]] (by rfl) rfl rfl (by (try simp only [List.map_toArray, List.map_cons, List.map_nil]); first | done | rfl | (simp only [List.length_drop, List.length_take]; rfl)) ?_
               with_reducible refine (ih kj8 (by have := HJ4.out; have := HJ8.out; omega) _ _ y343 _ _ l1 t342 a2_1 _ _ l2_2 t347 t348 _ ?side1 ?side2 ?side3 ?side4 ?side5 ?side6 A82.out).mono ?_
               (case side1 => repeat (first | exact (Kd.C_below HR346.out HB.out) | (with_reducible refine Kd.C_alloc ?_ _) | (with_reducible refine Kd.C_drewN ?_ _) | (with_reducible refine Kd.C_drew ?_)))
               (case side2 => exact HC346.out)
               (case side3 => repeat (first | exact (Kd.C_below HR1.out HB.out) | (with_reducible refine Kd.C_alloc ?_ _) | (with_reducible refine Kd.C_drewN ?_ _) | (with_reducible refine Kd.C_drew ?_)))
               (case side4 => exact HC1.out)
               (case side5 => repeat (first | exact (Kd.C_below HR2_2.out HB.out) | (with_reducible refine Kd.C_alloc ?_ _) | (with_reducible refine Kd.C_drewN ?_ _) | (with_reducible refine Kd.C_drew ?_)))
               (case side6 => exact HC2_2.out)
               rintro e w87 ⟨rfl, hb⟩
               refine ⟨_, rfl, ?_⟩
               have n0_ := Aside0.mk (blk_below (g := gb299) (o := .cells #[.int .i64 t342, .int .i64 a2_1, .slice A2_2 l2_2.length c2_2] 98 (0, 0)) (by (with_reducible repeat (first | refine blk_drewN ?_ _ | refine blk_drew ?_ | refine blk_alloc ?_ _)); exact BK299.out) hb)
               have n1_ := Aside0.mk (below_step (by repeat (first | (with_reducible first | exact HB.out | apply below_alloc | apply pw_below_drewN | apply below_drew1 | refine below_set ?_ GE299.out) | exact HB.out)) hb)
               clear BK299
               clear HB
               have BK299 := n0_
               have HB := n1_
               clear n0_ n1_
               (try clear hb)
               (try clear hb2)
               (try clear hk)
               (try clear hi)
               refine hK.out _ _ ⟨(blk_cell BK299.out 0).trans rfl, (blk_cell BK299.out 1).trans rfl, (blk_cell BK299.out 2).trans rfl⟩ (fun hHeld => ?_)
               clear hK K
               refine norm_ (a' := ?_) ?_ ?_
               rotate_left
               ·show Act.put _ (some 149) _ = _
                simp only [Act.put, List.setIfInBounds_toArray, List.set_cons_zero, List.set_cons_succ, i64_w, i32_w]
                rfl
               refine pure_ (i := 7) (N := some 142) (v := ?_) (a' := ?_) #[true, true, true, true, true, true, true, true, false, false, false, false] rfl rfl (any_of HT_.out (by kernel_rfl)) (fun _ _ _ h => h) (Or.inl ⟨by rfl, ?_⟩) ?_ ?_
               rotate_left
               ·intro w'
                go_simp
                with_reducible rfl
               rotate_left
               ·simp only [Act.put, List.setIfInBounds_toArray, List.set_cons_zero, List.set_cons_succ, i64_w, i32_w]
                rfl
               refine pure_ (i := 8) (N := some 150) (v := ?_) (a' := ?_) #[true, true, true, true, true, true, true, true, true, false, false, false] rfl rfl (any_of HT_.out (by kernel_rfl)) (fun _ _ _ h => h) (Or.inl ⟨by rfl, ?_⟩) ?_ ?_
               rotate_left
               ·intro w'
                go_simp
                with_reducible rfl
               rotate_left
               ·simp only [Act.put, List.setIfInBounds_toArray, List.set_cons_zero, List.set_cons_succ, i64_w, i32_w]
                rfl
               refine pure_ (i := 9) (N := some 151) (v := ?_) (a' := ?_) #[true, true, true, true, true, true, true, true, true, true, false, false] rfl rfl (any_of HT_.out (by kernel_rfl)) (fun _ _ _ h => h) (Or.inl ⟨by rfl, ?_⟩) ?_ ?_
               rotate_left
               ·intro w'
                go_simp
                with_reducible rfl
               rotate_left
               ·simp only [Act.put, List.setIfInBounds_toArray, List.set_cons_zero, List.set_cons_succ, i64_w, i32_w]
                rfl
               refine pure_ (i := 10) (N := some 14) (v := ?_) (a' := ?_) #[true, true, true, true, true, true, true, true, true, true, true, false] rfl rfl (any_of HT_.out (by kernel_rfl)) (fun _ _ _ h => h) (Or.inl ⟨by rfl, ?_⟩) ?_ ?_
               rotate_left
               ·intro w'
                go_simp
                with_reducible rfl
               rotate_left
               ·simp only [Act.put, List.setIfInBounds_toArray, List.set_cons_zero, List.set_cons_succ, i64_w, i32_w]
                rfl
               refine pure_ (i := 11) (N := some 15) (v := ?_) (a' := ?_) #[true, true, true, true, true, true, true, true, true, true, true, true] rfl rfl (any_of HT_.out (by kernel_rfl)) (fun _ _ _ h => h) (Or.inl ⟨by rfl, ?_⟩) ?_ ?_
               rotate_left
               ·intro w'
                go_simp
                with_reducible rfl
               rotate_left
               ·simp only [Act.put, List.setIfInBounds_toArray, List.set_cons_zero, List.set_cons_succ, i64_w, i32_w]
                rfl
               refine done_ (done_of HT_.out (by kernel_rfl)) ?_
               try go_wp2
               go_ret2
               exact ⟨by first | rfl | (simp [errW_none, errW_some] <;> rfl) | (simp only [← hji79]; first | rfl | (simp [errW_none, errW_some] <;> rfl)) | (simp [*, errW_none, errW_some] <;> rfl), by repeat (first | (with_reducible first | exact HB.out | apply below_alloc | apply pw_below_drewN | apply below_drew1 | refine below_set ?_ GE299.out) | exact HB.out)⟩
              ·rw [if_neg c81] at H
               exact absurd H (by simp)
             ·rw [if_neg c80] at H
              exact absurd H (by simp)
            ·rw [if_neg c77] at H
             have c77b0 : ((wrap64 ((rd_T54 l0 0).f0)) == 32) = false := beq_eq_false_iff_ne.mpr c77
             have c77b1 : ((wrap64 ((rd_T54 l0 0).f0)) != 32) = true := bne_iff_ne.mpr c77
             by_cases c88 : (wrap64 ((rd_T54 l0 0).f0)) = 96
             ·rw [if_pos c88] at H
              have c88b0 : ((wrap64 ((rd_T54 l0 0).f0)) == 96) = true := beq_iff_eq.mpr c88
              have c88b1 : ((wrap64 ((rd_T54 l0 0).f0)) != 96) = false := bne_eq_false_iff_eq.mpr c88
              clear c88
              obtain ⟨ji89, hji89⟩ : ∃ j_ : Int, (wrap64 ((rd_T54 l0 0).f3)) = j_ := ⟨_, rfl⟩
              replace H : (if 0 ≤ (ji89) then (if (ji89) < (l2_2.length : Int) then (if 0 ≤ (wrap64 1) then (if (wrap64 1) ≤ (l0.length : Int) then ((spec_l1go.f kj8 (l0.drop ((wrap64 1) : Int).toNat) l1 (rd l2_2 (ji89)) a2_1 l2_2).bind fun bt354 => (some (bt354.1, wrap64 (bt354.2 + 1)))) else (none)) else (none)) else (none)) else (none)) = some (r1, r2) := by first | (rw [hji89] at H; exact H) | (rw [show ((1 : Int) + 0) = 1 from rfl, hji89] at H; exact H) | (simp only [hji89] at H ⊢; exact H)
              have hji89w : (IntKind.i64.wrap ((rd_T54 l0 0).f3)) = ji89 := (i64_w _).trans hji89
              by_cases c90 : 0 ≤ (ji89)
              ·rw [if_pos c90] at H
               have c90b0 : decide (0 ≤ (ji89)) = true := decide_eq_true c90
               clear c90
               by_cases c91 : (ji89) < (l2_2.length : Int)
               ·rw [if_pos c91] at H
                have c91b0 : decide ((ji89) < (l2_2.length : Int)) = true := decide_eq_true c91
                clear c91
                obtain ⟨ji92, hji92⟩ : ∃ j_ : Int, (wrap64 1) = j_ := ⟨_, rfl⟩
                replace H : (if 0 ≤ (ji92) then (if (ji92) ≤ (l0.length : Int) then ((spec_l1go.f kj8 (l0.drop ((ji92) : Int).toNat) l1 (rd l2_2 (ji89)) a2_1 l2_2).bind fun bt354 => (some (bt354.1, wrap64 (bt354.2 + 1)))) else (none)) else (none)) = some (r1, r2) := by first | (rw [hji92] at H; exact H) | (rw [show ((1 : Int) + 0) = 1 from rfl, hji92] at H; exact H) | (simp only [hji92] at H ⊢; exact H)
                have hji92w : (IntKind.i64.wrap 1) = ji92 := (i64_w _).trans hji92
                by_cases c93 : 0 ≤ (ji92)
                ·rw [if_pos c93] at H
                 have c93b0 := eq_true c93
                 have c93b1 : decide (0 ≤ (ji92)) = true := decide_eq_true c93
                 clear c93
                 by_cases c94 : (ji92) ≤ (l0.length : Int)
                 ·rw [if_pos c94] at H
                  have c94b0 := eq_true c94
                  have c94b1 : decide ((ji92) ≤ (l0.length : Int)) = true := decide_eq_true c94
                  clear c94
                  obtain ⟨y350, hy350⟩ : ∃ y_ : List (S54), y_ = (l0.drop ((ji92) : Int).toNat) := ⟨_, rfl⟩
                  replace H : ((spec_l1go.f kj8 y350 l1 (rd l2_2 (ji89)) a2_1 l2_2).bind fun bt354 => (some (bt354.1, wrap64 (bt354.2 + 1)))) = some (r1, r2) := by first | (rw [hy350]; with_reducible exact H) | (have H2_ := (Option.bind_some _ _).symm.trans H; rw [hy350]; with_reducible exact H2_) | (have H2_ := (Option.bind_some _ _).symm.trans H; with_reducible exact H2_) | with_reducible exact H | (rw [hy350]; exact H) | exact H
                  have Ny350 := Aside0.mk hy350
                  clear hy350
                  replace H := Option.bind_eq_some_iff.mp H
                  obtain ⟨⟨t354, t355⟩, A950, H⟩ := H
                  replace H : (some (t354, wrap64 (t355 + 1))) = some (r1, r2) := H
                  have A95 := Aside0.mk A950
                  clear A950
                  simp only [Option.some.injEq, Prod.mk.injEq] at H
                  obtain ⟨rfl, rfl⟩ := H
                  have hcz96_0 : wc.cell? ⟨gb299, 0, none⟩ = some (.int .i64 a2_0) := (blk_cell BK299.out 0).trans rfl
                  have hcz96_1 : wc.cell? ⟨gb299, 1, none⟩ = some (.int .i64 a2_1) := (blk_cell BK299.out 1).trans rfl
                  have hcz96_2 : wc.cell? ⟨gb299, 2, none⟩ = some (.slice A2_2 l2_2.length c2_2) := (blk_cell BK299.out 2).trans rfl
                  have hfz96_0 := blk_frozen BK299.out 0
                  have hfz96_1 := blk_frozen BK299.out 1
                  have hfz96_2 := blk_frozen BK299.out 2
                  have p349 : 0 ≤ ((ji89) : Int) := of_decide_eq_true (by first | (with_reducible assumption) | assumption)
                  have q349 : (ji89) < (l2_2.length : Int) := of_decide_eq_true (by first | (with_reducible assumption) | assumption)
                  obtain ⟨ad349, e349, hx349_0⟩ := Kd.at_int HR2_2.out (ji89) p349 q349
                  cases e349
                  replace hx349_0 := (HB.out.cell (World.block_lt_of_cell? w _ hx349_0)).trans hx349_0
                  replace p349 := eq_true p349
                  replace q349 := eq_true q349
                  try go_wp2
                  have n0_ : Aside0 ((wc.setCell ⟨gb299, 0, none⟩ (.int .i64 (rd l2_2 (ji89)))).heap[gb299]? = some (.cells #[.int .i64 (rd l2_2 (ji89)), .int .i64 a2_1, .slice (some ad349) l2_2.length c2_2] 98 (0, 0))) := ⟨by (with_reducible repeat (first | refine blk_drewN ?_ _ | refine blk_drew ?_ | refine blk_alloc ?_ _)); refine blk_put (cs := #[.int .i64 a2_0, .int .i64 a2_1, .slice (some ad349) l2_2.length c2_2]) ?_ 0 _ rfl; (with_reducible repeat (first | refine blk_drewN ?_ _ | refine blk_drew ?_ | refine blk_alloc ?_ _)); exact BK299.out⟩
                  have n1_ : Aside0 (Below w.heap.size w (wc.setCell ⟨gb299, 0, none⟩ (.int .i64 (rd l2_2 (ji89))))) := ⟨by repeat (first | (with_reducible first | exact HB.out | apply below_alloc | apply pw_below_drewN | apply below_drew1 | refine below_set ?_ GE299.out) | exact HB.out)⟩
                  (try clear BK299)
                  (try clear HB)
                  generalize (wc.setCell ⟨gb299, 0, none⟩ (.int .i64 (rd l2_2 (ji89)))) = w97 at n0_ n1_ ⊢
                  have BK299 := n0_
                  have HB := n1_
                  clear n0_ n1_
                  have n0_ := Aside0.mk (blk_drew BK299.out)
                  have n1_ := Aside0.mk (below_drew1 HB.out)
                  clear BK299
                  clear HB
                  have BK299 := n0_
                  have HB := n1_
                  clear n0_ n1_
                  have q99 : ((ji92) : Int) ≤ ((l0.length : Int) : Int) := of_decide_eq_true (by first | (with_reducible assumption) | assumption)
                  obtain ⟨i099, hi099, _, hsz99, _⟩ := info_parts info54
                  have hroom99 : l0.length ≤ c0 := HC0.out
                  have hC99 : Kd.C k54 _ (some ad300) l0.length l0 := HR0.out
                  have q099 : (0 : Int) ≤ ((ji92) : Int) := of_decide_eq_true (by first | (with_reducible assumption) | assumption)
                  have hcut99 := cut_from (P := Try.prog) 23 54 .i64 Try.underlying23 hi099 4 hsz99 (some ad300) l0.length c0 (ji92) q099 q99
                  have hr99 := Kd.C_drop (m := ((ji92) : Int).toNat) (c := c0) hC99 (by omega) hroom99
                  obtain ⟨A99, hA99⟩ : ∃ A1, A1 = (if c0 = ((ji92) : Int).toNat then (some ad300) else ((some ad300) : Option Addr).map (·.add (((ji92) : Int).toNat * 4))) := ⟨_, rfl⟩
                  obtain ⟨c99, hc99⟩ : ∃ c1, c1 = c0 - ((ji92) : Int).toNat := ⟨_, rfl⟩
                  have hy99 : y350.length = l0.length - ((ji92) : Int).toNat := (by rw [Ny350.out, List.length_drop] <;> omega)
                  rw [show (l0).drop ((ji92) : Int).toNat = y350 from Ny350.out.symm] at hr99
                  replace hr99 : Kd.C k54 _ A99 y350.length y350 := (by rw [hA99]; exact hr99)
                  rw [← hy99, ← hA99, ← hc99] at hcut99
                  have HR353 := Aside0.mk hr99
                  have HC353 := Aside0.mk (show y350.length ≤ c99 from by rw [hy99, hc99]; exact Nat.sub_le_sub_right hroom99 _)
                  clear hr99 hC99 hroom99 hi099 hsz99 hc99
                  have KY99 := Aside0.mk hy99
                  have KA99 := Aside0.mk hA99
                  clear hy99 hA99
                  replace q99 := eq_true q99
                  refine start_ (n := 12) (S := fun w' => w'.cell? ⟨gb299, 0, none⟩ = some (.int .i64 (rd l2_2 (ji89))) ∧ w'.cell? ⟨gb299, 1, none⟩ = some (.int .i64 a2_1) ∧ w'.cell? ⟨gb299, 2, none⟩ = some (.slice (some ad349) l2_2.length c2_2)) (ds := []) #[false, false, false, false, false, false, false, false, false, false, false, false] (by kernel_rfl) rfl rfl ⟨(blk_cell BK299.out 0).trans rfl, (blk_cell BK299.out 1).trans rfl, (blk_cell BK299.out 2).trans rfl⟩ (fun hHeld => ?_); refine with_tabW spec_l1go.tab40 spec_l1go.bits40 (fun HT_ HW_ => ?_)
                  generalize w97.drew = w98 at BK299 HB HR353 hHeld ⊢
                  refine pure_ (i := 0) (N := some 143) (v := ?_) (a' := ?_) #[true, false, false, false, false, false, false, false, false, false, false, false] rfl rfl (any_of HT_.out (by kernel_rfl)) (fun _ _ _ h => h) (Or.inl ⟨by rfl, ?_⟩) ?_ ?_
                  rotate_left
                  ·intro w'
                   go_simp
                   with_reducible rfl
                  rotate_left
                  ·simp only [Act.put, List.setIfInBounds_toArray, List.set_cons_zero, List.set_cons_succ, i64_w, i32_w]
                   rfl
                  refine pure_ (i := 1) (N := some 144) (v := ?_) (a' := ?_) #[true, true, false, false, false, false, false, false, false, false, false, false] rfl rfl (any_of HT_.out (by kernel_rfl)) (fun _ _ _ h => h) (Or.inl ⟨by rfl, ?_⟩) ?_ ?_
                  rotate_left
                  ·intro w'
                   go_simp
                   with_reducible rfl
                  rotate_left
                  ·simp only [Act.put, List.setIfInBounds_toArray, List.set_cons_zero, List.set_cons_succ, i64_w, i32_w]
                   rfl
                  refine pure_ (i := 2) (N := some 145) (v := ?_) (a' := ?_) #[true, true, true, false, false, false, false, false, false, false, false, false] rfl rfl (any_of HT_.out (by kernel_rfl)) (fun _ _ _ h => h) (Or.inl ⟨by rfl, ?_⟩) ?_ ?_
                  rotate_left
                  ·intro w'
                   go_simp
                   with_reducible rfl
                  rotate_left
                  ·simp only [Act.put, List.setIfInBounds_toArray, List.set_cons_zero, List.set_cons_succ, i64_w, i32_w]
                   rfl
                  refine pure_ (i := 3) (N := some 146) (v := ?_) (a' := ?_) #[true, true, true, true, false, false, false, false, false, false, false, false] rfl rfl (any_of HT_.out (by kernel_rfl)) (fun _ _ _ h => h) (Or.inl ⟨by rfl, ?_⟩) ?_ ?_
                  rotate_left
                  ·intro w'
                   go_simp
                   with_reducible rfl
                  rotate_left
                  ·simp only [Act.put, List.setIfInBounds_toArray, List.set_cons_zero, List.set_cons_succ, i64_w, i32_w]
                   rfl
                  refine pure_ (i := 4) (N := some 147) (v := ?_) (a' := ?_) #[true, true, true, true, true, false, false, false, false, false, false, false] rfl rfl (any_of HT_.out (by kernel_rfl)) (fun _ _ _ h => h) (Or.inl ⟨by rfl, ?_⟩) ?_ ?_
                  rotate_left
                  ·intro w'
                   go_simp
                   with_reducible rfl
                  rotate_left
                  ·simp only [Act.put, List.setIfInBounds_toArray, List.set_cons_zero, List.set_cons_succ, i64_w, i32_w]
                   rfl
                  refine take_ (i := 5) (N := some 148) (v := ?_) (a' := ?_) #[true, true, true, true, true, true, false, false, false, false, false, false] rfl rfl (take_ofW HT_.out HW_.out (by kernel_rfl)) (fun _ _ _ h => h) (Or.inl ⟨by rfl, ?_⟩) hHeld ?_ ?_
                  rotate_left
                  ·rintro w' ⟨s0, s1, s2⟩
                   go_simp
                   with_reducible rfl
                  rotate_left
                  ·simp only [Act.put, List.setIfInBounds_toArray, List.set_cons_zero, List.set_cons_succ, i64_w, i32_w]
                   rfl
                  refine one_ (i := 6) (N := some 149) #[true, true, true, true, true, true, true, false, false, false, false, false] rfl rfl (one_of HT_.out (by kernel_rfl)) (by decide) (fun K hK => ?_)
                  refine goes_ Try.func54 (by kernel_rfl) rfl #[.slice A99 y350.length c99, .slice A1 l1.length c1, .agg #[.int .i64 (rd l2_2 (ji89)), .int .i64 a2_1, .slice (some ad349) l2_2.length c2_2]] (by rfl) rfl rfl (by (try simp only [List.map_toArray, List.map_cons, List.map_nil]); first | done | (simp only [hji89]; rfl) | rfl | (simp only [List.length_drop, List.length_take]; rfl)) ?_
                  with_reducible refine (ih kj8 (by have := HJ4.out; have := HJ8.out; omega) _ _ y350 _ _ l1 (rd l2_2 (ji89)) a2_1 _ _ l2_2 t354 t355 _ ?side1 ?side2 ?side3 ?side4 ?side5 ?side6 A95.out).mono ?_
                  (case side1 => repeat (first | exact (Kd.C_below HR353.out HB.out) | (with_reducible refine Kd.C_alloc ?_ _) | (with_reducible refine Kd.C_drewN ?_ _) | (with_reducible refine Kd.C_drew ?_)))
                  (case side2 => exact HC353.out)
                  (case side3 => repeat (first | exact (Kd.C_below HR1.out HB.out) | (with_reducible refine Kd.C_alloc ?_ _) | (with_reducible refine Kd.C_drewN ?_ _) | (with_reducible refine Kd.C_drew ?_)))
                  (case side4 => exact HC1.out)
                  (case side5 => repeat (first | exact (Kd.C_below HR2_2.out HB.out) | (with_reducible refine Kd.C_alloc ?_ _) | (with_reducible refine Kd.C_drewN ?_ _) | (with_reducible refine Kd.C_drew ?_)))
                  (case side6 => exact HC2_2.out)
                  rintro e w100 ⟨rfl, hb⟩
                  refine ⟨_, rfl, ?_⟩
                  have n0_ := Aside0.mk (blk_below (g := gb299) (o := .cells #[.int .i64 (rd l2_2 (ji89)), .int .i64 a2_1, .slice (some ad349) l2_2.length c2_2] 98 (0, 0)) (by (with_reducible repeat (first | refine blk_drewN ?_ _ | refine blk_drew ?_ | refine blk_alloc ?_ _)); exact BK299.out) hb)
                  have n1_ := Aside0.mk (below_step (by repeat (first | (with_reducible first | exact HB.out | apply below_alloc | apply pw_below_drewN | apply below_drew1 | refine below_set ?_ GE299.out) | exact HB.out)) hb)
                  clear BK299
                  clear HB
                  have BK299 := n0_
                  have HB := n1_
                  clear n0_ n1_
                  (try clear hb)
                  (try clear hb2)
                  (try clear hk)
                  (try clear hi)
                  refine hK.out _ _ ⟨(blk_cell BK299.out 0).trans rfl, (blk_cell BK299.out 1).trans rfl, (blk_cell BK299.out 2).trans rfl⟩ (fun hHeld => ?_)
                  clear hK K
                  refine norm_ (a' := ?_) ?_ ?_
                  rotate_left
                  ·show Act.put _ (some 149) _ = _
                   simp only [Act.put, List.setIfInBounds_toArray, List.set_cons_zero, List.set_cons_succ, i64_w, i32_w]
                   rfl
                  refine pure_ (i := 7) (N := some 142) (v := ?_) (a' := ?_) #[true, true, true, true, true, true, true, true, false, false, false, false] rfl rfl (any_of HT_.out (by kernel_rfl)) (fun _ _ _ h => h) (Or.inl ⟨by rfl, ?_⟩) ?_ ?_
                  rotate_left
                  ·intro w'
                   go_simp
                   with_reducible rfl
                  rotate_left
                  ·simp only [Act.put, List.setIfInBounds_toArray, List.set_cons_zero, List.set_cons_succ, i64_w, i32_w]
                   rfl
                  refine pure_ (i := 8) (N := some 150) (v := ?_) (a' := ?_) #[true, true, true, true, true, true, true, true, true, false, false, false] rfl rfl (any_of HT_.out (by kernel_rfl)) (fun _ _ _ h => h) (Or.inl ⟨by rfl, ?_⟩) ?_ ?_
                  rotate_left
                  ·intro w'
                   go_simp
                   with_reducible rfl
                  rotate_left
                  ·simp only [Act.put, List.setIfInBounds_toArray, List.set_cons_zero, List.set_cons_succ, i64_w, i32_w]
                   rfl
                  refine pure_ (i := 9) (N := some 151) (v := ?_) (a' := ?_) #[true, true, true, true, true, true, true, true, true, true, false, false] rfl rfl (any_of HT_.out (by kernel_rfl)) (fun _ _ _ h => h) (Or.inl ⟨by rfl, ?_⟩) ?_ ?_
                  rotate_left
                  ·intro w'
                   go_simp
                   with_reducible rfl
                  rotate_left
                  ·simp only [Act.put, List.setIfInBounds_toArray, List.set_cons_zero, List.set_cons_succ, i64_w, i32_w]
                   rfl
                  refine pure_ (i := 10) (N := some 14) (v := ?_) (a' := ?_) #[true, true, true, true, true, true, true, true, true, true, true, false] rfl rfl (any_of HT_.out (by kernel_rfl)) (fun _ _ _ h => h) (Or.inl ⟨by rfl, ?_⟩) ?_ ?_
                  rotate_left
                  ·intro w'
                   go_simp
                   with_reducible rfl
                  rotate_left
                  ·simp only [Act.put, List.setIfInBounds_toArray, List.set_cons_zero, List.set_cons_succ, i64_w, i32_w]
                   rfl
                  refine pure_ (i := 11) (N := some 15) (v := ?_) (a' := ?_) #[true, true, true, true, true, true, true, true, true, true, true, true] rfl rfl (any_of HT_.out (by kernel_rfl)) (fun _ _ _ h => h) (Or.inl ⟨by rfl, ?_⟩) ?_ ?_
                  rotate_left
                  ·intro w'
                   go_simp
                   with_reducible rfl
                  rotate_left
                  ·simp only [Act.put, List.setIfInBounds_toArray, List.set_cons_zero, List.set_cons_succ, i64_w, i32_w]
                   rfl
                  refine done_ (done_of HT_.out (by kernel_rfl)) ?_
                  try go_wp2
                  go_ret2
                  exact ⟨by first | rfl | (simp [errW_none, errW_some] <;> rfl) | (simp only [← hji89, ← hji92]; first | rfl | (simp [errW_none, errW_some] <;> rfl)) | (simp [*, errW_none, errW_some] <;> rfl), by repeat (first | (with_reducible first | exact HB.out | apply below_alloc | apply pw_below_drewN | apply below_drew1 | refine below_set ?_ GE299.out) | exact HB.out)⟩
                 ·rw [if_neg c94] at H
                  exact absurd H (by simp)
                ·rw [if_neg c93] at H
                 exact absurd H (by simp)
               ·rw [if_neg c91] at H
                exact absurd H (by simp)
              ·rw [if_neg c90] at H
               exact absurd H (by simp)
             ·rw [if_neg c88] at H
              have c88b0 : ((wrap64 ((rd_T54 l0 0).f0)) == 96) = false := beq_eq_false_iff_ne.mpr c88
              have c88b1 : ((wrap64 ((rd_T54 l0 0).f0)) != 96) = true := bne_iff_ne.mpr c88
              by_cases c101 : (wrap64 ((rd_T54 l0 0).f0)) = 97
              ·rw [if_pos c101] at H
               have c101b0 : ((wrap64 ((rd_T54 l0 0).f0)) == 97) = true := beq_iff_eq.mpr c101
               have c101b1 : ((wrap64 ((rd_T54 l0 0).f0)) != 97) = false := bne_eq_false_iff_eq.mpr c101
               clear c101
               obtain ⟨ji102, hji102⟩ : ∃ j_ : Int, (wrap64 ((rd_T54 l0 0).f3)) = j_ := ⟨_, rfl⟩
               replace H : (if 0 ≤ (ji102) then (if (ji102) < (l2_2.length : Int) then (if 0 ≤ (wrap64 1) then (if (wrap64 1) ≤ (l0.length : Int) then ((spec_l1go.f kj8 (l0.drop ((wrap64 1) : Int).toNat) l1 a2_0 (rd l2_2 (ji102)) l2_2).bind fun bt361 => (some (bt361.1, wrap64 (bt361.2 + 1)))) else (none)) else (none)) else (none)) else (none)) = some (r1, r2) := by first | (rw [hji102] at H; exact H) | (rw [show ((1 : Int) + 0) = 1 from rfl, hji102] at H; exact H) | (simp only [hji102] at H ⊢; exact H)
               have hji102w : (IntKind.i64.wrap ((rd_T54 l0 0).f3)) = ji102 := (i64_w _).trans hji102
               by_cases c103 : 0 ≤ (ji102)
               ·rw [if_pos c103] at H
                have c103b0 : decide (0 ≤ (ji102)) = true := decide_eq_true c103
                clear c103
                by_cases c104 : (ji102) < (l2_2.length : Int)
                ·rw [if_pos c104] at H
                 have c104b0 : decide ((ji102) < (l2_2.length : Int)) = true := decide_eq_true c104
                 clear c104
                 obtain ⟨ji105, hji105⟩ : ∃ j_ : Int, (wrap64 1) = j_ := ⟨_, rfl⟩
                 replace H : (if 0 ≤ (ji105) then (if (ji105) ≤ (l0.length : Int) then ((spec_l1go.f kj8 (l0.drop ((ji105) : Int).toNat) l1 a2_0 (rd l2_2 (ji102)) l2_2).bind fun bt361 => (some (bt361.1, wrap64 (bt361.2 + 1)))) else (none)) else (none)) = some (r1, r2) := by first | (rw [hji105] at H; exact H) | (rw [show ((1 : Int) + 0) = 1 from rfl, hji105] at H; exact H) | (simp only [hji105] at H ⊢; exact H)
                 have hji105w : (IntKind.i64.wrap 1) = ji105 := (i64_w _).trans hji105
                 by_cases c106 : 0 ≤ (ji105)
                 ·rw [if_pos c106] at H
                  have c106b0 := eq_true c106
                  have c106b1 : decide (0 ≤ (ji105)) = true := decide_eq_true c106
                  clear c106
                  by_cases c107 : (ji105) ≤ (l0.length : Int)
                  ·rw [if_pos c107] at H
                   have c107b0 := eq_true c107
                   have c107b1 : decide ((ji105) ≤ (l0.length : Int)) = true := decide_eq_true c107
                   clear c107
                   obtain ⟨y357, hy357⟩ : ∃ y_ : List (S54), y_ = (l0.drop ((ji105) : Int).toNat) := ⟨_, rfl⟩
                   replace H : ((spec_l1go.f kj8 y357 l1 a2_0 (rd l2_2 (ji102)) l2_2).bind fun bt361 => (some (bt361.1, wrap64 (bt361.2 + 1)))) = some (r1, r2) := by first | (rw [hy357]; with_reducible exact H) | (have H2_ := (Option.bind_some _ _).symm.trans H; rw [hy357]; with_reducible exact H2_) | (have H2_ := (Option.bind_some _ _).symm.trans H; with_reducible exact H2_) | with_reducible exact H | (rw [hy357]; exact H) | exact H
                   have Ny357 := Aside0.mk hy357
                   clear hy357
                   replace H := Option.bind_eq_some_iff.mp H
                   obtain ⟨⟨t361, t362⟩, A1080, H⟩ := H
                   replace H : (some (t361, wrap64 (t362 + 1))) = some (r1, r2) := H
                   have A108 := Aside0.mk A1080
                   clear A1080
                   simp only [Option.some.injEq, Prod.mk.injEq] at H
                   obtain ⟨rfl, rfl⟩ := H
                   have hcz109_0 : wc.cell? ⟨gb299, 0, none⟩ = some (.int .i64 a2_0) := (blk_cell BK299.out 0).trans rfl
                   have hcz109_1 : wc.cell? ⟨gb299, 1, none⟩ = some (.int .i64 a2_1) := (blk_cell BK299.out 1).trans rfl
                   have hcz109_2 : wc.cell? ⟨gb299, 2, none⟩ = some (.slice A2_2 l2_2.length c2_2) := (blk_cell BK299.out 2).trans rfl
                   have hfz109_0 := blk_frozen BK299.out 0
                   have hfz109_1 := blk_frozen BK299.out 1
                   have hfz109_2 := blk_frozen BK299.out 2
                   have p356 : 0 ≤ ((ji102) : Int) := of_decide_eq_true (by first | (with_reducible assumption) | assumption)
                   have q356 : (ji102) < (l2_2.length : Int) := of_decide_eq_true (by first | (with_reducible assumption) | assumption)
                   obtain ⟨ad356, e356, hx356_0⟩ := Kd.at_int HR2_2.out (ji102) p356 q356
                   cases e356
                   replace hx356_0 := (HB.out.cell (World.block_lt_of_cell? w _ hx356_0)).trans hx356_0
                   replace p356 := eq_true p356
                   replace q356 := eq_true q356
                   try go_wp2
                   have n0_ : Aside0 ((wc.setCell ⟨gb299, 1, none⟩ (.int .i64 (rd l2_2 (ji102)))).heap[gb299]? = some (.cells #[.int .i64 a2_0, .int .i64 (rd l2_2 (ji102)), .slice (some ad356) l2_2.length c2_2] 98 (0, 0))) := ⟨by (with_reducible repeat (first | refine blk_drewN ?_ _ | refine blk_drew ?_ | refine blk_alloc ?_ _)); refine blk_put (cs := #[.int .i64 a2_0, .int .i64 a2_1, .slice (some ad356) l2_2.length c2_2]) ?_ 1 _ rfl; (with_reducible repeat (first | refine blk_drewN ?_ _ | refine blk_drew ?_ | refine blk_alloc ?_ _)); exact BK299.out⟩
                   have n1_ : Aside0 (Below w.heap.size w (wc.setCell ⟨gb299, 1, none⟩ (.int .i64 (rd l2_2 (ji102))))) := ⟨by repeat (first | (with_reducible first | exact HB.out | apply below_alloc | apply pw_below_drewN | apply below_drew1 | refine below_set ?_ GE299.out) | exact HB.out)⟩
                   (try clear BK299)
                   (try clear HB)
                   generalize (wc.setCell ⟨gb299, 1, none⟩ (.int .i64 (rd l2_2 (ji102)))) = w110 at n0_ n1_ ⊢
                   have BK299 := n0_
                   have HB := n1_
                   clear n0_ n1_
                   have n0_ := Aside0.mk (blk_drew BK299.out)
                   have n1_ := Aside0.mk (below_drew1 HB.out)
                   clear BK299
                   clear HB
                   have BK299 := n0_
                   have HB := n1_
                   clear n0_ n1_
                   have q112 : ((ji105) : Int) ≤ ((l0.length : Int) : Int) := of_decide_eq_true (by first | (with_reducible assumption) | assumption)
                   obtain ⟨i0112, hi0112, _, hsz112, _⟩ := info_parts info54
                   have hroom112 : l0.length ≤ c0 := HC0.out
                   have hC112 : Kd.C k54 _ (some ad300) l0.length l0 := HR0.out
                   have q0112 : (0 : Int) ≤ ((ji105) : Int) := of_decide_eq_true (by first | (with_reducible assumption) | assumption)
                   have hcut112 := cut_from (P := Try.prog) 23 54 .i64 Try.underlying23 hi0112 4 hsz112 (some ad300) l0.length c0 (ji105) q0112 q112
                   have hr112 := Kd.C_drop (m := ((ji105) : Int).toNat) (c := c0) hC112 (by omega) hroom112
                   obtain ⟨A112, hA112⟩ : ∃ A1, A1 = (if c0 = ((ji105) : Int).toNat then (some ad300) else ((some ad300) : Option Addr).map (·.add (((ji105) : Int).toNat * 4))) := ⟨_, rfl⟩
                   obtain ⟨c112, hc112⟩ : ∃ c1, c1 = c0 - ((ji105) : Int).toNat := ⟨_, rfl⟩
                   have hy112 : y357.length = l0.length - ((ji105) : Int).toNat := (by rw [Ny357.out, List.length_drop] <;> omega)
                   rw [show (l0).drop ((ji105) : Int).toNat = y357 from Ny357.out.symm] at hr112
                   replace hr112 : Kd.C k54 _ A112 y357.length y357 := (by rw [hA112]; exact hr112)
                   rw [← hy112, ← hA112, ← hc112] at hcut112
                   have HR360 := Aside0.mk hr112
                   have HC360 := Aside0.mk (show y357.length ≤ c112 from by rw [hy112, hc112]; exact Nat.sub_le_sub_right hroom112 _)
                   clear hr112 hC112 hroom112 hi0112 hsz112 hc112
                   have KY112 := Aside0.mk hy112
                   have KA112 := Aside0.mk hA112
                   clear hy112 hA112
                   replace q112 := eq_true q112
                   refine start_ (n := 12) (S := fun w' => w'.cell? ⟨gb299, 0, none⟩ = some (.int .i64 a2_0) ∧ w'.cell? ⟨gb299, 1, none⟩ = some (.int .i64 (rd l2_2 (ji102))) ∧ w'.cell? ⟨gb299, 2, none⟩ = some (.slice (some ad356) l2_2.length c2_2)) (ds := []) #[false, false, false, false, false, false, false, false, false, false, false, false] (by kernel_rfl) rfl rfl ⟨(blk_cell BK299.out 0).trans rfl, (blk_cell BK299.out 1).trans rfl, (blk_cell BK299.out 2).trans rfl⟩ (fun hHeld => ?_); refine with_tabW spec_l1go.tab40 spec_l1go.bits40 (fun HT_ HW_ => ?_)
                   generalize w110.drew = w111 at BK299 HB HR360 hHeld ⊢
                   refine pure_ (i := 0) (N := some 143) (v := ?_) (a' := ?_) #[true, false, false, false, false, false, false, false, false, false, false, false] rfl rfl (any_of HT_.out (by kernel_rfl)) (fun _ _ _ h => h) (Or.inl ⟨by rfl, ?_⟩) ?_ ?_
                   rotate_left
                   ·intro w'
                    go_simp
                    with_reducible rfl
                   rotate_left
                   ·simp only [Act.put, List.setIfInBounds_toArray, List.set_cons_zero, List.set_cons_succ, i64_w, i32_w]
                    rfl
                   refine pure_ (i := 1) (N := some 144) (v := ?_) (a' := ?_) #[true, true, false, false, false, false, false, false, false, false, false, false] rfl rfl (any_of HT_.out (by kernel_rfl)) (fun _ _ _ h => h) (Or.inl ⟨by rfl, ?_⟩) ?_ ?_
                   rotate_left
                   ·intro w'
                    go_simp
                    with_reducible rfl
                   rotate_left
                   ·simp only [Act.put, List.setIfInBounds_toArray, List.set_cons_zero, List.set_cons_succ, i64_w, i32_w]
                    rfl
                   refine pure_ (i := 2) (N := some 145) (v := ?_) (a' := ?_) #[true, true, true, false, false, false, false, false, false, false, false, false] rfl rfl (any_of HT_.out (by kernel_rfl)) (fun _ _ _ h => h) (Or.inl ⟨by rfl, ?_⟩) ?_ ?_
                   rotate_left
                   ·intro w'
                    go_simp
                    with_reducible rfl
                   rotate_left
                   ·simp only [Act.put, List.setIfInBounds_toArray, List.set_cons_zero, List.set_cons_succ, i64_w, i32_w]
                    rfl
                   refine pure_ (i := 3) (N := some 146) (v := ?_) (a' := ?_) #[true, true, true, true, false, false, false, false, false, false, false, false] rfl rfl (any_of HT_.out (by kernel_rfl)) (fun _ _ _ h => h) (Or.inl ⟨by rfl, ?_⟩) ?_ ?_
                   rotate_left
                   ·intro w'
                    go_simp
                    with_reducible rfl
                   rotate_left
                   ·simp only [Act.put, List.setIfInBounds_toArray, List.set_cons_zero, List.set_cons_succ, i64_w, i32_w]
                    rfl
                   refine pure_ (i := 4) (N := some 147) (v := ?_) (a' := ?_) #[true, true, true, true, true, false, false, false, false, false, false, false] rfl rfl (any_of HT_.out (by kernel_rfl)) (fun _ _ _ h => h) (Or.inl ⟨by rfl, ?_⟩) ?_ ?_
                   rotate_left
                   ·intro w'
                    go_simp
                    with_reducible rfl
                   rotate_left
                   ·simp only [Act.put, List.setIfInBounds_toArray, List.set_cons_zero, List.set_cons_succ, i64_w, i32_w]
                    rfl
                   refine take_ (i := 5) (N := some 148) (v := ?_) (a' := ?_) #[true, true, true, true, true, true, false, false, false, false, false, false] rfl rfl (take_ofW HT_.out HW_.out (by kernel_rfl)) (fun _ _ _ h => h) (Or.inl ⟨by rfl, ?_⟩) hHeld ?_ ?_
                   rotate_left
                   ·rintro w' ⟨s0, s1, s2⟩
                    go_simp
                    with_reducible rfl
                   rotate_left
                   ·simp only [Act.put, List.setIfInBounds_toArray, List.set_cons_zero, List.set_cons_succ, i64_w, i32_w]
                    rfl
                   refine one_ (i := 6) (N := some 149) #[true, true, true, true, true, true, true, false, false, false, false, false] rfl rfl (one_of HT_.out (by kernel_rfl)) (by decide) (fun K hK => ?_)
                   refine goes_ Try.func54 (by kernel_rfl) rfl #[.slice A112 y357.length c112, .slice A1 l1.length c1, .agg #[.int .i64 a2_0, .int .i64 (rd l2_2 (ji102)), .slice (some ad356) l2_2.length c2_2]] (by rfl) rfl rfl (by (try simp only [List.map_toArray, List.map_cons, List.map_nil]); first | done | (simp only [hji102]; rfl) | rfl | (simp only [List.length_drop, List.length_take]; rfl)) ?_
                   with_reducible refine (ih kj8 (by have := HJ4.out; have := HJ8.out; omega) _ _ y357 _ _ l1 a2_0 (rd l2_2 (ji102)) _ _ l2_2 t361 t362 _ ?side1 ?side2 ?side3 ?side4 ?side5 ?side6 A108.out).mono ?_
                   (case side1 => repeat (first | exact (Kd.C_below HR360.out HB.out) | (with_reducible refine Kd.C_alloc ?_ _) | (with_reducible refine Kd.C_drewN ?_ _) | (with_reducible refine Kd.C_drew ?_)))
                   (case side2 => exact HC360.out)
                   (case side3 => repeat (first | exact (Kd.C_below HR1.out HB.out) | (with_reducible refine Kd.C_alloc ?_ _) | (with_reducible refine Kd.C_drewN ?_ _) | (with_reducible refine Kd.C_drew ?_)))
                   (case side4 => exact HC1.out)
                   (case side5 => repeat (first | exact (Kd.C_below HR2_2.out HB.out) | (with_reducible refine Kd.C_alloc ?_ _) | (with_reducible refine Kd.C_drewN ?_ _) | (with_reducible refine Kd.C_drew ?_)))
                   (case side6 => exact HC2_2.out)
                   rintro e w113 ⟨rfl, hb⟩
                   refine ⟨_, rfl, ?_⟩
                   have n0_ := Aside0.mk (blk_below (g := gb299) (o := .cells #[.int .i64 a2_0, .int .i64 (rd l2_2 (ji102)), .slice (some ad356) l2_2.length c2_2] 98 (0, 0)) (by (with_reducible repeat (first | refine blk_drewN ?_ _ | refine blk_drew ?_ | refine blk_alloc ?_ _)); exact BK299.out) hb)
                   have n1_ := Aside0.mk (below_step (by repeat (first | (with_reducible first | exact HB.out | apply below_alloc | apply pw_below_drewN | apply below_drew1 | refine below_set ?_ GE299.out) | exact HB.out)) hb)
                   clear BK299
                   clear HB
                   have BK299 := n0_
                   have HB := n1_
                   clear n0_ n1_
                   (try clear hb)
                   (try clear hb2)
                   (try clear hk)
                   (try clear hi)
                   refine hK.out _ _ ⟨(blk_cell BK299.out 0).trans rfl, (blk_cell BK299.out 1).trans rfl, (blk_cell BK299.out 2).trans rfl⟩ (fun hHeld => ?_)
                   clear hK K
                   refine norm_ (a' := ?_) ?_ ?_
                   rotate_left
                   ·show Act.put _ (some 149) _ = _
                    simp only [Act.put, List.setIfInBounds_toArray, List.set_cons_zero, List.set_cons_succ, i64_w, i32_w]
                    rfl
                   refine pure_ (i := 7) (N := some 142) (v := ?_) (a' := ?_) #[true, true, true, true, true, true, true, true, false, false, false, false] rfl rfl (any_of HT_.out (by kernel_rfl)) (fun _ _ _ h => h) (Or.inl ⟨by rfl, ?_⟩) ?_ ?_
                   rotate_left
                   ·intro w'
                    go_simp
                    with_reducible rfl
                   rotate_left
                   ·simp only [Act.put, List.setIfInBounds_toArray, List.set_cons_zero, List.set_cons_succ, i64_w, i32_w]
                    rfl
                   refine pure_ (i := 8) (N := some 150) (v := ?_) (a' := ?_) #[true, true, true, true, true, true, true, true, true, false, false, false] rfl rfl (any_of HT_.out (by kernel_rfl)) (fun _ _ _ h => h) (Or.inl ⟨by rfl, ?_⟩) ?_ ?_
                   rotate_left
                   ·intro w'
                    go_simp
                    with_reducible rfl
                   rotate_left
                   ·simp only [Act.put, List.setIfInBounds_toArray, List.set_cons_zero, List.set_cons_succ, i64_w, i32_w]
                    rfl
                   refine pure_ (i := 9) (N := some 151) (v := ?_) (a' := ?_) #[true, true, true, true, true, true, true, true, true, true, false, false] rfl rfl (any_of HT_.out (by kernel_rfl)) (fun _ _ _ h => h) (Or.inl ⟨by rfl, ?_⟩) ?_ ?_
                   rotate_left
                   ·intro w'
                    go_simp
                    with_reducible rfl
                   rotate_left
                   ·simp only [Act.put, List.setIfInBounds_toArray, List.set_cons_zero, List.set_cons_succ, i64_w, i32_w]
                    rfl
                   refine pure_ (i := 10) (N := some 14) (v := ?_) (a' := ?_) #[true, true, true, true, true, true, true, true, true, true, true, false] rfl rfl (any_of HT_.out (by kernel_rfl)) (fun _ _ _ h => h) (Or.inl ⟨by rfl, ?_⟩) ?_ ?_
                   rotate_left
                   ·intro w'
                    go_simp
                    with_reducible rfl
                   rotate_left
                   ·simp only [Act.put, List.setIfInBounds_toArray, List.set_cons_zero, List.set_cons_succ, i64_w, i32_w]
                    rfl
                   refine pure_ (i := 11) (N := some 15) (v := ?_) (a' := ?_) #[true, true, true, true, true, true, true, true, true, true, true, true] rfl rfl (any_of HT_.out (by kernel_rfl)) (fun _ _ _ h => h) (Or.inl ⟨by rfl, ?_⟩) ?_ ?_
                   rotate_left
                   ·intro w'
                    go_simp
                    with_reducible rfl
                   rotate_left
                   ·simp only [Act.put, List.setIfInBounds_toArray, List.set_cons_zero, List.set_cons_succ, i64_w, i32_w]
                    rfl
                   refine done_ (done_of HT_.out (by kernel_rfl)) ?_
                   try go_wp2
                   go_ret2
                   exact ⟨by first | rfl | (simp [errW_none, errW_some] <;> rfl) | (simp only [← hji102, ← hji105]; first | rfl | (simp [errW_none, errW_some] <;> rfl)) | (simp [*, errW_none, errW_some] <;> rfl), by repeat (first | (with_reducible first | exact HB.out | apply below_alloc | apply pw_below_drewN | apply below_drew1 | refine below_set ?_ GE299.out) | exact HB.out)⟩
                  ·rw [if_neg c107] at H
                   exact absurd H (by simp)
                 ·rw [if_neg c106] at H
                  exact absurd H (by simp)
                ·rw [if_neg c104] at H
                 exact absurd H (by simp)
               ·rw [if_neg c103] at H
                exact absurd H (by simp)
              ·rw [if_neg c101] at H
               have c101b0 : ((wrap64 ((rd_T54 l0 0).f0)) == 97) = false := beq_eq_false_iff_ne.mpr c101
               have c101b1 : ((wrap64 ((rd_T54 l0 0).f0)) != 97) = true := bne_iff_ne.mpr c101
               by_cases c114 : (wrap64 ((rd_T54 l0 0).f0)) = 2
               ·rw [if_pos c114] at H
                have c114b0 : ((wrap64 ((rd_T54 l0 0).f0)) == 2) = true := beq_iff_eq.mpr c114
                have c114b1 : ((wrap64 ((rd_T54 l0 0).f0)) != 2) = false := bne_eq_false_iff_eq.mpr c114
                clear c114
                replace H := Option.bind_eq_some_iff.mp H
                obtain ⟨t363, A1150, H⟩ := H
                replace H : (if 0 ≤ (wrap64 1) then (if (wrap64 1) ≤ (l0.length : Int) then ((spec_l1go.f kj8 (l0.drop ((wrap64 1) : Int).toNat) l1 a2_0 a2_1 t363).bind fun bt370 => (some (bt370.1, wrap64 (bt370.2 + 1)))) else (none)) else (none)) = some (r1, r2) := H
                have A115 := Aside0.mk A1150
                clear A1150
                obtain ⟨ji116, hji116⟩ : ∃ j_ : Int, (wrap64 1) = j_ := ⟨_, rfl⟩
                replace H : (if 0 ≤ (ji116) then (if (ji116) ≤ (l0.length : Int) then ((spec_l1go.f kj8 (l0.drop ((ji116) : Int).toNat) l1 a2_0 a2_1 t363).bind fun bt370 => (some (bt370.1, wrap64 (bt370.2 + 1)))) else (none)) else (none)) = some (r1, r2) := by first | (rw [hji116] at H; exact H) | (rw [show ((1 : Int) + 0) = 1 from rfl, hji116] at H; exact H) | (simp only [hji116] at H ⊢; exact H)
                (try rw [hji116] at A115)
                have hji116w : (IntKind.i64.wrap 1) = ji116 := (i64_w _).trans hji116
                by_cases c117 : 0 ≤ (ji116)
                ·rw [if_pos c117] at H
                 have c117b0 := eq_true c117
                 have c117b1 : decide (0 ≤ (ji116)) = true := decide_eq_true c117
                 clear c117
                 by_cases c118 : (ji116) ≤ (l0.length : Int)
                 ·rw [if_pos c118] at H
                  have c118b0 := eq_true c118
                  have c118b1 : decide ((ji116) ≤ (l0.length : Int)) = true := decide_eq_true c118
                  clear c118
                  obtain ⟨y366, hy366⟩ : ∃ y_ : List (S54), y_ = (l0.drop ((ji116) : Int).toNat) := ⟨_, rfl⟩
                  replace H : ((spec_l1go.f kj8 y366 l1 a2_0 a2_1 t363).bind fun bt370 => (some (bt370.1, wrap64 (bt370.2 + 1)))) = some (r1, r2) := by first | (rw [hy366]; with_reducible exact H) | (have H2_ := (Option.bind_some _ _).symm.trans H; rw [hy366]; with_reducible exact H2_) | (have H2_ := (Option.bind_some _ _).symm.trans H; with_reducible exact H2_) | with_reducible exact H | (rw [hy366]; exact H) | exact H
                  have Ny366 := Aside0.mk hy366
                  clear hy366
                  replace H := Option.bind_eq_some_iff.mp H
                  obtain ⟨⟨t370, t371⟩, A1190, H⟩ := H
                  replace H : (some (t370, wrap64 (t371 + 1))) = some (r1, r2) := H
                  have A119 := Aside0.mk A1190
                  clear A1190
                  simp only [Option.some.injEq, Prod.mk.injEq] at H
                  obtain ⟨rfl, rfl⟩ := H
                  have hcz120_0 : wc.cell? ⟨gb299, 0, none⟩ = some (.int .i64 a2_0) := (blk_cell BK299.out 0).trans rfl
                  have hcz120_1 : wc.cell? ⟨gb299, 1, none⟩ = some (.int .i64 a2_1) := (blk_cell BK299.out 1).trans rfl
                  have hcz120_2 : wc.cell? ⟨gb299, 2, none⟩ = some (.slice A2_2 l2_2.length c2_2) := (blk_cell BK299.out 2).trans rfl
                  have hfz120_0 := blk_frozen BK299.out 0
                  have hfz120_1 := blk_frozen BK299.out 1
                  have hfz120_2 := blk_frozen BK299.out 2
                  try go_wp2_with (first | ((with_reducible refine gate_callee (f := 68) rfl ?_); refine goesL_ (some 123) rfl rfl Try.func68 (by kernel_rfl) rfl #[.slice A2_2 l2_2.length c2_2, .int .i64 (wrap64 ((rd_T54 l0 0).f3)), .int .i64 a2_0] rfl (by (try simp only [List.map_toArray, List.map_cons, List.map_nil]); first | done | rfl | (simp only [List.length_drop, List.length_take]; rfl)) ?_; (with_reducible refine (spec_l1put.calls kj8 _ _ l2_2 (wrap64 ((rd_T54 l0 0).f3)) a2_0 t363 _ ?side1 ?side2 A115.out).mono ?_); (case side1 => repeat (first | exact (Kd.C_below HR2_2.out HB.out) | (with_reducible refine Kd.C_alloc ?_ _) | (with_reducible refine Kd.C_drewN ?_ _) | (with_reducible refine Kd.C_drew ?_))); (case side2 => exact HC2_2.out); rintro e w121 ⟨v364, rfl, ho0, hb⟩; refine ⟨_, rfl, ?_⟩; have n0_ := Aside0.mk (Kd.R_lower ho0 (below_size (by repeat (first | (with_reducible first | exact HB.out | apply below_alloc | apply pw_below_drewN | apply below_drew1 | refine below_set ?_ GE299.out) | exact HB.out)))); have n1_ := Aside0.mk (blk_below (g := gb299) (o := .cells #[.int .i64 a2_0, .int .i64 a2_1, .slice A2_2 l2_2.length c2_2] 98 (0, 0)) (by (with_reducible repeat (first | refine blk_drewN ?_ _ | refine blk_drew ?_ | refine blk_alloc ?_ _)); exact BK299.out) hb); have n2_ := Aside0.mk (below_step (by repeat (first | (with_reducible first | exact HB.out | apply below_alloc | apply pw_below_drewN | apply below_drew1 | refine below_set ?_ GE299.out) | exact HB.out)) hb); clear BK299; clear HB; have HO365 := n0_; have BK299 := n1_; have HB := n2_; clear n0_ n1_ n2_; (try clear hb); (try clear hb2); (try clear hk); (try clear hi); (try clear ho0); obtain ⟨Ao122, co122, eo122⟩ := Kd.R_slice HO365.out; subst eo122; have hcz123_0 : w121.cell? ⟨gb299, 0, none⟩ = some (.int .i64 a2_0) := (blk_cell BK299.out 0).trans rfl; have hcz123_1 : w121.cell? ⟨gb299, 1, none⟩ = some (.int .i64 a2_1) := (blk_cell BK299.out 1).trans rfl; have hcz123_2 : w121.cell? ⟨gb299, 2, none⟩ = some (.slice A2_2 l2_2.length c2_2) := (blk_cell BK299.out 2).trans rfl; have hfz123_0 := blk_frozen BK299.out 0; have hfz123_1 := blk_frozen BK299.out 1; have hfz123_2 := blk_frozen BK299.out 2))
                  have n0_ : Aside0 (Kd.R (Kd.int .i64) 3 (w121.setCell ⟨gb299, 2, none⟩ (.slice Ao122 t363.length co122)) w.heap.size (fun _ => True) (.slice Ao122 t363.length co122) t363) := ⟨by (with_reducible repeat (first | apply Kd.R_alloc | apply Kd.R_drewN | apply Kd.R_drew)); exact Kd.R_mono (Kd.R_far (p := ⟨gb299, 2, none⟩) (Kd.R_types HO365.out BK299.out (by decide)) (fun _ hk => hk.2) (.slice Ao122 t363.length co122)) (fun _ hk => trivial)⟩
                  have n1_ : Aside0 ((w121.setCell ⟨gb299, 2, none⟩ (.slice Ao122 t363.length co122)).heap[gb299]? = some (.cells #[.int .i64 a2_0, .int .i64 a2_1, .slice Ao122 t363.length co122] 98 (0, 0))) := ⟨by (with_reducible repeat (first | refine blk_drewN ?_ _ | refine blk_drew ?_ | refine blk_alloc ?_ _)); refine blk_put (cs := #[.int .i64 a2_0, .int .i64 a2_1, .slice A2_2 l2_2.length c2_2]) ?_ 2 _ rfl; (with_reducible repeat (first | refine blk_drewN ?_ _ | refine blk_drew ?_ | refine blk_alloc ?_ _)); exact BK299.out⟩
                  have n2_ : Aside0 (Below w.heap.size w (w121.setCell ⟨gb299, 2, none⟩ (.slice Ao122 t363.length co122))) := ⟨by repeat (first | (with_reducible first | exact HB.out | apply below_alloc | apply pw_below_drewN | apply below_drew1 | refine below_set ?_ GE299.out) | exact HB.out)⟩
                  (try clear HO365)
                  (try clear BK299)
                  (try clear HB)
                  generalize (w121.setCell ⟨gb299, 2, none⟩ (.slice Ao122 t363.length co122)) = w124 at n0_ n1_ n2_ ⊢
                  have HO365 := n0_
                  have BK299 := n1_
                  have HB := n2_
                  clear n0_ n1_ n2_
                  have n0_ := Aside0.mk (Kd.R_drew HO365.out)
                  have n1_ := Aside0.mk (blk_drew BK299.out)
                  have n2_ := Aside0.mk (below_drew1 HB.out)
                  clear HO365
                  clear BK299
                  clear HB
                  have HO365 := n0_
                  have BK299 := n1_
                  have HB := n2_
                  clear n0_ n1_ n2_
                  have q126 : ((ji116) : Int) ≤ ((l0.length : Int) : Int) := of_decide_eq_true (by first | (with_reducible assumption) | assumption)
                  obtain ⟨i0126, hi0126, _, hsz126, _⟩ := info_parts info54
                  have hroom126 : l0.length ≤ c0 := HC0.out
                  have hC126 : Kd.C k54 _ (some ad300) l0.length l0 := HR0.out
                  have q0126 : (0 : Int) ≤ ((ji116) : Int) := of_decide_eq_true (by first | (with_reducible assumption) | assumption)
                  have hcut126 := cut_from (P := Try.prog) 23 54 .i64 Try.underlying23 hi0126 4 hsz126 (some ad300) l0.length c0 (ji116) q0126 q126
                  have hr126 := Kd.C_drop (m := ((ji116) : Int).toNat) (c := c0) hC126 (by omega) hroom126
                  obtain ⟨A126, hA126⟩ : ∃ A1, A1 = (if c0 = ((ji116) : Int).toNat then (some ad300) else ((some ad300) : Option Addr).map (·.add (((ji116) : Int).toNat * 4))) := ⟨_, rfl⟩
                  obtain ⟨c126, hc126⟩ : ∃ c1, c1 = c0 - ((ji116) : Int).toNat := ⟨_, rfl⟩
                  have hy126 : y366.length = l0.length - ((ji116) : Int).toNat := (by rw [Ny366.out, List.length_drop] <;> omega)
                  rw [show (l0).drop ((ji116) : Int).toNat = y366 from Ny366.out.symm] at hr126
                  replace hr126 : Kd.C k54 _ A126 y366.length y366 := (by rw [hA126]; exact hr126)
                  rw [← hy126, ← hA126, ← hc126] at hcut126
                  have HR369 := Aside0.mk hr126
                  have HC369 := Aside0.mk (show y366.length ≤ c126 from by rw [hy126, hc126]; exact Nat.sub_le_sub_right hroom126 _)
                  clear hr126 hC126 hroom126 hi0126 hsz126 hc126
                  have KY126 := Aside0.mk hy126
                  have KA126 := Aside0.mk hA126
                  clear hy126 hA126
                  replace q126 := eq_true q126
                  refine start_ (n := 12) (S := fun w' => w'.cell? ⟨gb299, 0, none⟩ = some (.int .i64 a2_0) ∧ w'.cell? ⟨gb299, 1, none⟩ = some (.int .i64 a2_1) ∧ w'.cell? ⟨gb299, 2, none⟩ = some (.slice Ao122 t363.length co122)) (ds := []) #[false, false, false, false, false, false, false, false, false, false, false, false] (by kernel_rfl) rfl rfl ⟨(blk_cell BK299.out 0).trans rfl, (blk_cell BK299.out 1).trans rfl, (blk_cell BK299.out 2).trans rfl⟩ (fun hHeld => ?_); refine with_tabW spec_l1go.tab40 spec_l1go.bits40 (fun HT_ HW_ => ?_)
                  generalize w124.drew = w125 at HO365 BK299 HB HR369 hHeld ⊢
                  refine pure_ (i := 0) (N := some 143) (v := ?_) (a' := ?_) #[true, false, false, false, false, false, false, false, false, false, false, false] rfl rfl (any_of HT_.out (by kernel_rfl)) (fun _ _ _ h => h) (Or.inl ⟨by rfl, ?_⟩) ?_ ?_
                  rotate_left
                  ·intro w'
                   go_simp
                   with_reducible rfl
                  rotate_left
                  ·simp only [Act.put, List.setIfInBounds_toArray, List.set_cons_zero, List.set_cons_succ, i64_w, i32_w]
                   rfl
                  refine pure_ (i := 1) (N := some 144) (v := ?_) (a' := ?_) #[true, true, false, false, false, false, false, false, false, false, false, false] rfl rfl (any_of HT_.out (by kernel_rfl)) (fun _ _ _ h => h) (Or.inl ⟨by rfl, ?_⟩) ?_ ?_
                  rotate_left
                  ·intro w'
                   go_simp
                   with_reducible rfl
                  rotate_left
                  ·simp only [Act.put, List.setIfInBounds_toArray, List.set_cons_zero, List.set_cons_succ, i64_w, i32_w]
                   rfl
                  refine pure_ (i := 2) (N := some 145) (v := ?_) (a' := ?_) #[true, true, true, false, false, false, false, false, false, false, false, false] rfl rfl (any_of HT_.out (by kernel_rfl)) (fun _ _ _ h => h) (Or.inl ⟨by rfl, ?_⟩) ?_ ?_
                  rotate_left
                  ·intro w'
                   go_simp
                   with_reducible rfl
                  rotate_left
                  ·simp only [Act.put, List.setIfInBounds_toArray, List.set_cons_zero, List.set_cons_succ, i64_w, i32_w]
                   rfl
                  refine pure_ (i := 3) (N := some 146) (v := ?_) (a' := ?_) #[true, true, true, true, false, false, false, false, false, false, false, false] rfl rfl (any_of HT_.out (by kernel_rfl)) (fun _ _ _ h => h) (Or.inl ⟨by rfl, ?_⟩) ?_ ?_
                  rotate_left
                  ·intro w'
                   go_simp
                   with_reducible rfl
                  rotate_left
                  ·simp only [Act.put, List.setIfInBounds_toArray, List.set_cons_zero, List.set_cons_succ, i64_w, i32_w]
                   rfl
                  refine pure_ (i := 4) (N := some 147) (v := ?_) (a' := ?_) #[true, true, true, true, true, false, false, false, false, false, false, false] rfl rfl (any_of HT_.out (by kernel_rfl)) (fun _ _ _ h => h) (Or.inl ⟨by rfl, ?_⟩) ?_ ?_
                  rotate_left
                  ·intro w'
                   go_simp
                   with_reducible rfl
                  rotate_left
                  ·simp only [Act.put, List.setIfInBounds_toArray, List.set_cons_zero, List.set_cons_succ, i64_w, i32_w]
                   rfl
                  refine take_ (i := 5) (N := some 148) (v := ?_) (a' := ?_) #[true, true, true, true, true, true, false, false, false, false, false, false] rfl rfl (take_ofW HT_.out HW_.out (by kernel_rfl)) (fun _ _ _ h => h) (Or.inl ⟨by rfl, ?_⟩) hHeld ?_ ?_
                  rotate_left
                  ·rintro w' ⟨s0, s1, s2⟩
                   go_simp
                   with_reducible rfl
                  rotate_left
                  ·simp only [Act.put, List.setIfInBounds_toArray, List.set_cons_zero, List.set_cons_succ, i64_w, i32_w]
                   rfl
                  refine one_ (i := 6) (N := some 149) #[true, true, true, true, true, true, true, false, false, false, false, false] rfl rfl (one_of HT_.out (by kernel_rfl)) (by decide) (fun K hK => ?_)
                  refine goes_ Try.func54 (by kernel_rfl) rfl #[.slice A126 y366.length c126, .slice A1 l1.length c1, .agg #[.int .i64 a2_0, .int .i64 a2_1, .slice Ao122 t363.length co122]] (by rfl) rfl rfl (by (try simp only [List.map_toArray, List.map_cons, List.map_nil]); first | done | rfl | (simp only [List.length_drop, List.length_take]; rfl)) ?_
                  with_reducible refine (ih kj8 (by have := HJ4.out; have := HJ8.out; omega) _ _ y366 _ _ l1 a2_0 a2_1 _ _ t363 t370 t371 _ ?side1 ?side2 ?side3 ?side4 ?side5 ?side6 A119.out).mono ?_
                  (case side1 => repeat (first | exact (Kd.C_below HR369.out HB.out) | (with_reducible refine Kd.C_alloc ?_ _) | (with_reducible refine Kd.C_drewN ?_ _) | (with_reducible refine Kd.C_drew ?_)))
                  (case side2 => exact HC369.out)
                  (case side3 => repeat (first | exact (Kd.C_below HR1.out HB.out) | (with_reducible refine Kd.C_alloc ?_ _) | (with_reducible refine Kd.C_drewN ?_ _) | (with_reducible refine Kd.C_drew ?_)))
                  (case side4 => exact HC1.out)
                  (case side5 => repeat (first | exact (Kd.R_reads' HO365.out).2.2 | (with_reducible refine Kd.C_alloc ?_ _) | (with_reducible refine Kd.C_drewN ?_ _) | (with_reducible refine Kd.C_drew ?_)))
                  (case side6 => exact (Kd.R_reads' HO365.out).2.1)
                  rintro e w127 ⟨rfl, hb⟩
                  refine ⟨_, rfl, ?_⟩
                  have n0_ := Aside0.mk (Kd.R_below (by (with_reducible repeat (first | apply Kd.R_alloc | apply Kd.R_drewN | apply Kd.R_drew)); exact HO365.out) hb)
                  have n1_ := Aside0.mk (blk_below (g := gb299) (o := .cells #[.int .i64 a2_0, .int .i64 a2_1, .slice Ao122 t363.length co122] 98 (0, 0)) (by (with_reducible repeat (first | refine blk_drewN ?_ _ | refine blk_drew ?_ | refine blk_alloc ?_ _)); exact BK299.out) hb)
                  have n2_ := Aside0.mk (below_step (by repeat (first | (with_reducible first | exact HB.out | apply below_alloc | apply pw_below_drewN | apply below_drew1 | refine below_set ?_ GE299.out) | exact HB.out)) hb)
                  clear HO365
                  clear BK299
                  clear HB
                  have HO365 := n0_
                  have BK299 := n1_
                  have HB := n2_
                  clear n0_ n1_ n2_
                  (try clear hb)
                  (try clear hb2)
                  (try clear hk)
                  (try clear hi)
                  refine hK.out _ _ ⟨(blk_cell BK299.out 0).trans rfl, (blk_cell BK299.out 1).trans rfl, (blk_cell BK299.out 2).trans rfl⟩ (fun hHeld => ?_)
                  clear hK K
                  refine norm_ (a' := ?_) ?_ ?_
                  rotate_left
                  ·show Act.put _ (some 149) _ = _
                   simp only [Act.put, List.setIfInBounds_toArray, List.set_cons_zero, List.set_cons_succ, i64_w, i32_w]
                   rfl
                  refine pure_ (i := 7) (N := some 142) (v := ?_) (a' := ?_) #[true, true, true, true, true, true, true, true, false, false, false, false] rfl rfl (any_of HT_.out (by kernel_rfl)) (fun _ _ _ h => h) (Or.inl ⟨by rfl, ?_⟩) ?_ ?_
                  rotate_left
                  ·intro w'
                   go_simp
                   with_reducible rfl
                  rotate_left
                  ·simp only [Act.put, List.setIfInBounds_toArray, List.set_cons_zero, List.set_cons_succ, i64_w, i32_w]
                   rfl
                  refine pure_ (i := 8) (N := some 150) (v := ?_) (a' := ?_) #[true, true, true, true, true, true, true, true, true, false, false, false] rfl rfl (any_of HT_.out (by kernel_rfl)) (fun _ _ _ h => h) (Or.inl ⟨by rfl, ?_⟩) ?_ ?_
                  rotate_left
                  ·intro w'
                   go_simp
                   with_reducible rfl
                  rotate_left
                  ·simp only [Act.put, List.setIfInBounds_toArray, List.set_cons_zero, List.set_cons_succ, i64_w, i32_w]
                   rfl
                  refine pure_ (i := 9) (N := some 151) (v := ?_) (a' := ?_) #[true, true, true, true, true, true, true, true, true, true, false, false] rfl rfl (any_of HT_.out (by kernel_rfl)) (fun _ _ _ h => h) (Or.inl ⟨by rfl, ?_⟩) ?_ ?_
                  rotate_left
                  ·intro w'
                   go_simp
                   with_reducible rfl
                  rotate_left
                  ·simp only [Act.put, List.setIfInBounds_toArray, List.set_cons_zero, List.set_cons_succ, i64_w, i32_w]
                   rfl
                  refine pure_ (i := 10) (N := some 14) (v := ?_) (a' := ?_) #[true, true, true, true, true, true, true, true, true, true, true, false] rfl rfl (any_of HT_.out (by kernel_rfl)) (fun _ _ _ h => h) (Or.inl ⟨by rfl, ?_⟩) ?_ ?_
                  rotate_left
                  ·intro w'
                   go_simp
                   with_reducible rfl
                  rotate_left
                  ·simp only [Act.put, List.setIfInBounds_toArray, List.set_cons_zero, List.set_cons_succ, i64_w, i32_w]
                   rfl
                  refine pure_ (i := 11) (N := some 15) (v := ?_) (a' := ?_) #[true, true, true, true, true, true, true, true, true, true, true, true] rfl rfl (any_of HT_.out (by kernel_rfl)) (fun _ _ _ h => h) (Or.inl ⟨by rfl, ?_⟩) ?_ ?_
                  rotate_left
                  ·intro w'
                   go_simp
                   with_reducible rfl
                  rotate_left
                  ·simp only [Act.put, List.setIfInBounds_toArray, List.set_cons_zero, List.set_cons_succ, i64_w, i32_w]
                   rfl
                  refine done_ (done_of HT_.out (by kernel_rfl)) ?_
                  try go_wp2
                  go_ret2
                  exact ⟨by first | rfl | (simp [errW_none, errW_some] <;> rfl) | (simp only [← hji116]; first | rfl | (simp [errW_none, errW_some] <;> rfl)) | (simp [*, errW_none, errW_some] <;> rfl), by repeat (first | (with_reducible first | exact HB.out | apply below_alloc | apply pw_below_drewN | apply below_drew1 | refine below_set ?_ GE299.out) | exact HB.out)⟩
                 ·rw [if_neg c118] at H
                  exact absurd H (by simp)
                ·rw [if_neg c117] at H
                 exact absurd H (by simp)
               ·rw [if_neg c114] at H
                have c114b0 : ((wrap64 ((rd_T54 l0 0).f0)) == 2) = false := beq_eq_false_iff_ne.mpr c114
                have c114b1 : ((wrap64 ((rd_T54 l0 0).f0)) != 2) = true := bne_iff_ne.mpr c114
                by_cases c128 : (wrap64 ((rd_T54 l0 0).f0)) = 3
                ·rw [if_pos c128] at H
                 have c128b0 : ((wrap64 ((rd_T54 l0 0).f0)) == 3) = true := beq_iff_eq.mpr c128
                 have c128b1 : ((wrap64 ((rd_T54 l0 0).f0)) != 3) = false := bne_eq_false_iff_eq.mpr c128
                 clear c128
                 replace H := Option.bind_eq_some_iff.mp H
                 obtain ⟨t372, A1290, H⟩ := H
                 replace H : (if 0 ≤ (wrap64 1) then (if (wrap64 1) ≤ (l0.length : Int) then ((spec_l1go.f kj8 (l0.drop ((wrap64 1) : Int).toNat) l1 a2_0 a2_1 t372).bind fun bt379 => (some (bt379.1, wrap64 (bt379.2 + 1)))) else (none)) else (none)) = some (r1, r2) := H
                 have A129 := Aside0.mk A1290
                 clear A1290
                 obtain ⟨ji130, hji130⟩ : ∃ j_ : Int, (wrap64 1) = j_ := ⟨_, rfl⟩
                 replace H : (if 0 ≤ (ji130) then (if (ji130) ≤ (l0.length : Int) then ((spec_l1go.f kj8 (l0.drop ((ji130) : Int).toNat) l1 a2_0 a2_1 t372).bind fun bt379 => (some (bt379.1, wrap64 (bt379.2 + 1)))) else (none)) else (none)) = some (r1, r2) := by first | (rw [hji130] at H; exact H) | (rw [show ((1 : Int) + 0) = 1 from rfl, hji130] at H; exact H) | (simp only [hji130] at H ⊢; exact H)
                 (try rw [hji130] at A129)
                 have hji130w : (IntKind.i64.wrap 1) = ji130 := (i64_w _).trans hji130
                 by_cases c131 : 0 ≤ (ji130)
                 ·rw [if_pos c131] at H
                  have c131b0 := eq_true c131
                  have c131b1 : decide (0 ≤ (ji130)) = true := decide_eq_true c131
                  clear c131
                  by_cases c132 : (ji130) ≤ (l0.length : Int)
                  ·rw [if_pos c132] at H
                   have c132b0 := eq_true c132
                   have c132b1 : decide ((ji130) ≤ (l0.length : Int)) = true := decide_eq_true c132
                   clear c132
                   obtain ⟨y375, hy375⟩ : ∃ y_ : List (S54), y_ = (l0.drop ((ji130) : Int).toNat) := ⟨_, rfl⟩
                   replace H : ((spec_l1go.f kj8 y375 l1 a2_0 a2_1 t372).bind fun bt379 => (some (bt379.1, wrap64 (bt379.2 + 1)))) = some (r1, r2) := by first | (rw [hy375]; with_reducible exact H) | (have H2_ := (Option.bind_some _ _).symm.trans H; rw [hy375]; with_reducible exact H2_) | (have H2_ := (Option.bind_some _ _).symm.trans H; with_reducible exact H2_) | with_reducible exact H | (rw [hy375]; exact H) | exact H
                   have Ny375 := Aside0.mk hy375
                   clear hy375
                   replace H := Option.bind_eq_some_iff.mp H
                   obtain ⟨⟨t379, t380⟩, A1330, H⟩ := H
                   replace H : (some (t379, wrap64 (t380 + 1))) = some (r1, r2) := H
                   have A133 := Aside0.mk A1330
                   clear A1330
                   simp only [Option.some.injEq, Prod.mk.injEq] at H
                   obtain ⟨rfl, rfl⟩ := H
                   have hcz134_0 : wc.cell? ⟨gb299, 0, none⟩ = some (.int .i64 a2_0) := (blk_cell BK299.out 0).trans rfl
                   have hcz134_1 : wc.cell? ⟨gb299, 1, none⟩ = some (.int .i64 a2_1) := (blk_cell BK299.out 1).trans rfl
                   have hcz134_2 : wc.cell? ⟨gb299, 2, none⟩ = some (.slice A2_2 l2_2.length c2_2) := (blk_cell BK299.out 2).trans rfl
                   have hfz134_0 := blk_frozen BK299.out 0
                   have hfz134_1 := blk_frozen BK299.out 1
                   have hfz134_2 := blk_frozen BK299.out 2
                   try go_wp2_with (first | ((with_reducible refine gate_callee (f := 68) rfl ?_); refine goesL_ (some 132) rfl rfl Try.func68 (by kernel_rfl) rfl #[.slice A2_2 l2_2.length c2_2, .int .i64 (wrap64 ((rd_T54 l0 0).f3)), .int .i64 a2_1] rfl (by (try simp only [List.map_toArray, List.map_cons, List.map_nil]); first | done | rfl | (simp only [List.length_drop, List.length_take]; rfl)) ?_; (with_reducible refine (spec_l1put.calls kj8 _ _ l2_2 (wrap64 ((rd_T54 l0 0).f3)) a2_1 t372 _ ?side1 ?side2 A129.out).mono ?_); (case side1 => repeat (first | exact (Kd.C_below HR2_2.out HB.out) | (with_reducible refine Kd.C_alloc ?_ _) | (with_reducible refine Kd.C_drewN ?_ _) | (with_reducible refine Kd.C_drew ?_))); (case side2 => exact HC2_2.out); rintro e w135 ⟨v373, rfl, ho0, hb⟩; refine ⟨_, rfl, ?_⟩; have n0_ := Aside0.mk (Kd.R_lower ho0 (below_size (by repeat (first | (with_reducible first | exact HB.out | apply below_alloc | apply pw_below_drewN | apply below_drew1 | refine below_set ?_ GE299.out) | exact HB.out)))); have n1_ := Aside0.mk (blk_below (g := gb299) (o := .cells #[.int .i64 a2_0, .int .i64 a2_1, .slice A2_2 l2_2.length c2_2] 98 (0, 0)) (by (with_reducible repeat (first | refine blk_drewN ?_ _ | refine blk_drew ?_ | refine blk_alloc ?_ _)); exact BK299.out) hb); have n2_ := Aside0.mk (below_step (by repeat (first | (with_reducible first | exact HB.out | apply below_alloc | apply pw_below_drewN | apply below_drew1 | refine below_set ?_ GE299.out) | exact HB.out)) hb); clear BK299; clear HB; have HO374 := n0_; have BK299 := n1_; have HB := n2_; clear n0_ n1_ n2_; (try clear hb); (try clear hb2); (try clear hk); (try clear hi); (try clear ho0); obtain ⟨Ao136, co136, eo136⟩ := Kd.R_slice HO374.out; subst eo136; have hcz137_0 : w135.cell? ⟨gb299, 0, none⟩ = some (.int .i64 a2_0) := (blk_cell BK299.out 0).trans rfl; have hcz137_1 : w135.cell? ⟨gb299, 1, none⟩ = some (.int .i64 a2_1) := (blk_cell BK299.out 1).trans rfl; have hcz137_2 : w135.cell? ⟨gb299, 2, none⟩ = some (.slice A2_2 l2_2.length c2_2) := (blk_cell BK299.out 2).trans rfl; have hfz137_0 := blk_frozen BK299.out 0; have hfz137_1 := blk_frozen BK299.out 1; have hfz137_2 := blk_frozen BK299.out 2))
                   have n0_ : Aside0 (Kd.R (Kd.int .i64) 3 (w135.setCell ⟨gb299, 2, none⟩ (.slice Ao136 t372.length co136)) w.heap.size (fun _ => True) (.slice Ao136 t372.length co136) t372) := ⟨by (with_reducible repeat (first | apply Kd.R_alloc | apply Kd.R_drewN | apply Kd.R_drew)); exact Kd.R_mono (Kd.R_far (p := ⟨gb299, 2, none⟩) (Kd.R_types HO374.out BK299.out (by decide)) (fun _ hk => hk.2) (.slice Ao136 t372.length co136)) (fun _ hk => trivial)⟩
                   have n1_ : Aside0 ((w135.setCell ⟨gb299, 2, none⟩ (.slice Ao136 t372.length co136)).heap[gb299]? = some (.cells #[.int .i64 a2_0, .int .i64 a2_1, .slice Ao136 t372.length co136] 98 (0, 0))) := ⟨by (with_reducible repeat (first | refine blk_drewN ?_ _ | refine blk_drew ?_ | refine blk_alloc ?_ _)); refine blk_put (cs := #[.int .i64 a2_0, .int .i64 a2_1, .slice A2_2 l2_2.length c2_2]) ?_ 2 _ rfl; (with_reducible repeat (first | refine blk_drewN ?_ _ | refine blk_drew ?_ | refine blk_alloc ?_ _)); exact BK299.out⟩
                   have n2_ : Aside0 (Below w.heap.size w (w135.setCell ⟨gb299, 2, none⟩ (.slice Ao136 t372.length co136))) := ⟨by repeat (first | (with_reducible first | exact HB.out | apply below_alloc | apply pw_below_drewN | apply below_drew1 | refine below_set ?_ GE299.out) | exact HB.out)⟩
                   (try clear HO374)
                   (try clear BK299)
                   (try clear HB)
                   generalize (w135.setCell ⟨gb299, 2, none⟩ (.slice Ao136 t372.length co136)) = w138 at n0_ n1_ n2_ ⊢
                   have HO374 := n0_
                   have BK299 := n1_
                   have HB := n2_
                   clear n0_ n1_ n2_
                   have n0_ := Aside0.mk (Kd.R_drew HO374.out)
                   have n1_ := Aside0.mk (blk_drew BK299.out)
                   have n2_ := Aside0.mk (below_drew1 HB.out)
                   clear HO374
                   clear BK299
                   clear HB
                   have HO374 := n0_
                   have BK299 := n1_
                   have HB := n2_
                   clear n0_ n1_ n2_
                   have q140 : ((ji130) : Int) ≤ ((l0.length : Int) : Int) := of_decide_eq_true (by first | (with_reducible assumption) | assumption)
                   obtain ⟨i0140, hi0140, _, hsz140, _⟩ := info_parts info54
                   have hroom140 : l0.length ≤ c0 := HC0.out
                   have hC140 : Kd.C k54 _ (some ad300) l0.length l0 := HR0.out
                   have q0140 : (0 : Int) ≤ ((ji130) : Int) := of_decide_eq_true (by first | (with_reducible assumption) | assumption)
                   have hcut140 := cut_from (P := Try.prog) 23 54 .i64 Try.underlying23 hi0140 4 hsz140 (some ad300) l0.length c0 (ji130) q0140 q140
                   have hr140 := Kd.C_drop (m := ((ji130) : Int).toNat) (c := c0) hC140 (by omega) hroom140
                   obtain ⟨A140, hA140⟩ : ∃ A1, A1 = (if c0 = ((ji130) : Int).toNat then (some ad300) else ((some ad300) : Option Addr).map (·.add (((ji130) : Int).toNat * 4))) := ⟨_, rfl⟩
                   obtain ⟨c140, hc140⟩ : ∃ c1, c1 = c0 - ((ji130) : Int).toNat := ⟨_, rfl⟩
                   have hy140 : y375.length = l0.length - ((ji130) : Int).toNat := (by rw [Ny375.out, List.length_drop] <;> omega)
                   rw [show (l0).drop ((ji130) : Int).toNat = y375 from Ny375.out.symm] at hr140
                   replace hr140 : Kd.C k54 _ A140 y375.length y375 := (by rw [hA140]; exact hr140)
                   rw [← hy140, ← hA140, ← hc140] at hcut140
                   have HR378 := Aside0.mk hr140
                   have HC378 := Aside0.mk (show y375.length ≤ c140 from by rw [hy140, hc140]; exact Nat.sub_le_sub_right hroom140 _)
                   clear hr140 hC140 hroom140 hi0140 hsz140 hc140
                   have KY140 := Aside0.mk hy140
                   have KA140 := Aside0.mk hA140
                   clear hy140 hA140
                   replace q140 := eq_true q140
                   refine start_ (n := 12) (S := fun w' => w'.cell? ⟨gb299, 0, none⟩ = some (.int .i64 a2_0) ∧ w'.cell? ⟨gb299, 1, none⟩ = some (.int .i64 a2_1) ∧ w'.cell? ⟨gb299, 2, none⟩ = some (.slice Ao136 t372.length co136)) (ds := []) #[false, false, false, false, false, false, false, false, false, false, false, false] (by kernel_rfl) rfl rfl ⟨(blk_cell BK299.out 0).trans rfl, (blk_cell BK299.out 1).trans rfl, (blk_cell BK299.out 2).trans rfl⟩ (fun hHeld => ?_); refine with_tabW spec_l1go.tab40 spec_l1go.bits40 (fun HT_ HW_ => ?_)
                   generalize w138.drew = w139 at HO374 BK299 HB HR378 hHeld ⊢
                   refine pure_ (i := 0) (N := some 143) (v := ?_) (a' := ?_) #[true, false, false, false, false, false, false, false, false, false, false, false] rfl rfl (any_of HT_.out (by kernel_rfl)) (fun _ _ _ h => h) (Or.inl ⟨by rfl, ?_⟩) ?_ ?_
                   rotate_left
                   ·intro w'
                    go_simp
                    with_reducible rfl
                   rotate_left
                   ·simp only [Act.put, List.setIfInBounds_toArray, List.set_cons_zero, List.set_cons_succ, i64_w, i32_w]
                    rfl
                   refine pure_ (i := 1) (N := some 144) (v := ?_) (a' := ?_) #[true, true, false, false, false, false, false, false, false, false, false, false] rfl rfl (any_of HT_.out (by kernel_rfl)) (fun _ _ _ h => h) (Or.inl ⟨by rfl, ?_⟩) ?_ ?_
                   rotate_left
                   ·intro w'
                    go_simp
                    with_reducible rfl
                   rotate_left
                   ·simp only [Act.put, List.setIfInBounds_toArray, List.set_cons_zero, List.set_cons_succ, i64_w, i32_w]
                    rfl
                   refine pure_ (i := 2) (N := some 145) (v := ?_) (a' := ?_) #[true, true, true, false, false, false, false, false, false, false, false, false] rfl rfl (any_of HT_.out (by kernel_rfl)) (fun _ _ _ h => h) (Or.inl ⟨by rfl, ?_⟩) ?_ ?_
                   rotate_left
                   ·intro w'
                    go_simp
                    with_reducible rfl
                   rotate_left
                   ·simp only [Act.put, List.setIfInBounds_toArray, List.set_cons_zero, List.set_cons_succ, i64_w, i32_w]
                    rfl
                   refine pure_ (i := 3) (N := some 146) (v := ?_) (a' := ?_) #[true, true, true, true, false, false, false, false, false, false, false, false] rfl rfl (any_of HT_.out (by kernel_rfl)) (fun _ _ _ h => h) (Or.inl ⟨by rfl, ?_⟩) ?_ ?_
                   rotate_left
                   ·intro w'
                    go_simp
                    with_reducible rfl
                   rotate_left
                   ·simp only [Act.put, List.setIfInBounds_toArray, List.set_cons_zero, List.set_cons_succ, i64_w, i32_w]
                    rfl
                   refine pure_ (i := 4) (N := some 147) (v := ?_) (a' := ?_) #[true, true, true, true, true, false, false, false, false, false, false, false] rfl rfl (any_of HT_.out (by kernel_rfl)) (fun _ _ _ h => h) (Or.inl ⟨by rfl, ?_⟩) ?_ ?_
                   rotate_left
                   ·intro w'
                    go_simp
                    with_reducible rfl
                   rotate_left
                   ·simp only [Act.put, List.setIfInBounds_toArray, List.set_cons_zero, List.set_cons_succ, i64_w, i32_w]
                    rfl
                   refine take_ (i := 5) (N := some 148) (v := ?_) (a' := ?_) #[true, true, true, true, true, true, false, false, false, false, false, false] rfl rfl (take_ofW HT_.out HW_.out (by kernel_rfl)) (fun _ _ _ h => h) (Or.inl ⟨by rfl, ?_⟩) hHeld ?_ ?_
                   rotate_left
                   ·rintro w' ⟨s0, s1, s2⟩
                    go_simp
                    with_reducible rfl
                   rotate_left
                   ·simp only [Act.put, List.setIfInBounds_toArray, List.set_cons_zero, List.set_cons_succ, i64_w, i32_w]
                    rfl
                   refine one_ (i := 6) (N := some 149) #[true, true, true, true, true, true, true, false, false, false, false, false] rfl rfl (one_of HT_.out (by kernel_rfl)) (by decide) (fun K hK => ?_)
                   refine goes_ Try.func54 (by kernel_rfl) rfl #[.slice A140 y375.length c140, .slice A1 l1.length c1, .agg #[.int .i64 a2_0, .int .i64 a2_1, .slice Ao136 t372.length co136]] (by rfl) rfl rfl (by (try simp only [List.map_toArray, List.map_cons, List.map_nil]); first | done | rfl | (simp only [List.length_drop, List.length_take]; rfl)) ?_
                   with_reducible refine (ih kj8 (by have := HJ4.out; have := HJ8.out; omega) _ _ y375 _ _ l1 a2_0 a2_1 _ _ t372 t379 t380 _ ?side1 ?side2 ?side3 ?side4 ?side5 ?side6 A133.out).mono ?_
                   (case side1 => repeat (first | exact (Kd.C_below HR378.out HB.out) | (with_reducible refine Kd.C_alloc ?_ _) | (with_reducible refine Kd.C_drewN ?_ _) | (with_reducible refine Kd.C_drew ?_)))
                   (case side2 => exact HC378.out)
                   (case side3 => repeat (first | exact (Kd.C_below HR1.out HB.out) | (with_reducible refine Kd.C_alloc ?_ _) | (with_reducible refine Kd.C_drewN ?_ _) | (with_reducible refine Kd.C_drew ?_)))
                   (case side4 => exact HC1.out)
                   (case side5 => repeat (first | exact (Kd.R_reads' HO374.out).2.2 | (with_reducible refine Kd.C_alloc ?_ _) | (with_reducible refine Kd.C_drewN ?_ _) | (with_reducible refine Kd.C_drew ?_)))
                   (case side6 => exact (Kd.R_reads' HO374.out).2.1)
                   rintro e w141 ⟨rfl, hb⟩
                   refine ⟨_, rfl, ?_⟩
                   have n0_ := Aside0.mk (Kd.R_below (by (with_reducible repeat (first | apply Kd.R_alloc | apply Kd.R_drewN | apply Kd.R_drew)); exact HO374.out) hb)
                   have n1_ := Aside0.mk (blk_below (g := gb299) (o := .cells #[.int .i64 a2_0, .int .i64 a2_1, .slice Ao136 t372.length co136] 98 (0, 0)) (by (with_reducible repeat (first | refine blk_drewN ?_ _ | refine blk_drew ?_ | refine blk_alloc ?_ _)); exact BK299.out) hb)
                   have n2_ := Aside0.mk (below_step (by repeat (first | (with_reducible first | exact HB.out | apply below_alloc | apply pw_below_drewN | apply below_drew1 | refine below_set ?_ GE299.out) | exact HB.out)) hb)
                   clear HO374
                   clear BK299
                   clear HB
                   have HO374 := n0_
                   have BK299 := n1_
                   have HB := n2_
                   clear n0_ n1_ n2_
                   (try clear hb)
                   (try clear hb2)
                   (try clear hk)
                   (try clear hi)
                   refine hK.out _ _ ⟨(blk_cell BK299.out 0).trans rfl, (blk_cell BK299.out 1).trans rfl, (blk_cell BK299.out 2).trans rfl⟩ (fun hHeld => ?_)
                   clear hK K
                   refine norm_ (a' := ?_) ?_ ?_
                   rotate_left
                   ·show Act.put _ (some 149) _ = _
                    simp only [Act.put, List.setIfInBounds_toArray, List.set_cons_zero, List.set_cons_succ, i64_w, i32_w]
                    rfl
                   refine pure_ (i := 7) (N := some 142) (v := ?_) (a' := ?_) #[true, true, true, true, true, true, true, true, false, false, false, false] rfl rfl (any_of HT_.out (by kernel_rfl)) (fun _ _ _ h => h) (Or.inl ⟨by rfl, ?_⟩) ?_ ?_
                   rotate_left
                   ·intro w'
                    go_simp
                    with_reducible rfl
                   rotate_left
                   ·simp only [Act.put, List.setIfInBounds_toArray, List.set_cons_zero, List.set_cons_succ, i64_w, i32_w]
                    rfl
                   refine pure_ (i := 8) (N := some 150) (v := ?_) (a' := ?_) #[true, true, true, true, true, true, true, true, true, false, false, false] rfl rfl (any_of HT_.out (by kernel_rfl)) (fun _ _ _ h => h) (Or.inl ⟨by rfl, ?_⟩) ?_ ?_
                   rotate_left
                   ·intro w'
                    go_simp
                    with_reducible rfl
                   rotate_left
                   ·simp only [Act.put, List.setIfInBounds_toArray, List.set_cons_zero, List.set_cons_succ, i64_w, i32_w]
                    rfl
                   refine pure_ (i := 9) (N := some 151) (v := ?_) (a' := ?_) #[true, true, true, true, true, true, true, true, true, true, false, false] rfl rfl (any_of HT_.out (by kernel_rfl)) (fun _ _ _ h => h) (Or.inl ⟨by rfl, ?_⟩) ?_ ?_
                   rotate_left
                   ·intro w'
                    go_simp
                    with_reducible rfl
                   rotate_left
                   ·simp only [Act.put, List.setIfInBounds_toArray, List.set_cons_zero, List.set_cons_succ, i64_w, i32_w]
                    rfl
                   refine pure_ (i := 10) (N := some 14) (v := ?_) (a' := ?_) #[true, true, true, true, true, true, true, true, true, true, true, false] rfl rfl (any_of HT_.out (by kernel_rfl)) (fun _ _ _ h => h) (Or.inl ⟨by rfl, ?_⟩) ?_ ?_
                   rotate_left
                   ·intro w'
                    go_simp
                    with_reducible rfl
                   rotate_left
                   ·simp only [Act.put, List.setIfInBounds_toArray, List.set_cons_zero, List.set_cons_succ, i64_w, i32_w]
                    rfl
                   refine pure_ (i := 11) (N := some 15) (v := ?_) (a' := ?_) #[true, true, true, true, true, true, true, true, true, true, true, true] rfl rfl (any_of HT_.out (by kernel_rfl)) (fun _ _ _ h => h) (Or.inl ⟨by rfl, ?_⟩) ?_ ?_
                   rotate_left
                   ·intro w'
                    go_simp
                    with_reducible rfl
                   rotate_left
                   ·simp only [Act.put, List.setIfInBounds_toArray, List.set_cons_zero, List.set_cons_succ, i64_w, i32_w]
                    rfl
                   refine done_ (done_of HT_.out (by kernel_rfl)) ?_
                   try go_wp2
                   go_ret2
                   exact ⟨by first | rfl | (simp [errW_none, errW_some] <;> rfl) | (simp only [← hji130]; first | rfl | (simp [errW_none, errW_some] <;> rfl)) | (simp [*, errW_none, errW_some] <;> rfl), by repeat (first | (with_reducible first | exact HB.out | apply below_alloc | apply pw_below_drewN | apply below_drew1 | refine below_set ?_ GE299.out) | exact HB.out)⟩
                  ·rw [if_neg c132] at H
                   exact absurd H (by simp)
                 ·rw [if_neg c131] at H
                  exact absurd H (by simp)
                ·rw [if_neg c128] at H
                 have c128b0 : ((wrap64 ((rd_T54 l0 0).f0)) == 3) = false := beq_eq_false_iff_ne.mpr c128
                 have c128b1 : ((wrap64 ((rd_T54 l0 0).f0)) != 3) = true := bne_iff_ne.mpr c128
                 by_cases c142 : (wrap64 ((rd_T54 l0 0).f0)) = 7
                 ·rw [if_pos c142] at H
                  have c142b0 : ((wrap64 ((rd_T54 l0 0).f0)) == 7) = true := beq_iff_eq.mpr c142
                  have c142b1 : ((wrap64 ((rd_T54 l0 0).f0)) != 7) = false := bne_eq_false_iff_eq.mpr c142
                  clear c142
                  obtain ⟨ji143, hji143⟩ : ∃ j_ : Int, (wrap64 1) = j_ := ⟨_, rfl⟩
                  replace H : (if 0 ≤ (ji143) then (if (ji143) ≤ (l0.length : Int) then ((spec_l1go.f kj8 (l0.drop ((ji143) : Int).toNat) l1 a2_0 a2_0 l2_2).bind fun bt385 => (some (bt385.1, wrap64 (bt385.2 + 1)))) else (none)) else (none)) = some (r1, r2) := by first | (rw [hji143] at H; exact H) | (rw [show ((1 : Int) + 0) = 1 from rfl, hji143] at H; exact H) | (simp only [hji143] at H ⊢; exact H)
                  have hji143w : (IntKind.i64.wrap 1) = ji143 := (i64_w _).trans hji143
                  by_cases c144 : 0 ≤ (ji143)
                  ·rw [if_pos c144] at H
                   have c144b0 := eq_true c144
                   have c144b1 : decide (0 ≤ (ji143)) = true := decide_eq_true c144
                   clear c144
                   by_cases c145 : (ji143) ≤ (l0.length : Int)
                   ·rw [if_pos c145] at H
                    have c145b0 := eq_true c145
                    have c145b1 : decide ((ji143) ≤ (l0.length : Int)) = true := decide_eq_true c145
                    clear c145
                    obtain ⟨y381, hy381⟩ : ∃ y_ : List (S54), y_ = (l0.drop ((ji143) : Int).toNat) := ⟨_, rfl⟩
                    replace H : ((spec_l1go.f kj8 y381 l1 a2_0 a2_0 l2_2).bind fun bt385 => (some (bt385.1, wrap64 (bt385.2 + 1)))) = some (r1, r2) := by first | (rw [hy381]; with_reducible exact H) | (have H2_ := (Option.bind_some _ _).symm.trans H; rw [hy381]; with_reducible exact H2_) | (have H2_ := (Option.bind_some _ _).symm.trans H; with_reducible exact H2_) | with_reducible exact H | (rw [hy381]; exact H) | exact H
                    have Ny381 := Aside0.mk hy381
                    clear hy381
                    replace H := Option.bind_eq_some_iff.mp H
                    obtain ⟨⟨t385, t386⟩, A1460, H⟩ := H
                    replace H : (some (t385, wrap64 (t386 + 1))) = some (r1, r2) := H
                    have A146 := Aside0.mk A1460
                    clear A1460
                    simp only [Option.some.injEq, Prod.mk.injEq] at H
                    obtain ⟨rfl, rfl⟩ := H
                    have hcz147_0 : wc.cell? ⟨gb299, 0, none⟩ = some (.int .i64 a2_0) := (blk_cell BK299.out 0).trans rfl
                    have hcz147_1 : wc.cell? ⟨gb299, 1, none⟩ = some (.int .i64 a2_1) := (blk_cell BK299.out 1).trans rfl
                    have hcz147_2 : wc.cell? ⟨gb299, 2, none⟩ = some (.slice A2_2 l2_2.length c2_2) := (blk_cell BK299.out 2).trans rfl
                    have hfz147_0 := blk_frozen BK299.out 0
                    have hfz147_1 := blk_frozen BK299.out 1
                    have hfz147_2 := blk_frozen BK299.out 2
                    try go_wp2
                    have n0_ : Aside0 ((wc.setCell ⟨gb299, 1, none⟩ (.int .i64 a2_0)).heap[gb299]? = some (.cells #[.int .i64 a2_0, .int .i64 a2_0, .slice A2_2 l2_2.length c2_2] 98 (0, 0))) := ⟨by (with_reducible repeat (first | refine blk_drewN ?_ _ | refine blk_drew ?_ | refine blk_alloc ?_ _)); refine blk_put (cs := #[.int .i64 a2_0, .int .i64 a2_1, .slice A2_2 l2_2.length c2_2]) ?_ 1 _ rfl; (with_reducible repeat (first | refine blk_drewN ?_ _ | refine blk_drew ?_ | refine blk_alloc ?_ _)); exact BK299.out⟩
                    have n1_ : Aside0 (Below w.heap.size w (wc.setCell ⟨gb299, 1, none⟩ (.int .i64 a2_0))) := ⟨by repeat (first | (with_reducible first | exact HB.out | apply below_alloc | apply pw_below_drewN | apply below_drew1 | refine below_set ?_ GE299.out) | exact HB.out)⟩
                    (try clear BK299)
                    (try clear HB)
                    generalize (wc.setCell ⟨gb299, 1, none⟩ (.int .i64 a2_0)) = w148 at n0_ n1_ ⊢
                    have BK299 := n0_
                    have HB := n1_
                    clear n0_ n1_
                    have n0_ := Aside0.mk (blk_drew BK299.out)
                    have n1_ := Aside0.mk (below_drew1 HB.out)
                    clear BK299
                    clear HB
                    have BK299 := n0_
                    have HB := n1_
                    clear n0_ n1_
                    have q150 : ((ji143) : Int) ≤ ((l0.length : Int) : Int) := of_decide_eq_true (by first | (with_reducible assumption) | assumption)
                    obtain ⟨i0150, hi0150, _, hsz150, _⟩ := info_parts info54
                    have hroom150 : l0.length ≤ c0 := HC0.out
                    have hC150 : Kd.C k54 _ (some ad300) l0.length l0 := HR0.out
                    have q0150 : (0 : Int) ≤ ((ji143) : Int) := of_decide_eq_true (by first | (with_reducible assumption) | assumption)
                    have hcut150 := cut_from (P := Try.prog) 23 54 .i64 Try.underlying23 hi0150 4 hsz150 (some ad300) l0.length c0 (ji143) q0150 q150
                    have hr150 := Kd.C_drop (m := ((ji143) : Int).toNat) (c := c0) hC150 (by omega) hroom150
                    obtain ⟨A150, hA150⟩ : ∃ A1, A1 = (if c0 = ((ji143) : Int).toNat then (some ad300) else ((some ad300) : Option Addr).map (·.add (((ji143) : Int).toNat * 4))) := ⟨_, rfl⟩
                    obtain ⟨c150, hc150⟩ : ∃ c1, c1 = c0 - ((ji143) : Int).toNat := ⟨_, rfl⟩
                    have hy150 : y381.length = l0.length - ((ji143) : Int).toNat := (by rw [Ny381.out, List.length_drop] <;> omega)
                    rw [show (l0).drop ((ji143) : Int).toNat = y381 from Ny381.out.symm] at hr150
                    replace hr150 : Kd.C k54 _ A150 y381.length y381 := (by rw [hA150]; exact hr150)
                    rw [← hy150, ← hA150, ← hc150] at hcut150
                    have HR384 := Aside0.mk hr150
                    have HC384 := Aside0.mk (show y381.length ≤ c150 from by rw [hy150, hc150]; exact Nat.sub_le_sub_right hroom150 _)
                    clear hr150 hC150 hroom150 hi0150 hsz150 hc150
                    have KY150 := Aside0.mk hy150
                    have KA150 := Aside0.mk hA150
                    clear hy150 hA150
                    replace q150 := eq_true q150
                    refine start_ (n := 12) (S := fun w' => w'.cell? ⟨gb299, 0, none⟩ = some (.int .i64 a2_0) ∧ w'.cell? ⟨gb299, 1, none⟩ = some (.int .i64 a2_0) ∧ w'.cell? ⟨gb299, 2, none⟩ = some (.slice A2_2 l2_2.length c2_2)) (ds := []) #[false, false, false, false, false, false, false, false, false, false, false, false] (by kernel_rfl) rfl rfl ⟨(blk_cell BK299.out 0).trans rfl, (blk_cell BK299.out 1).trans rfl, (blk_cell BK299.out 2).trans rfl⟩ (fun hHeld => ?_); refine with_tabW spec_l1go.tab40 spec_l1go.bits40 (fun HT_ HW_ => ?_)
                    generalize w148.drew = w149 at BK299 HB HR384 hHeld ⊢
                    refine pure_ (i := 0) (N := some 143) (v := ?_) (a' := ?_) #[true, false, false, false, false, false, false, false, false, false, false, false] rfl rfl (any_of HT_.out (by kernel_rfl)) (fun _ _ _ h => h) (Or.inl ⟨by rfl, ?_⟩) ?_ ?_
                    rotate_left
                    ·intro w'
                     go_simp
                     with_reducible rfl
                    rotate_left
                    ·simp only [Act.put, List.setIfInBounds_toArray, List.set_cons_zero, List.set_cons_succ, i64_w, i32_w]
                     rfl
                    refine pure_ (i := 1) (N := some 144) (v := ?_) (a' := ?_) #[true, true, false, false, false, false, false, false, false, false, false, false] rfl rfl (any_of HT_.out (by kernel_rfl)) (fun _ _ _ h => h) (Or.inl ⟨by rfl, ?_⟩) ?_ ?_
                    rotate_left
                    ·intro w'
                     go_simp
                     with_reducible rfl
                    rotate_left
                    ·simp only [Act.put, List.setIfInBounds_toArray, List.set_cons_zero, List.set_cons_succ, i64_w, i32_w]
                     rfl
                    refine pure_ (i := 2) (N := some 145) (v := ?_) (a' := ?_) #[true, true, true, false, false, false, false, false, false, false, false, false] rfl rfl (any_of HT_.out (by kernel_rfl)) (fun _ _ _ h => h) (Or.inl ⟨by rfl, ?_⟩) ?_ ?_
                    rotate_left
                    ·intro w'
                     go_simp
                     with_reducible rfl
                    rotate_left
                    ·simp only [Act.put, List.setIfInBounds_toArray, List.set_cons_zero, List.set_cons_succ, i64_w, i32_w]
                     rfl
                    refine pure_ (i := 3) (N := some 146) (v := ?_) (a' := ?_) #[true, true, true, true, false, false, false, false, false, false, false, false] rfl rfl (any_of HT_.out (by kernel_rfl)) (fun _ _ _ h => h) (Or.inl ⟨by rfl, ?_⟩) ?_ ?_
                    rotate_left
                    ·intro w'
                     go_simp
                     with_reducible rfl
                    rotate_left
                    ·simp only [Act.put, List.setIfInBounds_toArray, List.set_cons_zero, List.set_cons_succ, i64_w, i32_w]
                     rfl
                    refine pure_ (i := 4) (N := some 147) (v := ?_) (a' := ?_) #[true, true, true, true, true, false, false, false, false, false, false, false] rfl rfl (any_of HT_.out (by kernel_rfl)) (fun _ _ _ h => h) (Or.inl ⟨by rfl, ?_⟩) ?_ ?_
                    rotate_left
                    ·intro w'
                     go_simp
                     with_reducible rfl
                    rotate_left
                    ·simp only [Act.put, List.setIfInBounds_toArray, List.set_cons_zero, List.set_cons_succ, i64_w, i32_w]
                     rfl
                    refine take_ (i := 5) (N := some 148) (v := ?_) (a' := ?_) #[true, true, true, true, true, true, false, false, false, false, false, false] rfl rfl (take_ofW HT_.out HW_.out (by kernel_rfl)) (fun _ _ _ h => h) (Or.inl ⟨by rfl, ?_⟩) hHeld ?_ ?_
                    rotate_left
                    ·rintro w' ⟨s0, s1, s2⟩
                     go_simp
                     with_reducible rfl
                    rotate_left
                    ·simp only [Act.put, List.setIfInBounds_toArray, List.set_cons_zero, List.set_cons_succ, i64_w, i32_w]
                     rfl
                    refine one_ (i := 6) (N := some 149) #[true, true, true, true, true, true, true, false, false, false, false, false] rfl rfl (one_of HT_.out (by kernel_rfl)) (by decide) (fun K hK => ?_)
                    refine goes_ Try.func54 (by kernel_rfl) rfl #[.slice A150 y381.length c150, .slice A1 l1.length c1, .agg #[.int .i64 a2_0, .int .i64 a2_0, .slice A2_2 l2_2.length c2_2]] (by rfl) rfl rfl (by (try simp only [List.map_toArray, List.map_cons, List.map_nil]); first | done | rfl | (simp only [List.length_drop, List.length_take]; rfl)) ?_
                    with_reducible refine (ih kj8 (by have := HJ4.out; have := HJ8.out; omega) _ _ y381 _ _ l1 a2_0 a2_0 _ _ l2_2 t385 t386 _ ?side1 ?side2 ?side3 ?side4 ?side5 ?side6 A146.out).mono ?_
                    (case side1 => repeat (first | exact (Kd.C_below HR384.out HB.out) | (with_reducible refine Kd.C_alloc ?_ _) | (with_reducible refine Kd.C_drewN ?_ _) | (with_reducible refine Kd.C_drew ?_)))
                    (case side2 => exact HC384.out)
                    (case side3 => repeat (first | exact (Kd.C_below HR1.out HB.out) | (with_reducible refine Kd.C_alloc ?_ _) | (with_reducible refine Kd.C_drewN ?_ _) | (with_reducible refine Kd.C_drew ?_)))
                    (case side4 => exact HC1.out)
                    (case side5 => repeat (first | exact (Kd.C_below HR2_2.out HB.out) | (with_reducible refine Kd.C_alloc ?_ _) | (with_reducible refine Kd.C_drewN ?_ _) | (with_reducible refine Kd.C_drew ?_)))
                    (case side6 => exact HC2_2.out)
                    rintro e w151 ⟨rfl, hb⟩
                    refine ⟨_, rfl, ?_⟩
                    have n0_ := Aside0.mk (blk_below (g := gb299) (o := .cells #[.int .i64 a2_0, .int .i64 a2_0, .slice A2_2 l2_2.length c2_2] 98 (0, 0)) (by (with_reducible repeat (first | refine blk_drewN ?_ _ | refine blk_drew ?_ | refine blk_alloc ?_ _)); exact BK299.out) hb)
                    have n1_ := Aside0.mk (below_step (by repeat (first | (with_reducible first | exact HB.out | apply below_alloc | apply pw_below_drewN | apply below_drew1 | refine below_set ?_ GE299.out) | exact HB.out)) hb)
                    clear BK299
                    clear HB
                    have BK299 := n0_
                    have HB := n1_
                    clear n0_ n1_
                    (try clear hb)
                    (try clear hb2)
                    (try clear hk)
                    (try clear hi)
                    refine hK.out _ _ ⟨(blk_cell BK299.out 0).trans rfl, (blk_cell BK299.out 1).trans rfl, (blk_cell BK299.out 2).trans rfl⟩ (fun hHeld => ?_)
                    clear hK K
                    refine norm_ (a' := ?_) ?_ ?_
                    rotate_left
                    ·show Act.put _ (some 149) _ = _
                     simp only [Act.put, List.setIfInBounds_toArray, List.set_cons_zero, List.set_cons_succ, i64_w, i32_w]
                     rfl
                    refine pure_ (i := 7) (N := some 142) (v := ?_) (a' := ?_) #[true, true, true, true, true, true, true, true, false, false, false, false] rfl rfl (any_of HT_.out (by kernel_rfl)) (fun _ _ _ h => h) (Or.inl ⟨by rfl, ?_⟩) ?_ ?_
                    rotate_left
                    ·intro w'
                     go_simp
                     with_reducible rfl
                    rotate_left
                    ·simp only [Act.put, List.setIfInBounds_toArray, List.set_cons_zero, List.set_cons_succ, i64_w, i32_w]
                     rfl
                    refine pure_ (i := 8) (N := some 150) (v := ?_) (a' := ?_) #[true, true, true, true, true, true, true, true, true, false, false, false] rfl rfl (any_of HT_.out (by kernel_rfl)) (fun _ _ _ h => h) (Or.inl ⟨by rfl, ?_⟩) ?_ ?_
                    rotate_left
                    ·intro w'
                     go_simp
                     with_reducible rfl
                    rotate_left
                    ·simp only [Act.put, List.setIfInBounds_toArray, List.set_cons_zero, List.set_cons_succ, i64_w, i32_w]
                     rfl
                    refine pure_ (i := 9) (N := some 151) (v := ?_) (a' := ?_) #[true, true, true, true, true, true, true, true, true, true, false, false] rfl rfl (any_of HT_.out (by kernel_rfl)) (fun _ _ _ h => h) (Or.inl ⟨by rfl, ?_⟩) ?_ ?_
                    rotate_left
                    ·intro w'
                     go_simp
                     with_reducible rfl
                    rotate_left
                    ·simp only [Act.put, List.setIfInBounds_toArray, List.set_cons_zero, List.set_cons_succ, i64_w, i32_w]
                     rfl
                    refine pure_ (i := 10) (N := some 14) (v := ?_) (a' := ?_) #[true, true, true, true, true, true, true, true, true, true, true, false] rfl rfl (any_of HT_.out (by kernel_rfl)) (fun _ _ _ h => h) (Or.inl ⟨by rfl, ?_⟩) ?_ ?_
                    rotate_left
                    ·intro w'
                     go_simp
                     with_reducible rfl
                    rotate_left
                    ·simp only [Act.put, List.setIfInBounds_toArray, List.set_cons_zero, List.set_cons_succ, i64_w, i32_w]
                     rfl
                    refine pure_ (i := 11) (N := some 15) (v := ?_) (a' := ?_) #[true, true, true, true, true, true, true, true, true, true, true, true] rfl rfl (any_of HT_.out (by kernel_rfl)) (fun _ _ _ h => h) (Or.inl ⟨by rfl, ?_⟩) ?_ ?_
                    rotate_left
                    ·intro w'
                     go_simp
                     with_reducible rfl
                    rotate_left
                    ·simp only [Act.put, List.setIfInBounds_toArray, List.set_cons_zero, List.set_cons_succ, i64_w, i32_w]
                     rfl
                    refine done_ (done_of HT_.out (by kernel_rfl)) ?_
                    try go_wp2
                    go_ret2
                    exact ⟨by first | rfl | (simp [errW_none, errW_some] <;> rfl) | (simp only [← hji143]; first | rfl | (simp [errW_none, errW_some] <;> rfl)) | (simp [*, errW_none, errW_some] <;> rfl), by repeat (first | (with_reducible first | exact HB.out | apply below_alloc | apply pw_below_drewN | apply below_drew1 | refine below_set ?_ GE299.out) | exact HB.out)⟩
                   ·rw [if_neg c145] at H
                    exact absurd H (by simp)
                  ·rw [if_neg c144] at H
                   exact absurd H (by simp)
                 ·rw [if_neg c142] at H
                  have c142b0 : ((wrap64 ((rd_T54 l0 0).f0)) == 7) = false := beq_eq_false_iff_ne.mpr c142
                  have c142b1 : ((wrap64 ((rd_T54 l0 0).f0)) != 7) = true := bne_iff_ne.mpr c142
                  obtain ⟨ji152, hji152⟩ : ∃ j_ : Int, (wrap64 1) = j_ := ⟨_, rfl⟩
                  replace H : (if 0 ≤ (ji152) then (if (ji152) ≤ (l0.length : Int) then ((spec_l1go.f kj8 (l0.drop ((ji152) : Int).toNat) l1 a2_1 a2_1 l2_2).bind fun bt391 => (some (bt391.1, wrap64 (bt391.2 + 1)))) else (none)) else (none)) = some (r1, r2) := by first | (rw [hji152] at H; exact H) | (rw [show ((1 : Int) + 0) = 1 from rfl, hji152] at H; exact H) | (simp only [hji152] at H ⊢; exact H)
                  have hji152w : (IntKind.i64.wrap 1) = ji152 := (i64_w _).trans hji152
                  by_cases c153 : 0 ≤ (ji152)
                  ·rw [if_pos c153] at H
                   have c153b0 := eq_true c153
                   have c153b1 : decide (0 ≤ (ji152)) = true := decide_eq_true c153
                   clear c153
                   by_cases c154 : (ji152) ≤ (l0.length : Int)
                   ·rw [if_pos c154] at H
                    have c154b0 := eq_true c154
                    have c154b1 : decide ((ji152) ≤ (l0.length : Int)) = true := decide_eq_true c154
                    clear c154
                    obtain ⟨y387, hy387⟩ : ∃ y_ : List (S54), y_ = (l0.drop ((ji152) : Int).toNat) := ⟨_, rfl⟩
                    replace H : ((spec_l1go.f kj8 y387 l1 a2_1 a2_1 l2_2).bind fun bt391 => (some (bt391.1, wrap64 (bt391.2 + 1)))) = some (r1, r2) := by first | (rw [hy387]; with_reducible exact H) | (have H2_ := (Option.bind_some _ _).symm.trans H; rw [hy387]; with_reducible exact H2_) | (have H2_ := (Option.bind_some _ _).symm.trans H; with_reducible exact H2_) | with_reducible exact H | (rw [hy387]; exact H) | exact H
                    have Ny387 := Aside0.mk hy387
                    clear hy387
                    replace H := Option.bind_eq_some_iff.mp H
                    obtain ⟨⟨t391, t392⟩, A1550, H⟩ := H
                    replace H : (some (t391, wrap64 (t392 + 1))) = some (r1, r2) := H
                    have A155 := Aside0.mk A1550
                    clear A1550
                    simp only [Option.some.injEq, Prod.mk.injEq] at H
                    obtain ⟨rfl, rfl⟩ := H
                    have hcz156_0 : wc.cell? ⟨gb299, 0, none⟩ = some (.int .i64 a2_0) := (blk_cell BK299.out 0).trans rfl
                    have hcz156_1 : wc.cell? ⟨gb299, 1, none⟩ = some (.int .i64 a2_1) := (blk_cell BK299.out 1).trans rfl
                    have hcz156_2 : wc.cell? ⟨gb299, 2, none⟩ = some (.slice A2_2 l2_2.length c2_2) := (blk_cell BK299.out 2).trans rfl
                    have hfz156_0 := blk_frozen BK299.out 0
                    have hfz156_1 := blk_frozen BK299.out 1
                    have hfz156_2 := blk_frozen BK299.out 2
                    try go_wp2
                    have n0_ : Aside0 ((wc.setCell ⟨gb299, 0, none⟩ (.int .i64 a2_1)).heap[gb299]? = some (.cells #[.int .i64 a2_1, .int .i64 a2_1, .slice A2_2 l2_2.length c2_2] 98 (0, 0))) := ⟨by (with_reducible repeat (first | refine blk_drewN ?_ _ | refine blk_drew ?_ | refine blk_alloc ?_ _)); refine blk_put (cs := #[.int .i64 a2_0, .int .i64 a2_1, .slice A2_2 l2_2.length c2_2]) ?_ 0 _ rfl; (with_reducible repeat (first | refine blk_drewN ?_ _ | refine blk_drew ?_ | refine blk_alloc ?_ _)); exact BK299.out⟩
                    have n1_ : Aside0 (Below w.heap.size w (wc.setCell ⟨gb299, 0, none⟩ (.int .i64 a2_1))) := ⟨by repeat (first | (with_reducible first | exact HB.out | apply below_alloc | apply pw_below_drewN | apply below_drew1 | refine below_set ?_ GE299.out) | exact HB.out)⟩
                    (try clear BK299)
                    (try clear HB)
                    generalize (wc.setCell ⟨gb299, 0, none⟩ (.int .i64 a2_1)) = w157 at n0_ n1_ ⊢
                    have BK299 := n0_
                    have HB := n1_
                    clear n0_ n1_
                    have n0_ := Aside0.mk (blk_drew BK299.out)
                    have n1_ := Aside0.mk (below_drew1 HB.out)
                    clear BK299
                    clear HB
                    have BK299 := n0_
                    have HB := n1_
                    clear n0_ n1_
                    have q159 : ((ji152) : Int) ≤ ((l0.length : Int) : Int) := of_decide_eq_true (by first | (with_reducible assumption) | assumption)
                    obtain ⟨i0159, hi0159, _, hsz159, _⟩ := info_parts info54
                    have hroom159 : l0.length ≤ c0 := HC0.out
                    have hC159 : Kd.C k54 _ (some ad300) l0.length l0 := HR0.out
                    have q0159 : (0 : Int) ≤ ((ji152) : Int) := of_decide_eq_true (by first | (with_reducible assumption) | assumption)
                    have hcut159 := cut_from (P := Try.prog) 23 54 .i64 Try.underlying23 hi0159 4 hsz159 (some ad300) l0.length c0 (ji152) q0159 q159
                    have hr159 := Kd.C_drop (m := ((ji152) : Int).toNat) (c := c0) hC159 (by omega) hroom159
                    obtain ⟨A159, hA159⟩ : ∃ A1, A1 = (if c0 = ((ji152) : Int).toNat then (some ad300) else ((some ad300) : Option Addr).map (·.add (((ji152) : Int).toNat * 4))) := ⟨_, rfl⟩
                    obtain ⟨c159, hc159⟩ : ∃ c1, c1 = c0 - ((ji152) : Int).toNat := ⟨_, rfl⟩
                    have hy159 : y387.length = l0.length - ((ji152) : Int).toNat := (by rw [Ny387.out, List.length_drop] <;> omega)
                    rw [show (l0).drop ((ji152) : Int).toNat = y387 from Ny387.out.symm] at hr159
                    replace hr159 : Kd.C k54 _ A159 y387.length y387 := (by rw [hA159]; exact hr159)
                    rw [← hy159, ← hA159, ← hc159] at hcut159
                    have HR390 := Aside0.mk hr159
                    have HC390 := Aside0.mk (show y387.length ≤ c159 from by rw [hy159, hc159]; exact Nat.sub_le_sub_right hroom159 _)
                    clear hr159 hC159 hroom159 hi0159 hsz159 hc159
                    have KY159 := Aside0.mk hy159
                    have KA159 := Aside0.mk hA159
                    clear hy159 hA159
                    replace q159 := eq_true q159
                    refine start_ (n := 12) (S := fun w' => w'.cell? ⟨gb299, 0, none⟩ = some (.int .i64 a2_1) ∧ w'.cell? ⟨gb299, 1, none⟩ = some (.int .i64 a2_1) ∧ w'.cell? ⟨gb299, 2, none⟩ = some (.slice A2_2 l2_2.length c2_2)) (ds := []) #[false, false, false, false, false, false, false, false, false, false, false, false] (by kernel_rfl) rfl rfl ⟨(blk_cell BK299.out 0).trans rfl, (blk_cell BK299.out 1).trans rfl, (blk_cell BK299.out 2).trans rfl⟩ (fun hHeld => ?_); refine with_tabW spec_l1go.tab40 spec_l1go.bits40 (fun HT_ HW_ => ?_)
                    generalize w157.drew = w158 at BK299 HB HR390 hHeld ⊢
                    refine pure_ (i := 0) (N := some 143) (v := ?_) (a' := ?_) #[true, false, false, false, false, false, false, false, false, false, false, false] rfl rfl (any_of HT_.out (by kernel_rfl)) (fun _ _ _ h => h) (Or.inl ⟨by rfl, ?_⟩) ?_ ?_
                    rotate_left
                    ·intro w'
                     go_simp
                     with_reducible rfl
                    rotate_left
                    ·simp only [Act.put, List.setIfInBounds_toArray, List.set_cons_zero, List.set_cons_succ, i64_w, i32_w]
                     rfl
                    refine pure_ (i := 1) (N := some 144) (v := ?_) (a' := ?_) #[true, true, false, false, false, false, false, false, false, false, false, false] rfl rfl (any_of HT_.out (by kernel_rfl)) (fun _ _ _ h => h) (Or.inl ⟨by rfl, ?_⟩) ?_ ?_
                    rotate_left
                    ·intro w'
                     go_simp
                     with_reducible rfl
                    rotate_left
                    ·simp only [Act.put, List.setIfInBounds_toArray, List.set_cons_zero, List.set_cons_succ, i64_w, i32_w]
                     rfl
                    refine pure_ (i := 2) (N := some 145) (v := ?_) (a' := ?_) #[true, true, true, false, false, false, false, false, false, false, false, false] rfl rfl (any_of HT_.out (by kernel_rfl)) (fun _ _ _ h => h) (Or.inl ⟨by rfl, ?_⟩) ?_ ?_
                    rotate_left
                    ·intro w'
                     go_simp
                     with_reducible rfl
                    rotate_left
                    ·simp only [Act.put, List.setIfInBounds_toArray, List.set_cons_zero, List.set_cons_succ, i64_w, i32_w]
                     rfl
                    refine pure_ (i := 3) (N := some 146) (v := ?_) (a' := ?_) #[true, true, true, true, false, false, false, false, false, false, false, false] rfl rfl (any_of HT_.out (by kernel_rfl)) (fun _ _ _ h => h) (Or.inl ⟨by rfl, ?_⟩) ?_ ?_
                    rotate_left
                    ·intro w'
                     go_simp
                     with_reducible rfl
                    rotate_left
                    ·simp only [Act.put, List.setIfInBounds_toArray, List.set_cons_zero, List.set_cons_succ, i64_w, i32_w]
                     rfl
                    refine pure_ (i := 4) (N := some 147) (v := ?_) (a' := ?_) #[true, true, true, true, true, false, false, false, false, false, false, false] rfl rfl (any_of HT_.out (by kernel_rfl)) (fun _ _ _ h => h) (Or.inl ⟨by rfl, ?_⟩) ?_ ?_
                    rotate_left
                    ·intro w'
                     go_simp
                     with_reducible rfl
                    rotate_left
                    ·simp only [Act.put, List.setIfInBounds_toArray, List.set_cons_zero, List.set_cons_succ, i64_w, i32_w]
                     rfl
                    refine take_ (i := 5) (N := some 148) (v := ?_) (a' := ?_) #[true, true, true, true, true, true, false, false, false, false, false, false] rfl rfl (take_ofW HT_.out HW_.out (by kernel_rfl)) (fun _ _ _ h => h) (Or.inl ⟨by rfl, ?_⟩) hHeld ?_ ?_
                    rotate_left
                    ·rintro w' ⟨s0, s1, s2⟩
                     go_simp
                     with_reducible rfl
                    rotate_left
                    ·simp only [Act.put, List.setIfInBounds_toArray, List.set_cons_zero, List.set_cons_succ, i64_w, i32_w]
                     rfl
                    refine one_ (i := 6) (N := some 149) #[true, true, true, true, true, true, true, false, false, false, false, false] rfl rfl (one_of HT_.out (by kernel_rfl)) (by decide) (fun K hK => ?_)
                    refine goes_ Try.func54 (by kernel_rfl) rfl #[.slice A159 y387.length c159, .slice A1 l1.length c1, .agg #[.int .i64 a2_1, .int .i64 a2_1, .slice A2_2 l2_2.length c2_2]] (by rfl) rfl rfl (by (try simp only [List.map_toArray, List.map_cons, List.map_nil]); first | done | rfl | (simp only [List.length_drop, List.length_take]; rfl)) ?_
                    with_reducible refine (ih kj8 (by have := HJ4.out; have := HJ8.out; omega) _ _ y387 _ _ l1 a2_1 a2_1 _ _ l2_2 t391 t392 _ ?side1 ?side2 ?side3 ?side4 ?side5 ?side6 A155.out).mono ?_
                    (case side1 => repeat (first | exact (Kd.C_below HR390.out HB.out) | (with_reducible refine Kd.C_alloc ?_ _) | (with_reducible refine Kd.C_drewN ?_ _) | (with_reducible refine Kd.C_drew ?_)))
                    (case side2 => exact HC390.out)
                    (case side3 => repeat (first | exact (Kd.C_below HR1.out HB.out) | (with_reducible refine Kd.C_alloc ?_ _) | (with_reducible refine Kd.C_drewN ?_ _) | (with_reducible refine Kd.C_drew ?_)))
                    (case side4 => exact HC1.out)
                    (case side5 => repeat (first | exact (Kd.C_below HR2_2.out HB.out) | (with_reducible refine Kd.C_alloc ?_ _) | (with_reducible refine Kd.C_drewN ?_ _) | (with_reducible refine Kd.C_drew ?_)))
                    (case side6 => exact HC2_2.out)
                    rintro e w160 ⟨rfl, hb⟩
                    refine ⟨_, rfl, ?_⟩
                    have n0_ := Aside0.mk (blk_below (g := gb299) (o := .cells #[.int .i64 a2_1, .int .i64 a2_1, .slice A2_2 l2_2.length c2_2] 98 (0, 0)) (by (with_reducible repeat (first | refine blk_drewN ?_ _ | refine blk_drew ?_ | refine blk_alloc ?_ _)); exact BK299.out) hb)
                    have n1_ := Aside0.mk (below_step (by repeat (first | (with_reducible first | exact HB.out | apply below_alloc | apply pw_below_drewN | apply below_drew1 | refine below_set ?_ GE299.out) | exact HB.out)) hb)
                    clear BK299
                    clear HB
                    have BK299 := n0_
                    have HB := n1_
                    clear n0_ n1_
                    (try clear hb)
                    (try clear hb2)
                    (try clear hk)
                    (try clear hi)
                    refine hK.out _ _ ⟨(blk_cell BK299.out 0).trans rfl, (blk_cell BK299.out 1).trans rfl, (blk_cell BK299.out 2).trans rfl⟩ (fun hHeld => ?_)
                    clear hK K
                    refine norm_ (a' := ?_) ?_ ?_
                    rotate_left
                    ·show Act.put _ (some 149) _ = _
                     simp only [Act.put, List.setIfInBounds_toArray, List.set_cons_zero, List.set_cons_succ, i64_w, i32_w]
                     rfl
                    refine pure_ (i := 7) (N := some 142) (v := ?_) (a' := ?_) #[true, true, true, true, true, true, true, true, false, false, false, false] rfl rfl (any_of HT_.out (by kernel_rfl)) (fun _ _ _ h => h) (Or.inl ⟨by rfl, ?_⟩) ?_ ?_
                    rotate_left
                    ·intro w'
                     go_simp
                     with_reducible rfl
                    rotate_left
                    ·simp only [Act.put, List.setIfInBounds_toArray, List.set_cons_zero, List.set_cons_succ, i64_w, i32_w]
                     rfl
                    refine pure_ (i := 8) (N := some 150) (v := ?_) (a' := ?_) #[true, true, true, true, true, true, true, true, true, false, false, false] rfl rfl (any_of HT_.out (by kernel_rfl)) (fun _ _ _ h => h) (Or.inl ⟨by rfl, ?_⟩) ?_ ?_
                    rotate_left
                    ·intro w'
                     go_simp
                     with_reducible rfl
                    rotate_left
                    ·simp only [Act.put, List.setIfInBounds_toArray, List.set_cons_zero, List.set_cons_succ, i64_w, i32_w]
                     rfl
                    refine pure_ (i := 9) (N := some 151) (v := ?_) (a' := ?_) #[true, true, true, true, true, true, true, true, true, true, false, false] rfl rfl (any_of HT_.out (by kernel_rfl)) (fun _ _ _ h => h) (Or.inl ⟨by rfl, ?_⟩) ?_ ?_
                    rotate_left
                    ·intro w'
                     go_simp
                     with_reducible rfl
                    rotate_left
                    ·simp only [Act.put, List.setIfInBounds_toArray, List.set_cons_zero, List.set_cons_succ, i64_w, i32_w]
                     rfl
                    refine pure_ (i := 10) (N := some 14) (v := ?_) (a' := ?_) #[true, true, true, true, true, true, true, true, true, true, true, false] rfl rfl (any_of HT_.out (by kernel_rfl)) (fun _ _ _ h => h) (Or.inl ⟨by rfl, ?_⟩) ?_ ?_
                    rotate_left
                    ·intro w'
                     go_simp
                     with_reducible rfl
                    rotate_left
                    ·simp only [Act.put, List.setIfInBounds_toArray, List.set_cons_zero, List.set_cons_succ, i64_w, i32_w]
                     rfl
                    refine pure_ (i := 11) (N := some 15) (v := ?_) (a' := ?_) #[true, true, true, true, true, true, true, true, true, true, true, true] rfl rfl (any_of HT_.out (by kernel_rfl)) (fun _ _ _ h => h) (Or.inl ⟨by rfl, ?_⟩) ?_ ?_
                    rotate_left
                    ·intro w'
                     go_simp
                     with_reducible rfl
                    rotate_left
                    ·simp only [Act.put, List.setIfInBounds_toArray, List.set_cons_zero, List.set_cons_succ, i64_w, i32_w]
                     rfl
                    refine done_ (done_of HT_.out (by kernel_rfl)) ?_
                    try go_wp2
                    go_ret2
                    exact ⟨by first | rfl | (simp [errW_none, errW_some] <;> rfl) | (simp only [← hji152]; first | rfl | (simp [errW_none, errW_some] <;> rfl)) | (simp [*, errW_none, errW_some] <;> rfl), by repeat (first | (with_reducible first | exact HB.out | apply below_alloc | apply pw_below_drewN | apply below_drew1 | refine below_set ?_ GE299.out) | exact HB.out)⟩
                   ·rw [if_neg c154] at H
                    exact absurd H (by simp)
                  ·rw [if_neg c153] at H
                   exact absurd H (by simp)
 ·rw [if_neg c4] at H
  exact absurd H (by simp)

end Go.Proofs.Ytgodbniphkfgfaa.P
