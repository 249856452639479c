import Derived.Test.YtdipinclchkhjaaGFnNorm4
import Derived.Test.YtdipinclchkhjaaGFnNorm9
import Derived.Test.YtdipinclchkhjaaGFnNorm10
namespace Go.Proofs.Ytdipinclchkhjaa.P
open Go.RowKit Go.Proofs.YtdipinclchkhjaaW.PrintWords Go.Proofs.YtdipinclchkhjaaW.PrintLast Go.Proofs.YtdipinclchkhjaaW.PrintMore
attribute [local go_sem] max2_int min2_int max_two min_two max_three min_three max_four min_four   -- for this text's walks alone
set_option linter.unusedVariables false
set_option linter.unusedSimpArgs false

/-! ### spec_l3blockCon: function 104 -/
mutual
def spec_l3blockCon.j0 : Nat → Int → Int → Int → Bool → List Int → Int → Option (Int × Int × Int × Int)
  | 0, _, _, _, _, _, _ => none
  | k + 1, x5, x6, x7, x29, x1000, x1001 => if x29 = true then (spec_l3blockCon.j1 k x5 (IntKind.u64.wrap (x6 - 1)) x7 x1000 x1001) else (spec_l3blockCon.j1 k x5 x6 x7 x1000 x1001)
def spec_l3blockCon.j1 : Nat → Int → Int → Int → List Int → Int → Option (Int × Int × Int × Int)
  | 0, _, _, _, _, _ => none
  | k + 1, x5, x6, x7, x1000, x1001 => if x7 = 2 then (spec_l3blockCon.j2 k x5 x6 x7 (decide (x6 > x5)) x1000 x1001) else (spec_l3blockCon.j2 k x5 x6 x7 false x1000 x1001)
def spec_l3blockCon.j2 : Nat → Int → Int → Int → Bool → List Int → Int → Option (Int × Int × Int × Int)
  | 0, _, _, _, _, _, _ => none
  | k + 1, x5, x6, x7, x38, x1000, x1001 => if x38 = true then (if x7 = 3 then (if x6 < 18446744073709551615 then (some (2, IntKind.u64.wrap (x5 + 1), IntKind.u64.wrap (x6 + 1), x1001)) else (some (2, IntKind.u64.wrap (x5 + 1), x6, x1001))) else (some (2, IntKind.u64.wrap (x5 + 1), x6, x1001))) else (if x7 = 3 then (if x6 < 18446744073709551615 then (some (2, x5, IntKind.u64.wrap (x6 + 1), x1001)) else (some (2, x5, x6, x1001))) else (some (2, x5, x6, x1001)))
end
def spec_l3blockCon.f (k : Nat) (s0_0 : List Int) (s0_1 : Int) : Option (Int × Int × Int × Int) := (spec_l1rd_next.f s0_0 s0_1).bind fun bt804 => ((spec_l3low.f (Int.tmod bt804.1 65)).bind fun t806 => ((spec_l2drawArg.f s0_0 bt804.2).bind fun bt807 => ((spec_l1rd_next.f s0_0 bt807.2).bind fun bt809 => (if (Int.tmod bt809.1 6) = 1 then (spec_l3blockCon.j0 k (Go.bits .andNot .u64 bt807.1 t806) (Go.bits .or .u64 (Go.bits .andNot .u64 bt807.1 t806) t806) (Int.tmod bt809.1 6) (decide ((Go.bits .or .u64 (Go.bits .andNot .u64 bt807.1 t806) t806) > (Go.bits .andNot .u64 bt807.1 t806))) s0_0 bt809.2) else (spec_l3blockCon.j0 k (Go.bits .andNot .u64 bt807.1 t806) (Go.bits .or .u64 (Go.bits .andNot .u64 bt807.1 t806) t806) (Int.tmod bt809.1 6) false s0_0 bt809.2)))))
set_option maxHeartbeats 8000000 in
set_option maxRecDepth 100000 in
theorem spec_l3blockCon.calls (k : Nat) (g : Nat) (s0_0 : List Int) (s0_1 : Int) (r1 : Int) (r2 : Int) (r3 : Int) (r4 : Int) (w0 w : World) (hI : IsS175 w0 w g s0_0 s0_1) (hB : Below w0.heap.size w0 w) (h : spec_l3blockCon.f k s0_0 s0_1 = some (r1, r2, r3, r4)) :
    Calls Try.prog 104 #[.pointer (some ⟨g, 0, none⟩)] w fun e w' => e = .returned (.agg #[.int .i64 r1, .int .u64 r2, .int .u64 r3]) ∧ IsS175 w0 w' g s0_0 r4 ∧ Below w0.heap.size w0 w' ∧ KeepBut w w' g none := by
  have hu26 := Try.underlying26
  have HI0 := Aside0.mk hI
  have HK := Aside0.mk (KeepBut.refl w g none)
  have HL := Aside0.mk hB.size
  clear hI
  have HW0 := Aside0.mk hB.size
  have HB := Aside0.mk hB
  clear hB
  have H : ((spec_l1rd_next.f s0_0 s0_1).bind fun bt804 => ((spec_l3low.f (Int.tmod bt804.1 65)).bind fun t806 => ((spec_l2drawArg.f s0_0 bt804.2).bind fun bt807 => ((spec_l1rd_next.f s0_0 bt807.2).bind fun bt809 => (if (Int.tmod bt809.1 6) = 1 then (spec_l3blockCon.j0 k (Go.bits .andNot .u64 bt807.1 t806) (Go.bits .or .u64 (Go.bits .andNot .u64 bt807.1 t806) t806) (Int.tmod bt809.1 6) (decide ((Go.bits .or .u64 (Go.bits .andNot .u64 bt807.1 t806) t806) > (Go.bits .andNot .u64 bt807.1 t806))) s0_0 bt809.2) else (spec_l3blockCon.j0 k (Go.bits .andNot .u64 bt807.1 t806) (Go.bits .or .u64 (Go.bits .andNot .u64 bt807.1 t806) t806) (Int.tmod bt809.1 6) false s0_0 bt809.2)))))) = some (r1, r2, r3, r4) := h
  clear h
  replace H := Option.bind_eq_some_iff.mp H
  obtain ⟨⟨t804, t805⟩, A20, H⟩ := H
  replace H : ((spec_l3low.f (Int.tmod t804 65)).bind fun t806 => ((spec_l2drawArg.f s0_0 t805).bind fun bt807 => ((spec_l1rd_next.f s0_0 bt807.2).bind fun bt809 => (if (Int.tmod bt809.1 6) = 1 then (spec_l3blockCon.j0 k (Go.bits .andNot .u64 bt807.1 t806) (Go.bits .or .u64 (Go.bits .andNot .u64 bt807.1 t806) t806) (Int.tmod bt809.1 6) (decide ((Go.bits .or .u64 (Go.bits .andNot .u64 bt807.1 t806) t806) > (Go.bits .andNot .u64 bt807.1 t806))) s0_0 bt809.2) else (spec_l3blockCon.j0 k (Go.bits .andNot .u64 bt807.1 t806) (Go.bits .or .u64 (Go.bits .andNot .u64 bt807.1 t806) t806) (Int.tmod bt809.1 6) false s0_0 bt809.2))))) = some (r1, r2, r3, r4) := H
  have A2 := Aside0.mk A20
  clear A20
  replace H := Option.bind_eq_some_iff.mp H
  obtain ⟨t806, A30, H⟩ := H
  replace H : ((spec_l2drawArg.f s0_0 t805).bind fun bt807 => ((spec_l1rd_next.f s0_0 bt807.2).bind fun bt809 => (if (Int.tmod bt809.1 6) = 1 then (spec_l3blockCon.j0 k (Go.bits .andNot .u64 bt807.1 t806) (Go.bits .or .u64 (Go.bits .andNot .u64 bt807.1 t806) t806) (Int.tmod bt809.1 6) (decide ((Go.bits .or .u64 (Go.bits .andNot .u64 bt807.1 t806) t806) > (Go.bits .andNot .u64 bt807.1 t806))) s0_0 bt809.2) else (spec_l3blockCon.j0 k (Go.bits .andNot .u64 bt807.1 t806) (Go.bits .or .u64 (Go.bits .andNot .u64 bt807.1 t806) t806) (Int.tmod bt809.1 6) false s0_0 bt809.2)))) = some (r1, r2, r3, r4) := H
  have A3 := Aside0.mk A30
  clear A30
  replace H := Option.bind_eq_some_iff.mp H
  obtain ⟨⟨t807, t808⟩, A40, H⟩ := H
  replace H : ((spec_l1rd_next.f s0_0 t808).bind fun bt809 => (if (Int.tmod bt809.1 6) = 1 then (spec_l3blockCon.j0 k (Go.bits .andNot .u64 t807 t806) (Go.bits .or .u64 (Go.bits .andNot .u64 t807 t806) t806) (Int.tmod bt809.1 6) (decide ((Go.bits .or .u64 (Go.bits .andNot .u64 t807 t806) t806) > (Go.bits .andNot .u64 t807 t806))) s0_0 bt809.2) else (spec_l3blockCon.j0 k (Go.bits .andNot .u64 t807 t806) (Go.bits .or .u64 (Go.bits .andNot .u64 t807 t806) t806) (Int.tmod bt809.1 6) false s0_0 bt809.2))) = some (r1, r2, r3, r4) := H
  have A4 := Aside0.mk A40
  clear A40
  replace H := Option.bind_eq_some_iff.mp H
  obtain ⟨⟨t809, t810⟩, A50, H⟩ := H
  replace H : (if (Int.tmod t809 6) = 1 then (spec_l3blockCon.j0 k (Go.bits .andNot .u64 t807 t806) (Go.bits .or .u64 (Go.bits .andNot .u64 t807 t806) t806) (Int.tmod t809 6) (decide ((Go.bits .or .u64 (Go.bits .andNot .u64 t807 t806) t806) > (Go.bits .andNot .u64 t807 t806))) s0_0 t810) else (spec_l3blockCon.j0 k (Go.bits .andNot .u64 t807 t806) (Go.bits .or .u64 (Go.bits .andNot .u64 t807 t806) t806) (Int.tmod t809 6) false s0_0 t810)) = some (r1, r2, r3, r4) := H
  have A5 := Aside0.mk A50
  clear A50
  have HC6 := Aside0.mk H
  clear H
  go_enter Try.func104, Try.ntmps104
  go_upto_region 6 with (first | ((with_reducible refine gate_dst (N := 2) rfl ?_); refine box_event ?hg (N := 2) ?hd (cs := #[.int .i64 0, .int .u64 0, .int .u64 0]) (t := 26) ?hr ?_; (case hd => rfl); (case hg => rfl); (case hr => first | (go_simp; done) | (go_simp; rfl)); intro gb803 hg w7 hbox hb; have n0_ := Aside0.mk (IsS175.below (by repeat (first | (with_reducible first | exact HI0.out | apply IsS175.alloc | apply IsS175.drewN | apply IsS175.drew | apply IsS175.set_1) | exact HI0.out)) hb); have n1_ := Aside0.mk (KeepBut.trans (by repeat (first | (with_reducible first | exact HK.out | apply KeepBut.set_ | apply keep_drewN | apply keep_drew | apply keep_alloc) | exact HK.out)) (KeepBut.of_below hb g none) (.inl rfl)); have n2_ := Aside0.mk (below_step (by repeat (first | (with_reducible first | exact HB.out | apply below_alloc | apply pw_below_drewN | apply below_drew1 | refine below_set ?_ (IsS175.ge HI0.out)) | exact HB.out)) hb); have n3_ := Aside0.mk (hbox); have n4_ := Aside0.mk ((by rw [hg]; exact (keep_size (w := w) (g := g) (row := none) (by repeat (first | (with_reducible first | exact HK.out | apply KeepBut.set_ | apply keep_drewN | apply keep_drew | apply keep_alloc) | exact HK.out))) : w.heap.size ≤ gb803)); have n5_ := Aside0.mk ((Nat.le_trans HW0.out (by rw [hg]; exact (keep_size (w := w) (g := g) (row := none) (by repeat (first | (with_reducible first | exact HK.out | apply KeepBut.set_ | apply keep_drewN | apply keep_drew | apply keep_alloc) | exact HK.out))) : w.heap.size ≤ gb803) : w0.heap.size ≤ gb803)); have n6_ := Aside0.mk ((by rw [hg]; exact Nat.ne_of_lt (IsS175.lt (show IsS175 w0 _ g s0_0 s0_1 from by repeat (first | (with_reducible first | exact HI0.out | apply IsS175.alloc | apply IsS175.drewN | apply IsS175.drew | apply IsS175.set_1) | exact HI0.out))) : g ≠ gb803)); have n7_ := Aside0.mk ((by rw [hg]; exact Nat.ne_of_gt (IsS175.lt (show IsS175 w0 _ g s0_0 s0_1 from by repeat (first | (with_reducible first | exact HI0.out | apply IsS175.alloc | apply IsS175.drewN | apply IsS175.drew | apply IsS175.set_1) | exact HI0.out))) : gb803 ≠ g)); clear HI0; clear HK; clear HB; have HI0 := n0_; have HK := n1_; have HB := n2_; have BK803 := n3_; have GW803 := n4_; have GE803 := n5_; have NB0_803 := n6_; have NB803_0 := n7_; clear n0_ n1_ n2_ n3_ n4_ n5_ n6_ n7_; clear hb hbox hg) | ((with_reducible refine gate_callee (f := 83) rfl ?_); refine goesL_ (some 9) rfl rfl Try.func83 (by kernel_rfl) rfl #[.pointer (some ⟨g, 0, none⟩)] rfl (by (try simp only [List.map_toArray, List.map_cons, List.map_nil]); first | done | rfl | (simp only [List.length_drop, List.length_take]; rfl)) ?_; (with_reducible refine (spec_l1rd_next.calls g s0_0 s0_1 t804 t805 w0 _ ?side1 ?side2 A2.out).mono ?_); (case side1 => repeat (first | (with_reducible first | exact HI0.out | apply IsS175.alloc | apply IsS175.drewN | apply IsS175.drew | apply IsS175.set_1 | refine IsS175.far ?_ NB0_803.out _) | exact HI0.out)); (case side2 => repeat (first | (with_reducible first | exact HB.out | apply below_alloc | apply pw_below_drewN | apply below_drew1 | refine below_set ?_ (IsS175.ge HI0.out) | refine below_set ?_ GE803.out) | exact HB.out)); rintro e w8 ⟨rfl, hi, hb, hk⟩; refine ⟨_, rfl, ?_⟩; have n0_ := Aside0.mk (KeepBut.blk hk (g' := gb803) (o := .cells #[.int .i64 0, .int .u64 0, .int .u64 0] 26 (0, 0)) (by (with_reducible repeat (first | refine blk_drewN ?_ _ | refine blk_drew ?_ | refine blk_alloc ?_ _)); exact BK803.out) NB803_0.out (by simp)); have n1_ := Aside0.mk (KeepBut.trans (by repeat (first | (with_reducible first | exact HK.out | apply KeepBut.set_ | apply keep_drewN | apply keep_drew | apply keep_alloc | refine keep_far ?_ GW803.out _) | exact HK.out)) hk (.inl rfl)); have n2_ := Aside0.mk (hb); have n3_ := Aside0.mk (hi); clear BK803; clear HK; clear HB; clear HI0; have BK803 := n0_; have HK := n1_; have HB := n2_; have HI0 := n3_; clear n0_ n1_ n2_ n3_; (try clear hb); (try clear hb2); (try clear hk); (try clear hi)) | ((with_reducible refine gate_callee (f := 86) rfl ?_); refine goesL_ (some 12) rfl rfl Try.func86 (by kernel_rfl) rfl #[.int .i64 (Int.tmod t804 65)] rfl (by (try simp only [List.map_toArray, List.map_cons, List.map_nil]); first | done | rfl | (simp only [List.length_drop, List.length_take]; rfl)) ?_; (with_reducible refine (spec_l3low.calls (Int.tmod t804 65) t806 _ A3.out).mono ?_); rintro e w' ⟨rfl, ⟨nd, rfl⟩⟩; refine ⟨_, rfl, ?_⟩) | ((with_reducible refine gate_callee (f := 84) rfl ?_); refine goesL_ (some 14) rfl rfl Try.func84 (by kernel_rfl) rfl #[.pointer (some ⟨g, 0, none⟩)] rfl (by (try simp only [List.map_toArray, List.map_cons, List.map_nil]); first | done | rfl | (simp only [List.length_drop, List.length_take]; rfl)) ?_; (with_reducible refine (spec_l2drawArg.calls g s0_0 t805 t807 t808 w0 _ ?side1 ?side2 A4.out).mono ?_); (case side1 => repeat (first | (with_reducible first | exact HI0.out | apply IsS175.alloc | apply IsS175.drewN | apply IsS175.drew | apply IsS175.set_1 | refine IsS175.far ?_ NB0_803.out _) | exact HI0.out)); (case side2 => repeat (first | (with_reducible first | exact HB.out | apply below_alloc | apply pw_below_drewN | apply below_drew1 | refine below_set ?_ (IsS175.ge HI0.out) | refine below_set ?_ GE803.out) | exact HB.out)); rintro e w9 ⟨rfl, hi, hb, hk⟩; refine ⟨_, rfl, ?_⟩; have n0_ := Aside0.mk (KeepBut.blk hk (g' := gb803) (o := .cells #[.int .i64 0, .int .u64 0, .int .u64 0] 26 (0, 0)) (by (with_reducible repeat (first | refine blk_drewN ?_ _ | refine blk_drew ?_ | refine blk_alloc ?_ _)); exact BK803.out) NB803_0.out (by simp)); have n1_ := Aside0.mk (KeepBut.trans (by repeat (first | (with_reducible first | exact HK.out | apply KeepBut.set_ | apply keep_drewN | apply keep_drew | apply keep_alloc | refine keep_far ?_ GW803.out _) | exact HK.out)) hk (.inl rfl)); have n2_ := Aside0.mk (hb); have n3_ := Aside0.mk (hi); clear BK803; clear HK; clear HB; clear HI0; have BK803 := n0_; have HK := n1_; have HB := n2_; have HI0 := n3_; clear n0_ n1_ n2_ n3_; (try clear hb); (try clear hb2); (try clear hk); (try clear hi)) | ((with_reducible refine gate_callee (f := 83) rfl ?_); refine goesL_ (some 21) rfl rfl Try.func83 (by kernel_rfl) rfl #[.pointer (some ⟨g, 0, none⟩)] rfl (by (try simp only [List.map_toArray, List.map_cons, List.map_nil]); first | done | rfl | (simp only [List.length_drop, List.length_take]; rfl)) ?_; (with_reducible refine (spec_l1rd_next.calls g s0_0 t808 t809 t810 w0 _ ?side1 ?side2 A5.out).mono ?_); (case side1 => repeat (first | (with_reducible first | exact HI0.out | apply IsS175.alloc | apply IsS175.drewN | apply IsS175.drew | apply IsS175.set_1 | refine IsS175.far ?_ NB0_803.out _) | exact HI0.out)); (case side2 => repeat (first | (with_reducible first | exact HB.out | apply below_alloc | apply pw_below_drewN | apply below_drew1 | refine below_set ?_ (IsS175.ge HI0.out) | refine below_set ?_ GE803.out) | exact HB.out)); rintro e w10 ⟨rfl, hi, hb, hk⟩; refine ⟨_, rfl, ?_⟩; have n0_ := Aside0.mk (KeepBut.blk hk (g' := gb803) (o := .cells #[.int .i64 0, .int .u64 0, .int .u64 0] 26 (0, 0)) (by (with_reducible repeat (first | refine blk_drewN ?_ _ | refine blk_drew ?_ | refine blk_alloc ?_ _)); exact BK803.out) NB803_0.out (by simp)); have n1_ := Aside0.mk (KeepBut.trans (by repeat (first | (with_reducible first | exact HK.out | apply KeepBut.set_ | apply keep_drewN | apply keep_drew | apply keep_alloc | refine keep_far ?_ GW803.out _) | exact HK.out)) hk (.inl rfl)); have n2_ := Aside0.mk (hb); have n3_ := Aside0.mk (hi); clear BK803; clear HK; clear HB; clear HI0; have BK803 := n0_; have HK := n1_; have HB := n2_; have HI0 := n3_; clear n0_ n1_ n2_ n3_; (try clear hb); (try clear hb2); (try clear hk); (try clear hi)))
  (try simp only [Act.put, List.setIfInBounds_toArray, List.set_cons_zero, List.set_cons_succ])
  go_cut [29] (fun v29 wc => ∃ (kq : Nat) (x29_5 : Bool), v29 = .bool x29_5 ∧ Aside0 (spec_l3blockCon.j0 kq (Go.bits .andNot .u64 t807 t806) (Go.bits .or .u64 (Go.bits .andNot .u64 t807 t806) t806) (Int.tmod t809 6) x29_5 s0_0 t810 = some (r1, r2, r3, r4)) ∧ Aside0 (kq ≤ k) ∧ Aside0 (wc.heap[gb803]? = some (.cells #[.int .i64 0, .int .u64 0, .int .u64 0] 26 (0, 0))) ∧ Aside0 (IsS175 w0 wc g s0_0 t810) ∧ Aside0 (KeepBut w wc g none) ∧ Aside0 (Below w0.heap.size w0 wc))
  case first =>
    have H := HC6.out
    clear HC6
    by_cases c11 : (Int.tmod t809 6) = 1
    · rw [if_pos c11] at H
      have c11b0 : ((Int.tmod t809 6) == 1) = true := beq_iff_eq.mpr c11
      have c11b1 : ((Int.tmod t809 6) != 1) = false := bne_eq_false_iff_eq.mpr c11
      clear c11
      (first | rw [c11b0] | (simp only [i64_w, i32_w]; rw [c11b0]) | skip)
      have H' := Aside0.mk H
      clear H
      go_wp2
      go_meet
      case rel => exact ⟨_, (decide ((Go.bits .or .u64 (Go.bits .andNot .u64 t807 t806) t806) > (Go.bits .andNot .u64 t807 t806))), (by first | rfl | (simp; done) | (simp [*]; done)), H', ⟨by first | omega | exact Nat.le_refl _⟩, ⟨by (with_reducible repeat (first | refine blk_drewN ?_ _ | refine blk_drew ?_ | refine blk_alloc ?_ _)); exact BK803.out⟩, ⟨by repeat (first | (with_reducible first | exact HI0.out | apply IsS175.alloc | apply IsS175.drewN | apply IsS175.drew | apply IsS175.set_1 | refine IsS175.far ?_ NB0_803.out _) | exact HI0.out)⟩, ⟨by repeat (first | (with_reducible first | exact HK.out | apply KeepBut.set_ | apply keep_drewN | apply keep_drew | apply keep_alloc | refine keep_far ?_ GW803.out _) | exact HK.out)⟩, ⟨by repeat (first | (with_reducible first | exact HB.out | apply below_alloc | apply pw_below_drewN | apply below_drew1 | refine below_set ?_ (IsS175.ge HI0.out) | refine below_set ?_ GE803.out) | exact HB.out)⟩⟩
    · rw [if_neg c11] at H
      have c11b0 : ((Int.tmod t809 6) == 1) = false := beq_eq_false_iff_ne.mpr c11
      have c11b1 : ((Int.tmod t809 6) != 1) = true := bne_iff_ne.mpr c11
      (first | rw [c11b0] | (simp only [i64_w, i32_w]; rw [c11b0]) | skip)
      have H' := Aside0.mk H
      clear H
      go_wp2
      go_meet
      case rel => exact ⟨_, (false), (by first | rfl | (simp; done) | (simp [*]; done)), H', ⟨by first | omega | exact Nat.le_refl _⟩, ⟨by (with_reducible repeat (first | refine blk_drewN ?_ _ | refine blk_drew ?_ | refine blk_alloc ?_ _)); exact BK803.out⟩, ⟨by repeat (first | (with_reducible first | exact HI0.out | apply IsS175.alloc | apply IsS175.drewN | apply IsS175.drew | apply IsS175.set_1 | refine IsS175.far ?_ NB0_803.out _) | exact HI0.out)⟩, ⟨by repeat (first | (with_reducible first | exact HK.out | apply KeepBut.set_ | apply keep_drewN | apply keep_drew | apply keep_alloc | refine keep_far ?_ GW803.out _) | exact HK.out)⟩, ⟨by repeat (first | (with_reducible first | exact HB.out | apply below_alloc | apply pw_below_drewN | apply below_drew1 | refine below_set ?_ (IsS175.ge HI0.out) | refine below_set ?_ GE803.out) | exact HB.out)⟩⟩
  case rest =>
    clear HC6
    try clear c1
    try clear p2
    try clear c8
    try clear c10
    try clear c11
    try clear c11b0
    try clear c11b1
    obtain ⟨kq, x29_5, rfl, HA, HJ5, BK803, HI0, HK, HB⟩ := hcut
    cases kq with
    | zero => exact absurd HA.out (by simp [spec_l3blockCon.j0])
    | succ kj5 =>
      have H := HA.out
      clear HA
      simp only [spec_l3blockCon.j0] at H
      have HC12 := Aside0.mk H
      clear H
      go_upto_if 29 with (fail)
      go_cut [6] (fun v6 wc => ∃ (kq : Nat) (x6_11 : Int), v6 = .int .u64 x6_11 ∧ Aside0 (spec_l3blockCon.j1 kq (Go.bits .andNot .u64 t807 t806) x6_11 (Int.tmod t809 6) s0_0 t810 = some (r1, r2, r3, r4)) ∧ Aside0 (kq ≤ kj5) ∧ Aside0 (wc.heap[gb803]? = some (.cells #[.int .i64 0, .int .u64 0, .int .u64 0] 26 (0, 0))) ∧ Aside0 (IsS175 w0 wc g s0_0 t810) ∧ Aside0 (KeepBut w wc g none) ∧ Aside0 (Below w0.heap.size w0 wc))
      case first =>
        have H := HC12.out
        clear HC12
        by_cases c13 : x29_5 = true
        · subst c13
          have H1 : (spec_l3blockCon.j1 kj5 (Go.bits .andNot .u64 t807 t806) (IntKind.u64.wrap ((Go.bits .or .u64 (Go.bits .andNot .u64 t807 t806) t806) - 1)) (Int.tmod t809 6) s0_0 t810) = some (r1, r2, r3, r4) := by rw [if_pos rfl] at H; exact H
          clear H
          have H := H1
          clear H1
          have H' := Aside0.mk H
          clear H
          go_wp2
          go_meet
          case rel => exact ⟨_, (IntKind.u64.wrap ((Go.bits .or .u64 (Go.bits .andNot .u64 t807 t806) t806) - 1)), (by first | rfl | (simp; done) | (simp [*]; done)), H', ⟨by have := HJ5.out; first | omega | exact Nat.le_refl _⟩, ⟨by (with_reducible repeat (first | refine blk_drewN ?_ _ | refine blk_drew ?_ | refine blk_alloc ?_ _)); exact BK803.out⟩, ⟨by repeat (first | (with_reducible first | exact HI0.out | apply IsS175.alloc | apply IsS175.drewN | apply IsS175.drew | apply IsS175.set_1 | refine IsS175.far ?_ NB0_803.out _) | exact HI0.out)⟩, ⟨by repeat (first | (with_reducible first | exact HK.out | apply KeepBut.set_ | apply keep_drewN | apply keep_drew | apply keep_alloc | refine keep_far ?_ GW803.out _) | exact HK.out)⟩, ⟨by repeat (first | (with_reducible first | exact HB.out | apply below_alloc | apply pw_below_drewN | apply below_drew1 | refine below_set ?_ (IsS175.ge HI0.out) | refine below_set ?_ GE803.out) | exact HB.out)⟩⟩
        · replace c13 := Bool.eq_false_iff.mpr c13
          subst c13
          have H1 : (spec_l3blockCon.j1 kj5 (Go.bits .andNot .u64 t807 t806) (Go.bits .or .u64 (Go.bits .andNot .u64 t807 t806) t806) (Int.tmod t809 6) s0_0 t810) = some (r1, r2, r3, r4) := by rw [if_neg (show ¬ (false = true) by decide)] at H; exact H
          clear H
          have H := H1
          clear H1
          have H' := Aside0.mk H
          clear H
          go_wp2
          go_meet
          case rel => exact ⟨_, ((Go.bits .or .u64 (Go.bits .andNot .u64 t807 t806) t806)), (by first | rfl | (simp; done) | (simp [*]; done)), H', ⟨by have := HJ5.out; first | omega | exact Nat.le_refl _⟩, ⟨by (with_reducible repeat (first | refine blk_drewN ?_ _ | refine blk_drew ?_ | refine blk_alloc ?_ _)); exact BK803.out⟩, ⟨by repeat (first | (with_reducible first | exact HI0.out | apply IsS175.alloc | apply IsS175.drewN | apply IsS175.drew | apply IsS175.set_1 | refine IsS175.far ?_ NB0_803.out _) | exact HI0.out)⟩, ⟨by repeat (first | (with_reducible first | exact HK.out | apply KeepBut.set_ | apply keep_drewN | apply keep_drew | apply keep_alloc | refine keep_far ?_ GW803.out _) | exact HK.out)⟩, ⟨by repeat (first | (with_reducible first | exact HB.out | apply below_alloc | apply pw_below_drewN | apply below_drew1 | refine below_set ?_ (IsS175.ge HI0.out) | refine below_set ?_ GE803.out) | exact HB.out)⟩⟩
      case rest =>
        clear HC12
        try clear c1
        try clear p2
        try clear c8
        try clear c10
        try clear c11
        try clear c11b0
        try clear c11b1
        try clear c13
        try clear p2
        obtain ⟨kq, x6_11, rfl, HA, HJ11, BK803, HI0, HK, HB⟩ := hcut
        cases kq with
        | zero => exact absurd HA.out (by simp [spec_l3blockCon.j1])
        | succ kj11 =>
          have H := HA.out
          clear HA
          simp only [spec_l3blockCon.j1] at H
          have HC14 := Aside0.mk H
          clear H
          go_upto_region 8 with (fail)
          go_cut [38] (fun v38 wc => ∃ (kq : Nat) (x38_13 : Bool), v38 = .bool x38_13 ∧ Aside0 (spec_l3blockCon.j2 kq (Go.bits .andNot .u64 t807 t806) x6_11 (Int.tmod t809 6) x38_13 s0_0 t810 = some (r1, r2, r3, r4)) ∧ Aside0 (kq ≤ kj11) ∧ Aside0 (wc.heap[gb803]? = some (.cells #[.int .i64 0, .int .u64 0, .int .u64 0] 26 (0, 0))) ∧ Aside0 (IsS175 w0 wc g s0_0 t810) ∧ Aside0 (KeepBut w wc g none) ∧ Aside0 (Below w0.heap.size w0 wc))
          case first =>
            have H := HC14.out
            clear HC14
            by_cases c15 : (Int.tmod t809 6) = 2
            · rw [if_pos c15] at H
              have c15b0 : ((Int.tmod t809 6) == 2) = true := beq_iff_eq.mpr c15
              have c15b1 : ((Int.tmod t809 6) != 2) = false := bne_eq_false_iff_eq.mpr c15
              clear c15
              (first | rw [c15b0] | (simp only [i64_w, i32_w]; rw [c15b0]) | skip)
              have H' := Aside0.mk H
              clear H
              go_wp2
              go_meet
              case rel => exact ⟨_, (decide (x6_11 > (Go.bits .andNot .u64 t807 t806))), (by first | rfl | (simp; done) | (simp [*]; done)), H', ⟨by have := HJ5.out; have := HJ11.out; first | omega | exact Nat.le_refl _⟩, ⟨by (with_reducible repeat (first | refine blk_drewN ?_ _ | refine blk_drew ?_ | refine blk_alloc ?_ _)); exact BK803.out⟩, ⟨by repeat (first | (with_reducible first | exact HI0.out | apply IsS175.alloc | apply IsS175.drewN | apply IsS175.drew | apply IsS175.set_1 | refine IsS175.far ?_ NB0_803.out _) | exact HI0.out)⟩, ⟨by repeat (first | (with_reducible first | exact HK.out | apply KeepBut.set_ | apply keep_drewN | apply keep_drew | apply keep_alloc | refine keep_far ?_ GW803.out _) | exact HK.out)⟩, ⟨by repeat (first | (with_reducible first | exact HB.out | apply below_alloc | apply pw_below_drewN | apply below_drew1 | refine below_set ?_ (IsS175.ge HI0.out) | refine below_set ?_ GE803.out) | exact HB.out)⟩⟩
            · rw [if_neg c15] at H
              have c15b0 : ((Int.tmod t809 6) == 2) = false := beq_eq_false_iff_ne.mpr c15
              have c15b1 : ((Int.tmod t809 6) != 2) = true := bne_iff_ne.mpr c15
              (first | rw [c15b0] | (simp only [i64_w, i32_w]; rw [c15b0]) | skip)
              have H' := Aside0.mk H
              clear H
              go_wp2
              go_meet
              case rel => exact ⟨_, (false), (by first | rfl | (simp; done) | (simp [*]; done)), H', ⟨by have := HJ5.out; have := HJ11.out; first | omega | exact Nat.le_refl _⟩, ⟨by (with_reducible repeat (first | refine blk_drewN ?_ _ | refine blk_drew ?_ | refine blk_alloc ?_ _)); exact BK803.out⟩, ⟨by repeat (first | (with_reducible first | exact HI0.out | apply IsS175.alloc | apply IsS175.drewN | apply IsS175.drew | apply IsS175.set_1 | refine IsS175.far ?_ NB0_803.out _) | exact HI0.out)⟩, ⟨by repeat (first | (with_reducible first | exact HK.out | apply KeepBut.set_ | apply keep_drewN | apply keep_drew | apply keep_alloc | refine keep_far ?_ GW803.out _) | exact HK.out)⟩, ⟨by repeat (first | (with_reducible first | exact HB.out | apply below_alloc | apply pw_below_drewN | apply below_drew1 | refine below_set ?_ (IsS175.ge HI0.out) | refine below_set ?_ GE803.out) | exact HB.out)⟩⟩
          case rest =>
            clear HC14
            try clear c1
            try clear p2
            try clear c8
            try clear c10
            try clear c11
            try clear c11b0
            try clear c11b1
            try clear c13
            try clear c15
            try clear c15b0
            try clear c15b1
            try clear p2
            obtain ⟨kq, x38_13, rfl, HA, HJ13, BK803, HI0, HK, HB⟩ := hcut
            cases kq with
            | zero => exact absurd HA.out (by simp [spec_l3blockCon.j2])
            | succ kj13 =>
              have H := HA.out
              clear HA
              simp only [spec_l3blockCon.j2] at H
              by_cases c16 : x38_13 = true
              · subst c16
                have H1 : (if (Int.tmod t809 6) = 3 then (if x6_11 < 18446744073709551615 then (some (2, IntKind.u64.wrap ((Go.bits .andNot .u64 t807 t806) + 1), IntKind.u64.wrap (x6_11 + 1), t810)) else (some (2, IntKind.u64.wrap ((Go.bits .andNot .u64 t807 t806) + 1), x6_11, t810))) else (some (2, IntKind.u64.wrap ((Go.bits .andNot .u64 t807 t806) + 1), x6_11, t810))) = some (r1, r2, r3, r4) := by rw [if_pos rfl] at H; exact H
                clear H
                have H := H1
                clear H1
                by_cases c17 : (Int.tmod t809 6) = 3
                · rw [if_pos c17] at H
                  have c17b0 : ((Int.tmod t809 6) == 3) = true := beq_iff_eq.mpr c17
                  have c17b1 : ((Int.tmod t809 6) != 3) = false := bne_eq_false_iff_eq.mpr c17
                  clear c17
                  by_cases c18 : x6_11 < 18446744073709551615
                  · rw [if_pos c18] at H
                    have c18b0 : decide (x6_11 < 18446744073709551615) = true := decide_eq_true c18
                    clear c18
                    simp only [Option.some.injEq, Prod.mk.injEq] at H
                    obtain ⟨rfl, rfl, rfl, rfl⟩ := H
                    have hnb19 := NB803_0.out
                    have hnc19 := NB0_803.out
                    have hcz20_0 : wc.cell? ⟨gb803, 0, none⟩ = some (.int .i64 0) := (blk_cell BK803.out 0).trans rfl
                    have hcz20_1 : wc.cell? ⟨gb803, 1, none⟩ = some (.int .u64 0) := (blk_cell BK803.out 1).trans rfl
                    have hcz20_2 : wc.cell? ⟨gb803, 2, none⟩ = some (.int .u64 0) := (blk_cell BK803.out 2).trans rfl
                    have hfz20_0 := blk_frozen BK803.out 0
                    have hfz20_1 := blk_frozen BK803.out 1
                    have hfz20_2 := blk_frozen BK803.out 2
                    go_wp2
                    refine bodyPost_ret (results_cell_row rfl _ _ gb803 26 #[.int .i64 2, .int .u64 (IntKind.u64.wrap ((Go.bits .andNot .u64 t807 t806) + 1)), .int .u64 (IntKind.u64.wrap (x6_11 + 1))] (0, 0) _ rfl (by (with_reducible repeat (first | refine blk_drewN ?_ _ | refine blk_drew ?_ | refine blk_alloc ?_ _)); refine blk_put (cs := #[.int .i64 2, .int .u64 (IntKind.u64.wrap ((Go.bits .andNot .u64 t807 t806) + 1)), .int .u64 0]) ?_ 2 _ rfl; (with_reducible repeat (first | refine blk_drewN ?_ _ | refine blk_drew ?_ | refine blk_alloc ?_ _)); refine blk_put (cs := #[.int .i64 2, .int .u64 0, .int .u64 0]) ?_ 1 _ rfl; (with_reducible repeat (first | refine blk_drewN ?_ _ | refine blk_drew ?_ | refine blk_alloc ?_ _)); refine blk_put (cs := #[.int .i64 0, .int .u64 0, .int .u64 0]) ?_ 0 _ rfl; (with_reducible repeat (first | refine blk_drewN ?_ _ | refine blk_drew ?_ | refine blk_alloc ?_ _)); exact BK803.out) Try.underlying26 rfl (by kernel_rfl)) rfl ?_
                    exact ⟨by first | rfl | (simp [errW_none, errW_some] <;> rfl) | (simp [*, errW_none, errW_some] <;> rfl), by repeat (first | (with_reducible first | exact HI0.out | apply IsS175.alloc | apply IsS175.drewN | apply IsS175.drew | apply IsS175.set_1 | refine IsS175.far ?_ NB0_803.out _) | exact HI0.out), by repeat (first | (with_reducible first | exact HB.out | apply below_alloc | apply pw_below_drewN | apply below_drew1 | refine below_set ?_ (IsS175.ge HI0.out) | refine below_set ?_ GE803.out) | exact HB.out), by repeat (first | (with_reducible first | exact HK.out | apply KeepBut.set_ | apply keep_drewN | apply keep_drew | apply keep_alloc | refine keep_far ?_ GW803.out _) | exact HK.out)⟩
                  · rw [if_neg c18] at H
                    have c18b0 : decide (x6_11 < 18446744073709551615) = false := decide_eq_false c18
                    clear c18
                    simp only [Option.some.injEq, Prod.mk.injEq] at H
                    obtain ⟨rfl, rfl, rfl, rfl⟩ := H
                    have hnb21 := NB803_0.out
                    have hnc21 := NB0_803.out
                    have hcz22_0 : wc.cell? ⟨gb803, 0, none⟩ = some (.int .i64 0) := (blk_cell BK803.out 0).trans rfl
                    have hcz22_1 : wc.cell? ⟨gb803, 1, none⟩ = some (.int .u64 0) := (blk_cell BK803.out 1).trans rfl
                    have hcz22_2 : wc.cell? ⟨gb803, 2, none⟩ = some (.int .u64 0) := (blk_cell BK803.out 2).trans rfl
                    have hfz22_0 := blk_frozen BK803.out 0
                    have hfz22_1 := blk_frozen BK803.out 1
                    have hfz22_2 := blk_frozen BK803.out 2
                    go_wp2
                    refine bodyPost_ret (results_cell_row rfl _ _ gb803 26 #[.int .i64 2, .int .u64 (IntKind.u64.wrap ((Go.bits .andNot .u64 t807 t806) + 1)), .int .u64 x6_11] (0, 0) _ rfl (by (with_reducible repeat (first | refine blk_drewN ?_ _ | refine blk_drew ?_ | refine blk_alloc ?_ _)); refine blk_put (cs := #[.int .i64 2, .int .u64 (IntKind.u64.wrap ((Go.bits .andNot .u64 t807 t806) + 1)), .int .u64 0]) ?_ 2 _ rfl; (with_reducible repeat (first | refine blk_drewN ?_ _ | refine blk_drew ?_ | refine blk_alloc ?_ _)); refine blk_put (cs := #[.int .i64 2, .int .u64 0, .int .u64 0]) ?_ 1 _ rfl; (with_reducible repeat (first | refine blk_drewN ?_ _ | refine blk_drew ?_ | refine blk_alloc ?_ _)); refine blk_put (cs := #[.int .i64 0, .int .u64 0, .int .u64 0]) ?_ 0 _ rfl; (with_reducible repeat (first | refine blk_drewN ?_ _ | refine blk_drew ?_ | refine blk_alloc ?_ _)); exact BK803.out) Try.underlying26 rfl (by kernel_rfl)) rfl ?_
                    exact ⟨by first | rfl | (simp [errW_none, errW_some] <;> rfl) | (simp [*, errW_none, errW_some] <;> rfl), by repeat (first | (with_reducible first | exact HI0.out | apply IsS175.alloc | apply IsS175.drewN | apply IsS175.drew | apply IsS175.set_1 | refine IsS175.far ?_ NB0_803.out _) | exact HI0.out), by repeat (first | (with_reducible first | exact HB.out | apply below_alloc | apply pw_below_drewN | apply below_drew1 | refine below_set ?_ (IsS175.ge HI0.out) | refine below_set ?_ GE803.out) | exact HB.out), by repeat (first | (with_reducible first | exact HK.out | apply KeepBut.set_ | apply keep_drewN | apply keep_drew | apply keep_alloc | refine keep_far ?_ GW803.out _) | exact HK.out)⟩
                · rw [if_neg c17] at H
                  have c17b0 : ((Int.tmod t809 6) == 3) = false := beq_eq_false_iff_ne.mpr c17
                  have c17b1 : ((Int.tmod t809 6) != 3) = true := bne_iff_ne.mpr c17
                  simp only [Option.some.injEq, Prod.mk.injEq] at H
                  obtain ⟨rfl, rfl, rfl, rfl⟩ := H
                  have hnb23 := NB803_0.out
                  have hnc23 := NB0_803.out
                  have hcz24_0 : wc.cell? ⟨gb803, 0, none⟩ = some (.int .i64 0) := (blk_cell BK803.out 0).trans rfl
                  have hcz24_1 : wc.cell? ⟨gb803, 1, none⟩ = some (.int .u64 0) := (blk_cell BK803.out 1).trans rfl
                  have hcz24_2 : wc.cell? ⟨gb803, 2, none⟩ = some (.int .u64 0) := (blk_cell BK803.out 2).trans rfl
                  have hfz24_0 := blk_frozen BK803.out 0
                  have hfz24_1 := blk_frozen BK803.out 1
                  have hfz24_2 := blk_frozen BK803.out 2
                  go_wp2
                  refine bodyPost_ret (results_cell_row rfl _ _ gb803 26 #[.int .i64 2, .int .u64 (IntKind.u64.wrap ((Go.bits .andNot .u64 t807 t806) + 1)), .int .u64 x6_11] (0, 0) _ rfl (by (with_reducible repeat (first | refine blk_drewN ?_ _ | refine blk_drew ?_ | refine blk_alloc ?_ _)); refine blk_put (cs := #[.int .i64 2, .int .u64 (IntKind.u64.wrap ((Go.bits .andNot .u64 t807 t806) + 1)), .int .u64 0]) ?_ 2 _ rfl; (with_reducible repeat (first | refine blk_drewN ?_ _ | refine blk_drew ?_ | refine blk_alloc ?_ _)); refine blk_put (cs := #[.int .i64 2, .int .u64 0, .int .u64 0]) ?_ 1 _ rfl; (with_reducible repeat (first | refine blk_drewN ?_ _ | refine blk_drew ?_ | refine blk_alloc ?_ _)); refine blk_put (cs := #[.int .i64 0, .int .u64 0, .int .u64 0]) ?_ 0 _ rfl; (with_reducible repeat (first | refine blk_drewN ?_ _ | refine blk_drew ?_ | refine blk_alloc ?_ _)); exact BK803.out) Try.underlying26 rfl (by kernel_rfl)) rfl ?_
                  exact ⟨by first | rfl | (simp [errW_none, errW_some] <;> rfl) | (simp [*, errW_none, errW_some] <;> rfl), by repeat (first | (with_reducible first | exact HI0.out | apply IsS175.alloc | apply IsS175.drewN | apply IsS175.drew | apply IsS175.set_1 | refine IsS175.far ?_ NB0_803.out _) | exact HI0.out), by repeat (first | (with_reducible first | exact HB.out | apply below_alloc | apply pw_below_drewN | apply below_drew1 | refine below_set ?_ (IsS175.ge HI0.out) | refine below_set ?_ GE803.out) | exact HB.out), by repeat (first | (with_reducible first | exact HK.out | apply KeepBut.set_ | apply keep_drewN | apply keep_drew | apply keep_alloc | refine keep_far ?_ GW803.out _) | exact HK.out)⟩
              · replace c16 := Bool.eq_false_iff.mpr c16
                subst c16
                have H1 : (if (Int.tmod t809 6) = 3 then (if x6_11 < 18446744073709551615 then (some (2, (Go.bits .andNot .u64 t807 t806), IntKind.u64.wrap (x6_11 + 1), t810)) else (some (2, (Go.bits .andNot .u64 t807 t806), x6_11, t810))) else (some (2, (Go.bits .andNot .u64 t807 t806), x6_11, t810))) = some (r1, r2, r3, r4) := by rw [if_neg (show ¬ (false = true) by decide)] at H; exact H
                clear H
                have H := H1
                clear H1
                by_cases c25 : (Int.tmod t809 6) = 3
                · rw [if_pos c25] at H
                  have c25b0 : ((Int.tmod t809 6) == 3) = true := beq_iff_eq.mpr c25
                  have c25b1 : ((Int.tmod t809 6) != 3) = false := bne_eq_false_iff_eq.mpr c25
                  clear c25
                  by_cases c26 : x6_11 < 18446744073709551615
                  · rw [if_pos c26] at H
                    have c26b0 : decide (x6_11 < 18446744073709551615) = true := decide_eq_true c26
                    clear c26
                    simp only [Option.some.injEq, Prod.mk.injEq] at H
                    obtain ⟨rfl, rfl, rfl, rfl⟩ := H
                    have hnb27 := NB803_0.out
                    have hnc27 := NB0_803.out
                    have hcz28_0 : wc.cell? ⟨gb803, 0, none⟩ = some (.int .i64 0) := (blk_cell BK803.out 0).trans rfl
                    have hcz28_1 : wc.cell? ⟨gb803, 1, none⟩ = some (.int .u64 0) := (blk_cell BK803.out 1).trans rfl
                    have hcz28_2 : wc.cell? ⟨gb803, 2, none⟩ = some (.int .u64 0) := (blk_cell BK803.out 2).trans rfl
                    have hfz28_0 := blk_frozen BK803.out 0
                    have hfz28_1 := blk_frozen BK803.out 1
                    have hfz28_2 := blk_frozen BK803.out 2
                    go_wp2
                    refine bodyPost_ret (results_cell_row rfl _ _ gb803 26 #[.int .i64 2, .int .u64 (Go.bits .andNot .u64 t807 t806), .int .u64 (IntKind.u64.wrap (x6_11 + 1))] (0, 0) _ rfl (by (with_reducible repeat (first | refine blk_drewN ?_ _ | refine blk_drew ?_ | refine blk_alloc ?_ _)); refine blk_put (cs := #[.int .i64 2, .int .u64 (Go.bits .andNot .u64 t807 t806), .int .u64 0]) ?_ 2 _ rfl; (with_reducible repeat (first | refine blk_drewN ?_ _ | refine blk_drew ?_ | refine blk_alloc ?_ _)); refine blk_put (cs := #[.int .i64 2, .int .u64 0, .int .u64 0]) ?_ 1 _ rfl; (with_reducible repeat (first | refine blk_drewN ?_ _ | refine blk_drew ?_ | refine blk_alloc ?_ _)); refine blk_put (cs := #[.int .i64 0, .int .u64 0, .int .u64 0]) ?_ 0 _ rfl; (with_reducible repeat (first | refine blk_drewN ?_ _ | refine blk_drew ?_ | refine blk_alloc ?_ _)); exact BK803.out) Try.underlying26 rfl (by kernel_rfl)) rfl ?_
                    exact ⟨by first | rfl | (simp [errW_none, errW_some] <;> rfl) | (simp [*, errW_none, errW_some] <;> rfl), by repeat (first | (with_reducible first | exact HI0.out | apply IsS175.alloc | apply IsS175.drewN | apply IsS175.drew | apply IsS175.set_1 | refine IsS175.far ?_ NB0_803.out _) | exact HI0.out), by repeat (first | (with_reducible first | exact HB.out | apply below_alloc | apply pw_below_drewN | apply below_drew1 | refine below_set ?_ (IsS175.ge HI0.out) | refine below_set ?_ GE803.out) | exact HB.out), by repeat (first | (with_reducible first | exact HK.out | apply KeepBut.set_ | apply keep_drewN | apply keep_drew | apply keep_alloc | refine keep_far ?_ GW803.out _) | exact HK.out)⟩
                  · rw [if_neg c26] at H
                    have c26b0 : decide (x6_11 < 18446744073709551615) = false := decide_eq_false c26
                    clear c26
                    simp only [Option.some.injEq, Prod.mk.injEq] at H
                    obtain ⟨rfl, rfl, rfl, rfl⟩ := H
                    have hnb29 := NB803_0.out
                    have hnc29 := NB0_803.out
                    have hcz30_0 : wc.cell? ⟨gb803, 0, none⟩ = some (.int .i64 0) := (blk_cell BK803.out 0).trans rfl
                    have hcz30_1 : wc.cell? ⟨gb803, 1, none⟩ = some (.int .u64 0) := (blk_cell BK803.out 1).trans rfl
                    have hcz30_2 : wc.cell? ⟨gb803, 2, none⟩ = some (.int .u64 0) := (blk_cell BK803.out 2).trans rfl
                    have hfz30_0 := blk_frozen BK803.out 0
                    have hfz30_1 := blk_frozen BK803.out 1
                    have hfz30_2 := blk_frozen BK803.out 2
                    go_wp2
                    refine bodyPost_ret (results_cell_row rfl _ _ gb803 26 #[.int .i64 2, .int .u64 (Go.bits .andNot .u64 t807 t806), .int .u64 x6_11] (0, 0) _ rfl (by (with_reducible repeat (first | refine blk_drewN ?_ _ | refine blk_drew ?_ | refine blk_alloc ?_ _)); refine blk_put (cs := #[.int .i64 2, .int .u64 (Go.bits .andNot .u64 t807 t806), .int .u64 0]) ?_ 2 _ rfl; (with_reducible repeat (first | refine blk_drewN ?_ _ | refine blk_drew ?_ | refine blk_alloc ?_ _)); refine blk_put (cs := #[.int .i64 2, .int .u64 0, .int .u64 0]) ?_ 1 _ rfl; (with_reducible repeat (first | refine blk_drewN ?_ _ | refine blk_drew ?_ | refine blk_alloc ?_ _)); refine blk_put (cs := #[.int .i64 0, .int .u64 0, .int .u64 0]) ?_ 0 _ rfl; (with_reducible repeat (first | refine blk_drewN ?_ _ | refine blk_drew ?_ | refine blk_alloc ?_ _)); exact BK803.out) Try.underlying26 rfl (by kernel_rfl)) rfl ?_
                    exact ⟨by first | rfl | (simp [errW_none, errW_some] <;> rfl) | (simp [*, errW_none, errW_some] <;> rfl), by repeat (first | (with_reducible first | exact HI0.out | apply IsS175.alloc | apply IsS175.drewN | apply IsS175.drew | apply IsS175.set_1 | refine IsS175.far ?_ NB0_803.out _) | exact HI0.out), by repeat (first | (with_reducible first | exact HB.out | apply below_alloc | apply pw_below_drewN | apply below_drew1 | refine below_set ?_ (IsS175.ge HI0.out) | refine below_set ?_ GE803.out) | exact HB.out), by repeat (first | (with_reducible first | exact HK.out | apply KeepBut.set_ | apply keep_drewN | apply keep_drew | apply keep_alloc | refine keep_far ?_ GW803.out _) | exact HK.out)⟩
                · rw [if_neg c25] at H
                  have c25b0 : ((Int.tmod t809 6) == 3) = false := beq_eq_false_iff_ne.mpr c25
                  have c25b1 : ((Int.tmod t809 6) != 3) = true := bne_iff_ne.mpr c25
                  simp only [Option.some.injEq, Prod.mk.injEq] at H
                  obtain ⟨rfl, rfl, rfl, rfl⟩ := H
                  have hnb31 := NB803_0.out
                  have hnc31 := NB0_803.out
                  have hcz32_0 : wc.cell? ⟨gb803, 0, none⟩ = some (.int .i64 0) := (blk_cell BK803.out 0).trans rfl
                  have hcz32_1 : wc.cell? ⟨gb803, 1, none⟩ = some (.int .u64 0) := (blk_cell BK803.out 1).trans rfl
                  have hcz32_2 : wc.cell? ⟨gb803, 2, none⟩ = some (.int .u64 0) := (blk_cell BK803.out 2).trans rfl
                  have hfz32_0 := blk_frozen BK803.out 0
                  have hfz32_1 := blk_frozen BK803.out 1
                  have hfz32_2 := blk_frozen BK803.out 2
                  go_wp2
                  refine bodyPost_ret (results_cell_row rfl _ _ gb803 26 #[.int .i64 2, .int .u64 (Go.bits .andNot .u64 t807 t806), .int .u64 x6_11] (0, 0) _ rfl (by (with_reducible repeat (first | refine blk_drewN ?_ _ | refine blk_drew ?_ | refine blk_alloc ?_ _)); refine blk_put (cs := #[.int .i64 2, .int .u64 (Go.bits .andNot .u64 t807 t806), .int .u64 0]) ?_ 2 _ rfl; (with_reducible repeat (first | refine blk_drewN ?_ _ | refine blk_drew ?_ | refine blk_alloc ?_ _)); refine blk_put (cs := #[.int .i64 2, .int .u64 0, .int .u64 0]) ?_ 1 _ rfl; (with_reducible repeat (first | refine blk_drewN ?_ _ | refine blk_drew ?_ | refine blk_alloc ?_ _)); refine blk_put (cs := #[.int .i64 0, .int .u64 0, .int .u64 0]) ?_ 0 _ rfl; (with_reducible repeat (first | refine blk_drewN ?_ _ | refine blk_drew ?_ | refine blk_alloc ?_ _)); exact BK803.out) Try.underlying26 rfl (by kernel_rfl)) rfl ?_
                  exact ⟨by first | rfl | (simp [errW_none, errW_some] <;> rfl) | (simp [*, errW_none, errW_some] <;> rfl), by repeat (first | (with_reducible first | exact HI0.out | apply IsS175.alloc | apply IsS175.drewN | apply IsS175.drew | apply IsS175.set_1 | refine IsS175.far ?_ NB0_803.out _) | exact HI0.out), by repeat (first | (with_reducible first | exact HB.out | apply below_alloc | apply pw_below_drewN | apply below_drew1 | refine below_set ?_ (IsS175.ge HI0.out) | refine below_set ?_ GE803.out) | exact HB.out), by repeat (first | (with_reducible first | exact HK.out | apply KeepBut.set_ | apply keep_drewN | apply keep_drew | apply keep_alloc | refine keep_far ?_ GW803.out _) | exact HK.out)⟩

end Go.Proofs.Ytdipinclchkhjaa.P
