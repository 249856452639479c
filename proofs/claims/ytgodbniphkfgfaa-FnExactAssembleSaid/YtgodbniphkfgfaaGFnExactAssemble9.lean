import Derived.Test.YtgodbniphkfgfaaGFnExactAssemble4
import Derived.Test.YtgodbniphkfgfaaGFnExactAssemble8
namespace Go.Proofs.Ytgodbniphkfgfaa.P
open Go.RowKit Go.Proofs.YtgodbniphkfgfaaW.PrintWords Go.Proofs.YtgodbniphkfgfaaW.PrintLast Go.Proofs.YtgodbniphkfgfaaW.PrintMore
set_option linter.unusedVariables false
set_option linter.unusedSimpArgs false
/-! The sorts of codes. -/
def plainCodes : List Int := [0, 1, 32, 96, 97, 2, 3, 4, 12, 20, 28, 36, 44, 52, 60, 68, 76, 84, 92, 164, 172, 100, 108, 116, 124, 132, 7, 135]
def testCodes : List Int := [21, 29, 37, 45, 53, 61, 69, 77]
def endCodes : List Int := [6, 22]
def sortN (c : Int) : Int := if c ∈ plainCodes then 1 else if c = 5 then 3 else if c ∈ testCodes then 2 else if c ∈ endCodes then 4 else 0
theorem sortOf_is (c : Int) (k : Nat) (hk : 2 ≤ k) : impl_sortOf.f k c = some (sortN c) := by
  obtain ⟨k, rfl⟩ : ∃ m, k = m + 2 := ⟨k - 2, by omega⟩
  by_cases h : c ∈ plainCodes
  · unfold sortN
    rw [if_pos h]
    simp only [plainCodes, List.mem_cons, List.not_mem_nil, or_false] at h
    rcases h with rfl | rfl | rfl | rfl | rfl | rfl | rfl | rfl | rfl | rfl | rfl | rfl | rfl | rfl | rfl | rfl | rfl | rfl | rfl | rfl | rfl | rfl | rfl | rfl | rfl | rfl | rfl | rfl <;> rfl
  · have h' := h
    simp only [plainCodes, List.mem_cons, List.not_mem_nil, or_false, not_or] at h'
    obtain ⟨h0, h1, h2, h3, h4, h5, h6, h7, h8, h9, h10, h11, h12, h13, h14, h15, h16, h17, h18, h19, h20, h21, h22, h23, h24, h25, h26, h27⟩ := h'
    have e : impl_sortOf.f (k + 2) c = impl_sortOf.j0 (k + 2) c false := by
      unfold impl_sortOf.f
      rw [if_neg h0, if_neg h1, if_neg h2, if_neg h3, if_neg h4, if_neg h5, if_neg h6, if_neg h7, if_neg h8, if_neg h9, if_neg h10, if_neg h11, if_neg h12, if_neg h13, if_neg h14, if_neg h15, if_neg h16, if_neg h17, if_neg h18, if_neg h19, if_neg h20, if_neg h21, if_neg h22, if_neg h23, if_neg h24, if_neg h25, if_neg h26, beq_eq_false_iff_ne.mpr h27]
    rw [e]
    unfold sortN
    rw [if_neg h, impl_sortOf.j0, if_neg (by decide)]
    by_cases h5 : c = 5
    · rw [if_pos h5, if_pos h5]
    · rw [if_neg h5, if_neg h5]
      by_cases ht : c ∈ testCodes
      · rw [if_pos ht]
        simp only [testCodes, List.mem_cons, List.not_mem_nil, or_false] at ht
        rcases ht with rfl | rfl | rfl | rfl | rfl | rfl | rfl | rfl <;> rfl
      · rw [if_neg ht]
        simp only [testCodes, List.mem_cons, List.not_mem_nil, or_false, not_or] at ht
        obtain ⟨t0, t1, t2, t3, t4, t5, t6, t7⟩ := ht
        rw [if_neg t0, if_neg t1, if_neg t2, if_neg t3, if_neg t4, if_neg t5, if_neg t6, beq_eq_false_iff_ne.mpr t7, impl_sortOf.j1, if_neg (by decide)]
        simp only [endCodes, List.mem_cons, List.not_mem_nil, or_false]
        by_cases h6 : c = 6
        · rw [if_pos h6, if_pos (.inl h6)]
        · rw [if_neg h6]
          by_cases h22 : c = 22
          · rw [if_pos h22, if_pos (.inr h22)]
          · rw [if_neg h22, if_neg (by rintro (h | h) <;> contradiction)]
theorem l1known_ev (c : Int) : Ev (fun k => spec_l1known.f k c) (decide (sortN c ≠ 0)) := by
  obtain ⟨L, hL⟩ : ∃ L, L = plainCodes ++ [5] ++ testCodes ++ endCodes := ⟨_, rfl⟩
  have hmem : decide (sortN c ≠ 0) = decide (c ∈ L) := by
    rw [hL, Bool.eq_iff_iff, decide_eq_true_eq, decide_eq_true_eq]
    unfold sortN
    simp only [List.mem_append, List.mem_singleton]
    split
    · simp_all
    · split
      · simp_all
      · split
        · simp_all
        · split <;> simp_all
  have hlen : L.length = 39 := by rw [hL]; rfl
  have key : ∀ d i : Nat, i + d = 39 → Ev (fun k => spec_l1known.l0 k c L (i : Int)) (decide (c ∈ L.drop i)) := by
    intro d
    induction d with
    | zero =>
      intro i hi
      refine ev_end fun k => ?_
      simp only [spec_l1known.l0]
      rw [if_neg (by omega), List.drop_of_length_le (by omega)]
      simp
    | succ d ih =>
      intro i hi
      have hlt : i < L.length := by omega
      have hd := List.drop_eq_getElem_cons hlt
      by_cases e : L[i] = c
      · refine ev_end fun k => ?_
        simp only [spec_l1known.l0]
        rw [if_pos (by omega), if_pos (by omega), rd_eq L i hlt, if_pos e, hd]
        simp [e]
      · have hr := ih (i + 1) (by omega)
        have he : decide (c ∈ L.drop i) = decide (c ∈ L.drop (i + 1)) := by
          rw [decide_eq_decide, hd, List.mem_cons]
          exact ⟨fun h => h.resolve_left (fun h => e h.symm), .inr⟩
        rw [he]
        refine ev_step _ (fun k => ?_) hr
        simp only [spec_l1known.l0]
        rw [if_pos (by omega), if_pos (by omega), rd_eq L i hlt, if_neg e, wrap64_id (by omega) (by omega)]
        rfl
  rw [hmem]
  refine Ev.congr (fun k => ?_) (key 39 0 (by omega))
  unfold spec_l1known.f spec_l1codes.f
  rw [Option.bind_some, hL]
  rfl
theorem l1isTest_ev (c : Int) (h0 : 0 ≤ c) : Ev (fun k => spec_l1isTest.f k c) (decide (sortN c = 2)) := by
  obtain ⟨K, hK⟩ := ev_get (l1known_ev c)
  refine ev_mk K fun k hk => ?_
  unfold spec_l1isTest.f
  rw [hK k hk, Option.bind_some]
  have hs : sortN c = 2 ↔ sortN c ≠ 0 ∧ c % 8 = 5 ∧ c ≠ 5 := by
    unfold sortN
    split
    · rename_i h
      simp only [plainCodes, List.mem_cons, List.not_mem_nil, or_false] at h
      rcases h with rfl | rfl | rfl | rfl | rfl | rfl | rfl | rfl | rfl | rfl | rfl | rfl | rfl | rfl | rfl | rfl | rfl | rfl | rfl | rfl | rfl | rfl | rfl | rfl | rfl | rfl | rfl | rfl <;> decide
    · split
      · rename_i h; subst h; decide
      · split
        · rename_i h
          simp only [testCodes, List.mem_cons, List.not_mem_nil, or_false] at h
          rcases h with rfl | rfl | rfl | rfl | rfl | rfl | rfl | rfl <;> decide
        · split
          · rename_i h
            simp only [endCodes, List.mem_cons, List.not_mem_nil, or_false] at h
            rcases h with rfl | rfl <;> decide
          · simp
  rw [Int.tmod_eq_emod_of_nonneg h0]
  by_cases h1 : sortN c = 0
  · rw [if_neg (by simp [h1])]
    congr 1
    simp [h1]
  · rw [if_pos (by simp [h1])]
    by_cases h2 : c % 8 = 5
    · rw [if_pos h2]
      congr 1
      rw [Bool.eq_iff_iff, decide_eq_true_eq, bne_iff_ne, hs]
      exact ⟨fun h => ⟨h1, h2, h⟩, fun h => h.2.2⟩
    · rw [if_neg h2]
      congr 1
      symm
      rw [decide_eq_false_iff_not, hs]
      exact fun h => h2 h.2.1
end Go.Proofs.Ytgodbniphkfgfaa.P

namespace Go.Proofs.Ytgodbniphkfgfaa.P
open Go.RowKit Go.Proofs.YtgodbniphkfgfaaW.PrintWords Go.Proofs.YtgodbniphkfgfaaW.PrintLast Go.Proofs.YtgodbniphkfgfaaW.PrintMore
attribute [local go_sem] max2_int min2_int max_two min_two max_three min_three max_four min_four   -- for this text's walks alone
set_option linter.unusedVariables false
set_option linter.unusedSimpArgs false

/-! ### spec_l5itemOK: function 48 -/
def spec_l5itemOK.j0 : Nat → Bool → Int → Int → Int → Int → Int → Int → Option (Bool)
  | 0, _, _, _, _, _, _, _ => none
  | k + 1, x11, x175000, x175001, x175002, x175003, x175004, x175005 => if x11 = true then (some false) else (if x175000 = 0 then ((spec_l1known.f k (wrap64 (x175001))).bind fun t175 => (if t175 = true then (if (wrap64 (x175001)) = 5 then (some false) else ((spec_l1isTest.f k (wrap64 (x175001))).bind fun t176 => (some (!t176)))) else (some false))) else (if x175000 = 1 then (if (wrap64 (x175001)) = 21 then (some true) else (if (wrap64 (x175001)) = 37 then (some true) else (if (wrap64 (x175001)) = 53 then (some true) else (some ((wrap64 (x175001)) == 69))))) else (if x175000 = 2 then (if (wrap64 (x175001)) = 21 then (some true) else (if (wrap64 (x175001)) = 37 then (some true) else (if (wrap64 (x175001)) = 53 then (some true) else (some ((wrap64 (x175001)) == 69))))) else (some true))))
def spec_l5itemOK.f (k : Nat) (a0_0 : Int) (a0_1 : Int) (a0_2 : Int) (a0_3 : Int) (a0_4 : Int) (a0_5 : Int) : Option (Bool) := if a0_0 < 0 then (spec_l5itemOK.j0 k true a0_0 a0_1 a0_2 a0_3 a0_4 a0_5) else (spec_l5itemOK.j0 k (decide (a0_0 > 4)) a0_0 a0_1 a0_2 a0_3 a0_4 a0_5)
set_option maxHeartbeats 8000000 in
set_option maxRecDepth 100000 in
theorem spec_l5itemOK.calls (k : Nat) (a0_0 : Int) (a0_1 : Int) (a0_2 : Int) (a0_3 : Int) (a0_4 : Int) (a0_5 : Int) (r : Bool) (w : World) (h : spec_l5itemOK.f k a0_0 a0_1 a0_2 a0_3 a0_4 a0_5 = some r) :
    Calls Try.prog 48 #[.agg #[.int .i64 a0_0, .int .u16 a0_1, .int .u8 a0_2, .int .u8 a0_3, .int .u32 a0_4, .int .i64 a0_5]] w fun e w' => e = .returned (.bool r) ∧ Below w.heap.size w w' := by
  have hu64 := Try.underlying64
  have HB := Aside0.mk (Below.refl w.heap.size w)
  have H : (if a0_0 < 0 then (spec_l5itemOK.j0 k true a0_0 a0_1 a0_2 a0_3 a0_4 a0_5) else (spec_l5itemOK.j0 k (decide (a0_0 > 4)) a0_0 a0_1 a0_2 a0_3 a0_4 a0_5)) = some r := h
  clear h
  have HC2 := Aside0.mk H
  clear H
  go_enter Try.func48, Try.ntmps48
  go_upto_region 1 with (first | ((with_reducible refine gate_dst (N := 1) rfl ?_); refine box_event ?hg (N := 1) ?hd (cs := #[.int .i64 a0_0, .int .u16 a0_1, .int .u8 a0_2, .int .u8 a0_3, .int .u32 a0_4, .int .i64 a0_5]) (t := 64) ?hr ?_; (case hd => rfl); (case hg => rfl); (case hr => first | (go_simp; done) | (go_simp; rfl)); intro gb174 hg w3 hbox hb; have n0_ := Aside0.mk (below_step (by repeat (first | (with_reducible first | exact HB.out | apply below_alloc | apply pw_below_drewN | apply below_drew1) | exact HB.out)) hb); have n1_ := Aside0.mk (hbox); have n2_ := Aside0.mk ((by rw [hg]; exact (below_size (by repeat (first | (with_reducible first | exact HB.out | apply below_alloc | apply pw_below_drewN | apply below_drew1) | exact HB.out))) : w.heap.size ≤ gb174)); have n3_ := Aside0.mk ((by rw [hg]; exact (below_size (by repeat (first | (with_reducible first | exact HB.out | apply below_alloc | apply pw_below_drewN | apply below_drew1) | exact HB.out))) : w.heap.size ≤ gb174)); clear HB; have HB := n0_; have BK174 := n1_; have GW174 := n2_; have GE174 := n3_; clear n0_ n1_ n2_ n3_; clear hb hbox hg))
  (try simp only [Act.put, List.setIfInBounds_toArray, List.set_cons_zero, List.set_cons_succ])
  go_cut [11] (fun v11 wc => ∃ (kq : Nat) (x11_1 : Bool), v11 = .bool x11_1 ∧ Aside0 (spec_l5itemOK.j0 kq x11_1 a0_0 a0_1 a0_2 a0_3 a0_4 a0_5 = some r) ∧ Aside0 (kq ≤ k) ∧ Aside0 (wc.heap[gb174]? = some (.cells #[.int .i64 a0_0, .int .u16 a0_1, .int .u8 a0_2, .int .u8 a0_3, .int .u32 a0_4, .int .i64 a0_5] 64 (0, 0))) ∧ Aside0 (Below w.heap.size w wc))
  case first =>
    have H := HC2.out
    clear HC2
    by_cases c4 : a0_0 < 0
    · rw [if_pos c4] at H
      have c4b0 : decide (a0_0 < 0) = true := decide_eq_true c4
      clear c4
      (first | rw [c4b0] | (simp only [i64_w, i32_w]; rw [c4b0]) | skip)
      have H' := Aside0.mk H
      clear H
      have hcz5_0 : w3.cell? ⟨gb174, 0, none⟩ = some (.int .i64 a0_0) := (blk_cell BK174.out 0).trans rfl
      have hcz5_1 : w3.cell? ⟨gb174, 1, none⟩ = some (.int .u16 a0_1) := (blk_cell BK174.out 1).trans rfl
      have hcz5_2 : w3.cell? ⟨gb174, 2, none⟩ = some (.int .u8 a0_2) := (blk_cell BK174.out 2).trans rfl
      have hcz5_3 : w3.cell? ⟨gb174, 3, none⟩ = some (.int .u8 a0_3) := (blk_cell BK174.out 3).trans rfl
      have hcz5_4 : w3.cell? ⟨gb174, 4, none⟩ = some (.int .u32 a0_4) := (blk_cell BK174.out 4).trans rfl
      have hcz5_5 : w3.cell? ⟨gb174, 5, none⟩ = some (.int .i64 a0_5) := (blk_cell BK174.out 5).trans rfl
      have hfz5_0 := blk_frozen BK174.out 0
      have hfz5_1 := blk_frozen BK174.out 1
      have hfz5_2 := blk_frozen BK174.out 2
      have hfz5_3 := blk_frozen BK174.out 3
      have hfz5_4 := blk_frozen BK174.out 4
      have hfz5_5 := blk_frozen BK174.out 5
      go_wp2
      go_meet
      case rel => exact ⟨_, (true), (by first | rfl | (simp; done) | (simp [*]; done)), H', ⟨by first | omega | exact Nat.le_refl _⟩, ⟨by (with_reducible repeat (first | refine blk_drewN ?_ _ | refine blk_drew ?_ | refine blk_alloc ?_ _)); exact BK174.out⟩, ⟨by repeat (first | (with_reducible first | exact HB.out | apply below_alloc | apply pw_below_drewN | apply below_drew1 | refine below_set ?_ GE174.out) | exact HB.out)⟩⟩
    · rw [if_neg c4] at H
      have c4b0 : decide (a0_0 < 0) = false := decide_eq_false c4
      clear c4
      (first | rw [c4b0] | (simp only [i64_w, i32_w]; rw [c4b0]) | skip)
      have H' := Aside0.mk H
      clear H
      have hcz6_0 : w3.cell? ⟨gb174, 0, none⟩ = some (.int .i64 a0_0) := (blk_cell BK174.out 0).trans rfl
      have hcz6_1 : w3.cell? ⟨gb174, 1, none⟩ = some (.int .u16 a0_1) := (blk_cell BK174.out 1).trans rfl
      have hcz6_2 : w3.cell? ⟨gb174, 2, none⟩ = some (.int .u8 a0_2) := (blk_cell BK174.out 2).trans rfl
      have hcz6_3 : w3.cell? ⟨gb174, 3, none⟩ = some (.int .u8 a0_3) := (blk_cell BK174.out 3).trans rfl
      have hcz6_4 : w3.cell? ⟨gb174, 4, none⟩ = some (.int .u32 a0_4) := (blk_cell BK174.out 4).trans rfl
      have hcz6_5 : w3.cell? ⟨gb174, 5, none⟩ = some (.int .i64 a0_5) := (blk_cell BK174.out 5).trans rfl
      have hfz6_0 := blk_frozen BK174.out 0
      have hfz6_1 := blk_frozen BK174.out 1
      have hfz6_2 := blk_frozen BK174.out 2
      have hfz6_3 := blk_frozen BK174.out 3
      have hfz6_4 := blk_frozen BK174.out 4
      have hfz6_5 := blk_frozen BK174.out 5
      go_wp2
      go_meet
      case rel => exact ⟨_, (decide (a0_0 > 4)), (by first | rfl | (simp; done) | (simp [*]; done)), H', ⟨by first | omega | exact Nat.le_refl _⟩, ⟨by (with_reducible repeat (first | refine blk_drewN ?_ _ | refine blk_drew ?_ | refine blk_alloc ?_ _)); exact BK174.out⟩, ⟨by repeat (first | (with_reducible first | exact HB.out | apply below_alloc | apply pw_below_drewN | apply below_drew1 | refine below_set ?_ GE174.out) | exact HB.out)⟩⟩
  case rest =>
    clear HC2
    try clear p2
    try clear c4
    try clear c4b0
    try clear hcz5_0
    try clear hcz5_1
    try clear hcz5_2
    try clear hcz5_3
    try clear hcz5_4
    try clear hcz5_5
    try clear hcz6_0
    try clear hcz6_1
    try clear hcz6_2
    try clear hcz6_3
    try clear hcz6_4
    try clear hcz6_5
    try clear hfz5_0
    try clear hfz5_1
    try clear hfz5_2
    try clear hfz5_3
    try clear hfz5_4
    try clear hfz5_5
    try clear hfz6_0
    try clear hfz6_1
    try clear hfz6_2
    try clear hfz6_3
    try clear hfz6_4
    try clear hfz6_5
    obtain ⟨kq, x11_1, rfl, HA, HJ1, BK174, HB⟩ := hcut
    cases kq with
    | zero => exact absurd HA.out (by simp [spec_l5itemOK.j0])
    | succ kj1 =>
      have H := HA.out
      clear HA
      simp only [spec_l5itemOK.j0] at H
      by_cases c7 : x11_1 = true
      · subst c7
        have H1 : (some false) = some r := by rw [if_pos rfl] at H; exact H
        clear H
        have H := H1
        clear H1
        obtain rfl := Option.some.inj H
        go_wp2
        go_ret
        exact ⟨by first | rfl | (simp [errW_none, errW_some] <;> rfl) | (simp [*, errW_none, errW_some] <;> rfl), by repeat (first | (with_reducible first | exact HB.out | apply below_alloc | apply pw_below_drewN | apply below_drew1 | refine below_set ?_ GE174.out) | exact HB.out)⟩
      · replace c7 := Bool.eq_false_iff.mpr c7
        subst c7
        have H1 : (if a0_0 = 0 then ((spec_l1known.f kj1 (wrap64 (a0_1))).bind fun t175 => (if t175 = true then (if (wrap64 (a0_1)) = 5 then (some false) else ((spec_l1isTest.f kj1 (wrap64 (a0_1))).bind fun t176 => (some (!t176)))) else (some false))) else (if a0_0 = 1 then (if (wrap64 (a0_1)) = 21 then (some true) else (if (wrap64 (a0_1)) = 37 then (some true) else (if (wrap64 (a0_1)) = 53 then (some true) else (some ((wrap64 (a0_1)) == 69))))) else (if a0_0 = 2 then (if (wrap64 (a0_1)) = 21 then (some true) else (if (wrap64 (a0_1)) = 37 then (some true) else (if (wrap64 (a0_1)) = 53 then (some true) else (some ((wrap64 (a0_1)) == 69))))) else (some true)))) = some r := by rw [if_neg (show ¬ (false = true) by decide)] at H; exact H
        clear H
        have H := H1
        clear H1
        by_cases c8 : a0_0 = 0
        · rw [if_pos c8] at H
          have c8b0 : (a0_0 == 0) = true := beq_iff_eq.mpr c8
          have c8b1 : (a0_0 != 0) = false := bne_eq_false_iff_eq.mpr c8
          clear c8
          replace H := Option.bind_eq_some_iff.mp H
          obtain ⟨t175, A90, H⟩ := H
          replace H : (if t175 = true then (if (wrap64 (a0_1)) = 5 then (some false) else ((spec_l1isTest.f kj1 (wrap64 (a0_1))).bind fun t176 => (some (!t176)))) else (some false)) = some r := H
          have A9 := Aside0.mk A90
          clear A90
          by_cases c10 : t175 = true
          · subst c10
            have H1 : (if (wrap64 (a0_1)) = 5 then (some false) else ((spec_l1isTest.f kj1 (wrap64 (a0_1))).bind fun t176 => (some (!t176)))) = some r := by rw [if_pos rfl] at H; exact H
            clear H
            have H := H1
            clear H1
            by_cases c11 : (wrap64 (a0_1)) = 5
            · rw [if_pos c11] at H
              have c11b0 : ((wrap64 (a0_1)) == 5) = true := beq_iff_eq.mpr c11
              have c11b1 : ((wrap64 (a0_1)) != 5) = false := bne_eq_false_iff_eq.mpr c11
              clear c11
              obtain rfl := Option.some.inj H
              have hcz12_0 : wc.cell? ⟨gb174, 0, none⟩ = some (.int .i64 a0_0) := (blk_cell BK174.out 0).trans rfl
              have hcz12_1 : wc.cell? ⟨gb174, 1, none⟩ = some (.int .u16 a0_1) := (blk_cell BK174.out 1).trans rfl
              have hcz12_2 : wc.cell? ⟨gb174, 2, none⟩ = some (.int .u8 a0_2) := (blk_cell BK174.out 2).trans rfl
              have hcz12_3 : wc.cell? ⟨gb174, 3, none⟩ = some (.int .u8 a0_3) := (blk_cell BK174.out 3).trans rfl
              have hcz12_4 : wc.cell? ⟨gb174, 4, none⟩ = some (.int .u32 a0_4) := (blk_cell BK174.out 4).trans rfl
              have hcz12_5 : wc.cell? ⟨gb174, 5, none⟩ = some (.int .i64 a0_5) := (blk_cell BK174.out 5).trans rfl
              have hfz12_0 := blk_frozen BK174.out 0
              have hfz12_1 := blk_frozen BK174.out 1
              have hfz12_2 := blk_frozen BK174.out 2
              have hfz12_3 := blk_frozen BK174.out 3
              have hfz12_4 := blk_frozen BK174.out 4
              have hfz12_5 := blk_frozen BK174.out 5
              go_wp2_with (first | ((with_reducible refine gate_callee (f := 61) rfl ?_); refine goesL_ (some 20) rfl rfl Try.func61 (by kernel_rfl) rfl #[.int .i64 (wrap64 (a0_1))] rfl (by (try simp only [List.map_toArray, List.map_cons, List.map_nil]); first | done | rfl | (simp only [List.length_drop, List.length_take]; rfl)) ?_; (with_reducible refine (spec_l1known.calls kj1 (wrap64 (a0_1)) true _ A9.out).mono ?_); rintro e w13 ⟨rfl, hb⟩; refine ⟨_, rfl, ?_⟩; have n0_ := Aside0.mk (blk_below (g := gb174) (o := .cells #[.int .i64 a0_0, .int .u16 a0_1, .int .u8 a0_2, .int .u8 a0_3, .int .u32 a0_4, .int .i64 a0_5] 64 (0, 0)) (by (with_reducible repeat (first | refine blk_drewN ?_ _ | refine blk_drew ?_ | refine blk_alloc ?_ _)); exact BK174.out) hb); have n1_ := Aside0.mk (below_step (by repeat (first | (with_reducible first | exact HB.out | apply below_alloc | apply pw_below_drewN | apply below_drew1 | refine below_set ?_ GE174.out) | exact HB.out)) hb); clear BK174; clear HB; have BK174 := n0_; have HB := n1_; clear n0_ n1_; (try clear hb); (try clear hb2); (try clear hk); (try clear hi)))
              go_ret
              exact ⟨by first | rfl | (simp [errW_none, errW_some] <;> rfl) | (simp [*, errW_none, errW_some] <;> rfl), by repeat (first | (with_reducible first | exact HB.out | apply below_alloc | apply pw_below_drewN | apply below_drew1 | refine below_set ?_ GE174.out) | exact HB.out)⟩
            · rw [if_neg c11] at H
              have c11b0 : ((wrap64 (a0_1)) == 5) = false := beq_eq_false_iff_ne.mpr c11
              have c11b1 : ((wrap64 (a0_1)) != 5) = true := bne_iff_ne.mpr c11
              replace H := Option.bind_eq_some_iff.mp H
              obtain ⟨t176, A140, H⟩ := H
              replace H : (some (!t176)) = some r := H
              have A14 := Aside0.mk A140
              clear A140
              obtain rfl := Option.some.inj H
              have hcz15_0 : wc.cell? ⟨gb174, 0, none⟩ = some (.int .i64 a0_0) := (blk_cell BK174.out 0).trans rfl
              have hcz15_1 : wc.cell? ⟨gb174, 1, none⟩ = some (.int .u16 a0_1) := (blk_cell BK174.out 1).trans rfl
              have hcz15_2 : wc.cell? ⟨gb174, 2, none⟩ = some (.int .u8 a0_2) := (blk_cell BK174.out 2).trans rfl
              have hcz15_3 : wc.cell? ⟨gb174, 3, none⟩ = some (.int .u8 a0_3) := (blk_cell BK174.out 3).trans rfl
              have hcz15_4 : wc.cell? ⟨gb174, 4, none⟩ = some (.int .u32 a0_4) := (blk_cell BK174.out 4).trans rfl
              have hcz15_5 : wc.cell? ⟨gb174, 5, none⟩ = some (.int .i64 a0_5) := (blk_cell BK174.out 5).trans rfl
              have hfz15_0 := blk_frozen BK174.out 0
              have hfz15_1 := blk_frozen BK174.out 1
              have hfz15_2 := blk_frozen BK174.out 2
              have hfz15_3 := blk_frozen BK174.out 3
              have hfz15_4 := blk_frozen BK174.out 4
              have hfz15_5 := blk_frozen BK174.out 5
              go_wp2_with (first | ((with_reducible refine gate_callee (f := 61) rfl ?_); refine goesL_ (some 20) rfl rfl Try.func61 (by kernel_rfl) rfl #[.int .i64 (wrap64 (a0_1))] rfl (by (try simp only [List.map_toArray, List.map_cons, List.map_nil]); first | done | rfl | (simp only [List.length_drop, List.length_take]; rfl)) ?_; (with_reducible refine (spec_l1known.calls kj1 (wrap64 (a0_1)) true _ A9.out).mono ?_); rintro e w16 ⟨rfl, hb⟩; refine ⟨_, rfl, ?_⟩; have n0_ := Aside0.mk (blk_below (g := gb174) (o := .cells #[.int .i64 a0_0, .int .u16 a0_1, .int .u8 a0_2, .int .u8 a0_3, .int .u32 a0_4, .int .i64 a0_5] 64 (0, 0)) (by (with_reducible repeat (first | refine blk_drewN ?_ _ | refine blk_drew ?_ | refine blk_alloc ?_ _)); exact BK174.out) hb); have n1_ := Aside0.mk (below_step (by repeat (first | (with_reducible first | exact HB.out | apply below_alloc | apply pw_below_drewN | apply below_drew1 | refine below_set ?_ GE174.out) | exact HB.out)) hb); clear BK174; clear HB; have BK174 := n0_; have HB := n1_; clear n0_ n1_; (try clear hb); (try clear hb2); (try clear hk); (try clear hi)) | (go_at_call 62; (with_reducible refine (spec_l1isTest.calls kj1 (wrap64 (a0_1)) t176 _ A14.out).mono ?_); rintro e w17 ⟨rfl, hb⟩; have n0_ := Aside0.mk (blk_below (g := gb174) (o := .cells #[.int .i64 a0_0, .int .u16 a0_1, .int .u8 a0_2, .int .u8 a0_3, .int .u32 a0_4, .int .i64 a0_5] 64 (0, 0)) (by (with_reducible repeat (first | refine blk_drewN ?_ _ | refine blk_drew ?_ | refine blk_alloc ?_ _)); exact BK174.out) hb); have n1_ := Aside0.mk (below_step (by repeat (first | (with_reducible first | exact HB.out | apply below_alloc | apply pw_below_drewN | apply below_drew1 | refine below_set ?_ GE174.out) | exact HB.out)) hb); clear BK174; clear HB; have BK174 := n0_; have HB := n1_; clear n0_ n1_; (try clear hb); (try clear hb2); (try clear hk); (try clear hi)))
              go_ret
              exact ⟨by first | rfl | (simp [errW_none, errW_some] <;> rfl) | (simp [*, errW_none, errW_some] <;> rfl), by repeat (first | (with_reducible first | exact HB.out | apply below_alloc | apply pw_below_drewN | apply below_drew1 | refine below_set ?_ GE174.out) | exact HB.out)⟩
          · replace c10 := Bool.eq_false_iff.mpr c10
            subst c10
            have H1 : (some false) = some r := by rw [if_neg (show ¬ (false = true) by decide)] at H; exact H
            clear H
            have H := H1
            clear H1
            obtain rfl := Option.some.inj H
            have hcz18_0 : wc.cell? ⟨gb174, 0, none⟩ = some (.int .i64 a0_0) := (blk_cell BK174.out 0).trans rfl
            have hcz18_1 : wc.cell? ⟨gb174, 1, none⟩ = some (.int .u16 a0_1) := (blk_cell BK174.out 1).trans rfl
            have hcz18_2 : wc.cell? ⟨gb174, 2, none⟩ = some (.int .u8 a0_2) := (blk_cell BK174.out 2).trans rfl
            have hcz18_3 : wc.cell? ⟨gb174, 3, none⟩ = some (.int .u8 a0_3) := (blk_cell BK174.out 3).trans rfl
            have hcz18_4 : wc.cell? ⟨gb174, 4, none⟩ = some (.int .u32 a0_4) := (blk_cell BK174.out 4).trans rfl
            have hcz18_5 : wc.cell? ⟨gb174, 5, none⟩ = some (.int .i64 a0_5) := (blk_cell BK174.out 5).trans rfl
            have hfz18_0 := blk_frozen BK174.out 0
            have hfz18_1 := blk_frozen BK174.out 1
            have hfz18_2 := blk_frozen BK174.out 2
            have hfz18_3 := blk_frozen BK174.out 3
            have hfz18_4 := blk_frozen BK174.out 4
            have hfz18_5 := blk_frozen BK174.out 5
            go_wp2_with (first | ((with_reducible refine gate_callee (f := 61) rfl ?_); refine goesL_ (some 20) rfl rfl Try.func61 (by kernel_rfl) rfl #[.int .i64 (wrap64 (a0_1))] rfl (by (try simp only [List.map_toArray, List.map_cons, List.map_nil]); first | done | rfl | (simp only [List.length_drop, List.length_take]; rfl)) ?_; (with_reducible refine (spec_l1known.calls kj1 (wrap64 (a0_1)) false _ A9.out).mono ?_); rintro e w19 ⟨rfl, hb⟩; refine ⟨_, rfl, ?_⟩; have n0_ := Aside0.mk (blk_below (g := gb174) (o := .cells #[.int .i64 a0_0, .int .u16 a0_1, .int .u8 a0_2, .int .u8 a0_3, .int .u32 a0_4, .int .i64 a0_5] 64 (0, 0)) (by (with_reducible repeat (first | refine blk_drewN ?_ _ | refine blk_drew ?_ | refine blk_alloc ?_ _)); exact BK174.out) hb); have n1_ := Aside0.mk (below_step (by repeat (first | (with_reducible first | exact HB.out | apply below_alloc | apply pw_below_drewN | apply below_drew1 | refine below_set ?_ GE174.out) | exact HB.out)) hb); clear BK174; clear HB; have BK174 := n0_; have HB := n1_; clear n0_ n1_; (try clear hb); (try clear hb2); (try clear hk); (try clear hi)))
            go_ret
            exact ⟨by first | rfl | (simp [errW_none, errW_some] <;> rfl) | (simp [*, errW_none, errW_some] <;> rfl), by repeat (first | (with_reducible first | exact HB.out | apply below_alloc | apply pw_below_drewN | apply below_drew1 | refine below_set ?_ GE174.out) | exact HB.out)⟩
        · rw [if_neg c8] at H
          have c8b0 : (a0_0 == 0) = false := beq_eq_false_iff_ne.mpr c8
          have c8b1 : (a0_0 != 0) = true := bne_iff_ne.mpr c8
          by_cases c20 : a0_0 = 1
          · rw [if_pos c20] at H
            have c20b0 : (a0_0 == 1) = true := beq_iff_eq.mpr c20
            have c20b1 : (a0_0 != 1) = false := bne_eq_false_iff_eq.mpr c20
            clear c20
            by_cases c21 : (wrap64 (a0_1)) = 21
            · rw [if_pos c21] at H
              have c21b0 : ((wrap64 (a0_1)) == 21) = true := beq_iff_eq.mpr c21
              have c21b1 : ((wrap64 (a0_1)) != 21) = false := bne_eq_false_iff_eq.mpr c21
              clear c21
              obtain rfl := Option.some.inj H
              have hcz22_0 : wc.cell? ⟨gb174, 0, none⟩ = some (.int .i64 a0_0) := (blk_cell BK174.out 0).trans rfl
              have hcz22_1 : wc.cell? ⟨gb174, 1, none⟩ = some (.int .u16 a0_1) := (blk_cell BK174.out 1).trans rfl
              have hcz22_2 : wc.cell? ⟨gb174, 2, none⟩ = some (.int .u8 a0_2) := (blk_cell BK174.out 2).trans rfl
              have hcz22_3 : wc.cell? ⟨gb174, 3, none⟩ = some (.int .u8 a0_3) := (blk_cell BK174.out 3).trans rfl
              have hcz22_4 : wc.cell? ⟨gb174, 4, none⟩ = some (.int .u32 a0_4) := (blk_cell BK174.out 4).trans rfl
              have hcz22_5 : wc.cell? ⟨gb174, 5, none⟩ = some (.int .i64 a0_5) := (blk_cell BK174.out 5).trans rfl
              have hfz22_0 := blk_frozen BK174.out 0
              have hfz22_1 := blk_frozen BK174.out 1
              have hfz22_2 := blk_frozen BK174.out 2
              have hfz22_3 := blk_frozen BK174.out 3
              have hfz22_4 := blk_frozen BK174.out 4
              have hfz22_5 := blk_frozen BK174.out 5
              go_wp2
              go_ret
              exact ⟨by first | rfl | (simp [errW_none, errW_some] <;> rfl) | (simp [*, errW_none, errW_some] <;> rfl), by repeat (first | (with_reducible first | exact HB.out | apply below_alloc | apply pw_below_drewN | apply below_drew1 | refine below_set ?_ GE174.out) | exact HB.out)⟩
            · rw [if_neg c21] at H
              have c21b0 : ((wrap64 (a0_1)) == 21) = false := beq_eq_false_iff_ne.mpr c21
              have c21b1 : ((wrap64 (a0_1)) != 21) = true := bne_iff_ne.mpr c21
              by_cases c23 : (wrap64 (a0_1)) = 37
              · rw [if_pos c23] at H
                have c23b0 : ((wrap64 (a0_1)) == 37) = true := beq_iff_eq.mpr c23
                have c23b1 : ((wrap64 (a0_1)) != 37) = false := bne_eq_false_iff_eq.mpr c23
                clear c23
                obtain rfl := Option.some.inj H
                have hcz24_0 : wc.cell? ⟨gb174, 0, none⟩ = some (.int .i64 a0_0) := (blk_cell BK174.out 0).trans rfl
                have hcz24_1 : wc.cell? ⟨gb174, 1, none⟩ = some (.int .u16 a0_1) := (blk_cell BK174.out 1).trans rfl
                have hcz24_2 : wc.cell? ⟨gb174, 2, none⟩ = some (.int .u8 a0_2) := (blk_cell BK174.out 2).trans rfl
                have hcz24_3 : wc.cell? ⟨gb174, 3, none⟩ = some (.int .u8 a0_3) := (blk_cell BK174.out 3).trans rfl
                have hcz24_4 : wc.cell? ⟨gb174, 4, none⟩ = some (.int .u32 a0_4) := (blk_cell BK174.out 4).trans rfl
                have hcz24_5 : wc.cell? ⟨gb174, 5, none⟩ = some (.int .i64 a0_5) := (blk_cell BK174.out 5).trans rfl
                have hfz24_0 := blk_frozen BK174.out 0
                have hfz24_1 := blk_frozen BK174.out 1
                have hfz24_2 := blk_frozen BK174.out 2
                have hfz24_3 := blk_frozen BK174.out 3
                have hfz24_4 := blk_frozen BK174.out 4
                have hfz24_5 := blk_frozen BK174.out 5
                go_wp2
                go_ret
                exact ⟨by first | rfl | (simp [errW_none, errW_some] <;> rfl) | (simp [*, errW_none, errW_some] <;> rfl), by repeat (first | (with_reducible first | exact HB.out | apply below_alloc | apply pw_below_drewN | apply below_drew1 | refine below_set ?_ GE174.out) | exact HB.out)⟩
              · rw [if_neg c23] at H
                have c23b0 : ((wrap64 (a0_1)) == 37) = false := beq_eq_false_iff_ne.mpr c23
                have c23b1 : ((wrap64 (a0_1)) != 37) = true := bne_iff_ne.mpr c23
                by_cases c25 : (wrap64 (a0_1)) = 53
                · rw [if_pos c25] at H
                  have c25b0 : ((wrap64 (a0_1)) == 53) = true := beq_iff_eq.mpr c25
                  have c25b1 : ((wrap64 (a0_1)) != 53) = false := bne_eq_false_iff_eq.mpr c25
                  clear c25
                  obtain rfl := Option.some.inj H
                  have hcz26_0 : wc.cell? ⟨gb174, 0, none⟩ = some (.int .i64 a0_0) := (blk_cell BK174.out 0).trans rfl
                  have hcz26_1 : wc.cell? ⟨gb174, 1, none⟩ = some (.int .u16 a0_1) := (blk_cell BK174.out 1).trans rfl
                  have hcz26_2 : wc.cell? ⟨gb174, 2, none⟩ = some (.int .u8 a0_2) := (blk_cell BK174.out 2).trans rfl
                  have hcz26_3 : wc.cell? ⟨gb174, 3, none⟩ = some (.int .u8 a0_3) := (blk_cell BK174.out 3).trans rfl
                  have hcz26_4 : wc.cell? ⟨gb174, 4, none⟩ = some (.int .u32 a0_4) := (blk_cell BK174.out 4).trans rfl
                  have hcz26_5 : wc.cell? ⟨gb174, 5, none⟩ = some (.int .i64 a0_5) := (blk_cell BK174.out 5).trans rfl
                  have hfz26_0 := blk_frozen BK174.out 0
                  have hfz26_1 := blk_frozen BK174.out 1
                  have hfz26_2 := blk_frozen BK174.out 2
                  have hfz26_3 := blk_frozen BK174.out 3
                  have hfz26_4 := blk_frozen BK174.out 4
                  have hfz26_5 := blk_frozen BK174.out 5
                  go_wp2
                  go_ret
                  exact ⟨by first | rfl | (simp [errW_none, errW_some] <;> rfl) | (simp [*, errW_none, errW_some] <;> rfl), by repeat (first | (with_reducible first | exact HB.out | apply below_alloc | apply pw_below_drewN | apply below_drew1 | refine below_set ?_ GE174.out) | exact HB.out)⟩
                · rw [if_neg c25] at H
                  have c25b0 : ((wrap64 (a0_1)) == 53) = false := beq_eq_false_iff_ne.mpr c25
                  have c25b1 : ((wrap64 (a0_1)) != 53) = true := bne_iff_ne.mpr c25
                  obtain rfl := Option.some.inj H
                  have hcz27_0 : wc.cell? ⟨gb174, 0, none⟩ = some (.int .i64 a0_0) := (blk_cell BK174.out 0).trans rfl
                  have hcz27_1 : wc.cell? ⟨gb174, 1, none⟩ = some (.int .u16 a0_1) := (blk_cell BK174.out 1).trans rfl
                  have hcz27_2 : wc.cell? ⟨gb174, 2, none⟩ = some (.int .u8 a0_2) := (blk_cell BK174.out 2).trans rfl
                  have hcz27_3 : wc.cell? ⟨gb174, 3, none⟩ = some (.int .u8 a0_3) := (blk_cell BK174.out 3).trans rfl
                  have hcz27_4 : wc.cell? ⟨gb174, 4, none⟩ = some (.int .u32 a0_4) := (blk_cell BK174.out 4).trans rfl
                  have hcz27_5 : wc.cell? ⟨gb174, 5, none⟩ = some (.int .i64 a0_5) := (blk_cell BK174.out 5).trans rfl
                  have hfz27_0 := blk_frozen BK174.out 0
                  have hfz27_1 := blk_frozen BK174.out 1
                  have hfz27_2 := blk_frozen BK174.out 2
                  have hfz27_3 := blk_frozen BK174.out 3
                  have hfz27_4 := blk_frozen BK174.out 4
                  have hfz27_5 := blk_frozen BK174.out 5
                  go_wp2
                  go_ret
                  exact ⟨by first | rfl | (simp [errW_none, errW_some] <;> rfl) | (simp [*, errW_none, errW_some] <;> rfl), by repeat (first | (with_reducible first | exact HB.out | apply below_alloc | apply pw_below_drewN | apply below_drew1 | refine below_set ?_ GE174.out) | exact HB.out)⟩
          · rw [if_neg c20] at H
            have c20b0 : (a0_0 == 1) = false := beq_eq_false_iff_ne.mpr c20
            have c20b1 : (a0_0 != 1) = true := bne_iff_ne.mpr c20
            by_cases c28 : a0_0 = 2
            · rw [if_pos c28] at H
              have c28b0 : (a0_0 == 2) = true := beq_iff_eq.mpr c28
              have c28b1 : (a0_0 != 2) = false := bne_eq_false_iff_eq.mpr c28
              clear c28
              by_cases c29 : (wrap64 (a0_1)) = 21
              · rw [if_pos c29] at H
                have c29b0 : ((wrap64 (a0_1)) == 21) = true := beq_iff_eq.mpr c29
                have c29b1 : ((wrap64 (a0_1)) != 21) = false := bne_eq_false_iff_eq.mpr c29
                clear c29
                obtain rfl := Option.some.inj H
                have hcz30_0 : wc.cell? ⟨gb174, 0, none⟩ = some (.int .i64 a0_0) := (blk_cell BK174.out 0).trans rfl
                have hcz30_1 : wc.cell? ⟨gb174, 1, none⟩ = some (.int .u16 a0_1) := (blk_cell BK174.out 1).trans rfl
                have hcz30_2 : wc.cell? ⟨gb174, 2, none⟩ = some (.int .u8 a0_2) := (blk_cell BK174.out 2).trans rfl
                have hcz30_3 : wc.cell? ⟨gb174, 3, none⟩ = some (.int .u8 a0_3) := (blk_cell BK174.out 3).trans rfl
                have hcz30_4 : wc.cell? ⟨gb174, 4, none⟩ = some (.int .u32 a0_4) := (blk_cell BK174.out 4).trans rfl
                have hcz30_5 : wc.cell? ⟨gb174, 5, none⟩ = some (.int .i64 a0_5) := (blk_cell BK174.out 5).trans rfl
                have hfz30_0 := blk_frozen BK174.out 0
                have hfz30_1 := blk_frozen BK174.out 1
                have hfz30_2 := blk_frozen BK174.out 2
                have hfz30_3 := blk_frozen BK174.out 3
                have hfz30_4 := blk_frozen BK174.out 4
                have hfz30_5 := blk_frozen BK174.out 5
                go_wp2
                go_ret
                exact ⟨by first | rfl | (simp [errW_none, errW_some] <;> rfl) | (simp [*, errW_none, errW_some] <;> rfl), by repeat (first | (with_reducible first | exact HB.out | apply below_alloc | apply pw_below_drewN | apply below_drew1 | refine below_set ?_ GE174.out) | exact HB.out)⟩
              · rw [if_neg c29] at H
                have c29b0 : ((wrap64 (a0_1)) == 21) = false := beq_eq_false_iff_ne.mpr c29
                have c29b1 : ((wrap64 (a0_1)) != 21) = true := bne_iff_ne.mpr c29
                by_cases c31 : (wrap64 (a0_1)) = 37
                · rw [if_pos c31] at H
                  have c31b0 : ((wrap64 (a0_1)) == 37) = true := beq_iff_eq.mpr c31
                  have c31b1 : ((wrap64 (a0_1)) != 37) = false := bne_eq_false_iff_eq.mpr c31
                  clear c31
                  obtain rfl := Option.some.inj H
                  have hcz32_0 : wc.cell? ⟨gb174, 0, none⟩ = some (.int .i64 a0_0) := (blk_cell BK174.out 0).trans rfl
                  have hcz32_1 : wc.cell? ⟨gb174, 1, none⟩ = some (.int .u16 a0_1) := (blk_cell BK174.out 1).trans rfl
                  have hcz32_2 : wc.cell? ⟨gb174, 2, none⟩ = some (.int .u8 a0_2) := (blk_cell BK174.out 2).trans rfl
                  have hcz32_3 : wc.cell? ⟨gb174, 3, none⟩ = some (.int .u8 a0_3) := (blk_cell BK174.out 3).trans rfl
                  have hcz32_4 : wc.cell? ⟨gb174, 4, none⟩ = some (.int .u32 a0_4) := (blk_cell BK174.out 4).trans rfl
                  have hcz32_5 : wc.cell? ⟨gb174, 5, none⟩ = some (.int .i64 a0_5) := (blk_cell BK174.out 5).trans rfl
                  have hfz32_0 := blk_frozen BK174.out 0
                  have hfz32_1 := blk_frozen BK174.out 1
                  have hfz32_2 := blk_frozen BK174.out 2
                  have hfz32_3 := blk_frozen BK174.out 3
                  have hfz32_4 := blk_frozen BK174.out 4
                  have hfz32_5 := blk_frozen BK174.out 5
                  go_wp2
                  go_ret
                  exact ⟨by first | rfl | (simp [errW_none, errW_some] <;> rfl) | (simp [*, errW_none, errW_some] <;> rfl), by repeat (first | (with_reducible first | exact HB.out | apply below_alloc | apply pw_below_drewN | apply below_drew1 | refine below_set ?_ GE174.out) | exact HB.out)⟩
                · rw [if_neg c31] at H
                  have c31b0 : ((wrap64 (a0_1)) == 37) = false := beq_eq_false_iff_ne.mpr c31
                  have c31b1 : ((wrap64 (a0_1)) != 37) = true := bne_iff_ne.mpr c31
                  by_cases c33 : (wrap64 (a0_1)) = 53
                  · rw [if_pos c33] at H
                    have c33b0 : ((wrap64 (a0_1)) == 53) = true := beq_iff_eq.mpr c33
                    have c33b1 : ((wrap64 (a0_1)) != 53) = false := bne_eq_false_iff_eq.mpr c33
                    clear c33
                    obtain rfl := Option.some.inj H
                    have hcz34_0 : wc.cell? ⟨gb174, 0, none⟩ = some (.int .i64 a0_0) := (blk_cell BK174.out 0).trans rfl
                    have hcz34_1 : wc.cell? ⟨gb174, 1, none⟩ = some (.int .u16 a0_1) := (blk_cell BK174.out 1).trans rfl
                    have hcz34_2 : wc.cell? ⟨gb174, 2, none⟩ = some (.int .u8 a0_2) := (blk_cell BK174.out 2).trans rfl
                    have hcz34_3 : wc.cell? ⟨gb174, 3, none⟩ = some (.int .u8 a0_3) := (blk_cell BK174.out 3).trans rfl
                    have hcz34_4 : wc.cell? ⟨gb174, 4, none⟩ = some (.int .u32 a0_4) := (blk_cell BK174.out 4).trans rfl
                    have hcz34_5 : wc.cell? ⟨gb174, 5, none⟩ = some (.int .i64 a0_5) := (blk_cell BK174.out 5).trans rfl
                    have hfz34_0 := blk_frozen BK174.out 0
                    have hfz34_1 := blk_frozen BK174.out 1
                    have hfz34_2 := blk_frozen BK174.out 2
                    have hfz34_3 := blk_frozen BK174.out 3
                    have hfz34_4 := blk_frozen BK174.out 4
                    have hfz34_5 := blk_frozen BK174.out 5
                    go_wp2
                    go_ret
                    exact ⟨by first | rfl | (simp [errW_none, errW_some] <;> rfl) | (simp [*, errW_none, errW_some] <;> rfl), by repeat (first | (with_reducible first | exact HB.out | apply below_alloc | apply pw_below_drewN | apply below_drew1 | refine below_set ?_ GE174.out) | exact HB.out)⟩
                  · rw [if_neg c33] at H
                    have c33b0 : ((wrap64 (a0_1)) == 53) = false := beq_eq_false_iff_ne.mpr c33
                    have c33b1 : ((wrap64 (a0_1)) != 53) = true := bne_iff_ne.mpr c33
                    obtain rfl := Option.some.inj H
                    have hcz35_0 : wc.cell? ⟨gb174, 0, none⟩ = some (.int .i64 a0_0) := (blk_cell BK174.out 0).trans rfl
                    have hcz35_1 : wc.cell? ⟨gb174, 1, none⟩ = some (.int .u16 a0_1) := (blk_cell BK174.out 1).trans rfl
                    have hcz35_2 : wc.cell? ⟨gb174, 2, none⟩ = some (.int .u8 a0_2) := (blk_cell BK174.out 2).trans rfl
                    have hcz35_3 : wc.cell? ⟨gb174, 3, none⟩ = some (.int .u8 a0_3) := (blk_cell BK174.out 3).trans rfl
                    have hcz35_4 : wc.cell? ⟨gb174, 4, none⟩ = some (.int .u32 a0_4) := (blk_cell BK174.out 4).trans rfl
                    have hcz35_5 : wc.cell? ⟨gb174, 5, none⟩ = some (.int .i64 a0_5) := (blk_cell BK174.out 5).trans rfl
                    have hfz35_0 := blk_frozen BK174.out 0
                    have hfz35_1 := blk_frozen BK174.out 1
                    have hfz35_2 := blk_frozen BK174.out 2
                    have hfz35_3 := blk_frozen BK174.out 3
                    have hfz35_4 := blk_frozen BK174.out 4
                    have hfz35_5 := blk_frozen BK174.out 5
                    go_wp2
                    go_ret
                    exact ⟨by first | rfl | (simp [errW_none, errW_some] <;> rfl) | (simp [*, errW_none, errW_some] <;> rfl), by repeat (first | (with_reducible first | exact HB.out | apply below_alloc | apply pw_below_drewN | apply below_drew1 | refine below_set ?_ GE174.out) | exact HB.out)⟩
            · rw [if_neg c28] at H
              have c28b0 : (a0_0 == 2) = false := beq_eq_false_iff_ne.mpr c28
              have c28b1 : (a0_0 != 2) = true := bne_iff_ne.mpr c28
              obtain rfl := Option.some.inj H
              have hcz36_0 : wc.cell? ⟨gb174, 0, none⟩ = some (.int .i64 a0_0) := (blk_cell BK174.out 0).trans rfl
              have hcz36_1 : wc.cell? ⟨gb174, 1, none⟩ = some (.int .u16 a0_1) := (blk_cell BK174.out 1).trans rfl
              have hcz36_2 : wc.cell? ⟨gb174, 2, none⟩ = some (.int .u8 a0_2) := (blk_cell BK174.out 2).trans rfl
              have hcz36_3 : wc.cell? ⟨gb174, 3, none⟩ = some (.int .u8 a0_3) := (blk_cell BK174.out 3).trans rfl
              have hcz36_4 : wc.cell? ⟨gb174, 4, none⟩ = some (.int .u32 a0_4) := (blk_cell BK174.out 4).trans rfl
              have hcz36_5 : wc.cell? ⟨gb174, 5, none⟩ = some (.int .i64 a0_5) := (blk_cell BK174.out 5).trans rfl
              have hfz36_0 := blk_frozen BK174.out 0
              have hfz36_1 := blk_frozen BK174.out 1
              have hfz36_2 := blk_frozen BK174.out 2
              have hfz36_3 := blk_frozen BK174.out 3
              have hfz36_4 := blk_frozen BK174.out 4
              have hfz36_5 := blk_frozen BK174.out 5
              go_wp2
              go_ret
              exact ⟨by first | rfl | (simp [errW_none, errW_some] <;> rfl) | (simp [*, errW_none, errW_some] <;> rfl), by repeat (first | (with_reducible first | exact HB.out | apply below_alloc | apply pw_below_drewN | apply below_drew1 | refine below_set ?_ GE174.out) | exact HB.out)⟩

end Go.Proofs.Ytgodbniphkfgfaa.P
