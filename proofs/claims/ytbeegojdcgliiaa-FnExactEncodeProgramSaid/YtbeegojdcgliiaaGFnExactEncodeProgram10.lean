import Derived.Test.YtbeegojdcgliiaaGFnExactEncodeProgram9
import Derived.Test.YtbeegojdcgliiaaGFnExactEncodeProgram1
import Derived.Test.YtbeegojdcgliiaaGFnExactEncodeProgram2
namespace Go.Proofs.Ytbeegojdcgliiaa.P
open Go.RowKit Go.Proofs.YtbeegojdcgliiaaW.PrintWords Go.Proofs.YtbeegojdcgliiaaW.PrintLast Go.Proofs.YtbeegojdcgliiaaW.PrintMore
set_option linter.unusedVariables false
set_option linter.unusedSimpArgs false
def markI (k : Int) : S69 := ⟨IntKind.u16.wrap k, (k + 1) % 256, (k + 1 + 1) % 256, (k + 1 + 1 + 1) % 4294967296⟩
def marksI (n : Nat) (k0 : Int) : List S69 := (List.range n).map fun i : Nat => markI (k0 + 4 * (i : Int))
theorem marksI_length (n : Nat) (k0 : Int) : (marksI n k0).length = n := by simp [marksI]
theorem marksI_get (n : Nat) (k0 : Int) (i : Nat) (h : i < n) : rd_T69 (marksI n k0) (i : Int) = markI (k0 + 4 * (i : Int)) := by
  rw [rdIns_eq _ i (by rw [marksI_length]; exact h)]
  simp [marksI]
theorem rdI_set (l : List S69) (i : Nat) (x : S69) (h : i < l.length) : rd_T69 (l.set i x) (i : Int) = x := by
  rw [rdIns_eq _ i (by rw [List.length_set]; exact h), List.getElem_set_self]
theorem markInsS_ev (l : List S69) (k0 : Int) (h0 : 0 ≤ k0) (h1 : k0 ≤ 1000000) (hl : l.length ≤ 35184372088832) : Ev (fun k => laws_markInsS.f k l k0) (k0 + 4 * (l.length : Int), marksI l.length k0) := by
  have key := ev_loop (fun k (s : Int × List S69) i => laws_markInsS.l0 k s.2 s.1 i) l.length (fun i => (k0 + 4 * (i : Int), (marksI i k0) ++ l.drop i)) (k0, l) (k0 + 4 * (l.length : Int), marksI l.length k0) (by simp [marksI]) (by simp) (fun i hi r hr => by
    have hlen : ((marksI i k0) ++ l.drop i).length = l.length := by rw [List.length_append, marksI_length, List.length_drop]; omega
    refine ev_step _ (fun k => ?_) hr
    simp only [laws_markInsS.l0, Option.bind_some]
    rw [hlen, if_pos (by omega), if_pos (by omega), wrap64_id (i := k0 + 4 * (i : Int) + 1) (by omega) (by omega), wrap64_id (i := k0 + 4 * (i : Int) + 1 + 1) (by omega) (by omega), wrap64_id (i := k0 + 4 * (i : Int) + 1 + 1 + 1) (by omega) (by omega), wrap64_id (i := k0 + 4 * (i : Int) + 1 + 1 + 1 + 1) (by omega) (by omega), wrap64_id (i := (i : Int) + 1) (by omega) (by omega)]
    simp only [Int.toNat_natCast]
    have hlt : i < ((marksI i k0) ++ l.drop i).length := by omega
    rw [rdI_set _ i _ hlt, rdI_set _ i _ (by rw [List.length_set]; exact hlt), rdI_set _ i _ (by rw [List.length_set, List.length_set]; exact hlt), List.set_set, List.set_set, List.set_set]
    have e : ((marksI i k0) ++ l.drop i).set i (markI (k0 + 4 * (i : Int))) = marksI (i + 1) k0 ++ l.drop (i + 1) := by
      rw [List.set_append_right i _ (by rw [marksI_length]; omega), marksI_length, Nat.sub_self, List.drop_eq_getElem_cons hi, List.set_cons_zero]
      unfold marksI
      rw [List.range_succ, List.map_append, List.append_assoc]
      rfl
    unfold markI at e
    rw [e, show k0 + 4 * (i : Int) + 1 + 1 + 1 + 1 = k0 + 4 * ((i + 1 : Nat) : Int) by omega]
    rfl) (k0 + 4 * (l.length : Int), marksI l.length k0)
  refine Ev.congr (fun k => rfl) (key (ev_end fun k => ?_))
  simp only [laws_markInsS.l0]
  rw [marksI_length, if_neg (by omega)]
end Go.Proofs.Ytbeegojdcgliiaa.P

namespace Go.Proofs.Ytbeegojdcgliiaa.P
open Go.RowKit Go.Proofs.YtbeegojdcgliiaaW.PrintWords Go.Proofs.YtbeegojdcgliiaaW.PrintLast Go.Proofs.YtbeegojdcgliiaaW.PrintMore
attribute [local go_sem] max2_int min2_int max_two min_two max_three min_three max_four min_four   -- for this text's walks alone
set_option linter.unusedVariables false
set_option linter.unusedSimpArgs false

/-! ### spec_l1little: function 39 -/
def spec_l1little.l0 : Nat → Int → Int → List Int → Int → Option (List Int)
  | 0, _, _, _, _ => none
  | k + 1, x0, x1, x5, x6 => if x6 < x1 then (if x5.length < 140737488355328 then (spec_l1little.l0 k (IntKind.u64.wrap (Int.tdiv x0 256)) x1 (x5 ++ [(Int.tmod x0 256) % 256]) (wrap64 (x6 + 1))) else (none)) else (some x5)
def spec_l1little.f (k : Nat) (a0 : Int) (a1 : Int) : Option (List Int) := spec_l1little.l0 k a0 a1 ([] : List Int) 0
theorem spec_l1little.mono_l : ∀ k, (∀ y0 y1 y2 y3, LeO (spec_l1little.l0 k y0 y1 y2 y3) (spec_l1little.l0 (k + 1) y0 y1 y2 y3))
  | 0 => fun _ _ _ _ r h => by simp [spec_l1little.l0] at h
  | k + 1 => by
    have ih0 := spec_l1little.mono_l k
    · intro y0 y1 y2 y3
      unfold spec_l1little.l0
      repeat' first
      | (with_reducible exact ih0 _ _ _ _)
      | (with_reducible exact LeO.refl _)
      | (with_reducible exact LeO.none _)
      | (with_reducible refine LeO.ite ?_ ?_)
      | (with_reducible refine LeO.bind ?_ (fun _ => ?_))
      | exact ih0 _ _ _ _
      | exact LeO.none _
      | refine LeO.ite ?_ ?_
      | refine LeO.bind ?_ (fun _ => ?_)
theorem spec_l1little.mono : ∀ a0 a1 k, LeO (spec_l1little.f k a0 a1) (spec_l1little.f (k + 1) a0 a1) := by
  intro a0 a1 k
  have ih0 := spec_l1little.mono_l k
  unfold spec_l1little.f
  repeat' first
      | (with_reducible exact ih0 _ _ _ _)
      | (with_reducible exact LeO.refl _)
      | (with_reducible exact LeO.none _)
      | (with_reducible refine LeO.ite ?_ ?_)
      | (with_reducible refine LeO.bind ?_ (fun _ => ?_))
      | exact ih0 _ _ _ _
      | exact LeO.none _
      | refine LeO.ite ?_ ?_
      | refine LeO.bind ?_ (fun _ => ?_)
set_option maxHeartbeats 8000000 in
set_option maxRecDepth 100000 in
theorem spec_l1little.calls (k : Nat) (a0 : Int) (a1 : Int) (r : List Int) (w : World) (h : spec_l1little.f k a0 a1 = some r) :
    Calls Try.prog 39 #[.int .u64 a0, .int .i64 a1] w fun e w' => ∃ v0_ : Value, e = .returned (v0_) ∧ Kd.R (Kd.int .u8) 5 w' w.heap.size (fun _ => True) v0_ r ∧ Below w.heap.size w w' := by
  have HB := Aside0.mk (Below.refl w.heap.size w)
  have H : (spec_l1little.l0 k a0 a1 ([] : List Int) 0) = some r := h
  clear h
  have H' := Aside0.mk H
  clear H
  go_enter Try.func39, Try.ntmps39
  go_wp2
  go_loopg [0, 5, 6] k (fun kq v0 v5 v6 w' => ∃ (x0_1 : Int) (x5_1 : List Int) (x6_1 : Int), v0 = .int .u64 x0_1 ∧ v6 = .int .i64 x6_1 ∧ Aside0 (spec_l1little.l0 kq x0_1 a1 x5_1 x6_1 = some r) ∧ Aside0 (kq ≤ k) ∧ Aside0 (Kd.R (Kd.int .u8) 5 w' w.heap.size (fun _ => True) v5 x5_1) ∧ Aside0 (Below w.heap.size w w'))
  case atStart => exact ⟨(a0), (([] : List Int)), (0), (by first | rfl | (simp; done) | (simp [*]; done)), (by first | rfl | (simp; done) | (simp [*]; done)), H', ⟨Nat.le_refl _⟩, ⟨by first | exact Kd.R_nil _ _ _ _ _ | exact Kd.N_nil _ _ _ _ _ | exact Kd.V_nil _ _ _ _ _ | exact Kd.Q_nil _ _ _ _ _ | exact Kd.S_nil _ _ _ _ _⟩, ⟨by repeat (first | (with_reducible first | exact HB.out | apply below_alloc | apply pw_below_drewN | apply below_drew1) | exact HB.out)⟩⟩
  case round =>
    clear H'
    try clear p2
    obtain ⟨x0_1, x5_1, x6_1, rfl, rfl, HA, HK1, HO_5, HB⟩ := hrel
    cases gk with
    | zero => exact absurd HA.out (by simp [spec_l1little.l0])
    | succ k1 =>
      have H := HA.out
      clear HA
      simp only [spec_l1little.l0] at H
      by_cases c3 : x6_1 < a1
      · rw [if_pos c3] at H
        have c3b0 : decide (x6_1 < a1) = true := decide_eq_true c3
        clear c3
        by_cases c4 : x5_1.length < 140737488355328
        · rw [if_pos c4] at H
          have LMc4 := Aside0.mk c4
          clear c4
          obtain ⟨y159, hy159⟩ : ∃ y_ : List Int, y_ = (x5_1 ++ [(Int.tmod x0_1 256) % 256]) := ⟨_, rfl⟩
          replace H : (spec_l1little.l0 k1 (IntKind.u64.wrap (Int.tdiv x0_1 256)) a1 y159 (wrap64 (x6_1 + 1))) = some r := by first | (rw [hy159]; with_reducible exact H) | (have H2_ := (Option.bind_some _ _).symm.trans H; rw [hy159]; with_reducible exact H2_) | (have H2_ := (Option.bind_some _ _).symm.trans H; with_reducible exact H2_) | with_reducible exact H | (rw [hy159]; exact H) | exact H
          have Ny159 := Aside0.mk hy159
          clear hy159
          have H' := Aside0.mk H
          clear H
          go_wp2_with (first | ((with_reducible refine gate_builtin (b := .append) (xs := #[.tmp 12, .tmp 16]) rfl ?_); at_builtin; refine Kd.R_append (Kd.int .u8) (w0 := w) w.heap.size rfl (.tmp 12) (.tmp 16) 23 5 (.int .u8 0) 1 rfl Try.underlying23 info5 rfl (by decide) (by omega) u5 x5_1 ((Int.tmod x0_1 256) % 256) [.int .u8 ((Int.tmod x0_1 256) % 256)] (fun _ => True) (fun _ => False) rfl rfl ?aP (fun _ hk => hk.elim) ?aF ?aO ?aB ?aS ?aL ?_; (case aP => exact rfl); (case aB => exact (by repeat (first | (with_reducible first | exact HB.out | apply below_alloc | apply pw_below_drewN | apply below_drew1) | exact HB.out))); (case aF => exact (fun _ _ => trivial)); (case aO => exact (by (with_reducible repeat (first | apply Kd.R_alloc | apply Kd.R_drewN | apply Kd.R_drew)); exact HO_5.out)); (case aS => exact (below_size (by repeat (first | (with_reducible first | exact HB.out | apply below_alloc | apply pw_below_drewN | apply below_drew1) | exact HB.out)))); (case aL => have := LMc4.out; omega); intro v160 w5 ho hb hg hat; rw [← Ny159.out] at ho; have n0_ := Aside0.mk (hb); have n1_ := Aside0.mk (ho); clear HB; clear HO_5; have HB := n0_; have HO161 := n1_; clear n0_ n1_; clear ho hb hg hat))
          go_roundg k1
          case measure => have := HK1.out; omega
          case rel => exact ⟨(IntKind.u64.wrap (Int.tdiv x0_1 256)), (y159), (wrap64 (x6_1 + 1)), (by first | rfl | (simp; done) | (simp [*]; done)), (by first | rfl | (simp; done) | (simp [*]; done)), H', ⟨by have := HK1.out; omega⟩, ⟨by (with_reducible repeat (first | apply Kd.R_alloc | apply Kd.R_drewN | apply Kd.R_drew)); exact HO161.out⟩, ⟨by repeat (first | (with_reducible first | exact HB.out | apply below_alloc | apply pw_below_drewN | apply below_drew1) | exact HB.out)⟩⟩
        · rw [if_neg c4] at H
          exact absurd H (by simp)
      · rw [if_neg c3] at H
        have c3b0 : decide (x6_1 < a1) = false := decide_eq_false c3
        clear c3
        obtain rfl := Option.some.inj H
        go_wp2
        go_ret
        exact ⟨_, by first | rfl | (simp [errW_none, errW_some] <;> rfl) | (simp [*, errW_none, errW_some] <;> rfl), by (with_reducible repeat (first | apply Kd.R_alloc | apply Kd.R_drewN | apply Kd.R_drew)); exact HO_5.out, by repeat (first | (with_reducible first | exact HB.out | apply below_alloc | apply pw_below_drewN | apply below_drew1) | exact HB.out)⟩

end Go.Proofs.Ytbeegojdcgliiaa.P

namespace Go.Proofs.Ytbeegojdcgliiaa.P
open Go.RowKit Go.Proofs.YtbeegojdcgliiaaW.PrintWords Go.Proofs.YtbeegojdcgliiaaW.PrintLast Go.Proofs.YtbeegojdcgliiaaW.PrintMore
set_option linter.unusedVariables false
set_option linter.unusedSimpArgs false

/-- The n lowest bytes of v, the lowest first. -/
def le (v : Int) (n : Nat) : List Int := (List.range n).map fun i => v / 256 ^ i % 256
theorem le_length (v : Int) (n : Nat) : (le v n).length = n := by simp [le]
theorem le_succ (v : Int) (n : Nat) : le v (n + 1) = le v n ++ [v / 256 ^ n % 256] := by
  simp [le, List.range_succ]
theorem le_mem (v : Int) (n : Nat) : ∀ x ∈ le v n, 0 ≤ x ∧ x < 256 := by
  intro x hx
  simp only [le, List.mem_map] at hx
  obtain ⟨i, _, rfl⟩ := hx
  omega
theorem div_pow_succ (v : Int) (i : Nat) : v / 256 ^ (i + 1) = v / 256 ^ i / 256 := by
  rw [Int.pow_succ, Int.ediv_ediv_of_nonneg (Int.le_of_lt (Int.pow_pos (by decide)))]
theorem div_pow_range (v : Int) (h0 : 0 ≤ v) (h1 : v < 18446744073709551616) (i : Nat) : 0 ≤ v / 256 ^ i ∧ v / 256 ^ i < 18446744073709551616 := by
  have hp : (0 : Int) < 256 ^ i := Int.pow_pos (by decide)
  exact ⟨Int.ediv_nonneg h0 (Int.le_of_lt hp), Int.lt_of_le_of_lt (Int.ediv_le_self _ h0) h1⟩
theorem wrap_u64_id' {x : Int} (h0 : 0 ≤ x) (h1 : x < 18446744073709551616) : IntKind.u64.wrap x = x := by
  simp [IntKind.wrap, IntKind.bits, IntKind.signed]; omega
theorem l1little_ev (v : Int) (n : Nat) (h0 : 0 ≤ v) (h1 : v < 18446744073709551616) (hn : n ≤ 1000000) : Ev (fun k => spec_l1little.f k v n) (le v n) := by
  have key := ev_loop (fun k (s : Int × List Int) i => spec_l1little.l0 k s.1 n s.2 i) n (fun i => (v / 256 ^ i, le v i)) (v, []) (v / 256 ^ n, le v n) (by simp [le]) rfl (fun i hi r hr => by
    have hr2 := div_pow_range v h0 h1 i
    have hr3 := div_pow_range v h0 h1 (i + 1)
    rw [div_pow_succ] at hr3
    refine ev_step _ (fun k => ?_) hr
    simp only [spec_l1little.l0]
    rw [if_pos (by omega), le_length, if_pos (by omega), Int.tdiv_eq_ediv_of_nonneg hr2.1, Int.tmod_eq_emod_of_nonneg hr2.1, wrap_u64_id' hr3.1 hr3.2, wrap64_id (by omega) (by omega), le_succ, div_pow_succ, show v / 256 ^ i % 256 % 256 = v / 256 ^ i % 256 by omega]
    rfl) (le v n)
  refine Ev.congr (fun k => rfl) (key (ev_end fun k => ?_))
  simp only [spec_l1little.l0]
  rw [if_neg (by omega)]
end Go.Proofs.Ytbeegojdcgliiaa.P
