import Derived.Test.YtgodbniphkfgfaaGFnExactAssemble4
import Derived.Test.YtgodbniphkfgfaaGFnExactAssemble6
import Derived.Test.YtgodbniphkfgfaaGFnExactAssemble7
namespace Go.Proofs.Ytgodbniphkfgfaa.P
open Go.RowKit Go.Proofs.YtgodbniphkfgfaaW.PrintWords Go.Proofs.YtgodbniphkfgfaaW.PrintLast Go.Proofs.YtgodbniphkfgfaaW.PrintMore
attribute [local go_sem] max2_int min2_int max_two min_two max_three min_three max_four min_four   -- for this text's walks alone
set_option linter.unusedVariables false
set_option linter.unusedSimpArgs false

/-! ### laws_szItemS: function 15 -/
def laws_szItemS.f (l0 : List (S68)) (a1 : Int) : Option (Int) := if (wrap64 (a1 - (l0.length : Int))) < 0 then (some (-1)) else (some (wrap64 (a1 - (l0.length : Int))))
set_option maxHeartbeats 8000000 in
set_option maxRecDepth 100000 in
theorem laws_szItemS.calls (A0 : Option Addr) (c0 : Nat) (l0 : List (S68)) (a1 : Int) (r : Int) (w : World) (hr0 : Kd.C k68 w A0 l0.length l0) (hc0 : l0.length ≤ c0) (h : laws_szItemS.f l0 a1 = some r) :
    Calls Try.prog 15 #[.slice A0 l0.length c0, .int .i64 a1] w fun e w' => e = .returned (.int .i64 r) ∧ Drawn0 w w' := by
  have HR0 := Aside0.mk hr0
  have HC0 := Aside0.mk hc0
  clear hr0 hc0
  have H : (if (wrap64 (a1 - (l0.length : Int))) < 0 then (some (-1)) else (some (wrap64 (a1 - (l0.length : Int))))) = some r := h
  clear h
  by_cases c3 : (wrap64 (a1 - (l0.length : Int))) < 0
  · rw [if_pos c3] at H
    have c3b0 : decide ((wrap64 (a1 - (l0.length : Int))) < 0) = true := decide_eq_true c3
    clear c3
    obtain rfl := Option.some.inj H
    go_enter Try.func15, Try.ntmps15
    go_wp2
    go_ret
    exact ⟨by first | rfl | (simp; done) | (simp [*]; done), by repeat (first | exact Drawn0.refl _ | apply Drawn0.step)⟩
  · rw [if_neg c3] at H
    have c3b0 : decide ((wrap64 (a1 - (l0.length : Int))) < 0) = false := decide_eq_false c3
    clear c3
    obtain rfl := Option.some.inj H
    go_enter Try.func15, Try.ntmps15
    go_wp2
    go_ret
    exact ⟨by first | rfl | (simp; done) | (simp [*]; done), by repeat (first | exact Drawn0.refl _ | apply Drawn0.step)⟩

end Go.Proofs.Ytgodbniphkfgfaa.P

namespace Go.Proofs.Ytgodbniphkfgfaa.P
open Go.RowKit Go.Proofs.YtgodbniphkfgfaaW.PrintWords Go.Proofs.YtgodbniphkfgfaaW.PrintLast Go.Proofs.YtgodbniphkfgfaaW.PrintMore
set_option linter.unusedVariables false
set_option linter.unusedSimpArgs false

theorem below_set1 {B : Nat} {w W : World} (h : Below B w W) {p : Addr} (hp : B ≤ p.block) (v : Value) : Below B w (W.setCell p v) := h.setCell hp v
/-- A store leaves what is a cell a cell, and no more. -/
theorem cell_defd (w : World) (a b : Addr) (v : Value) : ((w.setCell a v).cell? b).isSome = (w.cell? b).isSome := by
  by_cases h : a = b
  · subst h
    cases hc : w.cell? a with
    | some u => rw [World.cell?_setCell_same w a v hc]; rfl
    | none =>
      unfold World.cell? at hc ⊢
      simp only [World.setCell, Array.getElem?_modify, if_true]
      cases hh : w.heap[a.block]? with
      | none => rfl
      | some x =>
        rw [hh] at hc
        cases x with
        | cells c e f =>
          simp only [Option.map_some] at hc ⊢
          cases hs : a.spot.isSome with
          | true => simp
          | false =>
            rw [hs] at hc
            simp only [Bool.false_eq_true, if_false] at hc ⊢
            rw [Array.getElem?_eq_none (by rw [Array.size_setIfInBounds]; exact Array.getElem?_eq_none_iff.1 hc)]
        | _ => rfl
  · rw [World.cell?_setCell_other w a b v h]

end Go.Proofs.Ytgodbniphkfgfaa.P

namespace Go.Proofs.Ytgodbniphkfgfaa.P
open Go.RowKit Go.Proofs.YtgodbniphkfgfaaW.PrintWords Go.Proofs.YtgodbniphkfgfaaW.PrintLast Go.Proofs.YtgodbniphkfgfaaW.PrintMore
attribute [local go_sem] max2_int min2_int max_two min_two max_three min_three max_four min_four   -- for this text's walks alone
set_option linter.unusedVariables false
set_option linter.unusedSimpArgs false

def markIt (x : Int) : S64 := ⟨x, ⟨IntKind.u16.wrap (wrap64 (x + 1)), wrap64 (wrap64 (x + 1) + 1) % 256, wrap64 (wrap64 (wrap64 (x + 1) + 1) + 1) % 256, wrap64 (wrap64 (wrap64 (wrap64 (x + 1) + 1) + 1) + 1) % 4294967296⟩, wrap64 (wrap64 (wrap64 (wrap64 (wrap64 (x + 1) + 1) + 1) + 1) + 1)⟩
def laws_markItemS.l0 : Nat → List (S64) → Int → Int → Option (Int × List (S64))
  | 0, _, _, _ => none
  | k + 1, x0, x1, x5 => if x5 < (x0.length : Int) then (if 0 ≤ x5 then (laws_markItemS.l0 k (x0.set (x5 : Int).toNat (markIt x1)) (wrap64 (wrap64 (wrap64 (wrap64 (wrap64 (wrap64 (x1 + 1) + 1) + 1) + 1) + 1) + 1)) (wrap64 (x5 + 1))) else (none)) else (some (x1, x0))
def laws_markItemS.f (k : Nat) (l0 : List (S64)) (a1 : Int) : Option (Int × List (S64)) := laws_markItemS.l0 k l0 a1 0
set_option maxHeartbeats 8000000 in
set_option maxRecDepth 100000 in
theorem laws_markItemS.calls (k : Nat) (P0_ : Nat → Prop) (u9000_ : Value) (l0 : List (S64)) (a1 : Int) (r1 : Int) (r2 : List (S64)) (w0 w : World) (hB : Below w0.heap.size w0 w) (ho0 : Kd.R k64 64 w w0.heap.size P0_ u9000_ l0) (h : laws_markItemS.f k l0 a1 = some (r1, r2)) :
    Calls Try.prog 20 #[u9000_, .int .i64 a1] w fun e w' => e = .returned (.int .i64 r1) ∧ Kd.R k64 64 w' w0.heap.size (fun k_ => (P0_ k_ ∨ w.heap.size ≤ k_)) u9000_ r2 ∧ Below w0.heap.size w0 w' ∧ Kept w w' (fun k_ => P0_ k_) := by
  have HO0 := Aside0.mk (show Kd.R k64 64 w w0.heap.size (fun k_ => (P0_ k_ ∨ w.heap.size ≤ k_)) u9000_ l0 from Kd.R_mono ho0 (fun k_ hk => (.inl hk)))
  have HP0 := Aside0.mk ho0.1
  have HK := Aside0.mk (Kept.refl w (fun k_ => P0_ k_))
  have HB := Aside0.mk hB
  clear hB ho0
  have H' := Aside0.mk (show laws_markItemS.l0 k l0 a1 0 = some (r1, r2) from h)
  clear h
  go_enter Try.func20, Try.ntmps20
  go_wp2
  go_loopg [1, 5] k (fun kq v1 v5 w' => ∃ (x0 : List (S64)) (x1 : Int) (x5 : Int), v1 = .int .i64 x1 ∧ v5 = .int .i64 x5 ∧ Aside0 (laws_markItemS.l0 kq x0 x1 x5 = some (r1, r2)) ∧ Aside0 (kq ≤ k) ∧ Aside0 (Kd.R k64 64 w' w0.heap.size (fun k_ => (P0_ k_ ∨ w.heap.size ≤ k_)) u9000_ x0) ∧ Aside0 (Kept w w' (fun k_ => P0_ k_)) ∧ Aside0 (Below w0.heap.size w0 w'))
  case atStart => exact ⟨l0, a1, 0, rfl, rfl, H', ⟨Nat.le_refl _⟩, HO0, HK, HB⟩
  case round =>
    clear H' HO0 HK HB
    obtain ⟨x0, x1, x5, rfl, rfl, HA, HK1, HO, HK, HB⟩ := hrel
    cases gk with
    | zero => exact absurd HA.out (by simp [laws_markItemS.l0])
    | succ k1 =>
      have H := HA.out
      clear HA
      simp only [laws_markItemS.l0] at H
      by_cases c3 : x5 < (x0.length : Int)
      · rw [if_pos c3] at H
        by_cases c4 : 0 ≤ x5
        · rw [if_pos c4] at H
          have HG := Aside0.mk H
          obtain ⟨g, co5, eo5, gb5, gl5, cl5, HG5⟩ := Kd.R_form HO.out (by omega)
          subst eo5
          have hP := HP0.out g rfl
          obtain ⟨c, hcl, hM, hcc, hfr⟩ := Kd.R_elem HO.out z64 x5 c4 c3
          have HS := Aside0.mk (Kd.R_seg HO.out x5 c4 c3 (seg := [.int .i64 (markIt x1).f0, .int .u16 (markIt x1).f1.f0, .int .u8 (markIt x1).f1.f1, .int .u8 (markIt x1).f1.f2, .int .u32 (markIt x1).f1.f3, .int .i64 (markIt x1).f2]) (j := 0) hcl hcc (show 6 ≤ 6 from by decide) (x' := markIt x1) (by rw [List.take_zero, List.nil_append, List.drop_of_length_le (by rw [hcl]; exact Nat.le_refl 6), List.append_nil]; exact k64_mkM _ _ _ (markIt x1)) (fun _ hk => hk))
          obtain rfl := k64_openM hM
          obtain ⟨q, rfl⟩ := Int.eq_ofNat_of_zero_le c4
          have e0 := hcc 0 _ rfl
          have e1 := hcc 1 _ rfl
          have e2 := hcc 2 _ rfl
          have e3 := hcc 3 _ rfl
          have e4 := hcc 4 _ rfl
          have e5 := hcc 5 _ rfl
          have f0 := hfr 0
          have f1 := hfr 1
          have f2 := hfr 2
          have f3 := hfr 3
          have f4 := hfr 4
          have f5 := hfr 5
          have hs : k64.sz = 6 := rfl
          rw [hs, Int.toNat_natCast] at e0 e1 e2 e3 e4 e5 f0 f1 f2 f3 f4 f5
          rw [Nat.add_zero] at e0 f0
          have c3b : decide ((q : Int) < (x0.length : Int)) = true := decide_eq_true c3
          have c3c : decide (q < x0.length) = true := decide_eq_true (by omega)
          have c4b : decide (0 ≤ (q : Int)) = true := decide_eq_true c4
          have GB := Aside0.mk gb5
          have HPg := Aside0.mk hP
          clear H hcc hfr hM hcl gb5 gl5 cl5 HG5 hs hP
          go_wp2
          have hS := HS.out
          rw [Int.toNat_natCast] at hS
          have HR1 := Aside0.mk hS.1
          have HG1 := Aside0.mk hS.2
          clear hS
          go_roundg k1
          case measure => have := HK1.out; omega
          case rel => exact ⟨_, _, _, rfl, rfl, HG, ⟨by have := HK1.out; omega⟩, ⟨by rw [Int.toNat_natCast]; exact HR1.out⟩, ⟨Kept.of_grown (S := (fun k_ => P0_ k_)) HG1.out HK.out (fun k_ e_ => by cases e_; exact .inl HPg.out)⟩, ⟨below_set1 (below_set1 (below_set1 (below_set1 (below_set1 (below_set1 HB.out GB.out _) GB.out _) GB.out _) GB.out _) GB.out _) GB.out _⟩⟩
        · rw [if_neg c4] at H
          exact absurd H (by simp)
      · rw [if_neg c3] at H
        have c3b : decide (x5 < (x0.length : Int)) = false := decide_eq_false c3
        simp only [Option.some.injEq, Prod.mk.injEq] at H
        obtain ⟨rfl, rfl⟩ := H
        obtain ⟨Ao9, co9, eo9⟩ := Kd.R_slice HO.out
        subst eo9
        clear c3
        go_wp2
        go_ret
        exact ⟨rfl, HO.out, HB.out, HK.out⟩

end Go.Proofs.Ytgodbniphkfgfaa.P

namespace Go.Proofs.Ytgodbniphkfgfaa.P
open Go.RowKit Go.Proofs.YtgodbniphkfgfaaW.PrintWords Go.Proofs.YtgodbniphkfgfaaW.PrintLast Go.Proofs.YtgodbniphkfgfaaW.PrintMore
set_option linter.unusedVariables false
set_option linter.unusedSimpArgs false
/-! Items: copied, compared, marked. -/
def itemOf (x : S68) : S64 := ⟨x.f0, insOf x.f1, x.f2⟩
theorem rdItem_eq (l : List S64) (i : Nat) (h : i < l.length) : rd_T64 l (i : Int) = l[i] := by
  simp [rd_T64, List.getD_eq_getElem?_getD, List.getElem?_eq_getElem h]
theorem rdLItem_eq (l : List S68) (i : Nat) (h : i < l.length) : rd_T68 l (i : Int) = l[i] := by
  simp [rd_T68, List.getD_eq_getElem?_getD, List.getElem?_eq_getElem h]
theorem szItemS_is (l : List S68) (left : Int) (hl : l.length ≤ maxLen) (h0 : 0 ≤ left) (h1 : left ≤ 1048576) : laws_szItemS.f l left = some (if left - (l.length : Int) < 0 then -1 else left - (l.length : Int)) := by
  unfold maxLen at hl
  unfold laws_szItemS.f
  rw [wrap64_id (by omega) (by omega)]
  split <;> rfl
theorem toItemS_ev (l : List S68) (hl : l.length ≤ 11728124029610) : Ev (fun k => laws_toItemS.f k l) (l.map itemOf) := by
  have key := ev_loop (fun k s i => laws_toItemS.l0 k l s i) l.length (filled itemOf l z64) _ _ (filled_zero itemOf l z64) (filled_all itemOf l z64) (fun i hi r hr => by
    have hf := filled_length itemOf l z64 i (by omega)
    refine ev_step _ (fun k => ?_) hr
    simp only [laws_toItemS.l0, laws_toItem.f, laws_toIns.f, Option.bind_some]
    rw [if_pos (by omega), if_pos (by omega), if_pos (by omega), wrap64_id (by omega) (by omega), Int.toNat_natCast, rdLItem_eq l i hi]
    have := filled_set itemOf l z64 i hi
    unfold itemOf insOf at this ⊢
    rw [this]
    rfl) (l.map itemOf) (ev_end fun k => by simp only [laws_toItemS.l0]; rw [if_neg (by omega)])
  refine Ev.congr (fun k => ?_) key
  unfold laws_toItemS.f
  rw [if_pos (by omega), if_pos (by omega), Int.toNat_natCast]
theorem eqItem_is (a : S64) : laws_eqItem.f a.f0 a.f1.f0 a.f1.f1 a.f1.f2 a.f1.f3 a.f2 a.f0 a.f1.f0 a.f1.f1 a.f1.f2 a.f1.f3 a.f2 = some true := by
  unfold laws_eqItem.f
  rw [if_pos rfl]
  rcases eqIns_is a.f1 a.f1 with ⟨h1, _⟩ | ⟨_, h1⟩
  · rw [h1, Option.bind_some, if_pos rfl, if_pos rfl]
  · exact absurd rfl h1
theorem eqItemS_ev (a : List S64) (ha : a.length ≤ 35184372088832) : Ev (fun k => laws_eqItemS.f k a a) true := by
  refine Ev.congr (f := fun k => laws_eqItemS.l0 k a a 0) (fun k => by unfold laws_eqItemS.f; rw [if_pos rfl]) ?_
  refine ev_loop_eq (fun k i => laws_eqItemS.l0 k a a i) a a rfl (ev_end fun k => ?_) (fun i hi hi' e r hr => ev_step _ (fun k => ?_) hr) (fun i hi hi' e => absurd rfl e) true (by simp)
  · simp only [laws_eqItemS.l0]; rw [if_neg (by omega)]
  · simp only [laws_eqItemS.l0]
    rw [if_pos (by omega), if_pos (by omega), if_pos (by omega), rdItem_eq a i hi, eqItem_is, Option.bind_some, if_pos rfl, wrap64_id (by omega) (by omega)]
    rfl
theorem markItemS_ev (l : List S64) (hl : l.length ≤ 1048576) : ∃ l2, Ev (fun k => laws_markItemS.f k l 1) (1 + 6 * (l.length : Int), l2) := by
  have key : ∀ d i : Nat, i + d = l.length → ∀ x : List S64, x.length = l.length → ∃ l2, Ev (fun k => laws_markItemS.l0 k x (1 + 6 * (i : Int)) (i : Int)) (1 + 6 * (l.length : Int), l2) := by
    intro d
    induction d with
    | zero =>
      intro i hi x hx
      obtain rfl : i = l.length := by omega
      exact ⟨x, ev_end fun k => by simp only [laws_markItemS.l0]; rw [if_neg (by omega)]⟩
    | succ d ih =>
      intro i hi x hx
      obtain ⟨l2, h2⟩ := ih (i + 1) (by omega) (x.set i (markIt (1 + 6 * (i : Int)))) (by rw [List.length_set]; exact hx)
      refine ⟨l2, ev_step _ (fun k => ?_) h2⟩
      simp only [laws_markItemS.l0]
      rw [if_pos (by omega), if_pos (by omega), Int.toNat_natCast, wrap64_id (i := (i : Int) + 1) (by omega) (by omega), wrap64_id (i := 1 + 6 * (i : Int) + 1) (by omega) (by omega), wrap64_id (i := 1 + 6 * (i : Int) + 1 + 1) (by omega) (by omega), wrap64_id (i := 1 + 6 * (i : Int) + 1 + 1 + 1) (by omega) (by omega), wrap64_id (i := 1 + 6 * (i : Int) + 1 + 1 + 1 + 1) (by omega) (by omega), wrap64_id (i := 1 + 6 * (i : Int) + 1 + 1 + 1 + 1 + 1) (by omega) (by omega), wrap64_id (i := 1 + 6 * (i : Int) + 1 + 1 + 1 + 1 + 1 + 1) (by omega) (by omega)]
      rw [show 1 + 6 * (i : Int) + 1 + 1 + 1 + 1 + 1 + 1 = 1 + 6 * ((i + 1 : Nat) : Int) by omega]
      rfl
  obtain ⟨l2, h⟩ := key l.length 0 (by omega) l rfl
  exact ⟨l2, h⟩
end Go.Proofs.Ytgodbniphkfgfaa.P

namespace Go.Proofs.Ytgodbniphkfgfaa.P
open Go.RowKit Go.Proofs.YtgodbniphkfgfaaW.PrintWords Go.Proofs.YtgodbniphkfgfaaW.PrintLast Go.Proofs.YtgodbniphkfgfaaW.PrintMore
attribute [local go_sem] max2_int min2_int max_two min_two max_three min_three max_four min_four   -- for this text's walks alone
set_option linter.unusedVariables false
set_option linter.unusedSimpArgs false

/-! ### spec_l1codes: function 72 -/
def spec_l1codes.f  : Option (List Int) := some (([0, 1, 32, 96, 97, 2, 3, 4, 12, 20, 28, 36, 44, 52, 60, 68, 76, 84, 92, 164, 172, 100, 108, 116, 124, 132, 7, 135, 5, 21, 29, 37, 45, 53, 61, 69, 77, 6, 22] : List Int))
set_option maxHeartbeats 8000000 in
set_option maxRecDepth 100000 in
theorem spec_l1codes.calls  (r : List Int) (w : World) (h : spec_l1codes.f  = some r) :
    Calls Try.prog 72 #[] w fun e w' => ∃ v0_ : Value, e = .returned (v0_) ∧ Kd.R (Kd.int .i64) 3 w' w.heap.size (fun _ => True) v0_ r ∧ Below w.heap.size w w' := by
  have HB := Aside0.mk (Below.refl w.heap.size w)
  have H : (some (([0, 1, 32, 96, 97, 2, 3, 4, 12, 20, 28, 36, 44, 52, 60, 68, 76, 84, 92, 164, 172, 100, 108, 116, 124, 132, 7, 135, 5, 21, 29, 37, 45, 53, 61, 69, 77, 6, 22] : List Int))) = some r := h
  clear h
  obtain ⟨y166, hy166⟩ : ∃ y_ : List Int, y_ = (([0, 1, 32, 96, 97, 2, 3, 4, 12, 20, 28, 36, 44, 52, 60, 68, 76, 84, 92, 164, 172, 100, 108, 116, 124, 132, 7, 135, 5, 21, 29, 37, 45, 53, 61, 69, 77, 6, 22] : List Int)) := ⟨_, rfl⟩
  replace H : (some y166) = some r := by first | (rw [hy166]; with_reducible exact H) | (have H2_ := (Option.bind_some _ _).symm.trans H; rw [hy166]; with_reducible exact H2_) | (have H2_ := (Option.bind_some _ _).symm.trans H; with_reducible exact H2_) | with_reducible exact H | (rw [hy166]; exact H) | exact H
  have Ny166 := Aside0.mk hy166
  clear hy166
  obtain rfl := Option.some.inj H
  go_enter Try.func72, Try.ntmps72
  go_wp2_with (first | ((with_reducible refine gate_dst (N := 1) rfl ?_); refine Kd.R_lit (Kd.int .i64) _ 3 ?hg (N := 1) ?hd (xs := ([0, 1, 32, 96, 97, 2, 3, 4, 12, 20, 28, 36, 44, 52, 60, 68, 76, 84, 92, 164, 172, 100, 108, 116, 124, 132, 7, 135, 5, 21, 29, 37, 45, 53, 61, 69, 77, 6, 22] : List Int)) (inner := [.int .i64 0, .int .i64 1, .int .i64 32, .int .i64 96, .int .i64 97, .int .i64 2, .int .i64 3, .int .i64 4, .int .i64 12, .int .i64 20, .int .i64 28, .int .i64 36, .int .i64 44, .int .i64 52, .int .i64 60, .int .i64 68, .int .i64 76, .int .i64 84, .int .i64 92, .int .i64 164, .int .i64 172, .int .i64 100, .int .i64 108, .int .i64 116, .int .i64 124, .int .i64 132, .int .i64 7, .int .i64 135, .int .i64 5, .int .i64 21, .int .i64 29, .int .i64 37, .int .i64 45, .int .i64 53, .int .i64 61, .int .i64 69, .int .i64 77, .int .i64 6, .int .i64 22]) (ok := fun _ => True) (okp := fun _ => True) ?hr ?hp (fun _ hk => hk) trivial (Below.refl _ _) (Nat.le_refl _) (by simp) ?_; (case hd => rfl); (case hg => rfl); (case hr => first | (go_simp; done) | (go_simp; rfl)); (case hp => exact (Reps.one (show Kd.M (Kd.int .i64) _ _ _ 0 [.int .i64 0] from rfl) (Reps.one (show Kd.M (Kd.int .i64) _ _ _ 1 [.int .i64 1] from rfl) (Reps.one (show Kd.M (Kd.int .i64) _ _ _ 32 [.int .i64 32] from rfl) (Reps.one (show Kd.M (Kd.int .i64) _ _ _ 96 [.int .i64 96] from rfl) (Reps.one (show Kd.M (Kd.int .i64) _ _ _ 97 [.int .i64 97] from rfl) (Reps.one (show Kd.M (Kd.int .i64) _ _ _ 2 [.int .i64 2] from rfl) (Reps.one (show Kd.M (Kd.int .i64) _ _ _ 3 [.int .i64 3] from rfl) (Reps.one (show Kd.M (Kd.int .i64) _ _ _ 4 [.int .i64 4] from rfl) (Reps.one (show Kd.M (Kd.int .i64) _ _ _ 12 [.int .i64 12] from rfl) (Reps.one (show Kd.M (Kd.int .i64) _ _ _ 20 [.int .i64 20] from rfl) (Reps.one (show Kd.M (Kd.int .i64) _ _ _ 28 [.int .i64 28] from rfl) (Reps.one (show Kd.M (Kd.int .i64) _ _ _ 36 [.int .i64 36] from rfl) (Reps.one (show Kd.M (Kd.int .i64) _ _ _ 44 [.int .i64 44] from rfl) (Reps.one (show Kd.M (Kd.int .i64) _ _ _ 52 [.int .i64 52] from rfl) (Reps.one (show Kd.M (Kd.int .i64) _ _ _ 60 [.int .i64 60] from rfl) (Reps.one (show Kd.M (Kd.int .i64) _ _ _ 68 [.int .i64 68] from rfl) (Reps.one (show Kd.M (Kd.int .i64) _ _ _ 76 [.int .i64 76] from rfl) (Reps.one (show Kd.M (Kd.int .i64) _ _ _ 84 [.int .i64 84] from rfl) (Reps.one (show Kd.M (Kd.int .i64) _ _ _ 92 [.int .i64 92] from rfl) (Reps.one (show Kd.M (Kd.int .i64) _ _ _ 164 [.int .i64 164] from rfl) (Reps.one (show Kd.M (Kd.int .i64) _ _ _ 172 [.int .i64 172] from rfl) (Reps.one (show Kd.M (Kd.int .i64) _ _ _ 100 [.int .i64 100] from rfl) (Reps.one (show Kd.M (Kd.int .i64) _ _ _ 108 [.int .i64 108] from rfl) (Reps.one (show Kd.M (Kd.int .i64) _ _ _ 116 [.int .i64 116] from rfl) (Reps.one (show Kd.M (Kd.int .i64) _ _ _ 124 [.int .i64 124] from rfl) (Reps.one (show Kd.M (Kd.int .i64) _ _ _ 132 [.int .i64 132] from rfl) (Reps.one (show Kd.M (Kd.int .i64) _ _ _ 7 [.int .i64 7] from rfl) (Reps.one (show Kd.M (Kd.int .i64) _ _ _ 135 [.int .i64 135] from rfl) (Reps.one (show Kd.M (Kd.int .i64) _ _ _ 5 [.int .i64 5] from rfl) (Reps.one (show Kd.M (Kd.int .i64) _ _ _ 21 [.int .i64 21] from rfl) (Reps.one (show Kd.M (Kd.int .i64) _ _ _ 29 [.int .i64 29] from rfl) (Reps.one (show Kd.M (Kd.int .i64) _ _ _ 37 [.int .i64 37] from rfl) (Reps.one (show Kd.M (Kd.int .i64) _ _ _ 45 [.int .i64 45] from rfl) (Reps.one (show Kd.M (Kd.int .i64) _ _ _ 53 [.int .i64 53] from rfl) (Reps.one (show Kd.M (Kd.int .i64) _ _ _ 61 [.int .i64 61] from rfl) (Reps.one (show Kd.M (Kd.int .i64) _ _ _ 69 [.int .i64 69] from rfl) (Reps.one (show Kd.M (Kd.int .i64) _ _ _ 77 [.int .i64 77] from rfl) (Reps.one (show Kd.M (Kd.int .i64) _ _ _ 6 [.int .i64 6] from rfl) (Reps.one (show Kd.M (Kd.int .i64) _ _ _ 22 [.int .i64 22] from rfl) (Reps.none _ _))))))))))))))))))))))))))))))))))))))))); intro v167 w1 ho2 hb hg_ hnew_; clear hg_ hnew_; (first | rw [← Ny166.out] at ho2 | (simp only [Int.reduceToNat] at ho2; rw [← Ny166.out] at ho2)); have n0_ := Aside0.mk (Kd.R_lower ho2 (below_size (by repeat (first | (with_reducible first | exact HB.out | apply below_alloc | apply pw_below_drewN | apply below_drew1) | exact HB.out)))); have n1_ := Aside0.mk (below_step (by repeat (first | (with_reducible first | exact HB.out | apply below_alloc | apply pw_below_drewN | apply below_drew1) | exact HB.out)) hb); clear HB; have HO168 := n0_; have HB := n1_; clear n0_ n1_; clear hb ho2))
  go_ret
  exact ⟨_, by first | rfl | (simp [errW_none, errW_some] <;> rfl) | (simp [*, errW_none, errW_some] <;> rfl), by (with_reducible repeat (first | apply Kd.R_alloc | apply Kd.R_drewN | apply Kd.R_drew)); exact HO168.out, by repeat (first | (with_reducible first | exact HB.out | apply below_alloc | apply pw_below_drewN | apply below_drew1) | exact HB.out)⟩

end Go.Proofs.Ytgodbniphkfgfaa.P

namespace Go.Proofs.Ytgodbniphkfgfaa.P
open Go.RowKit Go.Proofs.YtgodbniphkfgfaaW.PrintWords Go.Proofs.YtgodbniphkfgfaaW.PrintLast Go.Proofs.YtgodbniphkfgfaaW.PrintMore
attribute [local go_sem] max2_int min2_int max_two min_two max_three min_three max_four min_four   -- for this text's walks alone
set_option linter.unusedVariables false
set_option linter.unusedSimpArgs false

/-! ### spec_l1known: function 61 -/
def spec_l1known.l0 : Nat → Int → List Int → Int → Option (Bool)
  | 0, _, _, _ => none
  | k + 1, x0, x3, x4 => if x4 < (x3.length : Int) then (if 0 ≤ x4 then (if (rd x3 x4) = x0 then (some true) else (spec_l1known.l0 k x0 x3 (wrap64 (x4 + 1)))) else (none)) else (some false)
def spec_l1known.f (k : Nat) (a0 : Int) : Option (Bool) := (spec_l1codes.f).bind fun t169 => (spec_l1known.l0 k a0 t169 0)
set_option maxHeartbeats 8000000 in
set_option maxRecDepth 100000 in
theorem spec_l1known.calls (k : Nat) (a0 : Int) (r : Bool) (w : World) (h : spec_l1known.f k a0 = some r) :
    Calls Try.prog 61 #[.int .i64 a0] w fun e w' => e = .returned (.bool r) ∧ Below w.heap.size w w' := by
  have HB := Aside0.mk (Below.refl w.heap.size w)
  have H : ((spec_l1codes.f).bind fun t169 => (spec_l1known.l0 k a0 t169 0)) = some r := h
  clear h
  replace H := Option.bind_eq_some_iff.mp H
  obtain ⟨t169, A20, H⟩ := H
  replace H : (spec_l1known.l0 k a0 t169 0) = some r := H
  have A2 := Aside0.mk A20
  clear A20
  have H' := Aside0.mk H
  clear H
  go_enter Try.func61, Try.ntmps61
  go_wp2_with (first | ((with_reducible refine gate_callee (f := 72) rfl ?_); refine goesL_ (some 5) rfl rfl Try.func72 (by kernel_rfl) rfl #[] rfl (by (try simp only [List.map_toArray, List.map_cons, List.map_nil]); first | done | rfl | (simp only [List.length_drop, List.length_take]; rfl)) ?_; (with_reducible refine (spec_l1codes.calls  t169 _ A2.out).mono ?_); rintro e w3 ⟨v170, rfl, ho0, hb⟩; refine ⟨_, rfl, ?_⟩; have n0_ := Aside0.mk (Kd.R_lower ho0 (below_size (by repeat (first | (with_reducible first | exact HB.out | apply below_alloc | apply pw_below_drewN | apply below_drew1) | exact HB.out)))); have n1_ := Aside0.mk (below_step (by repeat (first | (with_reducible first | exact HB.out | apply below_alloc | apply pw_below_drewN | apply below_drew1) | exact HB.out)) hb); clear HB; have HO171 := n0_; have HB := n1_; clear n0_ n1_; (try clear hb); (try clear hb2); (try clear hk); (try clear hi); (try clear ho0)))
  go_loopg [4] k (fun kq v4 w' => ∃ (x4_1 : Int), v4 = .int .i64 x4_1 ∧ Aside0 (spec_l1known.l0 kq a0 t169 x4_1 = some r) ∧ Aside0 (kq ≤ k) ∧ Aside0 (Kd.R (Kd.int .i64) 3 w' w.heap.size (fun _ => True) v170 t169) ∧ Aside0 (Below w.heap.size w w'))
  case atStart => exact ⟨(0), (by first | rfl | (simp; done) | (simp [*]; done)), H', ⟨Nat.le_refl _⟩, ⟨by (with_reducible repeat (first | apply Kd.R_alloc | apply Kd.R_drewN | apply Kd.R_drew)); exact HO171.out⟩, ⟨by repeat (first | (with_reducible first | exact HB.out | apply below_alloc | apply pw_below_drewN | apply below_drew1) | exact HB.out)⟩⟩
  case round =>
    clear H'
    try clear p2
    obtain ⟨x4_1, rfl, HA, HK1, HO_3, HB⟩ := hrel
    cases gk with
    | zero => exact absurd HA.out (by simp [spec_l1known.l0])
    | succ k1 =>
      have H := HA.out
      clear HA
      simp only [spec_l1known.l0] at H
      by_cases c4 : x4_1 < (t169.length : Int)
      · rw [if_pos c4] at H
        have c4b0 : decide (x4_1 < (t169.length : Int)) = true := decide_eq_true c4
        clear c4
        by_cases c5 : 0 ≤ x4_1
        · rw [if_pos c5] at H
          have c5b0 : decide (0 ≤ x4_1) = true := decide_eq_true c5
          clear c5
          by_cases c6 : (rd t169 x4_1) = a0
          · rw [if_pos c6] at H
            have c6b0 : ((rd t169 x4_1) == a0) = true := beq_iff_eq.mpr c6
            have c6b1 : ((rd t169 x4_1) != a0) = false := bne_eq_false_iff_eq.mpr c6
            clear c6
            obtain rfl := Option.some.inj H
            obtain ⟨Ao7, co7, eo7⟩ := Kd.R_slice HO_3.out
            subst eo7
            have p172 : 0 ≤ (x4_1 : Int) := of_decide_eq_true (by first | (with_reducible assumption) | assumption)
            have q172 : x4_1 < (t169.length : Int) := of_decide_eq_true (by first | (with_reducible assumption) | assumption)
            obtain ⟨ad172, e172, hx172_0⟩ := Kd.at_int (Kd.R_reads' HO_3.out).2.2 x4_1 p172 q172
            cases e172
            replace p172 := eq_true p172
            replace q172 := eq_true q172
            go_wp2
            go_ret
            exact ⟨by first | rfl | (simp [errW_none, errW_some] <;> rfl) | (simp [*, errW_none, errW_some] <;> rfl), by repeat (first | (with_reducible first | exact HB.out | apply below_alloc | apply pw_below_drewN | apply below_drew1) | exact HB.out)⟩
          · rw [if_neg c6] at H
            have c6b0 : ((rd t169 x4_1) == a0) = false := beq_eq_false_iff_ne.mpr c6
            have c6b1 : ((rd t169 x4_1) != a0) = true := bne_iff_ne.mpr c6
            have H' := Aside0.mk H
            clear H
            obtain ⟨Ao8, co8, eo8⟩ := Kd.R_slice HO_3.out
            subst eo8
            have p172 : 0 ≤ (x4_1 : Int) := of_decide_eq_true (by first | (with_reducible assumption) | assumption)
            have q172 : x4_1 < (t169.length : Int) := of_decide_eq_true (by first | (with_reducible assumption) | assumption)
            obtain ⟨ad172, e172, hx172_0⟩ := Kd.at_int (Kd.R_reads' HO_3.out).2.2 x4_1 p172 q172
            cases e172
            replace p172 := eq_true p172
            replace q172 := eq_true q172
            go_wp2
            go_roundg k1
            case measure => have := HK1.out; omega
            case rel => exact ⟨(wrap64 (x4_1 + 1)), (by first | rfl | (simp; done) | (simp [*]; done)), H', ⟨by have := HK1.out; omega⟩, ⟨by (with_reducible repeat (first | apply Kd.R_alloc | apply Kd.R_drewN | apply Kd.R_drew)); exact HO_3.out⟩, ⟨by repeat (first | (with_reducible first | exact HB.out | apply below_alloc | apply pw_below_drewN | apply below_drew1) | exact HB.out)⟩⟩
        · rw [if_neg c5] at H
          exact absurd H (by simp)
      · rw [if_neg c4] at H
        have c4b0 : decide (x4_1 < (t169.length : Int)) = false := decide_eq_false c4
        clear c4
        obtain rfl := Option.some.inj H
        obtain ⟨Ao9, co9, eo9⟩ := Kd.R_slice HO_3.out
        subst eo9
        go_wp2
        go_ret
        exact ⟨by first | rfl | (simp [errW_none, errW_some] <;> rfl) | (simp [*, errW_none, errW_some] <;> rfl), by repeat (first | (with_reducible first | exact HB.out | apply below_alloc | apply pw_below_drewN | apply below_drew1) | exact HB.out)⟩

end Go.Proofs.Ytgodbniphkfgfaa.P

namespace Go.Proofs.Ytgodbniphkfgfaa.P
open Go.RowKit Go.Proofs.YtgodbniphkfgfaaW.PrintWords Go.Proofs.YtgodbniphkfgfaaW.PrintLast Go.Proofs.YtgodbniphkfgfaaW.PrintMore
attribute [local go_sem] max2_int min2_int max_two min_two max_three min_three max_four min_four   -- for this text's walks alone
set_option linter.unusedVariables false
set_option linter.unusedSimpArgs false

/-! ### spec_l1isTest: function 62 -/
def spec_l1isTest.f (k : Nat) (a0 : Int) : Option (Bool) := (spec_l1known.f k a0).bind fun t173 => (if t173 = true then (if (Int.tmod a0 8) = 5 then (some (a0 != 5)) else (some false)) else (some false))
set_option maxHeartbeats 8000000 in
set_option maxRecDepth 100000 in
theorem spec_l1isTest.calls (k : Nat) (a0 : Int) (r : Bool) (w : World) (h : spec_l1isTest.f k a0 = some r) :
    Calls Try.prog 62 #[.int .i64 a0] w fun e w' => e = .returned (.bool r) ∧ Below w.heap.size w w' := by
  have HB := Aside0.mk (Below.refl w.heap.size w)
  have H : ((spec_l1known.f k a0).bind fun t173 => (if t173 = true then (if (Int.tmod a0 8) = 5 then (some (a0 != 5)) else (some false)) else (some false))) = some r := h
  clear h
  replace H := Option.bind_eq_some_iff.mp H
  obtain ⟨t173, A20, H⟩ := H
  replace H : (if t173 = true then (if (Int.tmod a0 8) = 5 then (some (a0 != 5)) else (some false)) else (some false)) = some r := H
  have A2 := Aside0.mk A20
  clear A20
  by_cases c3 : t173 = true
  · subst c3
    have H1 : (if (Int.tmod a0 8) = 5 then (some (a0 != 5)) else (some false)) = some r := by rw [if_pos rfl] at H; exact H
    clear H
    have H := H1
    clear H1
    by_cases c4 : (Int.tmod a0 8) = 5
    · rw [if_pos c4] at H
      have c4b0 : ((Int.tmod a0 8) == 5) = true := beq_iff_eq.mpr c4
      have c4b1 : ((Int.tmod a0 8) != 5) = false := bne_eq_false_iff_eq.mpr c4
      clear c4
      obtain rfl := Option.some.inj H
      go_enter Try.func62, Try.ntmps62
      go_wp2_with (first | ((with_reducible refine gate_callee (f := 61) rfl ?_); refine goesL_ (some 4) rfl rfl Try.func61 (by kernel_rfl) rfl #[.int .i64 a0] rfl (by (try simp only [List.map_toArray, List.map_cons, List.map_nil]); first | done | rfl | (simp only [List.length_drop, List.length_take]; rfl)) ?_; (with_reducible refine (spec_l1known.calls k a0 true _ A2.out).mono ?_); rintro e w5 ⟨rfl, hb⟩; refine ⟨_, rfl, ?_⟩; have n0_ := Aside0.mk (below_step (by repeat (first | (with_reducible first | exact HB.out | apply below_alloc | apply pw_below_drewN | apply below_drew1) | exact HB.out)) hb); clear HB; have HB := n0_; clear n0_; (try clear hb); (try clear hb2); (try clear hk); (try clear hi)))
      go_ret
      exact ⟨by first | rfl | (simp [errW_none, errW_some] <;> rfl) | (simp [*, errW_none, errW_some] <;> rfl), by repeat (first | (with_reducible first | exact HB.out | apply below_alloc | apply pw_below_drewN | apply below_drew1) | exact HB.out)⟩
    · rw [if_neg c4] at H
      have c4b0 : ((Int.tmod a0 8) == 5) = false := beq_eq_false_iff_ne.mpr c4
      have c4b1 : ((Int.tmod a0 8) != 5) = true := bne_iff_ne.mpr c4
      obtain rfl := Option.some.inj H
      go_enter Try.func62, Try.ntmps62
      go_wp2_with (first | ((with_reducible refine gate_callee (f := 61) rfl ?_); refine goesL_ (some 4) rfl rfl Try.func61 (by kernel_rfl) rfl #[.int .i64 a0] rfl (by (try simp only [List.map_toArray, List.map_cons, List.map_nil]); first | done | rfl | (simp only [List.length_drop, List.length_take]; rfl)) ?_; (with_reducible refine (spec_l1known.calls k a0 true _ A2.out).mono ?_); rintro e w6 ⟨rfl, hb⟩; refine ⟨_, rfl, ?_⟩; have n0_ := Aside0.mk (below_step (by repeat (first | (with_reducible first | exact HB.out | apply below_alloc | apply pw_below_drewN | apply below_drew1) | exact HB.out)) hb); clear HB; have HB := n0_; clear n0_; (try clear hb); (try clear hb2); (try clear hk); (try clear hi)))
      go_ret
      exact ⟨by first | rfl | (simp [errW_none, errW_some] <;> rfl) | (simp [*, errW_none, errW_some] <;> rfl), by repeat (first | (with_reducible first | exact HB.out | apply below_alloc | apply pw_below_drewN | apply below_drew1) | exact HB.out)⟩
  · replace c3 := Bool.eq_false_iff.mpr c3
    subst c3
    have H1 : (some false) = some r := by rw [if_neg (show ¬ (false = true) by decide)] at H; exact H
    clear H
    have H := H1
    clear H1
    obtain rfl := Option.some.inj H
    go_enter Try.func62, Try.ntmps62
    go_wp2_with (first | ((with_reducible refine gate_callee (f := 61) rfl ?_); refine goesL_ (some 4) rfl rfl Try.func61 (by kernel_rfl) rfl #[.int .i64 a0] rfl (by (try simp only [List.map_toArray, List.map_cons, List.map_nil]); first | done | rfl | (simp only [List.length_drop, List.length_take]; rfl)) ?_; (with_reducible refine (spec_l1known.calls k a0 false _ A2.out).mono ?_); rintro e w7 ⟨rfl, hb⟩; refine ⟨_, rfl, ?_⟩; have n0_ := Aside0.mk (below_step (by repeat (first | (with_reducible first | exact HB.out | apply below_alloc | apply pw_below_drewN | apply below_drew1) | exact HB.out)) hb); clear HB; have HB := n0_; clear n0_; (try clear hb); (try clear hb2); (try clear hk); (try clear hi)))
    go_ret
    exact ⟨by first | rfl | (simp [errW_none, errW_some] <;> rfl) | (simp [*, errW_none, errW_some] <;> rfl), by repeat (first | (with_reducible first | exact HB.out | apply below_alloc | apply pw_below_drewN | apply below_drew1) | exact HB.out)⟩

end Go.Proofs.Ytgodbniphkfgfaa.P

namespace Go.Proofs.Ytgodbniphkfgfaa.P
open Go.RowKit Go.Proofs.YtgodbniphkfgfaaW.PrintWords Go.Proofs.YtgodbniphkfgfaaW.PrintLast Go.Proofs.YtgodbniphkfgfaaW.PrintMore
attribute [local go_sem] max2_int min2_int max_two min_two max_three min_three max_four min_four   -- for this text's walks alone
set_option linter.unusedVariables false
set_option linter.unusedSimpArgs false

/-! ### impl_sortOf: function 63 -/
mutual
def impl_sortOf.j0 : Nat → Int → Bool → Option (Int)
  | 0, _, _ => none
  | k + 1, x3, x4 => if x4 = true then (some 1) else (if x3 = 5 then (some 3) else (if x3 = 21 then (impl_sortOf.j1 k x3 (x3 == 21)) else (if x3 = 29 then (impl_sortOf.j1 k x3 (x3 == 29)) else (if x3 = 37 then (impl_sortOf.j1 k x3 (x3 == 37)) else (if x3 = 45 then (impl_sortOf.j1 k x3 (x3 == 45)) else (if x3 = 53 then (impl_sortOf.j1 k x3 (x3 == 53)) else (if x3 = 61 then (impl_sortOf.j1 k x3 (x3 == 61)) else (if x3 = 69 then (impl_sortOf.j1 k x3 (x3 == 69)) else (impl_sortOf.j1 k x3 (x3 == 77))))))))))
def impl_sortOf.j1 : Nat → Int → Bool → Option (Int)
  | 0, _, _ => none
  | k + 1, x3, x35 => if x35 = true then (some 2) else (if x3 = 6 then (some 4) else (if x3 = 22 then (some 4) else (some 0)))
end
def impl_sortOf.f (k : Nat) (a0 : Int) : Option (Int) := if a0 = 0 then (impl_sortOf.j0 k a0 (a0 == 0)) else (if a0 = 1 then (impl_sortOf.j0 k a0 (a0 == 1)) else (if a0 = 32 then (impl_sortOf.j0 k a0 (a0 == 32)) else (if a0 = 96 then (impl_sortOf.j0 k a0 (a0 == 96)) else (if a0 = 97 then (impl_sortOf.j0 k a0 (a0 == 97)) else (if a0 = 2 then (impl_sortOf.j0 k a0 (a0 == 2)) else (if a0 = 3 then (impl_sortOf.j0 k a0 (a0 == 3)) else (if a0 = 4 then (impl_sortOf.j0 k a0 (a0 == 4)) else (if a0 = 12 then (impl_sortOf.j0 k a0 (a0 == 12)) else (if a0 = 20 then (impl_sortOf.j0 k a0 (a0 == 20)) else (if a0 = 28 then (impl_sortOf.j0 k a0 (a0 == 28)) else (if a0 = 36 then (impl_sortOf.j0 k a0 (a0 == 36)) else (if a0 = 44 then (impl_sortOf.j0 k a0 (a0 == 44)) else (if a0 = 52 then (impl_sortOf.j0 k a0 (a0 == 52)) else (if a0 = 60 then (impl_sortOf.j0 k a0 (a0 == 60)) else (if a0 = 68 then (impl_sortOf.j0 k a0 (a0 == 68)) else (if a0 = 76 then (impl_sortOf.j0 k a0 (a0 == 76)) else (if a0 = 84 then (impl_sortOf.j0 k a0 (a0 == 84)) else (if a0 = 92 then (impl_sortOf.j0 k a0 (a0 == 92)) else (if a0 = 164 then (impl_sortOf.j0 k a0 (a0 == 164)) else (if a0 = 172 then (impl_sortOf.j0 k a0 (a0 == 172)) else (if a0 = 100 then (impl_sortOf.j0 k a0 (a0 == 100)) else (if a0 = 108 then (impl_sortOf.j0 k a0 (a0 == 108)) else (if a0 = 116 then (impl_sortOf.j0 k a0 (a0 == 116)) else (if a0 = 124 then (impl_sortOf.j0 k a0 (a0 == 124)) else (if a0 = 132 then (impl_sortOf.j0 k a0 (a0 == 132)) else (if a0 = 7 then (impl_sortOf.j0 k a0 (a0 == 7)) else (impl_sortOf.j0 k a0 (a0 == 135))))))))))))))))))))))))))))
set_option maxHeartbeats 8000000 in
set_option maxRecDepth 100000 in
theorem impl_sortOf.calls (k : Nat) (a0 : Int) (r : Int) (w : World) (h : impl_sortOf.f k a0 = some r) :
    Calls Try.prog 63 #[.int .u16 a0] w fun e w' => e = .returned (.int .i64 r) ∧ Drawn0 w w' := by
  have H : (if a0 = 0 then (impl_sortOf.j0 k a0 (a0 == 0)) else (if a0 = 1 then (impl_sortOf.j0 k a0 (a0 == 1)) else (if a0 = 32 then (impl_sortOf.j0 k a0 (a0 == 32)) else (if a0 = 96 then (impl_sortOf.j0 k a0 (a0 == 96)) else (if a0 = 97 then (impl_sortOf.j0 k a0 (a0 == 97)) else (if a0 = 2 then (impl_sortOf.j0 k a0 (a0 == 2)) else (if a0 = 3 then (impl_sortOf.j0 k a0 (a0 == 3)) else (if a0 = 4 then (impl_sortOf.j0 k a0 (a0 == 4)) else (if a0 = 12 then (impl_sortOf.j0 k a0 (a0 == 12)) else (if a0 = 20 then (impl_sortOf.j0 k a0 (a0 == 20)) else (if a0 = 28 then (impl_sortOf.j0 k a0 (a0 == 28)) else (if a0 = 36 then (impl_sortOf.j0 k a0 (a0 == 36)) else (if a0 = 44 then (impl_sortOf.j0 k a0 (a0 == 44)) else (if a0 = 52 then (impl_sortOf.j0 k a0 (a0 == 52)) else (if a0 = 60 then (impl_sortOf.j0 k a0 (a0 == 60)) else (if a0 = 68 then (impl_sortOf.j0 k a0 (a0 == 68)) else (if a0 = 76 then (impl_sortOf.j0 k a0 (a0 == 76)) else (if a0 = 84 then (impl_sortOf.j0 k a0 (a0 == 84)) else (if a0 = 92 then (impl_sortOf.j0 k a0 (a0 == 92)) else (if a0 = 164 then (impl_sortOf.j0 k a0 (a0 == 164)) else (if a0 = 172 then (impl_sortOf.j0 k a0 (a0 == 172)) else (if a0 = 100 then (impl_sortOf.j0 k a0 (a0 == 100)) else (if a0 = 108 then (impl_sortOf.j0 k a0 (a0 == 108)) else (if a0 = 116 then (impl_sortOf.j0 k a0 (a0 == 116)) else (if a0 = 124 then (impl_sortOf.j0 k a0 (a0 == 124)) else (if a0 = 132 then (impl_sortOf.j0 k a0 (a0 == 132)) else (if a0 = 7 then (impl_sortOf.j0 k a0 (a0 == 7)) else (impl_sortOf.j0 k a0 (a0 == 135))))))))))))))))))))))))))))) = some r := h
  clear h
  have HC2 := Aside0.mk H
  clear H
  go_enter Try.func63, Try.ntmps63
  go_upto_if 4 with (fail)
  go_cut [4] (fun v4 wc => ∃ (kq : Nat) (x4_1 : Bool), v4 = .bool x4_1 ∧ Aside0 (impl_sortOf.j0 kq a0 x4_1 = some r) ∧ Aside0 (kq ≤ k) ∧ Drawn0 w wc)
  case first =>
    have H := HC2.out
    clear HC2
    by_cases c3 : a0 = 0
    · rw [if_pos c3] at H
      have c3b0 : (a0 == 0) = true := beq_iff_eq.mpr c3
      have c3b1 : (a0 != 0) = false := bne_eq_false_iff_eq.mpr c3
      clear c3
      (first | rw [c3b0] | (simp only [i64_w, i32_w]; rw [c3b0]) | skip)
      have H' := Aside0.mk H
      clear H
      go_wp2
      go_meet
      case rel => exact ⟨_, ((a0 == 0)), (by first | rfl | (simp; done) | (simp [*]; done)), H', ⟨by first | omega | exact Nat.le_refl _⟩, by repeat (first | exact Drawn0.refl _ | apply Drawn0.step)⟩
    · rw [if_neg c3] at H
      have c3b0 : (a0 == 0) = false := beq_eq_false_iff_ne.mpr c3
      have c3b1 : (a0 != 0) = true := bne_iff_ne.mpr c3
      (first | rw [c3b0] | (simp only [i64_w, i32_w]; rw [c3b0]) | skip)
      by_cases c4 : a0 = 1
      · rw [if_pos c4] at H
        have c4b0 : (a0 == 1) = true := beq_iff_eq.mpr c4
        have c4b1 : (a0 != 1) = false := bne_eq_false_iff_eq.mpr c4
        clear c4
        have H' := Aside0.mk H
        clear H
        go_wp2
        go_meet
        case rel => exact ⟨_, ((a0 == 1)), (by first | rfl | (simp; done) | (simp [*]; done)), H', ⟨by first | omega | exact Nat.le_refl _⟩, by repeat (first | exact Drawn0.refl _ | apply Drawn0.step)⟩
      · rw [if_neg c4] at H
        have c4b0 : (a0 == 1) = false := beq_eq_false_iff_ne.mpr c4
        have c4b1 : (a0 != 1) = true := bne_iff_ne.mpr c4
        by_cases c5 : a0 = 32
        · rw [if_pos c5] at H
          have c5b0 : (a0 == 32) = true := beq_iff_eq.mpr c5
          have c5b1 : (a0 != 32) = false := bne_eq_false_iff_eq.mpr c5
          clear c5
          have H' := Aside0.mk H
          clear H
          go_wp2
          go_meet
          case rel => exact ⟨_, ((a0 == 32)), (by first | rfl | (simp; done) | (simp [*]; done)), H', ⟨by first | omega | exact Nat.le_refl _⟩, by repeat (first | exact Drawn0.refl _ | apply Drawn0.step)⟩
        · rw [if_neg c5] at H
          have c5b0 : (a0 == 32) = false := beq_eq_false_iff_ne.mpr c5
          have c5b1 : (a0 != 32) = true := bne_iff_ne.mpr c5
          by_cases c6 : a0 = 96
          · rw [if_pos c6] at H
            have c6b0 : (a0 == 96) = true := beq_iff_eq.mpr c6
            have c6b1 : (a0 != 96) = false := bne_eq_false_iff_eq.mpr c6
            clear c6
            have H' := Aside0.mk H
            clear H
            go_wp2
            go_meet
            case rel => exact ⟨_, ((a0 == 96)), (by first | rfl | (simp; done) | (simp [*]; done)), H', ⟨by first | omega | exact Nat.le_refl _⟩, by repeat (first | exact Drawn0.refl _ | apply Drawn0.step)⟩
          · rw [if_neg c6] at H
            have c6b0 : (a0 == 96) = false := beq_eq_false_iff_ne.mpr c6
            have c6b1 : (a0 != 96) = true := bne_iff_ne.mpr c6
            by_cases c7 : a0 = 97
            · rw [if_pos c7] at H
              have c7b0 : (a0 == 97) = true := beq_iff_eq.mpr c7
              have c7b1 : (a0 != 97) = false := bne_eq_false_iff_eq.mpr c7
              clear c7
              have H' := Aside0.mk H
              clear H
              go_wp2
              go_meet
              case rel => exact ⟨_, ((a0 == 97)), (by first | rfl | (simp; done) | (simp [*]; done)), H', ⟨by first | omega | exact Nat.le_refl _⟩, by repeat (first | exact Drawn0.refl _ | apply Drawn0.step)⟩
            · rw [if_neg c7] at H
              have c7b0 : (a0 == 97) = false := beq_eq_false_iff_ne.mpr c7
              have c7b1 : (a0 != 97) = true := bne_iff_ne.mpr c7
              by_cases c8 : a0 = 2
              · rw [if_pos c8] at H
                have c8b0 : (a0 == 2) = true := beq_iff_eq.mpr c8
                have c8b1 : (a0 != 2) = false := bne_eq_false_iff_eq.mpr c8
                clear c8
                have H' := Aside0.mk H
                clear H
                go_wp2
                go_meet
                case rel => exact ⟨_, ((a0 == 2)), (by first | rfl | (simp; done) | (simp [*]; done)), H', ⟨by first | omega | exact Nat.le_refl _⟩, by repeat (first | exact Drawn0.refl _ | apply Drawn0.step)⟩
              · rw [if_neg c8] at H
                have c8b0 : (a0 == 2) = false := beq_eq_false_iff_ne.mpr c8
                have c8b1 : (a0 != 2) = true := bne_iff_ne.mpr c8
                by_cases c9 : a0 = 3
                · rw [if_pos c9] at H
                  have c9b0 : (a0 == 3) = true := beq_iff_eq.mpr c9
                  have c9b1 : (a0 != 3) = false := bne_eq_false_iff_eq.mpr c9
                  clear c9
                  have H' := Aside0.mk H
                  clear H
                  go_wp2
                  go_meet
                  case rel => exact ⟨_, ((a0 == 3)), (by first | rfl | (simp; done) | (simp [*]; done)), H', ⟨by first | omega | exact Nat.le_refl _⟩, by repeat (first | exact Drawn0.refl _ | apply Drawn0.step)⟩
                · rw [if_neg c9] at H
                  have c9b0 : (a0 == 3) = false := beq_eq_false_iff_ne.mpr c9
                  have c9b1 : (a0 != 3) = true := bne_iff_ne.mpr c9
                  by_cases c10 : a0 = 4
                  · rw [if_pos c10] at H
                    have c10b0 : (a0 == 4) = true := beq_iff_eq.mpr c10
                    have c10b1 : (a0 != 4) = false := bne_eq_false_iff_eq.mpr c10
                    clear c10
                    have H' := Aside0.mk H
                    clear H
                    go_wp2
                    go_meet
                    case rel => exact ⟨_, ((a0 == 4)), (by first | rfl | (simp; done) | (simp [*]; done)), H', ⟨by first | omega | exact Nat.le_refl _⟩, by repeat (first | exact Drawn0.refl _ | apply Drawn0.step)⟩
                  · rw [if_neg c10] at H
                    have c10b0 : (a0 == 4) = false := beq_eq_false_iff_ne.mpr c10
                    have c10b1 : (a0 != 4) = true := bne_iff_ne.mpr c10
                    by_cases c11 : a0 = 12
                    · rw [if_pos c11] at H
                      have c11b0 : (a0 == 12) = true := beq_iff_eq.mpr c11
                      have c11b1 : (a0 != 12) = false := bne_eq_false_iff_eq.mpr c11
                      clear c11
                      have H' := Aside0.mk H
                      clear H
                      go_wp2
                      go_meet
                      case rel => exact ⟨_, ((a0 == 12)), (by first | rfl | (simp; done) | (simp [*]; done)), H', ⟨by first | omega | exact Nat.le_refl _⟩, by repeat (first | exact Drawn0.refl _ | apply Drawn0.step)⟩
                    · rw [if_neg c11] at H
                      have c11b0 : (a0 == 12) = false := beq_eq_false_iff_ne.mpr c11
                      have c11b1 : (a0 != 12) = true := bne_iff_ne.mpr c11
                      by_cases c12 : a0 = 20
                      · rw [if_pos c12] at H
                        have c12b0 : (a0 == 20) = true := beq_iff_eq.mpr c12
                        have c12b1 : (a0 != 20) = false := bne_eq_false_iff_eq.mpr c12
                        clear c12
                        have H' := Aside0.mk H
                        clear H
                        go_wp2
                        go_meet
                        case rel => exact ⟨_, ((a0 == 20)), (by first | rfl | (simp; done) | (simp [*]; done)), H', ⟨by first | omega | exact Nat.le_refl _⟩, by repeat (first | exact Drawn0.refl _ | apply Drawn0.step)⟩
                      · rw [if_neg c12] at H
                        have c12b0 : (a0 == 20) = false := beq_eq_false_iff_ne.mpr c12
                        have c12b1 : (a0 != 20) = true := bne_iff_ne.mpr c12
                        by_cases c13 : a0 = 28
                        · rw [if_pos c13] at H
                          have c13b0 : (a0 == 28) = true := beq_iff_eq.mpr c13
                          have c13b1 : (a0 != 28) = false := bne_eq_false_iff_eq.mpr c13
                          clear c13
                          have H' := Aside0.mk H
                          clear H
                          go_wp2
                          go_meet
                          case rel => exact ⟨_, ((a0 == 28)), (by first | rfl | (simp; done) | (simp [*]; done)), H', ⟨by first | omega | exact Nat.le_refl _⟩, by repeat (first | exact Drawn0.refl _ | apply Drawn0.step)⟩
                        · rw [if_neg c13] at H
                          have c13b0 : (a0 == 28) = false := beq_eq_false_iff_ne.mpr c13
                          have c13b1 : (a0 != 28) = true := bne_iff_ne.mpr c13
                          by_cases c14 : a0 = 36
                          · rw [if_pos c14] at H
                            have c14b0 : (a0 == 36) = true := beq_iff_eq.mpr c14
                            have c14b1 : (a0 != 36) = false := bne_eq_false_iff_eq.mpr c14
                            clear c14
                            have H' := Aside0.mk H
                            clear H
                            go_wp2
                            go_meet
                            case rel => exact ⟨_, ((a0 == 36)), (by first | rfl | (simp; done) | (simp [*]; done)), H', ⟨by first | omega | exact Nat.le_refl _⟩, by repeat (first | exact Drawn0.refl _ | apply Drawn0.step)⟩
                          · rw [if_neg c14] at H
                            have c14b0 : (a0 == 36) = false := beq_eq_false_iff_ne.mpr c14
                            have c14b1 : (a0 != 36) = true := bne_iff_ne.mpr c14
                            by_cases c15 : a0 = 44
                            · rw [if_pos c15] at H
                              have c15b0 : (a0 == 44) = true := beq_iff_eq.mpr c15
                              have c15b1 : (a0 != 44) = false := bne_eq_false_iff_eq.mpr c15
                              clear c15
                              have H' := Aside0.mk H
                              clear H
                              go_wp2
                              go_meet
                              case rel => exact ⟨_, ((a0 == 44)), (by first | rfl | (simp; done) | (simp [*]; done)), H', ⟨by first | omega | exact Nat.le_refl _⟩, by repeat (first | exact Drawn0.refl _ | apply Drawn0.step)⟩
                            · rw [if_neg c15] at H
                              have c15b0 : (a0 == 44) = false := beq_eq_false_iff_ne.mpr c15
                              have c15b1 : (a0 != 44) = true := bne_iff_ne.mpr c15
                              by_cases c16 : a0 = 52
                              · rw [if_pos c16] at H
                                have c16b0 : (a0 == 52) = true := beq_iff_eq.mpr c16
                                have c16b1 : (a0 != 52) = false := bne_eq_false_iff_eq.mpr c16
                                clear c16
                                have H' := Aside0.mk H
                                clear H
                                go_wp2
                                go_meet
                                case rel => exact ⟨_, ((a0 == 52)), (by first | rfl | (simp; done) | (simp [*]; done)), H', ⟨by first | omega | exact Nat.le_refl _⟩, by repeat (first | exact Drawn0.refl _ | apply Drawn0.step)⟩
                              · rw [if_neg c16] at H
                                have c16b0 : (a0 == 52) = false := beq_eq_false_iff_ne.mpr c16
                                have c16b1 : (a0 != 52) = true := bne_iff_ne.mpr c16
                                by_cases c17 : a0 = 60
                                · rw [if_pos c17] at H
                                  have c17b0 : (a0 == 60) = true := beq_iff_eq.mpr c17
                                  have c17b1 : (a0 != 60) = false := bne_eq_false_iff_eq.mpr c17
                                  clear c17
                                  have H' := Aside0.mk H
                                  clear H
                                  go_wp2
                                  go_meet
                                  case rel => exact ⟨_, ((a0 == 60)), (by first | rfl | (simp; done) | (simp [*]; done)), H', ⟨by first | omega | exact Nat.le_refl _⟩, by repeat (first | exact Drawn0.refl _ | apply Drawn0.step)⟩
                                · rw [if_neg c17] at H
                                  have c17b0 : (a0 == 60) = false := beq_eq_false_iff_ne.mpr c17
                                  have c17b1 : (a0 != 60) = true := bne_iff_ne.mpr c17
                                  by_cases c18 : a0 = 68
                                  · rw [if_pos c18] at H
                                    have c18b0 : (a0 == 68) = true := beq_iff_eq.mpr c18
                                    have c18b1 : (a0 != 68) = false := bne_eq_false_iff_eq.mpr c18
                                    clear c18
                                    have H' := Aside0.mk H
                                    clear H
                                    go_wp2
                                    go_meet
                                    case rel => exact ⟨_, ((a0 == 68)), (by first | rfl | (simp; done) | (simp [*]; done)), H', ⟨by first | omega | exact Nat.le_refl _⟩, by repeat (first | exact Drawn0.refl _ | apply Drawn0.step)⟩
                                  · rw [if_neg c18] at H
                                    have c18b0 : (a0 == 68) = false := beq_eq_false_iff_ne.mpr c18
                                    have c18b1 : (a0 != 68) = true := bne_iff_ne.mpr c18
                                    by_cases c19 : a0 = 76
                                    · rw [if_pos c19] at H
                                      have c19b0 : (a0 == 76) = true := beq_iff_eq.mpr c19
                                      have c19b1 : (a0 != 76) = false := bne_eq_false_iff_eq.mpr c19
                                      clear c19
                                      have H' := Aside0.mk H
                                      clear H
                                      go_wp2
                                      go_meet
                                      case rel => exact ⟨_, ((a0 == 76)), (by first | rfl | (simp; done) | (simp [*]; done)), H', ⟨by first | omega | exact Nat.le_refl _⟩, by repeat (first | exact Drawn0.refl _ | apply Drawn0.step)⟩
                                    · rw [if_neg c19] at H
                                      have c19b0 : (a0 == 76) = false := beq_eq_false_iff_ne.mpr c19
                                      have c19b1 : (a0 != 76) = true := bne_iff_ne.mpr c19
                                      by_cases c20 : a0 = 84
                                      · rw [if_pos c20] at H
                                        have c20b0 : (a0 == 84) = true := beq_iff_eq.mpr c20
                                        have c20b1 : (a0 != 84) = false := bne_eq_false_iff_eq.mpr c20
                                        clear c20
                                        have H' := Aside0.mk H
                                        clear H
                                        go_wp2
                                        go_meet
                                        case rel => exact ⟨_, ((a0 == 84)), (by first | rfl | (simp; done) | (simp [*]; done)), H', ⟨by first | omega | exact Nat.le_refl _⟩, by repeat (first | exact Drawn0.refl _ | apply Drawn0.step)⟩
                                      · rw [if_neg c20] at H
                                        have c20b0 : (a0 == 84) = false := beq_eq_false_iff_ne.mpr c20
                                        have c20b1 : (a0 != 84) = true := bne_iff_ne.mpr c20
                                        by_cases c21 : a0 = 92
                                        · rw [if_pos c21] at H
                                          have c21b0 : (a0 == 92) = true := beq_iff_eq.mpr c21
                                          have c21b1 : (a0 != 92) = false := bne_eq_false_iff_eq.mpr c21
                                          clear c21
                                          have H' := Aside0.mk H
                                          clear H
                                          go_wp2
                                          go_meet
                                          case rel => exact ⟨_, ((a0 == 92)), (by first | rfl | (simp; done) | (simp [*]; done)), H', ⟨by first | omega | exact Nat.le_refl _⟩, by repeat (first | exact Drawn0.refl _ | apply Drawn0.step)⟩
                                        · rw [if_neg c21] at H
                                          have c21b0 : (a0 == 92) = false := beq_eq_false_iff_ne.mpr c21
                                          have c21b1 : (a0 != 92) = true := bne_iff_ne.mpr c21
                                          by_cases c22 : a0 = 164
                                          · rw [if_pos c22] at H
                                            have c22b0 : (a0 == 164) = true := beq_iff_eq.mpr c22
                                            have c22b1 : (a0 != 164) = false := bne_eq_false_iff_eq.mpr c22
                                            clear c22
                                            have H' := Aside0.mk H
                                            clear H
                                            go_wp2
                                            go_meet
                                            case rel => exact ⟨_, ((a0 == 164)), (by first | rfl | (simp; done) | (simp [*]; done)), H', ⟨by first | omega | exact Nat.le_refl _⟩, by repeat (first | exact Drawn0.refl _ | apply Drawn0.step)⟩
                                          · rw [if_neg c22] at H
                                            have c22b0 : (a0 == 164) = false := beq_eq_false_iff_ne.mpr c22
                                            have c22b1 : (a0 != 164) = true := bne_iff_ne.mpr c22
                                            by_cases c23 : a0 = 172
                                            · rw [if_pos c23] at H
                                              have c23b0 : (a0 == 172) = true := beq_iff_eq.mpr c23
                                              have c23b1 : (a0 != 172) = false := bne_eq_false_iff_eq.mpr c23
                                              clear c23
                                              have H' := Aside0.mk H
                                              clear H
                                              go_wp2
                                              go_meet
                                              case rel => exact ⟨_, ((a0 == 172)), (by first | rfl | (simp; done) | (simp [*]; done)), H', ⟨by first | omega | exact Nat.le_refl _⟩, by repeat (first | exact Drawn0.refl _ | apply Drawn0.step)⟩
                                            · rw [if_neg c23] at H
                                              have c23b0 : (a0 == 172) = false := beq_eq_false_iff_ne.mpr c23
                                              have c23b1 : (a0 != 172) = true := bne_iff_ne.mpr c23
                                              by_cases c24 : a0 = 100
                                              · rw [if_pos c24] at H
                                                have c24b0 : (a0 == 100) = true := beq_iff_eq.mpr c24
                                                have c24b1 : (a0 != 100) = false := bne_eq_false_iff_eq.mpr c24
                                                clear c24
                                                have H' := Aside0.mk H
                                                clear H
                                                go_wp2
                                                go_meet
                                                case rel => exact ⟨_, ((a0 == 100)), (by first | rfl | (simp; done) | (simp [*]; done)), H', ⟨by first | omega | exact Nat.le_refl _⟩, by repeat (first | exact Drawn0.refl _ | apply Drawn0.step)⟩
                                              · rw [if_neg c24] at H
                                                have c24b0 : (a0 == 100) = false := beq_eq_false_iff_ne.mpr c24
                                                have c24b1 : (a0 != 100) = true := bne_iff_ne.mpr c24
                                                by_cases c25 : a0 = 108
                                                · rw [if_pos c25] at H
                                                  have c25b0 : (a0 == 108) = true := beq_iff_eq.mpr c25
                                                  have c25b1 : (a0 != 108) = false := bne_eq_false_iff_eq.mpr c25
                                                  clear c25
                                                  have H' := Aside0.mk H
                                                  clear H
                                                  go_wp2
                                                  go_meet
                                                  case rel => exact ⟨_, ((a0 == 108)), (by first | rfl | (simp; done) | (simp [*]; done)), H', ⟨by first | omega | exact Nat.le_refl _⟩, by repeat (first | exact Drawn0.refl _ | apply Drawn0.step)⟩
                                                · rw [if_neg c25] at H
                                                  have c25b0 : (a0 == 108) = false := beq_eq_false_iff_ne.mpr c25
                                                  have c25b1 : (a0 != 108) = true := bne_iff_ne.mpr c25
                                                  by_cases c26 : a0 = 116
                                                  · rw [if_pos c26] at H
                                                    have c26b0 : (a0 == 116) = true := beq_iff_eq.mpr c26
                                                    have c26b1 : (a0 != 116) = false := bne_eq_false_iff_eq.mpr c26
                                                    clear c26
                                                    have H' := Aside0.mk H
                                                    clear H
                                                    go_wp2
                                                    go_meet
                                                    case rel => exact ⟨_, ((a0 == 116)), (by first | rfl | (simp; done) | (simp [*]; done)), H', ⟨by first | omega | exact Nat.le_refl _⟩, by repeat (first | exact Drawn0.refl _ | apply Drawn0.step)⟩
                                                  · rw [if_neg c26] at H
                                                    have c26b0 : (a0 == 116) = false := beq_eq_false_iff_ne.mpr c26
                                                    have c26b1 : (a0 != 116) = true := bne_iff_ne.mpr c26
                                                    by_cases c27 : a0 = 124
                                                    · rw [if_pos c27] at H
                                                      have c27b0 : (a0 == 124) = true := beq_iff_eq.mpr c27
                                                      have c27b1 : (a0 != 124) = false := bne_eq_false_iff_eq.mpr c27
                                                      clear c27
                                                      have H' := Aside0.mk H
                                                      clear H
                                                      go_wp2
                                                      go_meet
                                                      case rel => exact ⟨_, ((a0 == 124)), (by first | rfl | (simp; done) | (simp [*]; done)), H', ⟨by first | omega | exact Nat.le_refl _⟩, by repeat (first | exact Drawn0.refl _ | apply Drawn0.step)⟩
                                                    · rw [if_neg c27] at H
                                                      have c27b0 : (a0 == 124) = false := beq_eq_false_iff_ne.mpr c27
                                                      have c27b1 : (a0 != 124) = true := bne_iff_ne.mpr c27
                                                      by_cases c28 : a0 = 132
                                                      · rw [if_pos c28] at H
                                                        have c28b0 : (a0 == 132) = true := beq_iff_eq.mpr c28
                                                        have c28b1 : (a0 != 132) = false := bne_eq_false_iff_eq.mpr c28
                                                        clear c28
                                                        have H' := Aside0.mk H
                                                        clear H
                                                        go_wp2
                                                        go_meet
                                                        case rel => exact ⟨_, ((a0 == 132)), (by first | rfl | (simp; done) | (simp [*]; done)), H', ⟨by first | omega | exact Nat.le_refl _⟩, by repeat (first | exact Drawn0.refl _ | apply Drawn0.step)⟩
                                                      · rw [if_neg c28] at H
                                                        have c28b0 : (a0 == 132) = false := beq_eq_false_iff_ne.mpr c28
                                                        have c28b1 : (a0 != 132) = true := bne_iff_ne.mpr c28
                                                        by_cases c29 : a0 = 7
                                                        · rw [if_pos c29] at H
                                                          have c29b0 : (a0 == 7) = true := beq_iff_eq.mpr c29
                                                          have c29b1 : (a0 != 7) = false := bne_eq_false_iff_eq.mpr c29
                                                          clear c29
                                                          have H' := Aside0.mk H
                                                          clear H
                                                          go_wp2
                                                          go_meet
                                                          case rel => exact ⟨_, ((a0 == 7)), (by first | rfl | (simp; done) | (simp [*]; done)), H', ⟨by first | omega | exact Nat.le_refl _⟩, by repeat (first | exact Drawn0.refl _ | apply Drawn0.step)⟩
                                                        · rw [if_neg c29] at H
                                                          have c29b0 : (a0 == 7) = false := beq_eq_false_iff_ne.mpr c29
                                                          have c29b1 : (a0 != 7) = true := bne_iff_ne.mpr c29
                                                          have H' := Aside0.mk H
                                                          clear H
                                                          go_wp2
                                                          go_meet
                                                          case rel => exact ⟨_, ((a0 == 135)), (by first | rfl | (simp; done) | (simp [*]; done)), H', ⟨by first | omega | exact Nat.le_refl _⟩, by repeat (first | exact Drawn0.refl _ | apply Drawn0.step)⟩
  case rest =>
    clear HC2
    try clear c1
    try clear c2
    try clear p2
    try clear c3
    try clear c3b0
    try clear c3b1
    try clear c4
    try clear c4b0
    try clear c4b1
    try clear c5
    try clear c5b0
    try clear c5b1
    try clear c6
    try clear c6b0
    try clear c6b1
    try clear c7
    try clear c7b0
    try clear c7b1
    try clear c8
    try clear c8b0
    try clear c8b1
    try clear c9
    try clear c9b0
    try clear c9b1
    try clear c10
    try clear c10b0
    try clear c10b1
    try clear c11
    try clear c11b0
    try clear c11b1
    try clear c12
    try clear c12b0
    try clear c12b1
    try clear c13
    try clear c13b0
    try clear c13b1
    try clear c14
    try clear c14b0
    try clear c14b1
    try clear c15
    try clear c15b0
    try clear c15b1
    try clear c16
    try clear c16b0
    try clear c16b1
    try clear c17
    try clear c17b0
    try clear c17b1
    try clear c18
    try clear c18b0
    try clear c18b1
    try clear c19
    try clear c19b0
    try clear c19b1
    try clear c20
    try clear c20b0
    try clear c20b1
    try clear c21
    try clear c21b0
    try clear c21b1
    try clear c22
    try clear c22b0
    try clear c22b1
    try clear c23
    try clear c23b0
    try clear c23b1
    try clear c24
    try clear c24b0
    try clear c24b1
    try clear c25
    try clear c25b0
    try clear c25b1
    try clear c26
    try clear c26b0
    try clear c26b1
    try clear c27
    try clear c27b0
    try clear c27b1
    try clear c28
    try clear c28b0
    try clear c28b1
    try clear c29
    try clear c29b0
    try clear c29b1
    obtain ⟨kq, x4_1, rfl, HA, HJ1, ⟨mc1, rfl⟩⟩ := hcut
    cases kq with
    | zero => exact absurd HA.out (by simp [impl_sortOf.j0])
    | succ kj1 =>
      have H := HA.out
      clear HA
      simp only [impl_sortOf.j0] at H
      by_cases c30 : x4_1 = true
      · subst c30
        have H1 : (some 1) = some r := by rw [if_pos rfl] at H; exact H
        clear H
        have H := H1
        clear H1
        obtain rfl := Option.some.inj H
        go_wp2
        go_ret
        exact ⟨by first | rfl | (simp; done) | (simp [*]; done), by repeat (first | exact Drawn0.refl _ | apply Drawn0.step)⟩
      · replace c30 := Bool.eq_false_iff.mpr c30
        subst c30
        have H1 : (if a0 = 5 then (some 3) else (if a0 = 21 then (impl_sortOf.j1 kj1 a0 (a0 == 21)) else (if a0 = 29 then (impl_sortOf.j1 kj1 a0 (a0 == 29)) else (if a0 = 37 then (impl_sortOf.j1 kj1 a0 (a0 == 37)) else (if a0 = 45 then (impl_sortOf.j1 kj1 a0 (a0 == 45)) else (if a0 = 53 then (impl_sortOf.j1 kj1 a0 (a0 == 53)) else (if a0 = 61 then (impl_sortOf.j1 kj1 a0 (a0 == 61)) else (if a0 = 69 then (impl_sortOf.j1 kj1 a0 (a0 == 69)) else (impl_sortOf.j1 kj1 a0 (a0 == 77)))))))))) = some r := by rw [if_neg (show ¬ (false = true) by decide)] at H; exact H
        clear H
        have H := H1
        clear H1
        by_cases c31 : a0 = 5
        · rw [if_pos c31] at H
          have c31b0 : (a0 == 5) = true := beq_iff_eq.mpr c31
          have c31b1 : (a0 != 5) = false := bne_eq_false_iff_eq.mpr c31
          clear c31
          obtain rfl := Option.some.inj H
          go_wp2
          go_ret
          exact ⟨by first | rfl | (simp; done) | (simp [*]; done), by repeat (first | exact Drawn0.refl _ | apply Drawn0.step)⟩
        · rw [if_neg c31] at H
          have c31b0 : (a0 == 5) = false := beq_eq_false_iff_ne.mpr c31
          have c31b1 : (a0 != 5) = true := bne_iff_ne.mpr c31
          have HC32 := Aside0.mk H
          clear H
          go_upto_if 35 with (fail)
          go_cut [35] (fun v35 wc => ∃ (kq : Nat) (x35_31 : Bool), v35 = .bool x35_31 ∧ Aside0 (impl_sortOf.j1 kq a0 x35_31 = some r) ∧ Aside0 (kq ≤ kj1) ∧ Drawn0 w wc)
          case first =>
            have H := HC32.out
            clear HC32
            by_cases c33 : a0 = 21
            · rw [if_pos c33] at H
              have c33b0 : (a0 == 21) = true := beq_iff_eq.mpr c33
              have c33b1 : (a0 != 21) = false := bne_eq_false_iff_eq.mpr c33
              clear c33
              (first | rw [c33b0] | (simp only [i64_w, i32_w]; rw [c33b0]) | skip)
              have H' := Aside0.mk H
              clear H
              go_wp2
              go_meet
              case rel => exact ⟨_, ((a0 == 21)), (by first | rfl | (simp; done) | (simp [*]; done)), H', ⟨by have := HJ1.out; first | omega | exact Nat.le_refl _⟩, by repeat (first | exact Drawn0.refl _ | apply Drawn0.step)⟩
            · rw [if_neg c33] at H
              have c33b0 : (a0 == 21) = false := beq_eq_false_iff_ne.mpr c33
              have c33b1 : (a0 != 21) = true := bne_iff_ne.mpr c33
              (first | rw [c33b0] | (simp only [i64_w, i32_w]; rw [c33b0]) | skip)
              by_cases c34 : a0 = 29
              · rw [if_pos c34] at H
                have c34b0 : (a0 == 29) = true := beq_iff_eq.mpr c34
                have c34b1 : (a0 != 29) = false := bne_eq_false_iff_eq.mpr c34
                clear c34
                have H' := Aside0.mk H
                clear H
                go_wp2
                go_meet
                case rel => exact ⟨_, ((a0 == 29)), (by first | rfl | (simp; done) | (simp [*]; done)), H', ⟨by have := HJ1.out; first | omega | exact Nat.le_refl _⟩, by repeat (first | exact Drawn0.refl _ | apply Drawn0.step)⟩
              · rw [if_neg c34] at H
                have c34b0 : (a0 == 29) = false := beq_eq_false_iff_ne.mpr c34
                have c34b1 : (a0 != 29) = true := bne_iff_ne.mpr c34
                by_cases c35 : a0 = 37
                · rw [if_pos c35] at H
                  have c35b0 : (a0 == 37) = true := beq_iff_eq.mpr c35
                  have c35b1 : (a0 != 37) = false := bne_eq_false_iff_eq.mpr c35
                  clear c35
                  have H' := Aside0.mk H
                  clear H
                  go_wp2
                  go_meet
                  case rel => exact ⟨_, ((a0 == 37)), (by first | rfl | (simp; done) | (simp [*]; done)), H', ⟨by have := HJ1.out; first | omega | exact Nat.le_refl _⟩, by repeat (first | exact Drawn0.refl _ | apply Drawn0.step)⟩
                · rw [if_neg c35] at H
                  have c35b0 : (a0 == 37) = false := beq_eq_false_iff_ne.mpr c35
                  have c35b1 : (a0 != 37) = true := bne_iff_ne.mpr c35
                  by_cases c36 : a0 = 45
                  · rw [if_pos c36] at H
                    have c36b0 : (a0 == 45) = true := beq_iff_eq.mpr c36
                    have c36b1 : (a0 != 45) = false := bne_eq_false_iff_eq.mpr c36
                    clear c36
                    have H' := Aside0.mk H
                    clear H
                    go_wp2
                    go_meet
                    case rel => exact ⟨_, ((a0 == 45)), (by first | rfl | (simp; done) | (simp [*]; done)), H', ⟨by have := HJ1.out; first | omega | exact Nat.le_refl _⟩, by repeat (first | exact Drawn0.refl _ | apply Drawn0.step)⟩
                  · rw [if_neg c36] at H
                    have c36b0 : (a0 == 45) = false := beq_eq_false_iff_ne.mpr c36
                    have c36b1 : (a0 != 45) = true := bne_iff_ne.mpr c36
                    by_cases c37 : a0 = 53
                    · rw [if_pos c37] at H
                      have c37b0 : (a0 == 53) = true := beq_iff_eq.mpr c37
                      have c37b1 : (a0 != 53) = false := bne_eq_false_iff_eq.mpr c37
                      clear c37
                      have H' := Aside0.mk H
                      clear H
                      go_wp2
                      go_meet
                      case rel => exact ⟨_, ((a0 == 53)), (by first | rfl | (simp; done) | (simp [*]; done)), H', ⟨by have := HJ1.out; first | omega | exact Nat.le_refl _⟩, by repeat (first | exact Drawn0.refl _ | apply Drawn0.step)⟩
                    · rw [if_neg c37] at H
                      have c37b0 : (a0 == 53) = false := beq_eq_false_iff_ne.mpr c37
                      have c37b1 : (a0 != 53) = true := bne_iff_ne.mpr c37
                      by_cases c38 : a0 = 61
                      · rw [if_pos c38] at H
                        have c38b0 : (a0 == 61) = true := beq_iff_eq.mpr c38
                        have c38b1 : (a0 != 61) = false := bne_eq_false_iff_eq.mpr c38
                        clear c38
                        have H' := Aside0.mk H
                        clear H
                        go_wp2
                        go_meet
                        case rel => exact ⟨_, ((a0 == 61)), (by first | rfl | (simp; done) | (simp [*]; done)), H', ⟨by have := HJ1.out; first | omega | exact Nat.le_refl _⟩, by repeat (first | exact Drawn0.refl _ | apply Drawn0.step)⟩
                      · rw [if_neg c38] at H
                        have c38b0 : (a0 == 61) = false := beq_eq_false_iff_ne.mpr c38
                        have c38b1 : (a0 != 61) = true := bne_iff_ne.mpr c38
                        by_cases c39 : a0 = 69
                        · rw [if_pos c39] at H
                          have c39b0 : (a0 == 69) = true := beq_iff_eq.mpr c39
                          have c39b1 : (a0 != 69) = false := bne_eq_false_iff_eq.mpr c39
                          clear c39
                          have H' := Aside0.mk H
                          clear H
                          go_wp2
                          go_meet
                          case rel => exact ⟨_, ((a0 == 69)), (by first | rfl | (simp; done) | (simp [*]; done)), H', ⟨by have := HJ1.out; first | omega | exact Nat.le_refl _⟩, by repeat (first | exact Drawn0.refl _ | apply Drawn0.step)⟩
                        · rw [if_neg c39] at H
                          have c39b0 : (a0 == 69) = false := beq_eq_false_iff_ne.mpr c39
                          have c39b1 : (a0 != 69) = true := bne_iff_ne.mpr c39
                          have H' := Aside0.mk H
                          clear H
                          go_wp2
                          go_meet
                          case rel => exact ⟨_, ((a0 == 77)), (by first | rfl | (simp; done) | (simp [*]; done)), H', ⟨by have := HJ1.out; first | omega | exact Nat.le_refl _⟩, by repeat (first | exact Drawn0.refl _ | apply Drawn0.step)⟩
          case rest =>
            clear HC32
            try clear c1
            try clear c2
            try clear p2
            try clear c3
            try clear c3b0
            try clear c3b1
            try clear c4
            try clear c4b0
            try clear c4b1
            try clear c5
            try clear c5b0
            try clear c5b1
            try clear c6
            try clear c6b0
            try clear c6b1
            try clear c7
            try clear c7b0
            try clear c7b1
            try clear c8
            try clear c8b0
            try clear c8b1
            try clear c9
            try clear c9b0
            try clear c9b1
            try clear c10
            try clear c10b0
            try clear c10b1
            try clear c11
            try clear c11b0
            try clear c11b1
            try clear c12
            try clear c12b0
            try clear c12b1
            try clear c13
            try clear c13b0
            try clear c13b1
            try clear c14
            try clear c14b0
            try clear c14b1
            try clear c15
            try clear c15b0
            try clear c15b1
            try clear c16
            try clear c16b0
            try clear c16b1
            try clear c17
            try clear c17b0
            try clear c17b1
            try clear c18
            try clear c18b0
            try clear c18b1
            try clear c19
            try clear c19b0
            try clear c19b1
            try clear c20
            try clear c20b0
            try clear c20b1
            try clear c21
            try clear c21b0
            try clear c21b1
            try clear c22
            try clear c22b0
            try clear c22b1
            try clear c23
            try clear c23b0
            try clear c23b1
            try clear c24
            try clear c24b0
            try clear c24b1
            try clear c25
            try clear c25b0
            try clear c25b1
            try clear c26
            try clear c26b0
            try clear c26b1
            try clear c27
            try clear c27b0
            try clear c27b1
            try clear c28
            try clear c28b0
            try clear c28b1
            try clear c29
            try clear c29b0
            try clear c29b1
            try clear c30
            try clear c31
            try clear c31b0
            try clear c31b1
            try clear c33
            try clear c33b0
            try clear c33b1
            try clear c34
            try clear c34b0
            try clear c34b1
            try clear c35
            try clear c35b0
            try clear c35b1
            try clear c36
            try clear c36b0
            try clear c36b1
            try clear c37
            try clear c37b0
            try clear c37b1
            try clear c38
            try clear c38b0
            try clear c38b1
            try clear c39
            try clear c39b0
            try clear c39b1
            try clear p2
            obtain ⟨kq, x35_31, rfl, HA, HJ31, ⟨mc31, rfl⟩⟩ := hcut
            cases kq with
            | zero => exact absurd HA.out (by simp [impl_sortOf.j1])
            | succ kj31 =>
              have H := HA.out
              clear HA
              simp only [impl_sortOf.j1] at H
              by_cases c40 : x35_31 = true
              · subst c40
                have H1 : (some 2) = some r := by rw [if_pos rfl] at H; exact H
                clear H
                have H := H1
                clear H1
                obtain rfl := Option.some.inj H
                go_wp2
                go_ret
                exact ⟨by first | rfl | (simp; done) | (simp [*]; done), by repeat (first | exact Drawn0.refl _ | apply Drawn0.step)⟩
              · replace c40 := Bool.eq_false_iff.mpr c40
                subst c40
                have H1 : (if a0 = 6 then (some 4) else (if a0 = 22 then (some 4) else (some 0))) = some r := by rw [if_neg (show ¬ (false = true) by decide)] at H; exact H
                clear H
                have H := H1
                clear H1
                by_cases c41 : a0 = 6
                · rw [if_pos c41] at H
                  have c41b0 : (a0 == 6) = true := beq_iff_eq.mpr c41
                  have c41b1 : (a0 != 6) = false := bne_eq_false_iff_eq.mpr c41
                  clear c41
                  obtain rfl := Option.some.inj H
                  go_wp2
                  go_ret
                  exact ⟨by first | rfl | (simp; done) | (simp [*]; done), by repeat (first | exact Drawn0.refl _ | apply Drawn0.step)⟩
                · rw [if_neg c41] at H
                  have c41b0 : (a0 == 6) = false := beq_eq_false_iff_ne.mpr c41
                  have c41b1 : (a0 != 6) = true := bne_iff_ne.mpr c41
                  by_cases c42 : a0 = 22
                  · rw [if_pos c42] at H
                    have c42b0 : (a0 == 22) = true := beq_iff_eq.mpr c42
                    have c42b1 : (a0 != 22) = false := bne_eq_false_iff_eq.mpr c42
                    clear c42
                    obtain rfl := Option.some.inj H
                    go_wp2
                    go_ret
                    exact ⟨by first | rfl | (simp; done) | (simp [*]; done), by repeat (first | exact Drawn0.refl _ | apply Drawn0.step)⟩
                  · rw [if_neg c42] at H
                    have c42b0 : (a0 == 22) = false := beq_eq_false_iff_ne.mpr c42
                    have c42b1 : (a0 != 22) = true := bne_iff_ne.mpr c42
                    obtain rfl := Option.some.inj H
                    go_wp2
                    go_ret
                    exact ⟨by first | rfl | (simp; done) | (simp [*]; done), by repeat (first | exact Drawn0.refl _ | apply Drawn0.step)⟩

end Go.Proofs.Ytgodbniphkfgfaa.P
