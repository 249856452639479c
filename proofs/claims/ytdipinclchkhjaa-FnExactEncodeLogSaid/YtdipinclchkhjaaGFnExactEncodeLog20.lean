import Derived.Test.YtdipinclchkhjaaGFnExactEncodeLog16
import Derived.Test.YtdipinclchkhjaaGFnExactEncodeLog17
import Derived.Test.YtdipinclchkhjaaGFnExactEncodeLog18
import Derived.Test.YtdipinclchkhjaaGFnExactEncodeLog19
import Derived.Test.YtdipinclchkhjaaGFnExactEncodeLog1
namespace Go.Proofs.Ytdipinclchkhjaa.P
open Go.RowKit Go.Proofs.YtdipinclchkhjaaW.PrintWords Go.Proofs.YtdipinclchkhjaaW.PrintLast Go.Proofs.YtdipinclchkhjaaW.PrintMore
set_option linter.unusedVariables false
set_option linter.unusedSimpArgs false
def callOf (x : S82) : S85 := ⟨x.f0, x.f1, x.f2⟩
theorem rdCallI_eq (l : List S85) (i : Nat) (h : i < l.length) : rd_T85 l (i : Int) = l[i] := by
  simp [rd_T85, List.getD_eq_getElem?_getD, List.getElem?_eq_getElem h]
theorem rdCallL_eq (l : List S82) (i : Nat) (h : i < l.length) : rd_T82 l (i : Int) = l[i] := by
  simp [rd_T82, List.getD_eq_getElem?_getD, List.getElem?_eq_getElem h]
def costL : List S82 → Nat
  | [] => 0
  | c :: l => c.f2.length + costL l
def costI : List S85 → Nat
  | [] => 0
  | c :: l => c.f2.length + costI l
theorem costL_map : ∀ l : List S82, costI (l.map callOf) = costL l
  | [] => rfl
  | c :: l => by rw [List.map_cons, costI, costL, costL_map l]; rfl
theorem costL_mem : ∀ (l : List S82) (c : S82), c ∈ l → c.f2.length ≤ costL l
  | x :: l, c, h => by
    rw [costL]
    rcases List.mem_cons.1 h with rfl | h
    · omega
    · have := costL_mem l c h; omega
theorem costI_mem : ∀ (l : List S85) (c : S85), c ∈ l → c.f2.length ≤ costI l
  | x :: l, c, h => by
    rw [costI]
    rcases List.mem_cons.1 h with rfl | h
    · omega
    · have := costI_mem l c h; omega
theorem szCallS_ev (l : List S82) (hl : l.length ≤ maxLen) (hm : ∀ c ∈ l, c.f2.length ≤ maxLen) : Ev (fun k => laws_szCallS.f k l 1048576) (if l.length + costL l ≤ 1048576 then ((1048576 - (l.length + costL l) : Nat) : Int) else -1) := by
  unfold maxLen at hl
  unfold laws_szCallS.f
  rw [wrap64_id (i := 1048576 - (l.length : Int)) (by omega) (by omega)]
  by_cases c : (1048576 : Int) - (l.length : Int) < 0
  · rw [if_neg (by omega)]
    exact ev_is fun k => by rw [if_pos c]
  · have key : ∀ d i left : Nat, i + d = l.length → left ≤ 1048576 → Ev (fun k => laws_szCallS.l0 k l (left : Int) (i : Int)) (if costL (l.drop i) ≤ left then ((left - costL (l.drop i) : Nat) : Int) else -1) := by
      intro d
      induction d with
      | zero =>
        intro i left hi hleft
        rw [List.drop_eq_nil_of_le (by omega)]
        exact ev_end fun k => by simp only [laws_szCallS.l0]; rw [if_neg (by omega)]; simp [costL]
      | succ d ih =>
        intro i left hi hleft
        have hil : i < l.length := by omega
        rw [List.drop_eq_getElem_cons hil, costL]
        have hsz := szCall_is l[i].f0 l[i].f1 l[i].f2 (left : Int) (hm _ (List.getElem_mem hil)) (by omega) (by omega)
        by_cases g : (left : Int) - (l[i].f2.length : Int) < 0
        · rw [if_neg (by omega)]
          rw [if_pos g] at hsz
          exact ev_end fun k => by
            simp only [laws_szCallS.l0]
            rw [if_pos (by omega), if_pos (by omega), rdCallL_eq l i hil, hsz, Option.bind_some, if_pos (by decide)]
        · rw [if_neg g] at hsz
          have e : (left : Int) - (l[i].f2.length : Int) = ((left - l[i].f2.length : Nat) : Int) := by omega
          rw [e] at hsz
          have h := ih (i + 1) (left - l[i].f2.length) (by omega) (by omega)
          have e2 : (if l[i].f2.length + costL (l.drop (i + 1)) ≤ left then ((left - (l[i].f2.length + costL (l.drop (i + 1))) : Nat) : Int) else -1) = (if costL (l.drop (i + 1)) ≤ left - l[i].f2.length then ((left - l[i].f2.length - costL (l.drop (i + 1)) : Nat) : Int) else -1) := by
            by_cases q : l[i].f2.length + costL (l.drop (i + 1)) ≤ left
            · rw [if_pos q, if_pos (by omega)]; congr 1; omega
            · rw [if_neg q, if_neg (by omega)]
          rw [e2]
          refine ev_step _ (fun k => ?_) h
          simp only [laws_szCallS.l0]
          rw [if_pos (by omega), if_pos (by omega), rdCallL_eq l i hil, hsz, Option.bind_some, if_neg (by omega), wrap64_id (by omega) (by omega)]
          rfl
    have h := key l.length 0 (1048576 - l.length) (by omega) (by omega)
    rw [List.drop_zero] at h
    have e : (if l.length + costL l ≤ 1048576 then ((1048576 - (l.length + costL l) : Nat) : Int) else -1) = (if costL l ≤ 1048576 - l.length then ((1048576 - l.length - costL l : Nat) : Int) else -1) := by
      by_cases q : l.length + costL l ≤ 1048576
      · rw [if_pos q, if_pos (by omega)]; congr 1; omega
      · rw [if_neg q, if_neg (by omega)]
    rw [e]
    refine Ev.congr (fun k => ?_) h
    rw [if_neg c, show (1048576 : Int) - (l.length : Int) = ((1048576 - l.length : Nat) : Int) by omega]
    rfl
theorem toCallS_ev (l : List S82) (hl : l.length ≤ 1048576) (hm : ∀ c ∈ l, c.f2.length ≤ 1048576) : Ev (fun k => laws_toCallS.f k l) (l.map callOf) := by
  have key := ev_loop (fun k s i => laws_toCallS.l0 k l s i) l.length (filled callOf l z85) _ _ (filled_zero callOf l z85) (filled_all callOf l z85) (fun i hi r hr => by
    have hf := filled_length callOf l z85 i (by omega)
    have hml := hm _ (List.getElem_mem hi)
    have hs := filled_set callOf l z85 i hi
    refine ev_step (fun k => (laws_toCall.f k l[i].f0 l[i].f1 l[i].f2).bind fun bt => laws_toCallS.l0 k l ((filled callOf l z85 i).set i (⟨bt.1, bt.2.1, bt.2.2⟩ : S85)) ((i + 1 : Nat) : Int)) (fun k => ?_) (Ev.bind (toCall_ev l[i].f0 l[i].f1 l[i].f2 (by omega)) (Ev.congr (fun k => ?_) hr))
    · simp only [laws_toCallS.l0]
      rw [if_pos (by omega), if_pos (by omega), rdCallL_eq l i hi, wrap64_id (by omega) (by omega), Int.toNat_natCast]
      congr 1
      funext bt
      rw [if_pos (by omega)]
      rfl
    · have e : (⟨l[i].f0, l[i].f1, l[i].f2⟩ : S85) = callOf l[i] := rfl
      simp only
      rw [e, hs]) (l.map callOf) (ev_end fun k => by simp only [laws_toCallS.l0]; rw [if_neg (by omega)])
  refine Ev.congr (fun k => ?_) key
  unfold laws_toCallS.f
  rw [if_pos (by omega), if_pos (by omega), Int.toNat_natCast]
theorem eqCallS_ev (a : List S85) (hl : a.length ≤ 1048576) (hm : ∀ c ∈ a, c.f2.length ≤ 1048576) : Ev (fun k => laws_eqCallS.f k a a) true := by
  have key := ev_loop (fun k (s : Unit) i => laws_eqCallS.l0 k a a i) a.length (fun _ => ()) () () rfl rfl (fun i hi r hr => by
    have hml := hm _ (List.getElem_mem hi)
    refine ev_step (fun k => (laws_eqCall.f k a[i].f0 a[i].f1 a[i].f2 a[i].f0 a[i].f1 a[i].f2).bind fun t => if t = true then laws_eqCallS.l0 k a a ((i + 1 : Nat) : Int) else some false) (fun k => ?_) (Ev.bind (eqCall_ev a[i].f0 a[i].f1 a[i].f2 (by omega)) (Ev.congr (fun k => ?_) hr))
    · simp only [laws_eqCallS.l0]
      rw [if_pos (by omega), if_pos (by omega), if_pos (by omega), rdCallI_eq a i hi, wrap64_id (by omega) (by omega)]
      rfl
    · rw [if_pos rfl]) true (ev_end fun k => by simp only [laws_eqCallS.l0]; rw [if_neg (by omega)])
  refine Ev.congr (fun k => ?_) key
  unfold laws_eqCallS.f
  rw [if_pos rfl]
/-- Marking comes to an end, its count is not negative. -/
theorem markCallS_t (cs : List S85) (hl : cs.length ≤ 1048576) (hc : costI cs ≤ 1048576) : EvT (fun k => laws_markCallS.f k cs 1) (fun r => 0 ≤ r.1) := by
  have key : ∀ (d i : Nat) (xs : List S85) (x1 : Int), i + d = xs.length → xs.length ≤ 1048576 → 0 ≤ x1 → x1 + 2 * d + costI (xs.drop i) ≤ 100000000 → EvT (fun k => laws_markCallS.l0 k xs x1 (i : Int)) (fun r => 0 ≤ r.1) := by
    intro d
    induction d with
    | zero =>
      intro i xs x1 hi hxl h0 h1
      exact evt_ev (r := (x1, xs)) (ev_end fun k => by simp only [laws_markCallS.l0]; rw [if_neg (by omega)]) h0
    | succ d ih =>
      intro i xs x1 hi hxl h0 h1
      have hil : i < xs.length := by omega
      rw [List.drop_eq_getElem_cons hil, costI] at h1
      have hw1 : wrap64 (x1 + 1) = x1 + 1 := wrap64_id (by omega) (by omega)
      have hw : wrap64 (wrap64 (x1 + 1) + 1) = x1 + 2 := by rw [hw1, wrap64_id (i := x1 + 1 + 1) (by omega) (by omega)]; omega
      refine evt_step (fun k => (laws_markUint64S.f k xs[i].f2 (x1 + 2)).bind fun bt => laws_markCallS.l0 k (xs.set i (⟨x1 % 4294967296, wrap64 (x1 + 1) % 4294967296, bt.2⟩ : S85)) bt.1 ((i + 1 : Nat) : Int)) (fun k => ?_) (evt_bind (P := fun bt => bt.1 = x1 + 2 + (xs[i].f2.length : Int)) (evt_ev (markUint64S_ev xs[i].f2 (x1 + 2) (by omega) (by omega) (by omega)) rfl) ?_)
      · simp only [laws_markCallS.l0]
        rw [if_pos (by omega), if_pos (by omega), rdCallI_eq xs i hil, hw, wrap64_id (i := (i : Int) + 1) (by omega) (by omega), Int.toNat_natCast]
        rfl
      · rintro ⟨b1, b2⟩ hb
        dsimp only at hb ⊢
        refine ih (i + 1) _ b1 (by rw [List.length_set]; omega) (by rw [List.length_set]; omega) (by omega) ?_
        rw [List.drop_set_of_lt (by omega)]
        omega
  have h := key cs.length 0 cs 1 (by omega) hl (by omega) (by rw [List.drop_zero]; omega)
  exact h
end Go.Proofs.Ytdipinclchkhjaa.P

namespace Go.Proofs.Ytdipinclchkhjaa.P
open Go.RowKit Go.Proofs.YtdipinclchkhjaaW.PrintWords Go.Proofs.YtdipinclchkhjaaW.PrintLast Go.Proofs.YtdipinclchkhjaaW.PrintMore
attribute [local go_sem] max2_int min2_int max_two min_two max_three min_three max_four min_four   -- for this text's walks alone
set_option linter.unusedVariables false
set_option linter.unusedSimpArgs false

/-! ### laws_toByteS: function 58 -/
def laws_toByteS.l0 : Nat → List Int → List Int → Int → Option (List Int)
  | 0, _, _, _ => none
  | k + 1, x0, x3, x4 => if x4 < (x0.length : Int) then (if 0 ≤ x4 then (if x4 < (x3.length : Int) then (laws_toByteS.l0 k x0 (x3.set (x4 : Int).toNat (rd x0 x4)) (wrap64 (x4 + 1))) else (none)) else (none)) else (some x3)
def laws_toByteS.f (k : Nat) (l0 : List Int) : Option (List Int) := if 0 ≤ (l0.length : Int) then (if ((l0.length : Int) : Int).toNat ≤ 281474976710656 then (laws_toByteS.l0 k l0 (List.replicate ((l0.length : Int) : Int).toNat 0) 0) else (none)) else (none)
theorem laws_toByteS.mono_l : ∀ k, (∀ y0 y1 y2, LeO (laws_toByteS.l0 k y0 y1 y2) (laws_toByteS.l0 (k + 1) y0 y1 y2))
  | 0 => fun _ _ _ r h => by simp [laws_toByteS.l0] at h
  | k + 1 => by
    have ih0 := laws_toByteS.mono_l k
    · intro y0 y1 y2
      unfold laws_toByteS.l0
      repeat' first
      | (with_reducible exact ih0 _ _ _)
      | (with_reducible exact LeO.refl _)
      | (with_reducible exact LeO.none _)
      | (with_reducible refine LeO.ite ?_ ?_)
      | (with_reducible refine LeO.bind ?_ (fun _ => ?_))
      | exact ih0 _ _ _
      | exact LeO.none _
      | refine LeO.ite ?_ ?_
      | refine LeO.bind ?_ (fun _ => ?_)
theorem laws_toByteS.mono : ∀ a0 k, LeO (laws_toByteS.f k a0) (laws_toByteS.f (k + 1) a0) := by
  intro a0 k
  have ih0 := laws_toByteS.mono_l k
  unfold laws_toByteS.f
  repeat' first
      | (with_reducible exact ih0 _ _ _)
      | (with_reducible exact LeO.refl _)
      | (with_reducible exact LeO.none _)
      | (with_reducible refine LeO.ite ?_ ?_)
      | (with_reducible refine LeO.bind ?_ (fun _ => ?_))
      | exact ih0 _ _ _
      | exact LeO.none _
      | refine LeO.ite ?_ ?_
      | refine LeO.bind ?_ (fun _ => ?_)
set_option maxHeartbeats 8000000 in
set_option maxRecDepth 100000 in
theorem laws_toByteS.calls (k : Nat) (A0 : Option Addr) (c0 : Nat) (l0 : List Int) (r : List Int) (w : World) (hr0 : Kd.C (Kd.int .u8) w A0 l0.length l0) (hc0 : l0.length ≤ c0) (h : laws_toByteS.f k l0 = some r) :
    Calls Try.prog 58 #[.slice A0 l0.length c0] w fun e w' => ∃ v0_ : Value, e = .returned (v0_) ∧ Kd.R (Kd.int .u8) 5 w' w.heap.size (fun _ => True) v0_ r ∧ Below w.heap.size w w' := by
  have HR0 := Aside0.mk hr0
  have HC0 := Aside0.mk hc0
  clear hr0 hc0
  have HB := Aside0.mk (Below.refl w.heap.size w)
  have H : (if 0 ≤ (l0.length : Int) then (if ((l0.length : Int) : Int).toNat ≤ 281474976710656 then (laws_toByteS.l0 k l0 (List.replicate ((l0.length : Int) : Int).toNat 0) 0) else (none)) else (none)) = some r := h
  clear h
  by_cases c2 : 0 ≤ (l0.length : Int)
  · rw [if_pos c2] at H
    have c2b0 := eq_true c2
    have c2b1 : decide (0 ≤ (l0.length : Int)) = true := decide_eq_true c2
    clear c2
    by_cases c3 : ((l0.length : Int) : Int).toNat ≤ 281474976710656
    · rw [if_pos c3] at H
      have c3b0 := eq_true c3
      have c3b1 : decide (((l0.length : Int) : Int).toNat ≤ 281474976710656) = true := decide_eq_true c3
      clear c3
      obtain ⟨y1053, hy1053⟩ : ∃ y_ : List Int, y_ = (List.replicate ((l0.length : Int) : Int).toNat 0) := ⟨_, rfl⟩
      replace H : (laws_toByteS.l0 k l0 y1053 0) = some r := by first | (rw [hy1053]; with_reducible exact H) | (have H2_ := (Option.bind_some _ _).symm.trans H; rw [hy1053]; with_reducible exact H2_) | (have H2_ := (Option.bind_some _ _).symm.trans H; with_reducible exact H2_) | with_reducible exact H | (rw [hy1053]; exact H) | exact H
      have Ny1053 := Aside0.mk hy1053
      clear hy1053
      have H' := Aside0.mk H
      clear H
      go_enter Try.func58, Try.ntmps58
      go_wp2_with (first | ((with_reducible refine gate_dst (N := 7) rfl ?_); refine Kd.R_make (Kd.int .u8) _ 5 rfl (N := 7) rfl 44 _ _ rfl (l0.length : Int) rfl rfl Try.underlying44 (.int .u8 0) 1 info5 rfl (by decide) (by omega) 0 (ok := fun _ => True) (okp := fun _ => True) rfl (fun _ hk => hk) trivial (of_decide_eq_true (by first | (with_reducible assumption) | assumption)) (Nat.le_trans (Nat.mul_le_mul_right _ (of_decide_eq_true (by first | (with_reducible assumption) | assumption) : (l0.length : Int).toNat ≤ 281474976710656)) (by omega)) (Below.refl _ _) (Nat.le_refl _) ?_; intro v1054 w4 ho5 hb hg_ hnew_; clear hg_ hnew_; (first | rw [← Ny1053.out] at ho5 | (simp only [Int.reduceToNat] at ho5; rw [← Ny1053.out] at ho5)); have n0_ := Aside0.mk (Kd.R_lower ho5 (below_size (by repeat (first | (with_reducible first | exact HB.out | apply below_alloc | apply pw_below_drewN | apply below_drew1) | exact HB.out)))); have n1_ := Aside0.mk (below_step (by repeat (first | (with_reducible first | exact HB.out | apply below_alloc | apply pw_below_drewN | apply below_drew1) | exact HB.out)) hb); clear HB; have HO1055 := n0_; have HB := n1_; clear n0_ n1_; clear hb ho5))
      go_loopg [4] k (fun kq v4 w' => ∃ (x3_1 : List Int) (x4_1 : Int), v4 = .int .i64 x4_1 ∧ Aside0 (laws_toByteS.l0 kq l0 x3_1 x4_1 = some r) ∧ Aside0 (kq ≤ k) ∧ Aside0 (Kd.R (Kd.int .u8) 5 w' w.heap.size (fun _ => True) v1054 x3_1) ∧ Aside0 (Below w.heap.size w w'))
      case atStart => exact ⟨(y1053), (0), (by first | rfl | (simp; done) | (simp [*]; done)), H', ⟨Nat.le_refl _⟩, ⟨by (with_reducible repeat (first | apply Kd.R_alloc | apply Kd.R_drewN | apply Kd.R_drew)); exact HO1055.out⟩, ⟨by repeat (first | (with_reducible first | exact HB.out | apply below_alloc | apply pw_below_drewN | apply below_drew1) | exact HB.out)⟩⟩
      case round =>
        clear H'
        try clear c2
        try clear c2b0
        try clear c2b1
        try clear p2
        try clear c3
        try clear c3b0
        try clear c3b1
        try clear c5
        obtain ⟨x3_1, x4_1, rfl, HA, HK1, HO_3, HB⟩ := hrel
        cases gk with
        | zero => exact absurd HA.out (by simp [laws_toByteS.l0])
        | succ k1 =>
          have H := HA.out
          clear HA
          simp only [laws_toByteS.l0] at H
          by_cases c6 : x4_1 < (l0.length : Int)
          · rw [if_pos c6] at H
            have c6b0 : decide (x4_1 < (l0.length : Int)) = true := decide_eq_true c6
            clear c6
            by_cases c7 : 0 ≤ x4_1
            · rw [if_pos c7] at H
              have c7b0 : decide (0 ≤ x4_1) = true := decide_eq_true c7
              clear c7
              by_cases c8 : x4_1 < (x3_1.length : Int)
              · rw [if_pos c8] at H
                have c8b0 : decide (x4_1 < (x3_1.length : Int)) = true := decide_eq_true c8
                clear c8
                obtain ⟨y1057, hy1057⟩ : ∃ y_ : List Int, y_ = (x3_1.set (x4_1 : Int).toNat (rd l0 x4_1)) := ⟨_, rfl⟩
                replace H : (laws_toByteS.l0 k1 l0 y1057 (wrap64 (x4_1 + 1))) = some r := by first | (rw [hy1057]; with_reducible exact H) | (have H2_ := (Option.bind_some _ _).symm.trans H; rw [hy1057]; with_reducible exact H2_) | (have H2_ := (Option.bind_some _ _).symm.trans H; with_reducible exact H2_) | with_reducible exact H | (rw [hy1057]; exact H) | exact H
                have Ny1057 := Aside0.mk hy1057
                clear hy1057
                have H' := Aside0.mk H
                clear H
                have p1056 : 0 ≤ (x4_1 : Int) := of_decide_eq_true (by first | (with_reducible assumption) | assumption)
                have q1056 : x4_1 < (l0.length : Int) := of_decide_eq_true (by first | (with_reducible assumption) | assumption)
                obtain ⟨ad1056, e1056, hx1056_0⟩ := Kd.at_int HR0.out x4_1 p1056 q1056
                cases e1056
                replace hx1056_0 := (HB.out.cell (World.block_lt_of_cell? w _ hx1056_0)).trans hx1056_0
                replace p1056 := eq_true p1056
                replace q1056 := eq_true q1056
                have p9 : 0 ≤ (x4_1 : Int) := of_decide_eq_true (by first | (with_reducible assumption) | assumption)
                have q9 : (x4_1 : Int) < ((x3_1.length : Int) : Int) := of_decide_eq_true (by first | (with_reducible assumption) | assumption)
                obtain ⟨go9, co9, eo9, gb9, gl9, cl9, HG9⟩ := Kd.R_form HO_3.out (by omega)
                (first | cases eo9 | (injection eo9 with ea_ en_ ec_; (first | subst ea_ | (injection ea_ with ea_; subst ea_)); subst ec_; clear en_))
                have GB9 := Aside0.mk gb9
                have GG9 := Aside0.mk HG9
                clear gb9 gl9 HG9
                obtain ⟨hx9_0, hf9_0⟩ := Kd.R_celln 0 HO_3.out (x4_1 : Int) p9 q9
                replace p9 := eq_true p9
                replace q9 := eq_true q9
                have HP10 := Kd.R_putg HO_3.out (x4_1 : Int) (rd l0 x4_1)
                go_wp2_with (first | ((with_reducible refine gate_store (t := 5) (p := 20) rfl ?_); refine store_event (t := 5) (p := 20) (v := ?vo_w11) (w1 := (wr.setCell ⟨go9, (x4_1 : Int).toNat, none⟩ (.int .u8 (rd l0 x4_1)))) ?hg ?ho ?hn ?hr ?_; (case ho => rfl); (case hg => rfl); (case hn => rfl); (case hr => first | (go_simp; done) | (go_simp; rfl)); intro w11 hw; have hg : wr.grownBy w11 (some go9) := (by rw [hw]; exact HP10.2); have hp_ : Kd.R (Kd.int .u8) 5 w11 w.heap.size (fun _ => True) (.slice (some ⟨go9, 0, none⟩) x3_1.length co9) y1057 := (by rw [hw, Ny1057.out]; exact HP10.1); clear HP10; have n0_ := Aside0.mk (hp_); have n1_ := Aside0.mk ((by rw [hw]; exact below_set (HB.out) GB9.out : Below w.heap.size w w11)); clear HO_3; clear HB; have HO_3 := n0_; have HB := n1_; clear n0_ n1_; clear hg hw hp_))
                go_roundg k1
                case measure => have := HK1.out; omega
                case rel => exact ⟨(y1057), (wrap64 (x4_1 + 1)), (by first | rfl | (simp; done) | (simp [*]; done)), H', ⟨by have := HK1.out; omega⟩, ⟨by (with_reducible repeat (first | apply Kd.R_alloc | apply Kd.R_drewN | apply Kd.R_drew)); exact HO_3.out⟩, ⟨by repeat (first | (with_reducible first | exact HB.out | apply below_alloc | apply pw_below_drewN | apply below_drew1) | exact HB.out)⟩⟩
              · rw [if_neg c8] at H
                exact absurd H (by simp)
            · rw [if_neg c7] at H
              exact absurd H (by simp)
          · rw [if_neg c6] at H
            have c6b0 : decide (x4_1 < (l0.length : Int)) = false := decide_eq_false c6
            clear c6
            obtain rfl := Option.some.inj H
            go_wp2
            go_ret
            exact ⟨_, by first | rfl | (simp [errW_none, errW_some] <;> rfl) | (simp [*, errW_none, errW_some] <;> rfl), by (with_reducible repeat (first | apply Kd.R_alloc | apply Kd.R_drewN | apply Kd.R_drew)); exact HO_3.out, by repeat (first | (with_reducible first | exact HB.out | apply below_alloc | apply pw_below_drewN | apply below_drew1) | exact HB.out)⟩
    · rw [if_neg c3] at H
      exact absurd H (by simp)
  · rw [if_neg c2] at H
    exact absurd H (by simp)

end Go.Proofs.Ytdipinclchkhjaa.P
