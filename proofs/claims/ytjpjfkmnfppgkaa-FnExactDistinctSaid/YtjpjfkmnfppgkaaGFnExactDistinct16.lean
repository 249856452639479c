import Derived.Test.YtjpjfkmnfppgkaaGFnExactDistinct14
import Derived.Test.YtjpjfkmnfppgkaaGFnExactDistinct15
import Derived.Test.YtjpjfkmnfppgkaaGFnExactDistinct6
import Derived.Test.YtjpjfkmnfppgkaaGFnExactDistinct11
import Derived.Test.YtjpjfkmnfppgkaaGFnExactDistinct12
namespace Go.Proofs.Ytjpjfkmnfppgkaa.P
open Go.RowKit Go.Proofs.YtjpjfkmnfppgkaaW.PrintWords Go.Proofs.YtjpjfkmnfppgkaaW.PrintLast Go.Proofs.YtjpjfkmnfppgkaaW.PrintMore
set_option linter.unusedVariables false
set_option linter.unusedSimpArgs false
theorem eqCall_ev (a n : Int) (l : List Int) (hl : l.length ≤ 35184372088832) : Ev (fun k => laws_eqCall.f k a n l a n l) true := by
  obtain ⟨K, h⟩ := ev_get (eqUint64S_ev l l hl true (by simp))
  exact ev_mk K fun k hk => by unfold laws_eqCall.f; rw [if_pos rfl, if_pos rfl, h k hk, Option.bind_some, if_pos rfl]
theorem rdCallI_eq (l : List S35) (i : Nat) (h : i < l.length) : Zb l (i : Int) = l[i] := by
  simp [Zb, List.getD_eq_getElem?_getD, List.getElem?_eq_getElem h]
def costI : List S35 → Nat
  | [] => 0
  | c :: l => c.f2.length + costI l
theorem eqCallS_ev (a : List S35) (hl : a.length ≤ 1048576) (hm : ∀ c ∈ a, c.f2.length ≤ 1048576) : Ev (fun k => Zam.f k a a) true := by
  have key := ev_loop (fun k (s : Unit) i => Zam.l0 k a a i) a.length (fun _ => ()) () () rfl rfl (fun i hi r hr => by
    have hml := hm _ (List.getElem_mem hi)
    refine ev_step (fun k => (laws_eqCall.f k a[i].f0 a[i].f1 a[i].f2 a[i].f0 a[i].f1 a[i].f2).bind fun t => if t = true then Zam.l0 k a a ((i + 1 : Nat) : Int) else some false) (fun k => ?_) (Ev.bind (eqCall_ev a[i].f0 a[i].f1 a[i].f2 (by omega)) (Ev.congr (fun k => ?_) hr))
    · simp only [Zam.l0]
      rw [if_pos (by omega), if_pos (by omega), if_pos (by omega), rdCallI_eq a i hi, Zao (by omega) (by omega)]
      rfl
    · rw [if_pos rfl]) true (ev_end fun k => by simp only [Zam.l0]; rw [if_neg (by omega)])
  refine Ev.congr (fun k => ?_) key
  unfold Zam.f
  rw [if_pos rfl]
theorem markCallS_t (cs : List S35) (hl : cs.length ≤ 1048576) (hc : costI cs ≤ 1048576) : EvT (fun k => Zas.f k cs 1) (fun r => 0 ≤ r.1) := by
  have key : ∀ (d i : Nat) (xs : List S35) (x1 : Int), i + d = xs.length → xs.length ≤ 1048576 → 0 ≤ x1 → x1 + 2 * d + costI (xs.drop i) ≤ 100000000 → EvT (fun k => Zas.l0 k xs x1 (i : Int)) (fun r => 0 ≤ r.1) := by
    intro d
    induction d with
    | zero =>
      intro i xs x1 hi hxl h0 h1
      exact evt_ev (r := (x1, xs)) (ev_end fun k => by simp only [Zas.l0]; rw [if_neg (by omega)]) h0
    | succ d ih =>
      intro i xs x1 hi hxl h0 h1
      have hil : i < xs.length := by omega
      rw [List.drop_eq_getElem_cons hil, costI] at h1
      have hw1 : wrap64 (x1 + 1) = x1 + 1 := Zao (by omega) (by omega)
      have hw : wrap64 (wrap64 (x1 + 1) + 1) = x1 + 2 := by rw [hw1, Zao (i := x1 + 1 + 1) (by omega) (by omega)]; omega
      refine evt_step (fun k => (Zbb.f k xs[i].f2 (x1 + 2)).bind fun bt => Zas.l0 k (xs.set i (⟨x1 % 4294967296, wrap64 (x1 + 1) % 4294967296, bt.2⟩ : S35)) bt.1 ((i + 1 : Nat) : Int)) (fun k => ?_) (evt_bind (P := fun bt => bt.1 = x1 + 2 + (xs[i].f2.length : Int)) (evt_ev (markUint64S_ev xs[i].f2 (x1 + 2) (by omega) (by omega) (by omega)) rfl) ?_)
      · simp only [Zas.l0]
        rw [if_pos (by omega), if_pos (by omega), rdCallI_eq xs i hil, hw, Zao (i := (i : Int) + 1) (by omega) (by omega), Int.toNat_natCast]
        rfl
      · rintro ⟨b1, b2⟩ hb
        dsimp only at hb ⊢
        refine ih (i + 1) _ b1 (by rw [List.length_set]; omega) (by rw [List.length_set]; omega) (by omega) ?_
        rw [List.drop_set_of_lt (by omega)]
        omega
  have h := key cs.length 0 cs 1 (by omega) hl (by omega) (by rw [List.drop_zero]; omega)
  exact h
end Go.Proofs.Ytjpjfkmnfppgkaa.P

namespace Go.Proofs.Ytjpjfkmnfppgkaa.P
open Go.RowKit Go.Proofs.YtjpjfkmnfppgkaaW.PrintWords Go.Proofs.YtjpjfkmnfppgkaaW.PrintLast Go.Proofs.YtjpjfkmnfppgkaaW.PrintMore
attribute [local go_sem] max2_int min2_int max_two min_two max_three min_three max_four min_four
set_option linter.unusedVariables false
set_option linter.unusedSimpArgs false

def laws_szUint64S.f (l0 : List Int) (a1 : Int) : Option (Int) := if (wrap64 (a1 - (l0.length : Int))) < 0 then (some (-1)) else (some (wrap64 (a1 - (l0.length : Int))))
set_option maxHeartbeats 8000000 in
set_option maxRecDepth 100000 in
theorem laws_szUint64S.calls (A0 : Option Addr) (c0 : Nat) (l0 : List Int) (a1 : Int) (r : Int) (w : World) (hr0 : Kd.C (Kd.int .u64) w A0 l0.length l0) (hc0 : l0.length ≤ c0) (h : laws_szUint64S.f l0 a1 = some r) :
  Calls Try.prog 21 #[.slice A0 l0.length c0, .int .i64 a1] w fun e w' => e = .returned (.int .i64 r) ∧ Zt w w' := by
 have HR0 := Za.mk hr0
 have HC0 := Za.mk hc0
 clear hr0 hc0
 have H : (if (wrap64 (a1 - (l0.length : Int))) < 0 then (some (-1)) else (some (wrap64 (a1 - (l0.length : Int))))) = some r := h
 clear h
 by_cases c3 : (wrap64 (a1 - (l0.length : Int))) < 0
 ·rw [if_pos c3] at H
  have c3b0 : decide ((wrap64 (a1 - (l0.length : Int))) < 0) = true := decide_eq_true c3
  clear c3
  obtain rfl := Option.some.inj H
  go_enter Try.func21, Try.ntmps21
  go_wp2
  go_ret
  exact ⟨by first | rfl | (simp; done) | (simp [*]; done), by repeat (first | exact Zt.refl _ | apply Zt.step)⟩
 ·rw [if_neg c3] at H
  have c3b0 : decide ((wrap64 (a1 - (l0.length : Int))) < 0) = false := decide_eq_false c3
  clear c3
  obtain rfl := Option.some.inj H
  go_enter Try.func21, Try.ntmps21
  go_wp2
  go_ret
  exact ⟨by first | rfl | (simp; done) | (simp [*]; done), by repeat (first | exact Zt.refl _ | apply Zt.step)⟩
def laws_szCall.f (a0_0 : Int) (a0_1 : Int) (l0_2 : List Int) (a1 : Int) : Option (Int) := (laws_szUint64S.f l0_2 a1).bind fun t102 => (if t102 < 0 then (some (-1)) else (some t102))
set_option maxHeartbeats 8000000 in
set_option maxRecDepth 100000 in
theorem laws_szCall.calls (a0_0 : Int) (a0_1 : Int) (A0_2 : Option Addr) (c0_2 : Nat) (l0_2 : List Int) (a1 : Int) (r : Int) (w : World) (hr0_2 : Kd.C (Kd.int .u64) w A0_2 l0_2.length l0_2) (hc0_2 : l0_2.length ≤ c0_2) (h : laws_szCall.f a0_0 a0_1 l0_2 a1 = some r) :
  Calls Try.prog 11 #[.agg #[.int .u32 a0_0, .int .u32 a0_1, .slice A0_2 l0_2.length c0_2], .int .i64 a1] w fun e w' => e = .returned (.int .i64 r) ∧ Below w.heap.size w w' := by
 have hu34 := Try.underlying34
 have HR0_2 := Za.mk hr0_2
 have HC0_2 := Za.mk hc0_2
 clear hr0_2 hc0_2
 have HB := Za.mk (Below.refl w.heap.size w)
 have H : ((laws_szUint64S.f l0_2 a1).bind fun t102 => (if t102 < 0 then (some (-1)) else (some t102))) = some r := h
 clear h
 replace H := Option.bind_eq_some_iff.mp H
 obtain ⟨t102, A30, H⟩ := H
 replace H : (if t102 < 0 then (some (-1)) else (some t102)) = some r := H
 have A3 := Za.mk A30
 clear A30
 by_cases c4 : t102 < 0
 ·rw [if_pos c4] at H
  have c4b0 : decide (t102 < 0) = true := decide_eq_true c4
  clear c4
  obtain rfl := Option.some.inj H
  go_enter Try.func11, Try.ntmps11
  go_wp2_with (first | ((with_reducible refine Zab (N := 2) rfl ?_); refine Zad ?hg (N := 2) ?hd (cs := #[.int .u32 a0_0, .int .u32 a0_1, .slice A0_2 l0_2.length c0_2]) (t := 34) ?hr ?_; (case hd => rfl); (case hg => rfl); (case hr => first | (go_simp; done) | (go_simp; rfl)); intro gb101 hg w5 hbox hb; have BK101 := Za.mk (hbox); have GW101 := Za.mk ((by rw [hg]; exact (Zr (by repeat (first | (with_reducible first | exact HB.out | apply Zd | apply Zf | apply Ze) | exact HB.out))) : w.heap.size ≤ gb101)); have GE101 := Za.mk ((by rw [hg]; exact (Zr (by repeat (first | (with_reducible first | exact HB.out | apply Zd | apply Zf | apply Ze) | exact HB.out))) : w.heap.size ≤ gb101)); replace HB := Za.mk (Zx (by repeat (first | (with_reducible first | exact HB.out | apply Zd | apply Zf | apply Ze) | exact HB.out)) hb); clear hb hbox hg; have hcz6_0 : w5.cell? ⟨gb101, 0, none⟩ = some (.int .u32 a0_0) := (Zc BK101.out 0).trans rfl; have hcz6_1 : w5.cell? ⟨gb101, 1, none⟩ = some (.int .u32 a0_1) := (Zc BK101.out 1).trans rfl; have hcz6_2 : w5.cell? ⟨gb101, 2, none⟩ = some (.slice A0_2 l0_2.length c0_2) := (Zc BK101.out 2).trans rfl; have hfz6_0 := Zg BK101.out 0; have hfz6_1 := Zg BK101.out 1; have hfz6_2 := Zg BK101.out 2) | ((with_reducible refine Zai (f := 21) rfl ?_); refine goesL_ (some 8) rfl rfl Try.func21 (by kernel_rfl) rfl #[.slice A0_2 l0_2.length c0_2, .int .i64 a1] rfl (by (try simp only [ZA, ZB, ZC]); first | done | rfl) ?_; (with_reducible refine (laws_szUint64S.calls _ _ l0_2 a1 t102 _ ?side1 ?side2 A3.out).mono ?_); (case side1 => repeat (first | exact (Kd.Zah HR0_2.out HB.out) | (with_reducible refine Kd.Zac ?_ _) | (with_reducible refine Kd.Zaf ?_ _) | (with_reducible refine Kd.Zae ?_))); (case side2 => exact HC0_2.out); rintro e w' ⟨rfl, ⟨nd, rfl⟩⟩; refine ⟨_, rfl, ?_⟩))
  go_ret
  exact ⟨by first | rfl | (simp [Zy, Zz] <;> rfl) | (simp [*, Zy, Zz] <;> rfl), by repeat (first | (with_reducible first | exact HB.out | apply Zd | apply Zf | apply Ze | refine Zj ?_ GE101.out) | exact HB.out)⟩
 ·rw [if_neg c4] at H
  have c4b0 : decide (t102 < 0) = false := decide_eq_false c4
  clear c4
  obtain rfl := Option.some.inj H
  go_enter Try.func11, Try.ntmps11
  go_wp2_with (first | ((with_reducible refine Zab (N := 2) rfl ?_); refine Zad ?hg (N := 2) ?hd (cs := #[.int .u32 a0_0, .int .u32 a0_1, .slice A0_2 l0_2.length c0_2]) (t := 34) ?hr ?_; (case hd => rfl); (case hg => rfl); (case hr => first | (go_simp; done) | (go_simp; rfl)); intro gb101 hg w7 hbox hb; have BK101 := Za.mk (hbox); have GW101 := Za.mk ((by rw [hg]; exact (Zr (by repeat (first | (with_reducible first | exact HB.out | apply Zd | apply Zf | apply Ze) | exact HB.out))) : w.heap.size ≤ gb101)); have GE101 := Za.mk ((by rw [hg]; exact (Zr (by repeat (first | (with_reducible first | exact HB.out | apply Zd | apply Zf | apply Ze) | exact HB.out))) : w.heap.size ≤ gb101)); replace HB := Za.mk (Zx (by repeat (first | (with_reducible first | exact HB.out | apply Zd | apply Zf | apply Ze) | exact HB.out)) hb); clear hb hbox hg; have hcz8_0 : w7.cell? ⟨gb101, 0, none⟩ = some (.int .u32 a0_0) := (Zc BK101.out 0).trans rfl; have hcz8_1 : w7.cell? ⟨gb101, 1, none⟩ = some (.int .u32 a0_1) := (Zc BK101.out 1).trans rfl; have hcz8_2 : w7.cell? ⟨gb101, 2, none⟩ = some (.slice A0_2 l0_2.length c0_2) := (Zc BK101.out 2).trans rfl; have hfz8_0 := Zg BK101.out 0; have hfz8_1 := Zg BK101.out 1; have hfz8_2 := Zg BK101.out 2) | ((with_reducible refine Zai (f := 21) rfl ?_); refine goesL_ (some 8) rfl rfl Try.func21 (by kernel_rfl) rfl #[.slice A0_2 l0_2.length c0_2, .int .i64 a1] rfl (by (try simp only [ZA, ZB, ZC]); first | done | rfl) ?_; (with_reducible refine (laws_szUint64S.calls _ _ l0_2 a1 t102 _ ?side1 ?side2 A3.out).mono ?_); (case side1 => repeat (first | exact (Kd.Zah HR0_2.out HB.out) | (with_reducible refine Kd.Zac ?_ _) | (with_reducible refine Kd.Zaf ?_ _) | (with_reducible refine Kd.Zae ?_))); (case side2 => exact HC0_2.out); rintro e w' ⟨rfl, ⟨nd, rfl⟩⟩; refine ⟨_, rfl, ?_⟩))
  go_ret
  exact ⟨by first | rfl | (simp [Zy, Zz] <;> rfl) | (simp [*, Zy, Zz] <;> rfl), by repeat (first | (with_reducible first | exact HB.out | apply Zd | apply Zf | apply Ze | refine Zj ?_ GE101.out) | exact HB.out)⟩
theorem toCall_ev (a n : Int) (l : List Int) (hl : l.length ≤ 35184372088832) : Ev (fun k => laws_toCall.f k a n l) (a, n, l) := by
  obtain ⟨K, h⟩ := ev_get (toUint64S_ev l hl)
  exact ev_mk K fun k hk => by unfold laws_toCall.f; rw [h k hk, Option.bind_some]
theorem szCall_is (a n : Int) (l : List Int) (left : Int) (hl : l.length ≤ maxLen) (h0 : 0 ≤ left) (h1 : left ≤ 1048576) : laws_szCall.f a n l left = some (if left - (l.length : Int) < 0 then -1 else left - (l.length : Int)) := by
  unfold maxLen at hl
  unfold laws_szCall.f laws_szUint64S.f
  rw [Zao (by omega) (by omega)]
  by_cases h : left - (l.length : Int) < 0
  · rw [if_pos h, if_pos h]; rfl
  · rw [if_neg h, if_neg h, Option.bind_some, if_neg h]
def Zba.l0 : Nat → List (S34) → Int → Int → Option (Int)
  | 0, _, _, _ => none
  | k + 1, x0, x1, x5 => if x5 < (x0.length : Int) then (if 0 ≤ x5 then ((laws_szCall.f ((rd_T34 x0 x5).f0) ((rd_T34 x0 x5).f1) ((rd_T34 x0 x5).f2) x1).bind fun t104 => (if t104 < 0 then (some (-1)) else (Zba.l0 k x0 t104 (wrap64 (x5 + 1))))) else (none)) else (some x1)
def Zba.f (k : Nat) (l0 : List (S34)) (a1 : Int) : Option (Int) := if (wrap64 (a1 - (l0.length : Int))) < 0 then (some (-1)) else (Zba.l0 k l0 (wrap64 (a1 - (l0.length : Int))) 0)
set_option maxHeartbeats 8000000 in
set_option maxRecDepth 100000 in
theorem Zba.calls (k : Nat) (A0 : Option Addr) (c0 : Nat) (l0 : List (S34)) (a1 : Int) (r : Int) (w : World) (hr0 : Kd.C k34 w A0 l0.length l0) (hc0 : l0.length ≤ c0) (h : Zba.f k l0 a1 = some r) :
  Calls Try.prog 4 #[.slice A0 l0.length c0, .int .i64 a1] w fun e w' => e = .returned (.int .i64 r) ∧ Below w.heap.size w w' := by
 have hu34 := Try.underlying34
 have HR0 := Za.mk hr0
 have HC0 := Za.mk hc0
 clear hr0 hc0
 have HB := Za.mk (Below.refl w.heap.size w)
 have H : (if (wrap64 (a1 - (l0.length : Int))) < 0 then (some (-1)) else (Zba.l0 k l0 (wrap64 (a1 - (l0.length : Int))) 0)) = some r := h
 clear h
 by_cases c3 : (wrap64 (a1 - (l0.length : Int))) < 0
 ·rw [if_pos c3] at H
  have c3b0 : decide ((wrap64 (a1 - (l0.length : Int))) < 0) = true := decide_eq_true c3
  clear c3
  obtain rfl := Option.some.inj H
  go_enter Try.func4, Try.ntmps4
  go_wp2
  go_ret
  exact ⟨by first | rfl | (simp [Zy, Zz] <;> rfl) | (simp [*, Zy, Zz] <;> rfl), by repeat (first | (with_reducible first | exact HB.out | apply Zd | apply Zf | apply Ze) | exact HB.out)⟩
 ·rw [if_neg c3] at H
  have c3b0 : decide ((wrap64 (a1 - (l0.length : Int))) < 0) = false := decide_eq_false c3
  clear c3
  have H' := Za.mk H
  clear H
  go_enter Try.func4, Try.ntmps4
  go_wp2
  go_loopg [1, 5] k (fun kq v1 v5 w' => ∃ (x1_1 : Int) (x5_1 : Int), v1 = .int .i64 x1_1 ∧ v5 = .int .i64 x5_1 ∧ Za (Zba.l0 kq l0 x1_1 x5_1 = some r) ∧ Za (kq ≤ k) ∧ Za (Below w.heap.size w w'))
  case atStart => exact ⟨(wrap64 (a1 - (l0.length : Int))), (0), (by first | rfl | (simp; done) | (simp [*]; done)), (by first | rfl | (simp; done) | (simp [*]; done)), H', ⟨Nat.le_refl _⟩, ⟨by repeat (first | (with_reducible first | exact HB.out | apply Zd | apply Zf | apply Ze) | exact HB.out)⟩⟩
  case round =>
   clear H'
   try clear p2
   try clear c3
   try clear c3b0
   obtain ⟨x1_1, x5_1, rfl, rfl, HA, HK1, HB⟩ := hrel
   cases gk with
   | zero => exact absurd HA.out (by simp [Zba.l0])
   | succ k1 =>
    have H := HA.out
    clear HA
    simp only [Zba.l0] at H
    by_cases c4 : x5_1 < (l0.length : Int)
    ·rw [if_pos c4] at H
     have c4b0 : decide (x5_1 < (l0.length : Int)) = true := decide_eq_true c4
     clear c4
     by_cases c5 : 0 ≤ x5_1
     ·rw [if_pos c5] at H
      have c5b0 : decide (0 ≤ x5_1) = true := decide_eq_true c5
      clear c5
      replace H := Option.bind_eq_some_iff.mp H
      obtain ⟨t104, A60, H⟩ := H
      replace H : (if t104 < 0 then (some (-1)) else (Zba.l0 k1 l0 t104 (wrap64 (x5_1 + 1)))) = some r := H
      have A6 := Za.mk A60
      clear A60
      by_cases c7 : t104 < 0
      ·rw [if_pos c7] at H
       have c7b0 : decide (t104 < 0) = true := decide_eq_true c7
       clear c7
       obtain rfl := Option.some.inj H
       have p103 : 0 ≤ (x5_1 : Int) := of_decide_eq_true (by assumption)
       have q103 : x5_1 < (l0.length : Int) := of_decide_eq_true (by assumption)
       obtain ⟨ad103, A103_2, c103_2, e103, hx103_0, hx103_1, hx103_2, hl103_2, hi103_2⟩ := at_T34 HR0.out x5_1 p103 q103
       cases e103
       replace hx103_0 := (HB.out.cell (World.block_lt_of_cell? w _ hx103_0)).trans hx103_0
       replace hx103_1 := (HB.out.cell (World.block_lt_of_cell? w _ hx103_1)).trans hx103_1
       replace hx103_2 := (HB.out.cell (World.block_lt_of_cell? w _ hx103_2)).trans hx103_2
       have HR103_2 := Za.mk hi103_2
       have HC103_2 := Za.mk hl103_2
       clear hi103_2 hl103_2
       replace p103 := eq_true p103
       replace q103 := eq_true q103
       go_wp2_with (first | ((with_reducible refine Zai (f := 11) rfl ?_); refine goesL_ (some 23) rfl rfl Try.func11 (by kernel_rfl) rfl #[.agg #[.int .u32 ((rd_T34 l0 x5_1).f0), .int .u32 ((rd_T34 l0 x5_1).f1), .slice A103_2 ((rd_T34 l0 x5_1).f2).length c103_2], .int .i64 x1_1] rfl (by (try simp only [ZA, ZB, ZC]); first | done | rfl) ?_; (with_reducible refine (laws_szCall.calls ((rd_T34 l0 x5_1).f0) ((rd_T34 l0 x5_1).f1) _ _ ((rd_T34 l0 x5_1).f2) x1_1 t104 _ ?side1 ?side2 A6.out).mono ?_); (case side1 => repeat (first | exact (Kd.Zah HR103_2.out HB.out) | (with_reducible refine Kd.Zac ?_ _) | (with_reducible refine Kd.Zaf ?_ _) | (with_reducible refine Kd.Zae ?_))); (case side2 => exact HC103_2.out); rintro e w8 ⟨rfl, hb⟩; refine ⟨_, rfl, ?_⟩; replace HB := Za.mk (Zx (by repeat (first | (with_reducible first | exact HB.out | apply Zd | apply Zf | apply Ze) | exact HB.out)) hb); (try clear hb); (try clear hb2); (try clear hk); (try clear hi)))
       go_ret
       exact ⟨by first | rfl | (simp [Zy, Zz] <;> rfl) | (simp [*, Zy, Zz] <;> rfl), by repeat (first | (with_reducible first | exact HB.out | apply Zd | apply Zf | apply Ze) | exact HB.out)⟩
      ·rw [if_neg c7] at H
       have c7b0 : decide (t104 < 0) = false := decide_eq_false c7
       clear c7
       have H' := Za.mk H
       clear H
       have p103 : 0 ≤ (x5_1 : Int) := of_decide_eq_true (by assumption)
       have q103 : x5_1 < (l0.length : Int) := of_decide_eq_true (by assumption)
       obtain ⟨ad103, A103_2, c103_2, e103, hx103_0, hx103_1, hx103_2, hl103_2, hi103_2⟩ := at_T34 HR0.out x5_1 p103 q103
       cases e103
       replace hx103_0 := (HB.out.cell (World.block_lt_of_cell? w _ hx103_0)).trans hx103_0
       replace hx103_1 := (HB.out.cell (World.block_lt_of_cell? w _ hx103_1)).trans hx103_1
       replace hx103_2 := (HB.out.cell (World.block_lt_of_cell? w _ hx103_2)).trans hx103_2
       have HR103_2 := Za.mk hi103_2
       have HC103_2 := Za.mk hl103_2
       clear hi103_2 hl103_2
       replace p103 := eq_true p103
       replace q103 := eq_true q103
       go_wp2_with (first | ((with_reducible refine Zai (f := 11) rfl ?_); refine goesL_ (some 23) rfl rfl Try.func11 (by kernel_rfl) rfl #[.agg #[.int .u32 ((rd_T34 l0 x5_1).f0), .int .u32 ((rd_T34 l0 x5_1).f1), .slice A103_2 ((rd_T34 l0 x5_1).f2).length c103_2], .int .i64 x1_1] rfl (by (try simp only [ZA, ZB, ZC]); first | done | rfl) ?_; (with_reducible refine (laws_szCall.calls ((rd_T34 l0 x5_1).f0) ((rd_T34 l0 x5_1).f1) _ _ ((rd_T34 l0 x5_1).f2) x1_1 t104 _ ?side1 ?side2 A6.out).mono ?_); (case side1 => repeat (first | exact (Kd.Zah HR103_2.out HB.out) | (with_reducible refine Kd.Zac ?_ _) | (with_reducible refine Kd.Zaf ?_ _) | (with_reducible refine Kd.Zae ?_))); (case side2 => exact HC103_2.out); rintro e w9 ⟨rfl, hb⟩; refine ⟨_, rfl, ?_⟩; replace HB := Za.mk (Zx (by repeat (first | (with_reducible first | exact HB.out | apply Zd | apply Zf | apply Ze) | exact HB.out)) hb); (try clear hb); (try clear hb2); (try clear hk); (try clear hi)))
       go_roundg k1
       case measure => have := HK1.out; omega
       case rel => exact ⟨(t104), (wrap64 (x5_1 + 1)), (by first | rfl | (simp; done) | (simp [*]; done)), (by first | rfl | (simp; done) | (simp [*]; done)), H', ⟨by have := HK1.out; omega⟩, ⟨by repeat (first | (with_reducible first | exact HB.out | apply Zd | apply Zf | apply Ze) | exact HB.out)⟩⟩
     ·rw [if_neg c5] at H
      exact absurd H (by simp)
    ·rw [if_neg c4] at H
     have c4b0 : decide (x5_1 < (l0.length : Int)) = false := decide_eq_false c4
     clear c4
     obtain rfl := Option.some.inj H
     go_wp2
     go_ret
     exact ⟨by first | rfl | (simp [Zy, Zz] <;> rfl) | (simp [*, Zy, Zz] <;> rfl), by repeat (first | (with_reducible first | exact HB.out | apply Zd | apply Zf | apply Ze) | exact HB.out)⟩
def callOf (x : S34) : S35 := ⟨x.f0, x.f1, x.f2⟩
theorem rdCallL_eq (l : List S34) (i : Nat) (h : i < l.length) : rd_T34 l (i : Int) = l[i] := by
  simp [rd_T34, List.getD_eq_getElem?_getD, List.getElem?_eq_getElem h]
def costL : List S34 → Nat
  | [] => 0
  | c :: l => c.f2.length + costL l
theorem costL_map : ∀ l : List S34, costI (l.map callOf) = costL l
  | [] => rfl
  | c :: l => by rw [List.map_cons, costI, costL, costL_map l]; rfl
theorem costL_mem : ∀ (l : List S34) (c : S34), c ∈ l → c.f2.length ≤ costL l
  | x :: l, c, h => by
    rw [costL]
    rcases List.mem_cons.1 h with rfl | h
    · omega
    · have := costL_mem l c h; omega
theorem szCallS_ev (l : List S34) (hl : l.length ≤ maxLen) (hm : ∀ c ∈ l, c.f2.length ≤ maxLen) : Ev (fun k => Zba.f k l 1048576) (if l.length + costL l ≤ 1048576 then ((1048576 - (l.length + costL l) : Nat) : Int) else -1) := by
  unfold maxLen at hl
  unfold Zba.f
  rw [Zao (i := 1048576 - (l.length : Int)) (by omega) (by omega)]
  by_cases c : (1048576 : Int) - (l.length : Int) < 0
  · rw [if_neg (by omega)]
    exact ev_is fun k => by rw [if_pos c]
  · have key : ∀ d i left : Nat, i + d = l.length → left ≤ 1048576 → Ev (fun k => Zba.l0 k l (left : Int) (i : Int)) (if costL (l.drop i) ≤ left then ((left - costL (l.drop i) : Nat) : Int) else -1) := by
      intro d
      induction d with
      | zero =>
        intro i left hi hleft
        rw [List.drop_eq_nil_of_le (by omega)]
        exact ev_end fun k => by simp only [Zba.l0]; rw [if_neg (by omega)]; simp [costL]
      | succ d ih =>
        intro i left hi hleft
        have hil : i < l.length := by omega
        rw [List.drop_eq_getElem_cons hil, costL]
        have hsz := szCall_is l[i].f0 l[i].f1 l[i].f2 (left : Int) (hm _ (List.getElem_mem hil)) (by omega) (by omega)
        by_cases g : (left : Int) - (l[i].f2.length : Int) < 0
        · rw [if_neg (by omega)]
          rw [if_pos g] at hsz
          exact ev_end fun k => by
            simp only [Zba.l0]
            rw [if_pos (by omega), if_pos (by omega), rdCallL_eq l i hil, hsz, Option.bind_some, if_pos (by decide)]
        · rw [if_neg g] at hsz
          have e : (left : Int) - (l[i].f2.length : Int) = ((left - l[i].f2.length : Nat) : Int) := by omega
          rw [e] at hsz
          have h := ih (i + 1) (left - l[i].f2.length) (by omega) (by omega)
          have e2 : (if l[i].f2.length + costL (l.drop (i + 1)) ≤ left then ((left - (l[i].f2.length + costL (l.drop (i + 1))) : Nat) : Int) else -1) = (if costL (l.drop (i + 1)) ≤ left - l[i].f2.length then ((left - l[i].f2.length - costL (l.drop (i + 1)) : Nat) : Int) else -1) := by
            by_cases q : l[i].f2.length + costL (l.drop (i + 1)) ≤ left
            · rw [if_pos q, if_pos (by omega)]; congr 1; omega
            · rw [if_neg q, if_neg (by omega)]
          rw [e2]
          refine ev_step _ (fun k => ?_) h
          simp only [Zba.l0]
          rw [if_pos (by omega), if_pos (by omega), rdCallL_eq l i hil, hsz, Option.bind_some, if_neg (by omega), Zao (by omega) (by omega)]
          rfl
    have h := key l.length 0 (1048576 - l.length) (by omega) (by omega)
    rw [List.drop_zero] at h
    have e : (if l.length + costL l ≤ 1048576 then ((1048576 - (l.length + costL l) : Nat) : Int) else -1) = (if costL l ≤ 1048576 - l.length then ((1048576 - l.length - costL l : Nat) : Int) else -1) := by
      by_cases q : l.length + costL l ≤ 1048576
      · rw [if_pos q, if_pos (by omega)]; congr 1; omega
      · rw [if_neg q, if_neg (by omega)]
    rw [e]
    refine Ev.congr (fun k => ?_) h
    rw [if_neg c, show (1048576 : Int) - (l.length : Int) = ((1048576 - l.length : Nat) : Int) by omega]
    rfl
theorem toCallS_ev (l : List S34) (hl : l.length ≤ 1048576) (hm : ∀ c ∈ l, c.f2.length ≤ 1048576) : Ev (fun k => Zaq.f k l) (l.map callOf) := by
  have key := ev_loop (fun k s i => Zaq.l0 k l s i) l.length (filled callOf l z35) _ _ (filled_zero callOf l z35) (filled_all callOf l z35) (fun i hi r hr => by
    have hf := filled_length callOf l z35 i (by omega)
    have hml := hm _ (List.getElem_mem hi)
    have hs := filled_set callOf l z35 i hi
    refine ev_step (fun k => (laws_toCall.f k l[i].f0 l[i].f1 l[i].f2).bind fun bt => Zaq.l0 k l ((filled callOf l z35 i).set i (⟨bt.1, bt.2.1, bt.2.2⟩ : S35)) ((i + 1 : Nat) : Int)) (fun k => ?_) (Ev.bind (toCall_ev l[i].f0 l[i].f1 l[i].f2 (by omega)) (Ev.congr (fun k => ?_) hr))
    · simp only [Zaq.l0]
      rw [if_pos (by omega), if_pos (by omega), rdCallL_eq l i hi, Zao (by omega) (by omega), Int.toNat_natCast]
      congr 1
      funext bt
      rw [if_pos (by omega)]
      rfl
    · have e : (⟨l[i].f0, l[i].f1, l[i].f2⟩ : S35) = callOf l[i] := rfl
      simp only
      rw [e, hs]) (l.map callOf) (ev_end fun k => by simp only [Zaq.l0]; rw [if_neg (by omega)])
  refine Ev.congr (fun k => ?_) key
  unfold Zaq.f
  rw [if_pos (by omega), if_pos (by omega), Int.toNat_natCast]
def Zbd.l0 : Nat → List Int → Int → Int → Option (Int)
  | 0, _, _, _ => none
  | k + 1, x0, x1, x5 => if x5 < (x0.length : Int) then (if 0 ≤ x5 then (if (rd x0 x5) = (IntKind.u64.wrap (x1)) then (Zbd.l0 k x0 (wrap64 (x1 + 1)) (wrap64 (x5 + 1))) else (some (-1))) else (none)) else (some x1)
def Zbd.f (k : Nat) (l0 : List Int) (a1 : Int) : Option (Int) := Zbd.l0 k l0 a1 0
set_option maxHeartbeats 8000000 in
set_option maxRecDepth 100000 in
theorem Zbd.calls (k : Nat) (A0 : Option Addr) (c0 : Nat) (l0 : List Int) (a1 : Int) (r : Int) (w : World) (hr0 : Kd.C (Kd.int .u64) w A0 l0.length l0) (hc0 : l0.length ≤ c0) (h : Zbd.f k l0 a1 = some r) :
  Calls Try.prog 20 #[.slice A0 l0.length c0, .int .i64 a1] w fun e w' => e = .returned (.int .i64 r) ∧ Zt w w' := by
 have HR0 := Za.mk hr0
 have HC0 := Za.mk hc0
 clear hr0 hc0
 have H : (Zbd.l0 k l0 a1 0) = some r := h
 clear h
 have H' := Za.mk H
 clear H
 go_enter Try.func20, Try.ntmps20
 go_wp2
 go_loopg [1, 5] k (fun kq v1 v5 w' => ∃ (x1_1 : Int) (x5_1 : Int), v1 = .int .i64 x1_1 ∧ v5 = .int .i64 x5_1 ∧ Za (Zbd.l0 kq l0 x1_1 x5_1 = some r) ∧ Za (kq ≤ k) ∧ Zt w w')
 case atStart => exact ⟨(a1), (0), (by first | rfl | (simp; done) | (simp [*]; done)), (by first | rfl | (simp; done) | (simp [*]; done)), H', ⟨Nat.le_refl _⟩, by repeat (first | exact Zt.refl _ | apply Zt.step)⟩
 case round =>
  clear H'
  try clear c2
  try clear p2
  obtain ⟨x1_1, x5_1, rfl, rfl, HA, HK1, ⟨m1, rfl⟩⟩ := hrel
  cases gk with
  | zero => exact absurd HA.out (by simp [Zbd.l0])
  | succ k1 =>
   have H := HA.out
   clear HA
   simp only [Zbd.l0] at H
   by_cases c3 : x5_1 < (l0.length : Int)
   ·rw [if_pos c3] at H
    have c3b0 : decide (x5_1 < (l0.length : Int)) = true := decide_eq_true c3
    clear c3
    by_cases c4 : 0 ≤ x5_1
    ·rw [if_pos c4] at H
     have c4b0 : decide (0 ≤ x5_1) = true := decide_eq_true c4
     clear c4
     by_cases c5 : (rd l0 x5_1) = (IntKind.u64.wrap (x1_1))
     ·rw [if_pos c5] at H
      have c5b0 : ((rd l0 x5_1) == (IntKind.u64.wrap (x1_1))) = true := beq_iff_eq.mpr c5
      have c5b1 : ((rd l0 x5_1) != (IntKind.u64.wrap (x1_1))) = false := bne_eq_false_iff_eq.mpr c5
      clear c5
      have H' := Za.mk H
      clear H
      have p212 : 0 ≤ (x5_1 : Int) := of_decide_eq_true (by assumption)
      have q212 : x5_1 < (l0.length : Int) := of_decide_eq_true (by assumption)
      obtain ⟨ad212, e212, hx212_0⟩ := Kd.at_int HR0.out x5_1 p212 q212
      cases e212
      replace p212 := eq_true p212
      replace q212 := eq_true q212
      go_wp2
      go_roundg k1
      case measure => have := HK1.out; omega
      case rel => exact ⟨(wrap64 (x1_1 + 1)), (wrap64 (x5_1 + 1)), (by first | rfl | (simp; done) | (simp [*]; done)), (by first | rfl | (simp; done) | (simp [*]; done)), H', ⟨by have := HK1.out; omega⟩, by repeat (first | exact Zt.refl _ | apply Zt.step)⟩
     ·rw [if_neg c5] at H
      have c5b0 : ((rd l0 x5_1) == (IntKind.u64.wrap (x1_1))) = false := beq_eq_false_iff_ne.mpr c5
      have c5b1 : ((rd l0 x5_1) != (IntKind.u64.wrap (x1_1))) = true := bne_iff_ne.mpr c5
      obtain rfl := Option.some.inj H
      have p212 : 0 ≤ (x5_1 : Int) := of_decide_eq_true (by assumption)
      have q212 : x5_1 < (l0.length : Int) := of_decide_eq_true (by assumption)
      obtain ⟨ad212, e212, hx212_0⟩ := Kd.at_int HR0.out x5_1 p212 q212
      cases e212
      replace p212 := eq_true p212
      replace q212 := eq_true q212
      go_wp2
      go_ret
      exact ⟨by first | rfl | (simp; done) | (simp [*]; done), by repeat (first | exact Zt.refl _ | apply Zt.step)⟩
    ·rw [if_neg c4] at H
     exact absurd H (by simp)
   ·rw [if_neg c3] at H
    have c3b0 : decide (x5_1 < (l0.length : Int)) = false := decide_eq_false c3
    clear c3
    obtain rfl := Option.some.inj H
    go_wp2
    go_ret
    exact ⟨by first | rfl | (simp; done) | (simp [*]; done), by repeat (first | exact Zt.refl _ | apply Zt.step)⟩

end Go.Proofs.Ytjpjfkmnfppgkaa.P
