import Derived.Test.YtgodbniphkfgfaaGFnProgram4
import Derived.Test.YtgodbniphkfgfaaGFnProgram5
namespace Go.Proofs.Ytgodbniphkfgfaa.P
open Go.RowKit Go.Proofs.YtgodbniphkfgfaaW.PrintWords Go.Proofs.YtgodbniphkfgfaaW.PrintLast Go.Proofs.YtgodbniphkfgfaaW.PrintMore
attribute [local go_sem] max2_int min2_int max_two min_two max_three min_three max_four min_four
set_option linter.unusedVariables false
set_option linter.unusedSimpArgs false

def Zbs.l0 : Nat → List Int → Int → Int → List Int → Int → Option (List Int)
  | 0, _, _, _, _, _ => none
  | k + 1, x0, x1, x2, x7, x8 => if x8 < (x0.length : Int) then (if x8 = x1 then (if x7.length < 17592186044416 then (Zbs.l0 k x0 x1 x2 (x7 ++ [x2]) (wrap64 (x8 + 1))) else (none)) else (if 0 ≤ x8 then (if x7.length < 17592186044416 then (Zbs.l0 k x0 x1 x2 (x7 ++ [rd x0 x8]) (wrap64 (x8 + 1))) else (none)) else (none))) else (some x7)
def Zbs.f (k : Nat) (l0 : List Int) (a1 : Int) (a2 : Int) : Option (List Int) := Zbs.l0 k l0 a1 a2 ([] : List Int) 0
set_option maxHeartbeats 8000000 in
set_option maxRecDepth 100000 in
theorem Zbs.calls (k : Nat) (A0 : Option Addr) (c0 : Nat) (l0 : List Int) (a1 : Int) (a2 : Int) (r : List Int) (w : World) (hr0 : Kd.C (Kd.int .i64) w A0 l0.length l0) (hc0 : l0.length ≤ c0) (h : Zbs.f k l0 a1 a2 = some r) :
  Calls Try.prog 68 #[.slice A0 l0.length c0, .int .i64 a1, .int .i64 a2] w fun e w' => ∃ v0_ : Value, e = .returned (v0_) ∧ Kd.R (Kd.int .i64) 3 w' w.heap.size (fun _ => True) v0_ r ∧ Below w.heap.size w w' := by
 have HR0 := Za.mk hr0
 have HC0 := Za.mk hc0
 clear hr0 hc0
 have HB := Za.mk (Below.refl w.heap.size w)
 have H : (Zbs.l0 k l0 a1 a2 ([] : List Int) 0) = some r := h
 clear h
 have H' := Za.mk H
 clear H
 go_enter Try.func68, Try.ntmps68
 go_wp2
 go_loopg [7, 8] k (fun kq v7 v8 w' => ∃ (x7_1 : List Int) (x8_1 : Int), v8 = .int .i64 x8_1 ∧ Za (Zbs.l0 kq l0 a1 a2 x7_1 x8_1 = some r) ∧ Za (kq ≤ k) ∧ Za (Kd.R (Kd.int .i64) 3 w' w.heap.size (fun _ => True) v7 x7_1) ∧ Za (Below w.heap.size w w'))
 case atStart => exact ⟨(([] : List Int)), (0), (by first | rfl | (simp; done) | (simp [*]; done)), H', ⟨Nat.le_refl _⟩, ⟨by first | exact Kd.R_nil _ _ _ _ _ | exact Kd.N_nil _ _ _ _ _ | exact Kd.V_nil _ _ _ _ _ | exact Kd.Q_nil _ _ _ _ _ | exact Kd.S_nil _ _ _ _ _⟩, ⟨by repeat (first | (with_reducible first | exact HB.out | apply Ze | apply Zf | apply Zd) | exact HB.out)⟩⟩
 case round =>
  clear H'
  try clear p2
  obtain ⟨x7_1, x8_1, rfl, HA, HK1, HO_7, HB⟩ := hrel
  cases gk with
  | zero => exact absurd HA.out (by simp [Zbs.l0])
  | succ k1 =>
   have H := HA.out
   clear HA
   simp only [Zbs.l0] at H
   by_cases c4 : x8_1 < (l0.length : Int)
   ·rw [if_pos c4] at H
    have c4b0 : decide (x8_1 < (l0.length : Int)) = true := decide_eq_true c4
    clear c4
    by_cases c5 : x8_1 = a1
    ·rw [if_pos c5] at H
     have c5b0 : (x8_1 == a1) = true := beq_iff_eq.mpr c5
     have c5b1 : (x8_1 != a1) = false := bne_eq_false_iff_eq.mpr c5
     clear c5
     by_cases c6 : x7_1.length < 17592186044416
     ·rw [if_pos c6] at H
      have LMc6 := Za.mk c6
      clear c6
      obtain ⟨y339, hy339⟩ : ∃ y_ : List Int, y_ = (x7_1 ++ [a2]) := ⟨_, rfl⟩
      replace H : (Zbs.l0 k1 l0 a1 a2 y339 (wrap64 (x8_1 + 1))) = some r := by first | (rw [hy339]; with_reducible exact H) | (have H2_ := (Option.bind_some _ _).symm.trans H; rw [hy339]; with_reducible exact H2_) | (have H2_ := (Option.bind_some _ _).symm.trans H; with_reducible exact H2_) | with_reducible exact H | (rw [hy339]; exact H) | exact H
      have Ny339 := Za.mk hy339
      clear hy339
      have H' := Za.mk H
      clear H
      go_wp2_with (first | ((with_reducible refine Zce (b := .append) (xs := #[.tmp 18, .tmp 20]) rfl ?_); at_builtin; refine Kd.R_append (Kd.int .i64) (w0 := w) w.heap.size rfl (.tmp 18) (.tmp 20) 96 3 (.int .i64 0) 8 rfl Try.underlying96 info3 rfl (by decide) (by omega) u7 x7_1 a2 [.int .i64 a2] (fun _ => True) (fun _ => False) rfl rfl ?aP (fun _ hk => hk.elim) ?aF ?aO ?aB ?aS ?aL ?_; (case aP => exact rfl); (case aB => exact (by repeat (first | (with_reducible first | exact HB.out | apply Ze | apply Zf | apply Zd) | exact HB.out))); (case aF => exact (fun _ _ => trivial)); (case aO => exact (by (with_reducible repeat (first | apply Kd.Zs | apply Kd.Zt | apply Kd.Zr)); exact HO_7.out)); (case aS => exact (Zas (by repeat (first | (with_reducible first | exact HB.out | apply Ze | apply Zf | apply Zd) | exact HB.out)))); (case aL => have := LMc6.out; omega); intro v340 w7 ho hb hg hat; rw [← Ny339.out] at ho; have n0_ := Za.mk (hb); have n1_ := Za.mk (ho); clear HB; clear HO_7; have HB := n0_; have HO341 := n1_; clear n0_ n1_; clear ho hb hg hat))
      go_roundg k1
      case measure => have := HK1.out; omega
      case rel => exact ⟨(y339), (wrap64 (x8_1 + 1)), (by first | rfl | (simp; done) | (simp [*]; done)), H', ⟨by have := HK1.out; omega⟩, ⟨by (with_reducible repeat (first | apply Kd.Zs | apply Kd.Zt | apply Kd.Zr)); exact HO341.out⟩, ⟨by repeat (first | (with_reducible first | exact HB.out | apply Ze | apply Zf | apply Zd) | exact HB.out)⟩⟩
     ·rw [if_neg c6] at H
      exact absurd H (by simp)
    ·rw [if_neg c5] at H
     have c5b0 : (x8_1 == a1) = false := beq_eq_false_iff_ne.mpr c5
     have c5b1 : (x8_1 != a1) = true := bne_iff_ne.mpr c5
     by_cases c8 : 0 ≤ x8_1
     ·rw [if_pos c8] at H
      have c8b0 : decide (0 ≤ x8_1) = true := decide_eq_true c8
      clear c8
      by_cases c9 : x7_1.length < 17592186044416
      ·rw [if_pos c9] at H
       have LMc9 := Za.mk c9
       clear c9
       obtain ⟨y343, hy343⟩ : ∃ y_ : List Int, y_ = (x7_1 ++ [rd l0 x8_1]) := ⟨_, rfl⟩
       replace H : (Zbs.l0 k1 l0 a1 a2 y343 (wrap64 (x8_1 + 1))) = some r := by first | (rw [hy343]; with_reducible exact H) | (have H2_ := (Option.bind_some _ _).symm.trans H; rw [hy343]; with_reducible exact H2_) | (have H2_ := (Option.bind_some _ _).symm.trans H; with_reducible exact H2_) | with_reducible exact H | (rw [hy343]; exact H) | exact H
       have Ny343 := Za.mk hy343
       clear hy343
       have H' := Za.mk H
       clear H
       have p342 : 0 ≤ (x8_1 : Int) := of_decide_eq_true (by assumption)
       have q342 : x8_1 < (l0.length : Int) := of_decide_eq_true (by assumption)
       obtain ⟨ad342, e342, hx342_0⟩ := Kd.at_int HR0.out x8_1 p342 q342
       cases e342
       replace hx342_0 := (HB.out.cell (World.block_lt_of_cell? w _ hx342_0)).trans hx342_0
       replace p342 := eq_true p342
       replace q342 := eq_true q342
       go_wp2_with (first | ((with_reducible refine Zce (b := .append) (xs := #[.tmp 22, .tmp 27]) rfl ?_); at_builtin; refine Kd.R_append (Kd.int .i64) (w0 := w) w.heap.size rfl (.tmp 22) (.tmp 27) 96 3 (.int .i64 0) 8 rfl Try.underlying96 info3 rfl (by decide) (by omega) u7 x7_1 (rd l0 x8_1) [.int .i64 (rd l0 x8_1)] (fun _ => True) (fun _ => False) rfl rfl ?aP (fun _ hk => hk.elim) ?aF ?aO ?aB ?aS ?aL ?_; (case aP => exact rfl); (case aB => exact (by repeat (first | (with_reducible first | exact HB.out | apply Ze | apply Zf | apply Zd) | exact HB.out))); (case aF => exact (fun _ _ => trivial)); (case aO => exact (by (with_reducible repeat (first | apply Kd.Zs | apply Kd.Zt | apply Kd.Zr)); exact HO_7.out)); (case aS => exact (Zas (by repeat (first | (with_reducible first | exact HB.out | apply Ze | apply Zf | apply Zd) | exact HB.out)))); (case aL => have := LMc9.out; omega); intro v344 w10 ho hb hg hat; rw [← Ny343.out] at ho; have n0_ := Za.mk (hb); have n1_ := Za.mk (ho); clear HB; clear HO_7; have HB := n0_; have HO345 := n1_; clear n0_ n1_; clear ho hb hg hat))
       go_roundg k1
       case measure => have := HK1.out; omega
       case rel => exact ⟨(y343), (wrap64 (x8_1 + 1)), (by first | rfl | (simp; done) | (simp [*]; done)), H', ⟨by have := HK1.out; omega⟩, ⟨by (with_reducible repeat (first | apply Kd.Zs | apply Kd.Zt | apply Kd.Zr)); exact HO345.out⟩, ⟨by repeat (first | (with_reducible first | exact HB.out | apply Ze | apply Zf | apply Zd) | exact HB.out)⟩⟩
      ·rw [if_neg c9] at H
       exact absurd H (by simp)
     ·rw [if_neg c8] at H
      exact absurd H (by simp)
   ·rw [if_neg c4] at H
    have c4b0 : decide (x8_1 < (l0.length : Int)) = false := decide_eq_false c4
    clear c4
    obtain rfl := Option.some.inj H
    go_wp2
    go_ret
    exact ⟨_, by first | rfl | (simp [Zo, Zp] <;> rfl) | (simp [*, Zo, Zp] <;> rfl), by (with_reducible repeat (first | apply Kd.Zs | apply Kd.Zt | apply Kd.Zr)); exact HO_7.out, by repeat (first | (with_reducible first | exact HB.out | apply Ze | apply Zf | apply Zd) | exact HB.out)⟩
mutual
def Zz.j0 : Nat → List (S54) → List Int → Int → Int → Int → Int → Int → Int → Bool → Int → Int → List Int → Option (Int × Int)
 | 0, _, _, _, _, _, _, _, _, _, _, _, _ => none
 | k + 1, x0, x1, x8, x9, x10, x11, x12, x13, x42, x347000, x347001, x347002 => if x42 = true then (Zz.j1 k x0 x1 x8 x9 x10 x11 x12 x347001 x347000 x347001 x347002) else (Zz.j1 k x0 x1 x8 x9 x10 x11 x12 x13 x347000 x347001 x347002)
def Zz.j1 : Nat → List (S54) → List Int → Int → Int → Int → Int → Int → Int → Int → Int → List Int → Option (Int × Int)
 | 0, _, _, _, _, _, _, _, _, _, _, _ => none
 | k + 1, x0, x1, x8, x9, x10, x11, x12, x13, x347000, x347001, x347002 => if x10 = 6 then (if x11 = 1 then (some (x347000, 1)) else (some (x9, 1))) else (if x10 = 4 then (if x11 = 3 then (Zz.j2 k x0 x1 x11 x12 x13 (x13 == 0) x347000 x347001 x347002) else (Zz.j2 k x0 x1 x11 x12 x13 false x347000 x347001 x347002)) else (if x8 = 5 then (if 0 ≤ (wrap64 (1 + x9)) then (if (wrap64 (1 + x9)) ≤ (x0.length : Int) then ((Zz.f k (x0.drop ((wrap64 (1 + x9)) : Int).toNat) x1 x347000 x347001 x347002).bind fun bt360 => (some (bt360.1, wrap64 (bt360.2 + 1)))) else (none)) else (none)) else (if x10 = 5 then (if 0 < (x0.length : Int) then ((spec_l1holds.f k x11 x347000 x13).bind fun t363 => (if t363 = true then (if 0 ≤ (wrap64 (1 + (wrap64 ((Zb x0 0).f1)))) then (if (wrap64 (1 + (wrap64 ((Zb x0 0).f1)))) ≤ (x0.length : Int) then ((Zz.f k (x0.drop ((wrap64 (1 + (wrap64 ((Zb x0 0).f1)))) : Int).toNat) x1 x347000 x347001 x347002).bind fun bt369 => (some (bt369.1, wrap64 (bt369.2 + 1)))) else (none)) else (none)) else (if 0 ≤ (wrap64 (1 + (wrap64 ((Zb x0 0).f2)))) then (if (wrap64 (1 + (wrap64 ((Zb x0 0).f2)))) ≤ (x0.length : Int) then ((Zz.f k (x0.drop ((wrap64 (1 + (wrap64 ((Zb x0 0).f2)))) : Int).toNat) x1 x347000 x347001 x347002).bind fun bt375 => (some (bt375.1, wrap64 (bt375.2 + 1)))) else (none)) else (none)))) else (none)) else (if x8 = 0 then (if 0 ≤ (wrap64 (1 + x12)) then (if (wrap64 (1 + x12)) ≤ (x0.length : Int) then ((Zz.f k (x0.drop ((wrap64 (1 + x12)) : Int).toNat) x1 x9 x347001 x347002).bind fun bt381 => (some (bt381.1, wrap64 (bt381.2 + 1)))) else (none)) else (none)) else (if x8 = 1 then (if 0 ≤ (wrap64 (1 + x12)) then (if (wrap64 (1 + x12)) ≤ (x0.length : Int) then ((Zz.f k (x0.drop ((wrap64 (1 + x12)) : Int).toNat) x1 x347000 x9 x347002).bind fun bt387 => (some (bt387.1, wrap64 (bt387.2 + 1)))) else (none)) else (none)) else (if x8 = 32 then ((spec_l1word.f x1 x9).bind fun t389 => (if 0 ≤ (wrap64 (1 + x12)) then (if (wrap64 (1 + x12)) ≤ (x0.length : Int) then ((Zz.f k (x0.drop ((wrap64 (1 + x12)) : Int).toNat) x1 t389 x347001 x347002).bind fun bt394 => (some (bt394.1, wrap64 (bt394.2 + 1)))) else (none)) else (none))) else (if x8 = 96 then (if 0 ≤ x9 then (if x9 < (x347002.length : Int) then (if 0 ≤ (wrap64 (1 + x12)) then (if (wrap64 (1 + x12)) ≤ (x0.length : Int) then ((Zz.f k (x0.drop ((wrap64 (1 + x12)) : Int).toNat) x1 (rd x347002 x9) x347001 x347002).bind fun bt401 => (some (bt401.1, wrap64 (bt401.2 + 1)))) else (none)) else (none)) else (none)) else (none)) else (if x8 = 97 then (if 0 ≤ x9 then (if x9 < (x347002.length : Int) then (if 0 ≤ (wrap64 (1 + x12)) then (if (wrap64 (1 + x12)) ≤ (x0.length : Int) then ((Zz.f k (x0.drop ((wrap64 (1 + x12)) : Int).toNat) x1 x347000 (rd x347002 x9) x347002).bind fun bt408 => (some (bt408.1, wrap64 (bt408.2 + 1)))) else (none)) else (none)) else (none)) else (none)) else (if x8 = 2 then ((Zbs.f k x347002 x9 x347000).bind fun t410 => (if 0 ≤ (wrap64 (1 + x12)) then (if (wrap64 (1 + x12)) ≤ (x0.length : Int) then ((Zz.f k (x0.drop ((wrap64 (1 + x12)) : Int).toNat) x1 x347000 x347001 t410).bind fun bt417 => (some (bt417.1, wrap64 (bt417.2 + 1)))) else (none)) else (none))) else (if x8 = 3 then ((Zbs.f k x347002 x9 x347001).bind fun t419 => (if 0 ≤ (wrap64 (1 + x12)) then (if (wrap64 (1 + x12)) ≤ (x0.length : Int) then ((Zz.f k (x0.drop ((wrap64 (1 + x12)) : Int).toNat) x1 x347000 x347001 t419).bind fun bt426 => (some (bt426.1, wrap64 (bt426.2 + 1)))) else (none)) else (none))) else (if x8 = 7 then (if 0 ≤ (wrap64 (1 + x12)) then (if (wrap64 (1 + x12)) ≤ (x0.length : Int) then ((Zz.f k (x0.drop ((wrap64 (1 + x12)) : Int).toNat) x1 x347000 x347000 x347002).bind fun bt432 => (some (bt432.1, wrap64 (bt432.2 + 1)))) else (none)) else (none)) else (if 0 ≤ (wrap64 (1 + x12)) then (if (wrap64 (1 + x12)) ≤ (x0.length : Int) then ((Zz.f k (x0.drop ((wrap64 (1 + x12)) : Int).toNat) x1 x347001 x347001 x347002).bind fun bt438 => (some (bt438.1, wrap64 (bt438.2 + 1)))) else (none)) else (none)))))))))))))
def Zz.j2 : Nat → List (S54) → List Int → Int → Int → Int → Bool → Int → Int → List Int → Option (Int × Int)
 | 0, _, _, _, _, _, _, _, _, _ => none
 | k + 1, x0, x1, x11, x12, x13, x59, x347000, x347001, x347002 => if x59 = true then (some (2147483648, 1)) else ((Zbk.f k x11 x347000 x13).bind fun t349 => (if 0 ≤ (wrap64 (1 + x12)) then (if (wrap64 (1 + x12)) ≤ (x0.length : Int) then ((Zz.f k (x0.drop ((wrap64 (1 + x12)) : Int).toNat) x1 t349 x347001 x347002).bind fun bt354 => (some (bt354.1, wrap64 (bt354.2 + 1)))) else (none)) else (none)))
def Zz.f : Nat → List (S54) → List Int → Int → Int → List Int → Option (Int × Int)
 | 0, _, _, _, _, _ => none
 | k + 1, l0, l1, a2_0, a2_1, l2_2 => if 0 < (l0.length : Int) then (if (Int.tmod (wrap64 ((Zb l0 0).f0)) 8) ≥ 4 then (if (Int.tmod (wrap64 ((Zb l0 0).f0)) 8) ≤ 6 then (Zz.j0 k l0 l1 (wrap64 ((Zb l0 0).f0)) (wrap64 ((Zb l0 0).f3)) (Int.tmod (wrap64 ((Zb l0 0).f0)) 8) (wrap64 (Int.tdiv (wrap64 ((Zb l0 0).f0)) 16)) 0 (wrap64 ((Zb l0 0).f3)) ((Int.tmod (wrap64 (Int.tdiv (wrap64 ((Zb l0 0).f0)) 8)) 2) == 1) a2_0 a2_1 l2_2) else (Zz.j0 k l0 l1 (wrap64 ((Zb l0 0).f0)) (wrap64 ((Zb l0 0).f3)) (Int.tmod (wrap64 ((Zb l0 0).f0)) 8) (wrap64 (Int.tdiv (wrap64 ((Zb l0 0).f0)) 16)) 0 (wrap64 ((Zb l0 0).f3)) false a2_0 a2_1 l2_2)) else (Zz.j0 k l0 l1 (wrap64 ((Zb l0 0).f0)) (wrap64 ((Zb l0 0).f3)) (Int.tmod (wrap64 ((Zb l0 0).f0)) 8) (wrap64 (Int.tdiv (wrap64 ((Zb l0 0).f0)) 16)) 0 (wrap64 ((Zb l0 0).f3)) false a2_0 a2_1 l2_2)) else (none)
end
def Zz.T40 : Bool × List (List Nat × List Nat) := (true, [([], []), ([], []), ([1], [1]), ([0, 2], [0, 2]), ([], []), ([], []), ([3, 4, 5], [3, 4, 5]), ([6], [6]), ([7], [7]), ([7], [7]), ([8, 6, 0, 1, 2, 3, 4, 5, 6, 7, 8], [8]), ([9, 10, 0, 1, 2, 3, 4, 5, 6, 7, 8, 9, 10], [9])])
def Zz.B40 : List Nat := [0, 0, 2, 7, 0, 0, 63, 127, 255, 255, 511, 2047]
theorem Zz.tab40 : rtab .any (opsOf Try.f54 40) = Zz.T40 := by kernel_rfl
theorem Zz.bits40 : waitsOk Zz.T40.2 Zz.B40 = true := by kernel_rfl
set_option maxHeartbeats 8000000 in
set_option maxRecDepth 100000 in
theorem Zz.calls (k : Nat) : ∀ (A0 : Option Addr) (c0 : Nat) (l0 : List (S54)) (A1 : Option Addr) (c1 : Nat) (l1 : List Int) (a2_0 : Int) (a2_1 : Int) (A2_2 : Option Addr) (c2_2 : Nat) (l2_2 : List Int) (r1 : Int) (r2 : Int) (w : World) (hr0 : Kd.C k54 w A0 l0.length l0) (hc0 : l0.length ≤ c0) (hr1 : Kd.C (Kd.int .u8) w A1 l1.length l1) (hc1 : l1.length ≤ c1) (hr2_2 : Kd.C (Kd.int .i64) w A2_2 l2_2.length l2_2) (hc2_2 : l2_2.length ≤ c2_2) (h : Zz.f k l0 l1 a2_0 a2_1 l2_2 = some (r1, r2)),
  Calls Try.prog 54 #[.slice A0 l0.length c0, .slice A1 l1.length c1, .agg #[.int .i64 a2_0, .int .i64 a2_1, .slice A2_2 l2_2.length c2_2]] w fun e w' => e = .returned (.tuple #[.int .i64 r1, .int .i64 r2]) ∧ Below w.heap.size w w' := by
 induction k using Nat.strongRecOn with
 | _ k ih =>
 intro A0 c0 l0 A1 c1 l1 a2_0 a2_1 A2_2 c2_2 l2_2 r1 r2 w hr0 hc0 hr1 hc1 hr2_2 hc2_2 h
 cases k with
 | zero => exact absurd h (by simp [Zz.f])
 | succ k =>
 simp only [Zz.f] at h
 have hu98 := Try.underlying98
 have HR0 := Za.mk hr0
 have HC0 := Za.mk hc0
 clear hr0 hc0
 have HR1 := Za.mk hr1
 have HC1 := Za.mk hc1
 clear hr1 hc1
 have HR2_2 := Za.mk hr2_2
 have HC2_2 := Za.mk hc2_2
 clear hr2_2 hc2_2
 have HB := Za.mk (Below.refl w.heap.size w)
 have H := h
 unfold Zz.f at H
 clear h
 by_cases c4 : 0 < (l0.length : Int)
 ·rw [if_pos c4] at H
  have c4b0 : decide (0 < (l0.length : Int)) = true := decide_eq_true c4
  have c4b1 : decide (0 < l0.length) = true := decide_eq_true (by omega)
  clear c4
  have HC5 := Za.mk H
  clear H
  go_enter Try.func54, Try.ntmps54
  go_upto_region 7 with (first | ((with_reducible refine Zbj (N := 5) rfl ?_); refine Zbo ?hg (N := 5) ?hd (cs := #[.int .i64 a2_0, .int .i64 a2_1, .slice A2_2 l2_2.length c2_2]) (t := 98) ?hr ?_; (case hd => rfl); (case hg => rfl); (case hr => first | (go_simp; done) | (go_simp; rfl)); intro gb346 hg w6 hbox hb; have BK346 := Za.mk (hbox); have GW346 := Za.mk ((by rw [hg]; exact (Zas (by repeat (first | (with_reducible first | exact HB.out | apply Ze | apply Zf | apply Zd) | exact HB.out))) : w.heap.size ≤ gb346)); have GE346 := Za.mk ((by rw [hg]; exact (Zas (by repeat (first | (with_reducible first | exact HB.out | apply Ze | apply Zf | apply Zd) | exact HB.out))) : w.heap.size ≤ gb346)); replace HB := Za.mk (Zai (by repeat (first | (with_reducible first | exact HB.out | apply Ze | apply Zf | apply Zd) | exact HB.out)) hb); clear hb hbox hg; have p347 : 0 ≤ (0 : Int) := (by omega); have q347 : 0 < (l0.length : Int) := of_decide_eq_true (by assumption); obtain ⟨ad347, e347, hx347_0, hx347_1, hx347_2, hx347_3⟩ := at_T54 HR0.out 0 p347 q347; cases e347; have qi347 : (0 < l0.length) = True := eq_true (by omega); (try rw [show ((0 : Int)).toNat = 0 from rfl] at hx347_0); (try rw [show 0 * 4 = 0 from rfl] at hx347_0); (try rw [Addr.add_zero'] at hx347_0); (try rw [show ((0 : Int)).toNat = 0 from rfl] at hx347_1); (try rw [show 0 * 4 = 0 from rfl] at hx347_1); (try rw [Addr.add_zero'] at hx347_1); (try rw [show ((0 : Int)).toNat = 0 from rfl] at hx347_2); (try rw [show 0 * 4 = 0 from rfl] at hx347_2); (try rw [Addr.add_zero'] at hx347_2); (try rw [show ((0 : Int)).toNat = 0 from rfl] at hx347_3); (try rw [show 0 * 4 = 0 from rfl] at hx347_3); (try rw [Addr.add_zero'] at hx347_3); replace hx347_0 := (HB.out.cell (World.block_lt_of_cell? w _ hx347_0)).trans hx347_0; replace hx347_1 := (HB.out.cell (World.block_lt_of_cell? w _ hx347_1)).trans hx347_1; replace hx347_2 := (HB.out.cell (World.block_lt_of_cell? w _ hx347_2)).trans hx347_2; replace hx347_3 := (HB.out.cell (World.block_lt_of_cell? w _ hx347_3)).trans hx347_3; replace p347 := eq_true p347; replace q347 := eq_true q347; have p348 : 0 ≤ (0 : Int) := (by omega); have q348 : 0 < (l0.length : Int) := of_decide_eq_true (by assumption); obtain ⟨ad348, e348, hx348_0, hx348_1, hx348_2, hx348_3⟩ := at_T54 HR0.out 0 p348 q348; obtain rfl : ad347 = ad348 := (by injection e348); have qi348 : (0 < l0.length) = True := eq_true (by omega); (try rw [show ((0 : Int)).toNat = 0 from rfl] at hx348_0); (try rw [show 0 * 4 = 0 from rfl] at hx348_0); (try rw [Addr.add_zero'] at hx348_0); (try rw [show ((0 : Int)).toNat = 0 from rfl] at hx348_1); (try rw [show 0 * 4 = 0 from rfl] at hx348_1); (try rw [Addr.add_zero'] at hx348_1); (try rw [show ((0 : Int)).toNat = 0 from rfl] at hx348_2); (try rw [show 0 * 4 = 0 from rfl] at hx348_2); (try rw [Addr.add_zero'] at hx348_2); (try rw [show ((0 : Int)).toNat = 0 from rfl] at hx348_3); (try rw [show 0 * 4 = 0 from rfl] at hx348_3); (try rw [Addr.add_zero'] at hx348_3); replace hx348_0 := (HB.out.cell (World.block_lt_of_cell? w _ hx348_0)).trans hx348_0; replace hx348_1 := (HB.out.cell (World.block_lt_of_cell? w _ hx348_1)).trans hx348_1; replace hx348_2 := (HB.out.cell (World.block_lt_of_cell? w _ hx348_2)).trans hx348_2; replace hx348_3 := (HB.out.cell (World.block_lt_of_cell? w _ hx348_3)).trans hx348_3; replace p348 := eq_true p348; replace q348 := eq_true q348))
  (try simp only [Act.put, ZD, ZE, ZF])
  go_cut [42] (fun v42 wc => ∃ (kq : Nat) (x42_4 : Bool), v42 = .bool x42_4 ∧ Za (Zz.j0 kq l0 l1 (wrap64 ((Zb l0 0).f0)) (wrap64 ((Zb l0 0).f3)) (Int.tmod (wrap64 ((Zb l0 0).f0)) 8) (wrap64 (Int.tdiv (wrap64 ((Zb l0 0).f0)) 16)) 0 (wrap64 ((Zb l0 0).f3)) x42_4 a2_0 a2_1 l2_2 = some (r1, r2)) ∧ Za (kq ≤ k) ∧ Za (wc.heap[gb346]? = some (.cells #[.int .i64 a2_0, .int .i64 a2_1, (.slice A2_2 l2_2.length c2_2)] 98 (0, 0))) ∧ Za (Below w.heap.size w wc))
  case first =>
   have H := HC5.out
   clear HC5
   by_cases c7 : (Int.tmod (wrap64 ((Zb l0 0).f0)) 8) ≥ 4
   ·rw [if_pos c7] at H
    have c7b0 : decide (4 ≤ (Int.tmod (wrap64 ((Zb l0 0).f0)) 8)) = true := decide_eq_true c7
    clear c7
    (first | rw [c7b0] | (simp only [Zn, Zq]; rw [c7b0]) | skip)
    by_cases c8 : (Int.tmod (wrap64 ((Zb l0 0).f0)) 8) ≤ 6
    ·rw [if_pos c8] at H
     have c8b0 : decide ((Int.tmod (wrap64 ((Zb l0 0).f0)) 8) ≤ 6) = true := decide_eq_true c8
     clear c8
     have H' := Za.mk H
     clear H
     go_wp2
     go_meet
     case rel => exact ⟨_, (((Int.tmod (wrap64 (Int.tdiv (wrap64 ((Zb l0 0).f0)) 8)) 2) == 1)), (by first | rfl | (simp; done) | (simp [*]; done)), H', ⟨by first | omega | exact Nat.le_refl _⟩, ⟨by (with_reducible repeat (first | refine Zj ?_ _ | refine Zh ?_ | refine Zi ?_ _)); exact BK346.out⟩, ⟨by repeat (first | (with_reducible first | exact HB.out | apply Ze | apply Zf | apply Zd | refine Zk ?_ GE346.out) | exact HB.out)⟩⟩
    ·rw [if_neg c8] at H
     have c8b0 : decide ((Int.tmod (wrap64 ((Zb l0 0).f0)) 8) ≤ 6) = false := decide_eq_false c8
     clear c8
     have H' := Za.mk H
     clear H
     go_wp2
     go_meet
     case rel => exact ⟨_, (false), (by first | rfl | (simp; done) | (simp [*]; done)), H', ⟨by first | omega | exact Nat.le_refl _⟩, ⟨by (with_reducible repeat (first | refine Zj ?_ _ | refine Zh ?_ | refine Zi ?_ _)); exact BK346.out⟩, ⟨by repeat (first | (with_reducible first | exact HB.out | apply Ze | apply Zf | apply Zd | refine Zk ?_ GE346.out) | exact HB.out)⟩⟩
   ·rw [if_neg c7] at H
    have c7b0 : decide (4 ≤ (Int.tmod (wrap64 ((Zb l0 0).f0)) 8)) = false := decide_eq_false c7
    clear c7
    (first | rw [c7b0] | (simp only [Zn, Zq]; rw [c7b0]) | skip)
    have H' := Za.mk H
    clear H
    go_wp2
    go_meet
    case rel => exact ⟨_, (false), (by first | rfl | (simp; done) | (simp [*]; done)), H', ⟨by first | omega | exact Nat.le_refl _⟩, ⟨by (with_reducible repeat (first | refine Zj ?_ _ | refine Zh ?_ | refine Zi ?_ _)); exact BK346.out⟩, ⟨by repeat (first | (with_reducible first | exact HB.out | apply Ze | apply Zf | apply Zd | refine Zk ?_ GE346.out) | exact HB.out)⟩⟩
  case rest =>
   clear HC5
   try clear c1
   try clear c2
   try clear p2
   try clear p3
   try clear q3
   try clear hx3
   try clear qi3
   try clear c4
   try clear c4b0
   try clear c4b1
   try clear c5
   try clear p6
   try clear c7
   try clear c7b0
   try clear c8
   try clear c8b0
   try clear hx347_0
   try clear hx347_1
   try clear hx347_2
   try clear hx347_3
   try clear hx348_0
   try clear hx348_1
   try clear hx348_2
   try clear hx348_3
   try clear p347
   try clear p348
   try clear q347
   try clear q348
   obtain ⟨kq, x42_4, rfl, HA, HJ4, BK346, HB⟩ := hcut
   cases kq with
   | zero => exact absurd HA.out (by simp [Zz.j0])
   | succ kj4 =>
    have H := HA.out
    clear HA
    simp only [Zz.j0] at H
    have HC9 := Za.mk H
    clear H
    go_upto_if 42 with (fail)
    go_cut [13] (fun v13 wc => ∃ (kq : Nat) (x13_8 : Int), v13 = .int .i64 x13_8 ∧ Za (Zz.j1 kq l0 l1 (wrap64 ((Zb l0 0).f0)) (wrap64 ((Zb l0 0).f3)) (Int.tmod (wrap64 ((Zb l0 0).f0)) 8) (wrap64 (Int.tdiv (wrap64 ((Zb l0 0).f0)) 16)) 0 x13_8 a2_0 a2_1 l2_2 = some (r1, r2)) ∧ Za (kq ≤ kj4) ∧ Za (wc.heap[gb346]? = some (.cells #[.int .i64 a2_0, .int .i64 a2_1, (.slice A2_2 l2_2.length c2_2)] 98 (0, 0))) ∧ Za (Below w.heap.size w wc))
    case first =>
     have H := HC9.out
     clear HC9
     by_cases c10 : x42_4 = true
     ·subst c10
      have H1 : (Zz.j1 kj4 l0 l1 (wrap64 ((Zb l0 0).f0)) (wrap64 ((Zb l0 0).f3)) (Int.tmod (wrap64 ((Zb l0 0).f0)) 8) (wrap64 (Int.tdiv (wrap64 ((Zb l0 0).f0)) 16)) 0 a2_1 a2_0 a2_1 l2_2) = some (r1, r2) := by rw [if_pos rfl] at H; exact H
      clear H
      have H := H1
      clear H1
      have H' := Za.mk H
      clear H
      have hcz11_0 : wc.cell? ⟨gb346, 0, none⟩ = some (.int .i64 a2_0) := (Zg BK346.out 0).trans rfl
      have hcz11_1 : wc.cell? ⟨gb346, 1, none⟩ = some (.int .i64 a2_1) := (Zg BK346.out 1).trans rfl
      have hcz11_2 : wc.cell? ⟨gb346, 2, none⟩ = some (.slice A2_2 l2_2.length c2_2) := (Zg BK346.out 2).trans rfl
      have hfz11_0 := Zl BK346.out 0
      have hfz11_1 := Zl BK346.out 1
      have hfz11_2 := Zl BK346.out 2
      go_wp2
      go_meet
      case rel => exact ⟨_, (a2_1), (by first | rfl | (simp; done) | (simp [*]; done)), H', ⟨by have := HJ4.out; first | omega | exact Nat.le_refl _⟩, ⟨by (with_reducible repeat (first | refine Zj ?_ _ | refine Zh ?_ | refine Zi ?_ _)); exact BK346.out⟩, ⟨by repeat (first | (with_reducible first | exact HB.out | apply Ze | apply Zf | apply Zd | refine Zk ?_ GE346.out) | exact HB.out)⟩⟩
     ·replace c10 := Bool.eq_false_iff.mpr c10
      subst c10
      have H1 : (Zz.j1 kj4 l0 l1 (wrap64 ((Zb l0 0).f0)) (wrap64 ((Zb l0 0).f3)) (Int.tmod (wrap64 ((Zb l0 0).f0)) 8) (wrap64 (Int.tdiv (wrap64 ((Zb l0 0).f0)) 16)) 0 (wrap64 ((Zb l0 0).f3)) a2_0 a2_1 l2_2) = some (r1, r2) := by rw [if_neg (show ¬ (false = true) by decide)] at H; exact H
      clear H
      have H := H1
      clear H1
      have H' := Za.mk H
      clear H
      go_wp2
      go_meet
      case rel => exact ⟨_, ((wrap64 ((Zb l0 0).f3))), (by first | rfl | (simp; done) | (simp [*]; done)), H', ⟨by have := HJ4.out; first | omega | exact Nat.le_refl _⟩, ⟨by (with_reducible repeat (first | refine Zj ?_ _ | refine Zh ?_ | refine Zi ?_ _)); exact BK346.out⟩, ⟨by repeat (first | (with_reducible first | exact HB.out | apply Ze | apply Zf | apply Zd | refine Zk ?_ GE346.out) | exact HB.out)⟩⟩
    case rest =>
     clear HC9
     try clear c1
     try clear c2
     try clear p2
     try clear p3
     try clear q3
     try clear hx3
     try clear qi3
     try clear c4
     try clear c4b0
     try clear c4b1
     try clear c5
     try clear p6
     try clear c7
     try clear c7b0
     try clear c8
     try clear c8b0
     try clear c10
     try clear hcz11_0
     try clear hcz11_1
     try clear hcz11_2
     try clear hfz11_0
     try clear hfz11_1
     try clear hfz11_2
     try clear hx347_0
     try clear hx347_1
     try clear hx347_2
     try clear hx347_3
     try clear hx348_0
     try clear hx348_1
     try clear hx348_2
     try clear hx348_3
     try clear p2
     try clear p3
     try clear p347
     try clear p348
     try clear p6
     try clear q3
     try clear q347
     try clear q348
     obtain ⟨kq, x13_8, rfl, HA, HJ8, BK346, HB⟩ := hcut
     cases kq with
     | zero => exact absurd HA.out (by simp [Zz.j1])
     | succ kj8 =>
      have H := HA.out
      clear HA
      simp only [Zz.j1] at H
      by_cases c12 : (Int.tmod (wrap64 ((Zb l0 0).f0)) 8) = 6
      ·rw [if_pos c12] at H
       have c12b0 : ((Int.tmod (wrap64 ((Zb l0 0).f0)) 8) == 6) = true := beq_iff_eq.mpr c12
       have c12b1 : ((Int.tmod (wrap64 ((Zb l0 0).f0)) 8) != 6) = false := bne_eq_false_iff_eq.mpr c12
       clear c12
       by_cases c13 : (wrap64 (Int.tdiv (wrap64 ((Zb l0 0).f0)) 16)) = 1
       ·rw [if_pos c13] at H
        have c13b0 : ((wrap64 (Int.tdiv (wrap64 ((Zb l0 0).f0)) 16)) == 1) = true := beq_iff_eq.mpr c13
        have c13b1 : ((wrap64 (Int.tdiv (wrap64 ((Zb l0 0).f0)) 16)) != 1) = false := bne_eq_false_iff_eq.mpr c13
        clear c13
        simp only [Option.some.injEq, Prod.mk.injEq] at H
        obtain ⟨rfl, rfl⟩ := H
        have hcz14_0 : wc.cell? ⟨gb346, 0, none⟩ = some (.int .i64 a2_0) := (Zg BK346.out 0).trans rfl
        have hcz14_1 : wc.cell? ⟨gb346, 1, none⟩ = some (.int .i64 a2_1) := (Zg BK346.out 1).trans rfl
        have hcz14_2 : wc.cell? ⟨gb346, 2, none⟩ = some (.slice A2_2 l2_2.length c2_2) := (Zg BK346.out 2).trans rfl
        have hfz14_0 := Zl BK346.out 0
        have hfz14_1 := Zl BK346.out 1
        have hfz14_2 := Zl BK346.out 2
        go_wp2
        go_ret2
        exact ⟨by first | rfl | (simp [Zo, Zp] <;> rfl) | (simp [*, Zo, Zp] <;> rfl), by repeat (first | (with_reducible first | exact HB.out | apply Ze | apply Zf | apply Zd | refine Zk ?_ GE346.out) | exact HB.out)⟩
       ·rw [if_neg c13] at H
        have c13b0 : ((wrap64 (Int.tdiv (wrap64 ((Zb l0 0).f0)) 16)) == 1) = false := beq_eq_false_iff_ne.mpr c13
        have c13b1 : ((wrap64 (Int.tdiv (wrap64 ((Zb l0 0).f0)) 16)) != 1) = true := bne_iff_ne.mpr c13
        simp only [Option.some.injEq, Prod.mk.injEq] at H
        obtain ⟨rfl, rfl⟩ := H
        go_wp2
        go_ret2
        exact ⟨by first | rfl | (simp [Zo, Zp] <;> rfl) | (simp [*, Zo, Zp] <;> rfl), by repeat (first | (with_reducible first | exact HB.out | apply Ze | apply Zf | apply Zd | refine Zk ?_ GE346.out) | exact HB.out)⟩
      ·rw [if_neg c12] at H
       have c12b0 : ((Int.tmod (wrap64 ((Zb l0 0).f0)) 8) == 6) = false := beq_eq_false_iff_ne.mpr c12
       have c12b1 : ((Int.tmod (wrap64 ((Zb l0 0).f0)) 8) != 6) = true := bne_iff_ne.mpr c12
       by_cases c15 : (Int.tmod (wrap64 ((Zb l0 0).f0)) 8) = 4
       ·rw [if_pos c15] at H
        have c15b0 : ((Int.tmod (wrap64 ((Zb l0 0).f0)) 8) == 4) = true := beq_iff_eq.mpr c15
        have c15b1 : ((Int.tmod (wrap64 ((Zb l0 0).f0)) 8) != 4) = false := bne_eq_false_iff_eq.mpr c15
        clear c15
        have HC16 := Za.mk H
        clear H
        go_upto_region 14 with (fail)
        go_cut [59] (fun v59 wc => ∃ (kq : Nat) (x59_15 : Bool), v59 = .bool x59_15 ∧ Za (Zz.j2 kq l0 l1 (wrap64 (Int.tdiv (wrap64 ((Zb l0 0).f0)) 16)) 0 x13_8 x59_15 a2_0 a2_1 l2_2 = some (r1, r2)) ∧ Za (kq ≤ kj8) ∧ Za (wc.heap[gb346]? = some (.cells #[.int .i64 a2_0, .int .i64 a2_1, (.slice A2_2 l2_2.length c2_2)] 98 (0, 0))) ∧ Za (Below w.heap.size w wc))
        case first =>
         have H := HC16.out
         clear HC16
         by_cases c17 : (wrap64 (Int.tdiv (wrap64 ((Zb l0 0).f0)) 16)) = 3
         ·rw [if_pos c17] at H
          have c17b0 : ((wrap64 (Int.tdiv (wrap64 ((Zb l0 0).f0)) 16)) == 3) = true := beq_iff_eq.mpr c17
          have c17b1 : ((wrap64 (Int.tdiv (wrap64 ((Zb l0 0).f0)) 16)) != 3) = false := bne_eq_false_iff_eq.mpr c17
          clear c17
          (first | rw [c17b0] | (simp only [Zn, Zq]; rw [c17b0]) | skip)
          have H' := Za.mk H
          clear H
          go_wp2
          go_meet
          case rel => exact ⟨_, ((x13_8 == 0)), (by first | rfl | (simp; done) | (simp [*]; done)), H', ⟨by have := HJ4.out; have := HJ8.out; first | omega | exact Nat.le_refl _⟩, ⟨by (with_reducible repeat (first | refine Zj ?_ _ | refine Zh ?_ | refine Zi ?_ _)); exact BK346.out⟩, ⟨by repeat (first | (with_reducible first | exact HB.out | apply Ze | apply Zf | apply Zd | refine Zk ?_ GE346.out) | exact HB.out)⟩⟩
         ·rw [if_neg c17] at H
          have c17b0 : ((wrap64 (Int.tdiv (wrap64 ((Zb l0 0).f0)) 16)) == 3) = false := beq_eq_false_iff_ne.mpr c17
          have c17b1 : ((wrap64 (Int.tdiv (wrap64 ((Zb l0 0).f0)) 16)) != 3) = true := bne_iff_ne.mpr c17
          (first | rw [c17b0] | (simp only [Zn, Zq]; rw [c17b0]) | skip)
          have H' := Za.mk H
          clear H
          go_wp2
          go_meet
          case rel => exact ⟨_, (false), (by first | rfl | (simp; done) | (simp [*]; done)), H', ⟨by have := HJ4.out; have := HJ8.out; first | omega | exact Nat.le_refl _⟩, ⟨by (with_reducible repeat (first | refine Zj ?_ _ | refine Zh ?_ | refine Zi ?_ _)); exact BK346.out⟩, ⟨by repeat (first | (with_reducible first | exact HB.out | apply Ze | apply Zf | apply Zd | refine Zk ?_ GE346.out) | exact HB.out)⟩⟩
        case rest =>
         clear HC16
         try clear c1
         try clear c2
         try clear p2
         try clear p3
         try clear q3
         try clear hx3
         try clear qi3
         try clear c4
         try clear c4b0
         try clear c4b1
         try clear c5
         try clear p6
         try clear c7
         try clear c7b0
         try clear c8
         try clear c8b0
         try clear c10
         try clear c12
         try clear c12b0
         try clear c12b1
         try clear c13
         try clear c13b0
         try clear c13b1
         try clear c15
         try clear c15b0
         try clear c15b1
         try clear c17
         try clear c17b0
         try clear c17b1
         try clear hcz11_0
         try clear hcz11_1
         try clear hcz11_2
         try clear hcz14_0
         try clear hcz14_1
         try clear hcz14_2
         try clear hfz11_0
         try clear hfz11_1
         try clear hfz11_2
         try clear hfz14_0
         try clear hfz14_1
         try clear hfz14_2
         try clear hx347_0
         try clear hx347_1
         try clear hx347_2
         try clear hx347_3
         try clear hx348_0
         try clear hx348_1
         try clear hx348_2
         try clear hx348_3
         try clear p2
         try clear p3
         try clear p347
         try clear p348
         try clear p6
         try clear q3
         try clear q347
         try clear q348
         obtain ⟨kq, x59_15, rfl, HA, HJ15, BK346, HB⟩ := hcut
         cases kq with
         | zero => exact absurd HA.out (by simp [Zz.j2])
         | succ kj15 =>
          have H := HA.out
          clear HA
          simp only [Zz.j2] at H
          by_cases c18 : x59_15 = true
          ·subst c18
           have H1 : (some (2147483648, 1)) = some (r1, r2) := by rw [if_pos rfl] at H; exact H
           clear H
           have H := H1
           clear H1
           simp only [Option.some.injEq, Prod.mk.injEq] at H
           obtain ⟨rfl, rfl⟩ := H
           go_wp2
           go_ret2
           exact ⟨by first | rfl | (simp [Zo, Zp] <;> rfl) | (simp [*, Zo, Zp] <;> rfl), by repeat (first | (with_reducible first | exact HB.out | apply Ze | apply Zf | apply Zd | refine Zk ?_ GE346.out) | exact HB.out)⟩
          ·replace c18 := Bool.eq_false_iff.mpr c18
           subst c18
           have H1 : ((Zbk.f kj15 (wrap64 (Int.tdiv (wrap64 ((Zb l0 0).f0)) 16)) a2_0 x13_8).bind fun t349 => (if 0 ≤ (wrap64 1) then (if (wrap64 1) ≤ (l0.length : Int) then ((Zz.f kj15 (l0.drop ((wrap64 1) : Int).toNat) l1 t349 a2_1 l2_2).bind fun bt354 => (some (bt354.1, wrap64 (bt354.2 + 1)))) else (none)) else (none))) = some (r1, r2) := by rw [if_neg (show ¬ (false = true) by decide)] at H; exact H
           clear H
           have H := H1
           clear H1
           replace H := Option.bind_eq_some_iff.mp H
           obtain ⟨t349, A190, H⟩ := H
           (try dsimp only at H)
           have A19 := Za.mk A190
           clear A190
           obtain ⟨ji20, hji20⟩ : ∃ j_ : Int, (wrap64 1) = j_ := ⟨_, rfl⟩
           replace H : (if 0 ≤ (ji20) then (if (ji20) ≤ (l0.length : Int) then ((Zz.f kj15 (l0.drop ((ji20) : Int).toNat) l1 t349 a2_1 l2_2).bind fun bt354 => (some (bt354.1, wrap64 (bt354.2 + 1)))) else (none)) else (none)) = some (r1, r2) := by first | (rw [hji20] at H; exact H) | (rw [show ((1 : Int) + 0) = 1 from rfl, hji20] at H; exact H) | (simp only [hji20] at H ⊢; exact H)
           (try rw [hji20] at A19)
           have hji20w : (IntKind.i64.wrap 1) = ji20 := (Zn _).trans hji20
           by_cases c21 : 0 ≤ (ji20)
           ·rw [if_pos c21] at H
            have c21b0 := eq_true c21
            have c21b1 : decide (0 ≤ (ji20)) = true := decide_eq_true c21
            clear c21
            by_cases c22 : (ji20) ≤ (l0.length : Int)
            ·rw [if_pos c22] at H
             have c22b0 := eq_true c22
             have c22b1 : decide ((ji20) ≤ (l0.length : Int)) = true := decide_eq_true c22
             clear c22
             obtain ⟨y350, hy350⟩ : ∃ y_ : List (S54), y_ = (l0.drop ((ji20) : Int).toNat) := ⟨_, rfl⟩
             replace H : ((Zz.f kj15 y350 l1 t349 a2_1 l2_2).bind fun bt354 => (some (bt354.1, wrap64 (bt354.2 + 1)))) = some (r1, r2) := by first | (rw [hy350]; with_reducible exact H) | (have H2_ := (Option.bind_some _ _).symm.trans H; rw [hy350]; with_reducible exact H2_) | (have H2_ := (Option.bind_some _ _).symm.trans H; with_reducible exact H2_) | with_reducible exact H | (rw [hy350]; exact H) | exact H
             have Ny350 := Za.mk hy350
             clear hy350
             replace H := Option.bind_eq_some_iff.mp H
             obtain ⟨⟨t354, t355⟩, A230, H⟩ := H
             (try dsimp only at H)
             have A23 := Za.mk A230
             clear A230
             simp only [Option.some.injEq, Prod.mk.injEq] at H
             obtain ⟨rfl, rfl⟩ := H
             have hcz24_0 : wc.cell? ⟨gb346, 0, none⟩ = some (.int .i64 a2_0) := (Zg BK346.out 0).trans rfl
             have hcz24_1 : wc.cell? ⟨gb346, 1, none⟩ = some (.int .i64 a2_1) := (Zg BK346.out 1).trans rfl
             have hcz24_2 : wc.cell? ⟨gb346, 2, none⟩ = some (.slice A2_2 l2_2.length c2_2) := (Zg BK346.out 2).trans rfl
             have hfz24_0 := Zl BK346.out 0
             have hfz24_1 := Zl BK346.out 1
             have hfz24_2 := Zl BK346.out 2
             try go_wp2_with (first | ((with_reducible refine Zaf (f := 65) rfl ?_); refine Zae (some 64) rfl rfl Try.func65 (by kernel_rfl) rfl #[.int .i64 (wrap64 (Int.tdiv (wrap64 ((Zb l0 0).f0)) 16)), .int .i64 a2_0, .int .i64 x13_8] rfl (by (try simp only [ZA, ZB, ZC]); first | done | rfl | (simp only [List.length_drop, List.length_take]; rfl)) ?_; (with_reducible refine (Zbk.calls kj15 (wrap64 (Int.tdiv (wrap64 ((Zb l0 0).f0)) 16)) a2_0 x13_8 t349 _ A19.out).mono ?_); rintro e w' ⟨rfl, ⟨nd, rfl⟩⟩; refine ⟨_, rfl, ?_⟩; (try (rw [drewN_self wc]; generalize hq_ : World.drewN wc _ = wc; have n0_ : Za (wc.heap[gb346]? = some (.cells #[.int .i64 a2_0, .int .i64 a2_1, .slice A2_2 l2_2.length c2_2] 98 (0, 0))) := ⟨by rw [← hq_]; exact (by (with_reducible repeat (first | refine Zj ?_ _ | refine Zh ?_ | refine Zi ?_ _)); exact BK346.out)⟩; have n1_ : Za (Below w.heap.size w wc) := ⟨by rw [← hq_]; exact (by repeat (first | (with_reducible first | exact HB.out | apply Ze | apply Zf | apply Zd | refine Zk ?_ GE346.out) | exact HB.out))⟩; clear BK346 HB hq_; have BK346 := n0_; have HB := n1_; clear n0_ n1_)); have hcz24_0 : wc.cell? ⟨gb346, 0, none⟩ = some (.int .i64 a2_0) := (Zg BK346.out 0).trans rfl; have hcz24_1 : wc.cell? ⟨gb346, 1, none⟩ = some (.int .i64 a2_1) := (Zg BK346.out 1).trans rfl; have hcz24_2 : wc.cell? ⟨gb346, 2, none⟩ = some (.slice A2_2 l2_2.length c2_2) := (Zg BK346.out 2).trans rfl; have hfz24_0 := Zl BK346.out 0; have hfz24_1 := Zl BK346.out 1; have hfz24_2 := Zl BK346.out 2))
             have n0_ : Za ((wc.setCell ⟨gb346, 0, none⟩ (.int .i64 t349)).heap[gb346]? = some (.cells #[.int .i64 t349, .int .i64 a2_1, .slice A2_2 l2_2.length c2_2] 98 (0, 0))) := ⟨by (with_reducible repeat (first | refine Zj ?_ _ | refine Zh ?_ | refine Zi ?_ _)); refine Zu (cs := #[.int .i64 a2_0, .int .i64 a2_1, .slice A2_2 l2_2.length c2_2]) ?_ 0 _ rfl; (with_reducible repeat (first | refine Zj ?_ _ | refine Zh ?_ | refine Zi ?_ _)); exact BK346.out⟩
             have n1_ : Za (Below w.heap.size w (wc.setCell ⟨gb346, 0, none⟩ (.int .i64 t349))) := ⟨by repeat (first | (with_reducible first | exact HB.out | apply Ze | apply Zf | apply Zd | refine Zk ?_ GE346.out) | exact HB.out)⟩
             (try clear BK346)
             (try clear HB)
             generalize (wc.setCell ⟨gb346, 0, none⟩ (.int .i64 t349)) = w25 at n0_ n1_ ⊢
             have BK346 := n0_
             have HB := n1_
             clear n0_ n1_
             replace BK346 := Za.mk (Zh BK346.out)
             replace HB := Za.mk (Zd HB.out)
             have q27 : ((ji20) : Int) ≤ ((l0.length : Int) : Int) := of_decide_eq_true (by assumption)
             obtain ⟨i027, hi027, _, hsz27, _⟩ := info_parts info54
             have hroom27 : l0.length ≤ c0 := HC0.out
             have hC27 : Kd.C k54 _ (some ad347) l0.length l0 := HR0.out
             have q027 : (0 : Int) ≤ ((ji20) : Int) := of_decide_eq_true (by assumption)
             have hcut27 := cut_from (P := Try.prog) 23 54 .i64 Try.underlying23 hi027 4 hsz27 (some ad347) l0.length c0 (ji20) q027 q27
             have hr27 := Kd.C_drop (m := ((ji20) : Int).toNat) (c := c0) hC27 (by omega) hroom27
             obtain ⟨A27, hA27⟩ : ∃ A1, A1 = (if c0 = ((ji20) : Int).toNat then (some ad347) else ((some ad347) : Option Addr).map (·.add (((ji20) : Int).toNat * 4))) := ⟨_, rfl⟩
             obtain ⟨c27, hc27⟩ : ∃ c1, c1 = c0 - ((ji20) : Int).toNat := ⟨_, rfl⟩
             have hy27 : y350.length = l0.length - ((ji20) : Int).toNat := (by rw [Ny350.out, List.length_drop] <;> omega)
             rw [show (l0).drop ((ji20) : Int).toNat = y350 from Ny350.out.symm] at hr27
             replace hr27 : Kd.C k54 _ A27 y350.length y350 := (by rw [hA27]; exact hr27)
             rw [← hy27, ← hA27, ← hc27] at hcut27
             have HR353 := Za.mk hr27
             have HC353 := Za.mk (show y350.length ≤ c27 from by rw [hy27, hc27]; exact Nat.sub_le_sub_right hroom27 _)
             clear hr27 hC27 hroom27 hi027 hsz27 hc27
             have KY27 := Za.mk hy27
             have KA27 := Za.mk hA27
             clear hy27 hA27
             replace q27 := eq_true q27
             refine start_ (n := 12) (S := fun w' => w'.cell? ⟨gb346, 0, none⟩ = some (.int .i64 t349) ∧ w'.cell? ⟨gb346, 1, none⟩ = some (.int .i64 a2_1) ∧ w'.cell? ⟨gb346, 2, none⟩ = some (.slice A2_2 l2_2.length c2_2)) (ds := []) #[false, false, false, false, false, false, false, false, false, false, false, false] (by kernel_rfl) rfl rfl ⟨(Zg BK346.out 0).trans rfl, (Zg BK346.out 1).trans rfl, (Zg BK346.out 2).trans rfl⟩ (fun hHeld => ?_); refine with_tabW Zz.tab40 Zz.bits40 (fun HT_ HW_ => ?_)
             generalize w25.drew = w26 at BK346 HB HR353 hHeld ⊢
             refine Zx (i := 0) (N := some 143) (v := ?_) (a' := ?_) #[true, false, false, false, false, false, false, false, false, false, false, false] rfl rfl (Zy HT_.out (by kernel_rfl)) (fun _ _ _ h => h) (Or.inl ⟨by rfl, ?_⟩) ?_ ?_
             rotate_left
             ·intro w'
              go_simp
              with_reducible rfl
             rotate_left
             ·simp only [Act.put, ZD, ZE, ZF, Zn, Zq]
              rfl
             refine Zx (i := 1) (N := some 144) (v := ?_) (a' := ?_) #[true, true, false, false, false, false, false, false, false, false, false, false] rfl rfl (Zy HT_.out (by kernel_rfl)) (fun _ _ _ h => h) (Or.inl ⟨by rfl, ?_⟩) ?_ ?_
             rotate_left
             ·intro w'
              go_simp
              with_reducible rfl
             rotate_left
             ·simp only [Act.put, ZD, ZE, ZF, Zn, Zq]
              rfl
             refine Zx (i := 2) (N := some 145) (v := ?_) (a' := ?_) #[true, true, true, false, false, false, false, false, false, false, false, false] rfl rfl (Zy HT_.out (by kernel_rfl)) (fun _ _ _ h => h) (Or.inl ⟨by rfl, ?_⟩) ?_ ?_
             rotate_left
             ·intro w'
              go_simp
              with_reducible rfl
             rotate_left
             ·simp only [Act.put, ZD, ZE, ZF, Zn, Zq]
              rfl
             refine Zx (i := 3) (N := some 146) (v := ?_) (a' := ?_) #[true, true, true, true, false, false, false, false, false, false, false, false] rfl rfl (Zy HT_.out (by kernel_rfl)) (fun _ _ _ h => h) (Or.inl ⟨by rfl, ?_⟩) ?_ ?_
             rotate_left
             ·intro w'
              go_simp
              with_reducible rfl
             rotate_left
             ·simp only [Act.put, ZD, ZE, ZF, Zn, Zq]
              rfl
             refine Zx (i := 4) (N := some 147) (v := ?_) (a' := ?_) #[true, true, true, true, true, false, false, false, false, false, false, false] rfl rfl (Zy HT_.out (by kernel_rfl)) (fun _ _ _ h => h) (Or.inl ⟨by rfl, ?_⟩) ?_ ?_
             rotate_left
             ·intro w'
              go_simp
              with_reducible rfl
             rotate_left
             ·simp only [Act.put, ZD, ZE, ZF, Zn, Zq]
              rfl
             refine take_ (i := 5) (N := some 148) (v := ?_) (a' := ?_) #[true, true, true, true, true, true, false, false, false, false, false, false] rfl rfl (take_ofW HT_.out HW_.out (by kernel_rfl)) (fun _ _ _ h => h) (Or.inl ⟨by rfl, ?_⟩) hHeld ?_ ?_
             rotate_left
             ·rintro w' ⟨s0, s1, s2⟩
              go_simp
              with_reducible rfl
             rotate_left
             ·simp only [Act.put, ZD, ZE, ZF, Zn, Zq]
              rfl
             refine one_ (i := 6) (N := some 149) #[true, true, true, true, true, true, true, false, false, false, false, false] rfl rfl (one_of HT_.out (by kernel_rfl)) (by decide) (fun K hK => ?_)
             refine goes_ Try.func54 (by kernel_rfl) rfl #[.slice A27 y350.length c27, .slice A1 l1.length c1, .agg #[.int .i64 t349, .int .i64 a2_1, .slice A2_2 l2_2.length c2_2]] (by rfl) rfl rfl (by (try simp only [ZA, ZB, ZC]); first | done | rfl | (simp only [List.length_drop, List.length_take]; rfl)) ?_
             with_reducible refine (ih kj15 (by have := HJ4.out; have := HJ8.out; have := HJ15.out; omega) _ _ y350 _ _ l1 t349 a2_1 _ _ l2_2 t354 t355 _ ?side1 ?side2 ?side3 ?side4 ?side5 ?side6 A23.out).mono ?_
             (case side1 => repeat (first | exact (Kd.Zaw HR353.out HB.out) | (with_reducible refine Kd.Zam ?_ _) | (with_reducible refine Kd.Zao ?_ _) | (with_reducible refine Kd.Zan ?_)))
             (case side2 => exact HC353.out)
             (case side3 => repeat (first | exact (Kd.Zaw HR1.out HB.out) | (with_reducible refine Kd.Zam ?_ _) | (with_reducible refine Kd.Zao ?_ _) | (with_reducible refine Kd.Zan ?_)))
             (case side4 => exact HC1.out)
             (case side5 => repeat (first | exact (Kd.Zaw HR2_2.out HB.out) | (with_reducible refine Kd.Zam ?_ _) | (with_reducible refine Kd.Zao ?_ _) | (with_reducible refine Kd.Zan ?_)))
             (case side6 => exact HC2_2.out)
             rintro e w28 ⟨rfl, hb⟩
             refine ⟨_, rfl, ?_⟩
             replace BK346 := Za.mk (Zbd (g := gb346) (o := .cells #[.int .i64 t349, .int .i64 a2_1, .slice A2_2 l2_2.length c2_2] 98 (0, 0)) (by (with_reducible repeat (first | refine Zj ?_ _ | refine Zh ?_ | refine Zi ?_ _)); exact BK346.out) hb)
             replace HB := Za.mk (Zai (by repeat (first | (with_reducible first | exact HB.out | apply Ze | apply Zf | apply Zd | refine Zk ?_ GE346.out) | exact HB.out)) hb)
             (try clear hb)
             (try clear hb2)
             (try clear hk)
             (try clear hi)
             refine hK.out _ _ ⟨(Zg BK346.out 0).trans rfl, (Zg BK346.out 1).trans rfl, (Zg BK346.out 2).trans rfl⟩ (fun hHeld => ?_)
             clear hK K
             refine norm_ (a' := ?_) ?_ ?_
             rotate_left
             ·show Act.put _ (some 149) _ = _
              simp only [Act.put, ZD, ZE, ZF, Zn, Zq]
              rfl
             refine Zx (i := 7) (N := some 142) (v := ?_) (a' := ?_) #[true, true, true, true, true, true, true, true, false, false, false, false] rfl rfl (Zy HT_.out (by kernel_rfl)) (fun _ _ _ h => h) (Or.inl ⟨by rfl, ?_⟩) ?_ ?_
             rotate_left
             ·intro w'
              go_simp
              with_reducible rfl
             rotate_left
             ·simp only [Act.put, ZD, ZE, ZF, Zn, Zq]
              rfl
             refine Zx (i := 8) (N := some 150) (v := ?_) (a' := ?_) #[true, true, true, true, true, true, true, true, true, false, false, false] rfl rfl (Zy HT_.out (by kernel_rfl)) (fun _ _ _ h => h) (Or.inl ⟨by rfl, ?_⟩) ?_ ?_
             rotate_left
             ·intro w'
              go_simp
              with_reducible rfl
             rotate_left
             ·simp only [Act.put, ZD, ZE, ZF, Zn, Zq]
              rfl
             refine Zx (i := 9) (N := some 151) (v := ?_) (a' := ?_) #[true, true, true, true, true, true, true, true, true, true, false, false] rfl rfl (Zy HT_.out (by kernel_rfl)) (fun _ _ _ h => h) (Or.inl ⟨by rfl, ?_⟩) ?_ ?_
             rotate_left
             ·intro w'
              go_simp
              with_reducible rfl
             rotate_left
             ·simp only [Act.put, ZD, ZE, ZF, Zn, Zq]
              rfl
             refine Zx (i := 10) (N := some 14) (v := ?_) (a' := ?_) #[true, true, true, true, true, true, true, true, true, true, true, false] rfl rfl (Zy HT_.out (by kernel_rfl)) (fun _ _ _ h => h) (Or.inl ⟨by rfl, ?_⟩) ?_ ?_
             rotate_left
             ·intro w'
              go_simp
              with_reducible rfl
             rotate_left
             ·simp only [Act.put, ZD, ZE, ZF, Zn, Zq]
              rfl
             refine Zx (i := 11) (N := some 15) (v := ?_) (a' := ?_) #[true, true, true, true, true, true, true, true, true, true, true, true] rfl rfl (Zy HT_.out (by kernel_rfl)) (fun _ _ _ h => h) (Or.inl ⟨by rfl, ?_⟩) ?_ ?_
             rotate_left
             ·intro w'
              go_simp
              with_reducible rfl
             rotate_left
             ·simp only [Act.put, ZD, ZE, ZF, Zn, Zq]
              rfl
             refine done_ (done_of HT_.out (by kernel_rfl)) ?_
             try go_wp2
             go_ret2
             exact ⟨by first | rfl | (simp [Zo, Zp] <;> rfl) | (simp only [← hji20]; first | rfl | (simp [Zo, Zp] <;> rfl)) | (simp [*, Zo, Zp] <;> rfl), by repeat (first | (with_reducible first | exact HB.out | apply Ze | apply Zf | apply Zd | refine Zk ?_ GE346.out) | exact HB.out)⟩
            ·rw [if_neg c22] at H
             exact absurd H (by simp)
           ·rw [if_neg c21] at H
            exact absurd H (by simp)
       ·rw [if_neg c15] at H
        have c15b0 : ((Int.tmod (wrap64 ((Zb l0 0).f0)) 8) == 4) = false := beq_eq_false_iff_ne.mpr c15
        have c15b1 : ((Int.tmod (wrap64 ((Zb l0 0).f0)) 8) != 4) = true := bne_iff_ne.mpr c15
        by_cases c29 : (wrap64 ((Zb l0 0).f0)) = 5
        ·rw [if_pos c29] at H
         have c29b0 : ((wrap64 ((Zb l0 0).f0)) == 5) = true := beq_iff_eq.mpr c29
         have c29b1 : ((wrap64 ((Zb l0 0).f0)) != 5) = false := bne_eq_false_iff_eq.mpr c29
         clear c29
         obtain ⟨ji30, hji30⟩ : ∃ j_ : Int, (wrap64 (1 + (wrap64 ((Zb l0 0).f3)))) = j_ := ⟨_, rfl⟩
         replace H : (if 0 ≤ (ji30) then (if (ji30) ≤ (l0.length : Int) then ((Zz.f kj8 (l0.drop ((ji30) : Int).toNat) l1 a2_0 a2_1 l2_2).bind fun bt360 => (some (bt360.1, wrap64 (bt360.2 + 1)))) else (none)) else (none)) = some (r1, r2) := by first | (rw [hji30] at H; exact H) | (rw [show ((1 : Int) + 0) = 1 from rfl, hji30] at H; exact H) | (simp only [hji30] at H ⊢; exact H)
         have hji30w : (IntKind.i64.wrap (1 + (wrap64 ((Zb l0 0).f3)))) = ji30 := (Zn _).trans hji30
         by_cases c31 : 0 ≤ (ji30)
         ·rw [if_pos c31] at H
          have c31b0 := eq_true c31
          have c31b1 : decide (0 ≤ (ji30)) = true := decide_eq_true c31
          clear c31
          by_cases c32 : (ji30) ≤ (l0.length : Int)
          ·rw [if_pos c32] at H
           have c32b0 := eq_true c32
           have c32b1 : decide ((ji30) ≤ (l0.length : Int)) = true := decide_eq_true c32
           clear c32
           obtain ⟨y356, hy356⟩ : ∃ y_ : List (S54), y_ = (l0.drop ((ji30) : Int).toNat) := ⟨_, rfl⟩
           replace H : ((Zz.f kj8 y356 l1 a2_0 a2_1 l2_2).bind fun bt360 => (some (bt360.1, wrap64 (bt360.2 + 1)))) = some (r1, r2) := by first | (rw [hy356]; with_reducible exact H) | (have H2_ := (Option.bind_some _ _).symm.trans H; rw [hy356]; with_reducible exact H2_) | (have H2_ := (Option.bind_some _ _).symm.trans H; with_reducible exact H2_) | with_reducible exact H | (rw [hy356]; exact H) | exact H
           have Ny356 := Za.mk hy356
           clear hy356
           replace H := Option.bind_eq_some_iff.mp H
           obtain ⟨⟨t360, t361⟩, A330, H⟩ := H
           (try dsimp only at H)
           have A33 := Za.mk A330
           clear A330
           simp only [Option.some.injEq, Prod.mk.injEq] at H
           obtain ⟨rfl, rfl⟩ := H
           try go_wp2
           replace BK346 := Za.mk (Zh BK346.out)
           replace HB := Za.mk (Zd HB.out)
           have q35 : ((ji30) : Int) ≤ ((l0.length : Int) : Int) := of_decide_eq_true (by assumption)
           obtain ⟨i035, hi035, _, hsz35, _⟩ := info_parts info54
           have hroom35 : l0.length ≤ c0 := HC0.out
           have hC35 : Kd.C k54 _ (some ad347) l0.length l0 := HR0.out
           have q035 : (0 : Int) ≤ ((ji30) : Int) := of_decide_eq_true (by assumption)
           have hcut35 := cut_from (P := Try.prog) 23 54 .i64 Try.underlying23 hi035 4 hsz35 (some ad347) l0.length c0 (ji30) q035 q35
           have hr35 := Kd.C_drop (m := ((ji30) : Int).toNat) (c := c0) hC35 (by omega) hroom35
           obtain ⟨A35, hA35⟩ : ∃ A1, A1 = (if c0 = ((ji30) : Int).toNat then (some ad347) else ((some ad347) : Option Addr).map (·.add (((ji30) : Int).toNat * 4))) := ⟨_, rfl⟩
           obtain ⟨c35, hc35⟩ : ∃ c1, c1 = c0 - ((ji30) : Int).toNat := ⟨_, rfl⟩
           have hy35 : y356.length = l0.length - ((ji30) : Int).toNat := (by rw [Ny356.out, List.length_drop] <;> omega)
           rw [show (l0).drop ((ji30) : Int).toNat = y356 from Ny356.out.symm] at hr35
           replace hr35 : Kd.C k54 _ A35 y356.length y356 := (by rw [hA35]; exact hr35)
           rw [← hy35, ← hA35, ← hc35] at hcut35
           have HR359 := Za.mk hr35
           have HC359 := Za.mk (show y356.length ≤ c35 from by rw [hy35, hc35]; exact Nat.sub_le_sub_right hroom35 _)
           clear hr35 hC35 hroom35 hi035 hsz35 hc35
           have KY35 := Za.mk hy35
           have KA35 := Za.mk hA35
           clear hy35 hA35
           replace q35 := eq_true q35
           refine start_ (n := 12) (S := fun w' => w'.cell? ⟨gb346, 0, none⟩ = some (.int .i64 a2_0) ∧ w'.cell? ⟨gb346, 1, none⟩ = some (.int .i64 a2_1) ∧ w'.cell? ⟨gb346, 2, none⟩ = some (.slice A2_2 l2_2.length c2_2)) (ds := []) #[false, false, false, false, false, false, false, false, false, false, false, false] (by kernel_rfl) rfl rfl ⟨(Zg BK346.out 0).trans rfl, (Zg BK346.out 1).trans rfl, (Zg BK346.out 2).trans rfl⟩ (fun hHeld => ?_); refine with_tabW Zz.tab40 Zz.bits40 (fun HT_ HW_ => ?_)
           generalize wc.drew = w34 at BK346 HB HR359 hHeld ⊢
           refine Zx (i := 0) (N := some 143) (v := ?_) (a' := ?_) #[true, false, false, false, false, false, false, false, false, false, false, false] rfl rfl (Zy HT_.out (by kernel_rfl)) (fun _ _ _ h => h) (Or.inl ⟨by rfl, ?_⟩) ?_ ?_
           rotate_left
           ·intro w'
            go_simp
            with_reducible rfl
           rotate_left
           ·simp only [Act.put, ZD, ZE, ZF, Zn, Zq]
            rfl
           refine Zx (i := 1) (N := some 144) (v := ?_) (a' := ?_) #[true, true, false, false, false, false, false, false, false, false, false, false] rfl rfl (Zy HT_.out (by kernel_rfl)) (fun _ _ _ h => h) (Or.inl ⟨by rfl, ?_⟩) ?_ ?_
           rotate_left
           ·intro w'
            go_simp
            with_reducible rfl
           rotate_left
           ·simp only [Act.put, ZD, ZE, ZF, Zn, Zq]
            rfl
           refine Zx (i := 2) (N := some 145) (v := ?_) (a' := ?_) #[true, true, true, false, false, false, false, false, false, false, false, false] rfl rfl (Zy HT_.out (by kernel_rfl)) (fun _ _ _ h => h) (Or.inl ⟨by rfl, ?_⟩) ?_ ?_
           rotate_left
           ·intro w'
            go_simp
            with_reducible rfl
           rotate_left
           ·simp only [Act.put, ZD, ZE, ZF, Zn, Zq]
            rfl
           refine Zx (i := 3) (N := some 146) (v := ?_) (a' := ?_) #[true, true, true, true, false, false, false, false, false, false, false, false] rfl rfl (Zy HT_.out (by kernel_rfl)) (fun _ _ _ h => h) (Or.inl ⟨by rfl, ?_⟩) ?_ ?_
           rotate_left
           ·intro w'
            go_simp
            with_reducible rfl
           rotate_left
           ·simp only [Act.put, ZD, ZE, ZF, Zn, Zq]
            rfl
           refine Zx (i := 4) (N := some 147) (v := ?_) (a' := ?_) #[true, true, true, true, true, false, false, false, false, false, false, false] rfl rfl (Zy HT_.out (by kernel_rfl)) (fun _ _ _ h => h) (Or.inl ⟨by rfl, ?_⟩) ?_ ?_
           rotate_left
           ·intro w'
            go_simp
            with_reducible rfl
           rotate_left
           ·simp only [Act.put, ZD, ZE, ZF, Zn, Zq]
            rfl
           refine take_ (i := 5) (N := some 148) (v := ?_) (a' := ?_) #[true, true, true, true, true, true, false, false, false, false, false, false] rfl rfl (take_ofW HT_.out HW_.out (by kernel_rfl)) (fun _ _ _ h => h) (Or.inl ⟨by rfl, ?_⟩) hHeld ?_ ?_
           rotate_left
           ·rintro w' ⟨s0, s1, s2⟩
            go_simp
            with_reducible rfl
           rotate_left
           ·simp only [Act.put, ZD, ZE, ZF, Zn, Zq]
            rfl
           refine one_ (i := 6) (N := some 149) #[true, true, true, true, true, true, true, false, false, false, false, false] rfl rfl (one_of HT_.out (by kernel_rfl)) (by decide) (fun K hK => ?_)
           refine goes_ Try.func54 (by kernel_rfl) rfl #[.slice A35 y356.length c35, .slice A1 l1.length c1, .agg #[.int .i64 a2_0, .int .i64 a2_1, .slice A2_2 l2_2.length c2_2]] (by rfl) rfl rfl (by (try simp only [ZA, ZB, ZC]); first | done | rfl | (simp only [List.length_drop, List.length_take]; rfl)) ?_
           with_reducible refine (ih kj8 (by have := HJ4.out; have := HJ8.out; omega) _ _ y356 _ _ l1 a2_0 a2_1 _ _ l2_2 t360 t361 _ ?side1 ?side2 ?side3 ?side4 ?side5 ?side6 A33.out).mono ?_
           (case side1 => repeat (first | exact (Kd.Zaw HR359.out HB.out) | (with_reducible refine Kd.Zam ?_ _) | (with_reducible refine Kd.Zao ?_ _) | (with_reducible refine Kd.Zan ?_)))
           (case side2 => exact HC359.out)
           (case side3 => repeat (first | exact (Kd.Zaw HR1.out HB.out) | (with_reducible refine Kd.Zam ?_ _) | (with_reducible refine Kd.Zao ?_ _) | (with_reducible refine Kd.Zan ?_)))
           (case side4 => exact HC1.out)
           (case side5 => repeat (first | exact (Kd.Zaw HR2_2.out HB.out) | (with_reducible refine Kd.Zam ?_ _) | (with_reducible refine Kd.Zao ?_ _) | (with_reducible refine Kd.Zan ?_)))
           (case side6 => exact HC2_2.out)
           rintro e w36 ⟨rfl, hb⟩
           refine ⟨_, rfl, ?_⟩
           replace BK346 := Za.mk (Zbd (g := gb346) (o := .cells #[.int .i64 a2_0, .int .i64 a2_1, .slice A2_2 l2_2.length c2_2] 98 (0, 0)) (by (with_reducible repeat (first | refine Zj ?_ _ | refine Zh ?_ | refine Zi ?_ _)); exact BK346.out) hb)
           replace HB := Za.mk (Zai (by repeat (first | (with_reducible first | exact HB.out | apply Ze | apply Zf | apply Zd | refine Zk ?_ GE346.out) | exact HB.out)) hb)
           (try clear hb)
           (try clear hb2)
           (try clear hk)
           (try clear hi)
           refine hK.out _ _ ⟨(Zg BK346.out 0).trans rfl, (Zg BK346.out 1).trans rfl, (Zg BK346.out 2).trans rfl⟩ (fun hHeld => ?_)
           clear hK K
           refine norm_ (a' := ?_) ?_ ?_
           rotate_left
           ·show Act.put _ (some 149) _ = _
            simp only [Act.put, ZD, ZE, ZF, Zn, Zq]
            rfl
           refine Zx (i := 7) (N := some 142) (v := ?_) (a' := ?_) #[true, true, true, true, true, true, true, true, false, false, false, false] rfl rfl (Zy HT_.out (by kernel_rfl)) (fun _ _ _ h => h) (Or.inl ⟨by rfl, ?_⟩) ?_ ?_
           rotate_left
           ·intro w'
            go_simp
            with_reducible rfl
           rotate_left
           ·simp only [Act.put, ZD, ZE, ZF, Zn, Zq]
            rfl
           refine Zx (i := 8) (N := some 150) (v := ?_) (a' := ?_) #[true, true, true, true, true, true, true, true, true, false, false, false] rfl rfl (Zy HT_.out (by kernel_rfl)) (fun _ _ _ h => h) (Or.inl ⟨by rfl, ?_⟩) ?_ ?_
           rotate_left
           ·intro w'
            go_simp
            with_reducible rfl
           rotate_left
           ·simp only [Act.put, ZD, ZE, ZF, Zn, Zq]
            rfl
           refine Zx (i := 9) (N := some 151) (v := ?_) (a' := ?_) #[true, true, true, true, true, true, true, true, true, true, false, false] rfl rfl (Zy HT_.out (by kernel_rfl)) (fun _ _ _ h => h) (Or.inl ⟨by rfl, ?_⟩) ?_ ?_
           rotate_left
           ·intro w'
            go_simp
            with_reducible rfl
           rotate_left
           ·simp only [Act.put, ZD, ZE, ZF, Zn, Zq]
            rfl
           refine Zx (i := 10) (N := some 14) (v := ?_) (a' := ?_) #[true, true, true, true, true, true, true, true, true, true, true, false] rfl rfl (Zy HT_.out (by kernel_rfl)) (fun _ _ _ h => h) (Or.inl ⟨by rfl, ?_⟩) ?_ ?_
           rotate_left
           ·intro w'
            go_simp
            with_reducible rfl
           rotate_left
           ·simp only [Act.put, ZD, ZE, ZF, Zn, Zq]
            rfl
           refine Zx (i := 11) (N := some 15) (v := ?_) (a' := ?_) #[true, true, true, true, true, true, true, true, true, true, true, true] rfl rfl (Zy HT_.out (by kernel_rfl)) (fun _ _ _ h => h) (Or.inl ⟨by rfl, ?_⟩) ?_ ?_
           rotate_left
           ·intro w'
            go_simp
            with_reducible rfl
           rotate_left
           ·simp only [Act.put, ZD, ZE, ZF, Zn, Zq]
            rfl
           refine done_ (done_of HT_.out (by kernel_rfl)) ?_
           try go_wp2
           go_ret2
           exact ⟨by first | rfl | (simp [Zo, Zp] <;> rfl) | (simp only [← hji30]; first | rfl | (simp [Zo, Zp] <;> rfl)) | (simp [*, Zo, Zp] <;> rfl), by repeat (first | (with_reducible first | exact HB.out | apply Ze | apply Zf | apply Zd | refine Zk ?_ GE346.out) | exact HB.out)⟩
          ·rw [if_neg c32] at H
           exact absurd H (by simp)
         ·rw [if_neg c31] at H
          exact absurd H (by simp)
        ·rw [if_neg c29] at H
         have c29b0 : ((wrap64 ((Zb l0 0).f0)) == 5) = false := beq_eq_false_iff_ne.mpr c29
         have c29b1 : ((wrap64 ((Zb l0 0).f0)) != 5) = true := bne_iff_ne.mpr c29
         by_cases c37 : (Int.tmod (wrap64 ((Zb l0 0).f0)) 8) = 5
         ·rw [if_pos c37] at H
          have c37b0 : ((Int.tmod (wrap64 ((Zb l0 0).f0)) 8) == 5) = true := beq_iff_eq.mpr c37
          have c37b1 : ((Int.tmod (wrap64 ((Zb l0 0).f0)) 8) != 5) = false := bne_eq_false_iff_eq.mpr c37
          clear c37
          by_cases c38 : 0 < (l0.length : Int)
          ·rw [if_pos c38] at H
           have c38b0 : decide (0 < (l0.length : Int)) = true := decide_eq_true c38
           have c38b1 : decide (0 < l0.length) = true := decide_eq_true (by omega)
           clear c38
           replace H := Option.bind_eq_some_iff.mp H
           obtain ⟨t363, A390, H⟩ := H
           (try dsimp only at H)
           have A39 := Za.mk A390
           clear A390
           by_cases c40 : t363 = true
           ·subst c40
            have H1 : (if 0 ≤ (wrap64 (1 + (wrap64 ((Zb l0 0).f1)))) then (if (wrap64 (1 + (wrap64 ((Zb l0 0).f1)))) ≤ (l0.length : Int) then ((Zz.f kj8 (l0.drop ((wrap64 (1 + (wrap64 ((Zb l0 0).f1)))) : Int).toNat) l1 a2_0 a2_1 l2_2).bind fun bt369 => (some (bt369.1, wrap64 (bt369.2 + 1)))) else (none)) else (none)) = some (r1, r2) := by rw [if_pos rfl] at H; exact H
            clear H
            have H := H1
            clear H1
            obtain ⟨ji41, hji41⟩ : ∃ j_ : Int, (wrap64 (1 + (wrap64 ((Zb l0 0).f1)))) = j_ := ⟨_, rfl⟩
            replace H : (if 0 ≤ (ji41) then (if (ji41) ≤ (l0.length : Int) then ((Zz.f kj8 (l0.drop ((ji41) : Int).toNat) l1 a2_0 a2_1 l2_2).bind fun bt369 => (some (bt369.1, wrap64 (bt369.2 + 1)))) else (none)) else (none)) = some (r1, r2) := by first | (rw [hji41] at H; exact H) | (rw [show ((1 : Int) + 0) = 1 from rfl, hji41] at H; exact H) | (simp only [hji41] at H ⊢; exact H)
            (try rw [hji41] at A39)
            have hji41w : (IntKind.i64.wrap (1 + (wrap64 ((Zb l0 0).f1)))) = ji41 := (Zn _).trans hji41
            by_cases c42 : 0 ≤ (ji41)
            ·rw [if_pos c42] at H
             have c42b0 := eq_true c42
             have c42b1 : decide (0 ≤ (ji41)) = true := decide_eq_true c42
             clear c42
             by_cases c43 : (ji41) ≤ (l0.length : Int)
             ·rw [if_pos c43] at H
              have c43b0 := eq_true c43
              have c43b1 : decide ((ji41) ≤ (l0.length : Int)) = true := decide_eq_true c43
              clear c43
              obtain ⟨y365, hy365⟩ : ∃ y_ : List (S54), y_ = (l0.drop ((ji41) : Int).toNat) := ⟨_, rfl⟩
              replace H : ((Zz.f kj8 y365 l1 a2_0 a2_1 l2_2).bind fun bt369 => (some (bt369.1, wrap64 (bt369.2 + 1)))) = some (r1, r2) := by first | (rw [hy365]; with_reducible exact H) | (have H2_ := (Option.bind_some _ _).symm.trans H; rw [hy365]; with_reducible exact H2_) | (have H2_ := (Option.bind_some _ _).symm.trans H; with_reducible exact H2_) | with_reducible exact H | (rw [hy365]; exact H) | exact H
              have Ny365 := Za.mk hy365
              clear hy365
              replace H := Option.bind_eq_some_iff.mp H
              obtain ⟨⟨t369, t370⟩, A440, H⟩ := H
              (try dsimp only at H)
              have A44 := Za.mk A440
              clear A440
              simp only [Option.some.injEq, Prod.mk.injEq] at H
              obtain ⟨rfl, rfl⟩ := H
              have p362 : 0 ≤ (0 : Int) := (by omega)
              have q362 : 0 < (l0.length : Int) := of_decide_eq_true (by assumption)
              obtain ⟨ad362, e362, hx362_0, hx362_1, hx362_2, hx362_3⟩ := at_T54 HR0.out 0 p362 q362
              obtain rfl : ad347 = ad362 := (by injection e362)
              have qi362 : (0 < l0.length) = True := eq_true (by omega)
              (try rw [show ((0 : Int)).toNat = 0 from rfl] at hx362_0)
              (try rw [show 0 * 4 = 0 from rfl] at hx362_0)
              (try rw [Addr.add_zero'] at hx362_0)
              (try rw [show ((0 : Int)).toNat = 0 from rfl] at hx362_1)
              (try rw [show 0 * 4 = 0 from rfl] at hx362_1)
              (try rw [Addr.add_zero'] at hx362_1)
              (try rw [show ((0 : Int)).toNat = 0 from rfl] at hx362_2)
              (try rw [show 0 * 4 = 0 from rfl] at hx362_2)
              (try rw [Addr.add_zero'] at hx362_2)
              (try rw [show ((0 : Int)).toNat = 0 from rfl] at hx362_3)
              (try rw [show 0 * 4 = 0 from rfl] at hx362_3)
              (try rw [Addr.add_zero'] at hx362_3)
              replace hx362_0 := (HB.out.cell (World.block_lt_of_cell? w _ hx362_0)).trans hx362_0
              replace hx362_1 := (HB.out.cell (World.block_lt_of_cell? w _ hx362_1)).trans hx362_1
              replace hx362_2 := (HB.out.cell (World.block_lt_of_cell? w _ hx362_2)).trans hx362_2
              replace hx362_3 := (HB.out.cell (World.block_lt_of_cell? w _ hx362_3)).trans hx362_3
              replace p362 := eq_true p362
              replace q362 := eq_true q362
              have hcz45_0 : wc.cell? ⟨gb346, 0, none⟩ = some (.int .i64 a2_0) := (Zg BK346.out 0).trans rfl
              have hcz45_1 : wc.cell? ⟨gb346, 1, none⟩ = some (.int .i64 a2_1) := (Zg BK346.out 1).trans rfl
              have hcz45_2 : wc.cell? ⟨gb346, 2, none⟩ = some (.slice A2_2 l2_2.length c2_2) := (Zg BK346.out 2).trans rfl
              have hfz45_0 := Zl BK346.out 0
              have hfz45_1 := Zl BK346.out 1
              have hfz45_2 := Zl BK346.out 2
              try go_wp2_with (first | ((with_reducible refine Zaf (f := 66) rfl ?_); refine Zae (some 80) rfl rfl Try.func66 (by kernel_rfl) rfl #[.int .i64 (wrap64 (Int.tdiv (wrap64 ((Zb l0 0).f0)) 16)), .int .i64 a2_0, .int .i64 x13_8] rfl (by (try simp only [ZA, ZB, ZC]); first | done | rfl | (simp only [List.length_drop, List.length_take]; rfl)) ?_; (with_reducible refine (spec_l1holds.calls kj8 (wrap64 (Int.tdiv (wrap64 ((Zb l0 0).f0)) 16)) a2_0 x13_8 true _ A39.out).mono ?_); rintro e w' ⟨rfl, ⟨nd, rfl⟩⟩; refine ⟨_, rfl, ?_⟩; have p364 : 0 ≤ (0 : Int) := (by omega); have q364 : 0 < (l0.length : Int) := of_decide_eq_true (by assumption); obtain ⟨ad364, e364, hx364_0, hx364_1, hx364_2, hx364_3⟩ := at_T54 HR0.out 0 p364 q364; obtain rfl : ad347 = ad364 := (by injection e364); have qi364 : (0 < l0.length) = True := eq_true (by omega); (try rw [show ((0 : Int)).toNat = 0 from rfl] at hx364_0); (try rw [show 0 * 4 = 0 from rfl] at hx364_0); (try rw [Addr.add_zero'] at hx364_0); (try rw [show ((0 : Int)).toNat = 0 from rfl] at hx364_1); (try rw [show 0 * 4 = 0 from rfl] at hx364_1); (try rw [Addr.add_zero'] at hx364_1); (try rw [show ((0 : Int)).toNat = 0 from rfl] at hx364_2); (try rw [show 0 * 4 = 0 from rfl] at hx364_2); (try rw [Addr.add_zero'] at hx364_2); (try rw [show ((0 : Int)).toNat = 0 from rfl] at hx364_3); (try rw [show 0 * 4 = 0 from rfl] at hx364_3); (try rw [Addr.add_zero'] at hx364_3); replace hx364_0 := (HB.out.cell (World.block_lt_of_cell? w _ hx364_0)).trans hx364_0; replace hx364_1 := (HB.out.cell (World.block_lt_of_cell? w _ hx364_1)).trans hx364_1; replace hx364_2 := (HB.out.cell (World.block_lt_of_cell? w _ hx364_2)).trans hx364_2; replace hx364_3 := (HB.out.cell (World.block_lt_of_cell? w _ hx364_3)).trans hx364_3; replace p364 := eq_true p364; replace q364 := eq_true q364))
              (try (rw [drewN_self wc]; generalize hq_ : World.drewN wc _ = wc; have n0_ : Za (wc.heap[gb346]? = some (.cells #[.int .i64 a2_0, .int .i64 a2_1, .slice A2_2 l2_2.length c2_2] 98 (0, 0))) := ⟨by rw [← hq_]; exact (by (with_reducible repeat (first | refine Zj ?_ _ | refine Zh ?_ | refine Zi ?_ _)); exact BK346.out)⟩; have n1_ : Za (Below w.heap.size w wc) := ⟨by rw [← hq_]; exact (by repeat (first | (with_reducible first | exact HB.out | apply Ze | apply Zf | apply Zd | refine Zk ?_ GE346.out) | exact HB.out))⟩; clear BK346 HB hq_; have BK346 := n0_; have HB := n1_; clear n0_ n1_))
              replace BK346 := Za.mk (Zh BK346.out)
              replace HB := Za.mk (Zd HB.out)
              have q47 : ((ji41) : Int) ≤ ((l0.length : Int) : Int) := of_decide_eq_true (by assumption)
              obtain ⟨i047, hi047, _, hsz47, _⟩ := info_parts info54
              have hroom47 : l0.length ≤ c0 := HC0.out
              have hC47 : Kd.C k54 _ (some ad347) l0.length l0 := HR0.out
              have q047 : (0 : Int) ≤ ((ji41) : Int) := of_decide_eq_true (by assumption)
              have hcut47 := cut_from (P := Try.prog) 23 54 .i64 Try.underlying23 hi047 4 hsz47 (some ad347) l0.length c0 (ji41) q047 q47
              have hr47 := Kd.C_drop (m := ((ji41) : Int).toNat) (c := c0) hC47 (by omega) hroom47
              obtain ⟨A47, hA47⟩ : ∃ A1, A1 = (if c0 = ((ji41) : Int).toNat then (some ad347) else ((some ad347) : Option Addr).map (·.add (((ji41) : Int).toNat * 4))) := ⟨_, rfl⟩
              obtain ⟨c47, hc47⟩ : ∃ c1, c1 = c0 - ((ji41) : Int).toNat := ⟨_, rfl⟩
              have hy47 : y365.length = l0.length - ((ji41) : Int).toNat := (by rw [Ny365.out, List.length_drop] <;> omega)
              rw [show (l0).drop ((ji41) : Int).toNat = y365 from Ny365.out.symm] at hr47
              replace hr47 : Kd.C k54 _ A47 y365.length y365 := (by rw [hA47]; exact hr47)
              rw [← hy47, ← hA47, ← hc47] at hcut47
              have HR368 := Za.mk hr47
              have HC368 := Za.mk (show y365.length ≤ c47 from by rw [hy47, hc47]; exact Nat.sub_le_sub_right hroom47 _)
              clear hr47 hC47 hroom47 hi047 hsz47 hc47
              have KY47 := Za.mk hy47
              have KA47 := Za.mk hA47
              clear hy47 hA47
              replace q47 := eq_true q47
              refine start_ (n := 12) (S := fun w' => w'.cell? ⟨gb346, 0, none⟩ = some (.int .i64 a2_0) ∧ w'.cell? ⟨gb346, 1, none⟩ = some (.int .i64 a2_1) ∧ w'.cell? ⟨gb346, 2, none⟩ = some (.slice A2_2 l2_2.length c2_2)) (ds := []) #[false, false, false, false, false, false, false, false, false, false, false, false] (by kernel_rfl) rfl rfl ⟨(Zg BK346.out 0).trans rfl, (Zg BK346.out 1).trans rfl, (Zg BK346.out 2).trans rfl⟩ (fun hHeld => ?_); refine with_tabW Zz.tab40 Zz.bits40 (fun HT_ HW_ => ?_)
              generalize wc.drew = w46 at BK346 HB HR368 hHeld ⊢
              refine Zx (i := 0) (N := some 143) (v := ?_) (a' := ?_) #[true, false, false, false, false, false, false, false, false, false, false, false] rfl rfl (Zy HT_.out (by kernel_rfl)) (fun _ _ _ h => h) (Or.inl ⟨by rfl, ?_⟩) ?_ ?_
              rotate_left
              ·intro w'
               go_simp
               with_reducible rfl
              rotate_left
              ·simp only [Act.put, ZD, ZE, ZF, Zn, Zq]
               rfl
              refine Zx (i := 1) (N := some 144) (v := ?_) (a' := ?_) #[true, true, false, false, false, false, false, false, false, false, false, false] rfl rfl (Zy HT_.out (by kernel_rfl)) (fun _ _ _ h => h) (Or.inl ⟨by rfl, ?_⟩) ?_ ?_
              rotate_left
              ·intro w'
               go_simp
               with_reducible rfl
              rotate_left
              ·simp only [Act.put, ZD, ZE, ZF, Zn, Zq]
               rfl
              refine Zx (i := 2) (N := some 145) (v := ?_) (a' := ?_) #[true, true, true, false, false, false, false, false, false, false, false, false] rfl rfl (Zy HT_.out (by kernel_rfl)) (fun _ _ _ h => h) (Or.inl ⟨by rfl, ?_⟩) ?_ ?_
              rotate_left
              ·intro w'
               go_simp
               with_reducible rfl
              rotate_left
              ·simp only [Act.put, ZD, ZE, ZF, Zn, Zq]
               rfl
              refine Zx (i := 3) (N := some 146) (v := ?_) (a' := ?_) #[true, true, true, true, false, false, false, false, false, false, false, false] rfl rfl (Zy HT_.out (by kernel_rfl)) (fun _ _ _ h => h) (Or.inl ⟨by rfl, ?_⟩) ?_ ?_
              rotate_left
              ·intro w'
               go_simp
               with_reducible rfl
              rotate_left
              ·simp only [Act.put, ZD, ZE, ZF, Zn, Zq]
               rfl
              refine Zx (i := 4) (N := some 147) (v := ?_) (a' := ?_) #[true, true, true, true, true, false, false, false, false, false, false, false] rfl rfl (Zy HT_.out (by kernel_rfl)) (fun _ _ _ h => h) (Or.inl ⟨by rfl, ?_⟩) ?_ ?_
              rotate_left
              ·intro w'
               go_simp
               with_reducible rfl
              rotate_left
              ·simp only [Act.put, ZD, ZE, ZF, Zn, Zq]
               rfl
              refine take_ (i := 5) (N := some 148) (v := ?_) (a' := ?_) #[true, true, true, true, true, true, false, false, false, false, false, false] rfl rfl (take_ofW HT_.out HW_.out (by kernel_rfl)) (fun _ _ _ h => h) (Or.inl ⟨by rfl, ?_⟩) hHeld ?_ ?_
              rotate_left
              ·rintro w' ⟨s0, s1, s2⟩
               go_simp
               with_reducible rfl
              rotate_left
              ·simp only [Act.put, ZD, ZE, ZF, Zn, Zq]
               rfl
              refine one_ (i := 6) (N := some 149) #[true, true, true, true, true, true, true, false, false, false, false, false] rfl rfl (one_of HT_.out (by kernel_rfl)) (by decide) (fun K hK => ?_)
              refine goes_ Try.func54 (by kernel_rfl) rfl #[.slice A47 y365.length c47, .slice A1 l1.length c1, .agg #[.int .i64 a2_0, .int .i64 a2_1, .slice A2_2 l2_2.length c2_2]] (by rfl) rfl rfl (by (try simp only [ZA, ZB, ZC]); first | done | rfl | (simp only [List.length_drop, List.length_take]; rfl)) ?_
              with_reducible refine (ih kj8 (by have := HJ4.out; have := HJ8.out; omega) _ _ y365 _ _ l1 a2_0 a2_1 _ _ l2_2 t369 t370 _ ?side1 ?side2 ?side3 ?side4 ?side5 ?side6 A44.out).mono ?_
              (case side1 => repeat (first | exact (Kd.Zaw HR368.out HB.out) | (with_reducible refine Kd.Zam ?_ _) | (with_reducible refine Kd.Zao ?_ _) | (with_reducible refine Kd.Zan ?_)))
              (case side2 => exact HC368.out)
              (case side3 => repeat (first | exact (Kd.Zaw HR1.out HB.out) | (with_reducible refine Kd.Zam ?_ _) | (with_reducible refine Kd.Zao ?_ _) | (with_reducible refine Kd.Zan ?_)))
              (case side4 => exact HC1.out)
              (case side5 => repeat (first | exact (Kd.Zaw HR2_2.out HB.out) | (with_reducible refine Kd.Zam ?_ _) | (with_reducible refine Kd.Zao ?_ _) | (with_reducible refine Kd.Zan ?_)))
              (case side6 => exact HC2_2.out)
              rintro e w48 ⟨rfl, hb⟩
              refine ⟨_, rfl, ?_⟩
              replace BK346 := Za.mk (Zbd (g := gb346) (o := .cells #[.int .i64 a2_0, .int .i64 a2_1, .slice A2_2 l2_2.length c2_2] 98 (0, 0)) (by (with_reducible repeat (first | refine Zj ?_ _ | refine Zh ?_ | refine Zi ?_ _)); exact BK346.out) hb)
              replace HB := Za.mk (Zai (by repeat (first | (with_reducible first | exact HB.out | apply Ze | apply Zf | apply Zd | refine Zk ?_ GE346.out) | exact HB.out)) hb)
              (try clear hb)
              (try clear hb2)
              (try clear hk)
              (try clear hi)
              refine hK.out _ _ ⟨(Zg BK346.out 0).trans rfl, (Zg BK346.out 1).trans rfl, (Zg BK346.out 2).trans rfl⟩ (fun hHeld => ?_)
              clear hK K
              refine norm_ (a' := ?_) ?_ ?_
              rotate_left
              ·show Act.put _ (some 149) _ = _
               simp only [Act.put, ZD, ZE, ZF, Zn, Zq]
               rfl
              refine Zx (i := 7) (N := some 142) (v := ?_) (a' := ?_) #[true, true, true, true, true, true, true, true, false, false, false, false] rfl rfl (Zy HT_.out (by kernel_rfl)) (fun _ _ _ h => h) (Or.inl ⟨by rfl, ?_⟩) ?_ ?_
              rotate_left
              ·intro w'
               go_simp
               with_reducible rfl
              rotate_left
              ·simp only [Act.put, ZD, ZE, ZF, Zn, Zq]
               rfl
              refine Zx (i := 8) (N := some 150) (v := ?_) (a' := ?_) #[true, true, true, true, true, true, true, true, true, false, false, false] rfl rfl (Zy HT_.out (by kernel_rfl)) (fun _ _ _ h => h) (Or.inl ⟨by rfl, ?_⟩) ?_ ?_
              rotate_left
              ·intro w'
               go_simp
               with_reducible rfl
              rotate_left
              ·simp only [Act.put, ZD, ZE, ZF, Zn, Zq]
               rfl
              refine Zx (i := 9) (N := some 151) (v := ?_) (a' := ?_) #[true, true, true, true, true, true, true, true, true, true, false, false] rfl rfl (Zy HT_.out (by kernel_rfl)) (fun _ _ _ h => h) (Or.inl ⟨by rfl, ?_⟩) ?_ ?_
              rotate_left
              ·intro w'
               go_simp
               with_reducible rfl
              rotate_left
              ·simp only [Act.put, ZD, ZE, ZF, Zn, Zq]
               rfl
              refine Zx (i := 10) (N := some 14) (v := ?_) (a' := ?_) #[true, true, true, true, true, true, true, true, true, true, true, false] rfl rfl (Zy HT_.out (by kernel_rfl)) (fun _ _ _ h => h) (Or.inl ⟨by rfl, ?_⟩) ?_ ?_
              rotate_left
              ·intro w'
               go_simp
               with_reducible rfl
              rotate_left
              ·simp only [Act.put, ZD, ZE, ZF, Zn, Zq]
               rfl
              refine Zx (i := 11) (N := some 15) (v := ?_) (a' := ?_) #[true, true, true, true, true, true, true, true, true, true, true, true] rfl rfl (Zy HT_.out (by kernel_rfl)) (fun _ _ _ h => h) (Or.inl ⟨by rfl, ?_⟩) ?_ ?_
              rotate_left
              ·intro w'
               go_simp
               with_reducible rfl
              rotate_left
              ·simp only [Act.put, ZD, ZE, ZF, Zn, Zq]
               rfl
              refine done_ (done_of HT_.out (by kernel_rfl)) ?_
              try go_wp2
              go_ret2
              exact ⟨by first | rfl | (simp [Zo, Zp] <;> rfl) | (simp only [← hji41]; first | rfl | (simp [Zo, Zp] <;> rfl)) | (simp [*, Zo, Zp] <;> rfl), by repeat (first | (with_reducible first | exact HB.out | apply Ze | apply Zf | apply Zd | refine Zk ?_ GE346.out) | exact HB.out)⟩
             ·rw [if_neg c43] at H
              exact absurd H (by simp)
            ·rw [if_neg c42] at H
             exact absurd H (by simp)
           ·replace c40 := Bool.eq_false_iff.mpr c40
            subst c40
            have H1 : (if 0 ≤ (wrap64 (1 + (wrap64 ((Zb l0 0).f2)))) then (if (wrap64 (1 + (wrap64 ((Zb l0 0).f2)))) ≤ (l0.length : Int) then ((Zz.f kj8 (l0.drop ((wrap64 (1 + (wrap64 ((Zb l0 0).f2)))) : Int).toNat) l1 a2_0 a2_1 l2_2).bind fun bt375 => (some (bt375.1, wrap64 (bt375.2 + 1)))) else (none)) else (none)) = some (r1, r2) := by rw [if_neg (show ¬ (false = true) by decide)] at H; exact H
            clear H
            have H := H1
            clear H1
            obtain ⟨ji49, hji49⟩ : ∃ j_ : Int, (wrap64 (1 + (wrap64 ((Zb l0 0).f2)))) = j_ := ⟨_, rfl⟩
            replace H : (if 0 ≤ (ji49) then (if (ji49) ≤ (l0.length : Int) then ((Zz.f kj8 (l0.drop ((ji49) : Int).toNat) l1 a2_0 a2_1 l2_2).bind fun bt375 => (some (bt375.1, wrap64 (bt375.2 + 1)))) else (none)) else (none)) = some (r1, r2) := by first | (rw [hji49] at H; exact H) | (rw [show ((1 : Int) + 0) = 1 from rfl, hji49] at H; exact H) | (simp only [hji49] at H ⊢; exact H)
            (try rw [hji49] at A39)
            have hji49w : (IntKind.i64.wrap (1 + (wrap64 ((Zb l0 0).f2)))) = ji49 := (Zn _).trans hji49
            by_cases c50 : 0 ≤ (ji49)
            ·rw [if_pos c50] at H
             have c50b0 := eq_true c50
             have c50b1 : decide (0 ≤ (ji49)) = true := decide_eq_true c50
             clear c50
             by_cases c51 : (ji49) ≤ (l0.length : Int)
             ·rw [if_pos c51] at H
              have c51b0 := eq_true c51
              have c51b1 : decide ((ji49) ≤ (l0.length : Int)) = true := decide_eq_true c51
              clear c51
              obtain ⟨y371, hy371⟩ : ∃ y_ : List (S54), y_ = (l0.drop ((ji49) : Int).toNat) := ⟨_, rfl⟩
              replace H : ((Zz.f kj8 y371 l1 a2_0 a2_1 l2_2).bind fun bt375 => (some (bt375.1, wrap64 (bt375.2 + 1)))) = some (r1, r2) := by first | (rw [hy371]; with_reducible exact H) | (have H2_ := (Option.bind_some _ _).symm.trans H; rw [hy371]; with_reducible exact H2_) | (have H2_ := (Option.bind_some _ _).symm.trans H; with_reducible exact H2_) | with_reducible exact H | (rw [hy371]; exact H) | exact H
              have Ny371 := Za.mk hy371
              clear hy371
              replace H := Option.bind_eq_some_iff.mp H
              obtain ⟨⟨t375, t376⟩, A520, H⟩ := H
              (try dsimp only at H)
              have A52 := Za.mk A520
              clear A520
              simp only [Option.some.injEq, Prod.mk.injEq] at H
              obtain ⟨rfl, rfl⟩ := H
              have p362 : 0 ≤ (0 : Int) := (by omega)
              have q362 : 0 < (l0.length : Int) := of_decide_eq_true (by assumption)
              obtain ⟨ad362, e362, hx362_0, hx362_1, hx362_2, hx362_3⟩ := at_T54 HR0.out 0 p362 q362
              obtain rfl : ad347 = ad362 := (by injection e362)
              have qi362 : (0 < l0.length) = True := eq_true (by omega)
              (try rw [show ((0 : Int)).toNat = 0 from rfl] at hx362_0)
              (try rw [show 0 * 4 = 0 from rfl] at hx362_0)
              (try rw [Addr.add_zero'] at hx362_0)
              (try rw [show ((0 : Int)).toNat = 0 from rfl] at hx362_1)
              (try rw [show 0 * 4 = 0 from rfl] at hx362_1)
              (try rw [Addr.add_zero'] at hx362_1)
              (try rw [show ((0 : Int)).toNat = 0 from rfl] at hx362_2)
              (try rw [show 0 * 4 = 0 from rfl] at hx362_2)
              (try rw [Addr.add_zero'] at hx362_2)
              (try rw [show ((0 : Int)).toNat = 0 from rfl] at hx362_3)
              (try rw [show 0 * 4 = 0 from rfl] at hx362_3)
              (try rw [Addr.add_zero'] at hx362_3)
              replace hx362_0 := (HB.out.cell (World.block_lt_of_cell? w _ hx362_0)).trans hx362_0
              replace hx362_1 := (HB.out.cell (World.block_lt_of_cell? w _ hx362_1)).trans hx362_1
              replace hx362_2 := (HB.out.cell (World.block_lt_of_cell? w _ hx362_2)).trans hx362_2
              replace hx362_3 := (HB.out.cell (World.block_lt_of_cell? w _ hx362_3)).trans hx362_3
              replace p362 := eq_true p362
              replace q362 := eq_true q362
              have hcz53_0 : wc.cell? ⟨gb346, 0, none⟩ = some (.int .i64 a2_0) := (Zg BK346.out 0).trans rfl
              have hcz53_1 : wc.cell? ⟨gb346, 1, none⟩ = some (.int .i64 a2_1) := (Zg BK346.out 1).trans rfl
              have hcz53_2 : wc.cell? ⟨gb346, 2, none⟩ = some (.slice A2_2 l2_2.length c2_2) := (Zg BK346.out 2).trans rfl
              have hfz53_0 := Zl BK346.out 0
              have hfz53_1 := Zl BK346.out 1
              have hfz53_2 := Zl BK346.out 2
              try go_wp2_with (first | ((with_reducible refine Zaf (f := 66) rfl ?_); refine Zae (some 80) rfl rfl Try.func66 (by kernel_rfl) rfl #[.int .i64 (wrap64 (Int.tdiv (wrap64 ((Zb l0 0).f0)) 16)), .int .i64 a2_0, .int .i64 x13_8] rfl (by (try simp only [ZA, ZB, ZC]); first | done | rfl | (simp only [List.length_drop, List.length_take]; rfl)) ?_; (with_reducible refine (spec_l1holds.calls kj8 (wrap64 (Int.tdiv (wrap64 ((Zb l0 0).f0)) 16)) a2_0 x13_8 false _ A39.out).mono ?_); rintro e w' ⟨rfl, ⟨nd, rfl⟩⟩; refine ⟨_, rfl, ?_⟩))
              (try (rw [drewN_self wc]; generalize hq_ : World.drewN wc _ = wc; have n0_ : Za (wc.heap[gb346]? = some (.cells #[.int .i64 a2_0, .int .i64 a2_1, .slice A2_2 l2_2.length c2_2] 98 (0, 0))) := ⟨by rw [← hq_]; exact (by (with_reducible repeat (first | refine Zj ?_ _ | refine Zh ?_ | refine Zi ?_ _)); exact BK346.out)⟩; have n1_ : Za (Below w.heap.size w wc) := ⟨by rw [← hq_]; exact (by repeat (first | (with_reducible first | exact HB.out | apply Ze | apply Zf | apply Zd | refine Zk ?_ GE346.out) | exact HB.out))⟩; clear BK346 HB hq_; have BK346 := n0_; have HB := n1_; clear n0_ n1_))
              replace BK346 := Za.mk (Zh BK346.out)
              replace HB := Za.mk (Zd HB.out)
              have q55 : ((ji49) : Int) ≤ ((l0.length : Int) : Int) := of_decide_eq_true (by assumption)
              obtain ⟨i055, hi055, _, hsz55, _⟩ := info_parts info54
              have hroom55 : l0.length ≤ c0 := HC0.out
              have hC55 : Kd.C k54 _ (some ad347) l0.length l0 := HR0.out
              have q055 : (0 : Int) ≤ ((ji49) : Int) := of_decide_eq_true (by assumption)
              have hcut55 := cut_from (P := Try.prog) 23 54 .i64 Try.underlying23 hi055 4 hsz55 (some ad347) l0.length c0 (ji49) q055 q55
              have hr55 := Kd.C_drop (m := ((ji49) : Int).toNat) (c := c0) hC55 (by omega) hroom55
              obtain ⟨A55, hA55⟩ : ∃ A1, A1 = (if c0 = ((ji49) : Int).toNat then (some ad347) else ((some ad347) : Option Addr).map (·.add (((ji49) : Int).toNat * 4))) := ⟨_, rfl⟩
              obtain ⟨c55, hc55⟩ : ∃ c1, c1 = c0 - ((ji49) : Int).toNat := ⟨_, rfl⟩
              have hy55 : y371.length = l0.length - ((ji49) : Int).toNat := (by rw [Ny371.out, List.length_drop] <;> omega)
              rw [show (l0).drop ((ji49) : Int).toNat = y371 from Ny371.out.symm] at hr55
              replace hr55 : Kd.C k54 _ A55 y371.length y371 := (by rw [hA55]; exact hr55)
              rw [← hy55, ← hA55, ← hc55] at hcut55
              have HR374 := Za.mk hr55
              have HC374 := Za.mk (show y371.length ≤ c55 from by rw [hy55, hc55]; exact Nat.sub_le_sub_right hroom55 _)
              clear hr55 hC55 hroom55 hi055 hsz55 hc55
              have KY55 := Za.mk hy55
              have KA55 := Za.mk hA55
              clear hy55 hA55
              replace q55 := eq_true q55
              refine start_ (n := 12) (S := fun w' => w'.cell? ⟨gb346, 0, none⟩ = some (.int .i64 a2_0) ∧ w'.cell? ⟨gb346, 1, none⟩ = some (.int .i64 a2_1) ∧ w'.cell? ⟨gb346, 2, none⟩ = some (.slice A2_2 l2_2.length c2_2)) (ds := []) #[false, false, false, false, false, false, false, false, false, false, false, false] (by kernel_rfl) rfl rfl ⟨(Zg BK346.out 0).trans rfl, (Zg BK346.out 1).trans rfl, (Zg BK346.out 2).trans rfl⟩ (fun hHeld => ?_); refine with_tabW Zz.tab40 Zz.bits40 (fun HT_ HW_ => ?_)
              generalize wc.drew = w54 at BK346 HB HR374 hHeld ⊢
              refine Zx (i := 0) (N := some 143) (v := ?_) (a' := ?_) #[true, false, false, false, false, false, false, false, false, false, false, false] rfl rfl (Zy HT_.out (by kernel_rfl)) (fun _ _ _ h => h) (Or.inl ⟨by rfl, ?_⟩) ?_ ?_
              rotate_left
              ·intro w'
               go_simp
               with_reducible rfl
              rotate_left
              ·simp only [Act.put, ZD, ZE, ZF, Zn, Zq]
               rfl
              refine Zx (i := 1) (N := some 144) (v := ?_) (a' := ?_) #[true, true, false, false, false, false, false, false, false, false, false, false] rfl rfl (Zy HT_.out (by kernel_rfl)) (fun _ _ _ h => h) (Or.inl ⟨by rfl, ?_⟩) ?_ ?_
              rotate_left
              ·intro w'
               go_simp
               with_reducible rfl
              rotate_left
              ·simp only [Act.put, ZD, ZE, ZF, Zn, Zq]
               rfl
              refine Zx (i := 2) (N := some 145) (v := ?_) (a' := ?_) #[true, true, true, false, false, false, false, false, false, false, false, false] rfl rfl (Zy HT_.out (by kernel_rfl)) (fun _ _ _ h => h) (Or.inl ⟨by rfl, ?_⟩) ?_ ?_
              rotate_left
              ·intro w'
               go_simp
               with_reducible rfl
              rotate_left
              ·simp only [Act.put, ZD, ZE, ZF, Zn, Zq]
               rfl
              refine Zx (i := 3) (N := some 146) (v := ?_) (a' := ?_) #[true, true, true, true, false, false, false, false, false, false, false, false] rfl rfl (Zy HT_.out (by kernel_rfl)) (fun _ _ _ h => h) (Or.inl ⟨by rfl, ?_⟩) ?_ ?_
              rotate_left
              ·intro w'
               go_simp
               with_reducible rfl
              rotate_left
              ·simp only [Act.put, ZD, ZE, ZF, Zn, Zq]
               rfl
              refine Zx (i := 4) (N := some 147) (v := ?_) (a' := ?_) #[true, true, true, true, true, false, false, false, false, false, false, false] rfl rfl (Zy HT_.out (by kernel_rfl)) (fun _ _ _ h => h) (Or.inl ⟨by rfl, ?_⟩) ?_ ?_
              rotate_left
              ·intro w'
               go_simp
               with_reducible rfl
              rotate_left
              ·simp only [Act.put, ZD, ZE, ZF, Zn, Zq]
               rfl
              refine take_ (i := 5) (N := some 148) (v := ?_) (a' := ?_) #[true, true, true, true, true, true, false, false, false, false, false, false] rfl rfl (take_ofW HT_.out HW_.out (by kernel_rfl)) (fun _ _ _ h => h) (Or.inl ⟨by rfl, ?_⟩) hHeld ?_ ?_
              rotate_left
              ·rintro w' ⟨s0, s1, s2⟩
               go_simp
               with_reducible rfl
              rotate_left
              ·simp only [Act.put, ZD, ZE, ZF, Zn, Zq]
               rfl
              refine one_ (i := 6) (N := some 149) #[true, true, true, true, true, true, true, false, false, false, false, false] rfl rfl (one_of HT_.out (by kernel_rfl)) (by decide) (fun K hK => ?_)
              refine goes_ Try.func54 (by kernel_rfl) rfl #[.slice A55 y371.length c55, .slice A1 l1.length c1, .agg #[.int .i64 a2_0, .int .i64 a2_1, .slice A2_2 l2_2.length c2_2]] (by rfl) rfl rfl (by (try simp only [ZA, ZB, ZC]); first | done | rfl | (simp only [List.length_drop, List.length_take]; rfl)) ?_
              with_reducible refine (ih kj8 (by have := HJ4.out; have := HJ8.out; omega) _ _ y371 _ _ l1 a2_0 a2_1 _ _ l2_2 t375 t376 _ ?side1 ?side2 ?side3 ?side4 ?side5 ?side6 A52.out).mono ?_
              (case side1 => repeat (first | exact (Kd.Zaw HR374.out HB.out) | (with_reducible refine Kd.Zam ?_ _) | (with_reducible refine Kd.Zao ?_ _) | (with_reducible refine Kd.Zan ?_)))
              (case side2 => exact HC374.out)
              (case side3 => repeat (first | exact (Kd.Zaw HR1.out HB.out) | (with_reducible refine Kd.Zam ?_ _) | (with_reducible refine Kd.Zao ?_ _) | (with_reducible refine Kd.Zan ?_)))
              (case side4 => exact HC1.out)
              (case side5 => repeat (first | exact (Kd.Zaw HR2_2.out HB.out) | (with_reducible refine Kd.Zam ?_ _) | (with_reducible refine Kd.Zao ?_ _) | (with_reducible refine Kd.Zan ?_)))
              (case side6 => exact HC2_2.out)
              rintro e w56 ⟨rfl, hb⟩
              refine ⟨_, rfl, ?_⟩
              replace BK346 := Za.mk (Zbd (g := gb346) (o := .cells #[.int .i64 a2_0, .int .i64 a2_1, .slice A2_2 l2_2.length c2_2] 98 (0, 0)) (by (with_reducible repeat (first | refine Zj ?_ _ | refine Zh ?_ | refine Zi ?_ _)); exact BK346.out) hb)
              replace HB := Za.mk (Zai (by repeat (first | (with_reducible first | exact HB.out | apply Ze | apply Zf | apply Zd | refine Zk ?_ GE346.out) | exact HB.out)) hb)
              (try clear hb)
              (try clear hb2)
              (try clear hk)
              (try clear hi)
              refine hK.out _ _ ⟨(Zg BK346.out 0).trans rfl, (Zg BK346.out 1).trans rfl, (Zg BK346.out 2).trans rfl⟩ (fun hHeld => ?_)
              clear hK K
              refine norm_ (a' := ?_) ?_ ?_
              rotate_left
              ·show Act.put _ (some 149) _ = _
               simp only [Act.put, ZD, ZE, ZF, Zn, Zq]
               rfl
              refine Zx (i := 7) (N := some 142) (v := ?_) (a' := ?_) #[true, true, true, true, true, true, true, true, false, false, false, false] rfl rfl (Zy HT_.out (by kernel_rfl)) (fun _ _ _ h => h) (Or.inl ⟨by rfl, ?_⟩) ?_ ?_
              rotate_left
              ·intro w'
               go_simp
               with_reducible rfl
              rotate_left
              ·simp only [Act.put, ZD, ZE, ZF, Zn, Zq]
               rfl
              refine Zx (i := 8) (N := some 150) (v := ?_) (a' := ?_) #[true, true, true, true, true, true, true, true, true, false, false, false] rfl rfl (Zy HT_.out (by kernel_rfl)) (fun _ _ _ h => h) (Or.inl ⟨by rfl, ?_⟩) ?_ ?_
              rotate_left
              ·intro w'
               go_simp
               with_reducible rfl
              rotate_left
              ·simp only [Act.put, ZD, ZE, ZF, Zn, Zq]
               rfl
              refine Zx (i := 9) (N := some 151) (v := ?_) (a' := ?_) #[true, true, true, true, true, true, true, true, true, true, false, false] rfl rfl (Zy HT_.out (by kernel_rfl)) (fun _ _ _ h => h) (Or.inl ⟨by rfl, ?_⟩) ?_ ?_
              rotate_left
              ·intro w'
               go_simp
               with_reducible rfl
              rotate_left
              ·simp only [Act.put, ZD, ZE, ZF, Zn, Zq]
               rfl
              refine Zx (i := 10) (N := some 14) (v := ?_) (a' := ?_) #[true, true, true, true, true, true, true, true, true, true, true, false] rfl rfl (Zy HT_.out (by kernel_rfl)) (fun _ _ _ h => h) (Or.inl ⟨by rfl, ?_⟩) ?_ ?_
              rotate_left
              ·intro w'
               go_simp
               with_reducible rfl
              rotate_left
              ·simp only [Act.put, ZD, ZE, ZF, Zn, Zq]
               rfl
              refine Zx (i := 11) (N := some 15) (v := ?_) (a' := ?_) #[true, true, true, true, true, true, true, true, true, true, true, true] rfl rfl (Zy HT_.out (by kernel_rfl)) (fun _ _ _ h => h) (Or.inl ⟨by rfl, ?_⟩) ?_ ?_
              rotate_left
              ·intro w'
               go_simp
               with_reducible rfl
              rotate_left
              ·simp only [Act.put, ZD, ZE, ZF, Zn, Zq]
               rfl
              refine done_ (done_of HT_.out (by kernel_rfl)) ?_
              try go_wp2
              go_ret2
              exact ⟨by first | rfl | (simp [Zo, Zp] <;> rfl) | (simp only [← hji49]; first | rfl | (simp [Zo, Zp] <;> rfl)) | (simp [*, Zo, Zp] <;> rfl), by repeat (first | (with_reducible first | exact HB.out | apply Ze | apply Zf | apply Zd | refine Zk ?_ GE346.out) | exact HB.out)⟩
             ·rw [if_neg c51] at H
              exact absurd H (by simp)
            ·rw [if_neg c50] at H
             exact absurd H (by simp)
          ·rw [if_neg c38] at H
           exact absurd H (by simp)
         ·rw [if_neg c37] at H
          have c37b0 : ((Int.tmod (wrap64 ((Zb l0 0).f0)) 8) == 5) = false := beq_eq_false_iff_ne.mpr c37
          have c37b1 : ((Int.tmod (wrap64 ((Zb l0 0).f0)) 8) != 5) = true := bne_iff_ne.mpr c37
          by_cases c57 : (wrap64 ((Zb l0 0).f0)) = 0
          ·rw [if_pos c57] at H
           have c57b0 : ((wrap64 ((Zb l0 0).f0)) == 0) = true := beq_iff_eq.mpr c57
           have c57b1 : ((wrap64 ((Zb l0 0).f0)) != 0) = false := bne_eq_false_iff_eq.mpr c57
           clear c57
           obtain ⟨ji58, hji58⟩ : ∃ j_ : Int, (wrap64 1) = j_ := ⟨_, rfl⟩
           replace H : (if 0 ≤ (ji58) then (if (ji58) ≤ (l0.length : Int) then ((Zz.f kj8 (l0.drop ((ji58) : Int).toNat) l1 (wrap64 ((Zb l0 0).f3)) a2_1 l2_2).bind fun bt381 => (some (bt381.1, wrap64 (bt381.2 + 1)))) else (none)) else (none)) = some (r1, r2) := by first | (rw [hji58] at H; exact H) | (rw [show ((1 : Int) + 0) = 1 from rfl, hji58] at H; exact H) | (simp only [hji58] at H ⊢; exact H)
           have hji58w : (IntKind.i64.wrap 1) = ji58 := (Zn _).trans hji58
           by_cases c59 : 0 ≤ (ji58)
           ·rw [if_pos c59] at H
            have c59b0 := eq_true c59
            have c59b1 : decide (0 ≤ (ji58)) = true := decide_eq_true c59
            clear c59
            by_cases c60 : (ji58) ≤ (l0.length : Int)
            ·rw [if_pos c60] at H
             have c60b0 := eq_true c60
             have c60b1 : decide ((ji58) ≤ (l0.length : Int)) = true := decide_eq_true c60
             clear c60
             obtain ⟨y377, hy377⟩ : ∃ y_ : List (S54), y_ = (l0.drop ((ji58) : Int).toNat) := ⟨_, rfl⟩
             replace H : ((Zz.f kj8 y377 l1 (wrap64 ((Zb l0 0).f3)) a2_1 l2_2).bind fun bt381 => (some (bt381.1, wrap64 (bt381.2 + 1)))) = some (r1, r2) := by first | (rw [hy377]; with_reducible exact H) | (have H2_ := (Option.bind_some _ _).symm.trans H; rw [hy377]; with_reducible exact H2_) | (have H2_ := (Option.bind_some _ _).symm.trans H; with_reducible exact H2_) | with_reducible exact H | (rw [hy377]; exact H) | exact H
             have Ny377 := Za.mk hy377
             clear hy377
             replace H := Option.bind_eq_some_iff.mp H
             obtain ⟨⟨t381, t382⟩, A610, H⟩ := H
             (try dsimp only at H)
             have A61 := Za.mk A610
             clear A610
             simp only [Option.some.injEq, Prod.mk.injEq] at H
             obtain ⟨rfl, rfl⟩ := H
             have hcz62_0 : wc.cell? ⟨gb346, 0, none⟩ = some (.int .i64 a2_0) := (Zg BK346.out 0).trans rfl
             have hcz62_1 : wc.cell? ⟨gb346, 1, none⟩ = some (.int .i64 a2_1) := (Zg BK346.out 1).trans rfl
             have hcz62_2 : wc.cell? ⟨gb346, 2, none⟩ = some (.slice A2_2 l2_2.length c2_2) := (Zg BK346.out 2).trans rfl
             have hfz62_0 := Zl BK346.out 0
             have hfz62_1 := Zl BK346.out 1
             have hfz62_2 := Zl BK346.out 2
             try go_wp2
             have n0_ : Za ((wc.setCell ⟨gb346, 0, none⟩ (.int .i64 (wrap64 ((Zb l0 0).f3)))).heap[gb346]? = some (.cells #[.int .i64 (wrap64 ((Zb l0 0).f3)), .int .i64 a2_1, .slice A2_2 l2_2.length c2_2] 98 (0, 0))) := ⟨by (with_reducible repeat (first | refine Zj ?_ _ | refine Zh ?_ | refine Zi ?_ _)); refine Zu (cs := #[.int .i64 a2_0, .int .i64 a2_1, .slice A2_2 l2_2.length c2_2]) ?_ 0 _ rfl; (with_reducible repeat (first | refine Zj ?_ _ | refine Zh ?_ | refine Zi ?_ _)); exact BK346.out⟩
             have n1_ : Za (Below w.heap.size w (wc.setCell ⟨gb346, 0, none⟩ (.int .i64 (wrap64 ((Zb l0 0).f3))))) := ⟨by repeat (first | (with_reducible first | exact HB.out | apply Ze | apply Zf | apply Zd | refine Zk ?_ GE346.out) | exact HB.out)⟩
             (try clear BK346)
             (try clear HB)
             generalize (wc.setCell ⟨gb346, 0, none⟩ (.int .i64 (wrap64 ((Zb l0 0).f3)))) = w63 at n0_ n1_ ⊢
             have BK346 := n0_
             have HB := n1_
             clear n0_ n1_
             replace BK346 := Za.mk (Zh BK346.out)
             replace HB := Za.mk (Zd HB.out)
             have q65 : ((ji58) : Int) ≤ ((l0.length : Int) : Int) := of_decide_eq_true (by assumption)
             obtain ⟨i065, hi065, _, hsz65, _⟩ := info_parts info54
             have hroom65 : l0.length ≤ c0 := HC0.out
             have hC65 : Kd.C k54 _ (some ad347) l0.length l0 := HR0.out
             have q065 : (0 : Int) ≤ ((ji58) : Int) := of_decide_eq_true (by assumption)
             have hcut65 := cut_from (P := Try.prog) 23 54 .i64 Try.underlying23 hi065 4 hsz65 (some ad347) l0.length c0 (ji58) q065 q65
             have hr65 := Kd.C_drop (m := ((ji58) : Int).toNat) (c := c0) hC65 (by omega) hroom65
             obtain ⟨A65, hA65⟩ : ∃ A1, A1 = (if c0 = ((ji58) : Int).toNat then (some ad347) else ((some ad347) : Option Addr).map (·.add (((ji58) : Int).toNat * 4))) := ⟨_, rfl⟩
             obtain ⟨c65, hc65⟩ : ∃ c1, c1 = c0 - ((ji58) : Int).toNat := ⟨_, rfl⟩
             have hy65 : y377.length = l0.length - ((ji58) : Int).toNat := (by rw [Ny377.out, List.length_drop] <;> omega)
             rw [show (l0).drop ((ji58) : Int).toNat = y377 from Ny377.out.symm] at hr65
             replace hr65 : Kd.C k54 _ A65 y377.length y377 := (by rw [hA65]; exact hr65)
             rw [← hy65, ← hA65, ← hc65] at hcut65
             have HR380 := Za.mk hr65
             have HC380 := Za.mk (show y377.length ≤ c65 from by rw [hy65, hc65]; exact Nat.sub_le_sub_right hroom65 _)
             clear hr65 hC65 hroom65 hi065 hsz65 hc65
             have KY65 := Za.mk hy65
             have KA65 := Za.mk hA65
             clear hy65 hA65
             replace q65 := eq_true q65
             refine start_ (n := 12) (S := fun w' => w'.cell? ⟨gb346, 0, none⟩ = some (.int .i64 (wrap64 ((Zb l0 0).f3))) ∧ w'.cell? ⟨gb346, 1, none⟩ = some (.int .i64 a2_1) ∧ w'.cell? ⟨gb346, 2, none⟩ = some (.slice A2_2 l2_2.length c2_2)) (ds := []) #[false, false, false, false, false, false, false, false, false, false, false, false] (by kernel_rfl) rfl rfl ⟨(Zg BK346.out 0).trans rfl, (Zg BK346.out 1).trans rfl, (Zg BK346.out 2).trans rfl⟩ (fun hHeld => ?_); refine with_tabW Zz.tab40 Zz.bits40 (fun HT_ HW_ => ?_)
             generalize w63.drew = w64 at BK346 HB HR380 hHeld ⊢
             refine Zx (i := 0) (N := some 143) (v := ?_) (a' := ?_) #[true, false, false, false, false, false, false, false, false, false, false, false] rfl rfl (Zy HT_.out (by kernel_rfl)) (fun _ _ _ h => h) (Or.inl ⟨by rfl, ?_⟩) ?_ ?_
             rotate_left
             ·intro w'
              go_simp
              with_reducible rfl
             rotate_left
             ·simp only [Act.put, ZD, ZE, ZF, Zn, Zq]
              rfl
             refine Zx (i := 1) (N := some 144) (v := ?_) (a' := ?_) #[true, true, false, false, false, false, false, false, false, false, false, false] rfl rfl (Zy HT_.out (by kernel_rfl)) (fun _ _ _ h => h) (Or.inl ⟨by rfl, ?_⟩) ?_ ?_
             rotate_left
             ·intro w'
              go_simp
              with_reducible rfl
             rotate_left
             ·simp only [Act.put, ZD, ZE, ZF, Zn, Zq]
              rfl
             refine Zx (i := 2) (N := some 145) (v := ?_) (a' := ?_) #[true, true, true, false, false, false, false, false, false, false, false, false] rfl rfl (Zy HT_.out (by kernel_rfl)) (fun _ _ _ h => h) (Or.inl ⟨by rfl, ?_⟩) ?_ ?_
             rotate_left
             ·intro w'
              go_simp
              with_reducible rfl
             rotate_left
             ·simp only [Act.put, ZD, ZE, ZF, Zn, Zq]
              rfl
             refine Zx (i := 3) (N := some 146) (v := ?_) (a' := ?_) #[true, true, true, true, false, false, false, false, false, false, false, false] rfl rfl (Zy HT_.out (by kernel_rfl)) (fun _ _ _ h => h) (Or.inl ⟨by rfl, ?_⟩) ?_ ?_
             rotate_left
             ·intro w'
              go_simp
              with_reducible rfl
             rotate_left
             ·simp only [Act.put, ZD, ZE, ZF, Zn, Zq]
              rfl
             refine Zx (i := 4) (N := some 147) (v := ?_) (a' := ?_) #[true, true, true, true, true, false, false, false, false, false, false, false] rfl rfl (Zy HT_.out (by kernel_rfl)) (fun _ _ _ h => h) (Or.inl ⟨by rfl, ?_⟩) ?_ ?_
             rotate_left
             ·intro w'
              go_simp
              with_reducible rfl
             rotate_left
             ·simp only [Act.put, ZD, ZE, ZF, Zn, Zq]
              rfl
             refine take_ (i := 5) (N := some 148) (v := ?_) (a' := ?_) #[true, true, true, true, true, true, false, false, false, false, false, false] rfl rfl (take_ofW HT_.out HW_.out (by kernel_rfl)) (fun _ _ _ h => h) (Or.inl ⟨by rfl, ?_⟩) hHeld ?_ ?_
             rotate_left
             ·rintro w' ⟨s0, s1, s2⟩
              go_simp
              with_reducible rfl
             rotate_left
             ·simp only [Act.put, ZD, ZE, ZF, Zn, Zq]
              rfl
             refine one_ (i := 6) (N := some 149) #[true, true, true, true, true, true, true, false, false, false, false, false] rfl rfl (one_of HT_.out (by kernel_rfl)) (by decide) (fun K hK => ?_)
             refine goes_ Try.func54 (by kernel_rfl) rfl #[.slice A65 y377.length c65, .slice A1 l1.length c1, .agg #[.int .i64 (wrap64 ((Zb l0 0).f3)), .int .i64 a2_1, .slice A2_2 l2_2.length c2_2]] (by rfl) rfl rfl (by (try simp only [ZA, ZB, ZC]); first | done | rfl | (simp only [List.length_drop, List.length_take]; rfl)) ?_
             with_reducible refine (ih kj8 (by have := HJ4.out; have := HJ8.out; omega) _ _ y377 _ _ l1 (wrap64 ((Zb l0 0).f3)) a2_1 _ _ l2_2 t381 t382 _ ?side1 ?side2 ?side3 ?side4 ?side5 ?side6 A61.out).mono ?_
             (case side1 => repeat (first | exact (Kd.Zaw HR380.out HB.out) | (with_reducible refine Kd.Zam ?_ _) | (with_reducible refine Kd.Zao ?_ _) | (with_reducible refine Kd.Zan ?_)))
             (case side2 => exact HC380.out)
             (case side3 => repeat (first | exact (Kd.Zaw HR1.out HB.out) | (with_reducible refine Kd.Zam ?_ _) | (with_reducible refine Kd.Zao ?_ _) | (with_reducible refine Kd.Zan ?_)))
             (case side4 => exact HC1.out)
             (case side5 => repeat (first | exact (Kd.Zaw HR2_2.out HB.out) | (with_reducible refine Kd.Zam ?_ _) | (with_reducible refine Kd.Zao ?_ _) | (with_reducible refine Kd.Zan ?_)))
             (case side6 => exact HC2_2.out)
             rintro e w66 ⟨rfl, hb⟩
             refine ⟨_, rfl, ?_⟩
             replace BK346 := Za.mk (Zbd (g := gb346) (o := .cells #[.int .i64 (wrap64 ((Zb l0 0).f3)), .int .i64 a2_1, .slice A2_2 l2_2.length c2_2] 98 (0, 0)) (by (with_reducible repeat (first | refine Zj ?_ _ | refine Zh ?_ | refine Zi ?_ _)); exact BK346.out) hb)
             replace HB := Za.mk (Zai (by repeat (first | (with_reducible first | exact HB.out | apply Ze | apply Zf | apply Zd | refine Zk ?_ GE346.out) | exact HB.out)) hb)
             (try clear hb)
             (try clear hb2)
             (try clear hk)
             (try clear hi)
             refine hK.out _ _ ⟨(Zg BK346.out 0).trans rfl, (Zg BK346.out 1).trans rfl, (Zg BK346.out 2).trans rfl⟩ (fun hHeld => ?_)
             clear hK K
             refine norm_ (a' := ?_) ?_ ?_
             rotate_left
             ·show Act.put _ (some 149) _ = _
              simp only [Act.put, ZD, ZE, ZF, Zn, Zq]
              rfl
             refine Zx (i := 7) (N := some 142) (v := ?_) (a' := ?_) #[true, true, true, true, true, true, true, true, false, false, false, false] rfl rfl (Zy HT_.out (by kernel_rfl)) (fun _ _ _ h => h) (Or.inl ⟨by rfl, ?_⟩) ?_ ?_
             rotate_left
             ·intro w'
              go_simp
              with_reducible rfl
             rotate_left
             ·simp only [Act.put, ZD, ZE, ZF, Zn, Zq]
              rfl
             refine Zx (i := 8) (N := some 150) (v := ?_) (a' := ?_) #[true, true, true, true, true, true, true, true, true, false, false, false] rfl rfl (Zy HT_.out (by kernel_rfl)) (fun _ _ _ h => h) (Or.inl ⟨by rfl, ?_⟩) ?_ ?_
             rotate_left
             ·intro w'
              go_simp
              with_reducible rfl
             rotate_left
             ·simp only [Act.put, ZD, ZE, ZF, Zn, Zq]
              rfl
             refine Zx (i := 9) (N := some 151) (v := ?_) (a' := ?_) #[true, true, true, true, true, true, true, true, true, true, false, false] rfl rfl (Zy HT_.out (by kernel_rfl)) (fun _ _ _ h => h) (Or.inl ⟨by rfl, ?_⟩) ?_ ?_
             rotate_left
             ·intro w'
              go_simp
              with_reducible rfl
             rotate_left
             ·simp only [Act.put, ZD, ZE, ZF, Zn, Zq]
              rfl
             refine Zx (i := 10) (N := some 14) (v := ?_) (a' := ?_) #[true, true, true, true, true, true, true, true, true, true, true, false] rfl rfl (Zy HT_.out (by kernel_rfl)) (fun _ _ _ h => h) (Or.inl ⟨by rfl, ?_⟩) ?_ ?_
             rotate_left
             ·intro w'
              go_simp
              with_reducible rfl
             rotate_left
             ·simp only [Act.put, ZD, ZE, ZF, Zn, Zq]
              rfl
             refine Zx (i := 11) (N := some 15) (v := ?_) (a' := ?_) #[true, true, true, true, true, true, true, true, true, true, true, true] rfl rfl (Zy HT_.out (by kernel_rfl)) (fun _ _ _ h => h) (Or.inl ⟨by rfl, ?_⟩) ?_ ?_
             rotate_left
             ·intro w'
              go_simp
              with_reducible rfl
             rotate_left
             ·simp only [Act.put, ZD, ZE, ZF, Zn, Zq]
              rfl
             refine done_ (done_of HT_.out (by kernel_rfl)) ?_
             try go_wp2
             go_ret2
             exact ⟨by first | rfl | (simp [Zo, Zp] <;> rfl) | (simp only [← hji58]; first | rfl | (simp [Zo, Zp] <;> rfl)) | (simp [*, Zo, Zp] <;> rfl), by repeat (first | (with_reducible first | exact HB.out | apply Ze | apply Zf | apply Zd | refine Zk ?_ GE346.out) | exact HB.out)⟩
            ·rw [if_neg c60] at H
             exact absurd H (by simp)
           ·rw [if_neg c59] at H
            exact absurd H (by simp)
          ·rw [if_neg c57] at H
           have c57b0 : ((wrap64 ((Zb l0 0).f0)) == 0) = false := beq_eq_false_iff_ne.mpr c57
           have c57b1 : ((wrap64 ((Zb l0 0).f0)) != 0) = true := bne_iff_ne.mpr c57
           by_cases c67 : (wrap64 ((Zb l0 0).f0)) = 1
           ·rw [if_pos c67] at H
            have c67b0 : ((wrap64 ((Zb l0 0).f0)) == 1) = true := beq_iff_eq.mpr c67
            have c67b1 : ((wrap64 ((Zb l0 0).f0)) != 1) = false := bne_eq_false_iff_eq.mpr c67
            clear c67
            obtain ⟨ji68, hji68⟩ : ∃ j_ : Int, (wrap64 1) = j_ := ⟨_, rfl⟩
            replace H : (if 0 ≤ (ji68) then (if (ji68) ≤ (l0.length : Int) then ((Zz.f kj8 (l0.drop ((ji68) : Int).toNat) l1 a2_0 (wrap64 ((Zb l0 0).f3)) l2_2).bind fun bt387 => (some (bt387.1, wrap64 (bt387.2 + 1)))) else (none)) else (none)) = some (r1, r2) := by first | (rw [hji68] at H; exact H) | (rw [show ((1 : Int) + 0) = 1 from rfl, hji68] at H; exact H) | (simp only [hji68] at H ⊢; exact H)
            have hji68w : (IntKind.i64.wrap 1) = ji68 := (Zn _).trans hji68
            by_cases c69 : 0 ≤ (ji68)
            ·rw [if_pos c69] at H
             have c69b0 := eq_true c69
             have c69b1 : decide (0 ≤ (ji68)) = true := decide_eq_true c69
             clear c69
             by_cases c70 : (ji68) ≤ (l0.length : Int)
             ·rw [if_pos c70] at H
              have c70b0 := eq_true c70
              have c70b1 : decide ((ji68) ≤ (l0.length : Int)) = true := decide_eq_true c70
              clear c70
              obtain ⟨y383, hy383⟩ : ∃ y_ : List (S54), y_ = (l0.drop ((ji68) : Int).toNat) := ⟨_, rfl⟩
              replace H : ((Zz.f kj8 y383 l1 a2_0 (wrap64 ((Zb l0 0).f3)) l2_2).bind fun bt387 => (some (bt387.1, wrap64 (bt387.2 + 1)))) = some (r1, r2) := by first | (rw [hy383]; with_reducible exact H) | (have H2_ := (Option.bind_some _ _).symm.trans H; rw [hy383]; with_reducible exact H2_) | (have H2_ := (Option.bind_some _ _).symm.trans H; with_reducible exact H2_) | with_reducible exact H | (rw [hy383]; exact H) | exact H
              have Ny383 := Za.mk hy383
              clear hy383
              replace H := Option.bind_eq_some_iff.mp H
              obtain ⟨⟨t387, t388⟩, A710, H⟩ := H
              (try dsimp only at H)
              have A71 := Za.mk A710
              clear A710
              simp only [Option.some.injEq, Prod.mk.injEq] at H
              obtain ⟨rfl, rfl⟩ := H
              have hcz72_0 : wc.cell? ⟨gb346, 0, none⟩ = some (.int .i64 a2_0) := (Zg BK346.out 0).trans rfl
              have hcz72_1 : wc.cell? ⟨gb346, 1, none⟩ = some (.int .i64 a2_1) := (Zg BK346.out 1).trans rfl
              have hcz72_2 : wc.cell? ⟨gb346, 2, none⟩ = some (.slice A2_2 l2_2.length c2_2) := (Zg BK346.out 2).trans rfl
              have hfz72_0 := Zl BK346.out 0
              have hfz72_1 := Zl BK346.out 1
              have hfz72_2 := Zl BK346.out 2
              try go_wp2
              have n0_ : Za ((wc.setCell ⟨gb346, 1, none⟩ (.int .i64 (wrap64 ((Zb l0 0).f3)))).heap[gb346]? = some (.cells #[.int .i64 a2_0, .int .i64 (wrap64 ((Zb l0 0).f3)), .slice A2_2 l2_2.length c2_2] 98 (0, 0))) := ⟨by (with_reducible repeat (first | refine Zj ?_ _ | refine Zh ?_ | refine Zi ?_ _)); refine Zu (cs := #[.int .i64 a2_0, .int .i64 a2_1, .slice A2_2 l2_2.length c2_2]) ?_ 1 _ rfl; (with_reducible repeat (first | refine Zj ?_ _ | refine Zh ?_ | refine Zi ?_ _)); exact BK346.out⟩
              have n1_ : Za (Below w.heap.size w (wc.setCell ⟨gb346, 1, none⟩ (.int .i64 (wrap64 ((Zb l0 0).f3))))) := ⟨by repeat (first | (with_reducible first | exact HB.out | apply Ze | apply Zf | apply Zd | refine Zk ?_ GE346.out) | exact HB.out)⟩
              (try clear BK346)
              (try clear HB)
              generalize (wc.setCell ⟨gb346, 1, none⟩ (.int .i64 (wrap64 ((Zb l0 0).f3)))) = w73 at n0_ n1_ ⊢
              have BK346 := n0_
              have HB := n1_
              clear n0_ n1_
              replace BK346 := Za.mk (Zh BK346.out)
              replace HB := Za.mk (Zd HB.out)
              have q75 : ((ji68) : Int) ≤ ((l0.length : Int) : Int) := of_decide_eq_true (by assumption)
              obtain ⟨i075, hi075, _, hsz75, _⟩ := info_parts info54
              have hroom75 : l0.length ≤ c0 := HC0.out
              have hC75 : Kd.C k54 _ (some ad347) l0.length l0 := HR0.out
              have q075 : (0 : Int) ≤ ((ji68) : Int) := of_decide_eq_true (by assumption)
              have hcut75 := cut_from (P := Try.prog) 23 54 .i64 Try.underlying23 hi075 4 hsz75 (some ad347) l0.length c0 (ji68) q075 q75
              have hr75 := Kd.C_drop (m := ((ji68) : Int).toNat) (c := c0) hC75 (by omega) hroom75
              obtain ⟨A75, hA75⟩ : ∃ A1, A1 = (if c0 = ((ji68) : Int).toNat then (some ad347) else ((some ad347) : Option Addr).map (·.add (((ji68) : Int).toNat * 4))) := ⟨_, rfl⟩
              obtain ⟨c75, hc75⟩ : ∃ c1, c1 = c0 - ((ji68) : Int).toNat := ⟨_, rfl⟩
              have hy75 : y383.length = l0.length - ((ji68) : Int).toNat := (by rw [Ny383.out, List.length_drop] <;> omega)
              rw [show (l0).drop ((ji68) : Int).toNat = y383 from Ny383.out.symm] at hr75
              replace hr75 : Kd.C k54 _ A75 y383.length y383 := (by rw [hA75]; exact hr75)
              rw [← hy75, ← hA75, ← hc75] at hcut75
              have HR386 := Za.mk hr75
              have HC386 := Za.mk (show y383.length ≤ c75 from by rw [hy75, hc75]; exact Nat.sub_le_sub_right hroom75 _)
              clear hr75 hC75 hroom75 hi075 hsz75 hc75
              have KY75 := Za.mk hy75
              have KA75 := Za.mk hA75
              clear hy75 hA75
              replace q75 := eq_true q75
              refine start_ (n := 12) (S := fun w' => w'.cell? ⟨gb346, 0, none⟩ = some (.int .i64 a2_0) ∧ w'.cell? ⟨gb346, 1, none⟩ = some (.int .i64 (wrap64 ((Zb l0 0).f3))) ∧ w'.cell? ⟨gb346, 2, none⟩ = some (.slice A2_2 l2_2.length c2_2)) (ds := []) #[false, false, false, false, false, false, false, false, false, false, false, false] (by kernel_rfl) rfl rfl ⟨(Zg BK346.out 0).trans rfl, (Zg BK346.out 1).trans rfl, (Zg BK346.out 2).trans rfl⟩ (fun hHeld => ?_); refine with_tabW Zz.tab40 Zz.bits40 (fun HT_ HW_ => ?_)
              generalize w73.drew = w74 at BK346 HB HR386 hHeld ⊢
              refine Zx (i := 0) (N := some 143) (v := ?_) (a' := ?_) #[true, false, false, false, false, false, false, false, false, false, false, false] rfl rfl (Zy HT_.out (by kernel_rfl)) (fun _ _ _ h => h) (Or.inl ⟨by rfl, ?_⟩) ?_ ?_
              rotate_left
              ·intro w'
               go_simp
               with_reducible rfl
              rotate_left
              ·simp only [Act.put, ZD, ZE, ZF, Zn, Zq]
               rfl
              refine Zx (i := 1) (N := some 144) (v := ?_) (a' := ?_) #[true, true, false, false, false, false, false, false, false, false, false, false] rfl rfl (Zy HT_.out (by kernel_rfl)) (fun _ _ _ h => h) (Or.inl ⟨by rfl, ?_⟩) ?_ ?_
              rotate_left
              ·intro w'
               go_simp
               with_reducible rfl
              rotate_left
              ·simp only [Act.put, ZD, ZE, ZF, Zn, Zq]
               rfl
              refine Zx (i := 2) (N := some 145) (v := ?_) (a' := ?_) #[true, true, true, false, false, false, false, false, false, false, false, false] rfl rfl (Zy HT_.out (by kernel_rfl)) (fun _ _ _ h => h) (Or.inl ⟨by rfl, ?_⟩) ?_ ?_
              rotate_left
              ·intro w'
               go_simp
               with_reducible rfl
              rotate_left
              ·simp only [Act.put, ZD, ZE, ZF, Zn, Zq]
               rfl
              refine Zx (i := 3) (N := some 146) (v := ?_) (a' := ?_) #[true, true, true, true, false, false, false, false, false, false, false, false] rfl rfl (Zy HT_.out (by kernel_rfl)) (fun _ _ _ h => h) (Or.inl ⟨by rfl, ?_⟩) ?_ ?_
              rotate_left
              ·intro w'
               go_simp
               with_reducible rfl
              rotate_left
              ·simp only [Act.put, ZD, ZE, ZF, Zn, Zq]
               rfl
              refine Zx (i := 4) (N := some 147) (v := ?_) (a' := ?_) #[true, true, true, true, true, false, false, false, false, false, false, false] rfl rfl (Zy HT_.out (by kernel_rfl)) (fun _ _ _ h => h) (Or.inl ⟨by rfl, ?_⟩) ?_ ?_
              rotate_left
              ·intro w'
               go_simp
               with_reducible rfl
              rotate_left
              ·simp only [Act.put, ZD, ZE, ZF, Zn, Zq]
               rfl
              refine take_ (i := 5) (N := some 148) (v := ?_) (a' := ?_) #[true, true, true, true, true, true, false, false, false, false, false, false] rfl rfl (take_ofW HT_.out HW_.out (by kernel_rfl)) (fun _ _ _ h => h) (Or.inl ⟨by rfl, ?_⟩) hHeld ?_ ?_
              rotate_left
              ·rintro w' ⟨s0, s1, s2⟩
               go_simp
               with_reducible rfl
              rotate_left
              ·simp only [Act.put, ZD, ZE, ZF, Zn, Zq]
               rfl
              refine one_ (i := 6) (N := some 149) #[true, true, true, true, true, true, true, false, false, false, false, false] rfl rfl (one_of HT_.out (by kernel_rfl)) (by decide) (fun K hK => ?_)
              refine goes_ Try.func54 (by kernel_rfl) rfl #[.slice A75 y383.length c75, .slice A1 l1.length c1, .agg #[.int .i64 a2_0, .int .i64 (wrap64 ((Zb l0 0).f3)), .slice A2_2 l2_2.length c2_2]] (by rfl) rfl rfl (by (try simp only [ZA, ZB, ZC]); first | done | rfl | (simp only [List.length_drop, List.length_take]; rfl)) ?_
              with_reducible refine (ih kj8 (by have := HJ4.out; have := HJ8.out; omega) _ _ y383 _ _ l1 a2_0 (wrap64 ((Zb l0 0).f3)) _ _ l2_2 t387 t388 _ ?side1 ?side2 ?side3 ?side4 ?side5 ?side6 A71.out).mono ?_
              (case side1 => repeat (first | exact (Kd.Zaw HR386.out HB.out) | (with_reducible refine Kd.Zam ?_ _) | (with_reducible refine Kd.Zao ?_ _) | (with_reducible refine Kd.Zan ?_)))
              (case side2 => exact HC386.out)
              (case side3 => repeat (first | exact (Kd.Zaw HR1.out HB.out) | (with_reducible refine Kd.Zam ?_ _) | (with_reducible refine Kd.Zao ?_ _) | (with_reducible refine Kd.Zan ?_)))
              (case side4 => exact HC1.out)
              (case side5 => repeat (first | exact (Kd.Zaw HR2_2.out HB.out) | (with_reducible refine Kd.Zam ?_ _) | (with_reducible refine Kd.Zao ?_ _) | (with_reducible refine Kd.Zan ?_)))
              (case side6 => exact HC2_2.out)
              rintro e w76 ⟨rfl, hb⟩
              refine ⟨_, rfl, ?_⟩
              replace BK346 := Za.mk (Zbd (g := gb346) (o := .cells #[.int .i64 a2_0, .int .i64 (wrap64 ((Zb l0 0).f3)), .slice A2_2 l2_2.length c2_2] 98 (0, 0)) (by (with_reducible repeat (first | refine Zj ?_ _ | refine Zh ?_ | refine Zi ?_ _)); exact BK346.out) hb)
              replace HB := Za.mk (Zai (by repeat (first | (with_reducible first | exact HB.out | apply Ze | apply Zf | apply Zd | refine Zk ?_ GE346.out) | exact HB.out)) hb)
              (try clear hb)
              (try clear hb2)
              (try clear hk)
              (try clear hi)
              refine hK.out _ _ ⟨(Zg BK346.out 0).trans rfl, (Zg BK346.out 1).trans rfl, (Zg BK346.out 2).trans rfl⟩ (fun hHeld => ?_)
              clear hK K
              refine norm_ (a' := ?_) ?_ ?_
              rotate_left
              ·show Act.put _ (some 149) _ = _
               simp only [Act.put, ZD, ZE, ZF, Zn, Zq]
               rfl
              refine Zx (i := 7) (N := some 142) (v := ?_) (a' := ?_) #[true, true, true, true, true, true, true, true, false, false, false, false] rfl rfl (Zy HT_.out (by kernel_rfl)) (fun _ _ _ h => h) (Or.inl ⟨by rfl, ?_⟩) ?_ ?_
              rotate_left
              ·intro w'
               go_simp
               with_reducible rfl
              rotate_left
              ·simp only [Act.put, ZD, ZE, ZF, Zn, Zq]
               rfl
              refine Zx (i := 8) (N := some 150) (v := ?_) (a' := ?_) #[true, true, true, true, true, true, true, true, true, false, false, false] rfl rfl (Zy HT_.out (by kernel_rfl)) (fun _ _ _ h => h) (Or.inl ⟨by rfl, ?_⟩) ?_ ?_
              rotate_left
              ·intro w'
               go_simp
               with_reducible rfl
              rotate_left
              ·simp only [Act.put, ZD, ZE, ZF, Zn, Zq]
               rfl
              refine Zx (i := 9) (N := some 151) (v := ?_) (a' := ?_) #[true, true, true, true, true, true, true, true, true, true, false, false] rfl rfl (Zy HT_.out (by kernel_rfl)) (fun _ _ _ h => h) (Or.inl ⟨by rfl, ?_⟩) ?_ ?_
              rotate_left
              ·intro w'
               go_simp
               with_reducible rfl
              rotate_left
              ·simp only [Act.put, ZD, ZE, ZF, Zn, Zq]
               rfl
              refine Zx (i := 10) (N := some 14) (v := ?_) (a' := ?_) #[true, true, true, true, true, true, true, true, true, true, true, false] rfl rfl (Zy HT_.out (by kernel_rfl)) (fun _ _ _ h => h) (Or.inl ⟨by rfl, ?_⟩) ?_ ?_
              rotate_left
              ·intro w'
               go_simp
               with_reducible rfl
              rotate_left
              ·simp only [Act.put, ZD, ZE, ZF, Zn, Zq]
               rfl
              refine Zx (i := 11) (N := some 15) (v := ?_) (a' := ?_) #[true, true, true, true, true, true, true, true, true, true, true, true] rfl rfl (Zy HT_.out (by kernel_rfl)) (fun _ _ _ h => h) (Or.inl ⟨by rfl, ?_⟩) ?_ ?_
              rotate_left
              ·intro w'
               go_simp
               with_reducible rfl
              rotate_left
              ·simp only [Act.put, ZD, ZE, ZF, Zn, Zq]
               rfl
              refine done_ (done_of HT_.out (by kernel_rfl)) ?_
              try go_wp2
              go_ret2
              exact ⟨by first | rfl | (simp [Zo, Zp] <;> rfl) | (simp only [← hji68]; first | rfl | (simp [Zo, Zp] <;> rfl)) | (simp [*, Zo, Zp] <;> rfl), by repeat (first | (with_reducible first | exact HB.out | apply Ze | apply Zf | apply Zd | refine Zk ?_ GE346.out) | exact HB.out)⟩
             ·rw [if_neg c70] at H
              exact absurd H (by simp)
            ·rw [if_neg c69] at H
             exact absurd H (by simp)
           ·rw [if_neg c67] at H
            have c67b0 : ((wrap64 ((Zb l0 0).f0)) == 1) = false := beq_eq_false_iff_ne.mpr c67
            have c67b1 : ((wrap64 ((Zb l0 0).f0)) != 1) = true := bne_iff_ne.mpr c67
            by_cases c77 : (wrap64 ((Zb l0 0).f0)) = 32
            ·rw [if_pos c77] at H
             have c77b0 : ((wrap64 ((Zb l0 0).f0)) == 32) = true := beq_iff_eq.mpr c77
             have c77b1 : ((wrap64 ((Zb l0 0).f0)) != 32) = false := bne_eq_false_iff_eq.mpr c77
             clear c77
             replace H := Option.bind_eq_some_iff.mp H
             obtain ⟨t389, A780, H⟩ := H
             (try dsimp only at H)
             have A78 := Za.mk A780
             clear A780
             obtain ⟨ji79, hji79⟩ : ∃ j_ : Int, (wrap64 1) = j_ := ⟨_, rfl⟩
             replace H : (if 0 ≤ (ji79) then (if (ji79) ≤ (l0.length : Int) then ((Zz.f kj8 (l0.drop ((ji79) : Int).toNat) l1 t389 a2_1 l2_2).bind fun bt394 => (some (bt394.1, wrap64 (bt394.2 + 1)))) else (none)) else (none)) = some (r1, r2) := by first | (rw [hji79] at H; exact H) | (rw [show ((1 : Int) + 0) = 1 from rfl, hji79] at H; exact H) | (simp only [hji79] at H ⊢; exact H)
             (try rw [hji79] at A78)
             have hji79w : (IntKind.i64.wrap 1) = ji79 := (Zn _).trans hji79
             by_cases c80 : 0 ≤ (ji79)
             ·rw [if_pos c80] at H
              have c80b0 := eq_true c80
              have c80b1 : decide (0 ≤ (ji79)) = true := decide_eq_true c80
              clear c80
              by_cases c81 : (ji79) ≤ (l0.length : Int)
              ·rw [if_pos c81] at H
               have c81b0 := eq_true c81
               have c81b1 : decide ((ji79) ≤ (l0.length : Int)) = true := decide_eq_true c81
               clear c81
               obtain ⟨y390, hy390⟩ : ∃ y_ : List (S54), y_ = (l0.drop ((ji79) : Int).toNat) := ⟨_, rfl⟩
               replace H : ((Zz.f kj8 y390 l1 t389 a2_1 l2_2).bind fun bt394 => (some (bt394.1, wrap64 (bt394.2 + 1)))) = some (r1, r2) := by first | (rw [hy390]; with_reducible exact H) | (have H2_ := (Option.bind_some _ _).symm.trans H; rw [hy390]; with_reducible exact H2_) | (have H2_ := (Option.bind_some _ _).symm.trans H; with_reducible exact H2_) | with_reducible exact H | (rw [hy390]; exact H) | exact H
               have Ny390 := Za.mk hy390
               clear hy390
               replace H := Option.bind_eq_some_iff.mp H
               obtain ⟨⟨t394, t395⟩, A820, H⟩ := H
               (try dsimp only at H)
               have A82 := Za.mk A820
               clear A820
               simp only [Option.some.injEq, Prod.mk.injEq] at H
               obtain ⟨rfl, rfl⟩ := H
               try go_wp2_with (first | ((with_reducible refine Zaf (f := 67) rfl ?_); refine Zae (some 98) rfl rfl Try.func67 (by kernel_rfl) rfl #[.slice A1 l1.length c1, .int .i64 (wrap64 ((Zb l0 0).f3))] rfl (by (try simp only [ZA, ZB, ZC]); first | done | rfl | (simp only [List.length_drop, List.length_take]; rfl)) ?_; (with_reducible refine (spec_l1word.calls _ _ l1 (wrap64 ((Zb l0 0).f3)) t389 _ ?side1 ?side2 A78.out).mono ?_); (case side1 => repeat (first | exact (Kd.Zaw HR1.out HB.out) | (with_reducible refine Kd.Zam ?_ _) | (with_reducible refine Kd.Zao ?_ _) | (with_reducible refine Kd.Zan ?_))); (case side2 => exact HC1.out); rintro e w' ⟨rfl, ⟨nd, rfl⟩⟩; refine ⟨_, rfl, ?_⟩; (try (rw [drewN_self wc]; generalize hq_ : World.drewN wc _ = wc; have n0_ : Za (wc.heap[gb346]? = some (.cells #[.int .i64 a2_0, .int .i64 a2_1, .slice A2_2 l2_2.length c2_2] 98 (0, 0))) := ⟨by rw [← hq_]; exact (by (with_reducible repeat (first | refine Zj ?_ _ | refine Zh ?_ | refine Zi ?_ _)); exact BK346.out)⟩; have n1_ : Za (Below w.heap.size w wc) := ⟨by rw [← hq_]; exact (by repeat (first | (with_reducible first | exact HB.out | apply Ze | apply Zf | apply Zd | refine Zk ?_ GE346.out) | exact HB.out))⟩; clear BK346 HB hq_; have BK346 := n0_; have HB := n1_; clear n0_ n1_)); have hcz83_0 : wc.cell? ⟨gb346, 0, none⟩ = some (.int .i64 a2_0) := (Zg BK346.out 0).trans rfl; have hcz83_1 : wc.cell? ⟨gb346, 1, none⟩ = some (.int .i64 a2_1) := (Zg BK346.out 1).trans rfl; have hcz83_2 : wc.cell? ⟨gb346, 2, none⟩ = some (.slice A2_2 l2_2.length c2_2) := (Zg BK346.out 2).trans rfl; have hfz83_0 := Zl BK346.out 0; have hfz83_1 := Zl BK346.out 1; have hfz83_2 := Zl BK346.out 2))
               have n0_ : Za ((wc.setCell ⟨gb346, 0, none⟩ (.int .i64 t389)).heap[gb346]? = some (.cells #[.int .i64 t389, .int .i64 a2_1, .slice A2_2 l2_2.length c2_2] 98 (0, 0))) := ⟨by (with_reducible repeat (first | refine Zj ?_ _ | refine Zh ?_ | refine Zi ?_ _)); refine Zu (cs := #[.int .i64 a2_0, .int .i64 a2_1, .slice A2_2 l2_2.length c2_2]) ?_ 0 _ rfl; (with_reducible repeat (first | refine Zj ?_ _ | refine Zh ?_ | refine Zi ?_ _)); exact BK346.out⟩
               have n1_ : Za (Below w.heap.size w (wc.setCell ⟨gb346, 0, none⟩ (.int .i64 t389))) := ⟨by repeat (first | (with_reducible first | exact HB.out | apply Ze | apply Zf | apply Zd | refine Zk ?_ GE346.out) | exact HB.out)⟩
               (try clear BK346)
               (try clear HB)
               generalize (wc.setCell ⟨gb346, 0, none⟩ (.int .i64 t389)) = w84 at n0_ n1_ ⊢
               have BK346 := n0_
               have HB := n1_
               clear n0_ n1_
               replace BK346 := Za.mk (Zh BK346.out)
               replace HB := Za.mk (Zd HB.out)
               have q86 : ((ji79) : Int) ≤ ((l0.length : Int) : Int) := of_decide_eq_true (by assumption)
               obtain ⟨i086, hi086, _, hsz86, _⟩ := info_parts info54
               have hroom86 : l0.length ≤ c0 := HC0.out
               have hC86 : Kd.C k54 _ (some ad347) l0.length l0 := HR0.out
               have q086 : (0 : Int) ≤ ((ji79) : Int) := of_decide_eq_true (by assumption)
               have hcut86 := cut_from (P := Try.prog) 23 54 .i64 Try.underlying23 hi086 4 hsz86 (some ad347) l0.length c0 (ji79) q086 q86
               have hr86 := Kd.C_drop (m := ((ji79) : Int).toNat) (c := c0) hC86 (by omega) hroom86
               obtain ⟨A86, hA86⟩ : ∃ A1, A1 = (if c0 = ((ji79) : Int).toNat then (some ad347) else ((some ad347) : Option Addr).map (·.add (((ji79) : Int).toNat * 4))) := ⟨_, rfl⟩
               obtain ⟨c86, hc86⟩ : ∃ c1, c1 = c0 - ((ji79) : Int).toNat := ⟨_, rfl⟩
               have hy86 : y390.length = l0.length - ((ji79) : Int).toNat := (by rw [Ny390.out, List.length_drop] <;> omega)
               rw [show (l0).drop ((ji79) : Int).toNat = y390 from Ny390.out.symm] at hr86
               replace hr86 : Kd.C k54 _ A86 y390.length y390 := (by rw [hA86]; exact hr86)
               rw [← hy86, ← hA86, ← hc86] at hcut86
               have HR393 := Za.mk hr86
               have HC393 := Za.mk (show y390.length ≤ c86 from by rw [hy86, hc86]; exact Nat.sub_le_sub_right hroom86 _)
               clear hr86 hC86 hroom86 hi086 hsz86 hc86
               have KY86 := Za.mk hy86
               have KA86 := Za.mk hA86
               clear hy86 hA86
               replace q86 := eq_true q86
               refine start_ (n := 12) (S := fun w' => w'.cell? ⟨gb346, 0, none⟩ = some (.int .i64 t389) ∧ w'.cell? ⟨gb346, 1, none⟩ = some (.int .i64 a2_1) ∧ w'.cell? ⟨gb346, 2, none⟩ = some (.slice A2_2 l2_2.length c2_2)) (ds := []) #[false, false, false, false, false, false, false, false, false, false, false, false] (by kernel_rfl) rfl rfl ⟨(Zg BK346.out 0).trans rfl, (Zg BK346.out 1).trans rfl, (Zg BK346.out 2).trans rfl⟩ (fun hHeld => ?_); refine with_tabW Zz.tab40 Zz.bits40 (fun HT_ HW_ => ?_)
               generalize w84.drew = w85 at BK346 HB HR393 hHeld ⊢
               refine Zx (i := 0) (N := some 143) (v := ?_) (a' := ?_) #[true, false, false, false, false, false, false, false, false, false, false, false] rfl rfl (Zy HT_.out (by kernel_rfl)) (fun _ _ _ h => h) (Or.inl ⟨by rfl, ?_⟩) ?_ ?_
               rotate_left
               ·intro w'
                go_simp
                with_reducible rfl
               rotate_left
               ·simp only [Act.put, ZD, ZE, ZF, Zn, Zq]
                rfl
               refine Zx (i := 1) (N := some 144) (v := ?_) (a' := ?_) #[true, true, false, false, false, false, false, false, false, false, false, false] rfl rfl (Zy HT_.out (by kernel_rfl)) (fun _ _ _ h => h) (Or.inl ⟨by rfl, ?_⟩) ?_ ?_
               rotate_left
               ·intro w'
                go_simp
                with_reducible rfl
               rotate_left
               ·simp only [Act.put, ZD, ZE, ZF, Zn, Zq]
                rfl
               refine Zx (i := 2) (N := some 145) (v := ?_) (a' := ?_) #[true, true, true, false, false, false, false, false, false, false, false, false] rfl rfl (Zy HT_.out (by kernel_rfl)) (fun _ _ _ h => h) (Or.inl ⟨by rfl, ?_⟩) ?_ ?_
               rotate_left
               ·intro w'
                go_simp
                with_reducible rfl
               rotate_left
               ·simp only [Act.put, ZD, ZE, ZF, Zn, Zq]
                rfl
               refine Zx (i := 3) (N := some 146) (v := ?_) (a' := ?_) #[true, true, true, true, false, false, false, false, false, false, false, false] rfl rfl (Zy HT_.out (by kernel_rfl)) (fun _ _ _ h => h) (Or.inl ⟨by rfl, ?_⟩) ?_ ?_
               rotate_left
               ·intro w'
                go_simp
                with_reducible rfl
               rotate_left
               ·simp only [Act.put, ZD, ZE, ZF, Zn, Zq]
                rfl
               refine Zx (i := 4) (N := some 147) (v := ?_) (a' := ?_) #[true, true, true, true, true, false, false, false, false, false, false, false] rfl rfl (Zy HT_.out (by kernel_rfl)) (fun _ _ _ h => h) (Or.inl ⟨by rfl, ?_⟩) ?_ ?_
               rotate_left
               ·intro w'
                go_simp
                with_reducible rfl
               rotate_left
               ·simp only [Act.put, ZD, ZE, ZF, Zn, Zq]
                rfl
               refine take_ (i := 5) (N := some 148) (v := ?_) (a' := ?_) #[true, true, true, true, true, true, false, false, false, false, false, false] rfl rfl (take_ofW HT_.out HW_.out (by kernel_rfl)) (fun _ _ _ h => h) (Or.inl ⟨by rfl, ?_⟩) hHeld ?_ ?_
               rotate_left
               ·rintro w' ⟨s0, s1, s2⟩
                go_simp
                with_reducible rfl
               rotate_left
               ·simp only [Act.put, ZD, ZE, ZF, Zn, Zq]
                rfl
               refine one_ (i := 6) (N := some 149) #[true, true, true, true, true, true, true, false, false, false, false, false] rfl rfl (one_of HT_.out (by kernel_rfl)) (by decide) (fun K hK => ?_)
               refine goes_ Try.func54 (by kernel_rfl) rfl #[.slice A86 y390.length c86, .slice A1 l1.length c1, .agg #[.int .i64 t389, .int .i64 a2_1, .slice A2_2 l2_2.length c2_2]] (by rfl) rfl rfl (by (try simp only [ZA, ZB, ZC]); first | done | rfl | (simp only [List.length_drop, List.length_take]; rfl)) ?_
               with_reducible refine (ih kj8 (by have := HJ4.out; have := HJ8.out; omega) _ _ y390 _ _ l1 t389 a2_1 _ _ l2_2 t394 t395 _ ?side1 ?side2 ?side3 ?side4 ?side5 ?side6 A82.out).mono ?_
               (case side1 => repeat (first | exact (Kd.Zaw HR393.out HB.out) | (with_reducible refine Kd.Zam ?_ _) | (with_reducible refine Kd.Zao ?_ _) | (with_reducible refine Kd.Zan ?_)))
               (case side2 => exact HC393.out)
               (case side3 => repeat (first | exact (Kd.Zaw HR1.out HB.out) | (with_reducible refine Kd.Zam ?_ _) | (with_reducible refine Kd.Zao ?_ _) | (with_reducible refine Kd.Zan ?_)))
               (case side4 => exact HC1.out)
               (case side5 => repeat (first | exact (Kd.Zaw HR2_2.out HB.out) | (with_reducible refine Kd.Zam ?_ _) | (with_reducible refine Kd.Zao ?_ _) | (with_reducible refine Kd.Zan ?_)))
               (case side6 => exact HC2_2.out)
               rintro e w87 ⟨rfl, hb⟩
               refine ⟨_, rfl, ?_⟩
               replace BK346 := Za.mk (Zbd (g := gb346) (o := .cells #[.int .i64 t389, .int .i64 a2_1, .slice A2_2 l2_2.length c2_2] 98 (0, 0)) (by (with_reducible repeat (first | refine Zj ?_ _ | refine Zh ?_ | refine Zi ?_ _)); exact BK346.out) hb)
               replace HB := Za.mk (Zai (by repeat (first | (with_reducible first | exact HB.out | apply Ze | apply Zf | apply Zd | refine Zk ?_ GE346.out) | exact HB.out)) hb)
               (try clear hb)
               (try clear hb2)
               (try clear hk)
               (try clear hi)
               refine hK.out _ _ ⟨(Zg BK346.out 0).trans rfl, (Zg BK346.out 1).trans rfl, (Zg BK346.out 2).trans rfl⟩ (fun hHeld => ?_)
               clear hK K
               refine norm_ (a' := ?_) ?_ ?_
               rotate_left
               ·show Act.put _ (some 149) _ = _
                simp only [Act.put, ZD, ZE, ZF, Zn, Zq]
                rfl
               refine Zx (i := 7) (N := some 142) (v := ?_) (a' := ?_) #[true, true, true, true, true, true, true, true, false, false, false, false] rfl rfl (Zy HT_.out (by kernel_rfl)) (fun _ _ _ h => h) (Or.inl ⟨by rfl, ?_⟩) ?_ ?_
               rotate_left
               ·intro w'
                go_simp
                with_reducible rfl
               rotate_left
               ·simp only [Act.put, ZD, ZE, ZF, Zn, Zq]
                rfl
               refine Zx (i := 8) (N := some 150) (v := ?_) (a' := ?_) #[true, true, true, true, true, true, true, true, true, false, false, false] rfl rfl (Zy HT_.out (by kernel_rfl)) (fun _ _ _ h => h) (Or.inl ⟨by rfl, ?_⟩) ?_ ?_
               rotate_left
               ·intro w'
                go_simp
                with_reducible rfl
               rotate_left
               ·simp only [Act.put, ZD, ZE, ZF, Zn, Zq]
                rfl
               refine Zx (i := 9) (N := some 151) (v := ?_) (a' := ?_) #[true, true, true, true, true, true, true, true, true, true, false, false] rfl rfl (Zy HT_.out (by kernel_rfl)) (fun _ _ _ h => h) (Or.inl ⟨by rfl, ?_⟩) ?_ ?_
               rotate_left
               ·intro w'
                go_simp
                with_reducible rfl
               rotate_left
               ·simp only [Act.put, ZD, ZE, ZF, Zn, Zq]
                rfl
               refine Zx (i := 10) (N := some 14) (v := ?_) (a' := ?_) #[true, true, true, true, true, true, true, true, true, true, true, false] rfl rfl (Zy HT_.out (by kernel_rfl)) (fun _ _ _ h => h) (Or.inl ⟨by rfl, ?_⟩) ?_ ?_
               rotate_left
               ·intro w'
                go_simp
                with_reducible rfl
               rotate_left
               ·simp only [Act.put, ZD, ZE, ZF, Zn, Zq]
                rfl
               refine Zx (i := 11) (N := some 15) (v := ?_) (a' := ?_) #[true, true, true, true, true, true, true, true, true, true, true, true] rfl rfl (Zy HT_.out (by kernel_rfl)) (fun _ _ _ h => h) (Or.inl ⟨by rfl, ?_⟩) ?_ ?_
               rotate_left
               ·intro w'
                go_simp
                with_reducible rfl
               rotate_left
               ·simp only [Act.put, ZD, ZE, ZF, Zn, Zq]
                rfl
               refine done_ (done_of HT_.out (by kernel_rfl)) ?_
               try go_wp2
               go_ret2
               exact ⟨by first | rfl | (simp [Zo, Zp] <;> rfl) | (simp only [← hji79]; first | rfl | (simp [Zo, Zp] <;> rfl)) | (simp [*, Zo, Zp] <;> rfl), by repeat (first | (with_reducible first | exact HB.out | apply Ze | apply Zf | apply Zd | refine Zk ?_ GE346.out) | exact HB.out)⟩
              ·rw [if_neg c81] at H
               exact absurd H (by simp)
             ·rw [if_neg c80] at H
              exact absurd H (by simp)
            ·rw [if_neg c77] at H
             have c77b0 : ((wrap64 ((Zb l0 0).f0)) == 32) = false := beq_eq_false_iff_ne.mpr c77
             have c77b1 : ((wrap64 ((Zb l0 0).f0)) != 32) = true := bne_iff_ne.mpr c77
             by_cases c88 : (wrap64 ((Zb l0 0).f0)) = 96
             ·rw [if_pos c88] at H
              have c88b0 : ((wrap64 ((Zb l0 0).f0)) == 96) = true := beq_iff_eq.mpr c88
              have c88b1 : ((wrap64 ((Zb l0 0).f0)) != 96) = false := bne_eq_false_iff_eq.mpr c88
              clear c88
              obtain ⟨ji89, hji89⟩ : ∃ j_ : Int, (wrap64 ((Zb l0 0).f3)) = j_ := ⟨_, rfl⟩
              replace H : (if 0 ≤ (ji89) then (if (ji89) < (l2_2.length : Int) then (if 0 ≤ (wrap64 1) then (if (wrap64 1) ≤ (l0.length : Int) then ((Zz.f kj8 (l0.drop ((wrap64 1) : Int).toNat) l1 (rd l2_2 (ji89)) a2_1 l2_2).bind fun bt401 => (some (bt401.1, wrap64 (bt401.2 + 1)))) else (none)) else (none)) else (none)) else (none)) = some (r1, r2) := by first | (rw [hji89] at H; exact H) | (rw [show ((1 : Int) + 0) = 1 from rfl, hji89] at H; exact H) | (simp only [hji89] at H ⊢; exact H)
              have hji89w : (IntKind.i64.wrap ((Zb l0 0).f3)) = ji89 := (Zn _).trans hji89
              by_cases c90 : 0 ≤ (ji89)
              ·rw [if_pos c90] at H
               have c90b0 : decide (0 ≤ (ji89)) = true := decide_eq_true c90
               clear c90
               by_cases c91 : (ji89) < (l2_2.length : Int)
               ·rw [if_pos c91] at H
                have c91b0 : decide ((ji89) < (l2_2.length : Int)) = true := decide_eq_true c91
                clear c91
                obtain ⟨ji92, hji92⟩ : ∃ j_ : Int, (wrap64 1) = j_ := ⟨_, rfl⟩
                replace H : (if 0 ≤ (ji92) then (if (ji92) ≤ (l0.length : Int) then ((Zz.f kj8 (l0.drop ((ji92) : Int).toNat) l1 (rd l2_2 (ji89)) a2_1 l2_2).bind fun bt401 => (some (bt401.1, wrap64 (bt401.2 + 1)))) else (none)) else (none)) = some (r1, r2) := by first | (rw [hji92] at H; exact H) | (rw [show ((1 : Int) + 0) = 1 from rfl, hji92] at H; exact H) | (simp only [hji92] at H ⊢; exact H)
                have hji92w : (IntKind.i64.wrap 1) = ji92 := (Zn _).trans hji92
                by_cases c93 : 0 ≤ (ji92)
                ·rw [if_pos c93] at H
                 have c93b0 := eq_true c93
                 have c93b1 : decide (0 ≤ (ji92)) = true := decide_eq_true c93
                 clear c93
                 by_cases c94 : (ji92) ≤ (l0.length : Int)
                 ·rw [if_pos c94] at H
                  have c94b0 := eq_true c94
                  have c94b1 : decide ((ji92) ≤ (l0.length : Int)) = true := decide_eq_true c94
                  clear c94
                  obtain ⟨y397, hy397⟩ : ∃ y_ : List (S54), y_ = (l0.drop ((ji92) : Int).toNat) := ⟨_, rfl⟩
                  replace H : ((Zz.f kj8 y397 l1 (rd l2_2 (ji89)) a2_1 l2_2).bind fun bt401 => (some (bt401.1, wrap64 (bt401.2 + 1)))) = some (r1, r2) := by first | (rw [hy397]; with_reducible exact H) | (have H2_ := (Option.bind_some _ _).symm.trans H; rw [hy397]; with_reducible exact H2_) | (have H2_ := (Option.bind_some _ _).symm.trans H; with_reducible exact H2_) | with_reducible exact H | (rw [hy397]; exact H) | exact H
                  have Ny397 := Za.mk hy397
                  clear hy397
                  replace H := Option.bind_eq_some_iff.mp H
                  obtain ⟨⟨t401, t402⟩, A950, H⟩ := H
                  (try dsimp only at H)
                  have A95 := Za.mk A950
                  clear A950
                  simp only [Option.some.injEq, Prod.mk.injEq] at H
                  obtain ⟨rfl, rfl⟩ := H
                  have hcz96_0 : wc.cell? ⟨gb346, 0, none⟩ = some (.int .i64 a2_0) := (Zg BK346.out 0).trans rfl
                  have hcz96_1 : wc.cell? ⟨gb346, 1, none⟩ = some (.int .i64 a2_1) := (Zg BK346.out 1).trans rfl
                  have hcz96_2 : wc.cell? ⟨gb346, 2, none⟩ = some (.slice A2_2 l2_2.length c2_2) := (Zg BK346.out 2).trans rfl
                  have hfz96_0 := Zl BK346.out 0
                  have hfz96_1 := Zl BK346.out 1
                  have hfz96_2 := Zl BK346.out 2
                  have p396 : 0 ≤ ((ji89) : Int) := of_decide_eq_true (by assumption)
                  have q396 : (ji89) < (l2_2.length : Int) := of_decide_eq_true (by assumption)
                  obtain ⟨ad396, e396, hx396_0⟩ := Kd.at_int HR2_2.out (ji89) p396 q396
                  cases e396
                  replace hx396_0 := (HB.out.cell (World.block_lt_of_cell? w _ hx396_0)).trans hx396_0
                  replace p396 := eq_true p396
                  replace q396 := eq_true q396
                  try go_wp2
                  have n0_ : Za ((wc.setCell ⟨gb346, 0, none⟩ (.int .i64 (rd l2_2 (ji89)))).heap[gb346]? = some (.cells #[.int .i64 (rd l2_2 (ji89)), .int .i64 a2_1, .slice (some ad396) l2_2.length c2_2] 98 (0, 0))) := ⟨by (with_reducible repeat (first | refine Zj ?_ _ | refine Zh ?_ | refine Zi ?_ _)); refine Zu (cs := #[.int .i64 a2_0, .int .i64 a2_1, .slice (some ad396) l2_2.length c2_2]) ?_ 0 _ rfl; (with_reducible repeat (first | refine Zj ?_ _ | refine Zh ?_ | refine Zi ?_ _)); exact BK346.out⟩
                  have n1_ : Za (Below w.heap.size w (wc.setCell ⟨gb346, 0, none⟩ (.int .i64 (rd l2_2 (ji89))))) := ⟨by repeat (first | (with_reducible first | exact HB.out | apply Ze | apply Zf | apply Zd | refine Zk ?_ GE346.out) | exact HB.out)⟩
                  (try clear BK346)
                  (try clear HB)
                  generalize (wc.setCell ⟨gb346, 0, none⟩ (.int .i64 (rd l2_2 (ji89)))) = w97 at n0_ n1_ ⊢
                  have BK346 := n0_
                  have HB := n1_
                  clear n0_ n1_
                  replace BK346 := Za.mk (Zh BK346.out)
                  replace HB := Za.mk (Zd HB.out)
                  have q99 : ((ji92) : Int) ≤ ((l0.length : Int) : Int) := of_decide_eq_true (by assumption)
                  obtain ⟨i099, hi099, _, hsz99, _⟩ := info_parts info54
                  have hroom99 : l0.length ≤ c0 := HC0.out
                  have hC99 : Kd.C k54 _ (some ad347) l0.length l0 := HR0.out
                  have q099 : (0 : Int) ≤ ((ji92) : Int) := of_decide_eq_true (by assumption)
                  have hcut99 := cut_from (P := Try.prog) 23 54 .i64 Try.underlying23 hi099 4 hsz99 (some ad347) l0.length c0 (ji92) q099 q99
                  have hr99 := Kd.C_drop (m := ((ji92) : Int).toNat) (c := c0) hC99 (by omega) hroom99
                  obtain ⟨A99, hA99⟩ : ∃ A1, A1 = (if c0 = ((ji92) : Int).toNat then (some ad347) else ((some ad347) : Option Addr).map (·.add (((ji92) : Int).toNat * 4))) := ⟨_, rfl⟩
                  obtain ⟨c99, hc99⟩ : ∃ c1, c1 = c0 - ((ji92) : Int).toNat := ⟨_, rfl⟩
                  have hy99 : y397.length = l0.length - ((ji92) : Int).toNat := (by rw [Ny397.out, List.length_drop] <;> omega)
                  rw [show (l0).drop ((ji92) : Int).toNat = y397 from Ny397.out.symm] at hr99
                  replace hr99 : Kd.C k54 _ A99 y397.length y397 := (by rw [hA99]; exact hr99)
                  rw [← hy99, ← hA99, ← hc99] at hcut99
                  have HR400 := Za.mk hr99
                  have HC400 := Za.mk (show y397.length ≤ c99 from by rw [hy99, hc99]; exact Nat.sub_le_sub_right hroom99 _)
                  clear hr99 hC99 hroom99 hi099 hsz99 hc99
                  have KY99 := Za.mk hy99
                  have KA99 := Za.mk hA99
                  clear hy99 hA99
                  replace q99 := eq_true q99
                  refine start_ (n := 12) (S := fun w' => w'.cell? ⟨gb346, 0, none⟩ = some (.int .i64 (rd l2_2 (ji89))) ∧ w'.cell? ⟨gb346, 1, none⟩ = some (.int .i64 a2_1) ∧ w'.cell? ⟨gb346, 2, none⟩ = some (.slice (some ad396) l2_2.length c2_2)) (ds := []) #[false, false, false, false, false, false, false, false, false, false, false, false] (by kernel_rfl) rfl rfl ⟨(Zg BK346.out 0).trans rfl, (Zg BK346.out 1).trans rfl, (Zg BK346.out 2).trans rfl⟩ (fun hHeld => ?_); refine with_tabW Zz.tab40 Zz.bits40 (fun HT_ HW_ => ?_)
                  generalize w97.drew = w98 at BK346 HB HR400 hHeld ⊢
                  refine Zx (i := 0) (N := some 143) (v := ?_) (a' := ?_) #[true, false, false, false, false, false, false, false, false, false, false, false] rfl rfl (Zy HT_.out (by kernel_rfl)) (fun _ _ _ h => h) (Or.inl ⟨by rfl, ?_⟩) ?_ ?_
                  rotate_left
                  ·intro w'
                   go_simp
                   with_reducible rfl
                  rotate_left
                  ·simp only [Act.put, ZD, ZE, ZF, Zn, Zq]
                   rfl
                  refine Zx (i := 1) (N := some 144) (v := ?_) (a' := ?_) #[true, true, false, false, false, false, false, false, false, false, false, false] rfl rfl (Zy HT_.out (by kernel_rfl)) (fun _ _ _ h => h) (Or.inl ⟨by rfl, ?_⟩) ?_ ?_
                  rotate_left
                  ·intro w'
                   go_simp
                   with_reducible rfl
                  rotate_left
                  ·simp only [Act.put, ZD, ZE, ZF, Zn, Zq]
                   rfl
                  refine Zx (i := 2) (N := some 145) (v := ?_) (a' := ?_) #[true, true, true, false, false, false, false, false, false, false, false, false] rfl rfl (Zy HT_.out (by kernel_rfl)) (fun _ _ _ h => h) (Or.inl ⟨by rfl, ?_⟩) ?_ ?_
                  rotate_left
                  ·intro w'
                   go_simp
                   with_reducible rfl
                  rotate_left
                  ·simp only [Act.put, ZD, ZE, ZF, Zn, Zq]
                   rfl
                  refine Zx (i := 3) (N := some 146) (v := ?_) (a' := ?_) #[true, true, true, true, false, false, false, false, false, false, false, false] rfl rfl (Zy HT_.out (by kernel_rfl)) (fun _ _ _ h => h) (Or.inl ⟨by rfl, ?_⟩) ?_ ?_
                  rotate_left
                  ·intro w'
                   go_simp
                   with_reducible rfl
                  rotate_left
                  ·simp only [Act.put, ZD, ZE, ZF, Zn, Zq]
                   rfl
                  refine Zx (i := 4) (N := some 147) (v := ?_) (a' := ?_) #[true, true, true, true, true, false, false, false, false, false, false, false] rfl rfl (Zy HT_.out (by kernel_rfl)) (fun _ _ _ h => h) (Or.inl ⟨by rfl, ?_⟩) ?_ ?_
                  rotate_left
                  ·intro w'
                   go_simp
                   with_reducible rfl
                  rotate_left
                  ·simp only [Act.put, ZD, ZE, ZF, Zn, Zq]
                   rfl
                  refine take_ (i := 5) (N := some 148) (v := ?_) (a' := ?_) #[true, true, true, true, true, true, false, false, false, false, false, false] rfl rfl (take_ofW HT_.out HW_.out (by kernel_rfl)) (fun _ _ _ h => h) (Or.inl ⟨by rfl, ?_⟩) hHeld ?_ ?_
                  rotate_left
                  ·rintro w' ⟨s0, s1, s2⟩
                   go_simp
                   with_reducible rfl
                  rotate_left
                  ·simp only [Act.put, ZD, ZE, ZF, Zn, Zq]
                   rfl
                  refine one_ (i := 6) (N := some 149) #[true, true, true, true, true, true, true, false, false, false, false, false] rfl rfl (one_of HT_.out (by kernel_rfl)) (by decide) (fun K hK => ?_)
                  refine goes_ Try.func54 (by kernel_rfl) rfl #[.slice A99 y397.length c99, .slice A1 l1.length c1, .agg #[.int .i64 (rd l2_2 (ji89)), .int .i64 a2_1, .slice (some ad396) l2_2.length c2_2]] (by rfl) rfl rfl (by (try simp only [List.map_toArray, List.map_cons, List.map_nil]); first | done | (simp only [hji89]; rfl) | rfl | (simp only [List.length_drop, List.length_take]; rfl)) ?_
                  with_reducible refine (ih kj8 (by have := HJ4.out; have := HJ8.out; omega) _ _ y397 _ _ l1 (rd l2_2 (ji89)) a2_1 _ _ l2_2 t401 t402 _ ?side1 ?side2 ?side3 ?side4 ?side5 ?side6 A95.out).mono ?_
                  (case side1 => repeat (first | exact (Kd.Zaw HR400.out HB.out) | (with_reducible refine Kd.Zam ?_ _) | (with_reducible refine Kd.Zao ?_ _) | (with_reducible refine Kd.Zan ?_)))
                  (case side2 => exact HC400.out)
                  (case side3 => repeat (first | exact (Kd.Zaw HR1.out HB.out) | (with_reducible refine Kd.Zam ?_ _) | (with_reducible refine Kd.Zao ?_ _) | (with_reducible refine Kd.Zan ?_)))
                  (case side4 => exact HC1.out)
                  (case side5 => repeat (first | exact (Kd.Zaw HR2_2.out HB.out) | (with_reducible refine Kd.Zam ?_ _) | (with_reducible refine Kd.Zao ?_ _) | (with_reducible refine Kd.Zan ?_)))
                  (case side6 => exact HC2_2.out)
                  rintro e w100 ⟨rfl, hb⟩
                  refine ⟨_, rfl, ?_⟩
                  replace BK346 := Za.mk (Zbd (g := gb346) (o := .cells #[.int .i64 (rd l2_2 (ji89)), .int .i64 a2_1, .slice (some ad396) l2_2.length c2_2] 98 (0, 0)) (by (with_reducible repeat (first | refine Zj ?_ _ | refine Zh ?_ | refine Zi ?_ _)); exact BK346.out) hb)
                  replace HB := Za.mk (Zai (by repeat (first | (with_reducible first | exact HB.out | apply Ze | apply Zf | apply Zd | refine Zk ?_ GE346.out) | exact HB.out)) hb)
                  (try clear hb)
                  (try clear hb2)
                  (try clear hk)
                  (try clear hi)
                  refine hK.out _ _ ⟨(Zg BK346.out 0).trans rfl, (Zg BK346.out 1).trans rfl, (Zg BK346.out 2).trans rfl⟩ (fun hHeld => ?_)
                  clear hK K
                  refine norm_ (a' := ?_) ?_ ?_
                  rotate_left
                  ·show Act.put _ (some 149) _ = _
                   simp only [Act.put, ZD, ZE, ZF, Zn, Zq]
                   rfl
                  refine Zx (i := 7) (N := some 142) (v := ?_) (a' := ?_) #[true, true, true, true, true, true, true, true, false, false, false, false] rfl rfl (Zy HT_.out (by kernel_rfl)) (fun _ _ _ h => h) (Or.inl ⟨by rfl, ?_⟩) ?_ ?_
                  rotate_left
                  ·intro w'
                   go_simp
                   with_reducible rfl
                  rotate_left
                  ·simp only [Act.put, ZD, ZE, ZF, Zn, Zq]
                   rfl
                  refine Zx (i := 8) (N := some 150) (v := ?_) (a' := ?_) #[true, true, true, true, true, true, true, true, true, false, false, false] rfl rfl (Zy HT_.out (by kernel_rfl)) (fun _ _ _ h => h) (Or.inl ⟨by rfl, ?_⟩) ?_ ?_
                  rotate_left
                  ·intro w'
                   go_simp
                   with_reducible rfl
                  rotate_left
                  ·simp only [Act.put, ZD, ZE, ZF, Zn, Zq]
                   rfl
                  refine Zx (i := 9) (N := some 151) (v := ?_) (a' := ?_) #[true, true, true, true, true, true, true, true, true, true, false, false] rfl rfl (Zy HT_.out (by kernel_rfl)) (fun _ _ _ h => h) (Or.inl ⟨by rfl, ?_⟩) ?_ ?_
                  rotate_left
                  ·intro w'
                   go_simp
                   with_reducible rfl
                  rotate_left
                  ·simp only [Act.put, ZD, ZE, ZF, Zn, Zq]
                   rfl
                  refine Zx (i := 10) (N := some 14) (v := ?_) (a' := ?_) #[true, true, true, true, true, true, true, true, true, true, true, false] rfl rfl (Zy HT_.out (by kernel_rfl)) (fun _ _ _ h => h) (Or.inl ⟨by rfl, ?_⟩) ?_ ?_
                  rotate_left
                  ·intro w'
                   go_simp
                   with_reducible rfl
                  rotate_left
                  ·simp only [Act.put, ZD, ZE, ZF, Zn, Zq]
                   rfl
                  refine Zx (i := 11) (N := some 15) (v := ?_) (a' := ?_) #[true, true, true, true, true, true, true, true, true, true, true, true] rfl rfl (Zy HT_.out (by kernel_rfl)) (fun _ _ _ h => h) (Or.inl ⟨by rfl, ?_⟩) ?_ ?_
                  rotate_left
                  ·intro w'
                   go_simp
                   with_reducible rfl
                  rotate_left
                  ·simp only [Act.put, ZD, ZE, ZF, Zn, Zq]
                   rfl
                  refine done_ (done_of HT_.out (by kernel_rfl)) ?_
                  try go_wp2
                  go_ret2
                  exact ⟨by first | rfl | (simp [Zo, Zp] <;> rfl) | (simp only [← hji89, ← hji92]; first | rfl | (simp [Zo, Zp] <;> rfl)) | (simp [*, Zo, Zp] <;> rfl), by repeat (first | (with_reducible first | exact HB.out | apply Ze | apply Zf | apply Zd | refine Zk ?_ GE346.out) | exact HB.out)⟩
                 ·rw [if_neg c94] at H
                  exact absurd H (by simp)
                ·rw [if_neg c93] at H
                 exact absurd H (by simp)
               ·rw [if_neg c91] at H
                exact absurd H (by simp)
              ·rw [if_neg c90] at H
               exact absurd H (by simp)
             ·rw [if_neg c88] at H
              have c88b0 : ((wrap64 ((Zb l0 0).f0)) == 96) = false := beq_eq_false_iff_ne.mpr c88
              have c88b1 : ((wrap64 ((Zb l0 0).f0)) != 96) = true := bne_iff_ne.mpr c88
              by_cases c101 : (wrap64 ((Zb l0 0).f0)) = 97
              ·rw [if_pos c101] at H
               have c101b0 : ((wrap64 ((Zb l0 0).f0)) == 97) = true := beq_iff_eq.mpr c101
               have c101b1 : ((wrap64 ((Zb l0 0).f0)) != 97) = false := bne_eq_false_iff_eq.mpr c101
               clear c101
               obtain ⟨ji102, hji102⟩ : ∃ j_ : Int, (wrap64 ((Zb l0 0).f3)) = j_ := ⟨_, rfl⟩
               replace H : (if 0 ≤ (ji102) then (if (ji102) < (l2_2.length : Int) then (if 0 ≤ (wrap64 1) then (if (wrap64 1) ≤ (l0.length : Int) then ((Zz.f kj8 (l0.drop ((wrap64 1) : Int).toNat) l1 a2_0 (rd l2_2 (ji102)) l2_2).bind fun bt408 => (some (bt408.1, wrap64 (bt408.2 + 1)))) else (none)) else (none)) else (none)) else (none)) = some (r1, r2) := by first | (rw [hji102] at H; exact H) | (rw [show ((1 : Int) + 0) = 1 from rfl, hji102] at H; exact H) | (simp only [hji102] at H ⊢; exact H)
               have hji102w : (IntKind.i64.wrap ((Zb l0 0).f3)) = ji102 := (Zn _).trans hji102
               by_cases c103 : 0 ≤ (ji102)
               ·rw [if_pos c103] at H
                have c103b0 : decide (0 ≤ (ji102)) = true := decide_eq_true c103
                clear c103
                by_cases c104 : (ji102) < (l2_2.length : Int)
                ·rw [if_pos c104] at H
                 have c104b0 : decide ((ji102) < (l2_2.length : Int)) = true := decide_eq_true c104
                 clear c104
                 obtain ⟨ji105, hji105⟩ : ∃ j_ : Int, (wrap64 1) = j_ := ⟨_, rfl⟩
                 replace H : (if 0 ≤ (ji105) then (if (ji105) ≤ (l0.length : Int) then ((Zz.f kj8 (l0.drop ((ji105) : Int).toNat) l1 a2_0 (rd l2_2 (ji102)) l2_2).bind fun bt408 => (some (bt408.1, wrap64 (bt408.2 + 1)))) else (none)) else (none)) = some (r1, r2) := by first | (rw [hji105] at H; exact H) | (rw [show ((1 : Int) + 0) = 1 from rfl, hji105] at H; exact H) | (simp only [hji105] at H ⊢; exact H)
                 have hji105w : (IntKind.i64.wrap 1) = ji105 := (Zn _).trans hji105
                 by_cases c106 : 0 ≤ (ji105)
                 ·rw [if_pos c106] at H
                  have c106b0 := eq_true c106
                  have c106b1 : decide (0 ≤ (ji105)) = true := decide_eq_true c106
                  clear c106
                  by_cases c107 : (ji105) ≤ (l0.length : Int)
                  ·rw [if_pos c107] at H
                   have c107b0 := eq_true c107
                   have c107b1 : decide ((ji105) ≤ (l0.length : Int)) = true := decide_eq_true c107
                   clear c107
                   obtain ⟨y404, hy404⟩ : ∃ y_ : List (S54), y_ = (l0.drop ((ji105) : Int).toNat) := ⟨_, rfl⟩
                   replace H : ((Zz.f kj8 y404 l1 a2_0 (rd l2_2 (ji102)) l2_2).bind fun bt408 => (some (bt408.1, wrap64 (bt408.2 + 1)))) = some (r1, r2) := by first | (rw [hy404]; with_reducible exact H) | (have H2_ := (Option.bind_some _ _).symm.trans H; rw [hy404]; with_reducible exact H2_) | (have H2_ := (Option.bind_some _ _).symm.trans H; with_reducible exact H2_) | with_reducible exact H | (rw [hy404]; exact H) | exact H
                   have Ny404 := Za.mk hy404
                   clear hy404
                   replace H := Option.bind_eq_some_iff.mp H
                   obtain ⟨⟨t408, t409⟩, A1080, H⟩ := H
                   (try dsimp only at H)
                   have A108 := Za.mk A1080
                   clear A1080
                   simp only [Option.some.injEq, Prod.mk.injEq] at H
                   obtain ⟨rfl, rfl⟩ := H
                   have hcz109_0 : wc.cell? ⟨gb346, 0, none⟩ = some (.int .i64 a2_0) := (Zg BK346.out 0).trans rfl
                   have hcz109_1 : wc.cell? ⟨gb346, 1, none⟩ = some (.int .i64 a2_1) := (Zg BK346.out 1).trans rfl
                   have hcz109_2 : wc.cell? ⟨gb346, 2, none⟩ = some (.slice A2_2 l2_2.length c2_2) := (Zg BK346.out 2).trans rfl
                   have hfz109_0 := Zl BK346.out 0
                   have hfz109_1 := Zl BK346.out 1
                   have hfz109_2 := Zl BK346.out 2
                   have p403 : 0 ≤ ((ji102) : Int) := of_decide_eq_true (by assumption)
                   have q403 : (ji102) < (l2_2.length : Int) := of_decide_eq_true (by assumption)
                   obtain ⟨ad403, e403, hx403_0⟩ := Kd.at_int HR2_2.out (ji102) p403 q403
                   cases e403
                   replace hx403_0 := (HB.out.cell (World.block_lt_of_cell? w _ hx403_0)).trans hx403_0
                   replace p403 := eq_true p403
                   replace q403 := eq_true q403
                   try go_wp2
                   have n0_ : Za ((wc.setCell ⟨gb346, 1, none⟩ (.int .i64 (rd l2_2 (ji102)))).heap[gb346]? = some (.cells #[.int .i64 a2_0, .int .i64 (rd l2_2 (ji102)), .slice (some ad403) l2_2.length c2_2] 98 (0, 0))) := ⟨by (with_reducible repeat (first | refine Zj ?_ _ | refine Zh ?_ | refine Zi ?_ _)); refine Zu (cs := #[.int .i64 a2_0, .int .i64 a2_1, .slice (some ad403) l2_2.length c2_2]) ?_ 1 _ rfl; (with_reducible repeat (first | refine Zj ?_ _ | refine Zh ?_ | refine Zi ?_ _)); exact BK346.out⟩
                   have n1_ : Za (Below w.heap.size w (wc.setCell ⟨gb346, 1, none⟩ (.int .i64 (rd l2_2 (ji102))))) := ⟨by repeat (first | (with_reducible first | exact HB.out | apply Ze | apply Zf | apply Zd | refine Zk ?_ GE346.out) | exact HB.out)⟩
                   (try clear BK346)
                   (try clear HB)
                   generalize (wc.setCell ⟨gb346, 1, none⟩ (.int .i64 (rd l2_2 (ji102)))) = w110 at n0_ n1_ ⊢
                   have BK346 := n0_
                   have HB := n1_
                   clear n0_ n1_
                   replace BK346 := Za.mk (Zh BK346.out)
                   replace HB := Za.mk (Zd HB.out)
                   have q112 : ((ji105) : Int) ≤ ((l0.length : Int) : Int) := of_decide_eq_true (by assumption)
                   obtain ⟨i0112, hi0112, _, hsz112, _⟩ := info_parts info54
                   have hroom112 : l0.length ≤ c0 := HC0.out
                   have hC112 : Kd.C k54 _ (some ad347) l0.length l0 := HR0.out
                   have q0112 : (0 : Int) ≤ ((ji105) : Int) := of_decide_eq_true (by assumption)
                   have hcut112 := cut_from (P := Try.prog) 23 54 .i64 Try.underlying23 hi0112 4 hsz112 (some ad347) l0.length c0 (ji105) q0112 q112
                   have hr112 := Kd.C_drop (m := ((ji105) : Int).toNat) (c := c0) hC112 (by omega) hroom112
                   obtain ⟨A112, hA112⟩ : ∃ A1, A1 = (if c0 = ((ji105) : Int).toNat then (some ad347) else ((some ad347) : Option Addr).map (·.add (((ji105) : Int).toNat * 4))) := ⟨_, rfl⟩
                   obtain ⟨c112, hc112⟩ : ∃ c1, c1 = c0 - ((ji105) : Int).toNat := ⟨_, rfl⟩
                   have hy112 : y404.length = l0.length - ((ji105) : Int).toNat := (by rw [Ny404.out, List.length_drop] <;> omega)
                   rw [show (l0).drop ((ji105) : Int).toNat = y404 from Ny404.out.symm] at hr112
                   replace hr112 : Kd.C k54 _ A112 y404.length y404 := (by rw [hA112]; exact hr112)
                   rw [← hy112, ← hA112, ← hc112] at hcut112
                   have HR407 := Za.mk hr112
                   have HC407 := Za.mk (show y404.length ≤ c112 from by rw [hy112, hc112]; exact Nat.sub_le_sub_right hroom112 _)
                   clear hr112 hC112 hroom112 hi0112 hsz112 hc112
                   have KY112 := Za.mk hy112
                   have KA112 := Za.mk hA112
                   clear hy112 hA112
                   replace q112 := eq_true q112
                   refine start_ (n := 12) (S := fun w' => w'.cell? ⟨gb346, 0, none⟩ = some (.int .i64 a2_0) ∧ w'.cell? ⟨gb346, 1, none⟩ = some (.int .i64 (rd l2_2 (ji102))) ∧ w'.cell? ⟨gb346, 2, none⟩ = some (.slice (some ad403) l2_2.length c2_2)) (ds := []) #[false, false, false, false, false, false, false, false, false, false, false, false] (by kernel_rfl) rfl rfl ⟨(Zg BK346.out 0).trans rfl, (Zg BK346.out 1).trans rfl, (Zg BK346.out 2).trans rfl⟩ (fun hHeld => ?_); refine with_tabW Zz.tab40 Zz.bits40 (fun HT_ HW_ => ?_)
                   generalize w110.drew = w111 at BK346 HB HR407 hHeld ⊢
                   refine Zx (i := 0) (N := some 143) (v := ?_) (a' := ?_) #[true, false, false, false, false, false, false, false, false, false, false, false] rfl rfl (Zy HT_.out (by kernel_rfl)) (fun _ _ _ h => h) (Or.inl ⟨by rfl, ?_⟩) ?_ ?_
                   rotate_left
                   ·intro w'
                    go_simp
                    with_reducible rfl
                   rotate_left
                   ·simp only [Act.put, ZD, ZE, ZF, Zn, Zq]
                    rfl
                   refine Zx (i := 1) (N := some 144) (v := ?_) (a' := ?_) #[true, true, false, false, false, false, false, false, false, false, false, false] rfl rfl (Zy HT_.out (by kernel_rfl)) (fun _ _ _ h => h) (Or.inl ⟨by rfl, ?_⟩) ?_ ?_
                   rotate_left
                   ·intro w'
                    go_simp
                    with_reducible rfl
                   rotate_left
                   ·simp only [Act.put, ZD, ZE, ZF, Zn, Zq]
                    rfl
                   refine Zx (i := 2) (N := some 145) (v := ?_) (a' := ?_) #[true, true, true, false, false, false, false, false, false, false, false, false] rfl rfl (Zy HT_.out (by kernel_rfl)) (fun _ _ _ h => h) (Or.inl ⟨by rfl, ?_⟩) ?_ ?_
                   rotate_left
                   ·intro w'
                    go_simp
                    with_reducible rfl
                   rotate_left
                   ·simp only [Act.put, ZD, ZE, ZF, Zn, Zq]
                    rfl
                   refine Zx (i := 3) (N := some 146) (v := ?_) (a' := ?_) #[true, true, true, true, false, false, false, false, false, false, false, false] rfl rfl (Zy HT_.out (by kernel_rfl)) (fun _ _ _ h => h) (Or.inl ⟨by rfl, ?_⟩) ?_ ?_
                   rotate_left
                   ·intro w'
                    go_simp
                    with_reducible rfl
                   rotate_left
                   ·simp only [Act.put, ZD, ZE, ZF, Zn, Zq]
                    rfl
                   refine Zx (i := 4) (N := some 147) (v := ?_) (a' := ?_) #[true, true, true, true, true, false, false, false, false, false, false, false] rfl rfl (Zy HT_.out (by kernel_rfl)) (fun _ _ _ h => h) (Or.inl ⟨by rfl, ?_⟩) ?_ ?_
                   rotate_left
                   ·intro w'
                    go_simp
                    with_reducible rfl
                   rotate_left
                   ·simp only [Act.put, ZD, ZE, ZF, Zn, Zq]
                    rfl
                   refine take_ (i := 5) (N := some 148) (v := ?_) (a' := ?_) #[true, true, true, true, true, true, false, false, false, false, false, false] rfl rfl (take_ofW HT_.out HW_.out (by kernel_rfl)) (fun _ _ _ h => h) (Or.inl ⟨by rfl, ?_⟩) hHeld ?_ ?_
                   rotate_left
                   ·rintro w' ⟨s0, s1, s2⟩
                    go_simp
                    with_reducible rfl
                   rotate_left
                   ·simp only [Act.put, ZD, ZE, ZF, Zn, Zq]
                    rfl
                   refine one_ (i := 6) (N := some 149) #[true, true, true, true, true, true, true, false, false, false, false, false] rfl rfl (one_of HT_.out (by kernel_rfl)) (by decide) (fun K hK => ?_)
                   refine goes_ Try.func54 (by kernel_rfl) rfl #[.slice A112 y404.length c112, .slice A1 l1.length c1, .agg #[.int .i64 a2_0, .int .i64 (rd l2_2 (ji102)), .slice (some ad403) l2_2.length c2_2]] (by rfl) rfl rfl (by (try simp only [List.map_toArray, List.map_cons, List.map_nil]); first | done | (simp only [hji102]; rfl) | rfl | (simp only [List.length_drop, List.length_take]; rfl)) ?_
                   with_reducible refine (ih kj8 (by have := HJ4.out; have := HJ8.out; omega) _ _ y404 _ _ l1 a2_0 (rd l2_2 (ji102)) _ _ l2_2 t408 t409 _ ?side1 ?side2 ?side3 ?side4 ?side5 ?side6 A108.out).mono ?_
                   (case side1 => repeat (first | exact (Kd.Zaw HR407.out HB.out) | (with_reducible refine Kd.Zam ?_ _) | (with_reducible refine Kd.Zao ?_ _) | (with_reducible refine Kd.Zan ?_)))
                   (case side2 => exact HC407.out)
                   (case side3 => repeat (first | exact (Kd.Zaw HR1.out HB.out) | (with_reducible refine Kd.Zam ?_ _) | (with_reducible refine Kd.Zao ?_ _) | (with_reducible refine Kd.Zan ?_)))
                   (case side4 => exact HC1.out)
                   (case side5 => repeat (first | exact (Kd.Zaw HR2_2.out HB.out) | (with_reducible refine Kd.Zam ?_ _) | (with_reducible refine Kd.Zao ?_ _) | (with_reducible refine Kd.Zan ?_)))
                   (case side6 => exact HC2_2.out)
                   rintro e w113 ⟨rfl, hb⟩
                   refine ⟨_, rfl, ?_⟩
                   replace BK346 := Za.mk (Zbd (g := gb346) (o := .cells #[.int .i64 a2_0, .int .i64 (rd l2_2 (ji102)), .slice (some ad403) l2_2.length c2_2] 98 (0, 0)) (by (with_reducible repeat (first | refine Zj ?_ _ | refine Zh ?_ | refine Zi ?_ _)); exact BK346.out) hb)
                   replace HB := Za.mk (Zai (by repeat (first | (with_reducible first | exact HB.out | apply Ze | apply Zf | apply Zd | refine Zk ?_ GE346.out) | exact HB.out)) hb)
                   (try clear hb)
                   (try clear hb2)
                   (try clear hk)
                   (try clear hi)
                   refine hK.out _ _ ⟨(Zg BK346.out 0).trans rfl, (Zg BK346.out 1).trans rfl, (Zg BK346.out 2).trans rfl⟩ (fun hHeld => ?_)
                   clear hK K
                   refine norm_ (a' := ?_) ?_ ?_
                   rotate_left
                   ·show Act.put _ (some 149) _ = _
                    simp only [Act.put, ZD, ZE, ZF, Zn, Zq]
                    rfl
                   refine Zx (i := 7) (N := some 142) (v := ?_) (a' := ?_) #[true, true, true, true, true, true, true, true, false, false, false, false] rfl rfl (Zy HT_.out (by kernel_rfl)) (fun _ _ _ h => h) (Or.inl ⟨by rfl, ?_⟩) ?_ ?_
                   rotate_left
                   ·intro w'
                    go_simp
                    with_reducible rfl
                   rotate_left
                   ·simp only [Act.put, ZD, ZE, ZF, Zn, Zq]
                    rfl
                   refine Zx (i := 8) (N := some 150) (v := ?_) (a' := ?_) #[true, true, true, true, true, true, true, true, true, false, false, false] rfl rfl (Zy HT_.out (by kernel_rfl)) (fun _ _ _ h => h) (Or.inl ⟨by rfl, ?_⟩) ?_ ?_
                   rotate_left
                   ·intro w'
                    go_simp
                    with_reducible rfl
                   rotate_left
                   ·simp only [Act.put, ZD, ZE, ZF, Zn, Zq]
                    rfl
                   refine Zx (i := 9) (N := some 151) (v := ?_) (a' := ?_) #[true, true, true, true, true, true, true, true, true, true, false, false] rfl rfl (Zy HT_.out (by kernel_rfl)) (fun _ _ _ h => h) (Or.inl ⟨by rfl, ?_⟩) ?_ ?_
                   rotate_left
                   ·intro w'
                    go_simp
                    with_reducible rfl
                   rotate_left
                   ·simp only [Act.put, ZD, ZE, ZF, Zn, Zq]
                    rfl
                   refine Zx (i := 10) (N := some 14) (v := ?_) (a' := ?_) #[true, true, true, true, true, true, true, true, true, true, true, false] rfl rfl (Zy HT_.out (by kernel_rfl)) (fun _ _ _ h => h) (Or.inl ⟨by rfl, ?_⟩) ?_ ?_
                   rotate_left
                   ·intro w'
                    go_simp
                    with_reducible rfl
                   rotate_left
                   ·simp only [Act.put, ZD, ZE, ZF, Zn, Zq]
                    rfl
                   refine Zx (i := 11) (N := some 15) (v := ?_) (a' := ?_) #[true, true, true, true, true, true, true, true, true, true, true, true] rfl rfl (Zy HT_.out (by kernel_rfl)) (fun _ _ _ h => h) (Or.inl ⟨by rfl, ?_⟩) ?_ ?_
                   rotate_left
                   ·intro w'
                    go_simp
                    with_reducible rfl
                   rotate_left
                   ·simp only [Act.put, ZD, ZE, ZF, Zn, Zq]
                    rfl
                   refine done_ (done_of HT_.out (by kernel_rfl)) ?_
                   try go_wp2
                   go_ret2
                   exact ⟨by first | rfl | (simp [Zo, Zp] <;> rfl) | (simp only [← hji102, ← hji105]; first | rfl | (simp [Zo, Zp] <;> rfl)) | (simp [*, Zo, Zp] <;> rfl), by repeat (first | (with_reducible first | exact HB.out | apply Ze | apply Zf | apply Zd | refine Zk ?_ GE346.out) | exact HB.out)⟩
                  ·rw [if_neg c107] at H
                   exact absurd H (by simp)
                 ·rw [if_neg c106] at H
                  exact absurd H (by simp)
                ·rw [if_neg c104] at H
                 exact absurd H (by simp)
               ·rw [if_neg c103] at H
                exact absurd H (by simp)
              ·rw [if_neg c101] at H
               have c101b0 : ((wrap64 ((Zb l0 0).f0)) == 97) = false := beq_eq_false_iff_ne.mpr c101
               have c101b1 : ((wrap64 ((Zb l0 0).f0)) != 97) = true := bne_iff_ne.mpr c101
               by_cases c114 : (wrap64 ((Zb l0 0).f0)) = 2
               ·rw [if_pos c114] at H
                have c114b0 : ((wrap64 ((Zb l0 0).f0)) == 2) = true := beq_iff_eq.mpr c114
                have c114b1 : ((wrap64 ((Zb l0 0).f0)) != 2) = false := bne_eq_false_iff_eq.mpr c114
                clear c114
                replace H := Option.bind_eq_some_iff.mp H
                obtain ⟨t410, A1150, H⟩ := H
                (try dsimp only at H)
                have A115 := Za.mk A1150
                clear A1150
                obtain ⟨ji116, hji116⟩ : ∃ j_ : Int, (wrap64 1) = j_ := ⟨_, rfl⟩
                replace H : (if 0 ≤ (ji116) then (if (ji116) ≤ (l0.length : Int) then ((Zz.f kj8 (l0.drop ((ji116) : Int).toNat) l1 a2_0 a2_1 t410).bind fun bt417 => (some (bt417.1, wrap64 (bt417.2 + 1)))) else (none)) else (none)) = some (r1, r2) := by first | (rw [hji116] at H; exact H) | (rw [show ((1 : Int) + 0) = 1 from rfl, hji116] at H; exact H) | (simp only [hji116] at H ⊢; exact H)
                (try rw [hji116] at A115)
                have hji116w : (IntKind.i64.wrap 1) = ji116 := (Zn _).trans hji116
                by_cases c117 : 0 ≤ (ji116)
                ·rw [if_pos c117] at H
                 have c117b0 := eq_true c117
                 have c117b1 : decide (0 ≤ (ji116)) = true := decide_eq_true c117
                 clear c117
                 by_cases c118 : (ji116) ≤ (l0.length : Int)
                 ·rw [if_pos c118] at H
                  have c118b0 := eq_true c118
                  have c118b1 : decide ((ji116) ≤ (l0.length : Int)) = true := decide_eq_true c118
                  clear c118
                  obtain ⟨y413, hy413⟩ : ∃ y_ : List (S54), y_ = (l0.drop ((ji116) : Int).toNat) := ⟨_, rfl⟩
                  replace H : ((Zz.f kj8 y413 l1 a2_0 a2_1 t410).bind fun bt417 => (some (bt417.1, wrap64 (bt417.2 + 1)))) = some (r1, r2) := by first | (rw [hy413]; with_reducible exact H) | (have H2_ := (Option.bind_some _ _).symm.trans H; rw [hy413]; with_reducible exact H2_) | (have H2_ := (Option.bind_some _ _).symm.trans H; with_reducible exact H2_) | with_reducible exact H | (rw [hy413]; exact H) | exact H
                  have Ny413 := Za.mk hy413
                  clear hy413
                  replace H := Option.bind_eq_some_iff.mp H
                  obtain ⟨⟨t417, t418⟩, A1190, H⟩ := H
                  (try dsimp only at H)
                  have A119 := Za.mk A1190
                  clear A1190
                  simp only [Option.some.injEq, Prod.mk.injEq] at H
                  obtain ⟨rfl, rfl⟩ := H
                  have hcz120_0 : wc.cell? ⟨gb346, 0, none⟩ = some (.int .i64 a2_0) := (Zg BK346.out 0).trans rfl
                  have hcz120_1 : wc.cell? ⟨gb346, 1, none⟩ = some (.int .i64 a2_1) := (Zg BK346.out 1).trans rfl
                  have hcz120_2 : wc.cell? ⟨gb346, 2, none⟩ = some (.slice A2_2 l2_2.length c2_2) := (Zg BK346.out 2).trans rfl
                  have hfz120_0 := Zl BK346.out 0
                  have hfz120_1 := Zl BK346.out 1
                  have hfz120_2 := Zl BK346.out 2
                  try go_wp2_with (first | ((with_reducible refine Zaf (f := 68) rfl ?_); refine Zae (some 123) rfl rfl Try.func68 (by kernel_rfl) rfl #[.slice A2_2 l2_2.length c2_2, .int .i64 (wrap64 ((Zb l0 0).f3)), .int .i64 a2_0] rfl (by (try simp only [ZA, ZB, ZC]); first | done | rfl | (simp only [List.length_drop, List.length_take]; rfl)) ?_; (with_reducible refine (Zbs.calls kj8 _ _ l2_2 (wrap64 ((Zb l0 0).f3)) a2_0 t410 _ ?side1 ?side2 A115.out).mono ?_); (case side1 => repeat (first | exact (Kd.Zaw HR2_2.out HB.out) | (with_reducible refine Kd.Zam ?_ _) | (with_reducible refine Kd.Zao ?_ _) | (with_reducible refine Kd.Zan ?_))); (case side2 => exact HC2_2.out); rintro e w121 ⟨v411, rfl, ho0, hb⟩; refine ⟨_, rfl, ?_⟩; have HO412 := Za.mk (Kd.Zbi ho0 (Zas (by repeat (first | (with_reducible first | exact HB.out | apply Ze | apply Zf | apply Zd | refine Zk ?_ GE346.out) | exact HB.out)))); replace BK346 := Za.mk (Zbd (g := gb346) (o := .cells #[.int .i64 a2_0, .int .i64 a2_1, .slice A2_2 l2_2.length c2_2] 98 (0, 0)) (by (with_reducible repeat (first | refine Zj ?_ _ | refine Zh ?_ | refine Zi ?_ _)); exact BK346.out) hb); replace HB := Za.mk (Zai (by repeat (first | (with_reducible first | exact HB.out | apply Ze | apply Zf | apply Zd | refine Zk ?_ GE346.out) | exact HB.out)) hb); (try clear hb); (try clear hb2); (try clear hk); (try clear hi); (try clear ho0); obtain ⟨Ao122, co122, eo122⟩ := Kd.Zbf HO412.out; subst eo122; have hcz123_0 : w121.cell? ⟨gb346, 0, none⟩ = some (.int .i64 a2_0) := (Zg BK346.out 0).trans rfl; have hcz123_1 : w121.cell? ⟨gb346, 1, none⟩ = some (.int .i64 a2_1) := (Zg BK346.out 1).trans rfl; have hcz123_2 : w121.cell? ⟨gb346, 2, none⟩ = some (.slice A2_2 l2_2.length c2_2) := (Zg BK346.out 2).trans rfl; have hfz123_0 := Zl BK346.out 0; have hfz123_1 := Zl BK346.out 1; have hfz123_2 := Zl BK346.out 2))
                  have n0_ : Za (Kd.R (Kd.int .i64) 3 (w121.setCell ⟨gb346, 2, none⟩ (.slice Ao122 t410.length co122)) w.heap.size (fun _ => True) (.slice Ao122 t410.length co122) t410) := ⟨by (with_reducible repeat (first | apply Kd.Zs | apply Kd.Zt | apply Kd.Zr)); exact Kd.Zah (Kd.Zad (p := ⟨gb346, 2, none⟩) (Kd.R_types HO412.out BK346.out (by decide)) (fun _ hk => hk.2) (.slice Ao122 t410.length co122)) (fun _ hk => trivial)⟩
                  have n1_ : Za ((w121.setCell ⟨gb346, 2, none⟩ (.slice Ao122 t410.length co122)).heap[gb346]? = some (.cells #[.int .i64 a2_0, .int .i64 a2_1, .slice Ao122 t410.length co122] 98 (0, 0))) := ⟨by (with_reducible repeat (first | refine Zj ?_ _ | refine Zh ?_ | refine Zi ?_ _)); refine Zu (cs := #[.int .i64 a2_0, .int .i64 a2_1, .slice A2_2 l2_2.length c2_2]) ?_ 2 _ rfl; (with_reducible repeat (first | refine Zj ?_ _ | refine Zh ?_ | refine Zi ?_ _)); exact BK346.out⟩
                  have n2_ : Za (Below w.heap.size w (w121.setCell ⟨gb346, 2, none⟩ (.slice Ao122 t410.length co122))) := ⟨by repeat (first | (with_reducible first | exact HB.out | apply Ze | apply Zf | apply Zd | refine Zk ?_ GE346.out) | exact HB.out)⟩
                  (try clear HO412)
                  (try clear BK346)
                  (try clear HB)
                  generalize (w121.setCell ⟨gb346, 2, none⟩ (.slice Ao122 t410.length co122)) = w124 at n0_ n1_ n2_ ⊢
                  have HO412 := n0_
                  have BK346 := n1_
                  have HB := n2_
                  clear n0_ n1_ n2_
                  replace HO412 := Za.mk (Kd.Zr HO412.out)
                  replace BK346 := Za.mk (Zh BK346.out)
                  replace HB := Za.mk (Zd HB.out)
                  have q126 : ((ji116) : Int) ≤ ((l0.length : Int) : Int) := of_decide_eq_true (by assumption)
                  obtain ⟨i0126, hi0126, _, hsz126, _⟩ := info_parts info54
                  have hroom126 : l0.length ≤ c0 := HC0.out
                  have hC126 : Kd.C k54 _ (some ad347) l0.length l0 := HR0.out
                  have q0126 : (0 : Int) ≤ ((ji116) : Int) := of_decide_eq_true (by assumption)
                  have hcut126 := cut_from (P := Try.prog) 23 54 .i64 Try.underlying23 hi0126 4 hsz126 (some ad347) l0.length c0 (ji116) q0126 q126
                  have hr126 := Kd.C_drop (m := ((ji116) : Int).toNat) (c := c0) hC126 (by omega) hroom126
                  obtain ⟨A126, hA126⟩ : ∃ A1, A1 = (if c0 = ((ji116) : Int).toNat then (some ad347) else ((some ad347) : Option Addr).map (·.add (((ji116) : Int).toNat * 4))) := ⟨_, rfl⟩
                  obtain ⟨c126, hc126⟩ : ∃ c1, c1 = c0 - ((ji116) : Int).toNat := ⟨_, rfl⟩
                  have hy126 : y413.length = l0.length - ((ji116) : Int).toNat := (by rw [Ny413.out, List.length_drop] <;> omega)
                  rw [show (l0).drop ((ji116) : Int).toNat = y413 from Ny413.out.symm] at hr126
                  replace hr126 : Kd.C k54 _ A126 y413.length y413 := (by rw [hA126]; exact hr126)
                  rw [← hy126, ← hA126, ← hc126] at hcut126
                  have HR416 := Za.mk hr126
                  have HC416 := Za.mk (show y413.length ≤ c126 from by rw [hy126, hc126]; exact Nat.sub_le_sub_right hroom126 _)
                  clear hr126 hC126 hroom126 hi0126 hsz126 hc126
                  have KY126 := Za.mk hy126
                  have KA126 := Za.mk hA126
                  clear hy126 hA126
                  replace q126 := eq_true q126
                  refine start_ (n := 12) (S := fun w' => w'.cell? ⟨gb346, 0, none⟩ = some (.int .i64 a2_0) ∧ w'.cell? ⟨gb346, 1, none⟩ = some (.int .i64 a2_1) ∧ w'.cell? ⟨gb346, 2, none⟩ = some (.slice Ao122 t410.length co122)) (ds := []) #[false, false, false, false, false, false, false, false, false, false, false, false] (by kernel_rfl) rfl rfl ⟨(Zg BK346.out 0).trans rfl, (Zg BK346.out 1).trans rfl, (Zg BK346.out 2).trans rfl⟩ (fun hHeld => ?_); refine with_tabW Zz.tab40 Zz.bits40 (fun HT_ HW_ => ?_)
                  generalize w124.drew = w125 at HO412 BK346 HB HR416 hHeld ⊢
                  refine Zx (i := 0) (N := some 143) (v := ?_) (a' := ?_) #[true, false, false, false, false, false, false, false, false, false, false, false] rfl rfl (Zy HT_.out (by kernel_rfl)) (fun _ _ _ h => h) (Or.inl ⟨by rfl, ?_⟩) ?_ ?_
                  rotate_left
                  ·intro w'
                   go_simp
                   with_reducible rfl
                  rotate_left
                  ·simp only [Act.put, ZD, ZE, ZF, Zn, Zq]
                   rfl
                  refine Zx (i := 1) (N := some 144) (v := ?_) (a' := ?_) #[true, true, false, false, false, false, false, false, false, false, false, false] rfl rfl (Zy HT_.out (by kernel_rfl)) (fun _ _ _ h => h) (Or.inl ⟨by rfl, ?_⟩) ?_ ?_
                  rotate_left
                  ·intro w'
                   go_simp
                   with_reducible rfl
                  rotate_left
                  ·simp only [Act.put, ZD, ZE, ZF, Zn, Zq]
                   rfl
                  refine Zx (i := 2) (N := some 145) (v := ?_) (a' := ?_) #[true, true, true, false, false, false, false, false, false, false, false, false] rfl rfl (Zy HT_.out (by kernel_rfl)) (fun _ _ _ h => h) (Or.inl ⟨by rfl, ?_⟩) ?_ ?_
                  rotate_left
                  ·intro w'
                   go_simp
                   with_reducible rfl
                  rotate_left
                  ·simp only [Act.put, ZD, ZE, ZF, Zn, Zq]
                   rfl
                  refine Zx (i := 3) (N := some 146) (v := ?_) (a' := ?_) #[true, true, true, true, false, false, false, false, false, false, false, false] rfl rfl (Zy HT_.out (by kernel_rfl)) (fun _ _ _ h => h) (Or.inl ⟨by rfl, ?_⟩) ?_ ?_
                  rotate_left
                  ·intro w'
                   go_simp
                   with_reducible rfl
                  rotate_left
                  ·simp only [Act.put, ZD, ZE, ZF, Zn, Zq]
                   rfl
                  refine Zx (i := 4) (N := some 147) (v := ?_) (a' := ?_) #[true, true, true, true, true, false, false, false, false, false, false, false] rfl rfl (Zy HT_.out (by kernel_rfl)) (fun _ _ _ h => h) (Or.inl ⟨by rfl, ?_⟩) ?_ ?_
                  rotate_left
                  ·intro w'
                   go_simp
                   with_reducible rfl
                  rotate_left
                  ·simp only [Act.put, ZD, ZE, ZF, Zn, Zq]
                   rfl
                  refine take_ (i := 5) (N := some 148) (v := ?_) (a' := ?_) #[true, true, true, true, true, true, false, false, false, false, false, false] rfl rfl (take_ofW HT_.out HW_.out (by kernel_rfl)) (fun _ _ _ h => h) (Or.inl ⟨by rfl, ?_⟩) hHeld ?_ ?_
                  rotate_left
                  ·rintro w' ⟨s0, s1, s2⟩
                   go_simp
                   with_reducible rfl
                  rotate_left
                  ·simp only [Act.put, ZD, ZE, ZF, Zn, Zq]
                   rfl
                  refine one_ (i := 6) (N := some 149) #[true, true, true, true, true, true, true, false, false, false, false, false] rfl rfl (one_of HT_.out (by kernel_rfl)) (by decide) (fun K hK => ?_)
                  refine goes_ Try.func54 (by kernel_rfl) rfl #[.slice A126 y413.length c126, .slice A1 l1.length c1, .agg #[.int .i64 a2_0, .int .i64 a2_1, .slice Ao122 t410.length co122]] (by rfl) rfl rfl (by (try simp only [ZA, ZB, ZC]); first | done | rfl | (simp only [List.length_drop, List.length_take]; rfl)) ?_
                  with_reducible refine (ih kj8 (by have := HJ4.out; have := HJ8.out; omega) _ _ y413 _ _ l1 a2_0 a2_1 _ _ t410 t417 t418 _ ?side1 ?side2 ?side3 ?side4 ?side5 ?side6 A119.out).mono ?_
                  (case side1 => repeat (first | exact (Kd.Zaw HR416.out HB.out) | (with_reducible refine Kd.Zam ?_ _) | (with_reducible refine Kd.Zao ?_ _) | (with_reducible refine Kd.Zan ?_)))
                  (case side2 => exact HC416.out)
                  (case side3 => repeat (first | exact (Kd.Zaw HR1.out HB.out) | (with_reducible refine Kd.Zam ?_ _) | (with_reducible refine Kd.Zao ?_ _) | (with_reducible refine Kd.Zan ?_)))
                  (case side4 => exact HC1.out)
                  (case side5 => repeat (first | exact (Kd.Zag HO412.out).2.2 | (with_reducible refine Kd.Zam ?_ _) | (with_reducible refine Kd.Zao ?_ _) | (with_reducible refine Kd.Zan ?_)))
                  (case side6 => exact (Kd.Zag HO412.out).2.1)
                  rintro e w127 ⟨rfl, hb⟩
                  refine ⟨_, rfl, ?_⟩
                  replace HO412 := Za.mk (Kd.Zaq (by (with_reducible repeat (first | apply Kd.Zs | apply Kd.Zt | apply Kd.Zr)); exact HO412.out) hb)
                  replace BK346 := Za.mk (Zbd (g := gb346) (o := .cells #[.int .i64 a2_0, .int .i64 a2_1, .slice Ao122 t410.length co122] 98 (0, 0)) (by (with_reducible repeat (first | refine Zj ?_ _ | refine Zh ?_ | refine Zi ?_ _)); exact BK346.out) hb)
                  replace HB := Za.mk (Zai (by repeat (first | (with_reducible first | exact HB.out | apply Ze | apply Zf | apply Zd | refine Zk ?_ GE346.out) | exact HB.out)) hb)
                  (try clear hb)
                  (try clear hb2)
                  (try clear hk)
                  (try clear hi)
                  refine hK.out _ _ ⟨(Zg BK346.out 0).trans rfl, (Zg BK346.out 1).trans rfl, (Zg BK346.out 2).trans rfl⟩ (fun hHeld => ?_)
                  clear hK K
                  refine norm_ (a' := ?_) ?_ ?_
                  rotate_left
                  ·show Act.put _ (some 149) _ = _
                   simp only [Act.put, ZD, ZE, ZF, Zn, Zq]
                   rfl
                  refine Zx (i := 7) (N := some 142) (v := ?_) (a' := ?_) #[true, true, true, true, true, true, true, true, false, false, false, false] rfl rfl (Zy HT_.out (by kernel_rfl)) (fun _ _ _ h => h) (Or.inl ⟨by rfl, ?_⟩) ?_ ?_
                  rotate_left
                  ·intro w'
                   go_simp
                   with_reducible rfl
                  rotate_left
                  ·simp only [Act.put, ZD, ZE, ZF, Zn, Zq]
                   rfl
                  refine Zx (i := 8) (N := some 150) (v := ?_) (a' := ?_) #[true, true, true, true, true, true, true, true, true, false, false, false] rfl rfl (Zy HT_.out (by kernel_rfl)) (fun _ _ _ h => h) (Or.inl ⟨by rfl, ?_⟩) ?_ ?_
                  rotate_left
                  ·intro w'
                   go_simp
                   with_reducible rfl
                  rotate_left
                  ·simp only [Act.put, ZD, ZE, ZF, Zn, Zq]
                   rfl
                  refine Zx (i := 9) (N := some 151) (v := ?_) (a' := ?_) #[true, true, true, true, true, true, true, true, true, true, false, false] rfl rfl (Zy HT_.out (by kernel_rfl)) (fun _ _ _ h => h) (Or.inl ⟨by rfl, ?_⟩) ?_ ?_
                  rotate_left
                  ·intro w'
                   go_simp
                   with_reducible rfl
                  rotate_left
                  ·simp only [Act.put, ZD, ZE, ZF, Zn, Zq]
                   rfl
                  refine Zx (i := 10) (N := some 14) (v := ?_) (a' := ?_) #[true, true, true, true, true, true, true, true, true, true, true, false] rfl rfl (Zy HT_.out (by kernel_rfl)) (fun _ _ _ h => h) (Or.inl ⟨by rfl, ?_⟩) ?_ ?_
                  rotate_left
                  ·intro w'
                   go_simp
                   with_reducible rfl
                  rotate_left
                  ·simp only [Act.put, ZD, ZE, ZF, Zn, Zq]
                   rfl
                  refine Zx (i := 11) (N := some 15) (v := ?_) (a' := ?_) #[true, true, true, true, true, true, true, true, true, true, true, true] rfl rfl (Zy HT_.out (by kernel_rfl)) (fun _ _ _ h => h) (Or.inl ⟨by rfl, ?_⟩) ?_ ?_
                  rotate_left
                  ·intro w'
                   go_simp
                   with_reducible rfl
                  rotate_left
                  ·simp only [Act.put, ZD, ZE, ZF, Zn, Zq]
                   rfl
                  refine done_ (done_of HT_.out (by kernel_rfl)) ?_
                  try go_wp2
                  go_ret2
                  exact ⟨by first | rfl | (simp [Zo, Zp] <;> rfl) | (simp only [← hji116]; first | rfl | (simp [Zo, Zp] <;> rfl)) | (simp [*, Zo, Zp] <;> rfl), by repeat (first | (with_reducible first | exact HB.out | apply Ze | apply Zf | apply Zd | refine Zk ?_ GE346.out) | exact HB.out)⟩
                 ·rw [if_neg c118] at H
                  exact absurd H (by simp)
                ·rw [if_neg c117] at H
                 exact absurd H (by simp)
               ·rw [if_neg c114] at H
                have c114b0 : ((wrap64 ((Zb l0 0).f0)) == 2) = false := beq_eq_false_iff_ne.mpr c114
                have c114b1 : ((wrap64 ((Zb l0 0).f0)) != 2) = true := bne_iff_ne.mpr c114
                by_cases c128 : (wrap64 ((Zb l0 0).f0)) = 3
                ·rw [if_pos c128] at H
                 have c128b0 : ((wrap64 ((Zb l0 0).f0)) == 3) = true := beq_iff_eq.mpr c128
                 have c128b1 : ((wrap64 ((Zb l0 0).f0)) != 3) = false := bne_eq_false_iff_eq.mpr c128
                 clear c128
                 replace H := Option.bind_eq_some_iff.mp H
                 obtain ⟨t419, A1290, H⟩ := H
                 (try dsimp only at H)
                 have A129 := Za.mk A1290
                 clear A1290
                 obtain ⟨ji130, hji130⟩ : ∃ j_ : Int, (wrap64 1) = j_ := ⟨_, rfl⟩
                 replace H : (if 0 ≤ (ji130) then (if (ji130) ≤ (l0.length : Int) then ((Zz.f kj8 (l0.drop ((ji130) : Int).toNat) l1 a2_0 a2_1 t419).bind fun bt426 => (some (bt426.1, wrap64 (bt426.2 + 1)))) else (none)) else (none)) = some (r1, r2) := by first | (rw [hji130] at H; exact H) | (rw [show ((1 : Int) + 0) = 1 from rfl, hji130] at H; exact H) | (simp only [hji130] at H ⊢; exact H)
                 (try rw [hji130] at A129)
                 have hji130w : (IntKind.i64.wrap 1) = ji130 := (Zn _).trans hji130
                 by_cases c131 : 0 ≤ (ji130)
                 ·rw [if_pos c131] at H
                  have c131b0 := eq_true c131
                  have c131b1 : decide (0 ≤ (ji130)) = true := decide_eq_true c131
                  clear c131
                  by_cases c132 : (ji130) ≤ (l0.length : Int)
                  ·rw [if_pos c132] at H
                   have c132b0 := eq_true c132
                   have c132b1 : decide ((ji130) ≤ (l0.length : Int)) = true := decide_eq_true c132
                   clear c132
                   obtain ⟨y422, hy422⟩ : ∃ y_ : List (S54), y_ = (l0.drop ((ji130) : Int).toNat) := ⟨_, rfl⟩
                   replace H : ((Zz.f kj8 y422 l1 a2_0 a2_1 t419).bind fun bt426 => (some (bt426.1, wrap64 (bt426.2 + 1)))) = some (r1, r2) := by first | (rw [hy422]; with_reducible exact H) | (have H2_ := (Option.bind_some _ _).symm.trans H; rw [hy422]; with_reducible exact H2_) | (have H2_ := (Option.bind_some _ _).symm.trans H; with_reducible exact H2_) | with_reducible exact H | (rw [hy422]; exact H) | exact H
                   have Ny422 := Za.mk hy422
                   clear hy422
                   replace H := Option.bind_eq_some_iff.mp H
                   obtain ⟨⟨t426, t427⟩, A1330, H⟩ := H
                   (try dsimp only at H)
                   have A133 := Za.mk A1330
                   clear A1330
                   simp only [Option.some.injEq, Prod.mk.injEq] at H
                   obtain ⟨rfl, rfl⟩ := H
                   have hcz134_0 : wc.cell? ⟨gb346, 0, none⟩ = some (.int .i64 a2_0) := (Zg BK346.out 0).trans rfl
                   have hcz134_1 : wc.cell? ⟨gb346, 1, none⟩ = some (.int .i64 a2_1) := (Zg BK346.out 1).trans rfl
                   have hcz134_2 : wc.cell? ⟨gb346, 2, none⟩ = some (.slice A2_2 l2_2.length c2_2) := (Zg BK346.out 2).trans rfl
                   have hfz134_0 := Zl BK346.out 0
                   have hfz134_1 := Zl BK346.out 1
                   have hfz134_2 := Zl BK346.out 2
                   try go_wp2_with (first | ((with_reducible refine Zaf (f := 68) rfl ?_); refine Zae (some 132) rfl rfl Try.func68 (by kernel_rfl) rfl #[.slice A2_2 l2_2.length c2_2, .int .i64 (wrap64 ((Zb l0 0).f3)), .int .i64 a2_1] rfl (by (try simp only [ZA, ZB, ZC]); first | done | rfl | (simp only [List.length_drop, List.length_take]; rfl)) ?_; (with_reducible refine (Zbs.calls kj8 _ _ l2_2 (wrap64 ((Zb l0 0).f3)) a2_1 t419 _ ?side1 ?side2 A129.out).mono ?_); (case side1 => repeat (first | exact (Kd.Zaw HR2_2.out HB.out) | (with_reducible refine Kd.Zam ?_ _) | (with_reducible refine Kd.Zao ?_ _) | (with_reducible refine Kd.Zan ?_))); (case side2 => exact HC2_2.out); rintro e w135 ⟨v420, rfl, ho0, hb⟩; refine ⟨_, rfl, ?_⟩; have HO421 := Za.mk (Kd.Zbi ho0 (Zas (by repeat (first | (with_reducible first | exact HB.out | apply Ze | apply Zf | apply Zd | refine Zk ?_ GE346.out) | exact HB.out)))); replace BK346 := Za.mk (Zbd (g := gb346) (o := .cells #[.int .i64 a2_0, .int .i64 a2_1, .slice A2_2 l2_2.length c2_2] 98 (0, 0)) (by (with_reducible repeat (first | refine Zj ?_ _ | refine Zh ?_ | refine Zi ?_ _)); exact BK346.out) hb); replace HB := Za.mk (Zai (by repeat (first | (with_reducible first | exact HB.out | apply Ze | apply Zf | apply Zd | refine Zk ?_ GE346.out) | exact HB.out)) hb); (try clear hb); (try clear hb2); (try clear hk); (try clear hi); (try clear ho0); obtain ⟨Ao136, co136, eo136⟩ := Kd.Zbf HO421.out; subst eo136; have hcz137_0 : w135.cell? ⟨gb346, 0, none⟩ = some (.int .i64 a2_0) := (Zg BK346.out 0).trans rfl; have hcz137_1 : w135.cell? ⟨gb346, 1, none⟩ = some (.int .i64 a2_1) := (Zg BK346.out 1).trans rfl; have hcz137_2 : w135.cell? ⟨gb346, 2, none⟩ = some (.slice A2_2 l2_2.length c2_2) := (Zg BK346.out 2).trans rfl; have hfz137_0 := Zl BK346.out 0; have hfz137_1 := Zl BK346.out 1; have hfz137_2 := Zl BK346.out 2))
                   have n0_ : Za (Kd.R (Kd.int .i64) 3 (w135.setCell ⟨gb346, 2, none⟩ (.slice Ao136 t419.length co136)) w.heap.size (fun _ => True) (.slice Ao136 t419.length co136) t419) := ⟨by (with_reducible repeat (first | apply Kd.Zs | apply Kd.Zt | apply Kd.Zr)); exact Kd.Zah (Kd.Zad (p := ⟨gb346, 2, none⟩) (Kd.R_types HO421.out BK346.out (by decide)) (fun _ hk => hk.2) (.slice Ao136 t419.length co136)) (fun _ hk => trivial)⟩
                   have n1_ : Za ((w135.setCell ⟨gb346, 2, none⟩ (.slice Ao136 t419.length co136)).heap[gb346]? = some (.cells #[.int .i64 a2_0, .int .i64 a2_1, .slice Ao136 t419.length co136] 98 (0, 0))) := ⟨by (with_reducible repeat (first | refine Zj ?_ _ | refine Zh ?_ | refine Zi ?_ _)); refine Zu (cs := #[.int .i64 a2_0, .int .i64 a2_1, .slice A2_2 l2_2.length c2_2]) ?_ 2 _ rfl; (with_reducible repeat (first | refine Zj ?_ _ | refine Zh ?_ | refine Zi ?_ _)); exact BK346.out⟩
                   have n2_ : Za (Below w.heap.size w (w135.setCell ⟨gb346, 2, none⟩ (.slice Ao136 t419.length co136))) := ⟨by repeat (first | (with_reducible first | exact HB.out | apply Ze | apply Zf | apply Zd | refine Zk ?_ GE346.out) | exact HB.out)⟩
                   (try clear HO421)
                   (try clear BK346)
                   (try clear HB)
                   generalize (w135.setCell ⟨gb346, 2, none⟩ (.slice Ao136 t419.length co136)) = w138 at n0_ n1_ n2_ ⊢
                   have HO421 := n0_
                   have BK346 := n1_
                   have HB := n2_
                   clear n0_ n1_ n2_
                   replace HO421 := Za.mk (Kd.Zr HO421.out)
                   replace BK346 := Za.mk (Zh BK346.out)
                   replace HB := Za.mk (Zd HB.out)
                   have q140 : ((ji130) : Int) ≤ ((l0.length : Int) : Int) := of_decide_eq_true (by assumption)
                   obtain ⟨i0140, hi0140, _, hsz140, _⟩ := info_parts info54
                   have hroom140 : l0.length ≤ c0 := HC0.out
                   have hC140 : Kd.C k54 _ (some ad347) l0.length l0 := HR0.out
                   have q0140 : (0 : Int) ≤ ((ji130) : Int) := of_decide_eq_true (by assumption)
                   have hcut140 := cut_from (P := Try.prog) 23 54 .i64 Try.underlying23 hi0140 4 hsz140 (some ad347) l0.length c0 (ji130) q0140 q140
                   have hr140 := Kd.C_drop (m := ((ji130) : Int).toNat) (c := c0) hC140 (by omega) hroom140
                   obtain ⟨A140, hA140⟩ : ∃ A1, A1 = (if c0 = ((ji130) : Int).toNat then (some ad347) else ((some ad347) : Option Addr).map (·.add (((ji130) : Int).toNat * 4))) := ⟨_, rfl⟩
                   obtain ⟨c140, hc140⟩ : ∃ c1, c1 = c0 - ((ji130) : Int).toNat := ⟨_, rfl⟩
                   have hy140 : y422.length = l0.length - ((ji130) : Int).toNat := (by rw [Ny422.out, List.length_drop] <;> omega)
                   rw [show (l0).drop ((ji130) : Int).toNat = y422 from Ny422.out.symm] at hr140
                   replace hr140 : Kd.C k54 _ A140 y422.length y422 := (by rw [hA140]; exact hr140)
                   rw [← hy140, ← hA140, ← hc140] at hcut140
                   have HR425 := Za.mk hr140
                   have HC425 := Za.mk (show y422.length ≤ c140 from by rw [hy140, hc140]; exact Nat.sub_le_sub_right hroom140 _)
                   clear hr140 hC140 hroom140 hi0140 hsz140 hc140
                   have KY140 := Za.mk hy140
                   have KA140 := Za.mk hA140
                   clear hy140 hA140
                   replace q140 := eq_true q140
                   refine start_ (n := 12) (S := fun w' => w'.cell? ⟨gb346, 0, none⟩ = some (.int .i64 a2_0) ∧ w'.cell? ⟨gb346, 1, none⟩ = some (.int .i64 a2_1) ∧ w'.cell? ⟨gb346, 2, none⟩ = some (.slice Ao136 t419.length co136)) (ds := []) #[false, false, false, false, false, false, false, false, false, false, false, false] (by kernel_rfl) rfl rfl ⟨(Zg BK346.out 0).trans rfl, (Zg BK346.out 1).trans rfl, (Zg BK346.out 2).trans rfl⟩ (fun hHeld => ?_); refine with_tabW Zz.tab40 Zz.bits40 (fun HT_ HW_ => ?_)
                   generalize w138.drew = w139 at HO421 BK346 HB HR425 hHeld ⊢
                   refine Zx (i := 0) (N := some 143) (v := ?_) (a' := ?_) #[true, false, false, false, false, false, false, false, false, false, false, false] rfl rfl (Zy HT_.out (by kernel_rfl)) (fun _ _ _ h => h) (Or.inl ⟨by rfl, ?_⟩) ?_ ?_
                   rotate_left
                   ·intro w'
                    go_simp
                    with_reducible rfl
                   rotate_left
                   ·simp only [Act.put, ZD, ZE, ZF, Zn, Zq]
                    rfl
                   refine Zx (i := 1) (N := some 144) (v := ?_) (a' := ?_) #[true, true, false, false, false, false, false, false, false, false, false, false] rfl rfl (Zy HT_.out (by kernel_rfl)) (fun _ _ _ h => h) (Or.inl ⟨by rfl, ?_⟩) ?_ ?_
                   rotate_left
                   ·intro w'
                    go_simp
                    with_reducible rfl
                   rotate_left
                   ·simp only [Act.put, ZD, ZE, ZF, Zn, Zq]
                    rfl
                   refine Zx (i := 2) (N := some 145) (v := ?_) (a' := ?_) #[true, true, true, false, false, false, false, false, false, false, false, false] rfl rfl (Zy HT_.out (by kernel_rfl)) (fun _ _ _ h => h) (Or.inl ⟨by rfl, ?_⟩) ?_ ?_
                   rotate_left
                   ·intro w'
                    go_simp
                    with_reducible rfl
                   rotate_left
                   ·simp only [Act.put, ZD, ZE, ZF, Zn, Zq]
                    rfl
                   refine Zx (i := 3) (N := some 146) (v := ?_) (a' := ?_) #[true, true, true, true, false, false, false, false, false, false, false, false] rfl rfl (Zy HT_.out (by kernel_rfl)) (fun _ _ _ h => h) (Or.inl ⟨by rfl, ?_⟩) ?_ ?_
                   rotate_left
                   ·intro w'
                    go_simp
                    with_reducible rfl
                   rotate_left
                   ·simp only [Act.put, ZD, ZE, ZF, Zn, Zq]
                    rfl
                   refine Zx (i := 4) (N := some 147) (v := ?_) (a' := ?_) #[true, true, true, true, true, false, false, false, false, false, false, false] rfl rfl (Zy HT_.out (by kernel_rfl)) (fun _ _ _ h => h) (Or.inl ⟨by rfl, ?_⟩) ?_ ?_
                   rotate_left
                   ·intro w'
                    go_simp
                    with_reducible rfl
                   rotate_left
                   ·simp only [Act.put, ZD, ZE, ZF, Zn, Zq]
                    rfl
                   refine take_ (i := 5) (N := some 148) (v := ?_) (a' := ?_) #[true, true, true, true, true, true, false, false, false, false, false, false] rfl rfl (take_ofW HT_.out HW_.out (by kernel_rfl)) (fun _ _ _ h => h) (Or.inl ⟨by rfl, ?_⟩) hHeld ?_ ?_
                   rotate_left
                   ·rintro w' ⟨s0, s1, s2⟩
                    go_simp
                    with_reducible rfl
                   rotate_left
                   ·simp only [Act.put, ZD, ZE, ZF, Zn, Zq]
                    rfl
                   refine one_ (i := 6) (N := some 149) #[true, true, true, true, true, true, true, false, false, false, false, false] rfl rfl (one_of HT_.out (by kernel_rfl)) (by decide) (fun K hK => ?_)
                   refine goes_ Try.func54 (by kernel_rfl) rfl #[.slice A140 y422.length c140, .slice A1 l1.length c1, .agg #[.int .i64 a2_0, .int .i64 a2_1, .slice Ao136 t419.length co136]] (by rfl) rfl rfl (by (try simp only [ZA, ZB, ZC]); first | done | rfl | (simp only [List.length_drop, List.length_take]; rfl)) ?_
                   with_reducible refine (ih kj8 (by have := HJ4.out; have := HJ8.out; omega) _ _ y422 _ _ l1 a2_0 a2_1 _ _ t419 t426 t427 _ ?side1 ?side2 ?side3 ?side4 ?side5 ?side6 A133.out).mono ?_
                   (case side1 => repeat (first | exact (Kd.Zaw HR425.out HB.out) | (with_reducible refine Kd.Zam ?_ _) | (with_reducible refine Kd.Zao ?_ _) | (with_reducible refine Kd.Zan ?_)))
                   (case side2 => exact HC425.out)
                   (case side3 => repeat (first | exact (Kd.Zaw HR1.out HB.out) | (with_reducible refine Kd.Zam ?_ _) | (with_reducible refine Kd.Zao ?_ _) | (with_reducible refine Kd.Zan ?_)))
                   (case side4 => exact HC1.out)
                   (case side5 => repeat (first | exact (Kd.Zag HO421.out).2.2 | (with_reducible refine Kd.Zam ?_ _) | (with_reducible refine Kd.Zao ?_ _) | (with_reducible refine Kd.Zan ?_)))
                   (case side6 => exact (Kd.Zag HO421.out).2.1)
                   rintro e w141 ⟨rfl, hb⟩
                   refine ⟨_, rfl, ?_⟩
                   replace HO421 := Za.mk (Kd.Zaq (by (with_reducible repeat (first | apply Kd.Zs | apply Kd.Zt | apply Kd.Zr)); exact HO421.out) hb)
                   replace BK346 := Za.mk (Zbd (g := gb346) (o := .cells #[.int .i64 a2_0, .int .i64 a2_1, .slice Ao136 t419.length co136] 98 (0, 0)) (by (with_reducible repeat (first | refine Zj ?_ _ | refine Zh ?_ | refine Zi ?_ _)); exact BK346.out) hb)
                   replace HB := Za.mk (Zai (by repeat (first | (with_reducible first | exact HB.out | apply Ze | apply Zf | apply Zd | refine Zk ?_ GE346.out) | exact HB.out)) hb)
                   (try clear hb)
                   (try clear hb2)
                   (try clear hk)
                   (try clear hi)
                   refine hK.out _ _ ⟨(Zg BK346.out 0).trans rfl, (Zg BK346.out 1).trans rfl, (Zg BK346.out 2).trans rfl⟩ (fun hHeld => ?_)
                   clear hK K
                   refine norm_ (a' := ?_) ?_ ?_
                   rotate_left
                   ·show Act.put _ (some 149) _ = _
                    simp only [Act.put, ZD, ZE, ZF, Zn, Zq]
                    rfl
                   refine Zx (i := 7) (N := some 142) (v := ?_) (a' := ?_) #[true, true, true, true, true, true, true, true, false, false, false, false] rfl rfl (Zy HT_.out (by kernel_rfl)) (fun _ _ _ h => h) (Or.inl ⟨by rfl, ?_⟩) ?_ ?_
                   rotate_left
                   ·intro w'
                    go_simp
                    with_reducible rfl
                   rotate_left
                   ·simp only [Act.put, ZD, ZE, ZF, Zn, Zq]
                    rfl
                   refine Zx (i := 8) (N := some 150) (v := ?_) (a' := ?_) #[true, true, true, true, true, true, true, true, true, false, false, false] rfl rfl (Zy HT_.out (by kernel_rfl)) (fun _ _ _ h => h) (Or.inl ⟨by rfl, ?_⟩) ?_ ?_
                   rotate_left
                   ·intro w'
                    go_simp
                    with_reducible rfl
                   rotate_left
                   ·simp only [Act.put, ZD, ZE, ZF, Zn, Zq]
                    rfl
                   refine Zx (i := 9) (N := some 151) (v := ?_) (a' := ?_) #[true, true, true, true, true, true, true, true, true, true, false, false] rfl rfl (Zy HT_.out (by kernel_rfl)) (fun _ _ _ h => h) (Or.inl ⟨by rfl, ?_⟩) ?_ ?_
                   rotate_left
                   ·intro w'
                    go_simp
                    with_reducible rfl
                   rotate_left
                   ·simp only [Act.put, ZD, ZE, ZF, Zn, Zq]
                    rfl
                   refine Zx (i := 10) (N := some 14) (v := ?_) (a' := ?_) #[true, true, true, true, true, true, true, true, true, true, true, false] rfl rfl (Zy HT_.out (by kernel_rfl)) (fun _ _ _ h => h) (Or.inl ⟨by rfl, ?_⟩) ?_ ?_
                   rotate_left
                   ·intro w'
                    go_simp
                    with_reducible rfl
                   rotate_left
                   ·simp only [Act.put, ZD, ZE, ZF, Zn, Zq]
                    rfl
                   refine Zx (i := 11) (N := some 15) (v := ?_) (a' := ?_) #[true, true, true, true, true, true, true, true, true, true, true, true] rfl rfl (Zy HT_.out (by kernel_rfl)) (fun _ _ _ h => h) (Or.inl ⟨by rfl, ?_⟩) ?_ ?_
                   rotate_left
                   ·intro w'
                    go_simp
                    with_reducible rfl
                   rotate_left
                   ·simp only [Act.put, ZD, ZE, ZF, Zn, Zq]
                    rfl
                   refine done_ (done_of HT_.out (by kernel_rfl)) ?_
                   try go_wp2
                   go_ret2
                   exact ⟨by first | rfl | (simp [Zo, Zp] <;> rfl) | (simp only [← hji130]; first | rfl | (simp [Zo, Zp] <;> rfl)) | (simp [*, Zo, Zp] <;> rfl), by repeat (first | (with_reducible first | exact HB.out | apply Ze | apply Zf | apply Zd | refine Zk ?_ GE346.out) | exact HB.out)⟩
                  ·rw [if_neg c132] at H
                   exact absurd H (by simp)
                 ·rw [if_neg c131] at H
                  exact absurd H (by simp)
                ·rw [if_neg c128] at H
                 have c128b0 : ((wrap64 ((Zb l0 0).f0)) == 3) = false := beq_eq_false_iff_ne.mpr c128
                 have c128b1 : ((wrap64 ((Zb l0 0).f0)) != 3) = true := bne_iff_ne.mpr c128
                 by_cases c142 : (wrap64 ((Zb l0 0).f0)) = 7
                 ·rw [if_pos c142] at H
                  have c142b0 : ((wrap64 ((Zb l0 0).f0)) == 7) = true := beq_iff_eq.mpr c142
                  have c142b1 : ((wrap64 ((Zb l0 0).f0)) != 7) = false := bne_eq_false_iff_eq.mpr c142
                  clear c142
                  obtain ⟨ji143, hji143⟩ : ∃ j_ : Int, (wrap64 1) = j_ := ⟨_, rfl⟩
                  replace H : (if 0 ≤ (ji143) then (if (ji143) ≤ (l0.length : Int) then ((Zz.f kj8 (l0.drop ((ji143) : Int).toNat) l1 a2_0 a2_0 l2_2).bind fun bt432 => (some (bt432.1, wrap64 (bt432.2 + 1)))) else (none)) else (none)) = some (r1, r2) := by first | (rw [hji143] at H; exact H) | (rw [show ((1 : Int) + 0) = 1 from rfl, hji143] at H; exact H) | (simp only [hji143] at H ⊢; exact H)
                  have hji143w : (IntKind.i64.wrap 1) = ji143 := (Zn _).trans hji143
                  by_cases c144 : 0 ≤ (ji143)
                  ·rw [if_pos c144] at H
                   have c144b0 := eq_true c144
                   have c144b1 : decide (0 ≤ (ji143)) = true := decide_eq_true c144
                   clear c144
                   by_cases c145 : (ji143) ≤ (l0.length : Int)
                   ·rw [if_pos c145] at H
                    have c145b0 := eq_true c145
                    have c145b1 : decide ((ji143) ≤ (l0.length : Int)) = true := decide_eq_true c145
                    clear c145
                    obtain ⟨y428, hy428⟩ : ∃ y_ : List (S54), y_ = (l0.drop ((ji143) : Int).toNat) := ⟨_, rfl⟩
                    replace H : ((Zz.f kj8 y428 l1 a2_0 a2_0 l2_2).bind fun bt432 => (some (bt432.1, wrap64 (bt432.2 + 1)))) = some (r1, r2) := by first | (rw [hy428]; with_reducible exact H) | (have H2_ := (Option.bind_some _ _).symm.trans H; rw [hy428]; with_reducible exact H2_) | (have H2_ := (Option.bind_some _ _).symm.trans H; with_reducible exact H2_) | with_reducible exact H | (rw [hy428]; exact H) | exact H
                    have Ny428 := Za.mk hy428
                    clear hy428
                    replace H := Option.bind_eq_some_iff.mp H
                    obtain ⟨⟨t432, t433⟩, A1460, H⟩ := H
                    (try dsimp only at H)
                    have A146 := Za.mk A1460
                    clear A1460
                    simp only [Option.some.injEq, Prod.mk.injEq] at H
                    obtain ⟨rfl, rfl⟩ := H
                    have hcz147_0 : wc.cell? ⟨gb346, 0, none⟩ = some (.int .i64 a2_0) := (Zg BK346.out 0).trans rfl
                    have hcz147_1 : wc.cell? ⟨gb346, 1, none⟩ = some (.int .i64 a2_1) := (Zg BK346.out 1).trans rfl
                    have hcz147_2 : wc.cell? ⟨gb346, 2, none⟩ = some (.slice A2_2 l2_2.length c2_2) := (Zg BK346.out 2).trans rfl
                    have hfz147_0 := Zl BK346.out 0
                    have hfz147_1 := Zl BK346.out 1
                    have hfz147_2 := Zl BK346.out 2
                    try go_wp2
                    have n0_ : Za ((wc.setCell ⟨gb346, 1, none⟩ (.int .i64 a2_0)).heap[gb346]? = some (.cells #[.int .i64 a2_0, .int .i64 a2_0, .slice A2_2 l2_2.length c2_2] 98 (0, 0))) := ⟨by (with_reducible repeat (first | refine Zj ?_ _ | refine Zh ?_ | refine Zi ?_ _)); refine Zu (cs := #[.int .i64 a2_0, .int .i64 a2_1, .slice A2_2 l2_2.length c2_2]) ?_ 1 _ rfl; (with_reducible repeat (first | refine Zj ?_ _ | refine Zh ?_ | refine Zi ?_ _)); exact BK346.out⟩
                    have n1_ : Za (Below w.heap.size w (wc.setCell ⟨gb346, 1, none⟩ (.int .i64 a2_0))) := ⟨by repeat (first | (with_reducible first | exact HB.out | apply Ze | apply Zf | apply Zd | refine Zk ?_ GE346.out) | exact HB.out)⟩
                    (try clear BK346)
                    (try clear HB)
                    generalize (wc.setCell ⟨gb346, 1, none⟩ (.int .i64 a2_0)) = w148 at n0_ n1_ ⊢
                    have BK346 := n0_
                    have HB := n1_
                    clear n0_ n1_
                    replace BK346 := Za.mk (Zh BK346.out)
                    replace HB := Za.mk (Zd HB.out)
                    have q150 : ((ji143) : Int) ≤ ((l0.length : Int) : Int) := of_decide_eq_true (by assumption)
                    obtain ⟨i0150, hi0150, _, hsz150, _⟩ := info_parts info54
                    have hroom150 : l0.length ≤ c0 := HC0.out
                    have hC150 : Kd.C k54 _ (some ad347) l0.length l0 := HR0.out
                    have q0150 : (0 : Int) ≤ ((ji143) : Int) := of_decide_eq_true (by assumption)
                    have hcut150 := cut_from (P := Try.prog) 23 54 .i64 Try.underlying23 hi0150 4 hsz150 (some ad347) l0.length c0 (ji143) q0150 q150
                    have hr150 := Kd.C_drop (m := ((ji143) : Int).toNat) (c := c0) hC150 (by omega) hroom150
                    obtain ⟨A150, hA150⟩ : ∃ A1, A1 = (if c0 = ((ji143) : Int).toNat then (some ad347) else ((some ad347) : Option Addr).map (·.add (((ji143) : Int).toNat * 4))) := ⟨_, rfl⟩
                    obtain ⟨c150, hc150⟩ : ∃ c1, c1 = c0 - ((ji143) : Int).toNat := ⟨_, rfl⟩
                    have hy150 : y428.length = l0.length - ((ji143) : Int).toNat := (by rw [Ny428.out, List.length_drop] <;> omega)
                    rw [show (l0).drop ((ji143) : Int).toNat = y428 from Ny428.out.symm] at hr150
                    replace hr150 : Kd.C k54 _ A150 y428.length y428 := (by rw [hA150]; exact hr150)
                    rw [← hy150, ← hA150, ← hc150] at hcut150
                    have HR431 := Za.mk hr150
                    have HC431 := Za.mk (show y428.length ≤ c150 from by rw [hy150, hc150]; exact Nat.sub_le_sub_right hroom150 _)
                    clear hr150 hC150 hroom150 hi0150 hsz150 hc150
                    have KY150 := Za.mk hy150
                    have KA150 := Za.mk hA150
                    clear hy150 hA150
                    replace q150 := eq_true q150
                    refine start_ (n := 12) (S := fun w' => w'.cell? ⟨gb346, 0, none⟩ = some (.int .i64 a2_0) ∧ w'.cell? ⟨gb346, 1, none⟩ = some (.int .i64 a2_0) ∧ w'.cell? ⟨gb346, 2, none⟩ = some (.slice A2_2 l2_2.length c2_2)) (ds := []) #[false, false, false, false, false, false, false, false, false, false, false, false] (by kernel_rfl) rfl rfl ⟨(Zg BK346.out 0).trans rfl, (Zg BK346.out 1).trans rfl, (Zg BK346.out 2).trans rfl⟩ (fun hHeld => ?_); refine with_tabW Zz.tab40 Zz.bits40 (fun HT_ HW_ => ?_)
                    generalize w148.drew = w149 at BK346 HB HR431 hHeld ⊢
                    refine Zx (i := 0) (N := some 143) (v := ?_) (a' := ?_) #[true, false, false, false, false, false, false, false, false, false, false, false] rfl rfl (Zy HT_.out (by kernel_rfl)) (fun _ _ _ h => h) (Or.inl ⟨by rfl, ?_⟩) ?_ ?_
                    rotate_left
                    ·intro w'
                     go_simp
                     with_reducible rfl
                    rotate_left
                    ·simp only [Act.put, ZD, ZE, ZF, Zn, Zq]
                     rfl
                    refine Zx (i := 1) (N := some 144) (v := ?_) (a' := ?_) #[true, true, false, false, false, false, false, false, false, false, false, false] rfl rfl (Zy HT_.out (by kernel_rfl)) (fun _ _ _ h => h) (Or.inl ⟨by rfl, ?_⟩) ?_ ?_
                    rotate_left
                    ·intro w'
                     go_simp
                     with_reducible rfl
                    rotate_left
                    ·simp only [Act.put, ZD, ZE, ZF, Zn, Zq]
                     rfl
                    refine Zx (i := 2) (N := some 145) (v := ?_) (a' := ?_) #[true, true, true, false, false, false, false, false, false, false, false, false] rfl rfl (Zy HT_.out (by kernel_rfl)) (fun _ _ _ h => h) (Or.inl ⟨by rfl, ?_⟩) ?_ ?_
                    rotate_left
                    ·intro w'
                     go_simp
                     with_reducible rfl
                    rotate_left
                    ·simp only [Act.put, ZD, ZE, ZF, Zn, Zq]
                     rfl
                    refine Zx (i := 3) (N := some 146) (v := ?_) (a' := ?_) #[true, true, true, true, false, false, false, false, false, false, false, false] rfl rfl (Zy HT_.out (by kernel_rfl)) (fun _ _ _ h => h) (Or.inl ⟨by rfl, ?_⟩) ?_ ?_
                    rotate_left
                    ·intro w'
                     go_simp
                     with_reducible rfl
                    rotate_left
                    ·simp only [Act.put, ZD, ZE, ZF, Zn, Zq]
                     rfl
                    refine Zx (i := 4) (N := some 147) (v := ?_) (a' := ?_) #[true, true, true, true, true, false, false, false, false, false, false, false] rfl rfl (Zy HT_.out (by kernel_rfl)) (fun _ _ _ h => h) (Or.inl ⟨by rfl, ?_⟩) ?_ ?_
                    rotate_left
                    ·intro w'
                     go_simp
                     with_reducible rfl
                    rotate_left
                    ·simp only [Act.put, ZD, ZE, ZF, Zn, Zq]
                     rfl
                    refine take_ (i := 5) (N := some 148) (v := ?_) (a' := ?_) #[true, true, true, true, true, true, false, false, false, false, false, false] rfl rfl (take_ofW HT_.out HW_.out (by kernel_rfl)) (fun _ _ _ h => h) (Or.inl ⟨by rfl, ?_⟩) hHeld ?_ ?_
                    rotate_left
                    ·rintro w' ⟨s0, s1, s2⟩
                     go_simp
                     with_reducible rfl
                    rotate_left
                    ·simp only [Act.put, ZD, ZE, ZF, Zn, Zq]
                     rfl
                    refine one_ (i := 6) (N := some 149) #[true, true, true, true, true, true, true, false, false, false, false, false] rfl rfl (one_of HT_.out (by kernel_rfl)) (by decide) (fun K hK => ?_)
                    refine goes_ Try.func54 (by kernel_rfl) rfl #[.slice A150 y428.length c150, .slice A1 l1.length c1, .agg #[.int .i64 a2_0, .int .i64 a2_0, .slice A2_2 l2_2.length c2_2]] (by rfl) rfl rfl (by (try simp only [ZA, ZB, ZC]); first | done | rfl | (simp only [List.length_drop, List.length_take]; rfl)) ?_
                    with_reducible refine (ih kj8 (by have := HJ4.out; have := HJ8.out; omega) _ _ y428 _ _ l1 a2_0 a2_0 _ _ l2_2 t432 t433 _ ?side1 ?side2 ?side3 ?side4 ?side5 ?side6 A146.out).mono ?_
                    (case side1 => repeat (first | exact (Kd.Zaw HR431.out HB.out) | (with_reducible refine Kd.Zam ?_ _) | (with_reducible refine Kd.Zao ?_ _) | (with_reducible refine Kd.Zan ?_)))
                    (case side2 => exact HC431.out)
                    (case side3 => repeat (first | exact (Kd.Zaw HR1.out HB.out) | (with_reducible refine Kd.Zam ?_ _) | (with_reducible refine Kd.Zao ?_ _) | (with_reducible refine Kd.Zan ?_)))
                    (case side4 => exact HC1.out)
                    (case side5 => repeat (first | exact (Kd.Zaw HR2_2.out HB.out) | (with_reducible refine Kd.Zam ?_ _) | (with_reducible refine Kd.Zao ?_ _) | (with_reducible refine Kd.Zan ?_)))
                    (case side6 => exact HC2_2.out)
                    rintro e w151 ⟨rfl, hb⟩
                    refine ⟨_, rfl, ?_⟩
                    replace BK346 := Za.mk (Zbd (g := gb346) (o := .cells #[.int .i64 a2_0, .int .i64 a2_0, .slice A2_2 l2_2.length c2_2] 98 (0, 0)) (by (with_reducible repeat (first | refine Zj ?_ _ | refine Zh ?_ | refine Zi ?_ _)); exact BK346.out) hb)
                    replace HB := Za.mk (Zai (by repeat (first | (with_reducible first | exact HB.out | apply Ze | apply Zf | apply Zd | refine Zk ?_ GE346.out) | exact HB.out)) hb)
                    (try clear hb)
                    (try clear hb2)
                    (try clear hk)
                    (try clear hi)
                    refine hK.out _ _ ⟨(Zg BK346.out 0).trans rfl, (Zg BK346.out 1).trans rfl, (Zg BK346.out 2).trans rfl⟩ (fun hHeld => ?_)
                    clear hK K
                    refine norm_ (a' := ?_) ?_ ?_
                    rotate_left
                    ·show Act.put _ (some 149) _ = _
                     simp only [Act.put, ZD, ZE, ZF, Zn, Zq]
                     rfl
                    refine Zx (i := 7) (N := some 142) (v := ?_) (a' := ?_) #[true, true, true, true, true, true, true, true, false, false, false, false] rfl rfl (Zy HT_.out (by kernel_rfl)) (fun _ _ _ h => h) (Or.inl ⟨by rfl, ?_⟩) ?_ ?_
                    rotate_left
                    ·intro w'
                     go_simp
                     with_reducible rfl
                    rotate_left
                    ·simp only [Act.put, ZD, ZE, ZF, Zn, Zq]
                     rfl
                    refine Zx (i := 8) (N := some 150) (v := ?_) (a' := ?_) #[true, true, true, true, true, true, true, true, true, false, false, false] rfl rfl (Zy HT_.out (by kernel_rfl)) (fun _ _ _ h => h) (Or.inl ⟨by rfl, ?_⟩) ?_ ?_
                    rotate_left
                    ·intro w'
                     go_simp
                     with_reducible rfl
                    rotate_left
                    ·simp only [Act.put, ZD, ZE, ZF, Zn, Zq]
                     rfl
                    refine Zx (i := 9) (N := some 151) (v := ?_) (a' := ?_) #[true, true, true, true, true, true, true, true, true, true, false, false] rfl rfl (Zy HT_.out (by kernel_rfl)) (fun _ _ _ h => h) (Or.inl ⟨by rfl, ?_⟩) ?_ ?_
                    rotate_left
                    ·intro w'
                     go_simp
                     with_reducible rfl
                    rotate_left
                    ·simp only [Act.put, ZD, ZE, ZF, Zn, Zq]
                     rfl
                    refine Zx (i := 10) (N := some 14) (v := ?_) (a' := ?_) #[true, true, true, true, true, true, true, true, true, true, true, false] rfl rfl (Zy HT_.out (by kernel_rfl)) (fun _ _ _ h => h) (Or.inl ⟨by rfl, ?_⟩) ?_ ?_
                    rotate_left
                    ·intro w'
                     go_simp
                     with_reducible rfl
                    rotate_left
                    ·simp only [Act.put, ZD, ZE, ZF, Zn, Zq]
                     rfl
                    refine Zx (i := 11) (N := some 15) (v := ?_) (a' := ?_) #[true, true, true, true, true, true, true, true, true, true, true, true] rfl rfl (Zy HT_.out (by kernel_rfl)) (fun _ _ _ h => h) (Or.inl ⟨by rfl, ?_⟩) ?_ ?_
                    rotate_left
                    ·intro w'
                     go_simp
                     with_reducible rfl
                    rotate_left
                    ·simp only [Act.put, ZD, ZE, ZF, Zn, Zq]
                     rfl
                    refine done_ (done_of HT_.out (by kernel_rfl)) ?_
                    try go_wp2
                    go_ret2
                    exact ⟨by first | rfl | (simp [Zo, Zp] <;> rfl) | (simp only [← hji143]; first | rfl | (simp [Zo, Zp] <;> rfl)) | (simp [*, Zo, Zp] <;> rfl), by repeat (first | (with_reducible first | exact HB.out | apply Ze | apply Zf | apply Zd | refine Zk ?_ GE346.out) | exact HB.out)⟩
                   ·rw [if_neg c145] at H
                    exact absurd H (by simp)
                  ·rw [if_neg c144] at H
                   exact absurd H (by simp)
                 ·rw [if_neg c142] at H
                  have c142b0 : ((wrap64 ((Zb l0 0).f0)) == 7) = false := beq_eq_false_iff_ne.mpr c142
                  have c142b1 : ((wrap64 ((Zb l0 0).f0)) != 7) = true := bne_iff_ne.mpr c142
                  obtain ⟨ji152, hji152⟩ : ∃ j_ : Int, (wrap64 1) = j_ := ⟨_, rfl⟩
                  replace H : (if 0 ≤ (ji152) then (if (ji152) ≤ (l0.length : Int) then ((Zz.f kj8 (l0.drop ((ji152) : Int).toNat) l1 a2_1 a2_1 l2_2).bind fun bt438 => (some (bt438.1, wrap64 (bt438.2 + 1)))) else (none)) else (none)) = some (r1, r2) := by first | (rw [hji152] at H; exact H) | (rw [show ((1 : Int) + 0) = 1 from rfl, hji152] at H; exact H) | (simp only [hji152] at H ⊢; exact H)
                  have hji152w : (IntKind.i64.wrap 1) = ji152 := (Zn _).trans hji152
                  by_cases c153 : 0 ≤ (ji152)
                  ·rw [if_pos c153] at H
                   have c153b0 := eq_true c153
                   have c153b1 : decide (0 ≤ (ji152)) = true := decide_eq_true c153
                   clear c153
                   by_cases c154 : (ji152) ≤ (l0.length : Int)
                   ·rw [if_pos c154] at H
                    have c154b0 := eq_true c154
                    have c154b1 : decide ((ji152) ≤ (l0.length : Int)) = true := decide_eq_true c154
                    clear c154
                    obtain ⟨y434, hy434⟩ : ∃ y_ : List (S54), y_ = (l0.drop ((ji152) : Int).toNat) := ⟨_, rfl⟩
                    replace H : ((Zz.f kj8 y434 l1 a2_1 a2_1 l2_2).bind fun bt438 => (some (bt438.1, wrap64 (bt438.2 + 1)))) = some (r1, r2) := by first | (rw [hy434]; with_reducible exact H) | (have H2_ := (Option.bind_some _ _).symm.trans H; rw [hy434]; with_reducible exact H2_) | (have H2_ := (Option.bind_some _ _).symm.trans H; with_reducible exact H2_) | with_reducible exact H | (rw [hy434]; exact H) | exact H
                    have Ny434 := Za.mk hy434
                    clear hy434
                    replace H := Option.bind_eq_some_iff.mp H
                    obtain ⟨⟨t438, t439⟩, A1550, H⟩ := H
                    (try dsimp only at H)
                    have A155 := Za.mk A1550
                    clear A1550
                    simp only [Option.some.injEq, Prod.mk.injEq] at H
                    obtain ⟨rfl, rfl⟩ := H
                    have hcz156_0 : wc.cell? ⟨gb346, 0, none⟩ = some (.int .i64 a2_0) := (Zg BK346.out 0).trans rfl
                    have hcz156_1 : wc.cell? ⟨gb346, 1, none⟩ = some (.int .i64 a2_1) := (Zg BK346.out 1).trans rfl
                    have hcz156_2 : wc.cell? ⟨gb346, 2, none⟩ = some (.slice A2_2 l2_2.length c2_2) := (Zg BK346.out 2).trans rfl
                    have hfz156_0 := Zl BK346.out 0
                    have hfz156_1 := Zl BK346.out 1
                    have hfz156_2 := Zl BK346.out 2
                    try go_wp2
                    have n0_ : Za ((wc.setCell ⟨gb346, 0, none⟩ (.int .i64 a2_1)).heap[gb346]? = some (.cells #[.int .i64 a2_1, .int .i64 a2_1, .slice A2_2 l2_2.length c2_2] 98 (0, 0))) := ⟨by (with_reducible repeat (first | refine Zj ?_ _ | refine Zh ?_ | refine Zi ?_ _)); refine Zu (cs := #[.int .i64 a2_0, .int .i64 a2_1, .slice A2_2 l2_2.length c2_2]) ?_ 0 _ rfl; (with_reducible repeat (first | refine Zj ?_ _ | refine Zh ?_ | refine Zi ?_ _)); exact BK346.out⟩
                    have n1_ : Za (Below w.heap.size w (wc.setCell ⟨gb346, 0, none⟩ (.int .i64 a2_1))) := ⟨by repeat (first | (with_reducible first | exact HB.out | apply Ze | apply Zf | apply Zd | refine Zk ?_ GE346.out) | exact HB.out)⟩
                    (try clear BK346)
                    (try clear HB)
                    generalize (wc.setCell ⟨gb346, 0, none⟩ (.int .i64 a2_1)) = w157 at n0_ n1_ ⊢
                    have BK346 := n0_
                    have HB := n1_
                    clear n0_ n1_
                    replace BK346 := Za.mk (Zh BK346.out)
                    replace HB := Za.mk (Zd HB.out)
                    have q159 : ((ji152) : Int) ≤ ((l0.length : Int) : Int) := of_decide_eq_true (by assumption)
                    obtain ⟨i0159, hi0159, _, hsz159, _⟩ := info_parts info54
                    have hroom159 : l0.length ≤ c0 := HC0.out
                    have hC159 : Kd.C k54 _ (some ad347) l0.length l0 := HR0.out
                    have q0159 : (0 : Int) ≤ ((ji152) : Int) := of_decide_eq_true (by assumption)
                    have hcut159 := cut_from (P := Try.prog) 23 54 .i64 Try.underlying23 hi0159 4 hsz159 (some ad347) l0.length c0 (ji152) q0159 q159
                    have hr159 := Kd.C_drop (m := ((ji152) : Int).toNat) (c := c0) hC159 (by omega) hroom159
                    obtain ⟨A159, hA159⟩ : ∃ A1, A1 = (if c0 = ((ji152) : Int).toNat then (some ad347) else ((some ad347) : Option Addr).map (·.add (((ji152) : Int).toNat * 4))) := ⟨_, rfl⟩
                    obtain ⟨c159, hc159⟩ : ∃ c1, c1 = c0 - ((ji152) : Int).toNat := ⟨_, rfl⟩
                    have hy159 : y434.length = l0.length - ((ji152) : Int).toNat := (by rw [Ny434.out, List.length_drop] <;> omega)
                    rw [show (l0).drop ((ji152) : Int).toNat = y434 from Ny434.out.symm] at hr159
                    replace hr159 : Kd.C k54 _ A159 y434.length y434 := (by rw [hA159]; exact hr159)
                    rw [← hy159, ← hA159, ← hc159] at hcut159
                    have HR437 := Za.mk hr159
                    have HC437 := Za.mk (show y434.length ≤ c159 from by rw [hy159, hc159]; exact Nat.sub_le_sub_right hroom159 _)
                    clear hr159 hC159 hroom159 hi0159 hsz159 hc159
                    have KY159 := Za.mk hy159
                    have KA159 := Za.mk hA159
                    clear hy159 hA159
                    replace q159 := eq_true q159
                    refine start_ (n := 12) (S := fun w' => w'.cell? ⟨gb346, 0, none⟩ = some (.int .i64 a2_1) ∧ w'.cell? ⟨gb346, 1, none⟩ = some (.int .i64 a2_1) ∧ w'.cell? ⟨gb346, 2, none⟩ = some (.slice A2_2 l2_2.length c2_2)) (ds := []) #[false, false, false, false, false, false, false, false, false, false, false, false] (by kernel_rfl) rfl rfl ⟨(Zg BK346.out 0).trans rfl, (Zg BK346.out 1).trans rfl, (Zg BK346.out 2).trans rfl⟩ (fun hHeld => ?_); refine with_tabW Zz.tab40 Zz.bits40 (fun HT_ HW_ => ?_)
                    generalize w157.drew = w158 at BK346 HB HR437 hHeld ⊢
                    refine Zx (i := 0) (N := some 143) (v := ?_) (a' := ?_) #[true, false, false, false, false, false, false, false, false, false, false, false] rfl rfl (Zy HT_.out (by kernel_rfl)) (fun _ _ _ h => h) (Or.inl ⟨by rfl, ?_⟩) ?_ ?_
                    rotate_left
                    ·intro w'
                     go_simp
                     with_reducible rfl
                    rotate_left
                    ·simp only [Act.put, ZD, ZE, ZF, Zn, Zq]
                     rfl
                    refine Zx (i := 1) (N := some 144) (v := ?_) (a' := ?_) #[true, true, false, false, false, false, false, false, false, false, false, false] rfl rfl (Zy HT_.out (by kernel_rfl)) (fun _ _ _ h => h) (Or.inl ⟨by rfl, ?_⟩) ?_ ?_
                    rotate_left
                    ·intro w'
                     go_simp
                     with_reducible rfl
                    rotate_left
                    ·simp only [Act.put, ZD, ZE, ZF, Zn, Zq]
                     rfl
                    refine Zx (i := 2) (N := some 145) (v := ?_) (a' := ?_) #[true, true, true, false, false, false, false, false, false, false, false, false] rfl rfl (Zy HT_.out (by kernel_rfl)) (fun _ _ _ h => h) (Or.inl ⟨by rfl, ?_⟩) ?_ ?_
                    rotate_left
                    ·intro w'
                     go_simp
                     with_reducible rfl
                    rotate_left
                    ·simp only [Act.put, ZD, ZE, ZF, Zn, Zq]
                     rfl
                    refine Zx (i := 3) (N := some 146) (v := ?_) (a' := ?_) #[true, true, true, true, false, false, false, false, false, false, false, false] rfl rfl (Zy HT_.out (by kernel_rfl)) (fun _ _ _ h => h) (Or.inl ⟨by rfl, ?_⟩) ?_ ?_
                    rotate_left
                    ·intro w'
                     go_simp
                     with_reducible rfl
                    rotate_left
                    ·simp only [Act.put, ZD, ZE, ZF, Zn, Zq]
                     rfl
                    refine Zx (i := 4) (N := some 147) (v := ?_) (a' := ?_) #[true, true, true, true, true, false, false, false, false, false, false, false] rfl rfl (Zy HT_.out (by kernel_rfl)) (fun _ _ _ h => h) (Or.inl ⟨by rfl, ?_⟩) ?_ ?_
                    rotate_left
                    ·intro w'
                     go_simp
                     with_reducible rfl
                    rotate_left
                    ·simp only [Act.put, ZD, ZE, ZF, Zn, Zq]
                     rfl
                    refine take_ (i := 5) (N := some 148) (v := ?_) (a' := ?_) #[true, true, true, true, true, true, false, false, false, false, false, false] rfl rfl (take_ofW HT_.out HW_.out (by kernel_rfl)) (fun _ _ _ h => h) (Or.inl ⟨by rfl, ?_⟩) hHeld ?_ ?_
                    rotate_left
                    ·rintro w' ⟨s0, s1, s2⟩
                     go_simp
                     with_reducible rfl
                    rotate_left
                    ·simp only [Act.put, ZD, ZE, ZF, Zn, Zq]
                     rfl
                    refine one_ (i := 6) (N := some 149) #[true, true, true, true, true, true, true, false, false, false, false, false] rfl rfl (one_of HT_.out (by kernel_rfl)) (by decide) (fun K hK => ?_)
                    refine goes_ Try.func54 (by kernel_rfl) rfl #[.slice A159 y434.length c159, .slice A1 l1.length c1, .agg #[.int .i64 a2_1, .int .i64 a2_1, .slice A2_2 l2_2.length c2_2]] (by rfl) rfl rfl (by (try simp only [ZA, ZB, ZC]); first | done | rfl | (simp only [List.length_drop, List.length_take]; rfl)) ?_
                    with_reducible refine (ih kj8 (by have := HJ4.out; have := HJ8.out; omega) _ _ y434 _ _ l1 a2_1 a2_1 _ _ l2_2 t438 t439 _ ?side1 ?side2 ?side3 ?side4 ?side5 ?side6 A155.out).mono ?_
                    (case side1 => repeat (first | exact (Kd.Zaw HR437.out HB.out) | (with_reducible refine Kd.Zam ?_ _) | (with_reducible refine Kd.Zao ?_ _) | (with_reducible refine Kd.Zan ?_)))
                    (case side2 => exact HC437.out)
                    (case side3 => repeat (first | exact (Kd.Zaw HR1.out HB.out) | (with_reducible refine Kd.Zam ?_ _) | (with_reducible refine Kd.Zao ?_ _) | (with_reducible refine Kd.Zan ?_)))
                    (case side4 => exact HC1.out)
                    (case side5 => repeat (first | exact (Kd.Zaw HR2_2.out HB.out) | (with_reducible refine Kd.Zam ?_ _) | (with_reducible refine Kd.Zao ?_ _) | (with_reducible refine Kd.Zan ?_)))
                    (case side6 => exact HC2_2.out)
                    rintro e w160 ⟨rfl, hb⟩
                    refine ⟨_, rfl, ?_⟩
                    replace BK346 := Za.mk (Zbd (g := gb346) (o := .cells #[.int .i64 a2_1, .int .i64 a2_1, .slice A2_2 l2_2.length c2_2] 98 (0, 0)) (by (with_reducible repeat (first | refine Zj ?_ _ | refine Zh ?_ | refine Zi ?_ _)); exact BK346.out) hb)
                    replace HB := Za.mk (Zai (by repeat (first | (with_reducible first | exact HB.out | apply Ze | apply Zf | apply Zd | refine Zk ?_ GE346.out) | exact HB.out)) hb)
                    (try clear hb)
                    (try clear hb2)
                    (try clear hk)
                    (try clear hi)
                    refine hK.out _ _ ⟨(Zg BK346.out 0).trans rfl, (Zg BK346.out 1).trans rfl, (Zg BK346.out 2).trans rfl⟩ (fun hHeld => ?_)
                    clear hK K
                    refine norm_ (a' := ?_) ?_ ?_
                    rotate_left
                    ·show Act.put _ (some 149) _ = _
                     simp only [Act.put, ZD, ZE, ZF, Zn, Zq]
                     rfl
                    refine Zx (i := 7) (N := some 142) (v := ?_) (a' := ?_) #[true, true, true, true, true, true, true, true, false, false, false, false] rfl rfl (Zy HT_.out (by kernel_rfl)) (fun _ _ _ h => h) (Or.inl ⟨by rfl, ?_⟩) ?_ ?_
                    rotate_left
                    ·intro w'
                     go_simp
                     with_reducible rfl
                    rotate_left
                    ·simp only [Act.put, ZD, ZE, ZF, Zn, Zq]
                     rfl
                    refine Zx (i := 8) (N := some 150) (v := ?_) (a' := ?_) #[true, true, true, true, true, true, true, true, true, false, false, false] rfl rfl (Zy HT_.out (by kernel_rfl)) (fun _ _ _ h => h) (Or.inl ⟨by rfl, ?_⟩) ?_ ?_
                    rotate_left
                    ·intro w'
                     go_simp
                     with_reducible rfl
                    rotate_left
                    ·simp only [Act.put, ZD, ZE, ZF, Zn, Zq]
                     rfl
                    refine Zx (i := 9) (N := some 151) (v := ?_) (a' := ?_) #[true, true, true, true, true, true, true, true, true, true, false, false] rfl rfl (Zy HT_.out (by kernel_rfl)) (fun _ _ _ h => h) (Or.inl ⟨by rfl, ?_⟩) ?_ ?_
                    rotate_left
                    ·intro w'
                     go_simp
                     with_reducible rfl
                    rotate_left
                    ·simp only [Act.put, ZD, ZE, ZF, Zn, Zq]
                     rfl
                    refine Zx (i := 10) (N := some 14) (v := ?_) (a' := ?_) #[true, true, true, true, true, true, true, true, true, true, true, false] rfl rfl (Zy HT_.out (by kernel_rfl)) (fun _ _ _ h => h) (Or.inl ⟨by rfl, ?_⟩) ?_ ?_
                    rotate_left
                    ·intro w'
                     go_simp
                     with_reducible rfl
                    rotate_left
                    ·simp only [Act.put, ZD, ZE, ZF, Zn, Zq]
                     rfl
                    refine Zx (i := 11) (N := some 15) (v := ?_) (a' := ?_) #[true, true, true, true, true, true, true, true, true, true, true, true] rfl rfl (Zy HT_.out (by kernel_rfl)) (fun _ _ _ h => h) (Or.inl ⟨by rfl, ?_⟩) ?_ ?_
                    rotate_left
                    ·intro w'
                     go_simp
                     with_reducible rfl
                    rotate_left
                    ·simp only [Act.put, ZD, ZE, ZF, Zn, Zq]
                     rfl
                    refine done_ (done_of HT_.out (by kernel_rfl)) ?_
                    try go_wp2
                    go_ret2
                    exact ⟨by first | rfl | (simp [Zo, Zp] <;> rfl) | (simp only [← hji152]; first | rfl | (simp [Zo, Zp] <;> rfl)) | (simp [*, Zo, Zp] <;> rfl), by repeat (first | (with_reducible first | exact HB.out | apply Ze | apply Zf | apply Zd | refine Zk ?_ GE346.out) | exact HB.out)⟩
                   ·rw [if_neg c154] at H
                    exact absurd H (by simp)
                  ·rw [if_neg c153] at H
                   exact absurd H (by simp)
 ·rw [if_neg c4] at H
  exact absurd H (by simp)

end Go.Proofs.Ytgodbniphkfgfaa.P
