import Derived.Test.YtjpjfkmnfppgkaaGFnExactDistinct6
import Derived.Test.YtjpjfkmnfppgkaaGFnExactDistinct9
import Derived.Test.YtjpjfkmnfppgkaaGFnExactDistinct8
namespace Go.Proofs.Ytjpjfkmnfppgkaa.P
open Go.RowKit Go.Proofs.YtjpjfkmnfppgkaaW.PrintWords Go.Proofs.YtjpjfkmnfppgkaaW.PrintLast Go.Proofs.YtjpjfkmnfppgkaaW.PrintMore
attribute [local go_sem] max2_int min2_int max_two min_two max_three min_three max_four min_four
set_option linter.unusedVariables false
set_option linter.unusedSimpArgs false

mutual
def Zp.l0 : Nat → List (S35) → List (S35) → Int → Option ((List (S35)))
  | 0, _, _, _ => none
  | k + 1, x0, x3, x4 => if x4 < (x0.length : Int) then (if 0 ≤ x4 then ((spec_l2copy.f ((Zb x0 x4).f0) ((Zb x0 x4).f1) ((Zb x0 x4).f2)).bind fun bt117 => (if x3.length < 4398046511104 then (Zp.l0 k x0 (x3 ++ [(⟨bt117.1, bt117.2.1, bt117.2.2⟩ : S35)]) (wrap64 (x4 + 1))) else (none))) else (none)) else (some x3)
def Zp.l1 : Nat → List (S35) → List (S35) → List (S35) → Int → Int → Option ((List (S35)))
  | 0, _, _, _, _, _ => none
  | k + 1, x3, x5, x6, x7, x8 => if x7 < (x5.length : Int) then (Zp.j2 k x3 x5 x6 x7 x8 true) else (Zp.j2 k x3 x5 x6 x7 x8 (decide (x8 < (x6.length : Int))))
def Zp.j2 : Nat → List (S35) → List (S35) → List (S35) → Int → Int → Bool → Option ((List (S35)))
  | 0, _, _, _, _, _, _ => none
  | k + 1, x3, x5, x6, x7, x8, x49 => if x49 = true then (if x8 ≥ (x6.length : Int) then (Zp.j3 k x3 x5 x6 x7 x8 true) else (if x7 < (x5.length : Int) then (if 0 ≤ x7 then (if 0 ≤ x8 then (if x8 < (x6.length : Int) then ((Zag.f k ((Zb x5 x7).f0) ((Zb x5 x7).f1) ((Zb x5 x7).f2) ((Zb x6 x8).f0) ((Zb x6 x8).f1) ((Zb x6 x8).f2)).bind fun t142 => (Zp.j3 k x3 x5 x6 x7 x8 (decide (t142 ≤ 0)))) else (none)) else (none)) else (none)) else (Zp.j3 k x3 x5 x6 x7 x8 false))) else (some x3)
def Zp.j3 : Nat → List (S35) → List (S35) → List (S35) → Int → Int → Bool → Option ((List (S35)))
  | 0, _, _, _, _, _, _ => none
  | k + 1, x3, x5, x6, x7, x8, x71 => if x71 = true then (if 0 ≤ x7 then (if x7 < (x5.length : Int) then (if (x3.length : Int) = 0 then (if x3.length < 4398046511104 then (Zp.l1 k (x3 ++ [(⟨(Zb x5 x7).f0, (Zb x5 x7).f1, (Zb x5 x7).f2⟩ : S35)]) x5 x6 (wrap64 (x7 + 1)) x8) else (none)) else (if 0 ≤ (wrap64 ((x3.length : Int) - 1)) then (if (wrap64 ((x3.length : Int) - 1)) < (x3.length : Int) then ((Zag.f k ((Zb x3 (wrap64 ((x3.length : Int) - 1))).f0) ((Zb x3 (wrap64 ((x3.length : Int) - 1))).f1) ((Zb x3 (wrap64 ((x3.length : Int) - 1))).f2) ((Zb x5 x7).f0) ((Zb x5 x7).f1) ((Zb x5 x7).f2)).bind fun t148 => (if t148 = 0 then (Zp.l1 k x3 x5 x6 (wrap64 (x7 + 1)) x8) else (if x3.length < 4398046511104 then (Zp.l1 k (x3 ++ [(⟨(Zb x5 x7).f0, (Zb x5 x7).f1, (Zb x5 x7).f2⟩ : S35)]) x5 x6 (wrap64 (x7 + 1)) x8) else (none)))) else (none)) else (none))) else (none)) else (none)) else (if 0 ≤ x8 then (if x8 < (x6.length : Int) then (if (x3.length : Int) = 0 then (if x3.length < 4398046511104 then (Zp.l1 k (x3 ++ [(⟨(Zb x6 x8).f0, (Zb x6 x8).f1, (Zb x6 x8).f2⟩ : S35)]) x5 x6 x7 (wrap64 (x8 + 1))) else (none)) else (if 0 ≤ (wrap64 ((x3.length : Int) - 1)) then (if (wrap64 ((x3.length : Int) - 1)) < (x3.length : Int) then ((Zag.f k ((Zb x3 (wrap64 ((x3.length : Int) - 1))).f0) ((Zb x3 (wrap64 ((x3.length : Int) - 1))).f1) ((Zb x3 (wrap64 ((x3.length : Int) - 1))).f2) ((Zb x6 x8).f0) ((Zb x6 x8).f1) ((Zb x6 x8).f2)).bind fun t157 => (if t157 = 0 then (Zp.l1 k x3 x5 x6 x7 (wrap64 (x8 + 1))) else (if x3.length < 4398046511104 then (Zp.l1 k (x3 ++ [(⟨(Zb x6 x8).f0, (Zb x6 x8).f1, (Zb x6 x8).f2⟩ : S35)]) x5 x6 x7 (wrap64 (x8 + 1))) else (none)))) else (none)) else (none))) else (none)) else (none))
def Zp.f : Nat → List (S35) → Option ((List (S35)))
  | 0, _ => none
  | k + 1, l0 => if (l0.length : Int) < 2 then (Zp.l0 k l0 ([] : List (S35)) 0) else (if 0 ≤ (wrap64 ((l0.length : Int) / 2)) then (if (wrap64 ((l0.length : Int) / 2)) ≤ (l0.length : Int) then ((Zp.f k (l0.take ((wrap64 ((l0.length : Int) / 2)) : Int).toNat)).bind fun t129 => ((Zp.f k (l0.drop ((wrap64 ((l0.length : Int) / 2)) : Int).toNat)).bind fun t136 => (Zp.l1 k ([] : List (S35)) t129 t136 0 0))) else (none)) else (none))
end
def Zp.T14 : Bool × List (List Nat × List Nat) := (true, [([], []), ([], []), ([1], [1]), ([0, 2], [0, 2]), ([3], [3]), ([4], [4]), ([4], [4]), ([6, 4], [4, 6]), ([5, 7, 4], [4, 5, 7]), ([8, 4, 4], [4, 8]), ([9], [9]), ([9], [9]), ([10, 11, 9], [9, 10, 11]), ([12, 9], [9, 12]), ([9], [9]), ([9], [9]), ([14, 15, 9], [9, 14, 15]), ([16, 9], [9, 16]), ([13, 17, 9, 9], [9, 13, 17]), ([18, 9], [9, 18]), ([9, 19, 4], [4, 9, 19]), ([4, 20], [4, 20])])
def Zp.B14 : List Nat := [0, 0, 2, 7, 15, 31, 31, 95, 255, 511, 1023, 1023, 4095, 8191, 1023, 1023, 50175, 115711, 262143, 524287, 1048575, 2097151]
theorem Zp.tab14 : rtab .any (opsOf Try.f5 14) = Zp.T14 := by kernel_rfl
theorem Zp.bits14 : waitsOk Zp.T14.2 Zp.B14 = true := by kernel_rfl
def Zp.T19 : Bool × List (List Nat × List Nat) := (true, [([], []), ([0], [0]), ([1], [1]), ([2], [2]), ([3], [3]), ([3], [3]), ([5, 3], [3, 5]), ([6, 3], [3, 6]), ([4, 7, 3], [3, 4, 7]), ([8, 3], [3, 8]), ([3], [3]), ([9, 10, 3, 3], [3, 9, 10]), ([11, 3], [3, 11]), ([3, 12], [3, 12])])
def Zp.B19 : List Nat := [0, 1, 3, 7, 15, 15, 47, 111, 255, 511, 15, 2047, 4095, 8191]
theorem Zp.tab19 : rtab .any (opsOf Try.f5 19) = Zp.T19 := by kernel_rfl
theorem Zp.bits19 : waitsOk Zp.T19.2 Zp.B19 = true := by kernel_rfl
set_option maxHeartbeats 8000000 in
set_option maxRecDepth 100000 in
theorem Zp.calls (k : Nat) : ∀ (A0 : Option Addr) (c0 : Nat) (l0 : List (S35)) (r : List (S35)) (w : World) (hr0 : Kd.C k35 w A0 l0.length l0) (hc0 : l0.length ≤ c0) (h : Zp.f k l0 = some r),
  Calls Try.prog 5 #[.slice A0 l0.length c0] w fun e w' => ∃ v0_ : Value, e = .returned (v0_) ∧ Kd.N k35 35 w' w.heap.size (fun k_ => (w.heap.size ≤ k_)) v0_ r ∧ Below w.heap.size w w' := by
 induction k using Nat.strongRecOn with
 | _ k ih =>
 intro A0 c0 l0 r w hr0 hc0 h
 cases k with
 | zero => exact absurd h (by simp [Zp.f])
 | succ k =>
 simp only [Zp.f] at h
 have hu35 := Try.underlying35
 have HR0 := Za.mk hr0
 have HC0 := Za.mk hc0
 clear hr0 hc0
 have HB := Za.mk (Below.refl w.heap.size w)
 have H : (if (l0.length : Int) < 2 then (Zp.l0 k l0 ([] : List (S35)) 0) else (if 0 ≤ (wrap64 ((l0.length : Int) / 2)) then (if (wrap64 ((l0.length : Int) / 2)) ≤ (l0.length : Int) then ((Zp.f k (l0.take ((wrap64 ((l0.length : Int) / 2)) : Int).toNat)).bind fun t129 => ((Zp.f k (l0.drop ((wrap64 ((l0.length : Int) / 2)) : Int).toNat)).bind fun t136 => (Zp.l1 k ([] : List (S35)) t129 t136 0 0))) else (none)) else (none))) = some r := h
 clear h
 by_cases c2 : (l0.length : Int) < 2
 ·rw [if_pos c2] at H
  have c2b0 : decide ((l0.length : Int) < 2) = true := decide_eq_true c2
  have c2b1 : decide (l0.length < 2) = true := decide_eq_true (by omega)
  clear c2
  have H' := Za.mk H
  clear H
  go_enter Try.func5, Try.ntmps5
  go_wp2
  go_loopg [3, 4] k (fun kq v3 v4 w' => ∃ (x3_1 : List (S35)) (x4_1 : Int), v4 = .int .i64 x4_1 ∧ Za (Zp.l0 kq l0 x3_1 x4_1 = some r) ∧ Za (kq ≤ k) ∧ Za (Kd.N k35 35 w' w.heap.size (fun k_ => (w.heap.size ≤ k_)) v3 x3_1) ∧ Za (Below w.heap.size w w'))
  case atStart => exact ⟨(([] : List (S35))), (0), (by first | rfl | (simp; done) | (simp [*]; done)), H', ⟨Nat.le_refl _⟩, ⟨by first | exact Kd.S_nil _ _ _ _ _ | exact Kd.N_nil _ _ _ _ _ | exact Kd.V_nil _ _ _ _ _ | exact Kd.Q_nil _ _ _ _ _ | exact Kd.R_nil _ _ _ _ _⟩, ⟨by repeat (first | (with_reducible first | exact HB.out | apply Zd | apply Zf | apply Ze) | exact HB.out)⟩⟩
  case round =>
   clear H'
   try clear c2
   try clear c2b0
   try clear c2b1
   try clear p2
   obtain ⟨x3_1, x4_1, rfl, HA, HK1, HO_3, HB⟩ := hrel
   cases gk with
   | zero => exact absurd HA.out (by simp [Zp.l0])
   | succ k1 =>
    have H := HA.out
    clear HA
    simp only [Zp.l0] at H
    by_cases c3 : x4_1 < (l0.length : Int)
    ·rw [if_pos c3] at H
     have c3b0 : decide (x4_1 < (l0.length : Int)) = true := decide_eq_true c3
     clear c3
     by_cases c4 : 0 ≤ x4_1
     ·rw [if_pos c4] at H
      have c4b0 : decide (0 ≤ x4_1) = true := decide_eq_true c4
      clear c4
      replace H := Option.bind_eq_some_iff.mp H
      obtain ⟨⟨t117, t118, t119⟩, A50, H⟩ := H
      replace H : (if x3_1.length < 4398046511104 then (Zp.l0 k1 l0 (x3_1 ++ [(⟨t117, t118, t119⟩ : S35)]) (wrap64 (x4_1 + 1))) else (none)) = some r := H
      have A5 := Za.mk A50
      clear A50
      by_cases c6 : x3_1.length < 4398046511104
      ·rw [if_pos c6] at H
       have LMc6 := Za.mk c6
       clear c6
       obtain ⟨y122, hy122⟩ : ∃ y_ : List (S35), y_ = (x3_1 ++ [(⟨t117, t118, t119⟩ : S35)]) := ⟨_, rfl⟩
       replace H : (Zp.l0 k1 l0 y122 (wrap64 (x4_1 + 1))) = some r := by first | (rw [hy122]; with_reducible exact H) | (have H2_ := (Option.bind_some _ _).symm.trans H; rw [hy122]; with_reducible exact H2_) | (have H2_ := (Option.bind_some _ _).symm.trans H; with_reducible exact H2_) | with_reducible exact H | (rw [hy122]; exact H) | exact H
       have Ny122 := Za.mk hy122
       clear hy122
       have H' := Za.mk H
       clear H
       have p116 : 0 ≤ (x4_1 : Int) := of_decide_eq_true (by assumption)
       have q116 : x4_1 < (l0.length : Int) := of_decide_eq_true (by assumption)
       obtain ⟨ad116, A116_2, c116_2, e116, hx116_0, hx116_1, hx116_2, hl116_2, hi116_2⟩ := at_T35 HR0.out x4_1 p116 q116
       cases e116
       replace hx116_0 := (HB.out.cell (World.block_lt_of_cell? w _ hx116_0)).trans hx116_0
       replace hx116_1 := (HB.out.cell (World.block_lt_of_cell? w _ hx116_1)).trans hx116_1
       replace hx116_2 := (HB.out.cell (World.block_lt_of_cell? w _ hx116_2)).trans hx116_2
       have HR116_2 := Za.mk hi116_2
       have HC116_2 := Za.mk hl116_2
       clear hi116_2 hl116_2
       replace p116 := eq_true p116
       replace q116 := eq_true q116
       go_wp2_with (first | ((with_reducible refine Zai (f := 12) rfl ?_); refine goesL_ (some 24) rfl rfl Try.func12 (by kernel_rfl) rfl #[.agg #[.int .u32 ((Zb l0 x4_1).f0), .int .u32 ((Zb l0 x4_1).f1), .slice A116_2 ((Zb l0 x4_1).f2).length c116_2]] rfl (by (try simp only [ZA, ZB, ZC]); first | done | rfl | (simp only [List.length_drop, List.length_take]; rfl)) ?_; (with_reducible refine (spec_l2copy.calls ((Zb l0 x4_1).f0) ((Zb l0 x4_1).f1) _ _ ((Zb l0 x4_1).f2) t117 t118 t119 _ ?side1 ?side2 A5.out).mono ?_); (case side1 => repeat (first | exact (Kd.Zah HR116_2.out HB.out) | (with_reducible refine Kd.Zac ?_ _) | (with_reducible refine Kd.Zaf ?_ _) | (with_reducible refine Kd.Zae ?_))); (case side2 => exact HC116_2.out); rintro e w7 ⟨v120, rfl, ho0, hb⟩; refine ⟨_, rfl, ?_⟩; replace HO_3 := Za.mk (Kd.N_elder' (by (with_reducible repeat (first | apply Kd.Zu | apply Kd.Zv | apply Kd.Zq)); exact HO_3.out) (Kd.R_base ho0) hb); have HO121 := Za.mk (Kd.R_lower (Kd.R_newM (M := fun k_ => (w.heap.size ≤ k_)) ho0 (Zr (by repeat (first | (with_reducible first | exact HB.out | apply Zd | apply Zf | apply Ze) | exact HB.out))) (fun k_ h_ => h_)) (Zr (by repeat (first | (with_reducible first | exact HB.out | apply Zd | apply Zf | apply Ze) | exact HB.out)))); replace HB := Za.mk (Zx (by repeat (first | (with_reducible first | exact HB.out | apply Zd | apply Zf | apply Ze) | exact HB.out)) hb); (try clear hb); (try clear hb2); (try clear hk); (try clear hi); (try clear ho0); obtain ⟨Ao9, co9, eo9⟩ := Kd.R_slice HO121.out; subst eo9) | ((with_reducible refine gate_builtin (b := .append) (xs := #[.tmp 19, .tmp 25]) rfl ?_); (try (refine Zal (by rfl) ?_; dsimp only)); at_builtin; refine Kd.N_append k35 (w0 := w) w.heap.size rfl (.tmp 19) (.tmp 25) 24 35 (.agg #[(.int .u32 0), (.int .u32 0), (.slice none 0 0)]) 32 rfl Try.underlying24 info35 rfl (by decide) (by omega) u3 x3_1 (⟨t117, t118, t119⟩ : S35) [.int .u32 t117, .int .u32 t118, .slice Ao9 t119.length co9] (fun k_ => (w.heap.size ≤ k_)) (fun k_ => ((fun k_ => (w.heap.size ≤ k_))) k_ ∧ some k_ ≠ (u3 : Value).ownBlock) rfl rfl ?aP (fun _ hk => hk) ?aF ?aO ?aB ?aS ?aL ?_; (case aP => exact (k35_mkF _ _ (⟨t117, t118, t119⟩ : S35) (Kd.R_reads' (Kd.R_mono (ok' := (fun k_ => ((fun k_ => (w.heap.size ≤ k_))) k_ ∧ some k_ ≠ (u3 : Value).ownBlock)) (Kd.R_apart' (HO121.out) (Kd.N_typed HO_3.out) (by decide)) (fun k_ hk => ⟨hk.1.1, hk.2⟩))).2.1 (Kd.R_F (Kd.R_mono (ok' := (fun k_ => ((fun k_ => (w.heap.size ≤ k_))) k_ ∧ some k_ ≠ (u3 : Value).ownBlock)) (Kd.R_apart' (HO121.out) (Kd.N_typed HO_3.out) (by decide)) (fun k_ hk => ⟨hk.1.1, hk.2⟩))))); (case aB => exact (by repeat (first | (with_reducible first | exact HB.out | apply Zd | apply Zf | apply Ze) | exact HB.out))); (case aF => exact (fun k_ hk => (Nat.le_trans (Zr (by repeat (first | (with_reducible first | exact HB.out | apply Zd | apply Zf | apply Ze) | exact HB.out))) hk))); (case aO => exact (by (with_reducible repeat (first | apply Kd.Zu | apply Kd.Zv | apply Kd.Zq)); exact Kd.Zw HO_3.out (fun _ hk => hk.1))); (case aS => exact (Zr (by repeat (first | (with_reducible first | exact HB.out | apply Zd | apply Zf | apply Ze) | exact HB.out)))); (case aL => have := LMc6.out; omega); intro v123 w8 ho hb hg hat; rw [← Ny122.out] at ho; have n0_ := Za.mk (hb); have n1_ := Za.mk (ho); clear HB; clear HO_3; clear HO121; have HB := n0_; have HO124 := n1_; clear n0_ n1_; clear ho hb hg hat))
       go_roundg k1
       case measure => have := HK1.out; omega
       case rel => exact ⟨(y122), (wrap64 (x4_1 + 1)), (by first | rfl | (simp; done) | (simp [*]; done)), H', ⟨by have := HK1.out; omega⟩, ⟨by (with_reducible repeat (first | apply Kd.Zu | apply Kd.Zv | apply Kd.Zq)); exact HO124.out⟩, ⟨by repeat (first | (with_reducible first | exact HB.out | apply Zd | apply Zf | apply Ze) | exact HB.out)⟩⟩
      ·rw [if_neg c6] at H
       exact absurd H (by simp)
     ·rw [if_neg c4] at H
      exact absurd H (by simp)
    ·rw [if_neg c3] at H
     have c3b0 : decide (x4_1 < (l0.length : Int)) = false := decide_eq_false c3
     clear c3
     obtain rfl := Option.some.inj H
     go_wp2
     go_ret
     exact ⟨_, by first | rfl | (simp [Zy, Zz] <;> rfl) | (simp [*, Zy, Zz] <;> rfl), by (with_reducible repeat (first | apply Kd.Zu | apply Kd.Zv | apply Kd.Zq)); exact HO_3.out, by repeat (first | (with_reducible first | exact HB.out | apply Zd | apply Zf | apply Ze) | exact HB.out)⟩
 ·rw [if_neg c2] at H
  have c2b0 : decide ((l0.length : Int) < 2) = false := decide_eq_false c2
  have c2b1 : decide (l0.length < 2) = false := decide_eq_false (by omega)
  clear c2
  obtain ⟨ji10, hji10⟩ : ∃ j_ : Int, (wrap64 ((l0.length : Int) / 2)) = j_ := ⟨_, rfl⟩
  replace H : (if 0 ≤ (ji10) then (if (ji10) ≤ (l0.length : Int) then ((Zp.f k (l0.take ((ji10) : Int).toNat)).bind fun t129 => ((Zp.f k (l0.drop ((ji10) : Int).toNat)).bind fun t136 => (Zp.l1 k ([] : List (S35)) t129 t136 0 0))) else (none)) else (none)) = some r := by first | (rw [hji10] at H; exact H) | (simp only [hji10] at H ⊢; exact H)
  have hji10w : (IntKind.i64.wrap ((l0.length : Int) / 2)) = ji10 := (Zh _).trans hji10
  by_cases c11 : 0 ≤ (ji10)
  ·rw [if_pos c11] at H
   have c11b0 := eq_true c11
   have c11b1 : decide (0 ≤ (ji10)) = true := decide_eq_true c11
   clear c11
   by_cases c12 : (ji10) ≤ (l0.length : Int)
   ·rw [if_pos c12] at H
    have c12b0 := eq_true c12
    have c12b1 : decide ((ji10) ≤ (l0.length : Int)) = true := decide_eq_true c12
    clear c12
    obtain ⟨y125, hy125⟩ : ∃ y_ : List (S35), y_ = (l0.take ((ji10) : Int).toNat) := ⟨_, rfl⟩
    replace H : ((Zp.f k y125).bind fun t129 => ((Zp.f k (l0.drop ((ji10) : Int).toNat)).bind fun t136 => (Zp.l1 k ([] : List (S35)) t129 t136 0 0))) = some r := by first | (rw [hy125]; with_reducible exact H) | (have H2_ := (Option.bind_some _ _).symm.trans H; rw [hy125]; with_reducible exact H2_) | (have H2_ := (Option.bind_some _ _).symm.trans H; with_reducible exact H2_) | with_reducible exact H | (rw [hy125]; exact H) | exact H
    have Ny125 := Za.mk hy125
    clear hy125
    replace H := Option.bind_eq_some_iff.mp H
    obtain ⟨t129, A130, H⟩ := H
    replace H : ((Zp.f k (l0.drop ((ji10) : Int).toNat)).bind fun t136 => (Zp.l1 k ([] : List (S35)) t129 t136 0 0)) = some r := H
    have A13 := Za.mk A130
    clear A130
    have c14b0 := eq_true (of_decide_eq_true (by assumption) : 0 ≤ (ji10))
    have c15b0 := eq_true (of_decide_eq_true (by assumption) : (ji10) ≤ (l0.length : Int))
    obtain ⟨y132, hy132⟩ : ∃ y_ : List (S35), y_ = (l0.drop ((ji10) : Int).toNat) := ⟨_, rfl⟩
    replace H : ((Zp.f k y132).bind fun t136 => (Zp.l1 k ([] : List (S35)) t129 t136 0 0)) = some r := by first | (rw [hy132]; with_reducible exact H) | (have H2_ := (Option.bind_some _ _).symm.trans H; rw [hy132]; with_reducible exact H2_) | (have H2_ := (Option.bind_some _ _).symm.trans H; with_reducible exact H2_) | with_reducible exact H | (rw [hy132]; exact H) | exact H
    have Ny132 := Za.mk hy132
    clear hy132
    replace H := Option.bind_eq_some_iff.mp H
    obtain ⟨t136, A160, H⟩ := H
    replace H : (Zp.l1 k ([] : List (S35)) t129 t136 0 0) = some r := H
    have A16 := Za.mk A160
    clear A160
    have H' := Za.mk H
    clear H
    have q17 : ((ji10) : Int) ≤ ((l0.length : Int) : Int) := of_decide_eq_true (by assumption)
    obtain ⟨i017, hi017, _, hsz17, _⟩ := info_parts info35
    have hroom17 : l0.length ≤ c0 := HC0.out
    have hC17 : Kd.C k35 _ A0 l0.length l0 := HR0.out
    have hcut17 := cut_to (P := Try.prog) 24 35 .i64 Try.underlying24 hi017 A0 l0.length c0 (ji10) (of_decide_eq_true (by assumption)) q17 hroom17
    have hr17 := Kd.C_take (m := ((ji10) : Int).toNat) hC17 (by omega)
    have hy17 : y125.length = ((ji10) : Int).toNat := (by rw [Ny125.out, List.length_take]; omega)
    rw [← Ny125.out] at hr17
    rw [← hy17] at hcut17
    have HR128 := Za.mk hr17
    have HC128 := Za.mk (show y125.length ≤ c0 from by omega)
    clear hr17 hC17 hroom17 hi017 hsz17
    have KY17 := Za.mk hy17
    clear hy17
    replace q17 := eq_true q17
    go_enter Try.func5, Try.ntmps5
    go_wp2_with (first | ((with_reducible refine Zai (f := 5) rfl ?_); refine goesL_ (some 33) rfl rfl Try.func5 (by kernel_rfl) rfl #[.slice A0 y125.length c0] rfl (by (try simp only [ZA, ZB, ZC]); first | done | rfl | (simp only [List.length_drop, List.length_take]; rfl)) ?_; (with_reducible refine (ih k (by omega) _ _ y125 t129 _ ?side1 ?side2 A13.out).mono ?_); (case side1 => repeat (first | exact HR128.out | (with_reducible refine Kd.Zac ?_ _) | (with_reducible refine Kd.Zaf ?_ _) | (with_reducible refine Kd.Zae ?_))); (case side2 => exact HC128.out); rintro e w18 ⟨v130, rfl, ho0, hb⟩; refine ⟨_, rfl, ?_⟩; have HO131 := Za.mk (Kd.N_lower (Kd.Zw (ok' := fun k_ => (w.heap.size ≤ k_)) ho0 (fun k_ hk_ => (Nat.le_trans (Zr (by repeat (first | (with_reducible first | exact HB.out | apply Zd | apply Zf | apply Ze) | exact HB.out))) hk_))) (Zr (by repeat (first | (with_reducible first | exact HB.out | apply Zd | apply Zf | apply Ze) | exact HB.out)))); replace HB := Za.mk (Zx (by repeat (first | (with_reducible first | exact HB.out | apply Zd | apply Zf | apply Ze) | exact HB.out)) hb); (try clear hb); (try clear hb2); (try clear hk); (try clear hi); (try clear ho0); have q19 : ((ji10) : Int) ≤ ((l0.length : Int) : Int) := of_decide_eq_true (by assumption); obtain ⟨i019, hi019, _, hsz19, _⟩ := info_parts info35; have hroom19 : l0.length ≤ c0 := HC0.out; have hC19 : Kd.C k35 _ A0 l0.length l0 := HR0.out; have q019 : (0 : Int) ≤ ((ji10) : Int) := of_decide_eq_true (by assumption); have hcut19 := cut_from (P := Try.prog) 24 35 .i64 Try.underlying24 hi019 3 hsz19 A0 l0.length c0 (ji10) q019 q19; have hr19 := Kd.C_drop (m := ((ji10) : Int).toNat) (c := c0) hC19 (by omega) hroom19; obtain ⟨A19, hA19⟩ : ∃ A1, A1 = (if c0 = ((ji10) : Int).toNat then A0 else (A0 : Option Addr).map (·.add (((ji10) : Int).toNat * 3))) := ⟨_, rfl⟩; obtain ⟨c19, hc19⟩ : ∃ c1, c1 = c0 - ((ji10) : Int).toNat := ⟨_, rfl⟩; have hy19 : y132.length = l0.length - ((ji10) : Int).toNat := (by rw [Ny132.out, List.length_drop] <;> omega); rw [show (l0).drop ((ji10) : Int).toNat = y132 from Ny132.out.symm] at hr19; replace hr19 : Kd.C k35 _ A19 y132.length y132 := (by rw [hA19]; exact hr19); rw [← hy19, ← hA19, ← hc19] at hcut19; have HR135 := Za.mk hr19; have HC135 := Za.mk (show y132.length ≤ c19 from by rw [hy19, hc19]; exact Nat.sub_le_sub_right hroom19 _); clear hr19 hC19 hroom19 hi019 hsz19 hc19; have KY19 := Za.mk hy19; have KA19 := Za.mk hA19; clear hy19 hA19; replace q19 := eq_true q19) | ((with_reducible refine Zai (f := 5) rfl ?_); refine goesL_ (some 39) rfl rfl Try.func5 (by kernel_rfl) rfl #[.slice A19 y132.length c19] rfl (by (try simp only [ZA, ZB, ZC]); first | done | rfl | (simp only [List.length_drop, List.length_take]; rfl)) ?_; (with_reducible refine (ih k (by omega) _ _ y132 t136 _ ?side1 ?side2 A16.out).mono ?_); (case side1 => repeat (first | exact (Kd.Zah HR135.out HB.out) | (with_reducible refine Kd.Zac ?_ _) | (with_reducible refine Kd.Zaf ?_ _) | (with_reducible refine Kd.Zae ?_))); (case side2 => exact HC135.out); rintro e w20 ⟨v137, rfl, ho0, hb⟩; refine ⟨_, rfl, ?_⟩; have HO138 := Za.mk (Kd.N_lower (Kd.Zw (ok' := fun k_ => (w.heap.size ≤ k_) ∧ some k_ ≠ (v130 : Value).ownBlock) ho0 (fun k_ hk_ => ⟨(Nat.le_trans (Zr (by repeat (first | (with_reducible first | exact HB.out | apply Zd | apply Zf | apply Ze) | exact HB.out))) hk_), (Kd.fresh' (Kd.N_lt (by (with_reducible repeat (first | apply Kd.Zu | apply Kd.Zv | apply Kd.Zq)); exact HO131.out)) k_ hk_)⟩)) (Zr (by repeat (first | (with_reducible first | exact HB.out | apply Zd | apply Zf | apply Ze) | exact HB.out)))); replace HO131 := Za.mk (Kd.N_elder' (by (with_reducible repeat (first | apply Kd.Zu | apply Kd.Zv | apply Kd.Zq)); exact HO131.out) (Kd.N_base ho0) hb); replace HB := Za.mk (Zx (by repeat (first | (with_reducible first | exact HB.out | apply Zd | apply Zf | apply Ze) | exact HB.out)) hb); (try clear hb); (try clear hb2); (try clear hk); (try clear hi); (try clear ho0)))
    go_loopg [3, 7, 8] k (fun kq v3 v7 v8 w' => ∃ (x3_1 : List (S35)) (x7_1 : Int) (x8_1 : Int), v7 = .int .i64 x7_1 ∧ v8 = .int .i64 x8_1 ∧ Za (Zp.l1 kq x3_1 t129 t136 x7_1 x8_1 = some r) ∧ Za (kq ≤ k) ∧ Za (Kd.N k35 35 w' w.heap.size (fun k_ => (w.heap.size ≤ k_) ∧ some k_ ≠ (v130 : Value).ownBlock ∧ some k_ ≠ (v137 : Value).ownBlock) v3 x3_1) ∧ Za (Kd.N k35 35 w' w.heap.size (fun k_ => (w.heap.size ≤ k_) ∧ some k_ ≠ (v3 : Value).ownBlock ∧ some k_ ≠ (v137 : Value).ownBlock) v130 t129) ∧ Za (Kd.N k35 35 w' w.heap.size (fun k_ => (w.heap.size ≤ k_) ∧ some k_ ≠ (v3 : Value).ownBlock ∧ some k_ ≠ (v130 : Value).ownBlock) v137 t136) ∧ Za (Below w.heap.size w w'))
    case atStart => exact ⟨(([] : List (S35))), (0), (0), (by first | rfl | (simp; done) | (simp [*]; done)), (by first | rfl | (simp; done) | (simp [*]; done)), H', ⟨Nat.le_refl _⟩, ⟨by first | exact Kd.S_nil _ _ _ _ _ | exact Kd.N_nil _ _ _ _ _ | exact Kd.V_nil _ _ _ _ _ | exact Kd.Q_nil _ _ _ _ _ | exact Kd.R_nil _ _ _ _ _⟩, ⟨by (with_reducible repeat (first | apply Kd.Zu | apply Kd.Zv | apply Kd.Zq)); exact Kd.Zw HO131.out (fun _ hk => ⟨hk.1, ⟨(by simp [Value.ownBlock]), hk.2⟩⟩)⟩, ⟨by (with_reducible repeat (first | apply Kd.Zu | apply Kd.Zv | apply Kd.Zq)); exact Kd.Zw HO138.out (fun _ hk => ⟨hk.1, ⟨(by simp [Value.ownBlock]), hk.2⟩⟩)⟩, ⟨by repeat (first | (with_reducible first | exact HB.out | apply Zd | apply Zf | apply Ze) | exact HB.out)⟩⟩
    case round =>
     clear H'
     try clear c1
     try clear p1
     try clear q1
     try clear hx1
     try clear c2
     try clear c2b0
     try clear c2b1
     try clear p2
     try clear c3
     try clear c3b0
     try clear c4
     try clear c4b0
     try clear c5
     try clear c6
     try clear p6
     try clear c11
     try clear c11b0
     try clear c11b1
     try clear p11
     try clear q11
     try clear hx11
     try clear c12
     try clear c12b0
     try clear c12b1
     try clear c14
     try clear c14b0
     try clear c15
     try clear c15b0
     try clear q17
     try clear c19
     try clear q19
     try clear hx116_0
     try clear hx116_1
     try clear hx116_2
     try clear p116
     try clear p2
     try clear q019
     try clear q116
     try clear q17
     try clear q19
     obtain ⟨x3_1, x7_1, x8_1, rfl, rfl, HA, HK1, HO_3, HO_5, HO_6, HB⟩ := hrel
     cases gk with
     | zero => exact absurd HA.out (by simp [Zp.l1])
     | succ k1 =>
      have H := HA.out
      clear HA
      simp only [Zp.l1] at H
      have HC21 := Za.mk H
      clear H
      go_upto_region 12 with (fail)
      go_cut [49] (fun v49 wc => ∃ (kq : Nat) (x49_20 : Bool), v49 = .bool x49_20 ∧ Za (Zp.j2 kq x3_1 t129 t136 x7_1 x8_1 x49_20 = some r) ∧ Za (kq ≤ k1) ∧ Za (Kd.N k35 35 wc w.heap.size (fun k_ => (w.heap.size ≤ k_) ∧ some k_ ≠ (v130 : Value).ownBlock ∧ some k_ ≠ (v137 : Value).ownBlock) u3 x3_1) ∧ Za (Kd.N k35 35 wc w.heap.size (fun k_ => (w.heap.size ≤ k_) ∧ some k_ ≠ (u3 : Value).ownBlock ∧ some k_ ≠ (v137 : Value).ownBlock) v130 t129) ∧ Za (Kd.N k35 35 wc w.heap.size (fun k_ => (w.heap.size ≤ k_) ∧ some k_ ≠ (u3 : Value).ownBlock ∧ some k_ ≠ (v130 : Value).ownBlock) v137 t136) ∧ Za (Below w.heap.size w wc))
      case first =>
       have H := HC21.out
       clear HC21
       by_cases c22 : x7_1 < (t129.length : Int)
       ·rw [if_pos c22] at H
        have c22b0 : decide (x7_1 < (t129.length : Int)) = true := decide_eq_true c22
        clear c22
        (first | rw [c22b0] | (simp only [Zh, Zi]; rw [c22b0]) | skip)
        have H' := Za.mk H
        clear H
        obtain ⟨Ao23, co23, eo23⟩ := Kd.N_slice HO_5.out
        subst eo23
        go_wp2
        go_meet
        case rel => exact ⟨_, (true), (by first | rfl | (simp; done) | (simp [*]; done)), H', ⟨by have := HK1.out; first | omega | exact Nat.le_refl _⟩, ⟨by (with_reducible repeat (first | apply Kd.Zu | apply Kd.Zv | apply Kd.Zq)); exact HO_3.out⟩, ⟨by (with_reducible repeat (first | apply Kd.Zu | apply Kd.Zv | apply Kd.Zq)); exact HO_5.out⟩, ⟨by (with_reducible repeat (first | apply Kd.Zu | apply Kd.Zv | apply Kd.Zq)); exact HO_6.out⟩, ⟨by repeat (first | (with_reducible first | exact HB.out | apply Zd | apply Zf | apply Ze) | exact HB.out)⟩⟩
       ·rw [if_neg c22] at H
        have c22b0 : decide (x7_1 < (t129.length : Int)) = false := decide_eq_false c22
        clear c22
        (first | rw [c22b0] | (simp only [Zh, Zi]; rw [c22b0]) | skip)
        have H' := Za.mk H
        clear H
        obtain ⟨Ao24, co24, eo24⟩ := Kd.N_slice HO_5.out
        subst eo24
        obtain ⟨Ao25, co25, eo25⟩ := Kd.N_slice HO_6.out
        subst eo25
        go_wp2
        go_meet
        case rel => exact ⟨_, (decide (x8_1 < (t136.length : Int))), (by first | rfl | (simp; done) | (simp [*]; done)), H', ⟨by have := HK1.out; first | omega | exact Nat.le_refl _⟩, ⟨by (with_reducible repeat (first | apply Kd.Zu | apply Kd.Zv | apply Kd.Zq)); exact HO_3.out⟩, ⟨by (with_reducible repeat (first | apply Kd.Zu | apply Kd.Zv | apply Kd.Zq)); exact HO_5.out⟩, ⟨by (with_reducible repeat (first | apply Kd.Zu | apply Kd.Zv | apply Kd.Zq)); exact HO_6.out⟩, ⟨by repeat (first | (with_reducible first | exact HB.out | apply Zd | apply Zf | apply Ze) | exact HB.out)⟩⟩
      case rest =>
       clear HC21
       try clear c1
       try clear p1
       try clear q1
       try clear hx1
       try clear c2
       try clear c2b0
       try clear c2b1
       try clear p2
       try clear c3
       try clear c3b0
       try clear c4
       try clear c4b0
       try clear c5
       try clear c6
       try clear p6
       try clear c11
       try clear c11b0
       try clear c11b1
       try clear p11
       try clear q11
       try clear hx11
       try clear c12
       try clear c12b0
       try clear c12b1
       try clear c14
       try clear c14b0
       try clear c15
       try clear c15b0
       try clear q17
       try clear c19
       try clear q19
       try clear c22
       try clear c22b0
       try clear hx116_0
       try clear hx116_1
       try clear hx116_2
       try clear p1
       try clear p11
       try clear p116
       try clear p2
       try clear p6
       try clear q019
       try clear q1
       try clear q11
       try clear q116
       try clear q17
       try clear q19
       obtain ⟨kq, x49_20, rfl, HA, HJ20, HO_3, HO_5, HO_6, HB⟩ := hcut
       cases kq with
       | zero => exact absurd HA.out (by simp [Zp.j2])
       | succ kj20 =>
        have H := HA.out
        clear HA
        simp only [Zp.j2] at H
        by_cases c26 : x49_20 = true
        ·subst c26
         have H1 : (if x8_1 ≥ (t136.length : Int) then (Zp.j3 kj20 x3_1 t129 t136 x7_1 x8_1 true) else (if x7_1 < (t129.length : Int) then (if 0 ≤ x7_1 then (if 0 ≤ x8_1 then (if x8_1 < (t136.length : Int) then ((Zag.f kj20 ((Zb t129 x7_1).f0) ((Zb t129 x7_1).f1) ((Zb t129 x7_1).f2) ((Zb t136 x8_1).f0) ((Zb t136 x8_1).f1) ((Zb t136 x8_1).f2)).bind fun t142 => (Zp.j3 kj20 x3_1 t129 t136 x7_1 x8_1 (decide (t142 ≤ 0)))) else (none)) else (none)) else (none)) else (Zp.j3 kj20 x3_1 t129 t136 x7_1 x8_1 false))) = some r := by rw [if_pos rfl] at H; exact H
         clear H
         have H := H1
         clear H1
         have HC27 := Za.mk H
         clear H
         go_upto_region 14 with (first | ((with_reducible refine Zab (N := 9) rfl ?_); (try (refine Zal (by rfl) ?_; dsimp only)); refine Zad ?hg (N := 9) ?hd (cs := #[.int .u32 0, .int .u32 0, .slice none 0 0]) (t := 35) ?hr ?_; (case hd => rfl); (case hg => rfl); (case hr => first | (go_simp; done) | (go_simp; rfl)); intro gb139 hg w28 hbox hb; replace HO_3 := Za.mk (Kd.Zan (Kd.N_elderB (by (with_reducible repeat (first | apply Kd.Zu | apply Kd.Zv | apply Kd.Zq)); exact HO_3.out) gb139 (Nat.le_of_eq hg.symm)) hb); replace HO_5 := Za.mk (Kd.Zan (Kd.N_elderB (by (with_reducible repeat (first | apply Kd.Zu | apply Kd.Zv | apply Kd.Zq)); exact HO_5.out) gb139 (Nat.le_of_eq hg.symm)) hb); replace HO_6 := Za.mk (Kd.Zan (Kd.N_elderB (by (with_reducible repeat (first | apply Kd.Zu | apply Kd.Zv | apply Kd.Zq)); exact HO_6.out) gb139 (Nat.le_of_eq hg.symm)) hb); have BK139 := Za.mk (hbox); have GW139 := Za.mk ((by rw [hg]; exact (Zr (by repeat (first | (with_reducible first | exact HB.out | apply Zd | apply Zf | apply Ze) | exact HB.out))) : w.heap.size ≤ gb139)); have GE139 := Za.mk ((by rw [hg]; exact (Zr (by repeat (first | (with_reducible first | exact HB.out | apply Zd | apply Zf | apply Ze) | exact HB.out))) : w.heap.size ≤ gb139)); replace HB := Za.mk (Zx (by repeat (first | (with_reducible first | exact HB.out | apply Zd | apply Zf | apply Ze) | exact HB.out)) hb); clear hb hbox hg))
         (try simp only [Act.put, ZD, ZE, ZF])
         go_cut [71] (fun v71 wc => ∃ (kq : Nat) (x71_26 : Bool), v71 = .bool x71_26 ∧ Za (Zp.j3 kq x3_1 t129 t136 x7_1 x8_1 x71_26 = some r) ∧ Za (kq ≤ kj20) ∧ Za (Kd.N k35 35 wc w.heap.size (fun k_ => (w.heap.size ≤ k_) ∧ some k_ ≠ (v130 : Value).ownBlock ∧ some k_ ≠ (v137 : Value).ownBlock ∧ k_ ≠ gb139) u3 x3_1) ∧ Za (Kd.N k35 35 wc w.heap.size (fun k_ => (w.heap.size ≤ k_) ∧ some k_ ≠ (u3 : Value).ownBlock ∧ some k_ ≠ (v137 : Value).ownBlock ∧ k_ ≠ gb139) v130 t129) ∧ Za (Kd.N k35 35 wc w.heap.size (fun k_ => (w.heap.size ≤ k_) ∧ some k_ ≠ (u3 : Value).ownBlock ∧ some k_ ≠ (v130 : Value).ownBlock ∧ k_ ≠ gb139) v137 t136) ∧ Za (wc.heap[gb139]? = some (.cells #[.int .u32 0, .int .u32 0, (.slice none 0 0)] 35 (0, 0))) ∧ Za (Below w.heap.size w wc))
         case first =>
          have H := HC27.out
          clear HC27
          by_cases c29 : x8_1 ≥ (t136.length : Int)
          ·rw [if_pos c29] at H
           have c29b0 : decide ((t136.length : Int) ≤ x8_1) = true := decide_eq_true c29
           clear c29
           (first | rw [c29b0] | (simp only [Zh, Zi]; rw [c29b0]) | skip)
           have H' := Za.mk H
           clear H
           try go_wp2
           replace HO_3 := Za.mk (Kd.Zq HO_3.out)
           replace HO_5 := Za.mk (Kd.Zq HO_5.out)
           replace HO_6 := Za.mk (Kd.Zq HO_6.out)
           replace BK139 := Za.mk (Zm BK139.out)
           replace HB := Za.mk (Ze HB.out)
           obtain ⟨Ao31, co31, eo31⟩ := Kd.N_slice HO_6.out
           (first | subst eo31 | (injection eo31 with f1_ f2_ f3_; have f4_ := f1_.symm; have f5_ := f3_.symm; clear f1_ f2_ f3_; subst f4_; subst f5_))
           refine start_ (n := 22) (S := fun w' => True) (ds := []) #[false, false, false, false, false, false, false, false, false, false, false, false, false, false, false, false, false, false, false, false, false, false] (by kernel_rfl) rfl rfl trivial (fun hHeld => ?_); refine with_tabW Zp.tab14 Zp.bits14 (fun HT_ HW_ => ?_)
           generalize w28.drew = w30 at HO_3 HO_5 HO_6 BK139 HB hHeld ⊢
           refine Zk (i := 0) (N := some 50) (v := ?_) (a' := ?_) #[true, false, false, false, false, false, false, false, false, false, false, false, false, false, false, false, false, false, false, false, false, false] rfl rfl (Zl HT_.out (by kernel_rfl)) (fun _ _ _ h => h) (Or.inl ⟨by rfl, ?_⟩) ?_ ?_
           rotate_left
           ·intro w'
            go_simp
            with_reducible rfl
           rotate_left
           ·simp only [Act.put, ZD, ZE, ZF, Zh, Zi]
            rfl
           refine Zk (i := 1) (N := some 51) (v := ?_) (a' := ?_) #[true, true, false, false, false, false, false, false, false, false, false, false, false, false, false, false, false, false, false, false, false, false] rfl rfl (Zl HT_.out (by kernel_rfl)) (fun _ _ _ h => h) (Or.inl ⟨by rfl, ?_⟩) ?_ ?_
           rotate_left
           ·intro w'
            go_simp
            with_reducible rfl
           rotate_left
           ·simp only [Act.put, ZD, ZE, ZF, Zh, Zi]
            rfl
           refine Zk (i := 2) (N := some 52) (v := ?_) (a' := ?_) #[true, true, true, false, false, false, false, false, false, false, false, false, false, false, false, false, false, false, false, false, false, false] rfl rfl (Zl HT_.out (by kernel_rfl)) (fun _ _ _ h => h) (Or.inl ⟨by rfl, ?_⟩) ?_ ?_
           rotate_left
           ·intro w'
            go_simp
            with_reducible rfl
           rotate_left
           ·simp only [Act.put, ZD, ZE, ZF, Zh, Zi]
            rfl
           refine Zk (i := 3) (N := some 53) (v := ?_) (a' := ?_) #[true, true, true, true, false, false, false, false, false, false, false, false, false, false, false, false, false, false, false, false, false, false] rfl rfl (Zl HT_.out (by kernel_rfl)) (fun _ _ _ h => h) (Or.inl ⟨by rfl, ?_⟩) ?_ ?_
           rotate_left
           ·intro w'
            go_simp
            with_reducible rfl
           rotate_left
           ·simp only [Act.put, ZD, ZE, ZF, Zh, Zi]
            rfl
           refine Zk (i := 4) (N := some 54) (v := ?_) (a' := ?_) #[true, true, true, true, true, false, false, false, false, false, false, false, false, false, false, false, false, false, false, false, false, false] rfl rfl (Zl HT_.out (by kernel_rfl)) (fun _ _ _ h => h) (Or.inl ⟨by rfl, ?_⟩) ?_ ?_
           rotate_left
           ·intro w'
            go_simp
            with_reducible rfl
           rotate_left
           ·simp only [Act.put, ZD, ZE, ZF, Zh, Zi]
            rfl
           refine Zk (i := 5) (N := some 55) (v := undef) (a' := ?_) #[true, true, true, true, true, true, false, false, false, false, false, false, false, false, false, false, false, false, false, false, false, false] rfl rfl (Zl HT_.out (by kernel_rfl)) (fun _ _ _ h => h) (Or.inr ⟨by rfl, rfl⟩) ?_ ?_
           rotate_left
           ·simp only [Act.put, ZD, ZE, ZF, Zh, Zi]
            rfl
           refine Zk (i := 6) (N := some 56) (v := undef) (a' := ?_) #[true, true, true, true, true, true, true, false, false, false, false, false, false, false, false, false, false, false, false, false, false, false] rfl rfl (Zl HT_.out (by kernel_rfl)) (fun _ _ _ h => h) (Or.inr ⟨by rfl, rfl⟩) ?_ ?_
           rotate_left
           ·simp only [Act.put, ZD, ZE, ZF, Zh, Zi]
            rfl
           refine Zk (i := 7) (N := some 57) (v := undef) (a' := ?_) #[true, true, true, true, true, true, true, true, false, false, false, false, false, false, false, false, false, false, false, false, false, false] rfl rfl (Zl HT_.out (by kernel_rfl)) (fun _ _ _ h => h) (Or.inr ⟨by rfl, rfl⟩) ?_ ?_
           rotate_left
           ·simp only [Act.put, ZD, ZE, ZF, Zh, Zi]
            rfl
           refine Zk (i := 8) (N := some 58) (v := undef) (a' := ?_) #[true, true, true, true, true, true, true, true, true, false, false, false, false, false, false, false, false, false, false, false, false, false] rfl rfl (Zl HT_.out (by kernel_rfl)) (fun _ _ _ h => h) (Or.inr ⟨by rfl, rfl⟩) ?_ ?_
           rotate_left
           ·simp only [Act.put, ZD, ZE, ZF, Zh, Zi]
            rfl
           refine Zk (i := 9) (N := some 59) (v := undef) (a' := ?_) #[true, true, true, true, true, true, true, true, true, true, false, false, false, false, false, false, false, false, false, false, false, false] rfl rfl (Zl HT_.out (by kernel_rfl)) (fun _ _ _ h => h) (Or.inr ⟨by rfl, rfl⟩) ?_ ?_
           rotate_left
           ·simp only [Act.put, ZD, ZE, ZF, Zh, Zi]
            rfl
           refine Zk (i := 10) (N := some 60) (v := undef) (a' := ?_) #[true, true, true, true, true, true, true, true, true, true, true, false, false, false, false, false, false, false, false, false, false, false] rfl rfl (Zl HT_.out (by kernel_rfl)) (fun _ _ _ h => h) (Or.inr ⟨by rfl, rfl⟩) ?_ ?_
           rotate_left
           ·simp only [Act.put, ZD, ZE, ZF, Zh, Zi]
            rfl
           refine Zk (i := 11) (N := some 61) (v := undef) (a' := ?_) #[true, true, true, true, true, true, true, true, true, true, true, true, false, false, false, false, false, false, false, false, false, false] rfl rfl (Zl HT_.out (by kernel_rfl)) (fun _ _ _ h => h) (Or.inr ⟨by rfl, rfl⟩) ?_ ?_
           rotate_left
           ·simp only [Act.put, ZD, ZE, ZF, Zh, Zi]
            rfl
           refine Zk (i := 12) (N := some 62) (v := undef) (a' := ?_) #[true, true, true, true, true, true, true, true, true, true, true, true, true, false, false, false, false, false, false, false, false, false] rfl rfl (Zl HT_.out (by kernel_rfl)) (fun _ _ _ h => h) (Or.inr ⟨by rfl, rfl⟩) ?_ ?_
           rotate_left
           ·simp only [Act.put, ZD, ZE, ZF, Zh, Zi]
            rfl
           refine Zk (i := 13) (N := some 63) (v := undef) (a' := ?_) #[true, true, true, true, true, true, true, true, true, true, true, true, true, true, false, false, false, false, false, false, false, false] rfl rfl (Zl HT_.out (by kernel_rfl)) (fun _ _ _ h => h) (Or.inr ⟨by rfl, rfl⟩) ?_ ?_
           rotate_left
           ·simp only [Act.put, ZD, ZE, ZF, Zh, Zi]
            rfl
           refine Zk (i := 14) (N := some 64) (v := undef) (a' := ?_) #[true, true, true, true, true, true, true, true, true, true, true, true, true, true, true, false, false, false, false, false, false, false] rfl rfl (Zl HT_.out (by kernel_rfl)) (fun _ _ _ h => h) (Or.inr ⟨by rfl, rfl⟩) ?_ ?_
           rotate_left
           ·simp only [Act.put, ZD, ZE, ZF, Zh, Zi]
            rfl
           refine Zk (i := 15) (N := some 65) (v := undef) (a' := ?_) #[true, true, true, true, true, true, true, true, true, true, true, true, true, true, true, true, false, false, false, false, false, false] rfl rfl (Zl HT_.out (by kernel_rfl)) (fun _ _ _ h => h) (Or.inr ⟨by rfl, rfl⟩) ?_ ?_
           rotate_left
           ·simp only [Act.put, ZD, ZE, ZF, Zh, Zi]
            rfl
           refine Zk (i := 16) (N := some 66) (v := undef) (a' := ?_) #[true, true, true, true, true, true, true, true, true, true, true, true, true, true, true, true, true, false, false, false, false, false] rfl rfl (Zl HT_.out (by kernel_rfl)) (fun _ _ _ h => h) (Or.inr ⟨by rfl, rfl⟩) ?_ ?_
           rotate_left
           ·simp only [Act.put, ZD, ZE, ZF, Zh, Zi]
            rfl
           refine Zk (i := 17) (N := some 67) (v := undef) (a' := ?_) #[true, true, true, true, true, true, true, true, true, true, true, true, true, true, true, true, true, true, false, false, false, false] rfl rfl (Zl HT_.out (by kernel_rfl)) (fun _ _ _ h => h) (Or.inr ⟨by rfl, rfl⟩) ?_ ?_
           rotate_left
           ·simp only [Act.put, ZD, ZE, ZF, Zh, Zi]
            rfl
           refine Zk (i := 18) (N := some 68) (v := undef) (a' := ?_) #[true, true, true, true, true, true, true, true, true, true, true, true, true, true, true, true, true, true, true, false, false, false] rfl rfl (Zl HT_.out (by kernel_rfl)) (fun _ _ _ h => h) (Or.inr ⟨by rfl, rfl⟩) ?_ ?_
           rotate_left
           ·simp only [Act.put, ZD, ZE, ZF, Zh, Zi]
            rfl
           refine Zk (i := 19) (N := some 69) (v := undef) (a' := ?_) #[true, true, true, true, true, true, true, true, true, true, true, true, true, true, true, true, true, true, true, true, false, false] rfl rfl (Zl HT_.out (by kernel_rfl)) (fun _ _ _ h => h) (Or.inr ⟨by rfl, rfl⟩) ?_ ?_
           rotate_left
           ·simp only [Act.put, ZD, ZE, ZF, Zh, Zi]
            rfl
           refine Zk (i := 20) (N := some 70) (v := undef) (a' := ?_) #[true, true, true, true, true, true, true, true, true, true, true, true, true, true, true, true, true, true, true, true, true, false] rfl rfl (Zl HT_.out (by kernel_rfl)) (fun _ _ _ h => h) (Or.inr ⟨by rfl, rfl⟩) ?_ ?_
           rotate_left
           ·simp only [Act.put, ZD, ZE, ZF, Zh, Zi]
            rfl
           refine Zk (i := 21) (N := some 71) (v := ?_) (a' := ?_) #[true, true, true, true, true, true, true, true, true, true, true, true, true, true, true, true, true, true, true, true, true, true] rfl rfl (Zl HT_.out (by kernel_rfl)) (fun _ _ _ h => h) (Or.inl ⟨by rfl, ?_⟩) ?_ ?_
           rotate_left
           ·intro w'
            go_simp
            with_reducible rfl
           rotate_left
           ·simp only [Act.put, ZD, ZE, ZF, Zh, Zi]
            rfl
           refine done_ (done_of HT_.out (by kernel_rfl)) ?_
           try go_wp2
           go_meet
           case rel => exact ⟨_, (true), (by first | rfl | (simp; done) | (simp [*]; done)), H', ⟨by have := HK1.out; have := HJ20.out; first | omega | exact Nat.le_refl _⟩, ⟨by (with_reducible repeat (first | apply Kd.Zu | apply Kd.Zv | apply Kd.Zq)); exact Kd.Zw HO_3.out (fun _ hk => ⟨hk.1.1, ⟨hk.1.2.1, ⟨hk.1.2.2, hk.2⟩⟩⟩)⟩, ⟨by (with_reducible repeat (first | apply Kd.Zu | apply Kd.Zv | apply Kd.Zq)); exact Kd.Zw HO_5.out (fun _ hk => ⟨hk.1.1, ⟨hk.1.2.1, ⟨hk.1.2.2, hk.2⟩⟩⟩)⟩, ⟨by (with_reducible repeat (first | apply Kd.Zu | apply Kd.Zv | apply Kd.Zq)); exact Kd.Zw HO_6.out (fun _ hk => ⟨hk.1.1, ⟨hk.1.2.1, ⟨hk.1.2.2, hk.2⟩⟩⟩)⟩, ⟨by (with_reducible repeat (first | refine Zo ?_ _ | refine Zm ?_ | refine Zn ?_ _)); exact BK139.out⟩, ⟨by repeat (first | (with_reducible first | exact HB.out | apply Zd | apply Zf | apply Ze | refine Zj ?_ GE139.out) | exact HB.out)⟩⟩
          ·rw [if_neg c29] at H
           have c29b0 : decide ((t136.length : Int) ≤ x8_1) = false := decide_eq_false c29
           clear c29
           (first | rw [c29b0] | (simp only [Zh, Zi]; rw [c29b0]) | skip)
           by_cases c32 : x7_1 < (t129.length : Int)
           ·rw [if_pos c32] at H
            have c32b0 : decide (x7_1 < (t129.length : Int)) = true := decide_eq_true c32
            clear c32
            by_cases c33 : 0 ≤ x7_1
            ·rw [if_pos c33] at H
             have c33b0 : decide (0 ≤ x7_1) = true := decide_eq_true c33
             clear c33
             by_cases c34 : 0 ≤ x8_1
             ·rw [if_pos c34] at H
              have c34b0 : decide (0 ≤ x8_1) = true := decide_eq_true c34
              clear c34
              by_cases c35 : x8_1 < (t136.length : Int)
              ·rw [if_pos c35] at H
               have c35b0 : decide (x8_1 < (t136.length : Int)) = true := decide_eq_true c35
               clear c35
               replace H := Option.bind_eq_some_iff.mp H
               obtain ⟨t142, A360, H⟩ := H
               replace H : (Zp.j3 kj20 x3_1 t129 t136 x7_1 x8_1 (decide (t142 ≤ 0))) = some r := H
               have A36 := Za.mk A360
               clear A360
               have H' := Za.mk H
               clear H
               try go_wp2
               replace HO_3 := Za.mk (Kd.Zq HO_3.out)
               replace HO_5 := Za.mk (Kd.Zq HO_5.out)
               replace HO_6 := Za.mk (Kd.Zq HO_6.out)
               replace BK139 := Za.mk (Zm BK139.out)
               replace HB := Za.mk (Ze HB.out)
               obtain ⟨Ao38, co38, eo38⟩ := Kd.N_slice HO_6.out
               (first | subst eo38 | (injection eo38 with f1_ f2_ f3_; have f4_ := f1_.symm; have f5_ := f3_.symm; clear f1_ f2_ f3_; subst f4_; subst f5_))
               obtain ⟨Ao39, co39, eo39⟩ := Kd.N_slice HO_5.out
               (first | subst eo39 | (injection eo39 with f1_ f2_ f3_; have f4_ := f1_.symm; have f5_ := f3_.symm; clear f1_ f2_ f3_; subst f4_; subst f5_))
               have p140 : 0 ≤ (x7_1 : Int) := of_decide_eq_true (by assumption)
               have q140 : x7_1 < (t129.length : Int) := of_decide_eq_true (by assumption)
               obtain ⟨ad140, A140_2, c140_2, e140, hx140_0, hx140_1, hx140_2, hl140_2, hi140_2⟩ := at_T35 (Kd.Zap HO_5.out).2.2 x7_1 p140 q140
               cases e140
               obtain ⟨ce140, hce140, hMe140, hcc140⟩ := Kd.N_get HO_5.out z35 x7_1 p140 (by first | exact q140 | exact of_decide_eq_true (by assumption) | (have e_ := (Kd.Zap HO_5.out).1; omega))
               obtain ⟨ua140_2, uc140_2, rfl, ul140_2, ge140_2⟩ := k35_openF hMe140
               have hv140_2 := hcc140 2 _ rfl
               rw [add_field _ _ 2 (by omega)] at hv140_2
               replace hv140_2 := Option.some.inj (hv140_2.symm.trans hx140_2)
               injection hv140_2 with hva_ hvn_ hvc_
               rw [hva_] at ge140_2
               rw [hvc_] at ul140_2
               have HL140_2 := Za.mk (show Kd.V (Kd.int .u64) 42 _ w.heap.size _ _ ((Zb t129 x7_1).f2) from Kd.V_mk ul140_2 ge140_2)
               clear hva_ hvn_ hvc_ ge140_2 ul140_2
               clear hcc140 hce140
               have HR140_2 := Za.mk hi140_2
               have HC140_2 := Za.mk hl140_2
               clear hi140_2 hl140_2
               replace p140 := eq_true p140
               replace q140 := eq_true q140
               have p141 : 0 ≤ (x8_1 : Int) := of_decide_eq_true (by assumption)
               have q141 : x8_1 < (t136.length : Int) := of_decide_eq_true (by assumption)
               obtain ⟨ad141, A141_2, c141_2, e141, hx141_0, hx141_1, hx141_2, hl141_2, hi141_2⟩ := at_T35 (Kd.Zap HO_6.out).2.2 x8_1 p141 q141
               cases e141
               obtain ⟨ce141, hce141, hMe141, hcc141⟩ := Kd.N_get HO_6.out z35 x8_1 p141 (by first | exact q141 | exact of_decide_eq_true (by assumption) | (have e_ := (Kd.Zap HO_6.out).1; omega))
               obtain ⟨ua141_2, uc141_2, rfl, ul141_2, ge141_2⟩ := k35_openF hMe141
               have hv141_2 := hcc141 2 _ rfl
               rw [add_field _ _ 2 (by omega)] at hv141_2
               replace hv141_2 := Option.some.inj (hv141_2.symm.trans hx141_2)
               injection hv141_2 with hva_ hvn_ hvc_
               rw [hva_] at ge141_2
               rw [hvc_] at ul141_2
               have HL141_2 := Za.mk (show Kd.V (Kd.int .u64) 42 _ w.heap.size _ _ ((Zb t136 x8_1).f2) from Kd.V_mk ul141_2 ge141_2)
               clear hva_ hvn_ hvc_ ge141_2 ul141_2
               clear hcc141 hce141
               have HR141_2 := Za.mk hi141_2
               have HC141_2 := Za.mk hl141_2
               clear hi141_2 hl141_2
               replace p141 := eq_true p141
               replace q141 := eq_true q141
               refine start_ (n := 22) (S := fun w' => w'.cell? (ad140.add ((x7_1).toNat * 3)) = some (.int .u32 ((Zb t129 x7_1).f0)) ∧ w'.cell? ⟨(ad140.add ((x7_1).toNat * 3)).block, (ad140.add ((x7_1).toNat * 3)).off + 1, none⟩ = some (.int .u32 ((Zb t129 x7_1).f1)) ∧ w'.cell? ⟨(ad140.add ((x7_1).toNat * 3)).block, (ad140.add ((x7_1).toNat * 3)).off + 2, none⟩ = some (.slice A140_2 ((Zb t129 x7_1).f2).length c140_2) ∧ w'.cell? (ad141.add ((x8_1).toNat * 3)) = some (.int .u32 ((Zb t136 x8_1).f0)) ∧ w'.cell? ⟨(ad141.add ((x8_1).toNat * 3)).block, (ad141.add ((x8_1).toNat * 3)).off + 1, none⟩ = some (.int .u32 ((Zb t136 x8_1).f1)) ∧ w'.cell? ⟨(ad141.add ((x8_1).toNat * 3)).block, (ad141.add ((x8_1).toNat * 3)).off + 2, none⟩ = some (.slice A141_2 ((Zb t136 x8_1).f2).length c141_2)) (ds := []) #[false, false, false, false, false, false, false, false, false, false, false, false, false, false, false, false, false, false, false, false, false, false] (by kernel_rfl) rfl rfl ⟨hx140_0, hx140_1, hx140_2, hx141_0, hx141_1, hx141_2⟩ (fun hHeld => ?_); refine with_tabW Zp.tab14 Zp.bits14 (fun HT_ HW_ => ?_)
               generalize w28.drew = w37 at HO_3 HO_5 HO_6 BK139 HB HL140_2 HL141_2 HR140_2 HR141_2 hx140_0 hx140_1 hx140_2 hx141_0 hx141_1 hx141_2 hHeld ⊢
               refine Zk (i := 0) (N := some 50) (v := ?_) (a' := ?_) #[true, false, false, false, false, false, false, false, false, false, false, false, false, false, false, false, false, false, false, false, false, false] rfl rfl (Zl HT_.out (by kernel_rfl)) (fun _ _ _ h => h) (Or.inl ⟨by rfl, ?_⟩) ?_ ?_
               rotate_left
               ·intro w'
                go_simp
                with_reducible rfl
               rotate_left
               ·simp only [Act.put, ZD, ZE, ZF, Zh, Zi]
                rfl
               refine Zk (i := 1) (N := some 51) (v := ?_) (a' := ?_) #[true, true, false, false, false, false, false, false, false, false, false, false, false, false, false, false, false, false, false, false, false, false] rfl rfl (Zl HT_.out (by kernel_rfl)) (fun _ _ _ h => h) (Or.inl ⟨by rfl, ?_⟩) ?_ ?_
               rotate_left
               ·intro w'
                go_simp
                with_reducible rfl
               rotate_left
               ·simp only [Act.put, ZD, ZE, ZF, Zh, Zi]
                rfl
               refine Zk (i := 2) (N := some 52) (v := ?_) (a' := ?_) #[true, true, true, false, false, false, false, false, false, false, false, false, false, false, false, false, false, false, false, false, false, false] rfl rfl (Zl HT_.out (by kernel_rfl)) (fun _ _ _ h => h) (Or.inl ⟨by rfl, ?_⟩) ?_ ?_
               rotate_left
               ·intro w'
                go_simp
                with_reducible rfl
               rotate_left
               ·simp only [Act.put, ZD, ZE, ZF, Zh, Zi]
                rfl
               refine Zk (i := 3) (N := some 53) (v := ?_) (a' := ?_) #[true, true, true, true, false, false, false, false, false, false, false, false, false, false, false, false, false, false, false, false, false, false] rfl rfl (Zl HT_.out (by kernel_rfl)) (fun _ _ _ h => h) (Or.inl ⟨by rfl, ?_⟩) ?_ ?_
               rotate_left
               ·intro w'
                go_simp
                with_reducible rfl
               rotate_left
               ·simp only [Act.put, ZD, ZE, ZF, Zh, Zi]
                rfl
               refine Zk (i := 4) (N := some 54) (v := ?_) (a' := ?_) #[true, true, true, true, true, false, false, false, false, false, false, false, false, false, false, false, false, false, false, false, false, false] rfl rfl (Zl HT_.out (by kernel_rfl)) (fun _ _ _ h => h) (Or.inl ⟨by rfl, ?_⟩) ?_ ?_
               rotate_left
               ·intro w'
                go_simp
                with_reducible rfl
               rotate_left
               ·simp only [Act.put, ZD, ZE, ZF, Zh, Zi]
                rfl
               refine Zk (i := 5) (N := some 55) (v := ?_) (a' := ?_) #[true, true, true, true, true, true, false, false, false, false, false, false, false, false, false, false, false, false, false, false, false, false] rfl rfl (Zl HT_.out (by kernel_rfl)) (fun _ _ _ h => h) (Or.inl ⟨by rfl, ?_⟩) ?_ ?_
               rotate_left
               ·intro w'
                go_simp
                with_reducible rfl
               rotate_left
               ·simp only [Act.put, ZD, ZE, ZF, Zh, Zi]
                rfl
               refine Zk (i := 6) (N := some 56) (v := ?_) (a' := ?_) #[true, true, true, true, true, true, true, false, false, false, false, false, false, false, false, false, false, false, false, false, false, false] rfl rfl (Zl HT_.out (by kernel_rfl)) (fun _ _ _ h => h) (Or.inl ⟨by rfl, ?_⟩) ?_ ?_
               rotate_left
               ·intro w'
                go_simp
                with_reducible rfl
               rotate_left
               ·simp only [Act.put, ZD, ZE, ZF, Zh, Zi]
                rfl
               refine Zk (i := 7) (N := some 57) (v := ?_) (a' := ?_) #[true, true, true, true, true, true, true, true, false, false, false, false, false, false, false, false, false, false, false, false, false, false] rfl rfl (Zl HT_.out (by kernel_rfl)) (fun _ _ _ h => h) (Or.inl ⟨by rfl, ?_⟩) ?_ ?_
               rotate_left
               ·intro w'
                go_simp
                with_reducible rfl
               rotate_left
               ·simp only [Act.put, ZD, ZE, ZF, Zh, Zi]
                rfl
               refine Zk (i := 8) (N := some 58) (v := ?_) (a' := ?_) #[true, true, true, true, true, true, true, true, true, false, false, false, false, false, false, false, false, false, false, false, false, false] rfl rfl (Zl HT_.out (by kernel_rfl)) (fun _ _ _ h => h) (Or.inl ⟨by rfl, ?_⟩) ?_ ?_
               rotate_left
               ·intro w'
                go_simp
                with_reducible rfl
               rotate_left
               ·simp only [Act.put, ZD, ZE, ZF, Zh, Zi]
                rfl
               refine Zk (i := 9) (N := some 59) (v := ?_) (a' := ?_) #[true, true, true, true, true, true, true, true, true, true, false, false, false, false, false, false, false, false, false, false, false, false] rfl rfl (Zl HT_.out (by kernel_rfl)) (fun _ _ _ h => h) (Or.inl ⟨by rfl, ?_⟩) ?_ ?_
               rotate_left
               ·intro w'
                go_simp
                with_reducible rfl
               rotate_left
               ·simp only [Act.put, ZD, ZE, ZF, Zh, Zi]
                rfl
               refine Zk (i := 10) (N := some 60) (v := ?_) (a' := ?_) #[true, true, true, true, true, true, true, true, true, true, true, false, false, false, false, false, false, false, false, false, false, false] rfl rfl (Zl HT_.out (by kernel_rfl)) (fun _ _ _ h => h) (Or.inl ⟨by rfl, ?_⟩) ?_ ?_
               rotate_left
               ·intro w'
                go_simp
                with_reducible rfl
               rotate_left
               ·simp only [Act.put, ZD, ZE, ZF, Zh, Zi]
                rfl
               refine Zk (i := 11) (N := some 61) (v := ?_) (a' := ?_) #[true, true, true, true, true, true, true, true, true, true, true, true, false, false, false, false, false, false, false, false, false, false] rfl rfl (Zl HT_.out (by kernel_rfl)) (fun _ _ _ h => h) (Or.inl ⟨by rfl, ?_⟩) ?_ ?_
               rotate_left
               ·intro w'
                go_simp
                with_reducible rfl
               rotate_left
               ·simp only [Act.put, ZD, ZE, ZF, Zh, Zi]
                rfl
               refine Zk (i := 12) (N := some 62) (v := ?_) (a' := ?_) #[true, true, true, true, true, true, true, true, true, true, true, true, true, false, false, false, false, false, false, false, false, false] rfl rfl (Zl HT_.out (by kernel_rfl)) (fun _ _ _ h => h) (Or.inl ⟨by rfl, ?_⟩) ?_ ?_
               rotate_left
               ·intro w'
                go_simp
                with_reducible rfl
               rotate_left
               ·simp only [Act.put, ZD, ZE, ZF, Zh, Zi]
                rfl
               refine Zk (i := 14) (N := some 64) (v := ?_) (a' := ?_) #[true, true, true, true, true, true, true, true, true, true, true, true, true, false, true, false, false, false, false, false, false, false] rfl rfl (Zl HT_.out (by kernel_rfl)) (fun _ _ _ h => h) (Or.inl ⟨by rfl, ?_⟩) ?_ ?_
               rotate_left
               ·intro w'
                go_simp
                with_reducible rfl
               rotate_left
               ·simp only [Act.put, ZD, ZE, ZF, Zh, Zi]
                rfl
               refine Zk (i := 15) (N := some 65) (v := ?_) (a' := ?_) #[true, true, true, true, true, true, true, true, true, true, true, true, true, false, true, true, false, false, false, false, false, false] rfl rfl (Zl HT_.out (by kernel_rfl)) (fun _ _ _ h => h) (Or.inl ⟨by rfl, ?_⟩) ?_ ?_
               rotate_left
               ·intro w'
                go_simp
                with_reducible rfl
               rotate_left
               ·simp only [Act.put, ZD, ZE, ZF, Zh, Zi]
                rfl
               refine Zk (i := 16) (N := some 66) (v := ?_) (a' := ?_) #[true, true, true, true, true, true, true, true, true, true, true, true, true, false, true, true, true, false, false, false, false, false] rfl rfl (Zl HT_.out (by kernel_rfl)) (fun _ _ _ h => h) (Or.inl ⟨by rfl, ?_⟩) ?_ ?_
               rotate_left
               ·intro w'
                go_simp
                with_reducible rfl
               rotate_left
               ·simp only [Act.put, ZD, ZE, ZF, Zh, Zi]
                rfl
               refine take_ (i := 13) (N := some 63) (v := ?_) (a' := ?_) #[true, true, true, true, true, true, true, true, true, true, true, true, true, true, true, true, true, false, false, false, false, false] rfl rfl (take_ofW HT_.out HW_.out (by kernel_rfl)) (fun _ _ _ h => h) (Or.inl ⟨by rfl, ?_⟩) hHeld ?_ ?_
               rotate_left
               ·rintro w' ⟨s0, s1, s2, s3, s4, s5⟩
                go_simp
                with_reducible rfl
               rotate_left
               ·simp only [Act.put, ZD, ZE, ZF, Zh, Zi]
                rfl
               refine take_ (i := 17) (N := some 67) (v := ?_) (a' := ?_) #[true, true, true, true, true, true, true, true, true, true, true, true, true, true, true, true, true, true, false, false, false, false] rfl rfl (take_ofW HT_.out HW_.out (by kernel_rfl)) (fun _ _ _ h => h) (Or.inl ⟨by rfl, ?_⟩) hHeld ?_ ?_
               rotate_left
               ·rintro w' ⟨s0, s1, s2, s3, s4, s5⟩
                go_simp
                with_reducible rfl
               rotate_left
               ·simp only [Act.put, ZD, ZE, ZF, Zh, Zi]
                rfl
               refine one_ (i := 18) (N := some 68) #[true, true, true, true, true, true, true, true, true, true, true, true, true, true, true, true, true, true, true, false, false, false] rfl rfl (one_of HT_.out (by kernel_rfl)) (by decide) (fun K hK => ?_)
               refine goes_ Try.func13 (by kernel_rfl) rfl #[.agg #[.int .u32 ((Zb t129 x7_1).f0), .int .u32 ((Zb t129 x7_1).f1), .slice A140_2 ((Zb t129 x7_1).f2).length c140_2], .agg #[.int .u32 ((Zb t136 x8_1).f0), .int .u32 ((Zb t136 x8_1).f1), .slice A141_2 ((Zb t136 x8_1).f2).length c141_2]] (by rfl) rfl rfl (by (try simp only [ZA, ZB, ZC]); first | done | rfl | (simp only [List.length_drop, List.length_take]; rfl)) ?_
               with_reducible refine (Zag.calls kj20 ((Zb t129 x7_1).f0) ((Zb t129 x7_1).f1) _ _ ((Zb t129 x7_1).f2) ((Zb t136 x8_1).f0) ((Zb t136 x8_1).f1) _ _ ((Zb t136 x8_1).f2) t142 _ ?side1 ?side2 ?side3 ?side4 A36.out).mono ?_
               (case side1 => repeat (first | exact (by repeat (first | (with_reducible exact HR140_2.out) | (with_reducible refine Kd.Zac ?_ _) | (with_reducible refine Kd.Zaf ?_ _) | (with_reducible refine Kd.Zae ?_) | exact HR140_2.out)) | (with_reducible refine Kd.Zac ?_ _) | (with_reducible refine Kd.Zaf ?_ _) | (with_reducible refine Kd.Zae ?_)))
               (case side2 => exact HC140_2.out)
               (case side3 => repeat (first | exact (by repeat (first | (with_reducible exact HR141_2.out) | (with_reducible refine Kd.Zac ?_ _) | (with_reducible refine Kd.Zaf ?_ _) | (with_reducible refine Kd.Zae ?_) | exact HR141_2.out)) | (with_reducible refine Kd.Zac ?_ _) | (with_reducible refine Kd.Zaf ?_ _) | (with_reducible refine Kd.Zae ?_)))
               (case side4 => exact HC141_2.out)
               rintro e w40 ⟨rfl, hb⟩
               have HS0_ := (hb.cell (World.block_lt_of_cell? _ _ (hHeld.1))).trans (hHeld.1)
               have HS1_ := (hb.cell (World.block_lt_of_cell? _ _ (hHeld.2.1))).trans (hHeld.2.1)
               have HS2_ := (hb.cell (World.block_lt_of_cell? _ _ (hHeld.2.2.1))).trans (hHeld.2.2.1)
               have HS3_ := (hb.cell (World.block_lt_of_cell? _ _ (hHeld.2.2.2.1))).trans (hHeld.2.2.2.1)
               have HS4_ := (hb.cell (World.block_lt_of_cell? _ _ (hHeld.2.2.2.2.1))).trans (hHeld.2.2.2.2.1)
               have HS5_ := (hb.cell (World.block_lt_of_cell? _ _ (hHeld.2.2.2.2.2))).trans (hHeld.2.2.2.2.2)
               refine ⟨_, rfl, ?_⟩
               replace HO_3 := Za.mk (Kd.Zan (by (with_reducible repeat (first | apply Kd.Zu | apply Kd.Zv | apply Kd.Zq)); exact HO_3.out) hb)
               replace HO_5 := Za.mk (Kd.Zan (by (with_reducible repeat (first | apply Kd.Zu | apply Kd.Zv | apply Kd.Zq)); exact HO_5.out) hb)
               replace HO_6 := Za.mk (Kd.Zan (by (with_reducible repeat (first | apply Kd.Zu | apply Kd.Zv | apply Kd.Zq)); exact HO_6.out) hb)
               replace HL140_2 := Za.mk (Kd.V_below (by (with_reducible repeat (first | apply Kd.V_alloc | apply Kd.V_drewN | apply Kd.V_drew)); exact HL140_2.out) hb)
               replace HL141_2 := Za.mk (Kd.V_below (by (with_reducible repeat (first | apply Kd.V_alloc | apply Kd.V_drewN | apply Kd.V_drew)); exact HL141_2.out) hb)
               replace BK139 := Za.mk (Zak (g := gb139) (o := .cells #[.int .u32 0, .int .u32 0, .slice none 0 0] 35 (0, 0)) (by (with_reducible repeat (first | refine Zo ?_ _ | refine Zm ?_ | refine Zn ?_ _)); exact BK139.out) hb)
               replace HR140_2 := Za.mk (Kd.Zah (by repeat (first | (with_reducible exact HR140_2.out) | (with_reducible refine Kd.Zac ?_ _) | (with_reducible refine Kd.Zaf ?_ _) | (with_reducible refine Kd.Zae ?_) | exact HR140_2.out)) hb)
               replace HR141_2 := Za.mk (Kd.Zah (by repeat (first | (with_reducible exact HR141_2.out) | (with_reducible refine Kd.Zac ?_ _) | (with_reducible refine Kd.Zaf ?_ _) | (with_reducible refine Kd.Zae ?_) | exact HR141_2.out)) hb)
               replace HB := Za.mk (Zx (by repeat (first | (with_reducible first | exact HB.out | apply Zd | apply Zf | apply Ze | refine Zj ?_ GE139.out) | exact HB.out)) hb)
               (try clear hb)
               (try clear hb2)
               (try clear hk)
               (try clear hi)
               refine hK.out _ _ ⟨HS0_, HS1_, HS2_, HS3_, HS4_, HS5_⟩ (fun hHeld => ?_)
               clear hK K
               refine norm_ (a' := ?_) ?_ ?_
               rotate_left
               ·show Act.put _ (some 68) _ = _
                simp only [Act.put, ZD, ZE, ZF, Zh, Zi]
                rfl
               refine Zk (i := 19) (N := some 69) (v := ?_) (a' := ?_) #[true, true, true, true, true, true, true, true, true, true, true, true, true, true, true, true, true, true, true, true, false, false] rfl rfl (Zl HT_.out (by kernel_rfl)) (fun _ _ _ h => h) (Or.inl ⟨by rfl, ?_⟩) ?_ ?_
               rotate_left
               ·intro w'
                go_simp
                with_reducible rfl
               rotate_left
               ·simp only [Act.put, ZD, ZE, ZF, Zh, Zi]
                rfl
               refine Zk (i := 20) (N := some 70) (v := ?_) (a' := ?_) #[true, true, true, true, true, true, true, true, true, true, true, true, true, true, true, true, true, true, true, true, true, false] rfl rfl (Zl HT_.out (by kernel_rfl)) (fun _ _ _ h => h) (Or.inl ⟨by rfl, ?_⟩) ?_ ?_
               rotate_left
               ·intro w'
                go_simp
                with_reducible rfl
               rotate_left
               ·simp only [Act.put, ZD, ZE, ZF, Zh, Zi]
                rfl
               refine Zk (i := 21) (N := some 71) (v := ?_) (a' := ?_) #[true, true, true, true, true, true, true, true, true, true, true, true, true, true, true, true, true, true, true, true, true, true] rfl rfl (Zl HT_.out (by kernel_rfl)) (fun _ _ _ h => h) (Or.inl ⟨by rfl, ?_⟩) ?_ ?_
               rotate_left
               ·intro w'
                go_simp
                with_reducible rfl
               rotate_left
               ·simp only [Act.put, ZD, ZE, ZF, Zh, Zi]
                rfl
               refine done_ (done_of HT_.out (by kernel_rfl)) ?_
               try go_wp2
               go_meet
               case rel => exact ⟨_, (decide (t142 ≤ 0)), (by first | rfl | (simp; done) | (simp [*]; done)), H', ⟨by have := HK1.out; have := HJ20.out; first | omega | exact Nat.le_refl _⟩, ⟨by (with_reducible repeat (first | apply Kd.Zu | apply Kd.Zv | apply Kd.Zq)); exact Kd.Zw HO_3.out (fun _ hk => ⟨hk.1.1, ⟨hk.1.2.1, ⟨hk.1.2.2, hk.2⟩⟩⟩)⟩, ⟨by (with_reducible repeat (first | apply Kd.Zu | apply Kd.Zv | apply Kd.Zq)); exact Kd.Zw HO_5.out (fun _ hk => ⟨hk.1.1, ⟨hk.1.2.1, ⟨hk.1.2.2, hk.2⟩⟩⟩)⟩, ⟨by (with_reducible repeat (first | apply Kd.Zu | apply Kd.Zv | apply Kd.Zq)); exact Kd.Zw HO_6.out (fun _ hk => ⟨hk.1.1, ⟨hk.1.2.1, ⟨hk.1.2.2, hk.2⟩⟩⟩)⟩, ⟨by (with_reducible repeat (first | refine Zo ?_ _ | refine Zm ?_ | refine Zn ?_ _)); exact BK139.out⟩, ⟨by repeat (first | (with_reducible first | exact HB.out | apply Zd | apply Zf | apply Ze | refine Zj ?_ GE139.out) | exact HB.out)⟩⟩
              ·rw [if_neg c35] at H
               exact absurd H (by simp)
             ·rw [if_neg c34] at H
              exact absurd H (by simp)
            ·rw [if_neg c33] at H
             exact absurd H (by simp)
           ·rw [if_neg c32] at H
            have c32b0 : decide (x7_1 < (t129.length : Int)) = false := decide_eq_false c32
            clear c32
            have H' := Za.mk H
            clear H
            try go_wp2
            replace HO_3 := Za.mk (Kd.Zq HO_3.out)
            replace HO_5 := Za.mk (Kd.Zq HO_5.out)
            replace HO_6 := Za.mk (Kd.Zq HO_6.out)
            replace BK139 := Za.mk (Zm BK139.out)
            replace HB := Za.mk (Ze HB.out)
            obtain ⟨Ao42, co42, eo42⟩ := Kd.N_slice HO_6.out
            (first | subst eo42 | (injection eo42 with f1_ f2_ f3_; have f4_ := f1_.symm; have f5_ := f3_.symm; clear f1_ f2_ f3_; subst f4_; subst f5_))
            obtain ⟨Ao43, co43, eo43⟩ := Kd.N_slice HO_5.out
            (first | subst eo43 | (injection eo43 with f1_ f2_ f3_; have f4_ := f1_.symm; have f5_ := f3_.symm; clear f1_ f2_ f3_; subst f4_; subst f5_))
            refine start_ (n := 22) (S := fun w' => True) (ds := []) #[false, false, false, false, false, false, false, false, false, false, false, false, false, false, false, false, false, false, false, false, false, false] (by kernel_rfl) rfl rfl trivial (fun hHeld => ?_); refine with_tabW Zp.tab14 Zp.bits14 (fun HT_ HW_ => ?_)
            generalize w28.drew = w41 at HO_3 HO_5 HO_6 BK139 HB hHeld ⊢
            refine Zk (i := 0) (N := some 50) (v := ?_) (a' := ?_) #[true, false, false, false, false, false, false, false, false, false, false, false, false, false, false, false, false, false, false, false, false, false] rfl rfl (Zl HT_.out (by kernel_rfl)) (fun _ _ _ h => h) (Or.inl ⟨by rfl, ?_⟩) ?_ ?_
            rotate_left
            ·intro w'
             go_simp
             with_reducible rfl
            rotate_left
            ·simp only [Act.put, ZD, ZE, ZF, Zh, Zi]
             rfl
            refine Zk (i := 1) (N := some 51) (v := ?_) (a' := ?_) #[true, true, false, false, false, false, false, false, false, false, false, false, false, false, false, false, false, false, false, false, false, false] rfl rfl (Zl HT_.out (by kernel_rfl)) (fun _ _ _ h => h) (Or.inl ⟨by rfl, ?_⟩) ?_ ?_
            rotate_left
            ·intro w'
             go_simp
             with_reducible rfl
            rotate_left
            ·simp only [Act.put, ZD, ZE, ZF, Zh, Zi]
             rfl
            refine Zk (i := 2) (N := some 52) (v := ?_) (a' := ?_) #[true, true, true, false, false, false, false, false, false, false, false, false, false, false, false, false, false, false, false, false, false, false] rfl rfl (Zl HT_.out (by kernel_rfl)) (fun _ _ _ h => h) (Or.inl ⟨by rfl, ?_⟩) ?_ ?_
            rotate_left
            ·intro w'
             go_simp
             with_reducible rfl
            rotate_left
            ·simp only [Act.put, ZD, ZE, ZF, Zh, Zi]
             rfl
            refine Zk (i := 3) (N := some 53) (v := ?_) (a' := ?_) #[true, true, true, true, false, false, false, false, false, false, false, false, false, false, false, false, false, false, false, false, false, false] rfl rfl (Zl HT_.out (by kernel_rfl)) (fun _ _ _ h => h) (Or.inl ⟨by rfl, ?_⟩) ?_ ?_
            rotate_left
            ·intro w'
             go_simp
             with_reducible rfl
            rotate_left
            ·simp only [Act.put, ZD, ZE, ZF, Zh, Zi]
             rfl
            refine Zk (i := 4) (N := some 54) (v := ?_) (a' := ?_) #[true, true, true, true, true, false, false, false, false, false, false, false, false, false, false, false, false, false, false, false, false, false] rfl rfl (Zl HT_.out (by kernel_rfl)) (fun _ _ _ h => h) (Or.inl ⟨by rfl, ?_⟩) ?_ ?_
            rotate_left
            ·intro w'
             go_simp
             with_reducible rfl
            rotate_left
            ·simp only [Act.put, ZD, ZE, ZF, Zh, Zi]
             rfl
            refine Zk (i := 5) (N := some 55) (v := ?_) (a' := ?_) #[true, true, true, true, true, true, false, false, false, false, false, false, false, false, false, false, false, false, false, false, false, false] rfl rfl (Zl HT_.out (by kernel_rfl)) (fun _ _ _ h => h) (Or.inl ⟨by rfl, ?_⟩) ?_ ?_
            rotate_left
            ·intro w'
             go_simp
             with_reducible rfl
            rotate_left
            ·simp only [Act.put, ZD, ZE, ZF, Zh, Zi]
             rfl
            refine Zk (i := 6) (N := some 56) (v := ?_) (a' := ?_) #[true, true, true, true, true, true, true, false, false, false, false, false, false, false, false, false, false, false, false, false, false, false] rfl rfl (Zl HT_.out (by kernel_rfl)) (fun _ _ _ h => h) (Or.inl ⟨by rfl, ?_⟩) ?_ ?_
            rotate_left
            ·intro w'
             go_simp
             with_reducible rfl
            rotate_left
            ·simp only [Act.put, ZD, ZE, ZF, Zh, Zi]
             rfl
            refine Zk (i := 7) (N := some 57) (v := ?_) (a' := ?_) #[true, true, true, true, true, true, true, true, false, false, false, false, false, false, false, false, false, false, false, false, false, false] rfl rfl (Zl HT_.out (by kernel_rfl)) (fun _ _ _ h => h) (Or.inl ⟨by rfl, ?_⟩) ?_ ?_
            rotate_left
            ·intro w'
             go_simp
             with_reducible rfl
            rotate_left
            ·simp only [Act.put, ZD, ZE, ZF, Zh, Zi]
             rfl
            refine Zk (i := 8) (N := some 58) (v := ?_) (a' := ?_) #[true, true, true, true, true, true, true, true, true, false, false, false, false, false, false, false, false, false, false, false, false, false] rfl rfl (Zl HT_.out (by kernel_rfl)) (fun _ _ _ h => h) (Or.inl ⟨by rfl, ?_⟩) ?_ ?_
            rotate_left
            ·intro w'
             go_simp
             with_reducible rfl
            rotate_left
            ·simp only [Act.put, ZD, ZE, ZF, Zh, Zi]
             rfl
            refine Zk (i := 9) (N := some 59) (v := ?_) (a' := ?_) #[true, true, true, true, true, true, true, true, true, true, false, false, false, false, false, false, false, false, false, false, false, false] rfl rfl (Zl HT_.out (by kernel_rfl)) (fun _ _ _ h => h) (Or.inl ⟨by rfl, ?_⟩) ?_ ?_
            rotate_left
            ·intro w'
             go_simp
             with_reducible rfl
            rotate_left
            ·simp only [Act.put, ZD, ZE, ZF, Zh, Zi]
             rfl
            refine Zk (i := 10) (N := some 60) (v := undef) (a' := ?_) #[true, true, true, true, true, true, true, true, true, true, true, false, false, false, false, false, false, false, false, false, false, false] rfl rfl (Zl HT_.out (by kernel_rfl)) (fun _ _ _ h => h) (Or.inr ⟨by rfl, rfl⟩) ?_ ?_
            rotate_left
            ·simp only [Act.put, ZD, ZE, ZF, Zh, Zi]
             rfl
            refine Zk (i := 11) (N := some 61) (v := undef) (a' := ?_) #[true, true, true, true, true, true, true, true, true, true, true, true, false, false, false, false, false, false, false, false, false, false] rfl rfl (Zl HT_.out (by kernel_rfl)) (fun _ _ _ h => h) (Or.inr ⟨by rfl, rfl⟩) ?_ ?_
            rotate_left
            ·simp only [Act.put, ZD, ZE, ZF, Zh, Zi]
             rfl
            refine Zk (i := 12) (N := some 62) (v := undef) (a' := ?_) #[true, true, true, true, true, true, true, true, true, true, true, true, true, false, false, false, false, false, false, false, false, false] rfl rfl (Zl HT_.out (by kernel_rfl)) (fun _ _ _ h => h) (Or.inr ⟨by rfl, rfl⟩) ?_ ?_
            rotate_left
            ·simp only [Act.put, ZD, ZE, ZF, Zh, Zi]
             rfl
            refine Zk (i := 13) (N := some 63) (v := undef) (a' := ?_) #[true, true, true, true, true, true, true, true, true, true, true, true, true, true, false, false, false, false, false, false, false, false] rfl rfl (Zl HT_.out (by kernel_rfl)) (fun _ _ _ h => h) (Or.inr ⟨by rfl, rfl⟩) ?_ ?_
            rotate_left
            ·simp only [Act.put, ZD, ZE, ZF, Zh, Zi]
             rfl
            refine Zk (i := 14) (N := some 64) (v := undef) (a' := ?_) #[true, true, true, true, true, true, true, true, true, true, true, true, true, true, true, false, false, false, false, false, false, false] rfl rfl (Zl HT_.out (by kernel_rfl)) (fun _ _ _ h => h) (Or.inr ⟨by rfl, rfl⟩) ?_ ?_
            rotate_left
            ·simp only [Act.put, ZD, ZE, ZF, Zh, Zi]
             rfl
            refine Zk (i := 15) (N := some 65) (v := undef) (a' := ?_) #[true, true, true, true, true, true, true, true, true, true, true, true, true, true, true, true, false, false, false, false, false, false] rfl rfl (Zl HT_.out (by kernel_rfl)) (fun _ _ _ h => h) (Or.inr ⟨by rfl, rfl⟩) ?_ ?_
            rotate_left
            ·simp only [Act.put, ZD, ZE, ZF, Zh, Zi]
             rfl
            refine Zk (i := 16) (N := some 66) (v := undef) (a' := ?_) #[true, true, true, true, true, true, true, true, true, true, true, true, true, true, true, true, true, false, false, false, false, false] rfl rfl (Zl HT_.out (by kernel_rfl)) (fun _ _ _ h => h) (Or.inr ⟨by rfl, rfl⟩) ?_ ?_
            rotate_left
            ·simp only [Act.put, ZD, ZE, ZF, Zh, Zi]
             rfl
            refine Zk (i := 17) (N := some 67) (v := undef) (a' := ?_) #[true, true, true, true, true, true, true, true, true, true, true, true, true, true, true, true, true, true, false, false, false, false] rfl rfl (Zl HT_.out (by kernel_rfl)) (fun _ _ _ h => h) (Or.inr ⟨by rfl, rfl⟩) ?_ ?_
            rotate_left
            ·simp only [Act.put, ZD, ZE, ZF, Zh, Zi]
             rfl
            refine Zk (i := 18) (N := some 68) (v := undef) (a' := ?_) #[true, true, true, true, true, true, true, true, true, true, true, true, true, true, true, true, true, true, true, false, false, false] rfl rfl (Zl HT_.out (by kernel_rfl)) (fun _ _ _ h => h) (Or.inr ⟨by rfl, rfl⟩) ?_ ?_
            rotate_left
            ·simp only [Act.put, ZD, ZE, ZF, Zh, Zi]
             rfl
            refine Zk (i := 19) (N := some 69) (v := undef) (a' := ?_) #[true, true, true, true, true, true, true, true, true, true, true, true, true, true, true, true, true, true, true, true, false, false] rfl rfl (Zl HT_.out (by kernel_rfl)) (fun _ _ _ h => h) (Or.inr ⟨by rfl, rfl⟩) ?_ ?_
            rotate_left
            ·simp only [Act.put, ZD, ZE, ZF, Zh, Zi]
             rfl
            refine Zk (i := 20) (N := some 70) (v := ?_) (a' := ?_) #[true, true, true, true, true, true, true, true, true, true, true, true, true, true, true, true, true, true, true, true, true, false] rfl rfl (Zl HT_.out (by kernel_rfl)) (fun _ _ _ h => h) (Or.inl ⟨by rfl, ?_⟩) ?_ ?_
            rotate_left
            ·intro w'
             go_simp
             with_reducible rfl
            rotate_left
            ·simp only [Act.put, ZD, ZE, ZF, Zh, Zi]
             rfl
            refine Zk (i := 21) (N := some 71) (v := ?_) (a' := ?_) #[true, true, true, true, true, true, true, true, true, true, true, true, true, true, true, true, true, true, true, true, true, true] rfl rfl (Zl HT_.out (by kernel_rfl)) (fun _ _ _ h => h) (Or.inl ⟨by rfl, ?_⟩) ?_ ?_
            rotate_left
            ·intro w'
             go_simp
             with_reducible rfl
            rotate_left
            ·simp only [Act.put, ZD, ZE, ZF, Zh, Zi]
             rfl
            refine done_ (done_of HT_.out (by kernel_rfl)) ?_
            try go_wp2
            go_meet
            case rel => exact ⟨_, (false), (by first | rfl | (simp; done) | (simp [*]; done)), H', ⟨by have := HK1.out; have := HJ20.out; first | omega | exact Nat.le_refl _⟩, ⟨by (with_reducible repeat (first | apply Kd.Zu | apply Kd.Zv | apply Kd.Zq)); exact Kd.Zw HO_3.out (fun _ hk => ⟨hk.1.1, ⟨hk.1.2.1, ⟨hk.1.2.2, hk.2⟩⟩⟩)⟩, ⟨by (with_reducible repeat (first | apply Kd.Zu | apply Kd.Zv | apply Kd.Zq)); exact Kd.Zw HO_5.out (fun _ hk => ⟨hk.1.1, ⟨hk.1.2.1, ⟨hk.1.2.2, hk.2⟩⟩⟩)⟩, ⟨by (with_reducible repeat (first | apply Kd.Zu | apply Kd.Zv | apply Kd.Zq)); exact Kd.Zw HO_6.out (fun _ hk => ⟨hk.1.1, ⟨hk.1.2.1, ⟨hk.1.2.2, hk.2⟩⟩⟩)⟩, ⟨by (with_reducible repeat (first | refine Zo ?_ _ | refine Zm ?_ | refine Zn ?_ _)); exact BK139.out⟩, ⟨by repeat (first | (with_reducible first | exact HB.out | apply Zd | apply Zf | apply Ze | refine Zj ?_ GE139.out) | exact HB.out)⟩⟩
         case rest =>
          clear HC27
          try clear c1
          try clear p1
          try clear q1
          try clear hx1
          try clear c2
          try clear p2
          try clear c3
          try clear c13
          try clear c14
          try clear p14
          try clear q14
          try clear hx14
          try clear c29
          try clear c29b0
          try clear c32
          try clear c32b0
          try clear c33
          try clear c33b0
          try clear c34
          try clear c34b0
          try clear c35
          try clear c35b0
          try clear hx140_0
          try clear hx140_1
          try clear hx140_2
          try clear hx141_0
          try clear hx141_1
          try clear hx141_2
          try clear p140
          try clear p141
          try clear q140
          try clear q141
          obtain ⟨kq, x71_26, rfl, HA, HJ26, HO_3, HO_5, HO_6, BK139, HB⟩ := hcut
          cases kq with
          | zero => exact absurd HA.out (by simp [Zp.j3])
          | succ kj26 =>
           have H := HA.out
           clear HA
           simp only [Zp.j3] at H
           by_cases c44 : x71_26 = true
           ·subst c44
            have H1 : (if 0 ≤ x7_1 then (if x7_1 < (t129.length : Int) then (if (x3_1.length : Int) = 0 then (if x3_1.length < 4398046511104 then (Zp.l1 kj26 (x3_1 ++ [(⟨(Zb t129 x7_1).f0, (Zb t129 x7_1).f1, (Zb t129 x7_1).f2⟩ : S35)]) t129 t136 (wrap64 (x7_1 + 1)) x8_1) else (none)) else (if 0 ≤ (wrap64 ((x3_1.length : Int) - 1)) then (if (wrap64 ((x3_1.length : Int) - 1)) < (x3_1.length : Int) then ((Zag.f kj26 ((Zb x3_1 (wrap64 ((x3_1.length : Int) - 1))).f0) ((Zb x3_1 (wrap64 ((x3_1.length : Int) - 1))).f1) ((Zb x3_1 (wrap64 ((x3_1.length : Int) - 1))).f2) ((Zb t129 x7_1).f0) ((Zb t129 x7_1).f1) ((Zb t129 x7_1).f2)).bind fun t148 => (if t148 = 0 then (Zp.l1 kj26 x3_1 t129 t136 (wrap64 (x7_1 + 1)) x8_1) else (if x3_1.length < 4398046511104 then (Zp.l1 kj26 (x3_1 ++ [(⟨(Zb t129 x7_1).f0, (Zb t129 x7_1).f1, (Zb t129 x7_1).f2⟩ : S35)]) t129 t136 (wrap64 (x7_1 + 1)) x8_1) else (none)))) else (none)) else (none))) else (none)) else (none)) = some r := by rw [if_pos rfl] at H; exact H
            clear H
            have H := H1
            clear H1
            by_cases c45 : 0 ≤ x7_1
            ·rw [if_pos c45] at H
             have c45b0 : decide (0 ≤ x7_1) = true := decide_eq_true c45
             clear c45
             by_cases c46 : x7_1 < (t129.length : Int)
             ·rw [if_pos c46] at H
              have c46b0 : decide (x7_1 < (t129.length : Int)) = true := decide_eq_true c46
              clear c46
              by_cases c47 : (x3_1.length : Int) = 0
              ·rw [if_pos c47] at H
               have c47b0 : ((x3_1.length : Int) == 0) = true := beq_iff_eq.mpr c47
               have c47b1 : ((x3_1.length : Int) != 0) = false := bne_eq_false_iff_eq.mpr c47
               clear c47
               by_cases c48 : x3_1.length < 4398046511104
               ·rw [if_pos c48] at H
                have LMc48 := Za.mk c48
                clear c48
                obtain ⟨y144, hy144⟩ : ∃ y_ : List (S35), y_ = (x3_1 ++ [(⟨(Zb t129 x7_1).f0, (Zb t129 x7_1).f1, (Zb t129 x7_1).f2⟩ : S35)]) := ⟨_, rfl⟩
                replace H : (Zp.l1 kj26 y144 t129 t136 (wrap64 (x7_1 + 1)) x8_1) = some r := by first | (rw [hy144]; with_reducible exact H) | (have H2_ := (Option.bind_some _ _).symm.trans H; rw [hy144]; with_reducible exact H2_) | (have H2_ := (Option.bind_some _ _).symm.trans H; with_reducible exact H2_) | with_reducible exact H | (rw [hy144]; exact H) | exact H
                have Ny144 := Za.mk hy144
                clear hy144
                have H' := Za.mk H
                clear H
                obtain ⟨Ao49, co49, eo49⟩ := Kd.N_slice HO_5.out
                subst eo49
                have p143 : 0 ≤ (x7_1 : Int) := of_decide_eq_true (by assumption)
                have q143 : x7_1 < (t129.length : Int) := of_decide_eq_true (by assumption)
                obtain ⟨ad143, A143_2, c143_2, e143, hx143_0, hx143_1, hx143_2, hl143_2, hi143_2⟩ := at_T35 (Kd.Zap HO_5.out).2.2 x7_1 p143 q143
                cases e143
                obtain ⟨ce143, hce143, hMe143, hcc143⟩ := Kd.N_get HO_5.out z35 x7_1 p143 (by first | exact q143 | exact of_decide_eq_true (by assumption) | (have e_ := (Kd.Zap HO_5.out).1; omega))
                obtain ⟨ua143_2, uc143_2, rfl, ul143_2, ge143_2⟩ := k35_openF hMe143
                have hv143_2 := hcc143 2 _ rfl
                rw [add_field _ _ 2 (by omega)] at hv143_2
                replace hv143_2 := Option.some.inj (hv143_2.symm.trans hx143_2)
                injection hv143_2 with hva_ hvn_ hvc_
                rw [hva_] at ge143_2
                rw [hvc_] at ul143_2
                have HL143_2 := Za.mk (show Kd.V (Kd.int .u64) 42 _ w.heap.size _ _ ((Zb t129 x7_1).f2) from Kd.V_mk ul143_2 ge143_2)
                clear hva_ hvn_ hvc_ ge143_2 ul143_2
                clear hcc143 hce143
                have HR143_2 := Za.mk hi143_2
                have HC143_2 := Za.mk hl143_2
                clear hi143_2 hl143_2
                replace p143 := eq_true p143
                replace q143 := eq_true q143
                have hcz50_0 : wc.cell? ⟨gb139, 0, none⟩ = some (.int .u32 0) := (Zc BK139.out 0).trans rfl
                have hcz50_1 : wc.cell? ⟨gb139, 1, none⟩ = some (.int .u32 0) := (Zc BK139.out 1).trans rfl
                have hcz50_2 : wc.cell? ⟨gb139, 2, none⟩ = some (.slice none 0 0) := (Zc BK139.out 2).trans rfl
                have hfz50_0 := Zg BK139.out 0
                have hfz50_1 := Zg BK139.out 1
                have hfz50_2 := Zg BK139.out 2
                try go_wp2
                have n0_ : Za (Kd.N k35 35 (((wc.setCell ⟨gb139, 0, none⟩ (.int .u32 ((Zb t129 x7_1).f0))).setCell ⟨gb139, 1, none⟩ (.int .u32 ((Zb t129 x7_1).f1))).setCell ⟨gb139, 2, none⟩ (.slice A143_2 ((Zb t129 x7_1).f2).length c143_2)) w.heap.size (fun k_ => (w.heap.size ≤ k_) ∧ some k_ ≠ (.slice (some ad143) t129.length co49 : Value).ownBlock ∧ some k_ ≠ (v137 : Value).ownBlock ∧ k_ ≠ gb139) u3 x3_1) := ⟨by (with_reducible repeat (first | apply Kd.Zu | apply Kd.Zv | apply Kd.Zq)); exact Kd.Zw (Kd.N_far (p := ⟨gb139, 2, none⟩) (Kd.N_far (p := ⟨gb139, 1, none⟩) (Kd.N_far (p := ⟨gb139, 0, none⟩) (Kd.Zw HO_3.out (fun k_ hk => (⟨hk, hk.2.2.2⟩ : _ ∧ k_ ≠ gb139))) (fun _ hk => hk.2) (.int .u32 ((Zb t129 x7_1).f0))) (fun _ hk => hk.2) (.int .u32 ((Zb t129 x7_1).f1))) (fun _ hk => hk.2) (.slice A143_2 ((Zb t129 x7_1).f2).length c143_2)) (fun _ hk => ⟨hk.1.1, ⟨hk.1.2.1, ⟨hk.1.2.2.1, hk.1.2.2.2⟩⟩⟩)⟩
                have n1_ : Za (Kd.N k35 35 (((wc.setCell ⟨gb139, 0, none⟩ (.int .u32 ((Zb t129 x7_1).f0))).setCell ⟨gb139, 1, none⟩ (.int .u32 ((Zb t129 x7_1).f1))).setCell ⟨gb139, 2, none⟩ (.slice A143_2 ((Zb t129 x7_1).f2).length c143_2)) w.heap.size (fun k_ => (w.heap.size ≤ k_) ∧ some k_ ≠ (u3 : Value).ownBlock ∧ some k_ ≠ (v137 : Value).ownBlock ∧ k_ ≠ gb139) (.slice (some ad143) t129.length co49) t129) := ⟨by (with_reducible repeat (first | apply Kd.Zu | apply Kd.Zv | apply Kd.Zq)); exact Kd.Zw (Kd.N_far (p := ⟨gb139, 2, none⟩) (Kd.N_far (p := ⟨gb139, 1, none⟩) (Kd.N_far (p := ⟨gb139, 0, none⟩) (Kd.Zw HO_5.out (fun k_ hk => (⟨hk, hk.2.2.2⟩ : _ ∧ k_ ≠ gb139))) (fun _ hk => hk.2) (.int .u32 ((Zb t129 x7_1).f0))) (fun _ hk => hk.2) (.int .u32 ((Zb t129 x7_1).f1))) (fun _ hk => hk.2) (.slice A143_2 ((Zb t129 x7_1).f2).length c143_2)) (fun _ hk => ⟨hk.1.1, ⟨hk.1.2.1, ⟨hk.1.2.2.1, hk.1.2.2.2⟩⟩⟩)⟩
                have n2_ : Za (Kd.N k35 35 (((wc.setCell ⟨gb139, 0, none⟩ (.int .u32 ((Zb t129 x7_1).f0))).setCell ⟨gb139, 1, none⟩ (.int .u32 ((Zb t129 x7_1).f1))).setCell ⟨gb139, 2, none⟩ (.slice A143_2 ((Zb t129 x7_1).f2).length c143_2)) w.heap.size (fun k_ => (w.heap.size ≤ k_) ∧ some k_ ≠ (u3 : Value).ownBlock ∧ some k_ ≠ (.slice (some ad143) t129.length co49 : Value).ownBlock ∧ k_ ≠ gb139) v137 t136) := ⟨by (with_reducible repeat (first | apply Kd.Zu | apply Kd.Zv | apply Kd.Zq)); exact Kd.Zw (Kd.N_far (p := ⟨gb139, 2, none⟩) (Kd.N_far (p := ⟨gb139, 1, none⟩) (Kd.N_far (p := ⟨gb139, 0, none⟩) (Kd.Zw HO_6.out (fun k_ hk => (⟨hk, hk.2.2.2⟩ : _ ∧ k_ ≠ gb139))) (fun _ hk => hk.2) (.int .u32 ((Zb t129 x7_1).f0))) (fun _ hk => hk.2) (.int .u32 ((Zb t129 x7_1).f1))) (fun _ hk => hk.2) (.slice A143_2 ((Zb t129 x7_1).f2).length c143_2)) (fun _ hk => ⟨hk.1.1, ⟨hk.1.2.1, ⟨hk.1.2.2.1, hk.1.2.2.2⟩⟩⟩)⟩
                have n3_ : Za (Kd.V (Kd.int .u64) 42 (((wc.setCell ⟨gb139, 0, none⟩ (.int .u32 ((Zb t129 x7_1).f0))).setCell ⟨gb139, 1, none⟩ (.int .u32 ((Zb t129 x7_1).f1))).setCell ⟨gb139, 2, none⟩ (.slice A143_2 ((Zb t129 x7_1).f2).length c143_2)) w.heap.size (fun k_ => (w.heap.size ≤ k_) ∧ some k_ ≠ (u3 : Value).ownBlock ∧ some k_ ≠ (.slice (some ad143) t129.length co49 : Value).ownBlock ∧ some k_ ≠ (v137 : Value).ownBlock ∧ k_ ≠ gb139) (.slice A143_2 ((Zb t129 x7_1).f2).length c143_2) ((Zb t129 x7_1).f2)) := ⟨by (with_reducible repeat (first | apply Kd.V_alloc | apply Kd.V_drewN | apply Kd.V_drew)); exact Kd.V_mono (Kd.V_far (p := ⟨gb139, 2, none⟩) (Kd.V_far (p := ⟨gb139, 1, none⟩) (Kd.V_far (p := ⟨gb139, 0, none⟩) (Kd.V_mono HL143_2.out (fun k_ hk => (⟨hk, hk.1.2.2.2⟩ : _ ∧ k_ ≠ gb139))) (fun _ hk => hk.2) (.int .u32 ((Zb t129 x7_1).f0))) (fun _ hk => hk.2) (.int .u32 ((Zb t129 x7_1).f1))) (fun _ hk => hk.2) (.slice A143_2 ((Zb t129 x7_1).f2).length c143_2)) (fun _ hk => ⟨hk.1.1.1, ⟨hk.1.1.2.1, ⟨hk.1.2, ⟨hk.1.1.2.2.1, hk.1.1.2.2.2⟩⟩⟩⟩)⟩
                have n4_ : Za ((((wc.setCell ⟨gb139, 0, none⟩ (.int .u32 ((Zb t129 x7_1).f0))).setCell ⟨gb139, 1, none⟩ (.int .u32 ((Zb t129 x7_1).f1))).setCell ⟨gb139, 2, none⟩ (.slice A143_2 ((Zb t129 x7_1).f2).length c143_2)).heap[gb139]? = some (.cells #[.int .u32 ((Zb t129 x7_1).f0), .int .u32 ((Zb t129 x7_1).f1), .slice A143_2 ((Zb t129 x7_1).f2).length c143_2] 35 (0, 0))) := ⟨by (with_reducible repeat (first | refine Zo ?_ _ | refine Zm ?_ | refine Zn ?_ _)); refine blk_put (cs := #[.int .u32 ((Zb t129 x7_1).f0), .int .u32 ((Zb t129 x7_1).f1), .slice none 0 0]) ?_ 2 _ rfl; (with_reducible repeat (first | refine Zo ?_ _ | refine Zm ?_ | refine Zn ?_ _)); refine blk_put (cs := #[.int .u32 ((Zb t129 x7_1).f0), .int .u32 0, .slice none 0 0]) ?_ 1 _ rfl; (with_reducible repeat (first | refine Zo ?_ _ | refine Zm ?_ | refine Zn ?_ _)); refine blk_put (cs := #[.int .u32 0, .int .u32 0, .slice none 0 0]) ?_ 0 _ rfl; (with_reducible repeat (first | refine Zo ?_ _ | refine Zm ?_ | refine Zn ?_ _)); exact BK139.out⟩
                have n5_ : Za (Below w.heap.size w (((wc.setCell ⟨gb139, 0, none⟩ (.int .u32 ((Zb t129 x7_1).f0))).setCell ⟨gb139, 1, none⟩ (.int .u32 ((Zb t129 x7_1).f1))).setCell ⟨gb139, 2, none⟩ (.slice A143_2 ((Zb t129 x7_1).f2).length c143_2))) := ⟨by repeat (first | (with_reducible first | exact HB.out | apply Zd | apply Zf | apply Ze | refine Zj ?_ GE139.out) | exact HB.out)⟩
                (try clear HO_3)
                (try clear HO_5)
                (try clear HO_6)
                (try clear HL143_2)
                (try clear BK139)
                (try clear HB)
                generalize (((wc.setCell ⟨gb139, 0, none⟩ (.int .u32 ((Zb t129 x7_1).f0))).setCell ⟨gb139, 1, none⟩ (.int .u32 ((Zb t129 x7_1).f1))).setCell ⟨gb139, 2, none⟩ (.slice A143_2 ((Zb t129 x7_1).f2).length c143_2)) = w51 at n0_ n1_ n2_ n3_ n4_ n5_ ⊢
                have HO_3 := n0_
                have HO_5 := n1_
                have HO_6 := n2_
                have HL143_2 := n3_
                have BK139 := n4_
                have HB := n5_
                clear n0_ n1_ n2_ n3_ n4_ n5_
                replace HO_3 := Za.mk (Kd.Zq HO_3.out)
                replace HO_5 := Za.mk (Kd.Zq HO_5.out)
                replace HO_6 := Za.mk (Kd.Zq HO_6.out)
                replace HL143_2 := Za.mk (Kd.V_drew HL143_2.out)
                replace BK139 := Za.mk (Zm BK139.out)
                replace HB := Za.mk (Ze HB.out)
                obtain ⟨Ao53, co53, eo53⟩ := Kd.N_slice HO_3.out
                (first | subst eo53 | (injection eo53 with f1_ f2_ f3_; have f4_ := f1_.symm; have f5_ := f3_.symm; clear f1_ f2_ f3_; subst f4_; subst f5_))
                refine start_ (n := 14) (S := fun w' => True) (ds := []) #[false, false, false, false, false, false, false, false, false, false, false, false, false, false] (by kernel_rfl) rfl rfl trivial (fun hHeld => ?_); refine with_tabW Zp.tab19 Zp.bits19 (fun HT_ HW_ => ?_)
                generalize w51.drew = w52 at HO_3 HO_5 HO_6 HL143_2 BK139 HB hHeld ⊢
                refine Zk (i := 0) (N := some 84) (v := ?_) (a' := ?_) #[true, false, false, false, false, false, false, false, false, false, false, false, false, false] rfl rfl (Zl HT_.out (by kernel_rfl)) (fun _ _ _ h => h) (Or.inl ⟨by rfl, ?_⟩) ?_ ?_
                rotate_left
                ·intro w'
                 go_simp
                 with_reducible rfl
                rotate_left
                ·simp only [Act.put, ZD, ZE, ZF, Zh, Zi]
                 rfl
                refine Zk (i := 1) (N := some 85) (v := ?_) (a' := ?_) #[true, true, false, false, false, false, false, false, false, false, false, false, false, false] rfl rfl (Zl HT_.out (by kernel_rfl)) (fun _ _ _ h => h) (Or.inl ⟨by rfl, ?_⟩) ?_ ?_
                rotate_left
                ·intro w'
                 go_simp
                 with_reducible rfl
                rotate_left
                ·simp only [Act.put, ZD, ZE, ZF, Zh, Zi]
                 rfl
                refine Zk (i := 2) (N := some 86) (v := ?_) (a' := ?_) #[true, true, true, false, false, false, false, false, false, false, false, false, false, false] rfl rfl (Zl HT_.out (by kernel_rfl)) (fun _ _ _ h => h) (Or.inl ⟨by rfl, ?_⟩) ?_ ?_
                rotate_left
                ·intro w'
                 go_simp
                 with_reducible rfl
                rotate_left
                ·simp only [Act.put, ZD, ZE, ZF, Zh, Zi]
                 rfl
                refine Zk (i := 3) (N := some 87) (v := ?_) (a' := ?_) #[true, true, true, true, false, false, false, false, false, false, false, false, false, false] rfl rfl (Zl HT_.out (by kernel_rfl)) (fun _ _ _ h => h) (Or.inl ⟨by rfl, ?_⟩) ?_ ?_
                rotate_left
                ·intro w'
                 go_simp
                 with_reducible rfl
                rotate_left
                ·simp only [Act.put, ZD, ZE, ZF, Zh, Zi]
                 rfl
                refine Zk (i := 4) (N := some 88) (v := undef) (a' := ?_) #[true, true, true, true, true, false, false, false, false, false, false, false, false, false] rfl rfl (Zl HT_.out (by kernel_rfl)) (fun _ _ _ h => h) (Or.inr ⟨by rfl, rfl⟩) ?_ ?_
                rotate_left
                ·simp only [Act.put, ZD, ZE, ZF, Zh, Zi]
                 rfl
                refine Zk (i := 5) (N := some 89) (v := undef) (a' := ?_) #[true, true, true, true, true, true, false, false, false, false, false, false, false, false] rfl rfl (Zl HT_.out (by kernel_rfl)) (fun _ _ _ h => h) (Or.inr ⟨by rfl, rfl⟩) ?_ ?_
                rotate_left
                ·simp only [Act.put, ZD, ZE, ZF, Zh, Zi]
                 rfl
                refine Zk (i := 6) (N := some 90) (v := undef) (a' := ?_) #[true, true, true, true, true, true, true, false, false, false, false, false, false, false] rfl rfl (Zl HT_.out (by kernel_rfl)) (fun _ _ _ h => h) (Or.inr ⟨by rfl, rfl⟩) ?_ ?_
                rotate_left
                ·simp only [Act.put, ZD, ZE, ZF, Zh, Zi]
                 rfl
                refine Zk (i := 7) (N := some 91) (v := undef) (a' := ?_) #[true, true, true, true, true, true, true, true, false, false, false, false, false, false] rfl rfl (Zl HT_.out (by kernel_rfl)) (fun _ _ _ h => h) (Or.inr ⟨by rfl, rfl⟩) ?_ ?_
                rotate_left
                ·simp only [Act.put, ZD, ZE, ZF, Zh, Zi]
                 rfl
                refine Zk (i := 8) (N := some 92) (v := undef) (a' := ?_) #[true, true, true, true, true, true, true, true, true, false, false, false, false, false] rfl rfl (Zl HT_.out (by kernel_rfl)) (fun _ _ _ h => h) (Or.inr ⟨by rfl, rfl⟩) ?_ ?_
                rotate_left
                ·simp only [Act.put, ZD, ZE, ZF, Zh, Zi]
                 rfl
                refine Zk (i := 9) (N := some 93) (v := undef) (a' := ?_) #[true, true, true, true, true, true, true, true, true, true, false, false, false, false] rfl rfl (Zl HT_.out (by kernel_rfl)) (fun _ _ _ h => h) (Or.inr ⟨by rfl, rfl⟩) ?_ ?_
                rotate_left
                ·simp only [Act.put, ZD, ZE, ZF, Zh, Zi]
                 rfl
                refine Zk (i := 10) (N := some 94) (v := undef) (a' := ?_) #[true, true, true, true, true, true, true, true, true, true, true, false, false, false] rfl rfl (Zl HT_.out (by kernel_rfl)) (fun _ _ _ h => h) (Or.inr ⟨by rfl, rfl⟩) ?_ ?_
                rotate_left
                ·simp only [Act.put, ZD, ZE, ZF, Zh, Zi]
                 rfl
                refine Zk (i := 11) (N := some 95) (v := undef) (a' := ?_) #[true, true, true, true, true, true, true, true, true, true, true, true, false, false] rfl rfl (Zl HT_.out (by kernel_rfl)) (fun _ _ _ h => h) (Or.inr ⟨by rfl, rfl⟩) ?_ ?_
                rotate_left
                ·simp only [Act.put, ZD, ZE, ZF, Zh, Zi]
                 rfl
                refine Zk (i := 12) (N := some 96) (v := undef) (a' := ?_) #[true, true, true, true, true, true, true, true, true, true, true, true, true, false] rfl rfl (Zl HT_.out (by kernel_rfl)) (fun _ _ _ h => h) (Or.inr ⟨by rfl, rfl⟩) ?_ ?_
                rotate_left
                ·simp only [Act.put, ZD, ZE, ZF, Zh, Zi]
                 rfl
                refine Zk (i := 13) (N := some 97) (v := ?_) (a' := ?_) #[true, true, true, true, true, true, true, true, true, true, true, true, true, true] rfl rfl (Zl HT_.out (by kernel_rfl)) (fun _ _ _ h => h) (Or.inl ⟨by rfl, ?_⟩) ?_ ?_
                rotate_left
                ·intro w'
                 go_simp
                 with_reducible rfl
                rotate_left
                ·simp only [Act.put, ZD, ZE, ZF, Zh, Zi]
                 rfl
                refine done_ (done_of HT_.out (by kernel_rfl)) ?_
                have hcz54_0 : w52.cell? ⟨gb139, 0, none⟩ = some (.int .u32 ((Zb t129 x7_1).f0)) := (Zc BK139.out 0).trans rfl
                have hcz54_1 : w52.cell? ⟨gb139, 1, none⟩ = some (.int .u32 ((Zb t129 x7_1).f1)) := (Zc BK139.out 1).trans rfl
                have hcz54_2 : w52.cell? ⟨gb139, 2, none⟩ = some (.slice A143_2 ((Zb t129 x7_1).f2).length c143_2) := (Zc BK139.out 2).trans rfl
                have hfz54_0 := Zg BK139.out 0
                have hfz54_1 := Zg BK139.out 1
                have hfz54_2 := Zg BK139.out 2
                try go_wp2_with (first | ((with_reducible refine gate_builtin (b := .append) (xs := #[.tmp 98, .tmp 100]) rfl ?_); (try (refine Zal (by rfl) ?_; dsimp only)); at_builtin; refine Kd.N_append k35 (w0 := w) w.heap.size rfl (.tmp 98) (.tmp 100) 24 35 (.agg #[(.int .u32 0), (.int .u32 0), (.slice none 0 0)]) 32 rfl Try.underlying24 info35 rfl (by decide) (by omega) (.slice Ao53 x3_1.length co53) x3_1 (⟨(Zb t129 x7_1).f0, (Zb t129 x7_1).f1, (Zb t129 x7_1).f2⟩ : S35) [.int .u32 ((Zb t129 x7_1).f0), .int .u32 ((Zb t129 x7_1).f1), .slice A143_2 ((Zb t129 x7_1).f2).length c143_2] (fun k_ => (w.heap.size ≤ k_) ∧ some k_ ≠ (.slice (some ad143) t129.length co49 : Value).ownBlock ∧ some k_ ≠ (v137 : Value).ownBlock ∧ k_ ≠ gb139) (fun k_ => ((fun k_ => (w.heap.size ≤ k_) ∧ some k_ ≠ (.slice (some ad143) t129.length co49 : Value).ownBlock ∧ some k_ ≠ (v137 : Value).ownBlock ∧ k_ ≠ gb139)) k_ ∧ some k_ ≠ (.slice Ao53 x3_1.length co53 : Value).ownBlock) rfl rfl ?aP (fun _ hk => hk) ?aF ?aO ?aB ?aS ?aL ?_; (case aP => exact (k35_mkF _ _ (⟨(Zb t129 x7_1).f0, (Zb t129 x7_1).f1, (Zb t129 x7_1).f2⟩ : S35) (Kd.V_reads' (Kd.V_mono (ok' := (fun k_ => ((fun k_ => (w.heap.size ≤ k_) ∧ some k_ ≠ (.slice (some ad143) t129.length co49 : Value).ownBlock ∧ some k_ ≠ (v137 : Value).ownBlock ∧ k_ ≠ gb139)) k_ ∧ some k_ ≠ (.slice Ao53 x3_1.length co53 : Value).ownBlock)) (HL143_2.out) (fun k_ hk => ⟨⟨hk.1, ⟨hk.2.2.1, ⟨hk.2.2.2.1, hk.2.2.2.2⟩⟩⟩, hk.2.1⟩))).2.1 (Kd.V_F (Kd.V_mono (ok' := (fun k_ => ((fun k_ => (w.heap.size ≤ k_) ∧ some k_ ≠ (.slice (some ad143) t129.length co49 : Value).ownBlock ∧ some k_ ≠ (v137 : Value).ownBlock ∧ k_ ≠ gb139)) k_ ∧ some k_ ≠ (.slice Ao53 x3_1.length co53 : Value).ownBlock)) (HL143_2.out) (fun k_ hk => ⟨⟨hk.1, ⟨hk.2.2.1, ⟨hk.2.2.2.1, hk.2.2.2.2⟩⟩⟩, hk.2.1⟩))))); (case aB => exact (by repeat (first | (with_reducible first | exact HB.out | apply Zd | apply Zf | apply Ze | refine Zj ?_ GE139.out) | exact HB.out))); (case aF => exact (fun k_ hk => ⟨(Nat.le_trans (Zr (by repeat (first | (with_reducible first | exact HB.out | apply Zd | apply Zf | apply Ze | refine Zj ?_ GE139.out) | exact HB.out))) hk), Kd.fresh' (Kd.N_lt (by (with_reducible repeat (first | apply Kd.Zu | apply Kd.Zv | apply Kd.Zq)); exact HO_5.out)) k_ hk, Kd.fresh' (Kd.N_lt (by (with_reducible repeat (first | apply Kd.Zu | apply Kd.Zv | apply Kd.Zq)); exact HO_6.out)) k_ hk, Kd.freshB (g := gb139) (o := .cells #[.int .u32 ((Zb t129 x7_1).f0), .int .u32 ((Zb t129 x7_1).f1), .slice A143_2 ((Zb t129 x7_1).f2).length c143_2] 35 (0, 0)) (by (with_reducible repeat (first | refine Zo ?_ _ | refine Zm ?_ | refine Zn ?_ _)); exact BK139.out) k_ hk⟩)); (case aO => exact (by (with_reducible repeat (first | apply Kd.Zu | apply Kd.Zv | apply Kd.Zq)); exact HO_3.out)); (case aS => exact (Zr (by repeat (first | (with_reducible first | exact HB.out | apply Zd | apply Zf | apply Ze | refine Zj ?_ GE139.out) | exact HB.out)))); (case aL => have := LMc48.out; omega); intro v145 w55 ho hb hg hat; rw [← Ny144.out] at ho; have n0_ := Za.mk (Kd.N_afterv (ok := (fun k_ => (w.heap.size ≤ k_) ∧ some k_ ≠ (v137 : Value).ownBlock ∧ k_ ≠ gb139)) (by (with_reducible repeat (first | apply Kd.Zu | apply Kd.Zv | apply Kd.Zq)); exact Kd.Zw HO_5.out (fun _ hk => ⟨⟨hk.1, ⟨hk.2.2.1, hk.2.2.2⟩⟩, hk.2.1⟩)) hg hat); have n1_ := Za.mk (Kd.N_afterv (ok := (fun k_ => (w.heap.size ≤ k_) ∧ some k_ ≠ (.slice (some ad143) t129.length co49 : Value).ownBlock ∧ k_ ≠ gb139)) (by (with_reducible repeat (first | apply Kd.Zu | apply Kd.Zv | apply Kd.Zq)); exact Kd.Zw HO_6.out (fun _ hk => ⟨⟨hk.1, ⟨hk.2.2.1, hk.2.2.2⟩⟩, hk.2.1⟩)) hg hat); have n2_ := Za.mk (blk_grown (g := gb139) (o := .cells #[.int .u32 ((Zb t129 x7_1).f0), .int .u32 ((Zb t129 x7_1).f1), .slice A143_2 ((Zb t129 x7_1).f2).length c143_2] 35 (0, 0)) (by (with_reducible repeat (first | refine Zo ?_ _ | refine Zm ?_ | refine Zn ?_ _)); exact BK139.out) hg (Kd.N_away HO_3.out (fun _ hk => hk.2.2.2))); have n3_ := Za.mk (Kd.V_afterv (ok := (fun k_ => (w.heap.size ≤ k_) ∧ some k_ ≠ (.slice (some ad143) t129.length co49 : Value).ownBlock ∧ some k_ ≠ (v137 : Value).ownBlock ∧ k_ ≠ gb139)) (by (with_reducible repeat (first | apply Kd.V_alloc | apply Kd.V_drewN | apply Kd.V_drew)); exact Kd.V_mono HL143_2.out (fun _ hk => ⟨⟨hk.1, ⟨hk.2.2.1, ⟨hk.2.2.2.1, hk.2.2.2.2⟩⟩⟩, hk.2.1⟩)) hg hat); have n4_ := Za.mk (hb); have n5_ := Za.mk (ho); clear HO_5; clear HO_6; clear BK139; clear HL143_2; clear HB; clear HO_3; have HO_5 := n0_; have HO_6 := n1_; have BK139 := n2_; have HL143_2 := n3_; have HB := n4_; have HO146 := n5_; clear n0_ n1_ n2_ n3_ n4_ n5_; clear ho hb hg hat))
                go_roundg kj26
                case measure => have := HK1.out; have := HJ20.out; have := HJ26.out; omega
                case rel => exact ⟨(y144), (wrap64 (x7_1 + 1)), (x8_1), (by first | rfl | (simp; done) | (simp [*]; done)), (by first | rfl | (simp; done) | (simp [*]; done)), H', ⟨by have := HK1.out; have := HJ20.out; have := HJ26.out; omega⟩, ⟨by (with_reducible repeat (first | apply Kd.Zu | apply Kd.Zv | apply Kd.Zq)); exact Kd.Zw HO146.out (fun _ hk => ⟨hk.1, ⟨hk.2.1, hk.2.2.1⟩⟩)⟩, ⟨by (with_reducible repeat (first | apply Kd.Zu | apply Kd.Zv | apply Kd.Zq)); exact Kd.Zw HO_5.out (fun _ hk => ⟨hk.1.1, ⟨hk.2, hk.1.2.1⟩⟩)⟩, ⟨by (with_reducible repeat (first | apply Kd.Zu | apply Kd.Zv | apply Kd.Zq)); exact Kd.Zw HO_6.out (fun _ hk => ⟨hk.1.1, ⟨hk.2, hk.1.2.1⟩⟩)⟩, ⟨by repeat (first | (with_reducible first | exact HB.out | apply Zd | apply Zf | apply Ze | refine Zj ?_ GE139.out) | exact HB.out)⟩⟩
               ·rw [if_neg c48] at H
                exact absurd H (by simp)
              ·rw [if_neg c47] at H
               have c47b0 : ((x3_1.length : Int) == 0) = false := beq_eq_false_iff_ne.mpr c47
               have c47b1 : ((x3_1.length : Int) != 0) = true := bne_iff_ne.mpr c47
               have c47b2 : ¬ (x3_1 = []) := fun h_ => c47 (by rw [h_]; rfl)
               obtain ⟨ji56, hji56⟩ : ∃ j_ : Int, (wrap64 ((x3_1.length : Int) - 1)) = j_ := ⟨_, rfl⟩
               replace H : (if 0 ≤ (ji56) then (if (ji56) < (x3_1.length : Int) then ((Zag.f kj26 ((Zb x3_1 (ji56)).f0) ((Zb x3_1 (ji56)).f1) ((Zb x3_1 (ji56)).f2) ((Zb t129 x7_1).f0) ((Zb t129 x7_1).f1) ((Zb t129 x7_1).f2)).bind fun t148 => (if t148 = 0 then (Zp.l1 kj26 x3_1 t129 t136 (wrap64 (x7_1 + 1)) x8_1) else (if x3_1.length < 4398046511104 then (Zp.l1 kj26 (x3_1 ++ [(⟨(Zb t129 x7_1).f0, (Zb t129 x7_1).f1, (Zb t129 x7_1).f2⟩ : S35)]) t129 t136 (wrap64 (x7_1 + 1)) x8_1) else (none)))) else (none)) else (none)) = some r := by first | (rw [hji56] at H; exact H) | (simp only [hji56] at H ⊢; exact H)
               have hji56w : (IntKind.i64.wrap ((x3_1.length : Int) - 1)) = ji56 := (Zh _).trans hji56
               by_cases c57 : 0 ≤ (ji56)
               ·rw [if_pos c57] at H
                have c57b0 : decide (0 ≤ (ji56)) = true := decide_eq_true c57
                clear c57
                by_cases c58 : (ji56) < (x3_1.length : Int)
                ·rw [if_pos c58] at H
                 have c58b0 : decide ((ji56) < (x3_1.length : Int)) = true := decide_eq_true c58
                 clear c58
                 replace H := Option.bind_eq_some_iff.mp H
                 obtain ⟨t148, A590, H⟩ := H
                 replace H : (if t148 = 0 then (Zp.l1 kj26 x3_1 t129 t136 (wrap64 (x7_1 + 1)) x8_1) else (if x3_1.length < 4398046511104 then (Zp.l1 kj26 (x3_1 ++ [(⟨(Zb t129 x7_1).f0, (Zb t129 x7_1).f1, (Zb t129 x7_1).f2⟩ : S35)]) t129 t136 (wrap64 (x7_1 + 1)) x8_1) else (none))) = some r := H
                 have A59 := Za.mk A590
                 clear A590
                 by_cases c60 : t148 = 0
                 ·rw [if_pos c60] at H
                  have c60b0 : (t148 == 0) = true := beq_iff_eq.mpr c60
                  have c60b1 : (t148 != 0) = false := bne_eq_false_iff_eq.mpr c60
                  clear c60
                  have H' := Za.mk H
                  clear H
                  obtain ⟨Ao61, co61, eo61⟩ := Kd.N_slice HO_5.out
                  subst eo61
                  have p143 : 0 ≤ (x7_1 : Int) := of_decide_eq_true (by assumption)
                  have q143 : x7_1 < (t129.length : Int) := of_decide_eq_true (by assumption)
                  obtain ⟨ad143, A143_2, c143_2, e143, hx143_0, hx143_1, hx143_2, hl143_2, hi143_2⟩ := at_T35 (Kd.Zap HO_5.out).2.2 x7_1 p143 q143
                  cases e143
                  obtain ⟨ce143, hce143, hMe143, hcc143⟩ := Kd.N_get HO_5.out z35 x7_1 p143 (by first | exact q143 | exact of_decide_eq_true (by assumption) | (have e_ := (Kd.Zap HO_5.out).1; omega))
                  obtain ⟨ua143_2, uc143_2, rfl, ul143_2, ge143_2⟩ := k35_openF hMe143
                  have hv143_2 := hcc143 2 _ rfl
                  rw [add_field _ _ 2 (by omega)] at hv143_2
                  replace hv143_2 := Option.some.inj (hv143_2.symm.trans hx143_2)
                  injection hv143_2 with hva_ hvn_ hvc_
                  rw [hva_] at ge143_2
                  rw [hvc_] at ul143_2
                  have HL143_2 := Za.mk (show Kd.V (Kd.int .u64) 42 _ w.heap.size _ _ ((Zb t129 x7_1).f2) from Kd.V_mk ul143_2 ge143_2)
                  clear hva_ hvn_ hvc_ ge143_2 ul143_2
                  clear hcc143 hce143
                  have HR143_2 := Za.mk hi143_2
                  have HC143_2 := Za.mk hl143_2
                  clear hi143_2 hl143_2
                  replace p143 := eq_true p143
                  replace q143 := eq_true q143
                  have hcz62_0 : wc.cell? ⟨gb139, 0, none⟩ = some (.int .u32 0) := (Zc BK139.out 0).trans rfl
                  have hcz62_1 : wc.cell? ⟨gb139, 1, none⟩ = some (.int .u32 0) := (Zc BK139.out 1).trans rfl
                  have hcz62_2 : wc.cell? ⟨gb139, 2, none⟩ = some (.slice none 0 0) := (Zc BK139.out 2).trans rfl
                  have hfz62_0 := Zg BK139.out 0
                  have hfz62_1 := Zg BK139.out 1
                  have hfz62_2 := Zg BK139.out 2
                  try go_wp2
                  have n0_ : Za (Kd.N k35 35 (((wc.setCell ⟨gb139, 0, none⟩ (.int .u32 ((Zb t129 x7_1).f0))).setCell ⟨gb139, 1, none⟩ (.int .u32 ((Zb t129 x7_1).f1))).setCell ⟨gb139, 2, none⟩ (.slice A143_2 ((Zb t129 x7_1).f2).length c143_2)) w.heap.size (fun k_ => (w.heap.size ≤ k_) ∧ some k_ ≠ (.slice (some ad143) t129.length co61 : Value).ownBlock ∧ some k_ ≠ (v137 : Value).ownBlock ∧ k_ ≠ gb139) u3 x3_1) := ⟨by (with_reducible repeat (first | apply Kd.Zu | apply Kd.Zv | apply Kd.Zq)); exact Kd.Zw (Kd.N_far (p := ⟨gb139, 2, none⟩) (Kd.N_far (p := ⟨gb139, 1, none⟩) (Kd.N_far (p := ⟨gb139, 0, none⟩) (Kd.Zw HO_3.out (fun k_ hk => (⟨hk, hk.2.2.2⟩ : _ ∧ k_ ≠ gb139))) (fun _ hk => hk.2) (.int .u32 ((Zb t129 x7_1).f0))) (fun _ hk => hk.2) (.int .u32 ((Zb t129 x7_1).f1))) (fun _ hk => hk.2) (.slice A143_2 ((Zb t129 x7_1).f2).length c143_2)) (fun _ hk => ⟨hk.1.1, ⟨hk.1.2.1, ⟨hk.1.2.2.1, hk.1.2.2.2⟩⟩⟩)⟩
                  have n1_ : Za (Kd.N k35 35 (((wc.setCell ⟨gb139, 0, none⟩ (.int .u32 ((Zb t129 x7_1).f0))).setCell ⟨gb139, 1, none⟩ (.int .u32 ((Zb t129 x7_1).f1))).setCell ⟨gb139, 2, none⟩ (.slice A143_2 ((Zb t129 x7_1).f2).length c143_2)) w.heap.size (fun k_ => (w.heap.size ≤ k_) ∧ some k_ ≠ (u3 : Value).ownBlock ∧ some k_ ≠ (v137 : Value).ownBlock ∧ k_ ≠ gb139) (.slice (some ad143) t129.length co61) t129) := ⟨by (with_reducible repeat (first | apply Kd.Zu | apply Kd.Zv | apply Kd.Zq)); exact Kd.Zw (Kd.N_far (p := ⟨gb139, 2, none⟩) (Kd.N_far (p := ⟨gb139, 1, none⟩) (Kd.N_far (p := ⟨gb139, 0, none⟩) (Kd.Zw HO_5.out (fun k_ hk => (⟨hk, hk.2.2.2⟩ : _ ∧ k_ ≠ gb139))) (fun _ hk => hk.2) (.int .u32 ((Zb t129 x7_1).f0))) (fun _ hk => hk.2) (.int .u32 ((Zb t129 x7_1).f1))) (fun _ hk => hk.2) (.slice A143_2 ((Zb t129 x7_1).f2).length c143_2)) (fun _ hk => ⟨hk.1.1, ⟨hk.1.2.1, ⟨hk.1.2.2.1, hk.1.2.2.2⟩⟩⟩)⟩
                  have n2_ : Za (Kd.N k35 35 (((wc.setCell ⟨gb139, 0, none⟩ (.int .u32 ((Zb t129 x7_1).f0))).setCell ⟨gb139, 1, none⟩ (.int .u32 ((Zb t129 x7_1).f1))).setCell ⟨gb139, 2, none⟩ (.slice A143_2 ((Zb t129 x7_1).f2).length c143_2)) w.heap.size (fun k_ => (w.heap.size ≤ k_) ∧ some k_ ≠ (u3 : Value).ownBlock ∧ some k_ ≠ (.slice (some ad143) t129.length co61 : Value).ownBlock ∧ k_ ≠ gb139) v137 t136) := ⟨by (with_reducible repeat (first | apply Kd.Zu | apply Kd.Zv | apply Kd.Zq)); exact Kd.Zw (Kd.N_far (p := ⟨gb139, 2, none⟩) (Kd.N_far (p := ⟨gb139, 1, none⟩) (Kd.N_far (p := ⟨gb139, 0, none⟩) (Kd.Zw HO_6.out (fun k_ hk => (⟨hk, hk.2.2.2⟩ : _ ∧ k_ ≠ gb139))) (fun _ hk => hk.2) (.int .u32 ((Zb t129 x7_1).f0))) (fun _ hk => hk.2) (.int .u32 ((Zb t129 x7_1).f1))) (fun _ hk => hk.2) (.slice A143_2 ((Zb t129 x7_1).f2).length c143_2)) (fun _ hk => ⟨hk.1.1, ⟨hk.1.2.1, ⟨hk.1.2.2.1, hk.1.2.2.2⟩⟩⟩)⟩
                  have n3_ : Za (Kd.V (Kd.int .u64) 42 (((wc.setCell ⟨gb139, 0, none⟩ (.int .u32 ((Zb t129 x7_1).f0))).setCell ⟨gb139, 1, none⟩ (.int .u32 ((Zb t129 x7_1).f1))).setCell ⟨gb139, 2, none⟩ (.slice A143_2 ((Zb t129 x7_1).f2).length c143_2)) w.heap.size (fun k_ => (w.heap.size ≤ k_) ∧ some k_ ≠ (u3 : Value).ownBlock ∧ some k_ ≠ (.slice (some ad143) t129.length co61 : Value).ownBlock ∧ some k_ ≠ (v137 : Value).ownBlock ∧ k_ ≠ gb139) (.slice A143_2 ((Zb t129 x7_1).f2).length c143_2) ((Zb t129 x7_1).f2)) := ⟨by (with_reducible repeat (first | apply Kd.V_alloc | apply Kd.V_drewN | apply Kd.V_drew)); exact Kd.V_mono (Kd.V_far (p := ⟨gb139, 2, none⟩) (Kd.V_far (p := ⟨gb139, 1, none⟩) (Kd.V_far (p := ⟨gb139, 0, none⟩) (Kd.V_mono HL143_2.out (fun k_ hk => (⟨hk, hk.1.2.2.2⟩ : _ ∧ k_ ≠ gb139))) (fun _ hk => hk.2) (.int .u32 ((Zb t129 x7_1).f0))) (fun _ hk => hk.2) (.int .u32 ((Zb t129 x7_1).f1))) (fun _ hk => hk.2) (.slice A143_2 ((Zb t129 x7_1).f2).length c143_2)) (fun _ hk => ⟨hk.1.1.1, ⟨hk.1.1.2.1, ⟨hk.1.2, ⟨hk.1.1.2.2.1, hk.1.1.2.2.2⟩⟩⟩⟩)⟩
                  have n4_ : Za ((((wc.setCell ⟨gb139, 0, none⟩ (.int .u32 ((Zb t129 x7_1).f0))).setCell ⟨gb139, 1, none⟩ (.int .u32 ((Zb t129 x7_1).f1))).setCell ⟨gb139, 2, none⟩ (.slice A143_2 ((Zb t129 x7_1).f2).length c143_2)).heap[gb139]? = some (.cells #[.int .u32 ((Zb t129 x7_1).f0), .int .u32 ((Zb t129 x7_1).f1), .slice A143_2 ((Zb t129 x7_1).f2).length c143_2] 35 (0, 0))) := ⟨by (with_reducible repeat (first | refine Zo ?_ _ | refine Zm ?_ | refine Zn ?_ _)); refine blk_put (cs := #[.int .u32 ((Zb t129 x7_1).f0), .int .u32 ((Zb t129 x7_1).f1), .slice none 0 0]) ?_ 2 _ rfl; (with_reducible repeat (first | refine Zo ?_ _ | refine Zm ?_ | refine Zn ?_ _)); refine blk_put (cs := #[.int .u32 ((Zb t129 x7_1).f0), .int .u32 0, .slice none 0 0]) ?_ 1 _ rfl; (with_reducible repeat (first | refine Zo ?_ _ | refine Zm ?_ | refine Zn ?_ _)); refine blk_put (cs := #[.int .u32 0, .int .u32 0, .slice none 0 0]) ?_ 0 _ rfl; (with_reducible repeat (first | refine Zo ?_ _ | refine Zm ?_ | refine Zn ?_ _)); exact BK139.out⟩
                  have n5_ : Za (Below w.heap.size w (((wc.setCell ⟨gb139, 0, none⟩ (.int .u32 ((Zb t129 x7_1).f0))).setCell ⟨gb139, 1, none⟩ (.int .u32 ((Zb t129 x7_1).f1))).setCell ⟨gb139, 2, none⟩ (.slice A143_2 ((Zb t129 x7_1).f2).length c143_2))) := ⟨by repeat (first | (with_reducible first | exact HB.out | apply Zd | apply Zf | apply Ze | refine Zj ?_ GE139.out) | exact HB.out)⟩
                  (try clear HO_3)
                  (try clear HO_5)
                  (try clear HO_6)
                  (try clear HL143_2)
                  (try clear BK139)
                  (try clear HB)
                  generalize (((wc.setCell ⟨gb139, 0, none⟩ (.int .u32 ((Zb t129 x7_1).f0))).setCell ⟨gb139, 1, none⟩ (.int .u32 ((Zb t129 x7_1).f1))).setCell ⟨gb139, 2, none⟩ (.slice A143_2 ((Zb t129 x7_1).f2).length c143_2)) = w63 at n0_ n1_ n2_ n3_ n4_ n5_ ⊢
                  have HO_3 := n0_
                  have HO_5 := n1_
                  have HO_6 := n2_
                  have HL143_2 := n3_
                  have BK139 := n4_
                  have HB := n5_
                  clear n0_ n1_ n2_ n3_ n4_ n5_
                  replace HO_3 := Za.mk (Kd.Zq HO_3.out)
                  replace HO_5 := Za.mk (Kd.Zq HO_5.out)
                  replace HO_6 := Za.mk (Kd.Zq HO_6.out)
                  replace HL143_2 := Za.mk (Kd.V_drew HL143_2.out)
                  replace BK139 := Za.mk (Zm BK139.out)
                  replace HB := Za.mk (Ze HB.out)
                  obtain ⟨Ao65, co65, eo65⟩ := Kd.N_slice HO_3.out
                  (first | subst eo65 | (injection eo65 with f1_ f2_ f3_; have f4_ := f1_.symm; have f5_ := f3_.symm; clear f1_ f2_ f3_; subst f4_; subst f5_))
                  have p147 : 0 ≤ ((ji56) : Int) := of_decide_eq_true (by assumption)
                  have q147 : (ji56) < (x3_1.length : Int) := of_decide_eq_true (by assumption)
                  obtain ⟨ad147, A147_2, c147_2, e147, hx147_0, hx147_1, hx147_2, hl147_2, hi147_2⟩ := at_T35 (Kd.Zap HO_3.out).2.2 (ji56) p147 q147
                  cases e147
                  obtain ⟨ce147, hce147, hMe147, hcc147⟩ := Kd.N_get HO_3.out z35 (ji56) p147 (by first | exact q147 | exact of_decide_eq_true (by assumption) | (have e_ := (Kd.Zap HO_3.out).1; omega))
                  obtain ⟨ua147_2, uc147_2, rfl, ul147_2, ge147_2⟩ := k35_openF hMe147
                  have hv147_2 := hcc147 2 _ rfl
                  rw [add_field _ _ 2 (by omega)] at hv147_2
                  replace hv147_2 := Option.some.inj (hv147_2.symm.trans hx147_2)
                  injection hv147_2 with hva_ hvn_ hvc_
                  rw [hva_] at ge147_2
                  rw [hvc_] at ul147_2
                  have HL147_2 := Za.mk (show Kd.V (Kd.int .u64) 42 _ w.heap.size _ _ ((Zb x3_1 (ji56)).f2) from Kd.V_mk ul147_2 ge147_2)
                  clear hva_ hvn_ hvc_ ge147_2 ul147_2
                  clear hcc147 hce147
                  have HR147_2 := Za.mk hi147_2
                  have HC147_2 := Za.mk hl147_2
                  clear hi147_2 hl147_2
                  replace p147 := eq_true p147
                  replace q147 := eq_true q147
                  refine start_ (n := 14) (S := fun w' => w'.cell? ⟨gb139, 0, none⟩ = some (.int .u32 ((Zb t129 x7_1).f0)) ∧ w'.cell? ⟨gb139, 1, none⟩ = some (.int .u32 ((Zb t129 x7_1).f1)) ∧ w'.cell? ⟨gb139, 2, none⟩ = some (.slice A143_2 ((Zb t129 x7_1).f2).length c143_2) ∧ w'.cell? (ad147.add (((ji56)).toNat * 3)) = some (.int .u32 ((Zb x3_1 (ji56)).f0)) ∧ w'.cell? ⟨(ad147.add (((ji56)).toNat * 3)).block, (ad147.add (((ji56)).toNat * 3)).off + 1, none⟩ = some (.int .u32 ((Zb x3_1 (ji56)).f1)) ∧ w'.cell? ⟨(ad147.add (((ji56)).toNat * 3)).block, (ad147.add (((ji56)).toNat * 3)).off + 2, none⟩ = some (.slice A147_2 ((Zb x3_1 (ji56)).f2).length c147_2)) (ds := []) #[false, false, false, false, false, false, false, false, false, false, false, false, false, false] (by kernel_rfl) rfl rfl ⟨(Zc BK139.out 0).trans rfl, (Zc BK139.out 1).trans rfl, (Zc BK139.out 2).trans rfl, hx147_0, hx147_1, hx147_2⟩ (fun hHeld => ?_); refine with_tabW Zp.tab19 Zp.bits19 (fun HT_ HW_ => ?_)
                  generalize w63.drew = w64 at HO_3 HO_5 HO_6 HL143_2 BK139 HB HL147_2 HR147_2 hx147_0 hx147_1 hx147_2 hHeld ⊢
                  refine Zk (i := 0) (N := some 84) (v := ?_) (a' := ?_) #[true, false, false, false, false, false, false, false, false, false, false, false, false, false] rfl rfl (Zl HT_.out (by kernel_rfl)) (fun _ _ _ h => h) (Or.inl ⟨by rfl, ?_⟩) ?_ ?_
                  rotate_left
                  ·intro w'
                   go_simp
                   with_reducible rfl
                  rotate_left
                  ·simp only [Act.put, ZD, ZE, ZF, Zh, Zi]
                   rfl
                  refine Zk (i := 1) (N := some 85) (v := ?_) (a' := ?_) #[true, true, false, false, false, false, false, false, false, false, false, false, false, false] rfl rfl (Zl HT_.out (by kernel_rfl)) (fun _ _ _ h => h) (Or.inl ⟨by rfl, ?_⟩) ?_ ?_
                  rotate_left
                  ·intro w'
                   go_simp
                   with_reducible rfl
                  rotate_left
                  ·simp only [Act.put, ZD, ZE, ZF, Zh, Zi]
                   rfl
                  refine Zk (i := 2) (N := some 86) (v := ?_) (a' := ?_) #[true, true, true, false, false, false, false, false, false, false, false, false, false, false] rfl rfl (Zl HT_.out (by kernel_rfl)) (fun _ _ _ h => h) (Or.inl ⟨by rfl, ?_⟩) ?_ ?_
                  rotate_left
                  ·intro w'
                   go_simp
                   with_reducible rfl
                  rotate_left
                  ·simp only [Act.put, ZD, ZE, ZF, Zh, Zi]
                   rfl
                  refine Zk (i := 3) (N := some 87) (v := ?_) (a' := ?_) #[true, true, true, true, false, false, false, false, false, false, false, false, false, false] rfl rfl (Zl HT_.out (by kernel_rfl)) (fun _ _ _ h => h) (Or.inl ⟨by rfl, ?_⟩) ?_ ?_
                  rotate_left
                  ·intro w'
                   go_simp
                   with_reducible rfl
                  rotate_left
                  ·simp only [Act.put, ZD, ZE, ZF, Zh, Zi]
                   rfl
                  refine Zk (i := 4) (N := some 88) (v := ?_) (a' := ?_) #[true, true, true, true, true, false, false, false, false, false, false, false, false, false] rfl rfl (Zl HT_.out (by kernel_rfl)) (fun _ _ _ h => h) (Or.inl ⟨by rfl, ?_⟩) ?_ ?_
                  rotate_left
                  ·intro w'
                   go_simp
                   with_reducible rfl
                  rotate_left
                  ·simp only [Act.put, ZD, ZE, ZF, Zh, Zi]
                   rfl
                  refine Zk (i := 5) (N := some 89) (v := ?_) (a' := ?_) #[true, true, true, true, true, true, false, false, false, false, false, false, false, false] rfl rfl (Zl HT_.out (by kernel_rfl)) (fun _ _ _ h => h) (Or.inl ⟨by rfl, ?_⟩) ?_ ?_
                  rotate_left
                  ·intro w'
                   go_simp
                   with_reducible rfl
                  rotate_left
                  ·simp only [Act.put, ZD, ZE, ZF, Zh, Zi]
                   rfl
                  refine Zk (i := 6) (N := some 90) (v := ?_) (a' := ?_) #[true, true, true, true, true, true, true, false, false, false, false, false, false, false] rfl rfl (Zl HT_.out (by kernel_rfl)) (fun _ _ _ h => h) (Or.inl ⟨by rfl, ?_⟩) ?_ ?_
                  rotate_left
                  ·intro w'
                   go_simp
                   with_reducible rfl
                  rotate_left
                  ·simp only [Act.put, ZD, ZE, ZF, Zh, Zi]
                   rfl
                  refine Zk (i := 7) (N := some 91) (v := ?_) (a' := ?_) #[true, true, true, true, true, true, true, true, false, false, false, false, false, false] rfl rfl (Zl HT_.out (by kernel_rfl)) (fun _ _ _ h => h) (Or.inl ⟨by rfl, ?_⟩) ?_ ?_
                  rotate_left
                  ·intro w'
                   go_simp
                   with_reducible rfl
                  rotate_left
                  ·simp only [Act.put, ZD, ZE, ZF, Zh, Zi]
                   rfl
                  refine Zk (i := 8) (N := some 92) (v := ?_) (a' := ?_) #[true, true, true, true, true, true, true, true, true, false, false, false, false, false] rfl rfl (Zl HT_.out (by kernel_rfl)) (fun _ _ _ h => h) (Or.inl ⟨by rfl, ?_⟩) ?_ ?_
                  rotate_left
                  ·intro w'
                   go_simp
                   with_reducible rfl
                  rotate_left
                  ·simp only [Act.put, ZD, ZE, ZF, Zh, Zi]
                   rfl
                  refine take_ (i := 9) (N := some 93) (v := ?_) (a' := ?_) #[true, true, true, true, true, true, true, true, true, true, false, false, false, false] rfl rfl (take_ofW HT_.out HW_.out (by kernel_rfl)) (fun _ _ _ h => h) (Or.inl ⟨by rfl, ?_⟩) hHeld ?_ ?_
                  rotate_left
                  ·rintro w' ⟨s0, s1, s2, s3, s4, s5⟩
                   go_simp
                   with_reducible rfl
                  rotate_left
                  ·simp only [Act.put, ZD, ZE, ZF, Zh, Zi]
                   rfl
                  refine take_ (i := 10) (N := some 94) (v := ?_) (a' := ?_) #[true, true, true, true, true, true, true, true, true, true, true, false, false, false] rfl rfl (take_ofW HT_.out HW_.out (by kernel_rfl)) (fun _ _ _ h => h) (Or.inl ⟨by rfl, ?_⟩) hHeld ?_ ?_
                  rotate_left
                  ·rintro w' ⟨s0, s1, s2, s3, s4, s5⟩
                   go_simp
                   with_reducible rfl
                  rotate_left
                  ·simp only [Act.put, ZD, ZE, ZF, Zh, Zi]
                   rfl
                  refine one_ (i := 11) (N := some 95) #[true, true, true, true, true, true, true, true, true, true, true, true, false, false] rfl rfl (one_of HT_.out (by kernel_rfl)) (by decide) (fun K hK => ?_)
                  refine goes_ Try.func13 (by kernel_rfl) rfl #[.agg #[.int .u32 ((Zb x3_1 (ji56)).f0), .int .u32 ((Zb x3_1 (ji56)).f1), .slice A147_2 ((Zb x3_1 (ji56)).f2).length c147_2], .agg #[.int .u32 ((Zb t129 x7_1).f0), .int .u32 ((Zb t129 x7_1).f1), .slice A143_2 ((Zb t129 x7_1).f2).length c143_2]] (by rfl) rfl rfl (by (try simp only [List.map_toArray, List.map_cons, List.map_nil]); first | done | (simp only [hji56]; rfl) | rfl | (simp only [List.length_drop, List.length_take]; rfl)) ?_
                  with_reducible refine (Zag.calls kj26 ((Zb x3_1 (ji56)).f0) ((Zb x3_1 (ji56)).f1) _ _ ((Zb x3_1 (ji56)).f2) ((Zb t129 x7_1).f0) ((Zb t129 x7_1).f1) _ _ ((Zb t129 x7_1).f2) t148 _ ?side1 ?side2 ?side3 ?side4 A59.out).mono ?_
                  (case side1 => repeat (first | exact (by repeat (first | (with_reducible exact HR147_2.out) | (with_reducible refine Kd.Zac ?_ _) | (with_reducible refine Kd.Zaf ?_ _) | (with_reducible refine Kd.Zae ?_) | exact HR147_2.out)) | (with_reducible refine Kd.Zac ?_ _) | (with_reducible refine Kd.Zaf ?_ _) | (with_reducible refine Kd.Zae ?_)))
                  (case side2 => exact HC147_2.out)
                  (case side3 => repeat (first | exact ((Kd.V_reads' (by (with_reducible repeat (first | apply Kd.V_alloc | apply Kd.V_drewN | apply Kd.V_drew)); exact HL143_2.out)).2.2) | (with_reducible refine Kd.Zac ?_ _) | (with_reducible refine Kd.Zaf ?_ _) | (with_reducible refine Kd.Zae ?_)))
                  (case side4 => exact HC143_2.out)
                  rintro e w66 ⟨rfl, hb⟩
                  have HS3_ := (hb.cell (World.block_lt_of_cell? _ _ (hHeld.2.2.2.1))).trans (hHeld.2.2.2.1)
                  have HS4_ := (hb.cell (World.block_lt_of_cell? _ _ (hHeld.2.2.2.2.1))).trans (hHeld.2.2.2.2.1)
                  have HS5_ := (hb.cell (World.block_lt_of_cell? _ _ (hHeld.2.2.2.2.2))).trans (hHeld.2.2.2.2.2)
                  refine ⟨_, rfl, ?_⟩
                  replace HO_3 := Za.mk (Kd.Zan (by (with_reducible repeat (first | apply Kd.Zu | apply Kd.Zv | apply Kd.Zq)); exact HO_3.out) hb)
                  replace HO_5 := Za.mk (Kd.Zan (by (with_reducible repeat (first | apply Kd.Zu | apply Kd.Zv | apply Kd.Zq)); exact HO_5.out) hb)
                  replace HO_6 := Za.mk (Kd.Zan (by (with_reducible repeat (first | apply Kd.Zu | apply Kd.Zv | apply Kd.Zq)); exact HO_6.out) hb)
                  replace HL143_2 := Za.mk (Kd.V_below (by (with_reducible repeat (first | apply Kd.V_alloc | apply Kd.V_drewN | apply Kd.V_drew)); exact HL143_2.out) hb)
                  replace HL147_2 := Za.mk (Kd.V_below (by (with_reducible repeat (first | apply Kd.V_alloc | apply Kd.V_drewN | apply Kd.V_drew)); exact HL147_2.out) hb)
                  replace BK139 := Za.mk (Zak (g := gb139) (o := .cells #[.int .u32 ((Zb t129 x7_1).f0), .int .u32 ((Zb t129 x7_1).f1), .slice A143_2 ((Zb t129 x7_1).f2).length c143_2] 35 (0, 0)) (by (with_reducible repeat (first | refine Zo ?_ _ | refine Zm ?_ | refine Zn ?_ _)); exact BK139.out) hb)
                  replace HR147_2 := Za.mk (Kd.Zah (by repeat (first | (with_reducible exact HR147_2.out) | (with_reducible refine Kd.Zac ?_ _) | (with_reducible refine Kd.Zaf ?_ _) | (with_reducible refine Kd.Zae ?_) | exact HR147_2.out)) hb)
                  replace HB := Za.mk (Zx (by repeat (first | (with_reducible first | exact HB.out | apply Zd | apply Zf | apply Ze | refine Zj ?_ GE139.out) | exact HB.out)) hb)
                  (try clear hb)
                  (try clear hb2)
                  (try clear hk)
                  (try clear hi)
                  refine hK.out _ _ ⟨(Zc BK139.out 0).trans rfl, (Zc BK139.out 1).trans rfl, (Zc BK139.out 2).trans rfl, HS3_, HS4_, HS5_⟩ (fun hHeld => ?_)
                  clear hK K
                  refine norm_ (a' := ?_) ?_ ?_
                  rotate_left
                  ·show Act.put _ (some 95) _ = _
                   simp only [Act.put, ZD, ZE, ZF, Zh, Zi]
                   rfl
                  refine Zk (i := 12) (N := some 96) (v := ?_) (a' := ?_) #[true, true, true, true, true, true, true, true, true, true, true, true, true, false] rfl rfl (Zl HT_.out (by kernel_rfl)) (fun _ _ _ h => h) (Or.inl ⟨by rfl, ?_⟩) ?_ ?_
                  rotate_left
                  ·intro w'
                   go_simp
                   with_reducible rfl
                  rotate_left
                  ·simp only [Act.put, ZD, ZE, ZF, Zh, Zi]
                   rfl
                  refine Zk (i := 13) (N := some 97) (v := ?_) (a' := ?_) #[true, true, true, true, true, true, true, true, true, true, true, true, true, true] rfl rfl (Zl HT_.out (by kernel_rfl)) (fun _ _ _ h => h) (Or.inl ⟨by rfl, ?_⟩) ?_ ?_
                  rotate_left
                  ·intro w'
                   go_simp
                   with_reducible rfl
                  rotate_left
                  ·simp only [Act.put, ZD, ZE, ZF, Zh, Zi]
                   rfl
                  refine done_ (done_of HT_.out (by kernel_rfl)) ?_
                  try go_wp2
                  go_roundg kj26
                  case measure => have := HK1.out; have := HJ20.out; have := HJ26.out; omega
                  case rel => exact ⟨(x3_1), (wrap64 (x7_1 + 1)), (x8_1), (by first | rfl | (simp; done) | (simp [*]; done)), (by first | rfl | (simp; done) | (simp [*]; done)), H', ⟨by have := HK1.out; have := HJ20.out; have := HJ26.out; omega⟩, ⟨by (with_reducible repeat (first | apply Kd.Zu | apply Kd.Zv | apply Kd.Zq)); exact Kd.Zw HO_3.out (fun _ hk => ⟨hk.1, ⟨hk.2.1, hk.2.2.1⟩⟩)⟩, ⟨by (with_reducible repeat (first | apply Kd.Zu | apply Kd.Zv | apply Kd.Zq)); exact Kd.Zw HO_5.out (fun _ hk => ⟨hk.1, ⟨hk.2.1, hk.2.2.1⟩⟩)⟩, ⟨by (with_reducible repeat (first | apply Kd.Zu | apply Kd.Zv | apply Kd.Zq)); exact Kd.Zw HO_6.out (fun _ hk => ⟨hk.1, ⟨hk.2.1, hk.2.2.1⟩⟩)⟩, ⟨by repeat (first | (with_reducible first | exact HB.out | apply Zd | apply Zf | apply Ze | refine Zj ?_ GE139.out) | exact HB.out)⟩⟩
                 ·rw [if_neg c60] at H
                  have c60b0 : (t148 == 0) = false := beq_eq_false_iff_ne.mpr c60
                  have c60b1 : (t148 != 0) = true := bne_iff_ne.mpr c60
                  by_cases c67 : x3_1.length < 4398046511104
                  ·rw [if_pos c67] at H
                   have LMc67 := Za.mk c67
                   clear c67
                   obtain ⟨y149, hy149⟩ : ∃ y_ : List (S35), y_ = (x3_1 ++ [(⟨(Zb t129 x7_1).f0, (Zb t129 x7_1).f1, (Zb t129 x7_1).f2⟩ : S35)]) := ⟨_, rfl⟩
                   replace H : (Zp.l1 kj26 y149 t129 t136 (wrap64 (x7_1 + 1)) x8_1) = some r := by first | (rw [hy149]; with_reducible exact H) | (have H2_ := (Option.bind_some _ _).symm.trans H; rw [hy149]; with_reducible exact H2_) | (have H2_ := (Option.bind_some _ _).symm.trans H; with_reducible exact H2_) | with_reducible exact H | (rw [hy149]; exact H) | exact H
                   have Ny149 := Za.mk hy149
                   clear hy149
                   have H' := Za.mk H
                   clear H
                   obtain ⟨Ao68, co68, eo68⟩ := Kd.N_slice HO_5.out
                   subst eo68
                   have p143 : 0 ≤ (x7_1 : Int) := of_decide_eq_true (by assumption)
                   have q143 : x7_1 < (t129.length : Int) := of_decide_eq_true (by assumption)
                   obtain ⟨ad143, A143_2, c143_2, e143, hx143_0, hx143_1, hx143_2, hl143_2, hi143_2⟩ := at_T35 (Kd.Zap HO_5.out).2.2 x7_1 p143 q143
                   cases e143
                   obtain ⟨ce143, hce143, hMe143, hcc143⟩ := Kd.N_get HO_5.out z35 x7_1 p143 (by first | exact q143 | exact of_decide_eq_true (by assumption) | (have e_ := (Kd.Zap HO_5.out).1; omega))
                   obtain ⟨ua143_2, uc143_2, rfl, ul143_2, ge143_2⟩ := k35_openF hMe143
                   have hv143_2 := hcc143 2 _ rfl
                   rw [add_field _ _ 2 (by omega)] at hv143_2
                   replace hv143_2 := Option.some.inj (hv143_2.symm.trans hx143_2)
                   injection hv143_2 with hva_ hvn_ hvc_
                   rw [hva_] at ge143_2
                   rw [hvc_] at ul143_2
                   have HL143_2 := Za.mk (show Kd.V (Kd.int .u64) 42 _ w.heap.size _ _ ((Zb t129 x7_1).f2) from Kd.V_mk ul143_2 ge143_2)
                   clear hva_ hvn_ hvc_ ge143_2 ul143_2
                   clear hcc143 hce143
                   have HR143_2 := Za.mk hi143_2
                   have HC143_2 := Za.mk hl143_2
                   clear hi143_2 hl143_2
                   replace p143 := eq_true p143
                   replace q143 := eq_true q143
                   have hcz69_0 : wc.cell? ⟨gb139, 0, none⟩ = some (.int .u32 0) := (Zc BK139.out 0).trans rfl
                   have hcz69_1 : wc.cell? ⟨gb139, 1, none⟩ = some (.int .u32 0) := (Zc BK139.out 1).trans rfl
                   have hcz69_2 : wc.cell? ⟨gb139, 2, none⟩ = some (.slice none 0 0) := (Zc BK139.out 2).trans rfl
                   have hfz69_0 := Zg BK139.out 0
                   have hfz69_1 := Zg BK139.out 1
                   have hfz69_2 := Zg BK139.out 2
                   try go_wp2
                   have n0_ : Za (Kd.N k35 35 (((wc.setCell ⟨gb139, 0, none⟩ (.int .u32 ((Zb t129 x7_1).f0))).setCell ⟨gb139, 1, none⟩ (.int .u32 ((Zb t129 x7_1).f1))).setCell ⟨gb139, 2, none⟩ (.slice A143_2 ((Zb t129 x7_1).f2).length c143_2)) w.heap.size (fun k_ => (w.heap.size ≤ k_) ∧ some k_ ≠ (.slice (some ad143) t129.length co68 : Value).ownBlock ∧ some k_ ≠ (v137 : Value).ownBlock ∧ k_ ≠ gb139) u3 x3_1) := ⟨by (with_reducible repeat (first | apply Kd.Zu | apply Kd.Zv | apply Kd.Zq)); exact Kd.Zw (Kd.N_far (p := ⟨gb139, 2, none⟩) (Kd.N_far (p := ⟨gb139, 1, none⟩) (Kd.N_far (p := ⟨gb139, 0, none⟩) (Kd.Zw HO_3.out (fun k_ hk => (⟨hk, hk.2.2.2⟩ : _ ∧ k_ ≠ gb139))) (fun _ hk => hk.2) (.int .u32 ((Zb t129 x7_1).f0))) (fun _ hk => hk.2) (.int .u32 ((Zb t129 x7_1).f1))) (fun _ hk => hk.2) (.slice A143_2 ((Zb t129 x7_1).f2).length c143_2)) (fun _ hk => ⟨hk.1.1, ⟨hk.1.2.1, ⟨hk.1.2.2.1, hk.1.2.2.2⟩⟩⟩)⟩
                   have n1_ : Za (Kd.N k35 35 (((wc.setCell ⟨gb139, 0, none⟩ (.int .u32 ((Zb t129 x7_1).f0))).setCell ⟨gb139, 1, none⟩ (.int .u32 ((Zb t129 x7_1).f1))).setCell ⟨gb139, 2, none⟩ (.slice A143_2 ((Zb t129 x7_1).f2).length c143_2)) w.heap.size (fun k_ => (w.heap.size ≤ k_) ∧ some k_ ≠ (u3 : Value).ownBlock ∧ some k_ ≠ (v137 : Value).ownBlock ∧ k_ ≠ gb139) (.slice (some ad143) t129.length co68) t129) := ⟨by (with_reducible repeat (first | apply Kd.Zu | apply Kd.Zv | apply Kd.Zq)); exact Kd.Zw (Kd.N_far (p := ⟨gb139, 2, none⟩) (Kd.N_far (p := ⟨gb139, 1, none⟩) (Kd.N_far (p := ⟨gb139, 0, none⟩) (Kd.Zw HO_5.out (fun k_ hk => (⟨hk, hk.2.2.2⟩ : _ ∧ k_ ≠ gb139))) (fun _ hk => hk.2) (.int .u32 ((Zb t129 x7_1).f0))) (fun _ hk => hk.2) (.int .u32 ((Zb t129 x7_1).f1))) (fun _ hk => hk.2) (.slice A143_2 ((Zb t129 x7_1).f2).length c143_2)) (fun _ hk => ⟨hk.1.1, ⟨hk.1.2.1, ⟨hk.1.2.2.1, hk.1.2.2.2⟩⟩⟩)⟩
                   have n2_ : Za (Kd.N k35 35 (((wc.setCell ⟨gb139, 0, none⟩ (.int .u32 ((Zb t129 x7_1).f0))).setCell ⟨gb139, 1, none⟩ (.int .u32 ((Zb t129 x7_1).f1))).setCell ⟨gb139, 2, none⟩ (.slice A143_2 ((Zb t129 x7_1).f2).length c143_2)) w.heap.size (fun k_ => (w.heap.size ≤ k_) ∧ some k_ ≠ (u3 : Value).ownBlock ∧ some k_ ≠ (.slice (some ad143) t129.length co68 : Value).ownBlock ∧ k_ ≠ gb139) v137 t136) := ⟨by (with_reducible repeat (first | apply Kd.Zu | apply Kd.Zv | apply Kd.Zq)); exact Kd.Zw (Kd.N_far (p := ⟨gb139, 2, none⟩) (Kd.N_far (p := ⟨gb139, 1, none⟩) (Kd.N_far (p := ⟨gb139, 0, none⟩) (Kd.Zw HO_6.out (fun k_ hk => (⟨hk, hk.2.2.2⟩ : _ ∧ k_ ≠ gb139))) (fun _ hk => hk.2) (.int .u32 ((Zb t129 x7_1).f0))) (fun _ hk => hk.2) (.int .u32 ((Zb t129 x7_1).f1))) (fun _ hk => hk.2) (.slice A143_2 ((Zb t129 x7_1).f2).length c143_2)) (fun _ hk => ⟨hk.1.1, ⟨hk.1.2.1, ⟨hk.1.2.2.1, hk.1.2.2.2⟩⟩⟩)⟩
                   have n3_ : Za (Kd.V (Kd.int .u64) 42 (((wc.setCell ⟨gb139, 0, none⟩ (.int .u32 ((Zb t129 x7_1).f0))).setCell ⟨gb139, 1, none⟩ (.int .u32 ((Zb t129 x7_1).f1))).setCell ⟨gb139, 2, none⟩ (.slice A143_2 ((Zb t129 x7_1).f2).length c143_2)) w.heap.size (fun k_ => (w.heap.size ≤ k_) ∧ some k_ ≠ (u3 : Value).ownBlock ∧ some k_ ≠ (.slice (some ad143) t129.length co68 : Value).ownBlock ∧ some k_ ≠ (v137 : Value).ownBlock ∧ k_ ≠ gb139) (.slice A143_2 ((Zb t129 x7_1).f2).length c143_2) ((Zb t129 x7_1).f2)) := ⟨by (with_reducible repeat (first | apply Kd.V_alloc | apply Kd.V_drewN | apply Kd.V_drew)); exact Kd.V_mono (Kd.V_far (p := ⟨gb139, 2, none⟩) (Kd.V_far (p := ⟨gb139, 1, none⟩) (Kd.V_far (p := ⟨gb139, 0, none⟩) (Kd.V_mono HL143_2.out (fun k_ hk => (⟨hk, hk.1.2.2.2⟩ : _ ∧ k_ ≠ gb139))) (fun _ hk => hk.2) (.int .u32 ((Zb t129 x7_1).f0))) (fun _ hk => hk.2) (.int .u32 ((Zb t129 x7_1).f1))) (fun _ hk => hk.2) (.slice A143_2 ((Zb t129 x7_1).f2).length c143_2)) (fun _ hk => ⟨hk.1.1.1, ⟨hk.1.1.2.1, ⟨hk.1.2, ⟨hk.1.1.2.2.1, hk.1.1.2.2.2⟩⟩⟩⟩)⟩
                   have n4_ : Za ((((wc.setCell ⟨gb139, 0, none⟩ (.int .u32 ((Zb t129 x7_1).f0))).setCell ⟨gb139, 1, none⟩ (.int .u32 ((Zb t129 x7_1).f1))).setCell ⟨gb139, 2, none⟩ (.slice A143_2 ((Zb t129 x7_1).f2).length c143_2)).heap[gb139]? = some (.cells #[.int .u32 ((Zb t129 x7_1).f0), .int .u32 ((Zb t129 x7_1).f1), .slice A143_2 ((Zb t129 x7_1).f2).length c143_2] 35 (0, 0))) := ⟨by (with_reducible repeat (first | refine Zo ?_ _ | refine Zm ?_ | refine Zn ?_ _)); refine blk_put (cs := #[.int .u32 ((Zb t129 x7_1).f0), .int .u32 ((Zb t129 x7_1).f1), .slice none 0 0]) ?_ 2 _ rfl; (with_reducible repeat (first | refine Zo ?_ _ | refine Zm ?_ | refine Zn ?_ _)); refine blk_put (cs := #[.int .u32 ((Zb t129 x7_1).f0), .int .u32 0, .slice none 0 0]) ?_ 1 _ rfl; (with_reducible repeat (first | refine Zo ?_ _ | refine Zm ?_ | refine Zn ?_ _)); refine blk_put (cs := #[.int .u32 0, .int .u32 0, .slice none 0 0]) ?_ 0 _ rfl; (with_reducible repeat (first | refine Zo ?_ _ | refine Zm ?_ | refine Zn ?_ _)); exact BK139.out⟩
                   have n5_ : Za (Below w.heap.size w (((wc.setCell ⟨gb139, 0, none⟩ (.int .u32 ((Zb t129 x7_1).f0))).setCell ⟨gb139, 1, none⟩ (.int .u32 ((Zb t129 x7_1).f1))).setCell ⟨gb139, 2, none⟩ (.slice A143_2 ((Zb t129 x7_1).f2).length c143_2))) := ⟨by repeat (first | (with_reducible first | exact HB.out | apply Zd | apply Zf | apply Ze | refine Zj ?_ GE139.out) | exact HB.out)⟩
                   (try clear HO_3)
                   (try clear HO_5)
                   (try clear HO_6)
                   (try clear HL143_2)
                   (try clear BK139)
                   (try clear HB)
                   generalize (((wc.setCell ⟨gb139, 0, none⟩ (.int .u32 ((Zb t129 x7_1).f0))).setCell ⟨gb139, 1, none⟩ (.int .u32 ((Zb t129 x7_1).f1))).setCell ⟨gb139, 2, none⟩ (.slice A143_2 ((Zb t129 x7_1).f2).length c143_2)) = w70 at n0_ n1_ n2_ n3_ n4_ n5_ ⊢
                   have HO_3 := n0_
                   have HO_5 := n1_
                   have HO_6 := n2_
                   have HL143_2 := n3_
                   have BK139 := n4_
                   have HB := n5_
                   clear n0_ n1_ n2_ n3_ n4_ n5_
                   replace HO_3 := Za.mk (Kd.Zq HO_3.out)
                   replace HO_5 := Za.mk (Kd.Zq HO_5.out)
                   replace HO_6 := Za.mk (Kd.Zq HO_6.out)
                   replace HL143_2 := Za.mk (Kd.V_drew HL143_2.out)
                   replace BK139 := Za.mk (Zm BK139.out)
                   replace HB := Za.mk (Ze HB.out)
                   obtain ⟨Ao72, co72, eo72⟩ := Kd.N_slice HO_3.out
                   (first | subst eo72 | (injection eo72 with f1_ f2_ f3_; have f4_ := f1_.symm; have f5_ := f3_.symm; clear f1_ f2_ f3_; subst f4_; subst f5_))
                   have p147 : 0 ≤ ((ji56) : Int) := of_decide_eq_true (by assumption)
                   have q147 : (ji56) < (x3_1.length : Int) := of_decide_eq_true (by assumption)
                   obtain ⟨ad147, A147_2, c147_2, e147, hx147_0, hx147_1, hx147_2, hl147_2, hi147_2⟩ := at_T35 (Kd.Zap HO_3.out).2.2 (ji56) p147 q147
                   cases e147
                   obtain ⟨ce147, hce147, hMe147, hcc147⟩ := Kd.N_get HO_3.out z35 (ji56) p147 (by first | exact q147 | exact of_decide_eq_true (by assumption) | (have e_ := (Kd.Zap HO_3.out).1; omega))
                   obtain ⟨ua147_2, uc147_2, rfl, ul147_2, ge147_2⟩ := k35_openF hMe147
                   have hv147_2 := hcc147 2 _ rfl
                   rw [add_field _ _ 2 (by omega)] at hv147_2
                   replace hv147_2 := Option.some.inj (hv147_2.symm.trans hx147_2)
                   injection hv147_2 with hva_ hvn_ hvc_
                   rw [hva_] at ge147_2
                   rw [hvc_] at ul147_2
                   have HL147_2 := Za.mk (show Kd.V (Kd.int .u64) 42 _ w.heap.size _ _ ((Zb x3_1 (ji56)).f2) from Kd.V_mk ul147_2 ge147_2)
                   clear hva_ hvn_ hvc_ ge147_2 ul147_2
                   clear hcc147 hce147
                   have HR147_2 := Za.mk hi147_2
                   have HC147_2 := Za.mk hl147_2
                   clear hi147_2 hl147_2
                   replace p147 := eq_true p147
                   replace q147 := eq_true q147
                   refine start_ (n := 14) (S := fun w' => w'.cell? ⟨gb139, 0, none⟩ = some (.int .u32 ((Zb t129 x7_1).f0)) ∧ w'.cell? ⟨gb139, 1, none⟩ = some (.int .u32 ((Zb t129 x7_1).f1)) ∧ w'.cell? ⟨gb139, 2, none⟩ = some (.slice A143_2 ((Zb t129 x7_1).f2).length c143_2) ∧ w'.cell? (ad147.add (((ji56)).toNat * 3)) = some (.int .u32 ((Zb x3_1 (ji56)).f0)) ∧ w'.cell? ⟨(ad147.add (((ji56)).toNat * 3)).block, (ad147.add (((ji56)).toNat * 3)).off + 1, none⟩ = some (.int .u32 ((Zb x3_1 (ji56)).f1)) ∧ w'.cell? ⟨(ad147.add (((ji56)).toNat * 3)).block, (ad147.add (((ji56)).toNat * 3)).off + 2, none⟩ = some (.slice A147_2 ((Zb x3_1 (ji56)).f2).length c147_2)) (ds := []) #[false, false, false, false, false, false, false, false, false, false, false, false, false, false] (by kernel_rfl) rfl rfl ⟨(Zc BK139.out 0).trans rfl, (Zc BK139.out 1).trans rfl, (Zc BK139.out 2).trans rfl, hx147_0, hx147_1, hx147_2⟩ (fun hHeld => ?_); refine with_tabW Zp.tab19 Zp.bits19 (fun HT_ HW_ => ?_)
                   generalize w70.drew = w71 at HO_3 HO_5 HO_6 HL143_2 BK139 HB HL147_2 HR147_2 hx147_0 hx147_1 hx147_2 hHeld ⊢
                   refine Zk (i := 0) (N := some 84) (v := ?_) (a' := ?_) #[true, false, false, false, false, false, false, false, false, false, false, false, false, false] rfl rfl (Zl HT_.out (by kernel_rfl)) (fun _ _ _ h => h) (Or.inl ⟨by rfl, ?_⟩) ?_ ?_
                   rotate_left
                   ·intro w'
                    go_simp
                    with_reducible rfl
                   rotate_left
                   ·simp only [Act.put, ZD, ZE, ZF, Zh, Zi]
                    rfl
                   refine Zk (i := 1) (N := some 85) (v := ?_) (a' := ?_) #[true, true, false, false, false, false, false, false, false, false, false, false, false, false] rfl rfl (Zl HT_.out (by kernel_rfl)) (fun _ _ _ h => h) (Or.inl ⟨by rfl, ?_⟩) ?_ ?_
                   rotate_left
                   ·intro w'
                    go_simp
                    with_reducible rfl
                   rotate_left
                   ·simp only [Act.put, ZD, ZE, ZF, Zh, Zi]
                    rfl
                   refine Zk (i := 2) (N := some 86) (v := ?_) (a' := ?_) #[true, true, true, false, false, false, false, false, false, false, false, false, false, false] rfl rfl (Zl HT_.out (by kernel_rfl)) (fun _ _ _ h => h) (Or.inl ⟨by rfl, ?_⟩) ?_ ?_
                   rotate_left
                   ·intro w'
                    go_simp
                    with_reducible rfl
                   rotate_left
                   ·simp only [Act.put, ZD, ZE, ZF, Zh, Zi]
                    rfl
                   refine Zk (i := 3) (N := some 87) (v := ?_) (a' := ?_) #[true, true, true, true, false, false, false, false, false, false, false, false, false, false] rfl rfl (Zl HT_.out (by kernel_rfl)) (fun _ _ _ h => h) (Or.inl ⟨by rfl, ?_⟩) ?_ ?_
                   rotate_left
                   ·intro w'
                    go_simp
                    with_reducible rfl
                   rotate_left
                   ·simp only [Act.put, ZD, ZE, ZF, Zh, Zi]
                    rfl
                   refine Zk (i := 4) (N := some 88) (v := ?_) (a' := ?_) #[true, true, true, true, true, false, false, false, false, false, false, false, false, false] rfl rfl (Zl HT_.out (by kernel_rfl)) (fun _ _ _ h => h) (Or.inl ⟨by rfl, ?_⟩) ?_ ?_
                   rotate_left
                   ·intro w'
                    go_simp
                    with_reducible rfl
                   rotate_left
                   ·simp only [Act.put, ZD, ZE, ZF, Zh, Zi]
                    rfl
                   refine Zk (i := 5) (N := some 89) (v := ?_) (a' := ?_) #[true, true, true, true, true, true, false, false, false, false, false, false, false, false] rfl rfl (Zl HT_.out (by kernel_rfl)) (fun _ _ _ h => h) (Or.inl ⟨by rfl, ?_⟩) ?_ ?_
                   rotate_left
                   ·intro w'
                    go_simp
                    with_reducible rfl
                   rotate_left
                   ·simp only [Act.put, ZD, ZE, ZF, Zh, Zi]
                    rfl
                   refine Zk (i := 6) (N := some 90) (v := ?_) (a' := ?_) #[true, true, true, true, true, true, true, false, false, false, false, false, false, false] rfl rfl (Zl HT_.out (by kernel_rfl)) (fun _ _ _ h => h) (Or.inl ⟨by rfl, ?_⟩) ?_ ?_
                   rotate_left
                   ·intro w'
                    go_simp
                    with_reducible rfl
                   rotate_left
                   ·simp only [Act.put, ZD, ZE, ZF, Zh, Zi]
                    rfl
                   refine Zk (i := 7) (N := some 91) (v := ?_) (a' := ?_) #[true, true, true, true, true, true, true, true, false, false, false, false, false, false] rfl rfl (Zl HT_.out (by kernel_rfl)) (fun _ _ _ h => h) (Or.inl ⟨by rfl, ?_⟩) ?_ ?_
                   rotate_left
                   ·intro w'
                    go_simp
                    with_reducible rfl
                   rotate_left
                   ·simp only [Act.put, ZD, ZE, ZF, Zh, Zi]
                    rfl
                   refine Zk (i := 8) (N := some 92) (v := ?_) (a' := ?_) #[true, true, true, true, true, true, true, true, true, false, false, false, false, false] rfl rfl (Zl HT_.out (by kernel_rfl)) (fun _ _ _ h => h) (Or.inl ⟨by rfl, ?_⟩) ?_ ?_
                   rotate_left
                   ·intro w'
                    go_simp
                    with_reducible rfl
                   rotate_left
                   ·simp only [Act.put, ZD, ZE, ZF, Zh, Zi]
                    rfl
                   refine take_ (i := 9) (N := some 93) (v := ?_) (a' := ?_) #[true, true, true, true, true, true, true, true, true, true, false, false, false, false] rfl rfl (take_ofW HT_.out HW_.out (by kernel_rfl)) (fun _ _ _ h => h) (Or.inl ⟨by rfl, ?_⟩) hHeld ?_ ?_
                   rotate_left
                   ·rintro w' ⟨s0, s1, s2, s3, s4, s5⟩
                    go_simp
                    with_reducible rfl
                   rotate_left
                   ·simp only [Act.put, ZD, ZE, ZF, Zh, Zi]
                    rfl
                   refine take_ (i := 10) (N := some 94) (v := ?_) (a' := ?_) #[true, true, true, true, true, true, true, true, true, true, true, false, false, false] rfl rfl (take_ofW HT_.out HW_.out (by kernel_rfl)) (fun _ _ _ h => h) (Or.inl ⟨by rfl, ?_⟩) hHeld ?_ ?_
                   rotate_left
                   ·rintro w' ⟨s0, s1, s2, s3, s4, s5⟩
                    go_simp
                    with_reducible rfl
                   rotate_left
                   ·simp only [Act.put, ZD, ZE, ZF, Zh, Zi]
                    rfl
                   refine one_ (i := 11) (N := some 95) #[true, true, true, true, true, true, true, true, true, true, true, true, false, false] rfl rfl (one_of HT_.out (by kernel_rfl)) (by decide) (fun K hK => ?_)
                   refine goes_ Try.func13 (by kernel_rfl) rfl #[.agg #[.int .u32 ((Zb x3_1 (ji56)).f0), .int .u32 ((Zb x3_1 (ji56)).f1), .slice A147_2 ((Zb x3_1 (ji56)).f2).length c147_2], .agg #[.int .u32 ((Zb t129 x7_1).f0), .int .u32 ((Zb t129 x7_1).f1), .slice A143_2 ((Zb t129 x7_1).f2).length c143_2]] (by rfl) rfl rfl (by (try simp only [List.map_toArray, List.map_cons, List.map_nil]); first | done | (simp only [hji56]; rfl) | rfl | (simp only [List.length_drop, List.length_take]; rfl)) ?_
                   with_reducible refine (Zag.calls kj26 ((Zb x3_1 (ji56)).f0) ((Zb x3_1 (ji56)).f1) _ _ ((Zb x3_1 (ji56)).f2) ((Zb t129 x7_1).f0) ((Zb t129 x7_1).f1) _ _ ((Zb t129 x7_1).f2) t148 _ ?side1 ?side2 ?side3 ?side4 A59.out).mono ?_
                   (case side1 => repeat (first | exact (by repeat (first | (with_reducible exact HR147_2.out) | (with_reducible refine Kd.Zac ?_ _) | (with_reducible refine Kd.Zaf ?_ _) | (with_reducible refine Kd.Zae ?_) | exact HR147_2.out)) | (with_reducible refine Kd.Zac ?_ _) | (with_reducible refine Kd.Zaf ?_ _) | (with_reducible refine Kd.Zae ?_)))
                   (case side2 => exact HC147_2.out)
                   (case side3 => repeat (first | exact ((Kd.V_reads' (by (with_reducible repeat (first | apply Kd.V_alloc | apply Kd.V_drewN | apply Kd.V_drew)); exact HL143_2.out)).2.2) | (with_reducible refine Kd.Zac ?_ _) | (with_reducible refine Kd.Zaf ?_ _) | (with_reducible refine Kd.Zae ?_)))
                   (case side4 => exact HC143_2.out)
                   rintro e w73 ⟨rfl, hb⟩
                   have HS3_ := (hb.cell (World.block_lt_of_cell? _ _ (hHeld.2.2.2.1))).trans (hHeld.2.2.2.1)
                   have HS4_ := (hb.cell (World.block_lt_of_cell? _ _ (hHeld.2.2.2.2.1))).trans (hHeld.2.2.2.2.1)
                   have HS5_ := (hb.cell (World.block_lt_of_cell? _ _ (hHeld.2.2.2.2.2))).trans (hHeld.2.2.2.2.2)
                   refine ⟨_, rfl, ?_⟩
                   replace HO_3 := Za.mk (Kd.Zan (by (with_reducible repeat (first | apply Kd.Zu | apply Kd.Zv | apply Kd.Zq)); exact HO_3.out) hb)
                   replace HO_5 := Za.mk (Kd.Zan (by (with_reducible repeat (first | apply Kd.Zu | apply Kd.Zv | apply Kd.Zq)); exact HO_5.out) hb)
                   replace HO_6 := Za.mk (Kd.Zan (by (with_reducible repeat (first | apply Kd.Zu | apply Kd.Zv | apply Kd.Zq)); exact HO_6.out) hb)
                   replace HL143_2 := Za.mk (Kd.V_below (by (with_reducible repeat (first | apply Kd.V_alloc | apply Kd.V_drewN | apply Kd.V_drew)); exact HL143_2.out) hb)
                   replace HL147_2 := Za.mk (Kd.V_below (by (with_reducible repeat (first | apply Kd.V_alloc | apply Kd.V_drewN | apply Kd.V_drew)); exact HL147_2.out) hb)
                   replace BK139 := Za.mk (Zak (g := gb139) (o := .cells #[.int .u32 ((Zb t129 x7_1).f0), .int .u32 ((Zb t129 x7_1).f1), .slice A143_2 ((Zb t129 x7_1).f2).length c143_2] 35 (0, 0)) (by (with_reducible repeat (first | refine Zo ?_ _ | refine Zm ?_ | refine Zn ?_ _)); exact BK139.out) hb)
                   replace HR147_2 := Za.mk (Kd.Zah (by repeat (first | (with_reducible exact HR147_2.out) | (with_reducible refine Kd.Zac ?_ _) | (with_reducible refine Kd.Zaf ?_ _) | (with_reducible refine Kd.Zae ?_) | exact HR147_2.out)) hb)
                   replace HB := Za.mk (Zx (by repeat (first | (with_reducible first | exact HB.out | apply Zd | apply Zf | apply Ze | refine Zj ?_ GE139.out) | exact HB.out)) hb)
                   (try clear hb)
                   (try clear hb2)
                   (try clear hk)
                   (try clear hi)
                   refine hK.out _ _ ⟨(Zc BK139.out 0).trans rfl, (Zc BK139.out 1).trans rfl, (Zc BK139.out 2).trans rfl, HS3_, HS4_, HS5_⟩ (fun hHeld => ?_)
                   clear hK K
                   refine norm_ (a' := ?_) ?_ ?_
                   rotate_left
                   ·show Act.put _ (some 95) _ = _
                    simp only [Act.put, ZD, ZE, ZF, Zh, Zi]
                    rfl
                   refine Zk (i := 12) (N := some 96) (v := ?_) (a' := ?_) #[true, true, true, true, true, true, true, true, true, true, true, true, true, false] rfl rfl (Zl HT_.out (by kernel_rfl)) (fun _ _ _ h => h) (Or.inl ⟨by rfl, ?_⟩) ?_ ?_
                   rotate_left
                   ·intro w'
                    go_simp
                    with_reducible rfl
                   rotate_left
                   ·simp only [Act.put, ZD, ZE, ZF, Zh, Zi]
                    rfl
                   refine Zk (i := 13) (N := some 97) (v := ?_) (a' := ?_) #[true, true, true, true, true, true, true, true, true, true, true, true, true, true] rfl rfl (Zl HT_.out (by kernel_rfl)) (fun _ _ _ h => h) (Or.inl ⟨by rfl, ?_⟩) ?_ ?_
                   rotate_left
                   ·intro w'
                    go_simp
                    with_reducible rfl
                   rotate_left
                   ·simp only [Act.put, ZD, ZE, ZF, Zh, Zi]
                    rfl
                   refine done_ (done_of HT_.out (by kernel_rfl)) ?_
                   have hcz74_0 : w73.cell? ⟨gb139, 0, none⟩ = some (.int .u32 ((Zb t129 x7_1).f0)) := (Zc BK139.out 0).trans rfl
                   have hcz74_1 : w73.cell? ⟨gb139, 1, none⟩ = some (.int .u32 ((Zb t129 x7_1).f1)) := (Zc BK139.out 1).trans rfl
                   have hcz74_2 : w73.cell? ⟨gb139, 2, none⟩ = some (.slice A143_2 ((Zb t129 x7_1).f2).length c143_2) := (Zc BK139.out 2).trans rfl
                   have hfz74_0 := Zg BK139.out 0
                   have hfz74_1 := Zg BK139.out 1
                   have hfz74_2 := Zg BK139.out 2
                   try go_wp2_with (first | ((with_reducible refine gate_builtin (b := .append) (xs := #[.tmp 98, .tmp 100]) rfl ?_); (try (refine Zal (by rfl) ?_; dsimp only)); at_builtin; refine Kd.N_append k35 (w0 := w) w.heap.size rfl (.tmp 98) (.tmp 100) 24 35 (.agg #[(.int .u32 0), (.int .u32 0), (.slice none 0 0)]) 32 rfl Try.underlying24 info35 rfl (by decide) (by omega) (.slice (some ad147) x3_1.length co72) x3_1 (⟨(Zb t129 x7_1).f0, (Zb t129 x7_1).f1, (Zb t129 x7_1).f2⟩ : S35) [.int .u32 ((Zb t129 x7_1).f0), .int .u32 ((Zb t129 x7_1).f1), .slice A143_2 ((Zb t129 x7_1).f2).length c143_2] (fun k_ => (w.heap.size ≤ k_) ∧ some k_ ≠ (.slice (some ad143) t129.length co68 : Value).ownBlock ∧ some k_ ≠ (v137 : Value).ownBlock ∧ k_ ≠ gb139) (fun k_ => ((fun k_ => (w.heap.size ≤ k_) ∧ some k_ ≠ (.slice (some ad143) t129.length co68 : Value).ownBlock ∧ some k_ ≠ (v137 : Value).ownBlock ∧ k_ ≠ gb139)) k_ ∧ some k_ ≠ (.slice (some ad147) x3_1.length co72 : Value).ownBlock) rfl rfl ?aP (fun _ hk => hk) ?aF ?aO ?aB ?aS ?aL ?_; (case aP => exact (k35_mkF _ _ (⟨(Zb t129 x7_1).f0, (Zb t129 x7_1).f1, (Zb t129 x7_1).f2⟩ : S35) (Kd.V_reads' (Kd.V_mono (ok' := (fun k_ => ((fun k_ => (w.heap.size ≤ k_) ∧ some k_ ≠ (.slice (some ad143) t129.length co68 : Value).ownBlock ∧ some k_ ≠ (v137 : Value).ownBlock ∧ k_ ≠ gb139)) k_ ∧ some k_ ≠ (.slice (some ad147) x3_1.length co72 : Value).ownBlock)) (HL143_2.out) (fun k_ hk => ⟨⟨hk.1, ⟨hk.2.2.1, ⟨hk.2.2.2.1, hk.2.2.2.2⟩⟩⟩, hk.2.1⟩))).2.1 (Kd.V_F (Kd.V_mono (ok' := (fun k_ => ((fun k_ => (w.heap.size ≤ k_) ∧ some k_ ≠ (.slice (some ad143) t129.length co68 : Value).ownBlock ∧ some k_ ≠ (v137 : Value).ownBlock ∧ k_ ≠ gb139)) k_ ∧ some k_ ≠ (.slice (some ad147) x3_1.length co72 : Value).ownBlock)) (HL143_2.out) (fun k_ hk => ⟨⟨hk.1, ⟨hk.2.2.1, ⟨hk.2.2.2.1, hk.2.2.2.2⟩⟩⟩, hk.2.1⟩))))); (case aB => exact (by repeat (first | (with_reducible first | exact HB.out | apply Zd | apply Zf | apply Ze | refine Zj ?_ GE139.out) | exact HB.out))); (case aF => exact (fun k_ hk => ⟨(Nat.le_trans (Zr (by repeat (first | (with_reducible first | exact HB.out | apply Zd | apply Zf | apply Ze | refine Zj ?_ GE139.out) | exact HB.out))) hk), Kd.fresh' (Kd.N_lt (by (with_reducible repeat (first | apply Kd.Zu | apply Kd.Zv | apply Kd.Zq)); exact HO_5.out)) k_ hk, Kd.fresh' (Kd.N_lt (by (with_reducible repeat (first | apply Kd.Zu | apply Kd.Zv | apply Kd.Zq)); exact HO_6.out)) k_ hk, Kd.freshB (g := gb139) (o := .cells #[.int .u32 ((Zb t129 x7_1).f0), .int .u32 ((Zb t129 x7_1).f1), .slice A143_2 ((Zb t129 x7_1).f2).length c143_2] 35 (0, 0)) (by (with_reducible repeat (first | refine Zo ?_ _ | refine Zm ?_ | refine Zn ?_ _)); exact BK139.out) k_ hk⟩)); (case aO => exact (by (with_reducible repeat (first | apply Kd.Zu | apply Kd.Zv | apply Kd.Zq)); exact HO_3.out)); (case aS => exact (Zr (by repeat (first | (with_reducible first | exact HB.out | apply Zd | apply Zf | apply Ze | refine Zj ?_ GE139.out) | exact HB.out)))); (case aL => have := LMc67.out; omega); intro v150 w75 ho hb hg hat; rw [← Ny149.out] at ho; have n0_ := Za.mk (Kd.N_afterv (ok := (fun k_ => (w.heap.size ≤ k_) ∧ some k_ ≠ (v137 : Value).ownBlock ∧ k_ ≠ gb139)) (by (with_reducible repeat (first | apply Kd.Zu | apply Kd.Zv | apply Kd.Zq)); exact Kd.Zw HO_5.out (fun _ hk => ⟨⟨hk.1, ⟨hk.2.2.1, hk.2.2.2⟩⟩, hk.2.1⟩)) hg hat); have n1_ := Za.mk (Kd.N_afterv (ok := (fun k_ => (w.heap.size ≤ k_) ∧ some k_ ≠ (.slice (some ad143) t129.length co68 : Value).ownBlock ∧ k_ ≠ gb139)) (by (with_reducible repeat (first | apply Kd.Zu | apply Kd.Zv | apply Kd.Zq)); exact Kd.Zw HO_6.out (fun _ hk => ⟨⟨hk.1, ⟨hk.2.2.1, hk.2.2.2⟩⟩, hk.2.1⟩)) hg hat); have n2_ := Za.mk (blk_grown (g := gb139) (o := .cells #[.int .u32 ((Zb t129 x7_1).f0), .int .u32 ((Zb t129 x7_1).f1), .slice A143_2 ((Zb t129 x7_1).f2).length c143_2] 35 (0, 0)) (by (with_reducible repeat (first | refine Zo ?_ _ | refine Zm ?_ | refine Zn ?_ _)); exact BK139.out) hg (Kd.N_away HO_3.out (fun _ hk => hk.2.2.2))); have n3_ := Za.mk (Kd.V_afterv (ok := (fun k_ => (w.heap.size ≤ k_) ∧ some k_ ≠ (.slice (some ad143) t129.length co68 : Value).ownBlock ∧ some k_ ≠ (v137 : Value).ownBlock ∧ k_ ≠ gb139)) (by (with_reducible repeat (first | apply Kd.V_alloc | apply Kd.V_drewN | apply Kd.V_drew)); exact Kd.V_mono HL143_2.out (fun _ hk => ⟨⟨hk.1, ⟨hk.2.2.1, ⟨hk.2.2.2.1, hk.2.2.2.2⟩⟩⟩, hk.2.1⟩)) hg hat); have n4_ := Za.mk (Kd.V_afterv (ok := (fun k_ => (w.heap.size ≤ k_) ∧ some k_ ≠ (.slice (some ad143) t129.length co68 : Value).ownBlock ∧ some k_ ≠ (v137 : Value).ownBlock ∧ k_ ≠ gb139)) (by (with_reducible repeat (first | apply Kd.V_alloc | apply Kd.V_drewN | apply Kd.V_drew)); exact HL147_2.out) hg hat); have n5_ := Za.mk (hb); have n6_ := Za.mk (ho); clear HO_5; clear HO_6; clear BK139; clear HL143_2; clear HL147_2; clear HB; clear HO_3; have HO_5 := n0_; have HO_6 := n1_; have BK139 := n2_; have HL143_2 := n3_; have HL147_2 := n4_; have HB := n5_; have HO151 := n6_; clear n0_ n1_ n2_ n3_ n4_ n5_ n6_; clear ho hb hg hat))
                   go_roundg kj26
                   case measure => have := HK1.out; have := HJ20.out; have := HJ26.out; omega
                   case rel => exact ⟨(y149), (wrap64 (x7_1 + 1)), (x8_1), (by first | rfl | (simp; done) | (simp [*]; done)), (by first | rfl | (simp; done) | (simp [*]; done)), H', ⟨by have := HK1.out; have := HJ20.out; have := HJ26.out; omega⟩, ⟨by (with_reducible repeat (first | apply Kd.Zu | apply Kd.Zv | apply Kd.Zq)); exact Kd.Zw HO151.out (fun _ hk => ⟨hk.1, ⟨hk.2.1, hk.2.2.1⟩⟩)⟩, ⟨by (with_reducible repeat (first | apply Kd.Zu | apply Kd.Zv | apply Kd.Zq)); exact Kd.Zw HO_5.out (fun _ hk => ⟨hk.1.1, ⟨hk.2, hk.1.2.1⟩⟩)⟩, ⟨by (with_reducible repeat (first | apply Kd.Zu | apply Kd.Zv | apply Kd.Zq)); exact Kd.Zw HO_6.out (fun _ hk => ⟨hk.1.1, ⟨hk.2, hk.1.2.1⟩⟩)⟩, ⟨by repeat (first | (with_reducible first | exact HB.out | apply Zd | apply Zf | apply Ze | refine Zj ?_ GE139.out) | exact HB.out)⟩⟩
                  ·rw [if_neg c67] at H
                   exact absurd H (by simp)
                ·rw [if_neg c58] at H
                 exact absurd H (by simp)
               ·rw [if_neg c57] at H
                exact absurd H (by simp)
             ·rw [if_neg c46] at H
              exact absurd H (by simp)
            ·rw [if_neg c45] at H
             exact absurd H (by simp)
           ·replace c44 := Bool.eq_false_iff.mpr c44
            subst c44
            have H1 : (if 0 ≤ x8_1 then (if x8_1 < (t136.length : Int) then (if (x3_1.length : Int) = 0 then (if x3_1.length < 4398046511104 then (Zp.l1 kj26 (x3_1 ++ [(⟨(Zb t136 x8_1).f0, (Zb t136 x8_1).f1, (Zb t136 x8_1).f2⟩ : S35)]) t129 t136 x7_1 (wrap64 (x8_1 + 1))) else (none)) else (if 0 ≤ (wrap64 ((x3_1.length : Int) - 1)) then (if (wrap64 ((x3_1.length : Int) - 1)) < (x3_1.length : Int) then ((Zag.f kj26 ((Zb x3_1 (wrap64 ((x3_1.length : Int) - 1))).f0) ((Zb x3_1 (wrap64 ((x3_1.length : Int) - 1))).f1) ((Zb x3_1 (wrap64 ((x3_1.length : Int) - 1))).f2) ((Zb t136 x8_1).f0) ((Zb t136 x8_1).f1) ((Zb t136 x8_1).f2)).bind fun t157 => (if t157 = 0 then (Zp.l1 kj26 x3_1 t129 t136 x7_1 (wrap64 (x8_1 + 1))) else (if x3_1.length < 4398046511104 then (Zp.l1 kj26 (x3_1 ++ [(⟨(Zb t136 x8_1).f0, (Zb t136 x8_1).f1, (Zb t136 x8_1).f2⟩ : S35)]) t129 t136 x7_1 (wrap64 (x8_1 + 1))) else (none)))) else (none)) else (none))) else (none)) else (none)) = some r := by rw [if_neg (show ¬ (false = true) by decide)] at H; exact H
            clear H
            have H := H1
            clear H1
            by_cases c76 : 0 ≤ x8_1
            ·rw [if_pos c76] at H
             have c76b0 : decide (0 ≤ x8_1) = true := decide_eq_true c76
             clear c76
             by_cases c77 : x8_1 < (t136.length : Int)
             ·rw [if_pos c77] at H
              have c77b0 : decide (x8_1 < (t136.length : Int)) = true := decide_eq_true c77
              clear c77
              by_cases c78 : (x3_1.length : Int) = 0
              ·rw [if_pos c78] at H
               have c78b0 : ((x3_1.length : Int) == 0) = true := beq_iff_eq.mpr c78
               have c78b1 : ((x3_1.length : Int) != 0) = false := bne_eq_false_iff_eq.mpr c78
               clear c78
               by_cases c79 : x3_1.length < 4398046511104
               ·rw [if_pos c79] at H
                have LMc79 := Za.mk c79
                clear c79
                obtain ⟨y153, hy153⟩ : ∃ y_ : List (S35), y_ = (x3_1 ++ [(⟨(Zb t136 x8_1).f0, (Zb t136 x8_1).f1, (Zb t136 x8_1).f2⟩ : S35)]) := ⟨_, rfl⟩
                replace H : (Zp.l1 kj26 y153 t129 t136 x7_1 (wrap64 (x8_1 + 1))) = some r := by first | (rw [hy153]; with_reducible exact H) | (have H2_ := (Option.bind_some _ _).symm.trans H; rw [hy153]; with_reducible exact H2_) | (have H2_ := (Option.bind_some _ _).symm.trans H; with_reducible exact H2_) | with_reducible exact H | (rw [hy153]; exact H) | exact H
                have Ny153 := Za.mk hy153
                clear hy153
                have H' := Za.mk H
                clear H
                obtain ⟨Ao80, co80, eo80⟩ := Kd.N_slice HO_6.out
                subst eo80
                have p152 : 0 ≤ (x8_1 : Int) := of_decide_eq_true (by assumption)
                have q152 : x8_1 < (t136.length : Int) := of_decide_eq_true (by assumption)
                obtain ⟨ad152, A152_2, c152_2, e152, hx152_0, hx152_1, hx152_2, hl152_2, hi152_2⟩ := at_T35 (Kd.Zap HO_6.out).2.2 x8_1 p152 q152
                cases e152
                obtain ⟨ce152, hce152, hMe152, hcc152⟩ := Kd.N_get HO_6.out z35 x8_1 p152 (by first | exact q152 | exact of_decide_eq_true (by assumption) | (have e_ := (Kd.Zap HO_6.out).1; omega))
                obtain ⟨ua152_2, uc152_2, rfl, ul152_2, ge152_2⟩ := k35_openF hMe152
                have hv152_2 := hcc152 2 _ rfl
                rw [add_field _ _ 2 (by omega)] at hv152_2
                replace hv152_2 := Option.some.inj (hv152_2.symm.trans hx152_2)
                injection hv152_2 with hva_ hvn_ hvc_
                rw [hva_] at ge152_2
                rw [hvc_] at ul152_2
                have HL152_2 := Za.mk (show Kd.V (Kd.int .u64) 42 _ w.heap.size _ _ ((Zb t136 x8_1).f2) from Kd.V_mk ul152_2 ge152_2)
                clear hva_ hvn_ hvc_ ge152_2 ul152_2
                clear hcc152 hce152
                have HR152_2 := Za.mk hi152_2
                have HC152_2 := Za.mk hl152_2
                clear hi152_2 hl152_2
                replace p152 := eq_true p152
                replace q152 := eq_true q152
                have hcz81_0 : wc.cell? ⟨gb139, 0, none⟩ = some (.int .u32 0) := (Zc BK139.out 0).trans rfl
                have hcz81_1 : wc.cell? ⟨gb139, 1, none⟩ = some (.int .u32 0) := (Zc BK139.out 1).trans rfl
                have hcz81_2 : wc.cell? ⟨gb139, 2, none⟩ = some (.slice none 0 0) := (Zc BK139.out 2).trans rfl
                have hfz81_0 := Zg BK139.out 0
                have hfz81_1 := Zg BK139.out 1
                have hfz81_2 := Zg BK139.out 2
                try go_wp2
                have n0_ : Za (Kd.N k35 35 (((wc.setCell ⟨gb139, 0, none⟩ (.int .u32 ((Zb t136 x8_1).f0))).setCell ⟨gb139, 1, none⟩ (.int .u32 ((Zb t136 x8_1).f1))).setCell ⟨gb139, 2, none⟩ (.slice A152_2 ((Zb t136 x8_1).f2).length c152_2)) w.heap.size (fun k_ => (w.heap.size ≤ k_) ∧ some k_ ≠ (v130 : Value).ownBlock ∧ some k_ ≠ (.slice (some ad152) t136.length co80 : Value).ownBlock ∧ k_ ≠ gb139) u3 x3_1) := ⟨by (with_reducible repeat (first | apply Kd.Zu | apply Kd.Zv | apply Kd.Zq)); exact Kd.Zw (Kd.N_far (p := ⟨gb139, 2, none⟩) (Kd.N_far (p := ⟨gb139, 1, none⟩) (Kd.N_far (p := ⟨gb139, 0, none⟩) (Kd.Zw HO_3.out (fun k_ hk => (⟨hk, hk.2.2.2⟩ : _ ∧ k_ ≠ gb139))) (fun _ hk => hk.2) (.int .u32 ((Zb t136 x8_1).f0))) (fun _ hk => hk.2) (.int .u32 ((Zb t136 x8_1).f1))) (fun _ hk => hk.2) (.slice A152_2 ((Zb t136 x8_1).f2).length c152_2)) (fun _ hk => ⟨hk.1.1, ⟨hk.1.2.1, ⟨hk.1.2.2.1, hk.1.2.2.2⟩⟩⟩)⟩
                have n1_ : Za (Kd.N k35 35 (((wc.setCell ⟨gb139, 0, none⟩ (.int .u32 ((Zb t136 x8_1).f0))).setCell ⟨gb139, 1, none⟩ (.int .u32 ((Zb t136 x8_1).f1))).setCell ⟨gb139, 2, none⟩ (.slice A152_2 ((Zb t136 x8_1).f2).length c152_2)) w.heap.size (fun k_ => (w.heap.size ≤ k_) ∧ some k_ ≠ (u3 : Value).ownBlock ∧ some k_ ≠ (.slice (some ad152) t136.length co80 : Value).ownBlock ∧ k_ ≠ gb139) v130 t129) := ⟨by (with_reducible repeat (first | apply Kd.Zu | apply Kd.Zv | apply Kd.Zq)); exact Kd.Zw (Kd.N_far (p := ⟨gb139, 2, none⟩) (Kd.N_far (p := ⟨gb139, 1, none⟩) (Kd.N_far (p := ⟨gb139, 0, none⟩) (Kd.Zw HO_5.out (fun k_ hk => (⟨hk, hk.2.2.2⟩ : _ ∧ k_ ≠ gb139))) (fun _ hk => hk.2) (.int .u32 ((Zb t136 x8_1).f0))) (fun _ hk => hk.2) (.int .u32 ((Zb t136 x8_1).f1))) (fun _ hk => hk.2) (.slice A152_2 ((Zb t136 x8_1).f2).length c152_2)) (fun _ hk => ⟨hk.1.1, ⟨hk.1.2.1, ⟨hk.1.2.2.1, hk.1.2.2.2⟩⟩⟩)⟩
                have n2_ : Za (Kd.N k35 35 (((wc.setCell ⟨gb139, 0, none⟩ (.int .u32 ((Zb t136 x8_1).f0))).setCell ⟨gb139, 1, none⟩ (.int .u32 ((Zb t136 x8_1).f1))).setCell ⟨gb139, 2, none⟩ (.slice A152_2 ((Zb t136 x8_1).f2).length c152_2)) w.heap.size (fun k_ => (w.heap.size ≤ k_) ∧ some k_ ≠ (u3 : Value).ownBlock ∧ some k_ ≠ (v130 : Value).ownBlock ∧ k_ ≠ gb139) (.slice (some ad152) t136.length co80) t136) := ⟨by (with_reducible repeat (first | apply Kd.Zu | apply Kd.Zv | apply Kd.Zq)); exact Kd.Zw (Kd.N_far (p := ⟨gb139, 2, none⟩) (Kd.N_far (p := ⟨gb139, 1, none⟩) (Kd.N_far (p := ⟨gb139, 0, none⟩) (Kd.Zw HO_6.out (fun k_ hk => (⟨hk, hk.2.2.2⟩ : _ ∧ k_ ≠ gb139))) (fun _ hk => hk.2) (.int .u32 ((Zb t136 x8_1).f0))) (fun _ hk => hk.2) (.int .u32 ((Zb t136 x8_1).f1))) (fun _ hk => hk.2) (.slice A152_2 ((Zb t136 x8_1).f2).length c152_2)) (fun _ hk => ⟨hk.1.1, ⟨hk.1.2.1, ⟨hk.1.2.2.1, hk.1.2.2.2⟩⟩⟩)⟩
                have n3_ : Za (Kd.V (Kd.int .u64) 42 (((wc.setCell ⟨gb139, 0, none⟩ (.int .u32 ((Zb t136 x8_1).f0))).setCell ⟨gb139, 1, none⟩ (.int .u32 ((Zb t136 x8_1).f1))).setCell ⟨gb139, 2, none⟩ (.slice A152_2 ((Zb t136 x8_1).f2).length c152_2)) w.heap.size (fun k_ => (w.heap.size ≤ k_) ∧ some k_ ≠ (u3 : Value).ownBlock ∧ some k_ ≠ (v130 : Value).ownBlock ∧ some k_ ≠ (.slice (some ad152) t136.length co80 : Value).ownBlock ∧ k_ ≠ gb139) (.slice A152_2 ((Zb t136 x8_1).f2).length c152_2) ((Zb t136 x8_1).f2)) := ⟨by (with_reducible repeat (first | apply Kd.V_alloc | apply Kd.V_drewN | apply Kd.V_drew)); exact Kd.V_mono (Kd.V_far (p := ⟨gb139, 2, none⟩) (Kd.V_far (p := ⟨gb139, 1, none⟩) (Kd.V_far (p := ⟨gb139, 0, none⟩) (Kd.V_mono HL152_2.out (fun k_ hk => (⟨hk, hk.1.2.2.2⟩ : _ ∧ k_ ≠ gb139))) (fun _ hk => hk.2) (.int .u32 ((Zb t136 x8_1).f0))) (fun _ hk => hk.2) (.int .u32 ((Zb t136 x8_1).f1))) (fun _ hk => hk.2) (.slice A152_2 ((Zb t136 x8_1).f2).length c152_2)) (fun _ hk => ⟨hk.1.1.1, ⟨hk.1.1.2.1, ⟨hk.1.1.2.2.1, ⟨hk.1.2, hk.1.1.2.2.2⟩⟩⟩⟩)⟩
                have n4_ : Za ((((wc.setCell ⟨gb139, 0, none⟩ (.int .u32 ((Zb t136 x8_1).f0))).setCell ⟨gb139, 1, none⟩ (.int .u32 ((Zb t136 x8_1).f1))).setCell ⟨gb139, 2, none⟩ (.slice A152_2 ((Zb t136 x8_1).f2).length c152_2)).heap[gb139]? = some (.cells #[.int .u32 ((Zb t136 x8_1).f0), .int .u32 ((Zb t136 x8_1).f1), .slice A152_2 ((Zb t136 x8_1).f2).length c152_2] 35 (0, 0))) := ⟨by (with_reducible repeat (first | refine Zo ?_ _ | refine Zm ?_ | refine Zn ?_ _)); refine blk_put (cs := #[.int .u32 ((Zb t136 x8_1).f0), .int .u32 ((Zb t136 x8_1).f1), .slice none 0 0]) ?_ 2 _ rfl; (with_reducible repeat (first | refine Zo ?_ _ | refine Zm ?_ | refine Zn ?_ _)); refine blk_put (cs := #[.int .u32 ((Zb t136 x8_1).f0), .int .u32 0, .slice none 0 0]) ?_ 1 _ rfl; (with_reducible repeat (first | refine Zo ?_ _ | refine Zm ?_ | refine Zn ?_ _)); refine blk_put (cs := #[.int .u32 0, .int .u32 0, .slice none 0 0]) ?_ 0 _ rfl; (with_reducible repeat (first | refine Zo ?_ _ | refine Zm ?_ | refine Zn ?_ _)); exact BK139.out⟩
                have n5_ : Za (Below w.heap.size w (((wc.setCell ⟨gb139, 0, none⟩ (.int .u32 ((Zb t136 x8_1).f0))).setCell ⟨gb139, 1, none⟩ (.int .u32 ((Zb t136 x8_1).f1))).setCell ⟨gb139, 2, none⟩ (.slice A152_2 ((Zb t136 x8_1).f2).length c152_2))) := ⟨by repeat (first | (with_reducible first | exact HB.out | apply Zd | apply Zf | apply Ze | refine Zj ?_ GE139.out) | exact HB.out)⟩
                (try clear HO_3)
                (try clear HO_5)
                (try clear HO_6)
                (try clear HL152_2)
                (try clear BK139)
                (try clear HB)
                generalize (((wc.setCell ⟨gb139, 0, none⟩ (.int .u32 ((Zb t136 x8_1).f0))).setCell ⟨gb139, 1, none⟩ (.int .u32 ((Zb t136 x8_1).f1))).setCell ⟨gb139, 2, none⟩ (.slice A152_2 ((Zb t136 x8_1).f2).length c152_2)) = w82 at n0_ n1_ n2_ n3_ n4_ n5_ ⊢
                have HO_3 := n0_
                have HO_5 := n1_
                have HO_6 := n2_
                have HL152_2 := n3_
                have BK139 := n4_
                have HB := n5_
                clear n0_ n1_ n2_ n3_ n4_ n5_
                replace HO_3 := Za.mk (Kd.Zq HO_3.out)
                replace HO_5 := Za.mk (Kd.Zq HO_5.out)
                replace HO_6 := Za.mk (Kd.Zq HO_6.out)
                replace HL152_2 := Za.mk (Kd.V_drew HL152_2.out)
                replace BK139 := Za.mk (Zm BK139.out)
                replace HB := Za.mk (Ze HB.out)
                obtain ⟨Ao84, co84, eo84⟩ := Kd.N_slice HO_3.out
                (first | subst eo84 | (injection eo84 with f1_ f2_ f3_; have f4_ := f1_.symm; have f5_ := f3_.symm; clear f1_ f2_ f3_; subst f4_; subst f5_))
                refine start_ (n := 14) (S := fun w' => True) (ds := []) #[false, false, false, false, false, false, false, false, false, false, false, false, false, false] (by kernel_rfl) rfl rfl trivial (fun hHeld => ?_); refine with_tabW Zp.tab19 Zp.bits19 (fun HT_ HW_ => ?_)
                generalize w82.drew = w83 at HO_3 HO_5 HO_6 HL152_2 BK139 HB hHeld ⊢
                refine Zk (i := 0) (N := some 84) (v := ?_) (a' := ?_) #[true, false, false, false, false, false, false, false, false, false, false, false, false, false] rfl rfl (Zl HT_.out (by kernel_rfl)) (fun _ _ _ h => h) (Or.inl ⟨by rfl, ?_⟩) ?_ ?_
                rotate_left
                ·intro w'
                 go_simp
                 with_reducible rfl
                rotate_left
                ·simp only [Act.put, ZD, ZE, ZF, Zh, Zi]
                 rfl
                refine Zk (i := 1) (N := some 85) (v := ?_) (a' := ?_) #[true, true, false, false, false, false, false, false, false, false, false, false, false, false] rfl rfl (Zl HT_.out (by kernel_rfl)) (fun _ _ _ h => h) (Or.inl ⟨by rfl, ?_⟩) ?_ ?_
                rotate_left
                ·intro w'
                 go_simp
                 with_reducible rfl
                rotate_left
                ·simp only [Act.put, ZD, ZE, ZF, Zh, Zi]
                 rfl
                refine Zk (i := 2) (N := some 86) (v := ?_) (a' := ?_) #[true, true, true, false, false, false, false, false, false, false, false, false, false, false] rfl rfl (Zl HT_.out (by kernel_rfl)) (fun _ _ _ h => h) (Or.inl ⟨by rfl, ?_⟩) ?_ ?_
                rotate_left
                ·intro w'
                 go_simp
                 with_reducible rfl
                rotate_left
                ·simp only [Act.put, ZD, ZE, ZF, Zh, Zi]
                 rfl
                refine Zk (i := 3) (N := some 87) (v := ?_) (a' := ?_) #[true, true, true, true, false, false, false, false, false, false, false, false, false, false] rfl rfl (Zl HT_.out (by kernel_rfl)) (fun _ _ _ h => h) (Or.inl ⟨by rfl, ?_⟩) ?_ ?_
                rotate_left
                ·intro w'
                 go_simp
                 with_reducible rfl
                rotate_left
                ·simp only [Act.put, ZD, ZE, ZF, Zh, Zi]
                 rfl
                refine Zk (i := 4) (N := some 88) (v := undef) (a' := ?_) #[true, true, true, true, true, false, false, false, false, false, false, false, false, false] rfl rfl (Zl HT_.out (by kernel_rfl)) (fun _ _ _ h => h) (Or.inr ⟨by rfl, rfl⟩) ?_ ?_
                rotate_left
                ·simp only [Act.put, ZD, ZE, ZF, Zh, Zi]
                 rfl
                refine Zk (i := 5) (N := some 89) (v := undef) (a' := ?_) #[true, true, true, true, true, true, false, false, false, false, false, false, false, false] rfl rfl (Zl HT_.out (by kernel_rfl)) (fun _ _ _ h => h) (Or.inr ⟨by rfl, rfl⟩) ?_ ?_
                rotate_left
                ·simp only [Act.put, ZD, ZE, ZF, Zh, Zi]
                 rfl
                refine Zk (i := 6) (N := some 90) (v := undef) (a' := ?_) #[true, true, true, true, true, true, true, false, false, false, false, false, false, false] rfl rfl (Zl HT_.out (by kernel_rfl)) (fun _ _ _ h => h) (Or.inr ⟨by rfl, rfl⟩) ?_ ?_
                rotate_left
                ·simp only [Act.put, ZD, ZE, ZF, Zh, Zi]
                 rfl
                refine Zk (i := 7) (N := some 91) (v := undef) (a' := ?_) #[true, true, true, true, true, true, true, true, false, false, false, false, false, false] rfl rfl (Zl HT_.out (by kernel_rfl)) (fun _ _ _ h => h) (Or.inr ⟨by rfl, rfl⟩) ?_ ?_
                rotate_left
                ·simp only [Act.put, ZD, ZE, ZF, Zh, Zi]
                 rfl
                refine Zk (i := 8) (N := some 92) (v := undef) (a' := ?_) #[true, true, true, true, true, true, true, true, true, false, false, false, false, false] rfl rfl (Zl HT_.out (by kernel_rfl)) (fun _ _ _ h => h) (Or.inr ⟨by rfl, rfl⟩) ?_ ?_
                rotate_left
                ·simp only [Act.put, ZD, ZE, ZF, Zh, Zi]
                 rfl
                refine Zk (i := 9) (N := some 93) (v := undef) (a' := ?_) #[true, true, true, true, true, true, true, true, true, true, false, false, false, false] rfl rfl (Zl HT_.out (by kernel_rfl)) (fun _ _ _ h => h) (Or.inr ⟨by rfl, rfl⟩) ?_ ?_
                rotate_left
                ·simp only [Act.put, ZD, ZE, ZF, Zh, Zi]
                 rfl
                refine Zk (i := 10) (N := some 94) (v := undef) (a' := ?_) #[true, true, true, true, true, true, true, true, true, true, true, false, false, false] rfl rfl (Zl HT_.out (by kernel_rfl)) (fun _ _ _ h => h) (Or.inr ⟨by rfl, rfl⟩) ?_ ?_
                rotate_left
                ·simp only [Act.put, ZD, ZE, ZF, Zh, Zi]
                 rfl
                refine Zk (i := 11) (N := some 95) (v := undef) (a' := ?_) #[true, true, true, true, true, true, true, true, true, true, true, true, false, false] rfl rfl (Zl HT_.out (by kernel_rfl)) (fun _ _ _ h => h) (Or.inr ⟨by rfl, rfl⟩) ?_ ?_
                rotate_left
                ·simp only [Act.put, ZD, ZE, ZF, Zh, Zi]
                 rfl
                refine Zk (i := 12) (N := some 96) (v := undef) (a' := ?_) #[true, true, true, true, true, true, true, true, true, true, true, true, true, false] rfl rfl (Zl HT_.out (by kernel_rfl)) (fun _ _ _ h => h) (Or.inr ⟨by rfl, rfl⟩) ?_ ?_
                rotate_left
                ·simp only [Act.put, ZD, ZE, ZF, Zh, Zi]
                 rfl
                refine Zk (i := 13) (N := some 97) (v := ?_) (a' := ?_) #[true, true, true, true, true, true, true, true, true, true, true, true, true, true] rfl rfl (Zl HT_.out (by kernel_rfl)) (fun _ _ _ h => h) (Or.inl ⟨by rfl, ?_⟩) ?_ ?_
                rotate_left
                ·intro w'
                 go_simp
                 with_reducible rfl
                rotate_left
                ·simp only [Act.put, ZD, ZE, ZF, Zh, Zi]
                 rfl
                refine done_ (done_of HT_.out (by kernel_rfl)) ?_
                have hcz85_0 : w83.cell? ⟨gb139, 0, none⟩ = some (.int .u32 ((Zb t136 x8_1).f0)) := (Zc BK139.out 0).trans rfl
                have hcz85_1 : w83.cell? ⟨gb139, 1, none⟩ = some (.int .u32 ((Zb t136 x8_1).f1)) := (Zc BK139.out 1).trans rfl
                have hcz85_2 : w83.cell? ⟨gb139, 2, none⟩ = some (.slice A152_2 ((Zb t136 x8_1).f2).length c152_2) := (Zc BK139.out 2).trans rfl
                have hfz85_0 := Zg BK139.out 0
                have hfz85_1 := Zg BK139.out 1
                have hfz85_2 := Zg BK139.out 2
                try go_wp2_with (first | ((with_reducible refine gate_builtin (b := .append) (xs := #[.tmp 98, .tmp 100]) rfl ?_); (try (refine Zal (by rfl) ?_; dsimp only)); at_builtin; refine Kd.N_append k35 (w0 := w) w.heap.size rfl (.tmp 98) (.tmp 100) 24 35 (.agg #[(.int .u32 0), (.int .u32 0), (.slice none 0 0)]) 32 rfl Try.underlying24 info35 rfl (by decide) (by omega) (.slice Ao84 x3_1.length co84) x3_1 (⟨(Zb t136 x8_1).f0, (Zb t136 x8_1).f1, (Zb t136 x8_1).f2⟩ : S35) [.int .u32 ((Zb t136 x8_1).f0), .int .u32 ((Zb t136 x8_1).f1), .slice A152_2 ((Zb t136 x8_1).f2).length c152_2] (fun k_ => (w.heap.size ≤ k_) ∧ some k_ ≠ (v130 : Value).ownBlock ∧ some k_ ≠ (.slice (some ad152) t136.length co80 : Value).ownBlock ∧ k_ ≠ gb139) (fun k_ => ((fun k_ => (w.heap.size ≤ k_) ∧ some k_ ≠ (v130 : Value).ownBlock ∧ some k_ ≠ (.slice (some ad152) t136.length co80 : Value).ownBlock ∧ k_ ≠ gb139)) k_ ∧ some k_ ≠ (.slice Ao84 x3_1.length co84 : Value).ownBlock) rfl rfl ?aP (fun _ hk => hk) ?aF ?aO ?aB ?aS ?aL ?_; (case aP => exact (k35_mkF _ _ (⟨(Zb t136 x8_1).f0, (Zb t136 x8_1).f1, (Zb t136 x8_1).f2⟩ : S35) (Kd.V_reads' (Kd.V_mono (ok' := (fun k_ => ((fun k_ => (w.heap.size ≤ k_) ∧ some k_ ≠ (v130 : Value).ownBlock ∧ some k_ ≠ (.slice (some ad152) t136.length co80 : Value).ownBlock ∧ k_ ≠ gb139)) k_ ∧ some k_ ≠ (.slice Ao84 x3_1.length co84 : Value).ownBlock)) (HL152_2.out) (fun k_ hk => ⟨⟨hk.1, ⟨hk.2.2.1, ⟨hk.2.2.2.1, hk.2.2.2.2⟩⟩⟩, hk.2.1⟩))).2.1 (Kd.V_F (Kd.V_mono (ok' := (fun k_ => ((fun k_ => (w.heap.size ≤ k_) ∧ some k_ ≠ (v130 : Value).ownBlock ∧ some k_ ≠ (.slice (some ad152) t136.length co80 : Value).ownBlock ∧ k_ ≠ gb139)) k_ ∧ some k_ ≠ (.slice Ao84 x3_1.length co84 : Value).ownBlock)) (HL152_2.out) (fun k_ hk => ⟨⟨hk.1, ⟨hk.2.2.1, ⟨hk.2.2.2.1, hk.2.2.2.2⟩⟩⟩, hk.2.1⟩))))); (case aB => exact (by repeat (first | (with_reducible first | exact HB.out | apply Zd | apply Zf | apply Ze | refine Zj ?_ GE139.out) | exact HB.out))); (case aF => exact (fun k_ hk => ⟨(Nat.le_trans (Zr (by repeat (first | (with_reducible first | exact HB.out | apply Zd | apply Zf | apply Ze | refine Zj ?_ GE139.out) | exact HB.out))) hk), Kd.fresh' (Kd.N_lt (by (with_reducible repeat (first | apply Kd.Zu | apply Kd.Zv | apply Kd.Zq)); exact HO_5.out)) k_ hk, Kd.fresh' (Kd.N_lt (by (with_reducible repeat (first | apply Kd.Zu | apply Kd.Zv | apply Kd.Zq)); exact HO_6.out)) k_ hk, Kd.freshB (g := gb139) (o := .cells #[.int .u32 ((Zb t136 x8_1).f0), .int .u32 ((Zb t136 x8_1).f1), .slice A152_2 ((Zb t136 x8_1).f2).length c152_2] 35 (0, 0)) (by (with_reducible repeat (first | refine Zo ?_ _ | refine Zm ?_ | refine Zn ?_ _)); exact BK139.out) k_ hk⟩)); (case aO => exact (by (with_reducible repeat (first | apply Kd.Zu | apply Kd.Zv | apply Kd.Zq)); exact HO_3.out)); (case aS => exact (Zr (by repeat (first | (with_reducible first | exact HB.out | apply Zd | apply Zf | apply Ze | refine Zj ?_ GE139.out) | exact HB.out)))); (case aL => have := LMc79.out; omega); intro v154 w86 ho hb hg hat; rw [← Ny153.out] at ho; have n0_ := Za.mk (Kd.N_afterv (ok := (fun k_ => (w.heap.size ≤ k_) ∧ some k_ ≠ (.slice (some ad152) t136.length co80 : Value).ownBlock ∧ k_ ≠ gb139)) (by (with_reducible repeat (first | apply Kd.Zu | apply Kd.Zv | apply Kd.Zq)); exact Kd.Zw HO_5.out (fun _ hk => ⟨⟨hk.1, ⟨hk.2.2.1, hk.2.2.2⟩⟩, hk.2.1⟩)) hg hat); have n1_ := Za.mk (Kd.N_afterv (ok := (fun k_ => (w.heap.size ≤ k_) ∧ some k_ ≠ (v130 : Value).ownBlock ∧ k_ ≠ gb139)) (by (with_reducible repeat (first | apply Kd.Zu | apply Kd.Zv | apply Kd.Zq)); exact Kd.Zw HO_6.out (fun _ hk => ⟨⟨hk.1, ⟨hk.2.2.1, hk.2.2.2⟩⟩, hk.2.1⟩)) hg hat); have n2_ := Za.mk (blk_grown (g := gb139) (o := .cells #[.int .u32 ((Zb t136 x8_1).f0), .int .u32 ((Zb t136 x8_1).f1), .slice A152_2 ((Zb t136 x8_1).f2).length c152_2] 35 (0, 0)) (by (with_reducible repeat (first | refine Zo ?_ _ | refine Zm ?_ | refine Zn ?_ _)); exact BK139.out) hg (Kd.N_away HO_3.out (fun _ hk => hk.2.2.2))); have n3_ := Za.mk (Kd.V_afterv (ok := (fun k_ => (w.heap.size ≤ k_) ∧ some k_ ≠ (v130 : Value).ownBlock ∧ some k_ ≠ (.slice (some ad152) t136.length co80 : Value).ownBlock ∧ k_ ≠ gb139)) (by (with_reducible repeat (first | apply Kd.V_alloc | apply Kd.V_drewN | apply Kd.V_drew)); exact Kd.V_mono HL152_2.out (fun _ hk => ⟨⟨hk.1, ⟨hk.2.2.1, ⟨hk.2.2.2.1, hk.2.2.2.2⟩⟩⟩, hk.2.1⟩)) hg hat); have n4_ := Za.mk (hb); have n5_ := Za.mk (ho); clear HO_5; clear HO_6; clear BK139; clear HL152_2; clear HB; clear HO_3; have HO_5 := n0_; have HO_6 := n1_; have BK139 := n2_; have HL152_2 := n3_; have HB := n4_; have HO155 := n5_; clear n0_ n1_ n2_ n3_ n4_ n5_; clear ho hb hg hat))
                go_roundg kj26
                case measure => have := HK1.out; have := HJ20.out; have := HJ26.out; omega
                case rel => exact ⟨(y153), (x7_1), (wrap64 (x8_1 + 1)), (by first | rfl | (simp; done) | (simp [*]; done)), (by first | rfl | (simp; done) | (simp [*]; done)), H', ⟨by have := HK1.out; have := HJ20.out; have := HJ26.out; omega⟩, ⟨by (with_reducible repeat (first | apply Kd.Zu | apply Kd.Zv | apply Kd.Zq)); exact Kd.Zw HO155.out (fun _ hk => ⟨hk.1, ⟨hk.2.1, hk.2.2.1⟩⟩)⟩, ⟨by (with_reducible repeat (first | apply Kd.Zu | apply Kd.Zv | apply Kd.Zq)); exact Kd.Zw HO_5.out (fun _ hk => ⟨hk.1.1, ⟨hk.2, hk.1.2.1⟩⟩)⟩, ⟨by (with_reducible repeat (first | apply Kd.Zu | apply Kd.Zv | apply Kd.Zq)); exact Kd.Zw HO_6.out (fun _ hk => ⟨hk.1.1, ⟨hk.2, hk.1.2.1⟩⟩)⟩, ⟨by repeat (first | (with_reducible first | exact HB.out | apply Zd | apply Zf | apply Ze | refine Zj ?_ GE139.out) | exact HB.out)⟩⟩
               ·rw [if_neg c79] at H
                exact absurd H (by simp)
              ·rw [if_neg c78] at H
               have c78b0 : ((x3_1.length : Int) == 0) = false := beq_eq_false_iff_ne.mpr c78
               have c78b1 : ((x3_1.length : Int) != 0) = true := bne_iff_ne.mpr c78
               have c78b2 : ¬ (x3_1 = []) := fun h_ => c78 (by rw [h_]; rfl)
               obtain ⟨ji87, hji87⟩ : ∃ j_ : Int, (wrap64 ((x3_1.length : Int) - 1)) = j_ := ⟨_, rfl⟩
               replace H : (if 0 ≤ (ji87) then (if (ji87) < (x3_1.length : Int) then ((Zag.f kj26 ((Zb x3_1 (ji87)).f0) ((Zb x3_1 (ji87)).f1) ((Zb x3_1 (ji87)).f2) ((Zb t136 x8_1).f0) ((Zb t136 x8_1).f1) ((Zb t136 x8_1).f2)).bind fun t157 => (if t157 = 0 then (Zp.l1 kj26 x3_1 t129 t136 x7_1 (wrap64 (x8_1 + 1))) else (if x3_1.length < 4398046511104 then (Zp.l1 kj26 (x3_1 ++ [(⟨(Zb t136 x8_1).f0, (Zb t136 x8_1).f1, (Zb t136 x8_1).f2⟩ : S35)]) t129 t136 x7_1 (wrap64 (x8_1 + 1))) else (none)))) else (none)) else (none)) = some r := by first | (rw [hji87] at H; exact H) | (simp only [hji87] at H ⊢; exact H)
               have hji87w : (IntKind.i64.wrap ((x3_1.length : Int) - 1)) = ji87 := (Zh _).trans hji87
               by_cases c88 : 0 ≤ (ji87)
               ·rw [if_pos c88] at H
                have c88b0 : decide (0 ≤ (ji87)) = true := decide_eq_true c88
                clear c88
                by_cases c89 : (ji87) < (x3_1.length : Int)
                ·rw [if_pos c89] at H
                 have c89b0 : decide ((ji87) < (x3_1.length : Int)) = true := decide_eq_true c89
                 clear c89
                 replace H := Option.bind_eq_some_iff.mp H
                 obtain ⟨t157, A900, H⟩ := H
                 replace H : (if t157 = 0 then (Zp.l1 kj26 x3_1 t129 t136 x7_1 (wrap64 (x8_1 + 1))) else (if x3_1.length < 4398046511104 then (Zp.l1 kj26 (x3_1 ++ [(⟨(Zb t136 x8_1).f0, (Zb t136 x8_1).f1, (Zb t136 x8_1).f2⟩ : S35)]) t129 t136 x7_1 (wrap64 (x8_1 + 1))) else (none))) = some r := H
                 have A90 := Za.mk A900
                 clear A900
                 by_cases c91 : t157 = 0
                 ·rw [if_pos c91] at H
                  have c91b0 : (t157 == 0) = true := beq_iff_eq.mpr c91
                  have c91b1 : (t157 != 0) = false := bne_eq_false_iff_eq.mpr c91
                  clear c91
                  have H' := Za.mk H
                  clear H
                  obtain ⟨Ao92, co92, eo92⟩ := Kd.N_slice HO_6.out
                  subst eo92
                  have p152 : 0 ≤ (x8_1 : Int) := of_decide_eq_true (by assumption)
                  have q152 : x8_1 < (t136.length : Int) := of_decide_eq_true (by assumption)
                  obtain ⟨ad152, A152_2, c152_2, e152, hx152_0, hx152_1, hx152_2, hl152_2, hi152_2⟩ := at_T35 (Kd.Zap HO_6.out).2.2 x8_1 p152 q152
                  cases e152
                  obtain ⟨ce152, hce152, hMe152, hcc152⟩ := Kd.N_get HO_6.out z35 x8_1 p152 (by first | exact q152 | exact of_decide_eq_true (by assumption) | (have e_ := (Kd.Zap HO_6.out).1; omega))
                  obtain ⟨ua152_2, uc152_2, rfl, ul152_2, ge152_2⟩ := k35_openF hMe152
                  have hv152_2 := hcc152 2 _ rfl
                  rw [add_field _ _ 2 (by omega)] at hv152_2
                  replace hv152_2 := Option.some.inj (hv152_2.symm.trans hx152_2)
                  injection hv152_2 with hva_ hvn_ hvc_
                  rw [hva_] at ge152_2
                  rw [hvc_] at ul152_2
                  have HL152_2 := Za.mk (show Kd.V (Kd.int .u64) 42 _ w.heap.size _ _ ((Zb t136 x8_1).f2) from Kd.V_mk ul152_2 ge152_2)
                  clear hva_ hvn_ hvc_ ge152_2 ul152_2
                  clear hcc152 hce152
                  have HR152_2 := Za.mk hi152_2
                  have HC152_2 := Za.mk hl152_2
                  clear hi152_2 hl152_2
                  replace p152 := eq_true p152
                  replace q152 := eq_true q152
                  have hcz93_0 : wc.cell? ⟨gb139, 0, none⟩ = some (.int .u32 0) := (Zc BK139.out 0).trans rfl
                  have hcz93_1 : wc.cell? ⟨gb139, 1, none⟩ = some (.int .u32 0) := (Zc BK139.out 1).trans rfl
                  have hcz93_2 : wc.cell? ⟨gb139, 2, none⟩ = some (.slice none 0 0) := (Zc BK139.out 2).trans rfl
                  have hfz93_0 := Zg BK139.out 0
                  have hfz93_1 := Zg BK139.out 1
                  have hfz93_2 := Zg BK139.out 2
                  try go_wp2
                  have n0_ : Za (Kd.N k35 35 (((wc.setCell ⟨gb139, 0, none⟩ (.int .u32 ((Zb t136 x8_1).f0))).setCell ⟨gb139, 1, none⟩ (.int .u32 ((Zb t136 x8_1).f1))).setCell ⟨gb139, 2, none⟩ (.slice A152_2 ((Zb t136 x8_1).f2).length c152_2)) w.heap.size (fun k_ => (w.heap.size ≤ k_) ∧ some k_ ≠ (v130 : Value).ownBlock ∧ some k_ ≠ (.slice (some ad152) t136.length co92 : Value).ownBlock ∧ k_ ≠ gb139) u3 x3_1) := ⟨by (with_reducible repeat (first | apply Kd.Zu | apply Kd.Zv | apply Kd.Zq)); exact Kd.Zw (Kd.N_far (p := ⟨gb139, 2, none⟩) (Kd.N_far (p := ⟨gb139, 1, none⟩) (Kd.N_far (p := ⟨gb139, 0, none⟩) (Kd.Zw HO_3.out (fun k_ hk => (⟨hk, hk.2.2.2⟩ : _ ∧ k_ ≠ gb139))) (fun _ hk => hk.2) (.int .u32 ((Zb t136 x8_1).f0))) (fun _ hk => hk.2) (.int .u32 ((Zb t136 x8_1).f1))) (fun _ hk => hk.2) (.slice A152_2 ((Zb t136 x8_1).f2).length c152_2)) (fun _ hk => ⟨hk.1.1, ⟨hk.1.2.1, ⟨hk.1.2.2.1, hk.1.2.2.2⟩⟩⟩)⟩
                  have n1_ : Za (Kd.N k35 35 (((wc.setCell ⟨gb139, 0, none⟩ (.int .u32 ((Zb t136 x8_1).f0))).setCell ⟨gb139, 1, none⟩ (.int .u32 ((Zb t136 x8_1).f1))).setCell ⟨gb139, 2, none⟩ (.slice A152_2 ((Zb t136 x8_1).f2).length c152_2)) w.heap.size (fun k_ => (w.heap.size ≤ k_) ∧ some k_ ≠ (u3 : Value).ownBlock ∧ some k_ ≠ (.slice (some ad152) t136.length co92 : Value).ownBlock ∧ k_ ≠ gb139) v130 t129) := ⟨by (with_reducible repeat (first | apply Kd.Zu | apply Kd.Zv | apply Kd.Zq)); exact Kd.Zw (Kd.N_far (p := ⟨gb139, 2, none⟩) (Kd.N_far (p := ⟨gb139, 1, none⟩) (Kd.N_far (p := ⟨gb139, 0, none⟩) (Kd.Zw HO_5.out (fun k_ hk => (⟨hk, hk.2.2.2⟩ : _ ∧ k_ ≠ gb139))) (fun _ hk => hk.2) (.int .u32 ((Zb t136 x8_1).f0))) (fun _ hk => hk.2) (.int .u32 ((Zb t136 x8_1).f1))) (fun _ hk => hk.2) (.slice A152_2 ((Zb t136 x8_1).f2).length c152_2)) (fun _ hk => ⟨hk.1.1, ⟨hk.1.2.1, ⟨hk.1.2.2.1, hk.1.2.2.2⟩⟩⟩)⟩
                  have n2_ : Za (Kd.N k35 35 (((wc.setCell ⟨gb139, 0, none⟩ (.int .u32 ((Zb t136 x8_1).f0))).setCell ⟨gb139, 1, none⟩ (.int .u32 ((Zb t136 x8_1).f1))).setCell ⟨gb139, 2, none⟩ (.slice A152_2 ((Zb t136 x8_1).f2).length c152_2)) w.heap.size (fun k_ => (w.heap.size ≤ k_) ∧ some k_ ≠ (u3 : Value).ownBlock ∧ some k_ ≠ (v130 : Value).ownBlock ∧ k_ ≠ gb139) (.slice (some ad152) t136.length co92) t136) := ⟨by (with_reducible repeat (first | apply Kd.Zu | apply Kd.Zv | apply Kd.Zq)); exact Kd.Zw (Kd.N_far (p := ⟨gb139, 2, none⟩) (Kd.N_far (p := ⟨gb139, 1, none⟩) (Kd.N_far (p := ⟨gb139, 0, none⟩) (Kd.Zw HO_6.out (fun k_ hk => (⟨hk, hk.2.2.2⟩ : _ ∧ k_ ≠ gb139))) (fun _ hk => hk.2) (.int .u32 ((Zb t136 x8_1).f0))) (fun _ hk => hk.2) (.int .u32 ((Zb t136 x8_1).f1))) (fun _ hk => hk.2) (.slice A152_2 ((Zb t136 x8_1).f2).length c152_2)) (fun _ hk => ⟨hk.1.1, ⟨hk.1.2.1, ⟨hk.1.2.2.1, hk.1.2.2.2⟩⟩⟩)⟩
                  have n3_ : Za (Kd.V (Kd.int .u64) 42 (((wc.setCell ⟨gb139, 0, none⟩ (.int .u32 ((Zb t136 x8_1).f0))).setCell ⟨gb139, 1, none⟩ (.int .u32 ((Zb t136 x8_1).f1))).setCell ⟨gb139, 2, none⟩ (.slice A152_2 ((Zb t136 x8_1).f2).length c152_2)) w.heap.size (fun k_ => (w.heap.size ≤ k_) ∧ some k_ ≠ (u3 : Value).ownBlock ∧ some k_ ≠ (v130 : Value).ownBlock ∧ some k_ ≠ (.slice (some ad152) t136.length co92 : Value).ownBlock ∧ k_ ≠ gb139) (.slice A152_2 ((Zb t136 x8_1).f2).length c152_2) ((Zb t136 x8_1).f2)) := ⟨by (with_reducible repeat (first | apply Kd.V_alloc | apply Kd.V_drewN | apply Kd.V_drew)); exact Kd.V_mono (Kd.V_far (p := ⟨gb139, 2, none⟩) (Kd.V_far (p := ⟨gb139, 1, none⟩) (Kd.V_far (p := ⟨gb139, 0, none⟩) (Kd.V_mono HL152_2.out (fun k_ hk => (⟨hk, hk.1.2.2.2⟩ : _ ∧ k_ ≠ gb139))) (fun _ hk => hk.2) (.int .u32 ((Zb t136 x8_1).f0))) (fun _ hk => hk.2) (.int .u32 ((Zb t136 x8_1).f1))) (fun _ hk => hk.2) (.slice A152_2 ((Zb t136 x8_1).f2).length c152_2)) (fun _ hk => ⟨hk.1.1.1, ⟨hk.1.1.2.1, ⟨hk.1.1.2.2.1, ⟨hk.1.2, hk.1.1.2.2.2⟩⟩⟩⟩)⟩
                  have n4_ : Za ((((wc.setCell ⟨gb139, 0, none⟩ (.int .u32 ((Zb t136 x8_1).f0))).setCell ⟨gb139, 1, none⟩ (.int .u32 ((Zb t136 x8_1).f1))).setCell ⟨gb139, 2, none⟩ (.slice A152_2 ((Zb t136 x8_1).f2).length c152_2)).heap[gb139]? = some (.cells #[.int .u32 ((Zb t136 x8_1).f0), .int .u32 ((Zb t136 x8_1).f1), .slice A152_2 ((Zb t136 x8_1).f2).length c152_2] 35 (0, 0))) := ⟨by (with_reducible repeat (first | refine Zo ?_ _ | refine Zm ?_ | refine Zn ?_ _)); refine blk_put (cs := #[.int .u32 ((Zb t136 x8_1).f0), .int .u32 ((Zb t136 x8_1).f1), .slice none 0 0]) ?_ 2 _ rfl; (with_reducible repeat (first | refine Zo ?_ _ | refine Zm ?_ | refine Zn ?_ _)); refine blk_put (cs := #[.int .u32 ((Zb t136 x8_1).f0), .int .u32 0, .slice none 0 0]) ?_ 1 _ rfl; (with_reducible repeat (first | refine Zo ?_ _ | refine Zm ?_ | refine Zn ?_ _)); refine blk_put (cs := #[.int .u32 0, .int .u32 0, .slice none 0 0]) ?_ 0 _ rfl; (with_reducible repeat (first | refine Zo ?_ _ | refine Zm ?_ | refine Zn ?_ _)); exact BK139.out⟩
                  have n5_ : Za (Below w.heap.size w (((wc.setCell ⟨gb139, 0, none⟩ (.int .u32 ((Zb t136 x8_1).f0))).setCell ⟨gb139, 1, none⟩ (.int .u32 ((Zb t136 x8_1).f1))).setCell ⟨gb139, 2, none⟩ (.slice A152_2 ((Zb t136 x8_1).f2).length c152_2))) := ⟨by repeat (first | (with_reducible first | exact HB.out | apply Zd | apply Zf | apply Ze | refine Zj ?_ GE139.out) | exact HB.out)⟩
                  (try clear HO_3)
                  (try clear HO_5)
                  (try clear HO_6)
                  (try clear HL152_2)
                  (try clear BK139)
                  (try clear HB)
                  generalize (((wc.setCell ⟨gb139, 0, none⟩ (.int .u32 ((Zb t136 x8_1).f0))).setCell ⟨gb139, 1, none⟩ (.int .u32 ((Zb t136 x8_1).f1))).setCell ⟨gb139, 2, none⟩ (.slice A152_2 ((Zb t136 x8_1).f2).length c152_2)) = w94 at n0_ n1_ n2_ n3_ n4_ n5_ ⊢
                  have HO_3 := n0_
                  have HO_5 := n1_
                  have HO_6 := n2_
                  have HL152_2 := n3_
                  have BK139 := n4_
                  have HB := n5_
                  clear n0_ n1_ n2_ n3_ n4_ n5_
                  replace HO_3 := Za.mk (Kd.Zq HO_3.out)
                  replace HO_5 := Za.mk (Kd.Zq HO_5.out)
                  replace HO_6 := Za.mk (Kd.Zq HO_6.out)
                  replace HL152_2 := Za.mk (Kd.V_drew HL152_2.out)
                  replace BK139 := Za.mk (Zm BK139.out)
                  replace HB := Za.mk (Ze HB.out)
                  obtain ⟨Ao96, co96, eo96⟩ := Kd.N_slice HO_3.out
                  (first | subst eo96 | (injection eo96 with f1_ f2_ f3_; have f4_ := f1_.symm; have f5_ := f3_.symm; clear f1_ f2_ f3_; subst f4_; subst f5_))
                  have p156 : 0 ≤ ((ji87) : Int) := of_decide_eq_true (by assumption)
                  have q156 : (ji87) < (x3_1.length : Int) := of_decide_eq_true (by assumption)
                  obtain ⟨ad156, A156_2, c156_2, e156, hx156_0, hx156_1, hx156_2, hl156_2, hi156_2⟩ := at_T35 (Kd.Zap HO_3.out).2.2 (ji87) p156 q156
                  cases e156
                  obtain ⟨ce156, hce156, hMe156, hcc156⟩ := Kd.N_get HO_3.out z35 (ji87) p156 (by first | exact q156 | exact of_decide_eq_true (by assumption) | (have e_ := (Kd.Zap HO_3.out).1; omega))
                  obtain ⟨ua156_2, uc156_2, rfl, ul156_2, ge156_2⟩ := k35_openF hMe156
                  have hv156_2 := hcc156 2 _ rfl
                  rw [add_field _ _ 2 (by omega)] at hv156_2
                  replace hv156_2 := Option.some.inj (hv156_2.symm.trans hx156_2)
                  injection hv156_2 with hva_ hvn_ hvc_
                  rw [hva_] at ge156_2
                  rw [hvc_] at ul156_2
                  have HL156_2 := Za.mk (show Kd.V (Kd.int .u64) 42 _ w.heap.size _ _ ((Zb x3_1 (ji87)).f2) from Kd.V_mk ul156_2 ge156_2)
                  clear hva_ hvn_ hvc_ ge156_2 ul156_2
                  clear hcc156 hce156
                  have HR156_2 := Za.mk hi156_2
                  have HC156_2 := Za.mk hl156_2
                  clear hi156_2 hl156_2
                  replace p156 := eq_true p156
                  replace q156 := eq_true q156
                  refine start_ (n := 14) (S := fun w' => w'.cell? ⟨gb139, 0, none⟩ = some (.int .u32 ((Zb t136 x8_1).f0)) ∧ w'.cell? ⟨gb139, 1, none⟩ = some (.int .u32 ((Zb t136 x8_1).f1)) ∧ w'.cell? ⟨gb139, 2, none⟩ = some (.slice A152_2 ((Zb t136 x8_1).f2).length c152_2) ∧ w'.cell? (ad156.add (((ji87)).toNat * 3)) = some (.int .u32 ((Zb x3_1 (ji87)).f0)) ∧ w'.cell? ⟨(ad156.add (((ji87)).toNat * 3)).block, (ad156.add (((ji87)).toNat * 3)).off + 1, none⟩ = some (.int .u32 ((Zb x3_1 (ji87)).f1)) ∧ w'.cell? ⟨(ad156.add (((ji87)).toNat * 3)).block, (ad156.add (((ji87)).toNat * 3)).off + 2, none⟩ = some (.slice A156_2 ((Zb x3_1 (ji87)).f2).length c156_2)) (ds := []) #[false, false, false, false, false, false, false, false, false, false, false, false, false, false] (by kernel_rfl) rfl rfl ⟨(Zc BK139.out 0).trans rfl, (Zc BK139.out 1).trans rfl, (Zc BK139.out 2).trans rfl, hx156_0, hx156_1, hx156_2⟩ (fun hHeld => ?_); refine with_tabW Zp.tab19 Zp.bits19 (fun HT_ HW_ => ?_)
                  generalize w94.drew = w95 at HO_3 HO_5 HO_6 HL152_2 BK139 HB HL156_2 HR156_2 hx156_0 hx156_1 hx156_2 hHeld ⊢
                  refine Zk (i := 0) (N := some 84) (v := ?_) (a' := ?_) #[true, false, false, false, false, false, false, false, false, false, false, false, false, false] rfl rfl (Zl HT_.out (by kernel_rfl)) (fun _ _ _ h => h) (Or.inl ⟨by rfl, ?_⟩) ?_ ?_
                  rotate_left
                  ·intro w'
                   go_simp
                   with_reducible rfl
                  rotate_left
                  ·simp only [Act.put, ZD, ZE, ZF, Zh, Zi]
                   rfl
                  refine Zk (i := 1) (N := some 85) (v := ?_) (a' := ?_) #[true, true, false, false, false, false, false, false, false, false, false, false, false, false] rfl rfl (Zl HT_.out (by kernel_rfl)) (fun _ _ _ h => h) (Or.inl ⟨by rfl, ?_⟩) ?_ ?_
                  rotate_left
                  ·intro w'
                   go_simp
                   with_reducible rfl
                  rotate_left
                  ·simp only [Act.put, ZD, ZE, ZF, Zh, Zi]
                   rfl
                  refine Zk (i := 2) (N := some 86) (v := ?_) (a' := ?_) #[true, true, true, false, false, false, false, false, false, false, false, false, false, false] rfl rfl (Zl HT_.out (by kernel_rfl)) (fun _ _ _ h => h) (Or.inl ⟨by rfl, ?_⟩) ?_ ?_
                  rotate_left
                  ·intro w'
                   go_simp
                   with_reducible rfl
                  rotate_left
                  ·simp only [Act.put, ZD, ZE, ZF, Zh, Zi]
                   rfl
                  refine Zk (i := 3) (N := some 87) (v := ?_) (a' := ?_) #[true, true, true, true, false, false, false, false, false, false, false, false, false, false] rfl rfl (Zl HT_.out (by kernel_rfl)) (fun _ _ _ h => h) (Or.inl ⟨by rfl, ?_⟩) ?_ ?_
                  rotate_left
                  ·intro w'
                   go_simp
                   with_reducible rfl
                  rotate_left
                  ·simp only [Act.put, ZD, ZE, ZF, Zh, Zi]
                   rfl
                  refine Zk (i := 4) (N := some 88) (v := ?_) (a' := ?_) #[true, true, true, true, true, false, false, false, false, false, false, false, false, false] rfl rfl (Zl HT_.out (by kernel_rfl)) (fun _ _ _ h => h) (Or.inl ⟨by rfl, ?_⟩) ?_ ?_
                  rotate_left
                  ·intro w'
                   go_simp
                   with_reducible rfl
                  rotate_left
                  ·simp only [Act.put, ZD, ZE, ZF, Zh, Zi]
                   rfl
                  refine Zk (i := 5) (N := some 89) (v := ?_) (a' := ?_) #[true, true, true, true, true, true, false, false, false, false, false, false, false, false] rfl rfl (Zl HT_.out (by kernel_rfl)) (fun _ _ _ h => h) (Or.inl ⟨by rfl, ?_⟩) ?_ ?_
                  rotate_left
                  ·intro w'
                   go_simp
                   with_reducible rfl
                  rotate_left
                  ·simp only [Act.put, ZD, ZE, ZF, Zh, Zi]
                   rfl
                  refine Zk (i := 6) (N := some 90) (v := ?_) (a' := ?_) #[true, true, true, true, true, true, true, false, false, false, false, false, false, false] rfl rfl (Zl HT_.out (by kernel_rfl)) (fun _ _ _ h => h) (Or.inl ⟨by rfl, ?_⟩) ?_ ?_
                  rotate_left
                  ·intro w'
                   go_simp
                   with_reducible rfl
                  rotate_left
                  ·simp only [Act.put, ZD, ZE, ZF, Zh, Zi]
                   rfl
                  refine Zk (i := 7) (N := some 91) (v := ?_) (a' := ?_) #[true, true, true, true, true, true, true, true, false, false, false, false, false, false] rfl rfl (Zl HT_.out (by kernel_rfl)) (fun _ _ _ h => h) (Or.inl ⟨by rfl, ?_⟩) ?_ ?_
                  rotate_left
                  ·intro w'
                   go_simp
                   with_reducible rfl
                  rotate_left
                  ·simp only [Act.put, ZD, ZE, ZF, Zh, Zi]
                   rfl
                  refine Zk (i := 8) (N := some 92) (v := ?_) (a' := ?_) #[true, true, true, true, true, true, true, true, true, false, false, false, false, false] rfl rfl (Zl HT_.out (by kernel_rfl)) (fun _ _ _ h => h) (Or.inl ⟨by rfl, ?_⟩) ?_ ?_
                  rotate_left
                  ·intro w'
                   go_simp
                   with_reducible rfl
                  rotate_left
                  ·simp only [Act.put, ZD, ZE, ZF, Zh, Zi]
                   rfl
                  refine take_ (i := 9) (N := some 93) (v := ?_) (a' := ?_) #[true, true, true, true, true, true, true, true, true, true, false, false, false, false] rfl rfl (take_ofW HT_.out HW_.out (by kernel_rfl)) (fun _ _ _ h => h) (Or.inl ⟨by rfl, ?_⟩) hHeld ?_ ?_
                  rotate_left
                  ·rintro w' ⟨s0, s1, s2, s3, s4, s5⟩
                   go_simp
                   with_reducible rfl
                  rotate_left
                  ·simp only [Act.put, ZD, ZE, ZF, Zh, Zi]
                   rfl
                  refine take_ (i := 10) (N := some 94) (v := ?_) (a' := ?_) #[true, true, true, true, true, true, true, true, true, true, true, false, false, false] rfl rfl (take_ofW HT_.out HW_.out (by kernel_rfl)) (fun _ _ _ h => h) (Or.inl ⟨by rfl, ?_⟩) hHeld ?_ ?_
                  rotate_left
                  ·rintro w' ⟨s0, s1, s2, s3, s4, s5⟩
                   go_simp
                   with_reducible rfl
                  rotate_left
                  ·simp only [Act.put, ZD, ZE, ZF, Zh, Zi]
                   rfl
                  refine one_ (i := 11) (N := some 95) #[true, true, true, true, true, true, true, true, true, true, true, true, false, false] rfl rfl (one_of HT_.out (by kernel_rfl)) (by decide) (fun K hK => ?_)
                  refine goes_ Try.func13 (by kernel_rfl) rfl #[.agg #[.int .u32 ((Zb x3_1 (ji87)).f0), .int .u32 ((Zb x3_1 (ji87)).f1), .slice A156_2 ((Zb x3_1 (ji87)).f2).length c156_2], .agg #[.int .u32 ((Zb t136 x8_1).f0), .int .u32 ((Zb t136 x8_1).f1), .slice A152_2 ((Zb t136 x8_1).f2).length c152_2]] (by rfl) rfl rfl (by (try simp only [List.map_toArray, List.map_cons, List.map_nil]); first | done | (simp only [hji87]; rfl) | rfl | (simp only [List.length_drop, List.length_take]; rfl)) ?_
                  with_reducible refine (Zag.calls kj26 ((Zb x3_1 (ji87)).f0) ((Zb x3_1 (ji87)).f1) _ _ ((Zb x3_1 (ji87)).f2) ((Zb t136 x8_1).f0) ((Zb t136 x8_1).f1) _ _ ((Zb t136 x8_1).f2) t157 _ ?side1 ?side2 ?side3 ?side4 A90.out).mono ?_
                  (case side1 => repeat (first | exact (by repeat (first | (with_reducible exact HR156_2.out) | (with_reducible refine Kd.Zac ?_ _) | (with_reducible refine Kd.Zaf ?_ _) | (with_reducible refine Kd.Zae ?_) | exact HR156_2.out)) | (with_reducible refine Kd.Zac ?_ _) | (with_reducible refine Kd.Zaf ?_ _) | (with_reducible refine Kd.Zae ?_)))
                  (case side2 => exact HC156_2.out)
                  (case side3 => repeat (first | exact ((Kd.V_reads' (by (with_reducible repeat (first | apply Kd.V_alloc | apply Kd.V_drewN | apply Kd.V_drew)); exact HL152_2.out)).2.2) | (with_reducible refine Kd.Zac ?_ _) | (with_reducible refine Kd.Zaf ?_ _) | (with_reducible refine Kd.Zae ?_)))
                  (case side4 => exact HC152_2.out)
                  rintro e w97 ⟨rfl, hb⟩
                  have HS3_ := (hb.cell (World.block_lt_of_cell? _ _ (hHeld.2.2.2.1))).trans (hHeld.2.2.2.1)
                  have HS4_ := (hb.cell (World.block_lt_of_cell? _ _ (hHeld.2.2.2.2.1))).trans (hHeld.2.2.2.2.1)
                  have HS5_ := (hb.cell (World.block_lt_of_cell? _ _ (hHeld.2.2.2.2.2))).trans (hHeld.2.2.2.2.2)
                  refine ⟨_, rfl, ?_⟩
                  replace HO_3 := Za.mk (Kd.Zan (by (with_reducible repeat (first | apply Kd.Zu | apply Kd.Zv | apply Kd.Zq)); exact HO_3.out) hb)
                  replace HO_5 := Za.mk (Kd.Zan (by (with_reducible repeat (first | apply Kd.Zu | apply Kd.Zv | apply Kd.Zq)); exact HO_5.out) hb)
                  replace HO_6 := Za.mk (Kd.Zan (by (with_reducible repeat (first | apply Kd.Zu | apply Kd.Zv | apply Kd.Zq)); exact HO_6.out) hb)
                  replace HL152_2 := Za.mk (Kd.V_below (by (with_reducible repeat (first | apply Kd.V_alloc | apply Kd.V_drewN | apply Kd.V_drew)); exact HL152_2.out) hb)
                  replace HL156_2 := Za.mk (Kd.V_below (by (with_reducible repeat (first | apply Kd.V_alloc | apply Kd.V_drewN | apply Kd.V_drew)); exact HL156_2.out) hb)
                  replace BK139 := Za.mk (Zak (g := gb139) (o := .cells #[.int .u32 ((Zb t136 x8_1).f0), .int .u32 ((Zb t136 x8_1).f1), .slice A152_2 ((Zb t136 x8_1).f2).length c152_2] 35 (0, 0)) (by (with_reducible repeat (first | refine Zo ?_ _ | refine Zm ?_ | refine Zn ?_ _)); exact BK139.out) hb)
                  replace HR156_2 := Za.mk (Kd.Zah (by repeat (first | (with_reducible exact HR156_2.out) | (with_reducible refine Kd.Zac ?_ _) | (with_reducible refine Kd.Zaf ?_ _) | (with_reducible refine Kd.Zae ?_) | exact HR156_2.out)) hb)
                  replace HB := Za.mk (Zx (by repeat (first | (with_reducible first | exact HB.out | apply Zd | apply Zf | apply Ze | refine Zj ?_ GE139.out) | exact HB.out)) hb)
                  (try clear hb)
                  (try clear hb2)
                  (try clear hk)
                  (try clear hi)
                  refine hK.out _ _ ⟨(Zc BK139.out 0).trans rfl, (Zc BK139.out 1).trans rfl, (Zc BK139.out 2).trans rfl, HS3_, HS4_, HS5_⟩ (fun hHeld => ?_)
                  clear hK K
                  refine norm_ (a' := ?_) ?_ ?_
                  rotate_left
                  ·show Act.put _ (some 95) _ = _
                   simp only [Act.put, ZD, ZE, ZF, Zh, Zi]
                   rfl
                  refine Zk (i := 12) (N := some 96) (v := ?_) (a' := ?_) #[true, true, true, true, true, true, true, true, true, true, true, true, true, false] rfl rfl (Zl HT_.out (by kernel_rfl)) (fun _ _ _ h => h) (Or.inl ⟨by rfl, ?_⟩) ?_ ?_
                  rotate_left
                  ·intro w'
                   go_simp
                   with_reducible rfl
                  rotate_left
                  ·simp only [Act.put, ZD, ZE, ZF, Zh, Zi]
                   rfl
                  refine Zk (i := 13) (N := some 97) (v := ?_) (a' := ?_) #[true, true, true, true, true, true, true, true, true, true, true, true, true, true] rfl rfl (Zl HT_.out (by kernel_rfl)) (fun _ _ _ h => h) (Or.inl ⟨by rfl, ?_⟩) ?_ ?_
                  rotate_left
                  ·intro w'
                   go_simp
                   with_reducible rfl
                  rotate_left
                  ·simp only [Act.put, ZD, ZE, ZF, Zh, Zi]
                   rfl
                  refine done_ (done_of HT_.out (by kernel_rfl)) ?_
                  try go_wp2
                  go_roundg kj26
                  case measure => have := HK1.out; have := HJ20.out; have := HJ26.out; omega
                  case rel => exact ⟨(x3_1), (x7_1), (wrap64 (x8_1 + 1)), (by first | rfl | (simp; done) | (simp [*]; done)), (by first | rfl | (simp; done) | (simp [*]; done)), H', ⟨by have := HK1.out; have := HJ20.out; have := HJ26.out; omega⟩, ⟨by (with_reducible repeat (first | apply Kd.Zu | apply Kd.Zv | apply Kd.Zq)); exact Kd.Zw HO_3.out (fun _ hk => ⟨hk.1, ⟨hk.2.1, hk.2.2.1⟩⟩)⟩, ⟨by (with_reducible repeat (first | apply Kd.Zu | apply Kd.Zv | apply Kd.Zq)); exact Kd.Zw HO_5.out (fun _ hk => ⟨hk.1, ⟨hk.2.1, hk.2.2.1⟩⟩)⟩, ⟨by (with_reducible repeat (first | apply Kd.Zu | apply Kd.Zv | apply Kd.Zq)); exact Kd.Zw HO_6.out (fun _ hk => ⟨hk.1, ⟨hk.2.1, hk.2.2.1⟩⟩)⟩, ⟨by repeat (first | (with_reducible first | exact HB.out | apply Zd | apply Zf | apply Ze | refine Zj ?_ GE139.out) | exact HB.out)⟩⟩
                 ·rw [if_neg c91] at H
                  have c91b0 : (t157 == 0) = false := beq_eq_false_iff_ne.mpr c91
                  have c91b1 : (t157 != 0) = true := bne_iff_ne.mpr c91
                  by_cases c98 : x3_1.length < 4398046511104
                  ·rw [if_pos c98] at H
                   have LMc98 := Za.mk c98
                   clear c98
                   obtain ⟨y158, hy158⟩ : ∃ y_ : List (S35), y_ = (x3_1 ++ [(⟨(Zb t136 x8_1).f0, (Zb t136 x8_1).f1, (Zb t136 x8_1).f2⟩ : S35)]) := ⟨_, rfl⟩
                   replace H : (Zp.l1 kj26 y158 t129 t136 x7_1 (wrap64 (x8_1 + 1))) = some r := by first | (rw [hy158]; with_reducible exact H) | (have H2_ := (Option.bind_some _ _).symm.trans H; rw [hy158]; with_reducible exact H2_) | (have H2_ := (Option.bind_some _ _).symm.trans H; with_reducible exact H2_) | with_reducible exact H | (rw [hy158]; exact H) | exact H
                   have Ny158 := Za.mk hy158
                   clear hy158
                   have H' := Za.mk H
                   clear H
                   obtain ⟨Ao99, co99, eo99⟩ := Kd.N_slice HO_6.out
                   subst eo99
                   have p152 : 0 ≤ (x8_1 : Int) := of_decide_eq_true (by assumption)
                   have q152 : x8_1 < (t136.length : Int) := of_decide_eq_true (by assumption)
                   obtain ⟨ad152, A152_2, c152_2, e152, hx152_0, hx152_1, hx152_2, hl152_2, hi152_2⟩ := at_T35 (Kd.Zap HO_6.out).2.2 x8_1 p152 q152
                   cases e152
                   obtain ⟨ce152, hce152, hMe152, hcc152⟩ := Kd.N_get HO_6.out z35 x8_1 p152 (by first | exact q152 | exact of_decide_eq_true (by assumption) | (have e_ := (Kd.Zap HO_6.out).1; omega))
                   obtain ⟨ua152_2, uc152_2, rfl, ul152_2, ge152_2⟩ := k35_openF hMe152
                   have hv152_2 := hcc152 2 _ rfl
                   rw [add_field _ _ 2 (by omega)] at hv152_2
                   replace hv152_2 := Option.some.inj (hv152_2.symm.trans hx152_2)
                   injection hv152_2 with hva_ hvn_ hvc_
                   rw [hva_] at ge152_2
                   rw [hvc_] at ul152_2
                   have HL152_2 := Za.mk (show Kd.V (Kd.int .u64) 42 _ w.heap.size _ _ ((Zb t136 x8_1).f2) from Kd.V_mk ul152_2 ge152_2)
                   clear hva_ hvn_ hvc_ ge152_2 ul152_2
                   clear hcc152 hce152
                   have HR152_2 := Za.mk hi152_2
                   have HC152_2 := Za.mk hl152_2
                   clear hi152_2 hl152_2
                   replace p152 := eq_true p152
                   replace q152 := eq_true q152
                   have hcz100_0 : wc.cell? ⟨gb139, 0, none⟩ = some (.int .u32 0) := (Zc BK139.out 0).trans rfl
                   have hcz100_1 : wc.cell? ⟨gb139, 1, none⟩ = some (.int .u32 0) := (Zc BK139.out 1).trans rfl
                   have hcz100_2 : wc.cell? ⟨gb139, 2, none⟩ = some (.slice none 0 0) := (Zc BK139.out 2).trans rfl
                   have hfz100_0 := Zg BK139.out 0
                   have hfz100_1 := Zg BK139.out 1
                   have hfz100_2 := Zg BK139.out 2
                   try go_wp2
                   have n0_ : Za (Kd.N k35 35 (((wc.setCell ⟨gb139, 0, none⟩ (.int .u32 ((Zb t136 x8_1).f0))).setCell ⟨gb139, 1, none⟩ (.int .u32 ((Zb t136 x8_1).f1))).setCell ⟨gb139, 2, none⟩ (.slice A152_2 ((Zb t136 x8_1).f2).length c152_2)) w.heap.size (fun k_ => (w.heap.size ≤ k_) ∧ some k_ ≠ (v130 : Value).ownBlock ∧ some k_ ≠ (.slice (some ad152) t136.length co99 : Value).ownBlock ∧ k_ ≠ gb139) u3 x3_1) := ⟨by (with_reducible repeat (first | apply Kd.Zu | apply Kd.Zv | apply Kd.Zq)); exact Kd.Zw (Kd.N_far (p := ⟨gb139, 2, none⟩) (Kd.N_far (p := ⟨gb139, 1, none⟩) (Kd.N_far (p := ⟨gb139, 0, none⟩) (Kd.Zw HO_3.out (fun k_ hk => (⟨hk, hk.2.2.2⟩ : _ ∧ k_ ≠ gb139))) (fun _ hk => hk.2) (.int .u32 ((Zb t136 x8_1).f0))) (fun _ hk => hk.2) (.int .u32 ((Zb t136 x8_1).f1))) (fun _ hk => hk.2) (.slice A152_2 ((Zb t136 x8_1).f2).length c152_2)) (fun _ hk => ⟨hk.1.1, ⟨hk.1.2.1, ⟨hk.1.2.2.1, hk.1.2.2.2⟩⟩⟩)⟩
                   have n1_ : Za (Kd.N k35 35 (((wc.setCell ⟨gb139, 0, none⟩ (.int .u32 ((Zb t136 x8_1).f0))).setCell ⟨gb139, 1, none⟩ (.int .u32 ((Zb t136 x8_1).f1))).setCell ⟨gb139, 2, none⟩ (.slice A152_2 ((Zb t136 x8_1).f2).length c152_2)) w.heap.size (fun k_ => (w.heap.size ≤ k_) ∧ some k_ ≠ (u3 : Value).ownBlock ∧ some k_ ≠ (.slice (some ad152) t136.length co99 : Value).ownBlock ∧ k_ ≠ gb139) v130 t129) := ⟨by (with_reducible repeat (first | apply Kd.Zu | apply Kd.Zv | apply Kd.Zq)); exact Kd.Zw (Kd.N_far (p := ⟨gb139, 2, none⟩) (Kd.N_far (p := ⟨gb139, 1, none⟩) (Kd.N_far (p := ⟨gb139, 0, none⟩) (Kd.Zw HO_5.out (fun k_ hk => (⟨hk, hk.2.2.2⟩ : _ ∧ k_ ≠ gb139))) (fun _ hk => hk.2) (.int .u32 ((Zb t136 x8_1).f0))) (fun _ hk => hk.2) (.int .u32 ((Zb t136 x8_1).f1))) (fun _ hk => hk.2) (.slice A152_2 ((Zb t136 x8_1).f2).length c152_2)) (fun _ hk => ⟨hk.1.1, ⟨hk.1.2.1, ⟨hk.1.2.2.1, hk.1.2.2.2⟩⟩⟩)⟩
                   have n2_ : Za (Kd.N k35 35 (((wc.setCell ⟨gb139, 0, none⟩ (.int .u32 ((Zb t136 x8_1).f0))).setCell ⟨gb139, 1, none⟩ (.int .u32 ((Zb t136 x8_1).f1))).setCell ⟨gb139, 2, none⟩ (.slice A152_2 ((Zb t136 x8_1).f2).length c152_2)) w.heap.size (fun k_ => (w.heap.size ≤ k_) ∧ some k_ ≠ (u3 : Value).ownBlock ∧ some k_ ≠ (v130 : Value).ownBlock ∧ k_ ≠ gb139) (.slice (some ad152) t136.length co99) t136) := ⟨by (with_reducible repeat (first | apply Kd.Zu | apply Kd.Zv | apply Kd.Zq)); exact Kd.Zw (Kd.N_far (p := ⟨gb139, 2, none⟩) (Kd.N_far (p := ⟨gb139, 1, none⟩) (Kd.N_far (p := ⟨gb139, 0, none⟩) (Kd.Zw HO_6.out (fun k_ hk => (⟨hk, hk.2.2.2⟩ : _ ∧ k_ ≠ gb139))) (fun _ hk => hk.2) (.int .u32 ((Zb t136 x8_1).f0))) (fun _ hk => hk.2) (.int .u32 ((Zb t136 x8_1).f1))) (fun _ hk => hk.2) (.slice A152_2 ((Zb t136 x8_1).f2).length c152_2)) (fun _ hk => ⟨hk.1.1, ⟨hk.1.2.1, ⟨hk.1.2.2.1, hk.1.2.2.2⟩⟩⟩)⟩
                   have n3_ : Za (Kd.V (Kd.int .u64) 42 (((wc.setCell ⟨gb139, 0, none⟩ (.int .u32 ((Zb t136 x8_1).f0))).setCell ⟨gb139, 1, none⟩ (.int .u32 ((Zb t136 x8_1).f1))).setCell ⟨gb139, 2, none⟩ (.slice A152_2 ((Zb t136 x8_1).f2).length c152_2)) w.heap.size (fun k_ => (w.heap.size ≤ k_) ∧ some k_ ≠ (u3 : Value).ownBlock ∧ some k_ ≠ (v130 : Value).ownBlock ∧ some k_ ≠ (.slice (some ad152) t136.length co99 : Value).ownBlock ∧ k_ ≠ gb139) (.slice A152_2 ((Zb t136 x8_1).f2).length c152_2) ((Zb t136 x8_1).f2)) := ⟨by (with_reducible repeat (first | apply Kd.V_alloc | apply Kd.V_drewN | apply Kd.V_drew)); exact Kd.V_mono (Kd.V_far (p := ⟨gb139, 2, none⟩) (Kd.V_far (p := ⟨gb139, 1, none⟩) (Kd.V_far (p := ⟨gb139, 0, none⟩) (Kd.V_mono HL152_2.out (fun k_ hk => (⟨hk, hk.1.2.2.2⟩ : _ ∧ k_ ≠ gb139))) (fun _ hk => hk.2) (.int .u32 ((Zb t136 x8_1).f0))) (fun _ hk => hk.2) (.int .u32 ((Zb t136 x8_1).f1))) (fun _ hk => hk.2) (.slice A152_2 ((Zb t136 x8_1).f2).length c152_2)) (fun _ hk => ⟨hk.1.1.1, ⟨hk.1.1.2.1, ⟨hk.1.1.2.2.1, ⟨hk.1.2, hk.1.1.2.2.2⟩⟩⟩⟩)⟩
                   have n4_ : Za ((((wc.setCell ⟨gb139, 0, none⟩ (.int .u32 ((Zb t136 x8_1).f0))).setCell ⟨gb139, 1, none⟩ (.int .u32 ((Zb t136 x8_1).f1))).setCell ⟨gb139, 2, none⟩ (.slice A152_2 ((Zb t136 x8_1).f2).length c152_2)).heap[gb139]? = some (.cells #[.int .u32 ((Zb t136 x8_1).f0), .int .u32 ((Zb t136 x8_1).f1), .slice A152_2 ((Zb t136 x8_1).f2).length c152_2] 35 (0, 0))) := ⟨by (with_reducible repeat (first | refine Zo ?_ _ | refine Zm ?_ | refine Zn ?_ _)); refine blk_put (cs := #[.int .u32 ((Zb t136 x8_1).f0), .int .u32 ((Zb t136 x8_1).f1), .slice none 0 0]) ?_ 2 _ rfl; (with_reducible repeat (first | refine Zo ?_ _ | refine Zm ?_ | refine Zn ?_ _)); refine blk_put (cs := #[.int .u32 ((Zb t136 x8_1).f0), .int .u32 0, .slice none 0 0]) ?_ 1 _ rfl; (with_reducible repeat (first | refine Zo ?_ _ | refine Zm ?_ | refine Zn ?_ _)); refine blk_put (cs := #[.int .u32 0, .int .u32 0, .slice none 0 0]) ?_ 0 _ rfl; (with_reducible repeat (first | refine Zo ?_ _ | refine Zm ?_ | refine Zn ?_ _)); exact BK139.out⟩
                   have n5_ : Za (Below w.heap.size w (((wc.setCell ⟨gb139, 0, none⟩ (.int .u32 ((Zb t136 x8_1).f0))).setCell ⟨gb139, 1, none⟩ (.int .u32 ((Zb t136 x8_1).f1))).setCell ⟨gb139, 2, none⟩ (.slice A152_2 ((Zb t136 x8_1).f2).length c152_2))) := ⟨by repeat (first | (with_reducible first | exact HB.out | apply Zd | apply Zf | apply Ze | refine Zj ?_ GE139.out) | exact HB.out)⟩
                   (try clear HO_3)
                   (try clear HO_5)
                   (try clear HO_6)
                   (try clear HL152_2)
                   (try clear BK139)
                   (try clear HB)
                   generalize (((wc.setCell ⟨gb139, 0, none⟩ (.int .u32 ((Zb t136 x8_1).f0))).setCell ⟨gb139, 1, none⟩ (.int .u32 ((Zb t136 x8_1).f1))).setCell ⟨gb139, 2, none⟩ (.slice A152_2 ((Zb t136 x8_1).f2).length c152_2)) = w101 at n0_ n1_ n2_ n3_ n4_ n5_ ⊢
                   have HO_3 := n0_
                   have HO_5 := n1_
                   have HO_6 := n2_
                   have HL152_2 := n3_
                   have BK139 := n4_
                   have HB := n5_
                   clear n0_ n1_ n2_ n3_ n4_ n5_
                   replace HO_3 := Za.mk (Kd.Zq HO_3.out)
                   replace HO_5 := Za.mk (Kd.Zq HO_5.out)
                   replace HO_6 := Za.mk (Kd.Zq HO_6.out)
                   replace HL152_2 := Za.mk (Kd.V_drew HL152_2.out)
                   replace BK139 := Za.mk (Zm BK139.out)
                   replace HB := Za.mk (Ze HB.out)
                   obtain ⟨Ao103, co103, eo103⟩ := Kd.N_slice HO_3.out
                   (first | subst eo103 | (injection eo103 with f1_ f2_ f3_; have f4_ := f1_.symm; have f5_ := f3_.symm; clear f1_ f2_ f3_; subst f4_; subst f5_))
                   have p156 : 0 ≤ ((ji87) : Int) := of_decide_eq_true (by assumption)
                   have q156 : (ji87) < (x3_1.length : Int) := of_decide_eq_true (by assumption)
                   obtain ⟨ad156, A156_2, c156_2, e156, hx156_0, hx156_1, hx156_2, hl156_2, hi156_2⟩ := at_T35 (Kd.Zap HO_3.out).2.2 (ji87) p156 q156
                   cases e156
                   obtain ⟨ce156, hce156, hMe156, hcc156⟩ := Kd.N_get HO_3.out z35 (ji87) p156 (by first | exact q156 | exact of_decide_eq_true (by assumption) | (have e_ := (Kd.Zap HO_3.out).1; omega))
                   obtain ⟨ua156_2, uc156_2, rfl, ul156_2, ge156_2⟩ := k35_openF hMe156
                   have hv156_2 := hcc156 2 _ rfl
                   rw [add_field _ _ 2 (by omega)] at hv156_2
                   replace hv156_2 := Option.some.inj (hv156_2.symm.trans hx156_2)
                   injection hv156_2 with hva_ hvn_ hvc_
                   rw [hva_] at ge156_2
                   rw [hvc_] at ul156_2
                   have HL156_2 := Za.mk (show Kd.V (Kd.int .u64) 42 _ w.heap.size _ _ ((Zb x3_1 (ji87)).f2) from Kd.V_mk ul156_2 ge156_2)
                   clear hva_ hvn_ hvc_ ge156_2 ul156_2
                   clear hcc156 hce156
                   have HR156_2 := Za.mk hi156_2
                   have HC156_2 := Za.mk hl156_2
                   clear hi156_2 hl156_2
                   replace p156 := eq_true p156
                   replace q156 := eq_true q156
                   refine start_ (n := 14) (S := fun w' => w'.cell? ⟨gb139, 0, none⟩ = some (.int .u32 ((Zb t136 x8_1).f0)) ∧ w'.cell? ⟨gb139, 1, none⟩ = some (.int .u32 ((Zb t136 x8_1).f1)) ∧ w'.cell? ⟨gb139, 2, none⟩ = some (.slice A152_2 ((Zb t136 x8_1).f2).length c152_2) ∧ w'.cell? (ad156.add (((ji87)).toNat * 3)) = some (.int .u32 ((Zb x3_1 (ji87)).f0)) ∧ w'.cell? ⟨(ad156.add (((ji87)).toNat * 3)).block, (ad156.add (((ji87)).toNat * 3)).off + 1, none⟩ = some (.int .u32 ((Zb x3_1 (ji87)).f1)) ∧ w'.cell? ⟨(ad156.add (((ji87)).toNat * 3)).block, (ad156.add (((ji87)).toNat * 3)).off + 2, none⟩ = some (.slice A156_2 ((Zb x3_1 (ji87)).f2).length c156_2)) (ds := []) #[false, false, false, false, false, false, false, false, false, false, false, false, false, false] (by kernel_rfl) rfl rfl ⟨(Zc BK139.out 0).trans rfl, (Zc BK139.out 1).trans rfl, (Zc BK139.out 2).trans rfl, hx156_0, hx156_1, hx156_2⟩ (fun hHeld => ?_); refine with_tabW Zp.tab19 Zp.bits19 (fun HT_ HW_ => ?_)
                   generalize w101.drew = w102 at HO_3 HO_5 HO_6 HL152_2 BK139 HB HL156_2 HR156_2 hx156_0 hx156_1 hx156_2 hHeld ⊢
                   refine Zk (i := 0) (N := some 84) (v := ?_) (a' := ?_) #[true, false, false, false, false, false, false, false, false, false, false, false, false, false] rfl rfl (Zl HT_.out (by kernel_rfl)) (fun _ _ _ h => h) (Or.inl ⟨by rfl, ?_⟩) ?_ ?_
                   rotate_left
                   ·intro w'
                    go_simp
                    with_reducible rfl
                   rotate_left
                   ·simp only [Act.put, ZD, ZE, ZF, Zh, Zi]
                    rfl
                   refine Zk (i := 1) (N := some 85) (v := ?_) (a' := ?_) #[true, true, false, false, false, false, false, false, false, false, false, false, false, false] rfl rfl (Zl HT_.out (by kernel_rfl)) (fun _ _ _ h => h) (Or.inl ⟨by rfl, ?_⟩) ?_ ?_
                   rotate_left
                   ·intro w'
                    go_simp
                    with_reducible rfl
                   rotate_left
                   ·simp only [Act.put, ZD, ZE, ZF, Zh, Zi]
                    rfl
                   refine Zk (i := 2) (N := some 86) (v := ?_) (a' := ?_) #[true, true, true, false, false, false, false, false, false, false, false, false, false, false] rfl rfl (Zl HT_.out (by kernel_rfl)) (fun _ _ _ h => h) (Or.inl ⟨by rfl, ?_⟩) ?_ ?_
                   rotate_left
                   ·intro w'
                    go_simp
                    with_reducible rfl
                   rotate_left
                   ·simp only [Act.put, ZD, ZE, ZF, Zh, Zi]
                    rfl
                   refine Zk (i := 3) (N := some 87) (v := ?_) (a' := ?_) #[true, true, true, true, false, false, false, false, false, false, false, false, false, false] rfl rfl (Zl HT_.out (by kernel_rfl)) (fun _ _ _ h => h) (Or.inl ⟨by rfl, ?_⟩) ?_ ?_
                   rotate_left
                   ·intro w'
                    go_simp
                    with_reducible rfl
                   rotate_left
                   ·simp only [Act.put, ZD, ZE, ZF, Zh, Zi]
                    rfl
                   refine Zk (i := 4) (N := some 88) (v := ?_) (a' := ?_) #[true, true, true, true, true, false, false, false, false, false, false, false, false, false] rfl rfl (Zl HT_.out (by kernel_rfl)) (fun _ _ _ h => h) (Or.inl ⟨by rfl, ?_⟩) ?_ ?_
                   rotate_left
                   ·intro w'
                    go_simp
                    with_reducible rfl
                   rotate_left
                   ·simp only [Act.put, ZD, ZE, ZF, Zh, Zi]
                    rfl
                   refine Zk (i := 5) (N := some 89) (v := ?_) (a' := ?_) #[true, true, true, true, true, true, false, false, false, false, false, false, false, false] rfl rfl (Zl HT_.out (by kernel_rfl)) (fun _ _ _ h => h) (Or.inl ⟨by rfl, ?_⟩) ?_ ?_
                   rotate_left
                   ·intro w'
                    go_simp
                    with_reducible rfl
                   rotate_left
                   ·simp only [Act.put, ZD, ZE, ZF, Zh, Zi]
                    rfl
                   refine Zk (i := 6) (N := some 90) (v := ?_) (a' := ?_) #[true, true, true, true, true, true, true, false, false, false, false, false, false, false] rfl rfl (Zl HT_.out (by kernel_rfl)) (fun _ _ _ h => h) (Or.inl ⟨by rfl, ?_⟩) ?_ ?_
                   rotate_left
                   ·intro w'
                    go_simp
                    with_reducible rfl
                   rotate_left
                   ·simp only [Act.put, ZD, ZE, ZF, Zh, Zi]
                    rfl
                   refine Zk (i := 7) (N := some 91) (v := ?_) (a' := ?_) #[true, true, true, true, true, true, true, true, false, false, false, false, false, false] rfl rfl (Zl HT_.out (by kernel_rfl)) (fun _ _ _ h => h) (Or.inl ⟨by rfl, ?_⟩) ?_ ?_
                   rotate_left
                   ·intro w'
                    go_simp
                    with_reducible rfl
                   rotate_left
                   ·simp only [Act.put, ZD, ZE, ZF, Zh, Zi]
                    rfl
                   refine Zk (i := 8) (N := some 92) (v := ?_) (a' := ?_) #[true, true, true, true, true, true, true, true, true, false, false, false, false, false] rfl rfl (Zl HT_.out (by kernel_rfl)) (fun _ _ _ h => h) (Or.inl ⟨by rfl, ?_⟩) ?_ ?_
                   rotate_left
                   ·intro w'
                    go_simp
                    with_reducible rfl
                   rotate_left
                   ·simp only [Act.put, ZD, ZE, ZF, Zh, Zi]
                    rfl
                   refine take_ (i := 9) (N := some 93) (v := ?_) (a' := ?_) #[true, true, true, true, true, true, true, true, true, true, false, false, false, false] rfl rfl (take_ofW HT_.out HW_.out (by kernel_rfl)) (fun _ _ _ h => h) (Or.inl ⟨by rfl, ?_⟩) hHeld ?_ ?_
                   rotate_left
                   ·rintro w' ⟨s0, s1, s2, s3, s4, s5⟩
                    go_simp
                    with_reducible rfl
                   rotate_left
                   ·simp only [Act.put, ZD, ZE, ZF, Zh, Zi]
                    rfl
                   refine take_ (i := 10) (N := some 94) (v := ?_) (a' := ?_) #[true, true, true, true, true, true, true, true, true, true, true, false, false, false] rfl rfl (take_ofW HT_.out HW_.out (by kernel_rfl)) (fun _ _ _ h => h) (Or.inl ⟨by rfl, ?_⟩) hHeld ?_ ?_
                   rotate_left
                   ·rintro w' ⟨s0, s1, s2, s3, s4, s5⟩
                    go_simp
                    with_reducible rfl
                   rotate_left
                   ·simp only [Act.put, ZD, ZE, ZF, Zh, Zi]
                    rfl
                   refine one_ (i := 11) (N := some 95) #[true, true, true, true, true, true, true, true, true, true, true, true, false, false] rfl rfl (one_of HT_.out (by kernel_rfl)) (by decide) (fun K hK => ?_)
                   refine goes_ Try.func13 (by kernel_rfl) rfl #[.agg #[.int .u32 ((Zb x3_1 (ji87)).f0), .int .u32 ((Zb x3_1 (ji87)).f1), .slice A156_2 ((Zb x3_1 (ji87)).f2).length c156_2], .agg #[.int .u32 ((Zb t136 x8_1).f0), .int .u32 ((Zb t136 x8_1).f1), .slice A152_2 ((Zb t136 x8_1).f2).length c152_2]] (by rfl) rfl rfl (by (try simp only [List.map_toArray, List.map_cons, List.map_nil]); first | done | (simp only [hji87]; rfl) | rfl | (simp only [List.length_drop, List.length_take]; rfl)) ?_
                   with_reducible refine (Zag.calls kj26 ((Zb x3_1 (ji87)).f0) ((Zb x3_1 (ji87)).f1) _ _ ((Zb x3_1 (ji87)).f2) ((Zb t136 x8_1).f0) ((Zb t136 x8_1).f1) _ _ ((Zb t136 x8_1).f2) t157 _ ?side1 ?side2 ?side3 ?side4 A90.out).mono ?_
                   (case side1 => repeat (first | exact (by repeat (first | (with_reducible exact HR156_2.out) | (with_reducible refine Kd.Zac ?_ _) | (with_reducible refine Kd.Zaf ?_ _) | (with_reducible refine Kd.Zae ?_) | exact HR156_2.out)) | (with_reducible refine Kd.Zac ?_ _) | (with_reducible refine Kd.Zaf ?_ _) | (with_reducible refine Kd.Zae ?_)))
                   (case side2 => exact HC156_2.out)
                   (case side3 => repeat (first | exact ((Kd.V_reads' (by (with_reducible repeat (first | apply Kd.V_alloc | apply Kd.V_drewN | apply Kd.V_drew)); exact HL152_2.out)).2.2) | (with_reducible refine Kd.Zac ?_ _) | (with_reducible refine Kd.Zaf ?_ _) | (with_reducible refine Kd.Zae ?_)))
                   (case side4 => exact HC152_2.out)
                   rintro e w104 ⟨rfl, hb⟩
                   have HS3_ := (hb.cell (World.block_lt_of_cell? _ _ (hHeld.2.2.2.1))).trans (hHeld.2.2.2.1)
                   have HS4_ := (hb.cell (World.block_lt_of_cell? _ _ (hHeld.2.2.2.2.1))).trans (hHeld.2.2.2.2.1)
                   have HS5_ := (hb.cell (World.block_lt_of_cell? _ _ (hHeld.2.2.2.2.2))).trans (hHeld.2.2.2.2.2)
                   refine ⟨_, rfl, ?_⟩
                   replace HO_3 := Za.mk (Kd.Zan (by (with_reducible repeat (first | apply Kd.Zu | apply Kd.Zv | apply Kd.Zq)); exact HO_3.out) hb)
                   replace HO_5 := Za.mk (Kd.Zan (by (with_reducible repeat (first | apply Kd.Zu | apply Kd.Zv | apply Kd.Zq)); exact HO_5.out) hb)
                   replace HO_6 := Za.mk (Kd.Zan (by (with_reducible repeat (first | apply Kd.Zu | apply Kd.Zv | apply Kd.Zq)); exact HO_6.out) hb)
                   replace HL152_2 := Za.mk (Kd.V_below (by (with_reducible repeat (first | apply Kd.V_alloc | apply Kd.V_drewN | apply Kd.V_drew)); exact HL152_2.out) hb)
                   replace HL156_2 := Za.mk (Kd.V_below (by (with_reducible repeat (first | apply Kd.V_alloc | apply Kd.V_drewN | apply Kd.V_drew)); exact HL156_2.out) hb)
                   replace BK139 := Za.mk (Zak (g := gb139) (o := .cells #[.int .u32 ((Zb t136 x8_1).f0), .int .u32 ((Zb t136 x8_1).f1), .slice A152_2 ((Zb t136 x8_1).f2).length c152_2] 35 (0, 0)) (by (with_reducible repeat (first | refine Zo ?_ _ | refine Zm ?_ | refine Zn ?_ _)); exact BK139.out) hb)
                   replace HR156_2 := Za.mk (Kd.Zah (by repeat (first | (with_reducible exact HR156_2.out) | (with_reducible refine Kd.Zac ?_ _) | (with_reducible refine Kd.Zaf ?_ _) | (with_reducible refine Kd.Zae ?_) | exact HR156_2.out)) hb)
                   replace HB := Za.mk (Zx (by repeat (first | (with_reducible first | exact HB.out | apply Zd | apply Zf | apply Ze | refine Zj ?_ GE139.out) | exact HB.out)) hb)
                   (try clear hb)
                   (try clear hb2)
                   (try clear hk)
                   (try clear hi)
                   refine hK.out _ _ ⟨(Zc BK139.out 0).trans rfl, (Zc BK139.out 1).trans rfl, (Zc BK139.out 2).trans rfl, HS3_, HS4_, HS5_⟩ (fun hHeld => ?_)
                   clear hK K
                   refine norm_ (a' := ?_) ?_ ?_
                   rotate_left
                   ·show Act.put _ (some 95) _ = _
                    simp only [Act.put, ZD, ZE, ZF, Zh, Zi]
                    rfl
                   refine Zk (i := 12) (N := some 96) (v := ?_) (a' := ?_) #[true, true, true, true, true, true, true, true, true, true, true, true, true, false] rfl rfl (Zl HT_.out (by kernel_rfl)) (fun _ _ _ h => h) (Or.inl ⟨by rfl, ?_⟩) ?_ ?_
                   rotate_left
                   ·intro w'
                    go_simp
                    with_reducible rfl
                   rotate_left
                   ·simp only [Act.put, ZD, ZE, ZF, Zh, Zi]
                    rfl
                   refine Zk (i := 13) (N := some 97) (v := ?_) (a' := ?_) #[true, true, true, true, true, true, true, true, true, true, true, true, true, true] rfl rfl (Zl HT_.out (by kernel_rfl)) (fun _ _ _ h => h) (Or.inl ⟨by rfl, ?_⟩) ?_ ?_
                   rotate_left
                   ·intro w'
                    go_simp
                    with_reducible rfl
                   rotate_left
                   ·simp only [Act.put, ZD, ZE, ZF, Zh, Zi]
                    rfl
                   refine done_ (done_of HT_.out (by kernel_rfl)) ?_
                   have hcz105_0 : w104.cell? ⟨gb139, 0, none⟩ = some (.int .u32 ((Zb t136 x8_1).f0)) := (Zc BK139.out 0).trans rfl
                   have hcz105_1 : w104.cell? ⟨gb139, 1, none⟩ = some (.int .u32 ((Zb t136 x8_1).f1)) := (Zc BK139.out 1).trans rfl
                   have hcz105_2 : w104.cell? ⟨gb139, 2, none⟩ = some (.slice A152_2 ((Zb t136 x8_1).f2).length c152_2) := (Zc BK139.out 2).trans rfl
                   have hfz105_0 := Zg BK139.out 0
                   have hfz105_1 := Zg BK139.out 1
                   have hfz105_2 := Zg BK139.out 2
                   try go_wp2_with (first | ((with_reducible refine gate_builtin (b := .append) (xs := #[.tmp 98, .tmp 100]) rfl ?_); (try (refine Zal (by rfl) ?_; dsimp only)); at_builtin; refine Kd.N_append k35 (w0 := w) w.heap.size rfl (.tmp 98) (.tmp 100) 24 35 (.agg #[(.int .u32 0), (.int .u32 0), (.slice none 0 0)]) 32 rfl Try.underlying24 info35 rfl (by decide) (by omega) (.slice (some ad156) x3_1.length co103) x3_1 (⟨(Zb t136 x8_1).f0, (Zb t136 x8_1).f1, (Zb t136 x8_1).f2⟩ : S35) [.int .u32 ((Zb t136 x8_1).f0), .int .u32 ((Zb t136 x8_1).f1), .slice A152_2 ((Zb t136 x8_1).f2).length c152_2] (fun k_ => (w.heap.size ≤ k_) ∧ some k_ ≠ (v130 : Value).ownBlock ∧ some k_ ≠ (.slice (some ad152) t136.length co99 : Value).ownBlock ∧ k_ ≠ gb139) (fun k_ => ((fun k_ => (w.heap.size ≤ k_) ∧ some k_ ≠ (v130 : Value).ownBlock ∧ some k_ ≠ (.slice (some ad152) t136.length co99 : Value).ownBlock ∧ k_ ≠ gb139)) k_ ∧ some k_ ≠ (.slice (some ad156) x3_1.length co103 : Value).ownBlock) rfl rfl ?aP (fun _ hk => hk) ?aF ?aO ?aB ?aS ?aL ?_; (case aP => exact (k35_mkF _ _ (⟨(Zb t136 x8_1).f0, (Zb t136 x8_1).f1, (Zb t136 x8_1).f2⟩ : S35) (Kd.V_reads' (Kd.V_mono (ok' := (fun k_ => ((fun k_ => (w.heap.size ≤ k_) ∧ some k_ ≠ (v130 : Value).ownBlock ∧ some k_ ≠ (.slice (some ad152) t136.length co99 : Value).ownBlock ∧ k_ ≠ gb139)) k_ ∧ some k_ ≠ (.slice (some ad156) x3_1.length co103 : Value).ownBlock)) (HL152_2.out) (fun k_ hk => ⟨⟨hk.1, ⟨hk.2.2.1, ⟨hk.2.2.2.1, hk.2.2.2.2⟩⟩⟩, hk.2.1⟩))).2.1 (Kd.V_F (Kd.V_mono (ok' := (fun k_ => ((fun k_ => (w.heap.size ≤ k_) ∧ some k_ ≠ (v130 : Value).ownBlock ∧ some k_ ≠ (.slice (some ad152) t136.length co99 : Value).ownBlock ∧ k_ ≠ gb139)) k_ ∧ some k_ ≠ (.slice (some ad156) x3_1.length co103 : Value).ownBlock)) (HL152_2.out) (fun k_ hk => ⟨⟨hk.1, ⟨hk.2.2.1, ⟨hk.2.2.2.1, hk.2.2.2.2⟩⟩⟩, hk.2.1⟩))))); (case aB => exact (by repeat (first | (with_reducible first | exact HB.out | apply Zd | apply Zf | apply Ze | refine Zj ?_ GE139.out) | exact HB.out))); (case aF => exact (fun k_ hk => ⟨(Nat.le_trans (Zr (by repeat (first | (with_reducible first | exact HB.out | apply Zd | apply Zf | apply Ze | refine Zj ?_ GE139.out) | exact HB.out))) hk), Kd.fresh' (Kd.N_lt (by (with_reducible repeat (first | apply Kd.Zu | apply Kd.Zv | apply Kd.Zq)); exact HO_5.out)) k_ hk, Kd.fresh' (Kd.N_lt (by (with_reducible repeat (first | apply Kd.Zu | apply Kd.Zv | apply Kd.Zq)); exact HO_6.out)) k_ hk, Kd.freshB (g := gb139) (o := .cells #[.int .u32 ((Zb t136 x8_1).f0), .int .u32 ((Zb t136 x8_1).f1), .slice A152_2 ((Zb t136 x8_1).f2).length c152_2] 35 (0, 0)) (by (with_reducible repeat (first | refine Zo ?_ _ | refine Zm ?_ | refine Zn ?_ _)); exact BK139.out) k_ hk⟩)); (case aO => exact (by (with_reducible repeat (first | apply Kd.Zu | apply Kd.Zv | apply Kd.Zq)); exact HO_3.out)); (case aS => exact (Zr (by repeat (first | (with_reducible first | exact HB.out | apply Zd | apply Zf | apply Ze | refine Zj ?_ GE139.out) | exact HB.out)))); (case aL => have := LMc98.out; omega); intro v159 w106 ho hb hg hat; rw [← Ny158.out] at ho; have n0_ := Za.mk (Kd.N_afterv (ok := (fun k_ => (w.heap.size ≤ k_) ∧ some k_ ≠ (.slice (some ad152) t136.length co99 : Value).ownBlock ∧ k_ ≠ gb139)) (by (with_reducible repeat (first | apply Kd.Zu | apply Kd.Zv | apply Kd.Zq)); exact Kd.Zw HO_5.out (fun _ hk => ⟨⟨hk.1, ⟨hk.2.2.1, hk.2.2.2⟩⟩, hk.2.1⟩)) hg hat); have n1_ := Za.mk (Kd.N_afterv (ok := (fun k_ => (w.heap.size ≤ k_) ∧ some k_ ≠ (v130 : Value).ownBlock ∧ k_ ≠ gb139)) (by (with_reducible repeat (first | apply Kd.Zu | apply Kd.Zv | apply Kd.Zq)); exact Kd.Zw HO_6.out (fun _ hk => ⟨⟨hk.1, ⟨hk.2.2.1, hk.2.2.2⟩⟩, hk.2.1⟩)) hg hat); have n2_ := Za.mk (blk_grown (g := gb139) (o := .cells #[.int .u32 ((Zb t136 x8_1).f0), .int .u32 ((Zb t136 x8_1).f1), .slice A152_2 ((Zb t136 x8_1).f2).length c152_2] 35 (0, 0)) (by (with_reducible repeat (first | refine Zo ?_ _ | refine Zm ?_ | refine Zn ?_ _)); exact BK139.out) hg (Kd.N_away HO_3.out (fun _ hk => hk.2.2.2))); have n3_ := Za.mk (Kd.V_afterv (ok := (fun k_ => (w.heap.size ≤ k_) ∧ some k_ ≠ (v130 : Value).ownBlock ∧ some k_ ≠ (.slice (some ad152) t136.length co99 : Value).ownBlock ∧ k_ ≠ gb139)) (by (with_reducible repeat (first | apply Kd.V_alloc | apply Kd.V_drewN | apply Kd.V_drew)); exact Kd.V_mono HL152_2.out (fun _ hk => ⟨⟨hk.1, ⟨hk.2.2.1, ⟨hk.2.2.2.1, hk.2.2.2.2⟩⟩⟩, hk.2.1⟩)) hg hat); have n4_ := Za.mk (Kd.V_afterv (ok := (fun k_ => (w.heap.size ≤ k_) ∧ some k_ ≠ (v130 : Value).ownBlock ∧ some k_ ≠ (.slice (some ad152) t136.length co99 : Value).ownBlock ∧ k_ ≠ gb139)) (by (with_reducible repeat (first | apply Kd.V_alloc | apply Kd.V_drewN | apply Kd.V_drew)); exact HL156_2.out) hg hat); have n5_ := Za.mk (hb); have n6_ := Za.mk (ho); clear HO_5; clear HO_6; clear BK139; clear HL152_2; clear HL156_2; clear HB; clear HO_3; have HO_5 := n0_; have HO_6 := n1_; have BK139 := n2_; have HL152_2 := n3_; have HL156_2 := n4_; have HB := n5_; have HO160 := n6_; clear n0_ n1_ n2_ n3_ n4_ n5_ n6_; clear ho hb hg hat))
                   go_roundg kj26
                   case measure => have := HK1.out; have := HJ20.out; have := HJ26.out; omega
                   case rel => exact ⟨(y158), (x7_1), (wrap64 (x8_1 + 1)), (by first | rfl | (simp; done) | (simp [*]; done)), (by first | rfl | (simp; done) | (simp [*]; done)), H', ⟨by have := HK1.out; have := HJ20.out; have := HJ26.out; omega⟩, ⟨by (with_reducible repeat (first | apply Kd.Zu | apply Kd.Zv | apply Kd.Zq)); exact Kd.Zw HO160.out (fun _ hk => ⟨hk.1, ⟨hk.2.1, hk.2.2.1⟩⟩)⟩, ⟨by (with_reducible repeat (first | apply Kd.Zu | apply Kd.Zv | apply Kd.Zq)); exact Kd.Zw HO_5.out (fun _ hk => ⟨hk.1.1, ⟨hk.2, hk.1.2.1⟩⟩)⟩, ⟨by (with_reducible repeat (first | apply Kd.Zu | apply Kd.Zv | apply Kd.Zq)); exact Kd.Zw HO_6.out (fun _ hk => ⟨hk.1.1, ⟨hk.2, hk.1.2.1⟩⟩)⟩, ⟨by repeat (first | (with_reducible first | exact HB.out | apply Zd | apply Zf | apply Ze | refine Zj ?_ GE139.out) | exact HB.out)⟩⟩
                  ·rw [if_neg c98] at H
                   exact absurd H (by simp)
                ·rw [if_neg c89] at H
                 exact absurd H (by simp)
               ·rw [if_neg c88] at H
                exact absurd H (by simp)
             ·rw [if_neg c77] at H
              exact absurd H (by simp)
            ·rw [if_neg c76] at H
             exact absurd H (by simp)
        ·replace c26 := Bool.eq_false_iff.mpr c26
         subst c26
         have H1 : (some x3_1) = some r := by rw [if_neg (show ¬ (false = true) by decide)] at H; exact H
         clear H
         have H := H1
         clear H1
         obtain rfl := Option.some.inj H
         go_wp2
         go_ret
         exact ⟨_, by first | rfl | (simp [Zy, Zz] <;> rfl) | (simp only [← hji10]; first | rfl | (simp [Zy, Zz] <;> rfl)) | (simp [*, Zy, Zz] <;> rfl), by (with_reducible repeat (first | apply Kd.Zu | apply Kd.Zv | apply Kd.Zq)); exact Kd.Zw HO_3.out (fun _ hk => hk.1), by repeat (first | (with_reducible first | exact HB.out | apply Zd | apply Zf | apply Ze) | exact HB.out)⟩
   ·rw [if_neg c12] at H
    exact absurd H (by simp)
  ·rw [if_neg c11] at H
   exact absurd H (by simp)

end Go.Proofs.Ytjpjfkmnfppgkaa.P
