import Derived.Test.YtgmbahldjiiajaaGFnExactCompile4
import Derived.Test.YtgmbahldjiiajaaGFnExactCompile16
import Derived.Test.YtgmbahldjiiajaaGFnExactCompile17
namespace Go.Proofs.Ytgmbahldjiiajaa.P
open Go.RowKit Go.Proofs.YtgmbahldjiiajaaW.PrintWords Go.Proofs.YtgmbahldjiiajaaW.PrintLast Go.Proofs.YtgmbahldjiiajaaW.PrintMore
attribute [local go_sem] max2_int min2_int max_two min_two max_three min_three max_four min_four
set_option linter.unusedVariables false
set_option linter.unusedSimpArgs false

mutual
def Zaz.l0 : Nat → List (S65) → Int → List (S69) → Int → Option ((List (S69)))
 | 0, _, _, _, _ => none
 | k + 1, x0, x1, x5, x6 => if x6 < (x0.length : Int) then (if x6 = (wrap64 ((x0.length : Int) - 1)) then (Zaz.j1 k x0 x1 x5 x6 (wrap64 (x1 + (wrap64 (13 * x6)))) 0) else (Zaz.j1 k x0 x1 x5 x6 (wrap64 (x1 + (wrap64 (13 * x6)))) (wrap64 (x1 + (wrap64 (13 * x6)))))) else (some x5)
def Zaz.j1 : Nat → List (S65) → Int → List (S69) → Int → Int → Int → Option ((List (S69)))
 | 0, _, _, _, _, _, _ => none
 | k + 1, x0, x1, x5, x6, x7, x8 => Zaz.l1 k x0 x1 x5 x6 x7 x8 0
def Zaz.l1 : Nat → List (S65) → Int → List (S69) → Int → Int → Int → Int → Option ((List (S69)))
 | 0, _, _, _, _, _, _, _ => none
 | k + 1, x0, x1, x5, x6, x7, x8, x9 => if x9 < 6 then (if 0 ≤ x6 then (if x6 < (x0.length : Int) then (if 0 ≤ x9 then (if x9 < (((Zao x0 x6).f0).length : Int) then ((Zbr.f k ((Zx ((Zao x0 x6).f0) x9).f0) ((Zx ((Zao x0 x6).f0) x9).f1) ((Zx ((Zao x0 x6).f0) x9).f2) x9 x8 (wrap64 ((wrap64 (x7 + 1)) + (wrap64 (2 * x9))))).bind fun t301 => (if x5.length + t301.length < 5864062014805 then (Zaz.l1 k x0 x1 (x5 ++ t301) x6 x7 x8 (wrap64 (x9 + 1))) else (none))) else (none)) else (none)) else (none)) else (none)) else ((Zbs.f 6 2147418112).bind fun bt307 => (if x5.length < 5864062014805 then ((some (x5 ++ [(⟨bt307.1, (⟨bt307.2.1, bt307.2.2.1, bt307.2.2.2.1, bt307.2.2.2.2.1⟩ : S52), bt307.2.2.2.2.2⟩ : S69)] : List (S69))).bind fun y313 => (if x8 = 0 then (Zaz.l0 k x0 x1 y313 (wrap64 (x6 + 1))) else ((Zax.f x8).bind fun bt316 => (if y313.length < 5864062014805 then (Zaz.l0 k x0 x1 (y313 ++ [(⟨bt316.1, (⟨bt316.2.1, bt316.2.2.1, bt316.2.2.2.1, bt316.2.2.2.2.1⟩ : S52), bt316.2.2.2.2.2⟩ : S69)]) (wrap64 (x6 + 1))) else (none))))) else (none)))
end
def Zaz.f (k : Nat) (l0 : List (S65)) (a1 : Int) : Option ((List (S69))) := Zaz.l0 k l0 a1 ([] : List (S69)) 0
set_option maxHeartbeats 8000000 in
set_option maxRecDepth 100000 in
theorem Zaz.calls (k : Nat) (A0 : Option Addr) (c0 : Nat) (l0 : List (S65)) (a1 : Int) (r : List (S69)) (w : World) (hr0 : Kd.C k65 w A0 l0.length l0) (hc0 : l0.length ≤ c0) (h : Zaz.f k l0 a1 = some r) :
  Calls Try.prog 53 #[.slice A0 l0.length c0, .int .i64 a1] w fun e w' => ∃ v0_ : Value, e = .returned (v0_) ∧ Kd.R k69 69 w' w.heap.size (fun _ => True) v0_ r ∧ Below w.heap.size w w' := by
 have hu95 := Try.underlying95
 have HR0 := Za.mk hr0
 have HC0 := Za.mk hc0
 clear hr0 hc0
 have HB := Za.mk (Below.refl w.heap.size w)
 have H : (Zaz.l0 k l0 a1 ([] : List (S69)) 0) = some r := h
 clear h
 have H' := Za.mk H
 clear H
 go_enter Try.func53, Try.ntmps53
 go_wp2
 go_loopg [5, 6] k (fun kq v5 v6 w' => ∃ (x5_1 : List (S69)) (x6_1 : Int), v6 = .int .i64 x6_1 ∧ Za (Zaz.l0 kq l0 a1 x5_1 x6_1 = some r) ∧ Za (kq ≤ k) ∧ Za (Kd.R k69 69 w' w.heap.size (fun _ => True) v5 x5_1) ∧ Za (Below w.heap.size w w'))
 case atStart => exact ⟨(([] : List (S69))), (0), (by first | rfl | (simp; done) | (simp [*]; done)), H', ⟨Nat.le_refl _⟩, ⟨by first | exact Kd.R_nil _ _ _ _ _ | exact Kd.N_nil _ _ _ _ _ | exact Kd.V_nil _ _ _ _ _ | exact Kd.Q_nil _ _ _ _ _ | exact Kd.S_nil _ _ _ _ _⟩, ⟨by with_reducible repeat first | exact HB.out | apply Zc | apply Ze | apply Zd⟩⟩
 case round =>
  clear H'
  try clear p2
  obtain ⟨x5_1, x6_1, rfl, HA, HK1, HO_5, HB⟩ := hrel
  cases gk with
  | zero => exact absurd HA.out (by simp [Zaz.l0])
  | succ k1 =>
   have H := HA.out
   clear HA
   simp only [Zaz.l0] at H
   by_cases c3 : x6_1 < (l0.length : Int)
   ·rw [if_pos c3] at H
    have c3b0 : decide (x6_1 < (l0.length : Int)) = true := decide_eq_true c3
    clear c3
    have HC4 := Za.mk H
    clear H
    go_upto_if 25 with (fail)
    go_cut [8] (fun v8 wc => ∃ (kq : Nat) (x8_3 : Int), v8 = .int .i64 x8_3 ∧ Za (Zaz.j1 kq l0 a1 x5_1 x6_1 (wrap64 (a1 + (wrap64 (13 * x6_1)))) x8_3 = some r) ∧ Za (kq ≤ k1) ∧ Za (Kd.R k69 69 wc w.heap.size (fun _ => True) u5 x5_1) ∧ Za (Below w.heap.size w wc))
    case first =>
     have H := HC4.out
     clear HC4
     by_cases c5 : x6_1 = (wrap64 ((l0.length : Int) - 1))
     ·rw [if_pos c5] at H
      have c5b0 : (x6_1 == (wrap64 ((l0.length : Int) - 1))) = true := beq_iff_eq.mpr c5
      have c5b1 : (x6_1 != (wrap64 ((l0.length : Int) - 1))) = false := bne_eq_false_iff_eq.mpr c5
      clear c5
      (first | rw [c5b0] | (simp only [Zu, Zv]; rw [c5b0]) | skip)
      have H' := Za.mk H
      clear H
      go_wp2
      go_meet
      case rel => exact ⟨_, (0), (by first | rfl | (simp; done) | (simp [*]; done)), H', ⟨by have := HK1.out; first | omega | exact Nat.le_refl _⟩, ⟨by (with_reducible repeat (first | apply Kd.Zaa | apply Kd.Zy | apply Kd.Zz)); exact HO_5.out⟩, ⟨by with_reducible repeat first | exact HB.out | apply Zc | apply Ze | apply Zd⟩⟩
     rw [if_neg c5] at H
     have c5b0 : (x6_1 == (wrap64 ((l0.length : Int) - 1))) = false := beq_eq_false_iff_ne.mpr c5
     have c5b1 : (x6_1 != (wrap64 ((l0.length : Int) - 1))) = true := bne_iff_ne.mpr c5
     (first | rw [c5b0] | (simp only [Zu, Zv]; rw [c5b0]) | skip)
     have H' := Za.mk H
     clear H
     go_wp2
     go_meet
     case rel => exact ⟨_, (wrap64 (a1 + (wrap64 (13 * x6_1)))), (by first | rfl | (simp; done) | (simp [*]; done)), H', ⟨by have := HK1.out; first | omega | exact Nat.le_refl _⟩, ⟨by (with_reducible repeat (first | apply Kd.Zaa | apply Kd.Zy | apply Kd.Zz)); exact HO_5.out⟩, ⟨by with_reducible repeat first | exact HB.out | apply Zc | apply Ze | apply Zd⟩⟩
    case rest =>
     clear HC4
     try clear p2
     try clear c3
     try clear c3b0
     try clear c5
     try clear c5b0
     try clear c5b1
     try clear p2
     obtain ⟨kq, x8_3, rfl, HA, HJ3, HO_5, HB⟩ := hcut
     cases kq with
     | zero => exact absurd HA.out (by simp [Zaz.j1])
     | succ kj3 =>
      have H := HA.out
      clear HA
      simp only [Zaz.j1] at H
      have H' := Za.mk H
      clear H
      go_wp2
      go_loopg [5, 9] kj3 (fun kq v5 v9 w' => ∃ (x5_3 : List (S69)) (x9_3 : Int), v9 = .int .i64 x9_3 ∧ Za (Zaz.l1 kq l0 a1 x5_3 x6_1 (wrap64 (a1 + (wrap64 (13 * x6_1)))) x8_3 x9_3 = some r) ∧ Za (kq ≤ kj3) ∧ Za (Kd.R k69 69 w' w.heap.size (fun _ => True) v5 x5_3) ∧ Za (Below w.heap.size w w'))
      case atStart => exact ⟨(x5_1), (0), (by first | rfl | (simp; done) | (simp [*]; done)), H', ⟨Nat.le_refl _⟩, ⟨by (with_reducible repeat (first | apply Kd.Zaa | apply Kd.Zy | apply Kd.Zz)); exact HO_5.out⟩, ⟨by with_reducible repeat first | exact HB.out | apply Zc | apply Ze | apply Zd⟩⟩
      case round =>
       clear H'
       try clear p2
       try clear c3
       try clear c3b0
       try clear c5
       try clear c5b0
       try clear c5b1
       try clear p2
       obtain ⟨x5_3, x9_3, rfl, HA, HK3, HO_5, HB⟩ := hrel
       cases gk with
       | zero => exact absurd HA.out (by simp [Zaz.l1])
       | succ k3 =>
        have H := HA.out
        clear HA
        simp only [Zaz.l1] at H
        by_cases c6 : x9_3 < 6
        ·rw [if_pos c6] at H
         have c6b0 : decide (x9_3 < 6) = true := decide_eq_true c6
         clear c6
         by_cases c7 : 0 ≤ x6_1
         ·rw [if_pos c7] at H
          have c7b0 : decide (0 ≤ x6_1) = true := decide_eq_true c7
          clear c7
          by_cases c8 : x6_1 < (l0.length : Int)
          ·rw [if_pos c8] at H
           have c8b0 : decide (x6_1 < (l0.length : Int)) = true := decide_eq_true c8
           clear c8
           by_cases c9 : 0 ≤ x9_3
           ·rw [if_pos c9] at H
            have c9b0 : decide (0 ≤ x9_3) = true := decide_eq_true c9
            clear c9
            by_cases c10 : x9_3 < (((Zao l0 x6_1).f0).length : Int)
            ·rw [if_pos c10] at H
             have c10b0 : decide (x9_3 < (((Zao l0 x6_1).f0).length : Int)) = true := decide_eq_true c10
             clear c10
             replace H := Option.bind_eq_some_iff.mp H
             obtain ⟨t301, A110, H⟩ := H
             replace H : (if x5_3.length + t301.length < 5864062014805 then (Zaz.l1 k3 l0 a1 (x5_3 ++ t301) x6_1 (wrap64 (a1 + (wrap64 (13 * x6_1)))) x8_3 (wrap64 (x9_3 + 1))) else (none)) = some r := H
             have A11 := Za.mk A110
             clear A110
             by_cases c12 : x5_3.length + t301.length < 5864062014805
             ·rw [if_pos c12] at H
              have LMc12 := Za.mk c12
              clear c12
              obtain ⟨y304, hy304⟩ : ∃ y_ : List (S69), y_ = (x5_3 ++ t301) := ⟨_, rfl⟩
              replace H : (Zaz.l1 k3 l0 a1 y304 x6_1 (wrap64 (a1 + (wrap64 (13 * x6_1)))) x8_3 (wrap64 (x9_3 + 1))) = some r := by first | (rw [hy304]; with_reducible exact H) | (have H2_ := (Option.bind_some _ _).symm.trans H; rw [hy304]; with_reducible exact H2_) | (have H2_ := (Option.bind_some _ _).symm.trans H; with_reducible exact H2_) | with_reducible exact H | (rw [hy304]; exact H) | exact H
              have Ny304 := Za.mk hy304
              clear hy304
              have H' := Za.mk H
              clear H
              have p299 : 0 ≤ (x6_1 : Int) := of_decide_eq_true (by assumption)
              have q299 : x6_1 < (l0.length : Int) := of_decide_eq_true (by assumption)
              obtain ⟨ad299, A299_0, c299_0, e299, hx299_0, hl299_0, hi299_0⟩ := at_T65 HR0.out x6_1 p299 q299
              cases e299
              replace hx299_0 := (HB.out.cell (World.block_lt_of_cell? w _ hx299_0)).trans hx299_0
              have HR299_0 := Za.mk hi299_0
              have HC299_0 := Za.mk hl299_0
              clear hi299_0 hl299_0
              replace p299 := eq_true p299
              replace q299 := eq_true q299
              have p300 : 0 ≤ (x9_3 : Int) := of_decide_eq_true (by assumption)
              have q300 : x9_3 < (((Zao l0 x6_1).f0).length : Int) := of_decide_eq_true (by assumption)
              obtain ⟨ad300, e300, hx300_0, hx300_1, hx300_2⟩ := at_T95 HR299_0.out x9_3 p300 q300
              cases e300
              replace hx300_0 := (HB.out.cell (World.block_lt_of_cell? w _ hx300_0)).trans hx300_0
              replace hx300_1 := (HB.out.cell (World.block_lt_of_cell? w _ hx300_1)).trans hx300_1
              replace hx300_2 := (HB.out.cell (World.block_lt_of_cell? w _ hx300_2)).trans hx300_2
              replace p300 := eq_true p300
              replace q300 := eq_true q300
              go_wp2_with (first | ((with_reducible refine Zaj (f := 65) rfl ?_); refine Zai (some 46) rfl rfl Try.func65 (by kernel_rfl) rfl #[.agg #[.int .i64 ((Zx ((Zao l0 x6_1).f0) x9_3).f0), .int .u64 ((Zx ((Zao l0 x6_1).f0) x9_3).f1), .int .u64 ((Zx ((Zao l0 x6_1).f0) x9_3).f2)], .int .i64 x9_3, .int .i64 x8_3, .int .i64 (wrap64 ((wrap64 ((wrap64 (a1 + (wrap64 (13 * x6_1)))) + 1)) + (wrap64 (2 * x9_3))))] rfl (by (try simp only [ZA, ZB, ZC]); first | done | rfl) ?_; (with_reducible refine (Zbr.calls k3 ((Zx ((Zao l0 x6_1).f0) x9_3).f0) ((Zx ((Zao l0 x6_1).f0) x9_3).f1) ((Zx ((Zao l0 x6_1).f0) x9_3).f2) x9_3 x8_3 (wrap64 ((wrap64 ((wrap64 (a1 + (wrap64 (13 * x6_1)))) + 1)) + (wrap64 (2 * x9_3)))) t301 _ A11.out).mono ?_); rintro e w13 ⟨v302, rfl, ho0, hb⟩; refine ⟨_, rfl, ?_⟩; have HO303 := Za.mk (Kd.Zbk (Kd.R_new' ho0 (Kd.R_lt (by (with_reducible repeat (first | apply Kd.Zaa | apply Kd.Zy | apply Kd.Zz)); exact HO_5.out))) (Zl (by with_reducible repeat first | exact HB.out | apply Zc | apply Ze | apply Zd))); replace HO_5 := Za.mk (Kd.R_elder' (by (with_reducible repeat (first | apply Kd.Zaa | apply Kd.Zy | apply Kd.Zz)); exact HO_5.out) (Kd.R_base ho0) hb); replace HB := Za.mk (Zo (by with_reducible repeat first | exact HB.out | apply Zc | apply Ze | apply Zd) hb); (try clear hb); (try clear hb2); (try clear hk); (try clear hi); (try clear ho0); obtain ⟨Ao15, co15, eo15⟩ := Kd.Zay HO303.out; subst eo15) | ((with_reducible refine Zba (b := .append) (xs := #[.tmp 30, .tmp 46]) rfl ?_); at_builtin; refine Kd.R_append_rows k69 (w0 := w) w.heap.size rfl (.tmp 30) (.tmp 46) 41 69 (.agg #[(.int .i64 0), (.int .u16 0), (.int .u8 0), (.int .u8 0), (.int .u32 0), (.int .i64 0)]) 24 rfl Try.underlying41 info69 rfl (by decide) (by omega) u5 x5_3 t301 _ _ _ (fun k_ => some k_ ≠ (.slice Ao15 t301.length co15 : Value).ownBlock) (fun _ => False) rfl rfl ?aO ?aR (fun _ _ h => h) (fun _ h => h.elim) ?aF ?aB ?aS ?aL ?_; (case aR => repeat (first | exact (Kd.Zat HO303.out).2.2 | (with_reducible refine Kd.Zau ?_ _) | (with_reducible refine Kd.Zaw ?_ _) | (with_reducible refine Kd.Zav ?_))); (case aB => exact (by with_reducible repeat first | exact HB.out | apply Zc | apply Ze | apply Zd)); (case aF => exact (fun k_ hk => Kd.fresh' (Kd.R_lt (by (with_reducible repeat (first | apply Kd.Zaa | apply Kd.Zy | apply Kd.Zz)); exact HO303.out)) k_ hk)); (case aO => exact (by (with_reducible repeat (first | apply Kd.Zaa | apply Kd.Zy | apply Kd.Zz)); exact Kd.Zas HO_5.out (fun _ hk => hk.2))); (case aS => exact (Zl (by with_reducible repeat first | exact HB.out | apply Zc | apply Ze | apply Zd))); (case aL => have := LMc12.out; omega); intro v305 w14 ho hb hg hat; rw [← Ny304.out] at ho; have n0_ := Za.mk (Kd.R_after (ok := (fun _ => True)) (by (with_reducible repeat (first | apply Kd.Zaa | apply Kd.Zy | apply Kd.Zz)); exact HO303.out) hg hat); have n1_ := Za.mk (hb); have n2_ := Za.mk (ho); clear HO303; clear HB; clear HO_5; have HO303 := n0_; have HB := n1_; have HO306 := n2_; clear n0_ n1_ n2_; clear ho hb hg hat))
              go_roundg k3
              case measure => have := HK1.out; have := HJ3.out; have := HK3.out; omega
              case rel => exact ⟨(y304), (wrap64 (x9_3 + 1)), (by first | rfl | (simp; done) | (simp [*]; done)), H', ⟨by have := HK1.out; have := HJ3.out; have := HK3.out; omega⟩, ⟨by (with_reducible repeat (first | apply Kd.Zaa | apply Kd.Zy | apply Kd.Zz)); exact Kd.Zas HO306.out (fun _ hk => trivial)⟩, ⟨by with_reducible repeat first | exact HB.out | apply Zc | apply Ze | apply Zd⟩⟩
             rw [if_neg c12] at H
             exact absurd H (by simp)
            rw [if_neg c10] at H
            exact absurd H (by simp)
           rw [if_neg c9] at H
           exact absurd H (by simp)
          rw [if_neg c8] at H
          exact absurd H (by simp)
         rw [if_neg c7] at H
         exact absurd H (by simp)
        rw [if_neg c6] at H
        have c6b0 : decide (x9_3 < 6) = false := decide_eq_false c6
        clear c6
        replace H := Option.bind_eq_some_iff.mp H
        obtain ⟨⟨t307, t308, t309, t310, t311, t312⟩, A160, H⟩ := H
        replace H : (if x5_3.length < 5864062014805 then ((some (x5_3 ++ [(⟨t307, (⟨t308, t309, t310, t311⟩ : S52), t312⟩ : S69)] : List (S69))).bind fun y313 => (if x8_3 = 0 then (Zaz.l0 k3 l0 a1 y313 (wrap64 (x6_1 + 1))) else ((Zax.f x8_3).bind fun bt316 => (if y313.length < 5864062014805 then (Zaz.l0 k3 l0 a1 (y313 ++ [(⟨bt316.1, (⟨bt316.2.1, bt316.2.2.1, bt316.2.2.2.1, bt316.2.2.2.2.1⟩ : S52), bt316.2.2.2.2.2⟩ : S69)]) (wrap64 (x6_1 + 1))) else (none))))) else (none)) = some r := H
        have A16 := Za.mk A160
        clear A160
        by_cases c17 : x5_3.length < 5864062014805
        ·rw [if_pos c17] at H
         have LMc17 := Za.mk c17
         clear c17
         obtain ⟨y313, hy313⟩ : ∃ y_ : List (S69), y_ = (x5_3 ++ [(⟨t307, (⟨t308, t309, t310, t311⟩ : S52), t312⟩ : S69)]) := ⟨_, rfl⟩
         replace H : (if x8_3 = 0 then (Zaz.l0 k3 l0 a1 y313 (wrap64 (x6_1 + 1))) else ((Zax.f x8_3).bind fun bt316 => (if y313.length < 5864062014805 then (Zaz.l0 k3 l0 a1 (y313 ++ [(⟨bt316.1, (⟨bt316.2.1, bt316.2.2.1, bt316.2.2.2.1, bt316.2.2.2.2.1⟩ : S52), bt316.2.2.2.2.2⟩ : S69)]) (wrap64 (x6_1 + 1))) else (none)))) = some r := by first | (rw [hy313]; with_reducible exact H) | (have H2_ := (Option.bind_some _ _).symm.trans H; rw [hy313]; with_reducible exact H2_) | (have H2_ := (Option.bind_some _ _).symm.trans H; with_reducible exact H2_) | with_reducible exact H | (rw [hy313]; exact H) | exact H
         have Ny313 := Za.mk hy313
         clear hy313
         by_cases c18 : x8_3 = 0
         ·rw [if_pos c18] at H
          have c18b0 : (x8_3 == 0) = true := beq_iff_eq.mpr c18
          have c18b1 : (x8_3 != 0) = false := bne_eq_false_iff_eq.mpr c18
          clear c18
          have H' := Za.mk H
          clear H
          go_wp2_with (first | ((with_reducible refine Zaj (f := 28) rfl ?_); refine Zai (some 49) rfl rfl Try.func28 (by kernel_rfl) rfl #[.int .u16 6, .int .u32 2147418112] rfl (by (try simp only [ZA, ZB, ZC]); first | done | rfl) ?_; (with_reducible refine (Zbs.calls 6 2147418112 t307 t308 t309 t310 t311 t312 _ A16.out).mono ?_); rintro e w19 ⟨rfl, hb⟩; refine ⟨_, rfl, ?_⟩; replace HO_5 := Za.mk (Kd.Zam (by (with_reducible repeat (first | apply Kd.Zaa | apply Kd.Zy | apply Kd.Zz)); exact HO_5.out) hb); replace HB := Za.mk (Zo (by with_reducible repeat first | exact HB.out | apply Zc | apply Ze | apply Zd) hb); (try clear hb); (try clear hb2); (try clear hk); (try clear hi)) | ((with_reducible refine Zba (b := .append) (xs := #[.tmp 48, .tmp 50]) rfl ?_); at_builtin; refine Kd.Zbb k69 (w0 := w) w.heap.size rfl (.tmp 48) (.tmp 50) 41 69 (.agg #[(.int .i64 0), (.int .u16 0), (.int .u8 0), (.int .u8 0), (.int .u32 0), (.int .i64 0)]) 24 rfl Try.underlying41 info69 rfl (by decide) (by omega) u5 x5_3 (⟨t307, (⟨t308, t309, t310, t311⟩ : S52), t312⟩ : S69) [.int .i64 t307, .int .u16 t308, .int .u8 t309, .int .u8 t310, .int .u32 t311, .int .i64 t312] (fun _ => True) (fun _ => False) rfl rfl ?aP (fun _ hk => hk.elim) ?aF ?aO ?aB ?aS ?aL ?_; (case aP => exact Zbg _ _ _ (⟨t307, (⟨t308, t309, t310, t311⟩ : S52), t312⟩ : S69)); (case aB => exact (by with_reducible repeat first | exact HB.out | apply Zc | apply Ze | apply Zd)); (case aF => exact (fun _ _ => trivial)); (case aO => exact (by (with_reducible repeat (first | apply Kd.Zaa | apply Kd.Zy | apply Kd.Zz)); exact HO_5.out)); (case aS => exact (Zl (by with_reducible repeat first | exact HB.out | apply Zc | apply Ze | apply Zd))); (case aL => have := LMc17.out; omega); intro v314 w20 ho hb hg hat; rw [← Ny313.out] at ho; have n0_ := Za.mk (hb); have n1_ := Za.mk (ho); clear HB; clear HO_5; have HB := n0_; have HO315 := n1_; clear n0_ n1_; clear ho hb hg hat))
          go_roundg k3
          case measure => have := HK1.out; have := HJ3.out; have := HK3.out; omega
          case rel => exact ⟨(y313), (wrap64 (x6_1 + 1)), (by first | rfl | (simp; done) | (simp [*]; done)), H', ⟨by have := HK1.out; have := HJ3.out; have := HK3.out; omega⟩, ⟨by (with_reducible repeat (first | apply Kd.Zaa | apply Kd.Zy | apply Kd.Zz)); exact HO315.out⟩, ⟨by with_reducible repeat first | exact HB.out | apply Zc | apply Ze | apply Zd⟩⟩
         rw [if_neg c18] at H
         have c18b0 : (x8_3 == 0) = false := beq_eq_false_iff_ne.mpr c18
         have c18b1 : (x8_3 != 0) = true := bne_iff_ne.mpr c18
         replace H := Option.bind_eq_some_iff.mp H
         obtain ⟨⟨t316, t317, t318, t319, t320, t321⟩, A210, H⟩ := H
         replace H : (if y313.length < 5864062014805 then (Zaz.l0 k3 l0 a1 (y313 ++ [(⟨t316, (⟨t317, t318, t319, t320⟩ : S52), t321⟩ : S69)]) (wrap64 (x6_1 + 1))) else (none)) = some r := H
         have A21 := Za.mk A210
         clear A210
         by_cases c22 : y313.length < 5864062014805
         ·rw [if_pos c22] at H
          have LMc22 := Za.mk c22
          clear c22
          obtain ⟨y322, hy322⟩ : ∃ y_ : List (S69), y_ = (y313 ++ [(⟨t316, (⟨t317, t318, t319, t320⟩ : S52), t321⟩ : S69)]) := ⟨_, rfl⟩
          replace H : (Zaz.l0 k3 l0 a1 y322 (wrap64 (x6_1 + 1))) = some r := by first | (rw [hy322]; with_reducible exact H) | (have H2_ := (Option.bind_some _ _).symm.trans H; rw [hy322]; with_reducible exact H2_) | (have H2_ := (Option.bind_some _ _).symm.trans H; with_reducible exact H2_) | with_reducible exact H | (rw [hy322]; exact H) | exact H
          have Ny322 := Za.mk hy322
          clear hy322
          have H' := Za.mk H
          clear H
          go_wp2_with (first | ((with_reducible refine Zaj (f := 28) rfl ?_); refine Zai (some 49) rfl rfl Try.func28 (by kernel_rfl) rfl #[.int .u16 6, .int .u32 2147418112] rfl (by (try simp only [ZA, ZB, ZC]); first | done | rfl) ?_; (with_reducible refine (Zbs.calls 6 2147418112 t307 t308 t309 t310 t311 t312 _ A16.out).mono ?_); rintro e w23 ⟨rfl, hb⟩; refine ⟨_, rfl, ?_⟩; replace HO_5 := Za.mk (Kd.Zam (by (with_reducible repeat (first | apply Kd.Zaa | apply Kd.Zy | apply Kd.Zz)); exact HO_5.out) hb); replace HB := Za.mk (Zo (by with_reducible repeat first | exact HB.out | apply Zc | apply Ze | apply Zd) hb); (try clear hb); (try clear hb2); (try clear hk); (try clear hi)) | ((with_reducible refine Zba (b := .append) (xs := #[.tmp 48, .tmp 50]) rfl ?_); at_builtin; refine Kd.Zbb k69 (w0 := w) w.heap.size rfl (.tmp 48) (.tmp 50) 41 69 (.agg #[(.int .i64 0), (.int .u16 0), (.int .u8 0), (.int .u8 0), (.int .u32 0), (.int .i64 0)]) 24 rfl Try.underlying41 info69 rfl (by decide) (by omega) u5 x5_3 (⟨t307, (⟨t308, t309, t310, t311⟩ : S52), t312⟩ : S69) [.int .i64 t307, .int .u16 t308, .int .u8 t309, .int .u8 t310, .int .u32 t311, .int .i64 t312] (fun _ => True) (fun _ => False) rfl rfl ?aP (fun _ hk => hk.elim) ?aF ?aO ?aB ?aS ?aL ?_; (case aP => exact Zbg _ _ _ (⟨t307, (⟨t308, t309, t310, t311⟩ : S52), t312⟩ : S69)); (case aB => exact (by with_reducible repeat first | exact HB.out | apply Zc | apply Ze | apply Zd)); (case aF => exact (fun _ _ => trivial)); (case aO => exact (by (with_reducible repeat (first | apply Kd.Zaa | apply Kd.Zy | apply Kd.Zz)); exact HO_5.out)); (case aS => exact (Zl (by with_reducible repeat first | exact HB.out | apply Zc | apply Ze | apply Zd))); (case aL => have := LMc17.out; omega); intro v314 w24 ho hb hg hat; rw [← Ny313.out] at ho; have n0_ := Za.mk (hb); have n1_ := Za.mk (ho); clear HB; clear HO_5; have HB := n0_; have HO315 := n1_; clear n0_ n1_; clear ho hb hg hat) | ((with_reducible refine Zaj (f := 32) rfl ?_); refine Zai (some 56) rfl rfl Try.func32 (by kernel_rfl) rfl #[.int .i64 x8_3] rfl (by (try simp only [ZA, ZB, ZC]); first | done | rfl) ?_; (with_reducible refine (Zax.calls x8_3 t316 t317 t318 t319 t320 t321 _ A21.out).mono ?_); rintro e w25 ⟨rfl, hb⟩; refine ⟨_, rfl, ?_⟩; replace HO315 := Za.mk (Kd.Zam (by (with_reducible repeat (first | apply Kd.Zaa | apply Kd.Zy | apply Kd.Zz)); exact HO315.out) hb); replace HB := Za.mk (Zo (by with_reducible repeat first | exact HB.out | apply Zc | apply Ze | apply Zd) hb); (try clear hb); (try clear hb2); (try clear hk); (try clear hi)) | ((with_reducible refine Zba (b := .append) (xs := #[.tmp 54, .tmp 57]) rfl ?_); at_builtin; refine Kd.Zbb k69 (w0 := w) w.heap.size rfl (.tmp 54) (.tmp 57) 41 69 (.agg #[(.int .i64 0), (.int .u16 0), (.int .u8 0), (.int .u8 0), (.int .u32 0), (.int .i64 0)]) 24 rfl Try.underlying41 info69 rfl (by decide) (by omega) v314 y313 (⟨t316, (⟨t317, t318, t319, t320⟩ : S52), t321⟩ : S69) [.int .i64 t316, .int .u16 t317, .int .u8 t318, .int .u8 t319, .int .u32 t320, .int .i64 t321] (fun _ => True) (fun _ => False) rfl rfl ?aP (fun _ hk => hk.elim) ?aF ?aO ?aB ?aS ?aL ?_; (case aP => exact Zbg _ _ _ (⟨t316, (⟨t317, t318, t319, t320⟩ : S52), t321⟩ : S69)); (case aB => exact (by with_reducible repeat first | exact HB.out | apply Zc | apply Ze | apply Zd)); (case aF => exact (fun _ _ => trivial)); (case aO => exact (by (with_reducible repeat (first | apply Kd.Zaa | apply Kd.Zy | apply Kd.Zz)); exact HO315.out)); (case aS => exact (Zl (by with_reducible repeat first | exact HB.out | apply Zc | apply Ze | apply Zd))); (case aL => have := LMc22.out; omega); intro v323 w26 ho hb hg hat; rw [← Ny322.out] at ho; have n0_ := Za.mk (hb); have n1_ := Za.mk (ho); clear HB; clear HO315; have HB := n0_; have HO324 := n1_; clear n0_ n1_; clear ho hb hg hat))
          go_roundg k3
          case measure => have := HK1.out; have := HJ3.out; have := HK3.out; omega
          case rel => exact ⟨(y322), (wrap64 (x6_1 + 1)), (by first | rfl | (simp; done) | (simp [*]; done)), H', ⟨by have := HK1.out; have := HJ3.out; have := HK3.out; omega⟩, ⟨by (with_reducible repeat (first | apply Kd.Zaa | apply Kd.Zy | apply Kd.Zz)); exact HO324.out⟩, ⟨by with_reducible repeat first | exact HB.out | apply Zc | apply Ze | apply Zd⟩⟩
         rw [if_neg c22] at H
         exact absurd H (by simp)
        rw [if_neg c17] at H
        exact absurd H (by simp)
   rw [if_neg c3] at H
   have c3b0 : decide (x6_1 < (l0.length : Int)) = false := decide_eq_false c3
   clear c3
   obtain rfl := Option.some.inj H
   go_wp2
   go_ret
   exact ⟨_, by first | rfl | (simp [Zm, Zn] <;> rfl) | (simp [*, Zm, Zn] <;> rfl), by (with_reducible repeat (first | apply Kd.Zaa | apply Kd.Zy | apply Kd.Zz)); exact HO_5.out, by with_reducible repeat first | exact HB.out | apply Zc | apply Ze | apply Zd⟩
def Zbi.f : Nat → List (S61) → Int → Option ((List (S69)))
 | 0, _, _ => none
 | k + 1, l0, a1 => if (l0.length : Int) = 1 then (if 0 < (l0.length : Int) then ((Zak.f 2 21 ((Zi l0 0).f1) 0).bind fun bt326 => ((some (([(⟨bt326.1, (⟨bt326.2.1, bt326.2.2.1, bt326.2.2.2.1, bt326.2.2.2.2.1⟩ : S52), bt326.2.2.2.2.2⟩ : S69)] : List (S69)) : List (S69))).bind fun y332 => ((Zaz.f k ((Zi l0 0).f2) a1).bind fun t336 => (if y332.length + t336.length < 5864062014805 then (some (y332 ++ t336)) else (none))))) else (none)) else (if 0 ≤ (wrap64 ((l0.length : Int) / 2)) then (if (wrap64 ((l0.length : Int) / 2)) < (l0.length : Int) then ((Zak.f 1 53 ((Zi l0 (wrap64 ((l0.length : Int) / 2))).f1) a1).bind fun bt343 => ((some (([(⟨bt343.1, (⟨bt343.2.1, bt343.2.2.1, bt343.2.2.2.1, bt343.2.2.2.2.1⟩ : S52), bt343.2.2.2.2.2⟩ : S69)] : List (S69)) : List (S69))).bind fun y349 => (if (wrap64 ((l0.length : Int) / 2)) ≤ (l0.length : Int) then ((Zbi.f k (l0.take ((wrap64 ((l0.length : Int) / 2)) : Int).toNat) (wrap64 (a1 + 1))).bind fun t356 => (if y349.length + t356.length < 5864062014805 then ((some (y349 ++ t356 : List (S69))).bind fun y359 => ((Zax.f a1).bind fun bt362 => (if y359.length < 5864062014805 then ((some (y359 ++ [(⟨bt362.1, (⟨bt362.2.1, bt362.2.2.1, bt362.2.2.2.1, bt362.2.2.2.2.1⟩ : S52), bt362.2.2.2.2.2⟩ : S69)] : List (S69))).bind fun y368 => ((Zbo.f k (l0.take ((wrap64 ((l0.length : Int) / 2)) : Int).toNat)).bind fun t379 => ((Zbi.f k (l0.drop ((wrap64 ((l0.length : Int) / 2)) : Int).toNat) (wrap64 ((wrap64 (a1 + 1)) + t379))).bind fun t380 => (if y368.length + t380.length < 5864062014805 then (some (y368 ++ t380)) else (none))))) else (none)))) else (none))) else (none)))) else (none)) else (none))
def Zbi.T8 : Bool × List (List Nat × List Nat) := (true, [([], []), ([], []), ([], []), ([1, 2], [1, 2]), ([], []), ([4], [4]), ([], []), ([], []), ([6, 7], [6, 7]), ([8], [8]), ([5, 9], [5, 9]), ([3, 10, 9], [3, 10]), ([0, 11, 11], [0, 11]), ([12, 12, 0, 1, 2, 3, 4, 5, 6, 7, 8, 9, 10, 11, 12], [12])])
def Zbi.B8 : List Nat := [0, 0, 0, 6, 0, 16, 0, 0, 192, 448, 1008, 2046, 4095, 8191]
theorem Zbi.tab8 : rtab .any (opsOf Try.f31 8) = Zbi.T8 := by kernel_rfl
theorem Zbi.bits8 : waitsOk Zbi.T8.2 Zbi.B8 = true := by kernel_rfl
set_option maxHeartbeats 8000000 in
set_option maxRecDepth 100000 in
theorem Zbi.calls (k : Nat) : ∀ (A0 : Option Addr) (c0 : Nat) (l0 : List (S61)) (a1 : Int) (r : List (S69)) (w : World) (hr0 : Kd.C k61 w A0 l0.length l0) (hc0 : l0.length ≤ c0) (h : Zbi.f k l0 a1 = some r),
  Calls Try.prog 31 #[.slice A0 l0.length c0, .int .i64 a1] w fun e w' => ∃ v0_ : Value, e = .returned (v0_) ∧ Kd.R k69 69 w' w.heap.size (fun _ => True) v0_ r ∧ Below w.heap.size w w' := by
 induction k using Nat.strongRecOn with
 | _ k ih =>
 intro A0 c0 l0 a1 r w hr0 hc0 h
 cases k with
 | zero => exact absurd h (by simp [Zbi.f])
 | succ k =>
 simp only [Zbi.f] at h
 have HR0 := Za.mk hr0
 have HC0 := Za.mk hc0
 clear hr0 hc0
 have HB := Za.mk (Below.refl w.heap.size w)
 have H : (if (l0.length : Int) = 1 then (if 0 < (l0.length : Int) then ((Zak.f 2 21 ((Zi l0 0).f1) 0).bind fun bt326 => ((some (([(⟨bt326.1, (⟨bt326.2.1, bt326.2.2.1, bt326.2.2.2.1, bt326.2.2.2.2.1⟩ : S52), bt326.2.2.2.2.2⟩ : S69)] : List (S69)) : List (S69))).bind fun y332 => ((Zaz.f k ((Zi l0 0).f2) a1).bind fun t336 => (if y332.length + t336.length < 5864062014805 then (some (y332 ++ t336)) else (none))))) else (none)) else (if 0 ≤ (wrap64 ((l0.length : Int) / 2)) then (if (wrap64 ((l0.length : Int) / 2)) < (l0.length : Int) then ((Zak.f 1 53 ((Zi l0 (wrap64 ((l0.length : Int) / 2))).f1) a1).bind fun bt343 => ((some (([(⟨bt343.1, (⟨bt343.2.1, bt343.2.2.1, bt343.2.2.2.1, bt343.2.2.2.2.1⟩ : S52), bt343.2.2.2.2.2⟩ : S69)] : List (S69)) : List (S69))).bind fun y349 => (if (wrap64 ((l0.length : Int) / 2)) ≤ (l0.length : Int) then ((Zbi.f k (l0.take ((wrap64 ((l0.length : Int) / 2)) : Int).toNat) (wrap64 (a1 + 1))).bind fun t356 => (if y349.length + t356.length < 5864062014805 then ((some (y349 ++ t356 : List (S69))).bind fun y359 => ((Zax.f a1).bind fun bt362 => (if y359.length < 5864062014805 then ((some (y359 ++ [(⟨bt362.1, (⟨bt362.2.1, bt362.2.2.1, bt362.2.2.2.1, bt362.2.2.2.2.1⟩ : S52), bt362.2.2.2.2.2⟩ : S69)] : List (S69))).bind fun y368 => ((Zbo.f k (l0.take ((wrap64 ((l0.length : Int) / 2)) : Int).toNat)).bind fun t379 => ((Zbi.f k (l0.drop ((wrap64 ((l0.length : Int) / 2)) : Int).toNat) (wrap64 ((wrap64 (a1 + 1)) + t379))).bind fun t380 => (if y368.length + t380.length < 5864062014805 then (some (y368 ++ t380)) else (none))))) else (none)))) else (none))) else (none)))) else (none)) else (none))) = some r := h
 clear h
 by_cases c3 : (l0.length : Int) = 1
 ·rw [if_pos c3] at H
  have c3b0 : ((l0.length : Int) == 1) = true := beq_iff_eq.mpr c3
  have c3b1 : ((l0.length : Int) != 1) = false := bne_eq_false_iff_eq.mpr c3
  clear c3
  by_cases c4 : 0 < (l0.length : Int)
  ·rw [if_pos c4] at H
   have c4b0 : decide (0 < (l0.length : Int)) = true := decide_eq_true c4
   have c4b1 : decide (0 < l0.length) = true := decide_eq_true (by omega)
   clear c4
   replace H := Option.bind_eq_some_iff.mp H
   obtain ⟨⟨t326, t327, t328, t329, t330, t331⟩, A50, H⟩ := H
   replace H : ((some (([(⟨t326, (⟨t327, t328, t329, t330⟩ : S52), t331⟩ : S69)] : List (S69)) : List (S69))).bind fun y332 => ((Zaz.f k ((Zi l0 0).f2) a1).bind fun t336 => (if y332.length + t336.length < 5864062014805 then (some (y332 ++ t336)) else (none)))) = some r := H
   have A5 := Za.mk A50
   clear A50
   obtain ⟨y332, hy332⟩ : ∃ y_ : List (S69), y_ = (([(⟨t326, (⟨t327, t328, t329, t330⟩ : S52), t331⟩ : S69)] : List (S69))) := ⟨_, rfl⟩
   replace H : ((Zaz.f k ((Zi l0 0).f2) a1).bind fun t336 => (if y332.length + t336.length < 5864062014805 then (some (y332 ++ t336)) else (none))) = some r := by first | (rw [hy332]; with_reducible exact H) | (have H2_ := (Option.bind_some _ _).symm.trans H; rw [hy332]; with_reducible exact H2_) | (have H2_ := (Option.bind_some _ _).symm.trans H; with_reducible exact H2_) | with_reducible exact H | (rw [hy332]; exact H) | exact H
   have Ny332 := Za.mk hy332
   clear hy332
   replace H := Option.bind_eq_some_iff.mp H
   obtain ⟨t336, A60, H⟩ := H
   replace H : (if y332.length + t336.length < 5864062014805 then (some (y332 ++ t336)) else (none)) = some r := H
   have A6 := Za.mk A60
   clear A60
   by_cases c7 : y332.length + t336.length < 5864062014805
   ·rw [if_pos c7] at H
    have LMc7 := Za.mk c7
    clear c7
    obtain ⟨y339, hy339⟩ : ∃ y_ : List (S69), y_ = (y332 ++ t336) := ⟨_, rfl⟩
    replace H : (some y339) = some r := by first | (rw [hy339]; with_reducible exact H) | (have H2_ := (Option.bind_some _ _).symm.trans H; rw [hy339]; with_reducible exact H2_) | (have H2_ := (Option.bind_some _ _).symm.trans H; with_reducible exact H2_) | with_reducible exact H | (rw [hy339]; exact H) | exact H
    have Ny339 := Za.mk hy339
    clear hy339
    obtain rfl := Option.some.inj H
    have p325 : 0 ≤ (0 : Int) := (by omega)
    have q325 : 0 < (l0.length : Int) := of_decide_eq_true (by assumption)
    obtain ⟨ad325, A325_2, c325_2, e325, hx325_0, hx325_1, hx325_2, hl325_2, hi325_2⟩ := at_T61 HR0.out 0 p325 q325
    cases e325
    have qi325 : (0 < l0.length) = True := eq_true (by omega)
    (try rw [show ((0 : Int)).toNat = 0 from rfl] at hx325_0)
    (try rw [show 0 * 3 = 0 from rfl] at hx325_0)
    (try rw [Addr.add_zero'] at hx325_0)
    (try rw [show ((0 : Int)).toNat = 0 from rfl] at hx325_1)
    (try rw [show 0 * 3 = 0 from rfl] at hx325_1)
    (try rw [Addr.add_zero'] at hx325_1)
    (try rw [show ((0 : Int)).toNat = 0 from rfl] at hx325_2)
    (try rw [show 0 * 3 = 0 from rfl] at hx325_2)
    (try rw [Addr.add_zero'] at hx325_2)
    have HR325_2 := Za.mk hi325_2
    have HC325_2 := Za.mk hl325_2
    clear hi325_2 hl325_2
    replace p325 := eq_true p325
    replace q325 := eq_true q325
    go_enter Try.func31, Try.ntmps31
    go_wp2_with (first | ((with_reducible refine Zaj (f := 30) rfl ?_); refine Zai (some 15) rfl rfl Try.func30 (by kernel_rfl) rfl #[.int .i64 2, .int .u16 21, .int .u32 ((Zi l0 0).f1), .int .i64 0] rfl (by (try simp only [ZA, ZB, ZC]); first | done | rfl | (simp only [List.length_drop, List.length_take]; rfl)) ?_; (with_reducible refine (Zak.calls 2 21 ((Zi l0 0).f1) 0 t326 t327 t328 t329 t330 t331 _ A5.out).mono ?_); rintro e w8 ⟨rfl, hb⟩; refine ⟨_, rfl, ?_⟩; replace HB := Za.mk (Zo (by with_reducible repeat first | exact HB.out | apply Zc | apply Ze | apply Zd) hb); (try clear hb); (try clear hb2); (try clear hk); (try clear hi)) | ((with_reducible refine Zab (N := 16) rfl ?_); refine Kd.R_lit k69 _ 69 ?hg (N := 16) ?hd (xs := ([(⟨t326, (⟨t327, t328, t329, t330⟩ : S52), t331⟩ : S69)] : List (S69))) (inner := [.int .i64 t326, .int .u16 t327, .int .u8 t328, .int .u8 t329, .int .u32 t330, .int .i64 t331]) (ok := fun _ => True) (okp := fun _ => True) ?hr ?hp (fun _ hk => hk) trivial (Below.refl _ _) (Nat.le_refl _) (by simp) ?_; (case hd => rfl); (case hg => rfl); (case hr => go_simp <;> rfl); (case hp => exact (Reps.c6 (show Kd.M k69 _ _ _ (⟨t326, (⟨t327, t328, t329, t330⟩ : S52), t331⟩ : S69) [.int .i64 t326, .int .u16 t327, .int .u8 t328, .int .u8 t329, .int .u32 t330, .int .i64 t331] from (Zbg _ _ _ (⟨t326, (⟨t327, t328, t329, t330⟩ : S52), t331⟩ : S69) )) (Reps.none _ _))); intro v333 w9 ho10 hb hg_ hnew_; clear hg_ hnew_; (first | rw [← Ny332.out] at ho10 | (simp only [Int.reduceToNat] at ho10; rw [← Ny332.out] at ho10)); have HO334 := Za.mk (Kd.Zbk ho10 (Zl (by with_reducible repeat first | exact HB.out | apply Zc | apply Ze | apply Zd))); replace HB := Za.mk (Zo (by with_reducible repeat first | exact HB.out | apply Zc | apply Ze | apply Zd) hb); clear hb ho10; have p335 : 0 ≤ (0 : Int) := (by omega); have q335 : 0 < (l0.length : Int) := of_decide_eq_true (by assumption); obtain ⟨ad335, A335_2, c335_2, e335, hx335_0, hx335_1, hx335_2, hl335_2, hi335_2⟩ := at_T61 HR0.out 0 p335 q335; obtain rfl : ad325 = ad335 := (by injection e335); have qi335 : (0 < l0.length) = True := eq_true (by omega); (try rw [show ((0 : Int)).toNat = 0 from rfl] at hx335_0); (try rw [show 0 * 3 = 0 from rfl] at hx335_0); (try rw [Addr.add_zero'] at hx335_0); (try rw [show ((0 : Int)).toNat = 0 from rfl] at hx335_1); (try rw [show 0 * 3 = 0 from rfl] at hx335_1); (try rw [Addr.add_zero'] at hx335_1); (try rw [show ((0 : Int)).toNat = 0 from rfl] at hx335_2); (try rw [show 0 * 3 = 0 from rfl] at hx335_2); (try rw [Addr.add_zero'] at hx335_2); replace hx335_0 := (HB.out.cell (World.block_lt_of_cell? w _ hx335_0)).trans hx335_0; replace hx335_1 := (HB.out.cell (World.block_lt_of_cell? w _ hx335_1)).trans hx335_1; replace hx335_2 := (HB.out.cell (World.block_lt_of_cell? w _ hx335_2)).trans hx335_2; have HR335_2 := Za.mk hi335_2; have HC335_2 := Za.mk hl335_2; clear hi335_2 hl335_2; replace p335 := eq_true p335; replace q335 := eq_true q335) | ((with_reducible refine Zaj (f := 53) rfl ?_); refine Zai (some 23) rfl rfl Try.func53 (by kernel_rfl) rfl #[.slice A335_2 ((Zi l0 0).f2).length c335_2, .int .i64 a1] rfl (by (try simp only [ZA, ZB, ZC]); first | done | rfl | (simp only [List.length_drop, List.length_take]; rfl)) ?_; (with_reducible refine (Zaz.calls k _ _ ((Zi l0 0).f2) a1 t336 _ ?side1 ?side2 A6.out).mono ?_); (case side1 => repeat (first | exact (Kd.Zan HR335_2.out HB.out) | (with_reducible refine Kd.Zau ?_ _) | (with_reducible refine Kd.Zaw ?_ _) | (with_reducible refine Kd.Zav ?_))); (case side2 => exact HC335_2.out); rintro e w11 ⟨v337, rfl, ho0, hb⟩; refine ⟨_, rfl, ?_⟩; have HO338 := Za.mk (Kd.Zbk (Kd.R_new' ho0 (Kd.R_lt (by (with_reducible repeat (first | apply Kd.Zaa | apply Kd.Zy | apply Kd.Zz)); exact HO334.out))) (Zl (by with_reducible repeat first | exact HB.out | apply Zc | apply Ze | apply Zd))); replace HO334 := Za.mk (Kd.R_elder' (by (with_reducible repeat (first | apply Kd.Zaa | apply Kd.Zy | apply Kd.Zz)); exact HO334.out) (Kd.R_base ho0) hb); replace HB := Za.mk (Zo (by with_reducible repeat first | exact HB.out | apply Zc | apply Ze | apply Zd) hb); (try clear hb); (try clear hb2); (try clear hk); (try clear hi); (try clear ho0); obtain ⟨Ao13, co13, eo13⟩ := Kd.Zay HO338.out; subst eo13) | ((with_reducible refine Zba (b := .append) (xs := #[.tmp 17, .tmp 23]) rfl ?_); at_builtin; refine Kd.R_append_rows k69 (w0 := w) w.heap.size rfl (.tmp 17) (.tmp 23) 41 69 (.agg #[(.int .i64 0), (.int .u16 0), (.int .u8 0), (.int .u8 0), (.int .u32 0), (.int .i64 0)]) 24 rfl Try.underlying41 info69 rfl (by decide) (by omega) v333 y332 t336 _ _ _ (fun k_ => some k_ ≠ (.slice Ao13 t336.length co13 : Value).ownBlock) (fun _ => False) rfl rfl ?aO ?aR (fun _ _ h => h) (fun _ h => h.elim) ?aF ?aB ?aS ?aL ?_; (case aR => repeat (first | exact (Kd.Zat HO338.out).2.2 | (with_reducible refine Kd.Zau ?_ _) | (with_reducible refine Kd.Zaw ?_ _) | (with_reducible refine Kd.Zav ?_))); (case aB => exact (by with_reducible repeat first | exact HB.out | apply Zc | apply Ze | apply Zd)); (case aF => exact (fun k_ hk => Kd.fresh' (Kd.R_lt (by (with_reducible repeat (first | apply Kd.Zaa | apply Kd.Zy | apply Kd.Zz)); exact HO338.out)) k_ hk)); (case aO => exact (by (with_reducible repeat (first | apply Kd.Zaa | apply Kd.Zy | apply Kd.Zz)); exact Kd.Zas HO334.out (fun _ hk => hk.2))); (case aS => exact (Zl (by with_reducible repeat first | exact HB.out | apply Zc | apply Ze | apply Zd))); (case aL => have := LMc7.out; omega); intro v340 w12 ho hb hg hat; rw [← Ny339.out] at ho; have n0_ := Za.mk (Kd.R_after (ok := (fun _ => True)) (by (with_reducible repeat (first | apply Kd.Zaa | apply Kd.Zy | apply Kd.Zz)); exact HO338.out) hg hat); have n1_ := Za.mk (hb); have n2_ := Za.mk (ho); clear HO338; clear HB; clear HO334; have HO338 := n0_; have HB := n1_; have HO341 := n2_; clear n0_ n1_ n2_; clear ho hb hg hat))
    go_ret
    exact ⟨_, by first | rfl | (simp [Zm, Zn] <;> rfl) | (simp [*, Zm, Zn] <;> rfl), by (with_reducible repeat (first | apply Kd.Zaa | apply Kd.Zy | apply Kd.Zz)); exact Kd.Zas HO341.out (fun _ hk => trivial), by with_reducible repeat first | exact HB.out | apply Zc | apply Ze | apply Zd⟩
   rw [if_neg c7] at H
   exact absurd H (by simp)
  rw [if_neg c4] at H
  exact absurd H (by simp)
 rw [if_neg c3] at H
 have c3b0 : ((l0.length : Int) == 1) = false := beq_eq_false_iff_ne.mpr c3
 have c3b1 : ((l0.length : Int) != 1) = true := bne_iff_ne.mpr c3
 obtain ⟨ji14, hji14⟩ : ∃ j_ : Int, (wrap64 ((l0.length : Int) / 2)) = j_ := ⟨_, rfl⟩
 replace H : (if 0 ≤ (ji14) then (if (ji14) < (l0.length : Int) then ((Zak.f 1 53 ((Zi l0 (ji14)).f1) a1).bind fun bt343 => ((some (([(⟨bt343.1, (⟨bt343.2.1, bt343.2.2.1, bt343.2.2.2.1, bt343.2.2.2.2.1⟩ : S52), bt343.2.2.2.2.2⟩ : S69)] : List (S69)) : List (S69))).bind fun y349 => (if (ji14) ≤ (l0.length : Int) then ((Zbi.f k (l0.take ((ji14) : Int).toNat) (wrap64 (a1 + 1))).bind fun t356 => (if y349.length + t356.length < 5864062014805 then ((some (y349 ++ t356 : List (S69))).bind fun y359 => ((Zax.f a1).bind fun bt362 => (if y359.length < 5864062014805 then ((some (y359 ++ [(⟨bt362.1, (⟨bt362.2.1, bt362.2.2.1, bt362.2.2.2.1, bt362.2.2.2.2.1⟩ : S52), bt362.2.2.2.2.2⟩ : S69)] : List (S69))).bind fun y368 => ((Zbo.f k (l0.take ((ji14) : Int).toNat)).bind fun t379 => ((Zbi.f k (l0.drop ((ji14) : Int).toNat) (wrap64 ((wrap64 (a1 + 1)) + t379))).bind fun t380 => (if y368.length + t380.length < 5864062014805 then (some (y368 ++ t380)) else (none))))) else (none)))) else (none))) else (none)))) else (none)) else (none)) = some r := by first | (rw [hji14] at H; exact H) | (simp only [hji14] at H ⊢; exact H)
 have hji14w : (IntKind.i64.wrap ((l0.length : Int) / 2)) = ji14 := (Zu _).trans hji14
 by_cases c15 : 0 ≤ (ji14)
 ·rw [if_pos c15] at H
  have c15b0 : decide (0 ≤ (ji14)) = true := decide_eq_true c15
  clear c15
  by_cases c16 : (ji14) < (l0.length : Int)
  ·rw [if_pos c16] at H
   have c16b0 : decide ((ji14) < (l0.length : Int)) = true := decide_eq_true c16
   clear c16
   replace H := Option.bind_eq_some_iff.mp H
   obtain ⟨⟨t343, t344, t345, t346, t347, t348⟩, A170, H⟩ := H
   replace H : ((some (([(⟨t343, (⟨t344, t345, t346, t347⟩ : S52), t348⟩ : S69)] : List (S69)) : List (S69))).bind fun y349 => (if (ji14) ≤ (l0.length : Int) then ((Zbi.f k (l0.take ((ji14) : Int).toNat) (wrap64 (a1 + 1))).bind fun t356 => (if y349.length + t356.length < 5864062014805 then ((some (y349 ++ t356 : List (S69))).bind fun y359 => ((Zax.f a1).bind fun bt362 => (if y359.length < 5864062014805 then ((some (y359 ++ [(⟨bt362.1, (⟨bt362.2.1, bt362.2.2.1, bt362.2.2.2.1, bt362.2.2.2.2.1⟩ : S52), bt362.2.2.2.2.2⟩ : S69)] : List (S69))).bind fun y368 => ((Zbo.f k (l0.take ((ji14) : Int).toNat)).bind fun t379 => ((Zbi.f k (l0.drop ((ji14) : Int).toNat) (wrap64 ((wrap64 (a1 + 1)) + t379))).bind fun t380 => (if y368.length + t380.length < 5864062014805 then (some (y368 ++ t380)) else (none))))) else (none)))) else (none))) else (none))) = some r := H
   have A17 := Za.mk A170
   clear A170
   obtain ⟨y349, hy349⟩ : ∃ y_ : List (S69), y_ = (([(⟨t343, (⟨t344, t345, t346, t347⟩ : S52), t348⟩ : S69)] : List (S69))) := ⟨_, rfl⟩
   replace H : (if (ji14) ≤ (l0.length : Int) then ((Zbi.f k (l0.take ((ji14) : Int).toNat) (wrap64 (a1 + 1))).bind fun t356 => (if y349.length + t356.length < 5864062014805 then ((some (y349 ++ t356 : List (S69))).bind fun y359 => ((Zax.f a1).bind fun bt362 => (if y359.length < 5864062014805 then ((some (y359 ++ [(⟨bt362.1, (⟨bt362.2.1, bt362.2.2.1, bt362.2.2.2.1, bt362.2.2.2.2.1⟩ : S52), bt362.2.2.2.2.2⟩ : S69)] : List (S69))).bind fun y368 => ((Zbo.f k (l0.take ((ji14) : Int).toNat)).bind fun t379 => ((Zbi.f k (l0.drop ((ji14) : Int).toNat) (wrap64 ((wrap64 (a1 + 1)) + t379))).bind fun t380 => (if y368.length + t380.length < 5864062014805 then (some (y368 ++ t380)) else (none))))) else (none)))) else (none))) else (none)) = some r := by first | (rw [hy349]; with_reducible exact H) | (have H2_ := (Option.bind_some _ _).symm.trans H; rw [hy349]; with_reducible exact H2_) | (have H2_ := (Option.bind_some _ _).symm.trans H; with_reducible exact H2_) | with_reducible exact H | (rw [hy349]; exact H) | exact H
   have Ny349 := Za.mk hy349
   clear hy349
   have c18b0 := eq_true (of_decide_eq_true (by assumption) : 0 ≤ (ji14))
   by_cases c19 : (ji14) ≤ (l0.length : Int)
   ·rw [if_pos c19] at H
    have c19b0 := eq_true c19
    have c19b1 : decide ((ji14) ≤ (l0.length : Int)) = true := decide_eq_true c19
    clear c19
    obtain ⟨y352, hy352⟩ : ∃ y_ : List (S61), y_ = (l0.take ((ji14) : Int).toNat) := ⟨_, rfl⟩
    replace H : ((Zbi.f k y352 (wrap64 (a1 + 1))).bind fun t356 => (if y349.length + t356.length < 5864062014805 then ((some (y349 ++ t356 : List (S69))).bind fun y359 => ((Zax.f a1).bind fun bt362 => (if y359.length < 5864062014805 then ((some (y359 ++ [(⟨bt362.1, (⟨bt362.2.1, bt362.2.2.1, bt362.2.2.2.1, bt362.2.2.2.2.1⟩ : S52), bt362.2.2.2.2.2⟩ : S69)] : List (S69))).bind fun y368 => ((Zbo.f k (l0.take ((ji14) : Int).toNat)).bind fun t379 => ((Zbi.f k (l0.drop ((ji14) : Int).toNat) (wrap64 ((wrap64 (a1 + 1)) + t379))).bind fun t380 => (if y368.length + t380.length < 5864062014805 then (some (y368 ++ t380)) else (none))))) else (none)))) else (none))) = some r := by first | (rw [hy352]; with_reducible exact H) | (have H2_ := (Option.bind_some _ _).symm.trans H; rw [hy352]; with_reducible exact H2_) | (have H2_ := (Option.bind_some _ _).symm.trans H; with_reducible exact H2_) | with_reducible exact H | (rw [hy352]; exact H) | exact H
    have Ny352 := Za.mk hy352
    clear hy352
    replace H := Option.bind_eq_some_iff.mp H
    obtain ⟨t356, A200, H⟩ := H
    replace H : (if y349.length + t356.length < 5864062014805 then ((some (y349 ++ t356 : List (S69))).bind fun y359 => ((Zax.f a1).bind fun bt362 => (if y359.length < 5864062014805 then ((some (y359 ++ [(⟨bt362.1, (⟨bt362.2.1, bt362.2.2.1, bt362.2.2.2.1, bt362.2.2.2.2.1⟩ : S52), bt362.2.2.2.2.2⟩ : S69)] : List (S69))).bind fun y368 => ((Zbo.f k (l0.take ((ji14) : Int).toNat)).bind fun t379 => ((Zbi.f k (l0.drop ((ji14) : Int).toNat) (wrap64 ((wrap64 (a1 + 1)) + t379))).bind fun t380 => (if y368.length + t380.length < 5864062014805 then (some (y368 ++ t380)) else (none))))) else (none)))) else (none)) = some r := H
    have A20 := Za.mk A200
    clear A200
    by_cases c21 : y349.length + t356.length < 5864062014805
    ·rw [if_pos c21] at H
     have LMc21 := Za.mk c21
     clear c21
     obtain ⟨y359, hy359⟩ : ∃ y_ : List (S69), y_ = (y349 ++ t356) := ⟨_, rfl⟩
     replace H : ((Zax.f a1).bind fun bt362 => (if y359.length < 5864062014805 then ((some (y359 ++ [(⟨bt362.1, (⟨bt362.2.1, bt362.2.2.1, bt362.2.2.2.1, bt362.2.2.2.2.1⟩ : S52), bt362.2.2.2.2.2⟩ : S69)] : List (S69))).bind fun y368 => ((Zbo.f k (l0.take ((ji14) : Int).toNat)).bind fun t379 => ((Zbi.f k (l0.drop ((ji14) : Int).toNat) (wrap64 ((wrap64 (a1 + 1)) + t379))).bind fun t380 => (if y368.length + t380.length < 5864062014805 then (some (y368 ++ t380)) else (none))))) else (none))) = some r := by first | (rw [hy359]; with_reducible exact H) | (have H2_ := (Option.bind_some _ _).symm.trans H; rw [hy359]; with_reducible exact H2_) | (have H2_ := (Option.bind_some _ _).symm.trans H; with_reducible exact H2_) | with_reducible exact H | (rw [hy359]; exact H) | exact H
     have Ny359 := Za.mk hy359
     clear hy359
     replace H := Option.bind_eq_some_iff.mp H
     obtain ⟨⟨t362, t363, t364, t365, t366, t367⟩, A220, H⟩ := H
     replace H : (if y359.length < 5864062014805 then ((some (y359 ++ [(⟨t362, (⟨t363, t364, t365, t366⟩ : S52), t367⟩ : S69)] : List (S69))).bind fun y368 => ((Zbo.f k (l0.take ((ji14) : Int).toNat)).bind fun t379 => ((Zbi.f k (l0.drop ((ji14) : Int).toNat) (wrap64 ((wrap64 (a1 + 1)) + t379))).bind fun t380 => (if y368.length + t380.length < 5864062014805 then (some (y368 ++ t380)) else (none))))) else (none)) = some r := H
     have A22 := Za.mk A220
     clear A220
     by_cases c23 : y359.length < 5864062014805
     ·rw [if_pos c23] at H
      have LMc23 := Za.mk c23
      clear c23
      obtain ⟨y368, hy368⟩ : ∃ y_ : List (S69), y_ = (y359 ++ [(⟨t362, (⟨t363, t364, t365, t366⟩ : S52), t367⟩ : S69)]) := ⟨_, rfl⟩
      replace H : ((Zbo.f k (l0.take ((ji14) : Int).toNat)).bind fun t379 => ((Zbi.f k (l0.drop ((ji14) : Int).toNat) (wrap64 ((wrap64 (a1 + 1)) + t379))).bind fun t380 => (if y368.length + t380.length < 5864062014805 then (some (y368 ++ t380)) else (none)))) = some r := by first | (rw [hy368]; with_reducible exact H) | (have H2_ := (Option.bind_some _ _).symm.trans H; rw [hy368]; with_reducible exact H2_) | (have H2_ := (Option.bind_some _ _).symm.trans H; with_reducible exact H2_) | with_reducible exact H | (rw [hy368]; exact H) | exact H
      have Ny368 := Za.mk hy368
      clear hy368
      have c24b0 := eq_true (of_decide_eq_true (by assumption) : 0 ≤ (ji14))
      have c25b0 := eq_true (of_decide_eq_true (by assumption) : (ji14) ≤ (l0.length : Int))
      obtain ⟨y371, hy371⟩ : ∃ y_ : List (S61), y_ = (l0.drop ((ji14) : Int).toNat) := ⟨_, rfl⟩
      replace H : ((Zbo.f k (l0.take ((ji14) : Int).toNat)).bind fun t379 => ((Zbi.f k y371 (wrap64 ((wrap64 (a1 + 1)) + t379))).bind fun t380 => (if y368.length + t380.length < 5864062014805 then (some (y368 ++ t380)) else (none)))) = some r := by first | (rw [hy371]; with_reducible exact H) | (have H2_ := (Option.bind_some _ _).symm.trans H; rw [hy371]; with_reducible exact H2_) | (have H2_ := (Option.bind_some _ _).symm.trans H; with_reducible exact H2_) | with_reducible exact H | (rw [hy371]; exact H) | exact H
      have Ny371 := Za.mk hy371
      clear hy371
      have c26b0 := eq_true (of_decide_eq_true (by assumption) : 0 ≤ (ji14))
      have c27b0 := eq_true (of_decide_eq_true (by assumption) : (ji14) ≤ (l0.length : Int))
      obtain ⟨y375, hy375⟩ : ∃ y_ : List (S61), y_ = (l0.take ((ji14) : Int).toNat) := ⟨_, rfl⟩
      replace H : ((Zbo.f k y375).bind fun t379 => ((Zbi.f k y371 (wrap64 ((wrap64 (a1 + 1)) + t379))).bind fun t380 => (if y368.length + t380.length < 5864062014805 then (some (y368 ++ t380)) else (none)))) = some r := by first | (rw [hy375]; with_reducible exact H) | (have H2_ := (Option.bind_some _ _).symm.trans H; rw [hy375]; with_reducible exact H2_) | (have H2_ := (Option.bind_some _ _).symm.trans H; with_reducible exact H2_) | with_reducible exact H | (rw [hy375]; exact H) | exact H
      have Ny375 := Za.mk hy375
      clear hy375
      replace H := Option.bind_eq_some_iff.mp H
      obtain ⟨t379, A280, H⟩ := H
      replace H : ((Zbi.f k y371 (wrap64 ((wrap64 (a1 + 1)) + t379))).bind fun t380 => (if y368.length + t380.length < 5864062014805 then (some (y368 ++ t380)) else (none))) = some r := H
      have A28 := Za.mk A280
      clear A280
      replace H := Option.bind_eq_some_iff.mp H
      obtain ⟨t380, A290, H⟩ := H
      replace H : (if y368.length + t380.length < 5864062014805 then (some (y368 ++ t380)) else (none)) = some r := H
      have A29 := Za.mk A290
      clear A290
      by_cases c30 : y368.length + t380.length < 5864062014805
      ·rw [if_pos c30] at H
       have LMc30 := Za.mk c30
       clear c30
       obtain ⟨y383, hy383⟩ : ∃ y_ : List (S69), y_ = (y368 ++ t380) := ⟨_, rfl⟩
       replace H : (some y383) = some r := by first | (rw [hy383]; with_reducible exact H) | (have H2_ := (Option.bind_some _ _).symm.trans H; rw [hy383]; with_reducible exact H2_) | (have H2_ := (Option.bind_some _ _).symm.trans H; with_reducible exact H2_) | with_reducible exact H | (rw [hy383]; exact H) | exact H
       have Ny383 := Za.mk hy383
       clear hy383
       obtain rfl := Option.some.inj H
       have p342 : 0 ≤ ((ji14) : Int) := of_decide_eq_true (by assumption)
       have q342 : (ji14) < (l0.length : Int) := of_decide_eq_true (by assumption)
       obtain ⟨ad342, A342_2, c342_2, e342, hx342_0, hx342_1, hx342_2, hl342_2, hi342_2⟩ := at_T61 HR0.out (ji14) p342 q342
       cases e342
       have HR342_2 := Za.mk hi342_2
       have HC342_2 := Za.mk hl342_2
       clear hi342_2 hl342_2
       replace p342 := eq_true p342
       replace q342 := eq_true q342
       go_enter Try.func31, Try.ntmps31
       try go_wp2_with (first | ((with_reducible refine Zaj (f := 30) rfl ?_); refine Zai (some 34) rfl rfl Try.func30 (by kernel_rfl) rfl #[.int .i64 1, .int .u16 53, .int .u32 ((Zi l0 (ji14)).f1), .int .i64 a1] rfl (by (try simp only [List.map_toArray, List.map_cons, List.map_nil]); first | done | (simp only [hji14]; rfl) | rfl | (simp only [List.length_drop, List.length_take]; rfl)) ?_; (with_reducible refine (Zak.calls 1 53 ((Zi l0 (ji14)).f1) a1 t343 t344 t345 t346 t347 t348 _ A17.out).mono ?_); rintro e w31 ⟨rfl, hb⟩; refine ⟨_, rfl, ?_⟩; replace HB := Za.mk (Zo (by with_reducible repeat first | exact HB.out | apply Zc | apply Ze | apply Zd) hb); (try clear hb); (try clear hb2); (try clear hk); (try clear hi)) | ((with_reducible refine Zab (N := 35) rfl ?_); refine Kd.R_lit k69 _ 69 ?hg (N := 35) ?hd (xs := ([(⟨t343, (⟨t344, t345, t346, t347⟩ : S52), t348⟩ : S69)] : List (S69))) (inner := [.int .i64 t343, .int .u16 t344, .int .u8 t345, .int .u8 t346, .int .u32 t347, .int .i64 t348]) (ok := fun _ => True) (okp := fun _ => True) ?hr ?hp (fun _ hk => hk) trivial (Below.refl _ _) (Nat.le_refl _) (by simp) ?_; (case hd => rfl); (case hg => rfl); (case hr => go_simp <;> rfl); (case hp => exact (Reps.c6 (show Kd.M k69 _ _ _ (⟨t343, (⟨t344, t345, t346, t347⟩ : S52), t348⟩ : S69) [.int .i64 t343, .int .u16 t344, .int .u8 t345, .int .u8 t346, .int .u32 t347, .int .i64 t348] from (Zbg _ _ _ (⟨t343, (⟨t344, t345, t346, t347⟩ : S52), t348⟩ : S69) )) (Reps.none _ _))); intro v350 w32 ho33 hb hg_ hnew_; clear hg_ hnew_; (first | rw [← Ny349.out] at ho33 | (simp only [Int.reduceToNat] at ho33; rw [← Ny349.out] at ho33)); have HO351 := Za.mk (Kd.Zbk ho33 (Zl (by with_reducible repeat first | exact HB.out | apply Zc | apply Ze | apply Zd))); replace HB := Za.mk (Zo (by with_reducible repeat first | exact HB.out | apply Zc | apply Ze | apply Zd) hb); clear hb ho33; have q34 : ((ji14) : Int) ≤ ((l0.length : Int) : Int) := of_decide_eq_true (by assumption); obtain ⟨i034, hi034, _, hsz34, _⟩ := info_parts info61; have hroom34 : l0.length ≤ c0 := HC0.out; have hC34 : Kd.C k61 _ (some ad342) l0.length l0 := HR0.out; have hcut34 := cut_to (P := Try.prog) 29 61 .i64 Try.underlying29 hi034 (some ad342) l0.length c0 (ji14) (of_decide_eq_true (by assumption)) q34 hroom34; have hr34 := Kd.C_take (m := ((ji14) : Int).toNat) hC34 (by omega); have hy34 : y352.length = ((ji14) : Int).toNat := (by rw [Ny352.out, List.length_take]; omega); rw [← Ny352.out] at hr34; rw [← hy34] at hcut34; have HR355 := Za.mk hr34; have HC355 := Za.mk (show y352.length ≤ c0 from by omega); clear hr34 hC34 hroom34 hi034 hsz34; have KY34 := Za.mk hy34; clear hy34; replace q34 := eq_true q34) | ((with_reducible refine Zaj (f := 31) rfl ?_); refine Zai (some 42) rfl rfl Try.func31 (by kernel_rfl) rfl #[.slice (some ad342) y352.length c0, .int .i64 (wrap64 (a1 + 1))] rfl (by (try simp only [ZA, ZB, ZC]); first | done | rfl | (simp only [List.length_drop, List.length_take]; rfl)) ?_; (with_reducible refine (ih k (by omega) _ _ y352 (wrap64 (a1 + 1)) t356 _ ?side1 ?side2 A20.out).mono ?_); (case side1 => repeat (first | exact (Kd.Zan HR355.out HB.out) | (with_reducible refine Kd.Zau ?_ _) | (with_reducible refine Kd.Zaw ?_ _) | (with_reducible refine Kd.Zav ?_))); (case side2 => exact HC355.out); rintro e w35 ⟨v357, rfl, ho0, hb⟩; refine ⟨_, rfl, ?_⟩; have HO358 := Za.mk (Kd.Zbk (Kd.R_new' ho0 (Kd.R_lt (by (with_reducible repeat (first | apply Kd.Zaa | apply Kd.Zy | apply Kd.Zz)); exact HO351.out))) (Zl (by with_reducible repeat first | exact HB.out | apply Zc | apply Ze | apply Zd))); replace HO351 := Za.mk (Kd.R_elder' (by (with_reducible repeat (first | apply Kd.Zaa | apply Kd.Zy | apply Kd.Zz)); exact HO351.out) (Kd.R_base ho0) hb); replace HB := Za.mk (Zo (by with_reducible repeat first | exact HB.out | apply Zc | apply Ze | apply Zd) hb); (try clear hb); (try clear hb2); (try clear hk); (try clear hi); (try clear ho0); obtain ⟨Ao37, co37, eo37⟩ := Kd.Zay HO358.out; subst eo37) | ((with_reducible refine Zba (b := .append) (xs := #[.tmp 36, .tmp 42]) rfl ?_); at_builtin; refine Kd.R_append_rows k69 (w0 := w) w.heap.size rfl (.tmp 36) (.tmp 42) 41 69 (.agg #[(.int .i64 0), (.int .u16 0), (.int .u8 0), (.int .u8 0), (.int .u32 0), (.int .i64 0)]) 24 rfl Try.underlying41 info69 rfl (by decide) (by omega) v350 y349 t356 _ _ _ (fun k_ => some k_ ≠ (.slice Ao37 t356.length co37 : Value).ownBlock) (fun _ => False) rfl rfl ?aO ?aR (fun _ _ h => h) (fun _ h => h.elim) ?aF ?aB ?aS ?aL ?_; (case aR => repeat (first | exact (Kd.Zat HO358.out).2.2 | (with_reducible refine Kd.Zau ?_ _) | (with_reducible refine Kd.Zaw ?_ _) | (with_reducible refine Kd.Zav ?_))); (case aB => exact (by with_reducible repeat first | exact HB.out | apply Zc | apply Ze | apply Zd)); (case aF => exact (fun k_ hk => Kd.fresh' (Kd.R_lt (by (with_reducible repeat (first | apply Kd.Zaa | apply Kd.Zy | apply Kd.Zz)); exact HO358.out)) k_ hk)); (case aO => exact (by (with_reducible repeat (first | apply Kd.Zaa | apply Kd.Zy | apply Kd.Zz)); exact Kd.Zas HO351.out (fun _ hk => hk.2))); (case aS => exact (Zl (by with_reducible repeat first | exact HB.out | apply Zc | apply Ze | apply Zd))); (case aL => have := LMc21.out; omega); intro v360 w36 ho hb hg hat; rw [← Ny359.out] at ho; have n0_ := Za.mk (Kd.R_after (ok := (fun _ => True)) (by (with_reducible repeat (first | apply Kd.Zaa | apply Kd.Zy | apply Kd.Zz)); exact HO358.out) hg hat); have n1_ := Za.mk (hb); have n2_ := Za.mk (ho); clear HO358; clear HB; clear HO351; have HO358 := n0_; have HB := n1_; have HO361 := n2_; clear n0_ n1_ n2_; clear ho hb hg hat) | ((with_reducible refine Zaj (f := 32) rfl ?_); refine Zai (some 46) rfl rfl Try.func32 (by kernel_rfl) rfl #[.int .i64 a1] rfl (by (try simp only [ZA, ZB, ZC]); first | done | rfl | (simp only [List.length_drop, List.length_take]; rfl)) ?_; (with_reducible refine (Zax.calls a1 t362 t363 t364 t365 t366 t367 _ A22.out).mono ?_); rintro e w38 ⟨rfl, hb⟩; refine ⟨_, rfl, ?_⟩; replace HO358 := Za.mk (Kd.Zam (by (with_reducible repeat (first | apply Kd.Zaa | apply Kd.Zy | apply Kd.Zz)); exact HO358.out) hb); replace HO361 := Za.mk (Kd.Zam (by (with_reducible repeat (first | apply Kd.Zaa | apply Kd.Zy | apply Kd.Zz)); exact HO361.out) hb); replace HB := Za.mk (Zo (by with_reducible repeat first | exact HB.out | apply Zc | apply Ze | apply Zd) hb); (try clear hb); (try clear hb2); (try clear hk); (try clear hi)) | ((with_reducible refine Zba (b := .append) (xs := #[.tmp 44, .tmp 47]) rfl ?_); at_builtin; refine Kd.Zbb k69 (w0 := w) w.heap.size rfl (.tmp 44) (.tmp 47) 41 69 (.agg #[(.int .i64 0), (.int .u16 0), (.int .u8 0), (.int .u8 0), (.int .u32 0), (.int .i64 0)]) 24 rfl Try.underlying41 info69 rfl (by decide) (by omega) v360 y359 (⟨t362, (⟨t363, t364, t365, t366⟩ : S52), t367⟩ : S69) [.int .i64 t362, .int .u16 t363, .int .u8 t364, .int .u8 t365, .int .u32 t366, .int .i64 t367] (fun k_ => some k_ ≠ (.slice Ao37 t356.length co37 : Value).ownBlock) (fun _ => False) rfl rfl ?aP (fun _ hk => hk.elim) ?aF ?aO ?aB ?aS ?aL ?_; (case aP => exact Zbg _ _ _ (⟨t362, (⟨t363, t364, t365, t366⟩ : S52), t367⟩ : S69)); (case aB => exact (by with_reducible repeat first | exact HB.out | apply Zc | apply Ze | apply Zd)); (case aF => exact (fun k_ hk => Kd.fresh' (Kd.R_lt (by (with_reducible repeat (first | apply Kd.Zaa | apply Kd.Zy | apply Kd.Zz)); exact HO358.out)) k_ hk)); (case aO => exact (by (with_reducible repeat (first | apply Kd.Zaa | apply Kd.Zy | apply Kd.Zz)); exact HO361.out)); (case aS => exact (Zl (by with_reducible repeat first | exact HB.out | apply Zc | apply Ze | apply Zd))); (case aL => have := LMc23.out; omega); intro v369 w39 ho hb hg hat; rw [← Ny368.out] at ho; have n0_ := Za.mk (Kd.R_after (ok := (fun _ => True)) (by (with_reducible repeat (first | apply Kd.Zaa | apply Kd.Zy | apply Kd.Zz)); exact HO358.out) hg hat); have n1_ := Za.mk (hb); have n2_ := Za.mk (ho); clear HO358; clear HB; clear HO361; have HO358 := n0_; have HB := n1_; have HO370 := n2_; clear n0_ n1_ n2_; clear ho hb hg hat))
       replace HO358 := Za.mk (Kd.Zz HO358.out)
       replace HO370 := Za.mk (Kd.Zz HO370.out)
       replace HB := Za.mk (Zd HB.out)
       have q41 : ((ji14) : Int) ≤ ((l0.length : Int) : Int) := of_decide_eq_true (by assumption)
       obtain ⟨i041, hi041, _, hsz41, _⟩ := info_parts info61
       have hroom41 : l0.length ≤ c0 := HC0.out
       have hC41 : Kd.C k61 _ (some ad342) l0.length l0 := HR0.out
       have q041 : (0 : Int) ≤ ((ji14) : Int) := of_decide_eq_true (by assumption)
       have hcut41 := cut_from (P := Try.prog) 29 61 .i64 Try.underlying29 hi041 3 hsz41 (some ad342) l0.length c0 (ji14) q041 q41
       have hr41 := Kd.C_drop (m := ((ji14) : Int).toNat) (c := c0) hC41 (by omega) hroom41
       obtain ⟨A41, hA41⟩ : ∃ A1, A1 = (if c0 = ((ji14) : Int).toNat then (some ad342) else ((some ad342) : Option Addr).map (·.add (((ji14) : Int).toNat * 3))) := ⟨_, rfl⟩
       obtain ⟨c41, hc41⟩ : ∃ c1, c1 = c0 - ((ji14) : Int).toNat := ⟨_, rfl⟩
       have hy41 : y371.length = l0.length - ((ji14) : Int).toNat := (by rw [Ny371.out, List.length_drop] <;> omega)
       rw [show (l0).drop ((ji14) : Int).toNat = y371 from Ny371.out.symm] at hr41
       replace hr41 : Kd.C k61 _ A41 y371.length y371 := (by rw [hA41]; exact hr41)
       rw [← hy41, ← hA41, ← hc41] at hcut41
       have HR374 := Za.mk hr41
       have HC374 := Za.mk (show y371.length ≤ c41 from by rw [hy41, hc41]; exact Nat.sub_le_sub_right hroom41 _)
       clear hr41 hC41 hroom41 hi041 hsz41 hc41
       have KY41 := Za.mk hy41
       have KA41 := Za.mk hA41
       clear hy41 hA41
       replace q41 := eq_true q41
       have q42 : ((ji14) : Int) ≤ ((l0.length : Int) : Int) := of_decide_eq_true (by assumption)
       obtain ⟨i042, hi042, _, hsz42, _⟩ := info_parts info61
       have hroom42 : l0.length ≤ c0 := HC0.out
       have hC42 : Kd.C k61 _ (some ad342) l0.length l0 := HR0.out
       (try clear hcut34); have hcut42 := cut_to (P := Try.prog) 29 61 .i64 Try.underlying29 hi042 (some ad342) l0.length c0 (ji14) (of_decide_eq_true (by assumption)) q42 hroom42
       have hr42 := Kd.C_take (m := ((ji14) : Int).toNat) hC42 (by omega)
       have hy42 : y375.length = ((ji14) : Int).toNat := (by rw [Ny375.out, List.length_take]; omega)
       rw [← Ny375.out] at hr42
       rw [← hy42] at hcut42
       have HR378 := Za.mk hr42
       have HC378 := Za.mk (show y375.length ≤ c0 from by omega)
       clear hr42 hC42 hroom42 hi042 hsz42
       have KY42 := Za.mk hy42
       clear hy42
       replace q42 := eq_true q42
       refine start_ (n := 14) (S := fun w' => True) (ds := []) #[false, false, false, false, false, false, false, false, false, false, false, false, false, false] (by kernel_rfl) rfl rfl trivial (fun hHeld => ?_); refine with_tabW Zbi.tab8 Zbi.bits8 (fun HT_ HW_ => ?_)
       generalize w39.drew = w40 at HO358 HO370 HB HR374 HR378 hHeld ⊢
       refine Zaf (i := 0) (N := some 49) (v := ?_) (a' := ?_) #[true, false, false, false, false, false, false, false, false, false, false, false, false, false] rfl rfl (Zag HT_.out (by kernel_rfl)) (fun _ _ _ h => h) (Or.inl ⟨by rfl, ?_⟩) ?_ ?_
       rotate_left
       ·intro w'
        go_simp
        with_reducible rfl
       rotate_left
       ·simp only [Act.put, ZD, ZE, ZF, Zu, Zv]
        rfl
       refine Zaf (i := 1) (N := some 50) (v := ?_) (a' := ?_) #[true, true, false, false, false, false, false, false, false, false, false, false, false, false] rfl rfl (Zag HT_.out (by kernel_rfl)) (fun _ _ _ h => h) (Or.inl ⟨by rfl, ?_⟩) ?_ ?_
       rotate_left
       ·intro w'
        go_simp
        with_reducible rfl
       rotate_left
       ·simp only [Act.put, ZD, ZE, ZF, Zu, Zv]
        rfl
       refine Zaf (i := 2) (N := some 51) (v := ?_) (a' := ?_) #[true, true, true, false, false, false, false, false, false, false, false, false, false, false] rfl rfl (Zag HT_.out (by kernel_rfl)) (fun _ _ _ h => h) (Or.inl ⟨by rfl, ?_⟩) ?_ ?_
       rotate_left
       ·intro w'
        go_simp
        with_reducible rfl
       rotate_left
       ·simp only [Act.put, ZD, ZE, ZF, Zu, Zv]
        rfl
       refine Zaf (i := 3) (N := some 52) (v := ?_) (a' := ?_) #[true, true, true, true, false, false, false, false, false, false, false, false, false, false] rfl rfl (Zag HT_.out (by kernel_rfl)) (fun _ _ _ h => h) (Or.inl ⟨by rfl, ?_⟩) ?_ ?_
       rotate_left
       ·intro w'
        go_simp
        with_reducible rfl
       rotate_left
       ·simp only [Act.put, ZD, ZE, ZF, Zu, Zv]
        rfl
       refine Zaf (i := 4) (N := some 53) (v := ?_) (a' := ?_) #[true, true, true, true, true, false, false, false, false, false, false, false, false, false] rfl rfl (Zag HT_.out (by kernel_rfl)) (fun _ _ _ h => h) (Or.inl ⟨by rfl, ?_⟩) ?_ ?_
       rotate_left
       ·intro w'
        go_simp
        with_reducible rfl
       rotate_left
       ·simp only [Act.put, ZD, ZE, ZF, Zu, Zv]
        rfl
       refine Zaf (i := 5) (N := some 54) (v := ?_) (a' := ?_) #[true, true, true, true, true, true, false, false, false, false, false, false, false, false] rfl rfl (Zag HT_.out (by kernel_rfl)) (fun _ _ _ h => h) (Or.inl ⟨by rfl, ?_⟩) ?_ ?_
       rotate_left
       ·intro w'
        go_simp
        with_reducible rfl
       rotate_left
       ·simp only [Act.put, ZD, ZE, ZF, Zu, Zv]
        rfl
       refine Zaf (i := 6) (N := some 55) (v := ?_) (a' := ?_) #[true, true, true, true, true, true, true, false, false, false, false, false, false, false] rfl rfl (Zag HT_.out (by kernel_rfl)) (fun _ _ _ h => h) (Or.inl ⟨by rfl, ?_⟩) ?_ ?_
       rotate_left
       ·intro w'
        go_simp
        with_reducible rfl
       rotate_left
       ·simp only [Act.put, ZD, ZE, ZF, Zu, Zv]
        rfl
       refine Zaf (i := 7) (N := some 56) (v := ?_) (a' := ?_) #[true, true, true, true, true, true, true, true, false, false, false, false, false, false] rfl rfl (Zag HT_.out (by kernel_rfl)) (fun _ _ _ h => h) (Or.inl ⟨by rfl, ?_⟩) ?_ ?_
       rotate_left
       ·intro w'
        go_simp
        with_reducible rfl
       rotate_left
       ·simp only [Act.put, ZD, ZE, ZF, Zu, Zv]
        rfl
       refine Zaf (i := 8) (N := some 57) (v := ?_) (a' := ?_) #[true, true, true, true, true, true, true, true, true, false, false, false, false, false] rfl rfl (Zag HT_.out (by kernel_rfl)) (fun _ _ _ h => h) (Or.inl ⟨by rfl, ?_⟩) ?_ ?_
       rotate_left
       ·intro w'
        go_simp
        with_reducible rfl
       rotate_left
       ·simp only [Act.put, ZD, ZE, ZF, Zu, Zv]
        rfl
       refine one_ (i := 9) (N := some 58) #[true, true, true, true, true, true, true, true, true, true, false, false, false, false] rfl rfl (one_of HT_.out (by kernel_rfl)) (by decide) (fun K hK => ?_)
       refine goes_ Try.func33 (by kernel_rfl) rfl #[.slice (some ad342) y375.length c0] (by rfl) rfl rfl (by (try simp only [ZA, ZB, ZC]); first | done | rfl | (simp only [List.length_drop, List.length_take]; rfl)) ?_
       with_reducible refine (Zbo.calls k _ _ y375 t379 _ ?side1 ?side2 A28.out).mono ?_
       (case side1 => repeat (first | exact (Kd.Zan HR378.out HB.out) | (with_reducible refine Kd.Zau ?_ _) | (with_reducible refine Kd.Zaw ?_ _) | (with_reducible refine Kd.Zav ?_)))
       (case side2 => exact HC378.out)
       rintro e w' ⟨rfl, ⟨nd, rfl⟩⟩
       refine ⟨_, rfl, ?_⟩
       refine hK.out _ _ trivial (fun hHeld => ?_)
       clear hK K
       refine norm_ (a' := ?_) ?_ ?_
       rotate_left
       ·show Act.put _ (some 58) _ = _
        simp only [Act.put, ZD, ZE, ZF, Zu, Zv]
        rfl
       refine Zaf (i := 10) (N := some 59) (v := ?_) (a' := ?_) #[true, true, true, true, true, true, true, true, true, true, true, false, false, false] rfl rfl (Zag HT_.out (by kernel_rfl)) (fun _ _ _ h => h) (Or.inl ⟨by rfl, ?_⟩) ?_ ?_
       rotate_left
       ·intro w'
        go_simp
        with_reducible rfl
       rotate_left
       ·simp only [Act.put, ZD, ZE, ZF, Zu, Zv]
        rfl
       refine one_ (i := 11) (N := some 60) #[true, true, true, true, true, true, true, true, true, true, true, true, false, false] rfl rfl (one_of HT_.out (by kernel_rfl)) (by decide) (fun K hK => ?_)
       refine goes_ Try.func31 (by kernel_rfl) rfl #[.slice A41 y371.length c41, .int .i64 (wrap64 ((wrap64 (a1 + 1)) + t379))] (by rfl) rfl rfl (by (try simp only [ZA, ZB, ZC]); first | done | rfl | (simp only [List.length_drop, List.length_take]; rfl)) ?_
       with_reducible refine (ih k (by omega) _ _ y371 (wrap64 ((wrap64 (a1 + 1)) + t379)) t380 _ ?side1 ?side2 A29.out).mono ?_
       (case side1 => repeat (first | exact (Kd.Zan HR374.out (by with_reducible repeat first | exact HB.out | apply Zc | apply Ze | apply Zd)) | (with_reducible refine Kd.Zau ?_ _) | (with_reducible refine Kd.Zaw ?_ _) | (with_reducible refine Kd.Zav ?_)))
       (case side2 => exact HC374.out)
       rintro e w43 ⟨v381, rfl, ho0, hb⟩
       refine ⟨_, rfl, ?_⟩
       have HO382 := Za.mk (Kd.Zbk (Kd.R_new' (Kd.R_new' ho0 (Kd.R_lt (by (with_reducible repeat (first | apply Kd.Zaa | apply Kd.Zy | apply Kd.Zz)); exact HO358.out))) (Kd.R_lt (by (with_reducible repeat (first | apply Kd.Zaa | apply Kd.Zy | apply Kd.Zz)); exact HO370.out))) (Zl (by with_reducible repeat first | exact HB.out | apply Zc | apply Ze | apply Zd)))
       replace HO358 := Za.mk (Kd.R_elder' (by (with_reducible repeat (first | apply Kd.Zaa | apply Kd.Zy | apply Kd.Zz)); exact HO358.out) (Kd.R_base ho0) hb)
       replace HO370 := Za.mk (Kd.R_elder' (by (with_reducible repeat (first | apply Kd.Zaa | apply Kd.Zy | apply Kd.Zz)); exact HO370.out) (Kd.R_base ho0) hb)
       replace HB := Za.mk (Zo (by with_reducible repeat first | exact HB.out | apply Zc | apply Ze | apply Zd) hb)
       (try clear hb)
       (try clear hb2)
       (try clear hk)
       (try clear hi)
       (try clear ho0)
       obtain ⟨Ao45, co45, eo45⟩ := Kd.Zay HO382.out
       (first | subst eo45 | (injection eo45 with f1_ f2_ f3_; have f4_ := f1_.symm; have f5_ := f3_.symm; clear f1_ f2_ f3_; subst f4_; subst f5_))
       refine hK.out _ _ trivial (fun hHeld => ?_)
       clear hK K
       refine norm_ (a' := ?_) ?_ ?_
       rotate_left
       ·show Act.put _ (some 60) _ = _
        simp only [Act.put, ZD, ZE, ZF, Zu, Zv]
        rfl
       refine one_ (i := 12) (N := some 61) #[true, true, true, true, true, true, true, true, true, true, true, true, true, false] rfl rfl (one_of HT_.out (by kernel_rfl)) (by decide) (fun K hK => ?_)
       refine Kd.R_append_rows_step k69 (w0 := w) w.heap.size (by rfl) (.tmp 49) (.tmp 60) 41 69 (.agg #[(.int .i64 0), (.int .u16 0), (.int .u8 0), (.int .u8 0), (.int .u32 0), (.int .i64 0)]) 24 rfl Try.underlying41 info69 rfl (by decide) (by omega) v369 y368 t380 _ _ _ (fun k_ => some k_ ≠ (.slice Ao37 t356.length co37 : Value).ownBlock ∧ some k_ ≠ (.slice Ao45 t380.length co45 : Value).ownBlock) (fun _ => False) rfl rfl ?aO ?aR (fun _ _ h => h) (fun _ h => h.elim) ?aF ?aB ?aS ?aL ?_
       (case aR => repeat (first | exact (Kd.Zat HO382.out).2.2 | (with_reducible refine Kd.Zau ?_ _) | (with_reducible refine Kd.Zaw ?_ _) | (with_reducible refine Kd.Zav ?_)))
       (case aB => exact (by with_reducible repeat first | exact HB.out | apply Zc | apply Ze | apply Zd))
       (case aF => exact (fun k_ hk => ⟨Kd.fresh' (Kd.R_lt (by (with_reducible repeat (first | apply Kd.Zaa | apply Kd.Zy | apply Kd.Zz)); exact HO358.out)) k_ hk, Kd.fresh' (Kd.R_lt (by (with_reducible repeat (first | apply Kd.Zaa | apply Kd.Zy | apply Kd.Zz)); exact HO382.out)) k_ hk⟩))
       (case aO => exact (by (with_reducible repeat (first | apply Kd.Zaa | apply Kd.Zy | apply Kd.Zz)); exact HO370.out))
       (case aS => exact (Zl (by with_reducible repeat first | exact HB.out | apply Zc | apply Ze | apply Zd)))
       (case aL => have := LMc30.out; omega)
       intro v384 w44 ho hb hg hat
       rw [← Ny383.out] at ho
       have n0_ := Za.mk (Kd.R_after (ok := (fun k_ => some k_ ≠ (.slice Ao45 t380.length co45 : Value).ownBlock)) (by (with_reducible repeat (first | apply Kd.Zaa | apply Kd.Zy | apply Kd.Zz)); exact Kd.Zas HO358.out (fun _ hk => ⟨hk.2, hk.1.2⟩)) hg hat)
       have n1_ := Za.mk (Kd.R_after (ok := (fun k_ => some k_ ≠ (.slice Ao37 t356.length co37 : Value).ownBlock)) (by (with_reducible repeat (first | apply Kd.Zaa | apply Kd.Zy | apply Kd.Zz)); exact Kd.Zas HO382.out (fun _ hk => ⟨hk.1.2, hk.2⟩)) hg hat)
       have n2_ := Za.mk (hb)
       have n3_ := Za.mk (ho)
       clear HO358
       clear HO382
       clear HB
       clear HO370
       have HO358 := n0_
       have HO382 := n1_
       have HB := n2_
       have HO385 := n3_
       clear n0_ n1_ n2_ n3_
       clear ho hb hg hat
       refine hK.out _ _ trivial (fun hHeld => ?_)
       clear hK K
       refine norm_ (a' := ?_) ?_ ?_
       rotate_left
       ·show Act.put _ (some 61) _ = _
        simp only [Act.put, ZD, ZE, ZF, Zu, Zv]
        rfl
       refine Zaf (i := 13) (N := some 4) (v := ?_) (a' := ?_) #[true, true, true, true, true, true, true, true, true, true, true, true, true, true] rfl rfl (Zag HT_.out (by kernel_rfl)) (fun _ _ _ h => h) (Or.inl ⟨by rfl, ?_⟩) ?_ ?_
       rotate_left
       ·intro w'
        go_simp
        with_reducible rfl
       rotate_left
       ·simp only [Act.put, ZD, ZE, ZF, Zu, Zv]
        rfl
       refine done_ (done_of HT_.out (by kernel_rfl)) ?_
       try go_wp2
       go_ret
       exact ⟨_, by first | rfl | (simp [Zm, Zn] <;> rfl) | (simp only [← hji14]; first | rfl | (simp [Zm, Zn] <;> rfl)) | (simp [*, Zm, Zn] <;> rfl), by (with_reducible repeat (first | apply Kd.Zaa | apply Kd.Zy | apply Kd.Zz)); exact Kd.Zas HO385.out (fun _ hk => trivial), by with_reducible repeat first | exact HB.out | apply Zc | apply Ze | apply Zd⟩
      rw [if_neg c30] at H
      exact absurd H (by simp)
     rw [if_neg c23] at H
     exact absurd H (by simp)
    rw [if_neg c21] at H
    exact absurd H (by simp)
   rw [if_neg c19] at H
   exact absurd H (by simp)
  rw [if_neg c16] at H
  exact absurd H (by simp)
 rw [if_neg c15] at H
 exact absurd H (by simp)

end Go.Proofs.Ytgmbahldjiiajaa.P
