import Derived.Test.YtgmbahldjiiajaaGFnExactCompile4
import Derived.Test.YtgmbahldjiiajaaGFnExactCompile8
namespace Go.Proofs.Ytgmbahldjiiajaa.P
open Go.RowKit Go.Proofs.YtgmbahldjiiajaaW.PrintWords Go.Proofs.YtgmbahldjiiajaaW.PrintLast Go.Proofs.YtgmbahldjiiajaaW.PrintMore
attribute [local go_sem] max2_int min2_int max_two min_two max_three min_three max_four min_four
set_option linter.unusedVariables false
set_option linter.unusedSimpArgs false

def Zbw.l0 : Nat → List (S139) → List (S95) → Int → Option ((List (S95)))
 | 0, _, _, _ => none
 | k + 1, x0, x3, x4 => if x4 < (x0.length : Int) then (if 0 ≤ x4 then ((laws_toCon.f ((rd_T139 x0 x4).f0) ((rd_T139 x0 x4).f1) ((rd_T139 x0 x4).f2)).bind fun bt402 => (if x4 < (x3.length : Int) then (Zbw.l0 k x0 (x3.set (x4 : Int).toNat (⟨bt402.1, bt402.2.1, bt402.2.2⟩ : S95)) (wrap64 (x4 + 1))) else (none))) else (none)) else (some x3)
def Zbw.f (k : Nat) (l0 : List (S139)) : Option ((List (S95))) := if 0 ≤ (l0.length : Int) then (if ((l0.length : Int) : Int).toNat ≤ 11728124029610 then (Zbw.l0 k l0 (List.replicate ((l0.length : Int) : Int).toNat z95) 0) else (none)) else (none)
set_option maxHeartbeats 8000000 in
set_option maxRecDepth 100000 in
theorem Zbw.calls (k : Nat) (A0 : Option Addr) (c0 : Nat) (l0 : List (S139)) (r : List (S95)) (w : World) (hr0 : Kd.C k139 w A0 l0.length l0) (hc0 : l0.length ≤ c0) (h : Zbw.f k l0 = some r) :
  Calls Try.prog 74 #[.slice A0 l0.length c0] w fun e w' => ∃ v0_ : Value, e = .returned (v0_) ∧ Kd.R k95 95 w' w.heap.size (fun _ => True) v0_ r ∧ Below w.heap.size w w' := by
 have hu139 := Try.underlying139
 have hu95 := Try.underlying95
 have HR0 := Za.mk hr0
 have HC0 := Za.mk hc0
 clear hr0 hc0
 have HB := Za.mk (Below.refl w.heap.size w)
 have H := h
 unfold Zbw.f at H
 clear h
 by_cases c2 : 0 ≤ (l0.length : Int)
 ·rw [if_pos c2] at H
  have c2b0 := eq_true c2
  have c2b1 : decide (0 ≤ (l0.length : Int)) = true := decide_eq_true c2
  clear c2
  by_cases c3 : ((l0.length : Int) : Int).toNat ≤ 11728124029610
  ·rw [if_pos c3] at H
   have c3b0 := eq_true c3
   have c3b1 : decide (((l0.length : Int) : Int).toNat ≤ 11728124029610) = true := decide_eq_true c3
   clear c3
   obtain ⟨y398, hy398⟩ : ∃ y_ : List (S95), y_ = (List.replicate ((l0.length : Int) : Int).toNat z95) := ⟨_, rfl⟩
   replace H : (Zbw.l0 k l0 y398 0) = some r := by first | (rw [hy398]; with_reducible exact H) | (have H2_ := (Option.bind_some _ _).symm.trans H; rw [hy398]; with_reducible exact H2_) | (have H2_ := (Option.bind_some _ _).symm.trans H; with_reducible exact H2_) | with_reducible exact H | (rw [hy398]; exact H) | exact H
   have Ny398 := Za.mk hy398
   clear hy398
   have H' := Za.mk H
   clear H
   go_enter Try.func74, Try.ntmps74
   go_wp2_with (first | ((with_reducible refine Zab (N := 7) rfl ?_); refine Kd.R_make k95 _ 95 rfl (N := 7) rfl 63 _ _ rfl (l0.length : Int) rfl rfl Try.underlying63 (.agg #[(.int .i64 0), (.int .u64 0), (.int .u64 0)]) 24 info95 rfl (by decide) (by omega) z95 (ok := fun _ => True) (okp := fun _ => True) (k95_mkM _ _ _ z95 ) (fun _ hk => hk) trivial (of_decide_eq_true (by assumption)) (Nat.le_trans (Nat.mul_le_mul_right _ (of_decide_eq_true (by assumption) : (l0.length : Int).toNat ≤ 11728124029610)) (by omega)) (Below.refl _ _) (Nat.le_refl _) ?_; intro v399 w4 ho5 hb hg_ hnew_; clear hg_ hnew_; (first | rw [← Ny398.out] at ho5 | (simp only [Int.reduceToNat] at ho5; rw [← Ny398.out] at ho5)); have HO400 := Za.mk (Kd.Zbk ho5 (Zl (by with_reducible repeat first | exact HB.out | apply Zc | apply Ze | apply Zd))); replace HB := Za.mk (Zo (by with_reducible repeat first | exact HB.out | apply Zc | apply Ze | apply Zd) hb); clear hb ho5))
   go_loopg [4] k (fun kq v4 w' => ∃ (x3_1 : List (S95)) (x4_1 : Int), v4 = .int .i64 x4_1 ∧ Za (Zbw.l0 kq l0 x3_1 x4_1 = some r) ∧ Za (kq ≤ k) ∧ Za (Kd.R k95 95 w' w.heap.size (fun _ => True) v399 x3_1) ∧ Za (Below w.heap.size w w'))
   case atStart => exact ⟨(y398), (0), (by first | rfl | (simp; done) | (simp [*]; done)), H', ⟨Nat.le_refl _⟩, ⟨by (with_reducible repeat (first | apply Kd.Zaa | apply Kd.Zy | apply Kd.Zz)); exact HO400.out⟩, ⟨by with_reducible repeat first | exact HB.out | apply Zc | apply Ze | apply Zd⟩⟩
   case round =>
    clear H'
    try clear c2
    try clear c2b0
    try clear c2b1
    try clear p2
    try clear c3
    try clear c3b0
    try clear c3b1
    obtain ⟨x3_1, x4_1, rfl, HA, HK1, HO_3, HB⟩ := hrel
    cases gk with
    | zero => exact absurd HA.out (by simp [Zbw.l0])
    | succ k1 =>
     have H := HA.out
     clear HA
     simp only [Zbw.l0] at H
     by_cases c6 : x4_1 < (l0.length : Int)
     ·rw [if_pos c6] at H
      have c6b0 : decide (x4_1 < (l0.length : Int)) = true := decide_eq_true c6
      clear c6
      by_cases c7 : 0 ≤ x4_1
      ·rw [if_pos c7] at H
       have c7b0 : decide (0 ≤ x4_1) = true := decide_eq_true c7
       clear c7
       replace H := Option.bind_eq_some_iff.mp H
       obtain ⟨⟨t402, t403, t404⟩, A80, H⟩ := H
       replace H : (if x4_1 < (x3_1.length : Int) then (Zbw.l0 k1 l0 (x3_1.set (x4_1 : Int).toNat (⟨t402, t403, t404⟩ : S95)) (wrap64 (x4_1 + 1))) else (none)) = some r := H
       have A8 := Za.mk A80
       clear A80
       by_cases c9 : x4_1 < (x3_1.length : Int)
       ·rw [if_pos c9] at H
        have c9b0 : decide (x4_1 < (x3_1.length : Int)) = true := decide_eq_true c9
        clear c9
        obtain ⟨y405, hy405⟩ : ∃ y_ : List (S95), y_ = (x3_1.set (x4_1 : Int).toNat (⟨t402, t403, t404⟩ : S95)) := ⟨_, rfl⟩
        replace H : (Zbw.l0 k1 l0 y405 (wrap64 (x4_1 + 1))) = some r := by first | (rw [hy405]; with_reducible exact H) | (have H2_ := (Option.bind_some _ _).symm.trans H; rw [hy405]; with_reducible exact H2_) | (have H2_ := (Option.bind_some _ _).symm.trans H; with_reducible exact H2_) | with_reducible exact H | (rw [hy405]; exact H) | exact H
        have Ny405 := Za.mk hy405
        clear hy405
        have H' := Za.mk H
        clear H
        have p401 : 0 ≤ (x4_1 : Int) := of_decide_eq_true (by assumption)
        have q401 : x4_1 < (l0.length : Int) := of_decide_eq_true (by assumption)
        obtain ⟨ad401, e401, hx401_0, hx401_1, hx401_2⟩ := at_T139 HR0.out x4_1 p401 q401
        cases e401
        replace hx401_0 := (HB.out.cell (World.block_lt_of_cell? w _ hx401_0)).trans hx401_0
        replace hx401_1 := (HB.out.cell (World.block_lt_of_cell? w _ hx401_1)).trans hx401_1
        replace hx401_2 := (HB.out.cell (World.block_lt_of_cell? w _ hx401_2)).trans hx401_2
        replace p401 := eq_true p401
        replace q401 := eq_true q401
        go_wp2_with (first | ((with_reducible refine Zaj (f := 76) rfl ?_); refine Zai (some 20) rfl rfl Try.func76 (by kernel_rfl) rfl #[.agg #[.int .i64 ((rd_T139 l0 x4_1).f0), .int .u64 ((rd_T139 l0 x4_1).f1), .int .u64 ((rd_T139 l0 x4_1).f2)]] rfl (by (try simp only [ZA, ZB, ZC]); first | done | rfl) ?_; (with_reducible refine (laws_toCon.calls ((rd_T139 l0 x4_1).f0) ((rd_T139 l0 x4_1).f1) ((rd_T139 l0 x4_1).f2) t402 t403 t404 _ A8.out).mono ?_); rintro e w11 ⟨rfl, hb⟩; refine ⟨_, rfl, ?_⟩; replace HO_3 := Za.mk (Kd.Zam (by (with_reducible repeat (first | apply Kd.Zaa | apply Kd.Zy | apply Kd.Zz)); exact HO_3.out) hb); replace HB := Za.mk (Zo (by with_reducible repeat first | exact HB.out | apply Zc | apply Ze | apply Zd) hb); (try clear hb); (try clear hb2); (try clear hk); (try clear hi); have p10 : 0 ≤ (x4_1 : Int) := of_decide_eq_true (by assumption); have q10 : (x4_1 : Int) < ((x3_1.length : Int) : Int) := of_decide_eq_true (by assumption); obtain ⟨go10, co10, eo10, gb10, gl10, cl10, HG10⟩ := Kd.R_form HO_3.out (by omega); (first | cases eo10 | (injection eo10 with ea_ en_ ec_; (first | subst ea_ | (injection ea_ with ea_; subst ea_)); subst ec_; clear en_)); have GB10 := Za.mk gb10; have GG10 := Za.mk HG10; clear gb10 gl10 HG10; obtain ⟨ce10, hcl10, hM10, hcc10, hfr10⟩ := Kd.R_elem HO_3.out z95 (x4_1 : Int) p10 q10; obtain rfl := k95_openM hM10; have hx10_0 : w11.cell? ⟨go10, (x4_1 : Int).toNat * 3, none⟩ = some (.int .i64 ((Zx x3_1 x4_1).f0)) := hcc10 0 _ rfl; have hx10_1 : w11.cell? ⟨go10, (x4_1 : Int).toNat * 3 + 1, none⟩ = some (.int .u64 ((Zx x3_1 x4_1).f1)) := hcc10 1 _ rfl; have hx10_2 : w11.cell? ⟨go10, (x4_1 : Int).toNat * 3 + 2, none⟩ = some (.int .u64 ((Zx x3_1 x4_1).f2)) := hcc10 2 _ rfl; have hf10_0 : w11.frozen? ⟨go10, (x4_1 : Int).toNat * 3, none⟩ = false := hfr10 0; have hf10_1 : w11.frozen? ⟨go10, (x4_1 : Int).toNat * 3 + 1, none⟩ = false := hfr10 1; have hf10_2 : w11.frozen? ⟨go10, (x4_1 : Int).toNat * 3 + 2, none⟩ = false := hfr10 2; clear hcl10 hcc10 hfr10 hM10; replace p10 := eq_true p10; replace q10 := eq_true q10; have HX12 := Za.mk (show Kd.R k95 95 w11 w.heap.size (fun _ => True) (.slice (some ⟨go10, 0, none⟩) x3_1.length co10) x3_1 from (by (with_reducible repeat (first | apply Kd.Zaa | apply Kd.Zy | apply Kd.Zz)); exact HO_3.out)); obtain ⟨ce12, hcl12, hM12, hcc12, hfr12⟩ := Kd.R_elem HX12.out z95 (x4_1 : Int) (of_decide_eq_true (by assumption)) (by have h_ : (x4_1 : Int) < ((x3_1.length : Int) : Int) := of_decide_eq_true (by assumption); first | exact h_ | (have e_ := (Kd.Zat HO_3.out).1; omega) | simpa using h_); obtain rfl := k95_openM hM12; have HP12 := Kd.R_seg HX12.out (x4_1 : Int) (of_decide_eq_true (by assumption)) (by have h_ : (x4_1 : Int) < ((x3_1.length : Int) : Int) := of_decide_eq_true (by assumption); first | exact h_ | (have e_ := (Kd.Zat HO_3.out).1; omega) | simpa using h_) (seg := [.int .i64 t402, .int .u64 t403, .int .u64 t404]) (j := 0) hcl12 hcc12 (show 3 ≤ 3 from by decide) (x' := (⟨t402, t403, t404⟩ : S95)) (k95_mkM _ _ _ (⟨t402, t403, t404⟩ : S95) ) (fun _ hk => hk); have hx12_0 := hcc12 0 _ rfl; (try simp only [show (k95).sz = 3 from rfl, Nat.mul_one, Nat.add_zero] at hx12_0); have hf12_0 := hfr12 0; (try simp only [show (k95).sz = 3 from rfl, Nat.mul_one, Nat.add_zero] at hf12_0); have hx12_1 := hcc12 1 _ rfl; (try simp only [show (k95).sz = 3 from rfl, Nat.mul_one, Nat.add_zero] at hx12_1); have hf12_1 := hfr12 1; (try simp only [show (k95).sz = 3 from rfl, Nat.mul_one, Nat.add_zero] at hf12_1); have hx12_2 := hcc12 2 _ rfl; (try simp only [show (k95).sz = 3 from rfl, Nat.mul_one, Nat.add_zero] at hx12_2); have hf12_2 := hfr12 2; (try simp only [show (k95).sz = 3 from rfl, Nat.mul_one, Nat.add_zero] at hf12_2); clear hcl12 hcc12 hfr12 hM12) | ((with_reducible refine gate_store (t := 95) (p := 21) rfl ?_); refine store_event (t := 95) (p := 21) (v := ?vo_w13) (w1 := (((w11.setCell ⟨go10, (x4_1 : Int).toNat * 3, none⟩ (.int .i64 t402)).setCell ⟨go10, (x4_1 : Int).toNat * 3 + 1, none⟩ (.int .u64 t403)).setCell ⟨go10, (x4_1 : Int).toNat * 3 + 2, none⟩ (.int .u64 t404))) ?hg ?ho ?hn ?hr ?_; (case ho => rfl); (case hg => rfl); (case hn => rfl); (case hr => go_simp <;> rfl); intro w13 hw; have hg : w11.grownBy w13 (some go10) := (by rw [hw]; exact HP12.2); have hp_ : Kd.R k95 95 w13 w.heap.size (fun _ => True) (.slice (some ⟨go10, 0, none⟩) x3_1.length co10) y405 := (by rw [hw, Ny405.out]; exact HP12.1); clear HP12; replace HO_3 := Za.mk (hp_); replace HB := Za.mk ((by rw [hw]; exact Zk (Zk (Zk (HB.out) GB10.out) GB10.out) GB10.out : Below w.heap.size w w13)); clear hg hw hp_))
        go_roundg k1
        case measure => have := HK1.out; omega
        case rel => exact ⟨(y405), (wrap64 (x4_1 + 1)), (by first | rfl | (simp; done) | (simp [*]; done)), H', ⟨by have := HK1.out; omega⟩, ⟨by (with_reducible repeat (first | apply Kd.Zaa | apply Kd.Zy | apply Kd.Zz)); exact HO_3.out⟩, ⟨by with_reducible repeat first | exact HB.out | apply Zc | apply Ze | apply Zd⟩⟩
       rw [if_neg c9] at H
       exact absurd H (by simp)
      rw [if_neg c7] at H
      exact absurd H (by simp)
     rw [if_neg c6] at H
     have c6b0 : decide (x4_1 < (l0.length : Int)) = false := decide_eq_false c6
     clear c6
     obtain rfl := Option.some.inj H
     go_wp2
     go_ret
     exact ⟨_, by first | rfl | (simp [Zm, Zn] <;> rfl) | (simp [*, Zm, Zn] <;> rfl), by (with_reducible repeat (first | apply Kd.Zaa | apply Kd.Zy | apply Kd.Zz)); exact HO_3.out, by with_reducible repeat first | exact HB.out | apply Zc | apply Ze | apply Zd⟩
  rw [if_neg c3] at H
  exact absurd H (by simp)
 rw [if_neg c2] at H
 exact absurd H (by simp)
def laws_toRule.f (k : Nat) (l0_0 : List (S139)) : Option ((List (S95))) := (Zbw.f k l0_0).bind fun t409 => (some t409)
set_option maxHeartbeats 8000000 in
set_option maxRecDepth 100000 in
theorem laws_toRule.calls (k : Nat) (A0_0 : Option Addr) (c0_0 : Nat) (l0_0 : List (S139)) (r : List (S95)) (w : World) (hr0_0 : Kd.C k139 w A0_0 l0_0.length l0_0) (hc0_0 : l0_0.length ≤ c0_0) (h : laws_toRule.f k l0_0 = some r) :
  Calls Try.prog 66 #[.agg #[.slice A0_0 l0_0.length c0_0]] w fun e w' => ∃ v0_ : Value, e = .returned (.agg #[v0_]) ∧ Kd.R k95 95 w' w.heap.size (fun _ => True) v0_ r ∧ Below w.heap.size w w' := by
 have hu117 := Try.underlying117
 have hu65 := Try.underlying65
 have HR0_0 := Za.mk hr0_0
 have HC0_0 := Za.mk hc0_0
 clear hr0_0 hc0_0
 have HB := Za.mk (Below.refl w.heap.size w)
 have H : ((Zbw.f k l0_0).bind fun t409 => (some t409)) = some r := h
 clear h
 replace H := Option.bind_eq_some_iff.mp H
 obtain ⟨t409, A20, H⟩ := H
 replace H : (some t409) = some r := H
 have A2 := Za.mk A20
 clear A20
 obtain rfl := Option.some.inj H
 go_enter Try.func66, Try.ntmps66
 go_wp2_with (first | ((with_reducible refine Zab (N := 1) rfl ?_); refine Zac ?hg (N := 1) ?hd (cs := #[.slice A0_0 l0_0.length c0_0]) (t := 117) ?hr ?_; (case hd => rfl); (case hg => rfl); (case hr => go_simp <;> rfl); intro gb406 hg w3 hbox hb; have BK406 := Za.mk (hbox); have GW406 := Za.mk ((by rw [hg]; exact (Zl (by with_reducible repeat first | exact HB.out | apply Zc | apply Ze | apply Zd)) : w.heap.size ≤ gb406)); have GE406 := Za.mk ((by rw [hg]; exact (Zl (by with_reducible repeat first | exact HB.out | apply Zc | apply Ze | apply Zd)) : w.heap.size ≤ gb406)); replace HB := Za.mk (Zo (by with_reducible repeat first | exact HB.out | apply Zc | apply Ze | apply Zd) hb); clear hb hbox hg) | ((with_reducible refine Zab (N := 2) rfl ?_); refine Zac ?hg (N := 2) ?hd (cs := #[.slice none 0 0]) (t := 65) ?hr ?_; (case hd => rfl); (case hg => rfl); (case hr => go_simp <;> rfl); intro gb407 hg w4 hbox hb; have BK407 := Za.mk (hbox); have GW407 := Za.mk ((by rw [hg]; exact (Zl (by with_reducible repeat first | exact HB.out | apply Zc | apply Ze | apply Zd | refine Zk ?_ GE406.out)) : w.heap.size ≤ gb407)); have GE407 := Za.mk ((by rw [hg]; exact (Zl (by with_reducible repeat first | exact HB.out | apply Zc | apply Ze | apply Zd | refine Zk ?_ GE406.out)) : w.heap.size ≤ gb407)); replace HB := Za.mk (Zo (by with_reducible repeat first | exact HB.out | apply Zc | apply Ze | apply Zd | refine Zk ?_ GE406.out) hb); have NB406_407 := Za.mk ((by rw [hg]; exact Nat.ne_of_lt (Zs (g := gb406) (o := .cells #[.slice A0_0 l0_0.length c0_0] 117 (0, 0)) (by (with_reducible repeat first | apply Zg | apply Zf | apply Zh); exact BK406.out)) : gb406 ≠ gb407)); have NB407_406 := Za.mk ((by rw [hg]; exact Nat.ne_of_gt (Zs (g := gb406) (o := .cells #[.slice A0_0 l0_0.length c0_0] 117 (0, 0)) (by (with_reducible repeat first | apply Zg | apply Zf | apply Zh); exact BK406.out)) : gb407 ≠ gb406)); replace BK406 := Za.mk (Zp (g := gb406) (o := .cells #[.slice A0_0 l0_0.length c0_0] 117 (0, 0)) (by (with_reducible repeat first | apply Zg | apply Zf | apply Zh); exact BK406.out) hb); clear hb hbox hg) | ((with_reducible refine Zab (N := 3) rfl ?_); refine Zac ?hg (N := 3) ?hd (cs := #[.slice none 0 0]) (t := 65) ?hr ?_; (case hd => rfl); (case hg => rfl); (case hr => go_simp <;> rfl); intro gb408 hg w5 hbox hb; have BK408 := Za.mk (hbox); have GW408 := Za.mk ((by rw [hg]; exact (Zl (by with_reducible repeat first | exact HB.out | apply Zc | apply Ze | apply Zd | refine Zk ?_ GE406.out | refine Zk ?_ GE407.out)) : w.heap.size ≤ gb408)); have GE408 := Za.mk ((by rw [hg]; exact (Zl (by with_reducible repeat first | exact HB.out | apply Zc | apply Ze | apply Zd | refine Zk ?_ GE406.out | refine Zk ?_ GE407.out)) : w.heap.size ≤ gb408)); replace HB := Za.mk (Zo (by with_reducible repeat first | exact HB.out | apply Zc | apply Ze | apply Zd | refine Zk ?_ GE406.out | refine Zk ?_ GE407.out) hb); have NB406_408 := Za.mk ((by rw [hg]; exact Nat.ne_of_lt (Zs (g := gb406) (o := .cells #[.slice A0_0 l0_0.length c0_0] 117 (0, 0)) (by (with_reducible repeat first | apply Zg | apply Zf | apply Zh); exact BK406.out)) : gb406 ≠ gb408)); have NB408_406 := Za.mk ((by rw [hg]; exact Nat.ne_of_gt (Zs (g := gb406) (o := .cells #[.slice A0_0 l0_0.length c0_0] 117 (0, 0)) (by (with_reducible repeat first | apply Zg | apply Zf | apply Zh); exact BK406.out)) : gb408 ≠ gb406)); replace BK406 := Za.mk (Zp (g := gb406) (o := .cells #[.slice A0_0 l0_0.length c0_0] 117 (0, 0)) (by (with_reducible repeat first | apply Zg | apply Zf | apply Zh); exact BK406.out) hb); have NB407_408 := Za.mk ((by rw [hg]; exact Nat.ne_of_lt (Zs (g := gb407) (o := .cells #[.slice none 0 0] 65 (0, 0)) (by (with_reducible repeat first | apply Zg | apply Zf | apply Zh); exact BK407.out)) : gb407 ≠ gb408)); have NB408_407 := Za.mk ((by rw [hg]; exact Nat.ne_of_gt (Zs (g := gb407) (o := .cells #[.slice none 0 0] 65 (0, 0)) (by (with_reducible repeat first | apply Zg | apply Zf | apply Zh); exact BK407.out)) : gb408 ≠ gb407)); replace BK407 := Za.mk (Zp (g := gb407) (o := .cells #[.slice none 0 0] 65 (0, 0)) (by (with_reducible repeat first | apply Zg | apply Zf | apply Zh); exact BK407.out) hb); clear hb hbox hg; have hnb6 := NB406_407.out; have hnc6 := NB407_406.out; have hnb7 := NB406_408.out; have hnc7 := NB408_406.out; have hcz8_0 : w5.cell? ⟨gb406, 0, none⟩ = some (.slice A0_0 l0_0.length c0_0) := (Zb BK406.out 0).trans rfl; have hfz8_0 := Zj BK406.out 0) | ((with_reducible refine Zaj (f := 74) rfl ?_); refine Zai (some 6) rfl rfl Try.func74 (by kernel_rfl) rfl #[.slice A0_0 l0_0.length c0_0] rfl (by (try simp only [ZA, ZB, ZC]); first | done | rfl) ?_; (with_reducible refine (Zbw.calls k _ _ l0_0 t409 _ ?side1 ?side2 A2.out).mono ?_); (case side1 => repeat (first | exact (Kd.Zan HR0_0.out HB.out) | (with_reducible refine Kd.Zau ?_ _) | (with_reducible refine Kd.Zaw ?_ _) | (with_reducible refine Kd.Zav ?_))); (case side2 => exact HC0_0.out); rintro e w9 ⟨v410, rfl, ho0, hb⟩; refine ⟨_, rfl, ?_⟩; have HO411 := Za.mk (Kd.Zbk ho0 (Zl (by with_reducible repeat first | exact HB.out | apply Zc | apply Ze | apply Zd | refine Zk ?_ GE406.out | refine Zk ?_ GE407.out | refine Zk ?_ GE408.out))); replace BK406 := Za.mk (Zp (g := gb406) (o := .cells #[.slice A0_0 l0_0.length c0_0] 117 (0, 0)) (by (with_reducible repeat first | apply Zg | apply Zf | apply Zh); exact BK406.out) hb); replace BK407 := Za.mk (Zp (g := gb407) (o := .cells #[.slice none 0 0] 65 (0, 0)) (by (with_reducible repeat first | apply Zg | apply Zf | apply Zh); exact BK407.out) hb); replace BK408 := Za.mk (Zp (g := gb408) (o := .cells #[.slice none 0 0] 65 (0, 0)) (by (with_reducible repeat first | apply Zg | apply Zf | apply Zh); exact BK408.out) hb); replace HB := Za.mk (Zo (by with_reducible repeat first | exact HB.out | apply Zc | apply Ze | apply Zd | refine Zk ?_ GE406.out | refine Zk ?_ GE407.out | refine Zk ?_ GE408.out) hb); (try clear hb); (try clear hb2); (try clear hk); (try clear hi); (try clear ho0); obtain ⟨Ao10, co10, eo10⟩ := Kd.Zay HO411.out; subst eo10; have hnb11 := NB408_407.out; have hnc11 := NB407_408.out; have hcz12_0 : w9.cell? ⟨gb408, 0, none⟩ = some (.slice none 0 0) := (Zb BK408.out 0).trans rfl; have hfz12_0 := Zj BK408.out 0; have hcz13_0 : w9.cell? ⟨gb407, 0, none⟩ = some (.slice none 0 0) := (Zb BK407.out 0).trans rfl; have hfz13_0 := Zj BK407.out 0))
 refine bodyPost_ret (results_cell_row rfl _ _ gb407 65 #[.slice Ao10 t409.length co10] (0, 0) _ rfl (by (with_reducible repeat first | apply Zg | apply Zf | apply Zh); refine Zw (cs := #[.slice none 0 0]) ?_ 0 _ rfl; (with_reducible repeat first | apply Zg | apply Zf | apply Zh); refine Zt ?_ NB407_408.out _; (with_reducible repeat first | apply Zg | apply Zf | apply Zh); exact BK407.out) Try.underlying65 rfl (by kernel_rfl)) rfl ?_
 exact ⟨_, by first | rfl | (simp [Zm, Zn] <;> rfl) | (simp [*, Zm, Zn] <;> rfl), by (with_reducible repeat (first | apply Kd.Zaa | apply Kd.Zy | apply Kd.Zz)); exact Kd.Zas (Kd.R_far (p := ⟨gb407, 0, none⟩) (Kd.R_far (p := ⟨gb408, 0, none⟩) (Kd.R_types (Kd.R_types HO411.out BK408.out (by decide)) BK407.out (by decide)) (fun _ hk => hk.1.2) (.slice Ao10 t409.length co10)) (fun _ hk => hk.2) (.slice Ao10 t409.length co10)) (fun _ hk => trivial), by with_reducible repeat first | exact HB.out | apply Zc | apply Ze | apply Zd | refine Zk ?_ GE406.out | refine Zk ?_ GE407.out | refine Zk ?_ GE408.out⟩
def Zbv.l0 : Nat → List (S117) → List (S65) → Int → Option ((List (S65)))
 | 0, _, _, _ => none
 | k + 1, x0, x3, x4 => if x4 < (x0.length : Int) then (if 0 ≤ x4 then ((laws_toRule.f k ((rd_T117 x0 x4).f0)).bind fun t416 => (if x4 < (x3.length : Int) then (Zbv.l0 k x0 (x3.set (x4 : Int).toNat (⟨t416⟩ : S65)) (wrap64 (x4 + 1))) else (none))) else (none)) else (some x3)
def Zbv.f (k : Nat) (l0 : List (S117)) : Option ((List (S65))) := if 0 ≤ (l0.length : Int) then (if ((l0.length : Int) : Int).toNat ≤ 11728124029610 then (Zbv.l0 k l0 (List.replicate ((l0.length : Int) : Int).toNat z65) 0) else (none)) else (none)
set_option maxHeartbeats 8000000 in
set_option maxRecDepth 100000 in
theorem Zbv.calls (k : Nat) (A0 : Option Addr) (c0 : Nat) (l0 : List (S117)) (r : List (S65)) (w : World) (hr0 : Kd.C k117 w A0 l0.length l0) (hc0 : l0.length ≤ c0) (h : Zbv.f k l0 = some r) :
  Calls Try.prog 54 #[.slice A0 l0.length c0] w fun e w' => ∃ v0_ : Value, e = .returned (v0_) ∧ Kd.S k65 65 w' w.heap.size (fun _ => True) v0_ r ∧ Below w.heap.size w w' := by
 have hu117 := Try.underlying117
 have hu65 := Try.underlying65
 have HR0 := Za.mk hr0
 have HC0 := Za.mk hc0
 clear hr0 hc0
 have HB := Za.mk (Below.refl w.heap.size w)
 have H := h
 unfold Zbv.f at H
 clear h
 by_cases c2 : 0 ≤ (l0.length : Int)
 ·rw [if_pos c2] at H
  have c2b0 := eq_true c2
  have c2b1 : decide (0 ≤ (l0.length : Int)) = true := decide_eq_true c2
  clear c2
  by_cases c3 : ((l0.length : Int) : Int).toNat ≤ 11728124029610
  ·rw [if_pos c3] at H
   have c3b0 := eq_true c3
   have c3b1 : decide (((l0.length : Int) : Int).toNat ≤ 11728124029610) = true := decide_eq_true c3
   clear c3
   obtain ⟨y412, hy412⟩ : ∃ y_ : List (S65), y_ = (List.replicate ((l0.length : Int) : Int).toNat z65) := ⟨_, rfl⟩
   replace H : (Zbv.l0 k l0 y412 0) = some r := by first | (rw [hy412]; with_reducible exact H) | (have H2_ := (Option.bind_some _ _).symm.trans H; rw [hy412]; with_reducible exact H2_) | (have H2_ := (Option.bind_some _ _).symm.trans H; with_reducible exact H2_) | with_reducible exact H | (rw [hy412]; exact H) | exact H
   have Ny412 := Za.mk hy412
   clear hy412
   have H' := Za.mk H
   clear H
   go_enter Try.func54, Try.ntmps54
   go_wp2_with (first | ((with_reducible refine Zab (N := 7) rfl ?_); refine Kd.S_make k65 _ 65 rfl (N := 7) rfl 59 _ _ rfl (l0.length : Int) rfl rfl Try.underlying59 (.agg #[(.slice none 0 0)]) 24 info65 rfl (by decide) (by omega) z65 (ok := fun _ => True) (okp := fun _ => True) (k65_mkM _ _ _ z65 (Kd.R_nil _ _ _ _ _)) (fun _ hk => hk) trivial (of_decide_eq_true (by assumption)) (Nat.le_trans (Nat.mul_le_mul_right _ (of_decide_eq_true (by assumption) : (l0.length : Int).toNat ≤ 11728124029610)) (by omega)) (Below.refl _ _) (Nat.le_refl _) ?_; intro v413 w4 ho5 hb hg_ hnew_; clear hg_ hnew_; (first | rw [← Ny412.out] at ho5 | (simp only [Int.reduceToNat] at ho5; rw [← Ny412.out] at ho5)); have HO414 := Za.mk (Kd.S_lower ho5 (Zl (by with_reducible repeat first | exact HB.out | apply Zc | apply Ze | apply Zd))); replace HB := Za.mk (Zo (by with_reducible repeat first | exact HB.out | apply Zc | apply Ze | apply Zd) hb); clear hb ho5))
   go_loopg [4] k (fun kq v4 w' => ∃ (x3_1 : List (S65)) (x4_1 : Int), v4 = .int .i64 x4_1 ∧ Za (Zbv.l0 kq l0 x3_1 x4_1 = some r) ∧ Za (kq ≤ k) ∧ Za (Kd.S k65 65 w' w.heap.size (fun _ => True) v413 x3_1) ∧ Za (Below w.heap.size w w'))
   case atStart => exact ⟨(y412), (0), (by first | rfl | (simp; done) | (simp [*]; done)), H', ⟨Nat.le_refl _⟩, ⟨by (with_reducible repeat (first | apply Kd.S_alloc | apply Kd.S_drewN | apply Kd.S_drew)); exact HO414.out⟩, ⟨by with_reducible repeat first | exact HB.out | apply Zc | apply Ze | apply Zd⟩⟩
   case round =>
    clear H'
    try clear c2
    try clear c2b0
    try clear c2b1
    try clear p2
    try clear c3
    try clear c3b0
    try clear c3b1
    try clear c5
    obtain ⟨x3_1, x4_1, rfl, HA, HK1, HO_3, HB⟩ := hrel
    cases gk with
    | zero => exact absurd HA.out (by simp [Zbv.l0])
    | succ k1 =>
     have H := HA.out
     clear HA
     simp only [Zbv.l0] at H
     by_cases c6 : x4_1 < (l0.length : Int)
     ·rw [if_pos c6] at H
      have c6b0 : decide (x4_1 < (l0.length : Int)) = true := decide_eq_true c6
      clear c6
      by_cases c7 : 0 ≤ x4_1
      ·rw [if_pos c7] at H
       have c7b0 : decide (0 ≤ x4_1) = true := decide_eq_true c7
       clear c7
       replace H := Option.bind_eq_some_iff.mp H
       obtain ⟨t416, A80, H⟩ := H
       replace H : (if x4_1 < (x3_1.length : Int) then (Zbv.l0 k1 l0 (x3_1.set (x4_1 : Int).toNat (⟨t416⟩ : S65)) (wrap64 (x4_1 + 1))) else (none)) = some r := H
       have A8 := Za.mk A80
       clear A80
       by_cases c9 : x4_1 < (x3_1.length : Int)
       ·rw [if_pos c9] at H
        have c9b0 : decide (x4_1 < (x3_1.length : Int)) = true := decide_eq_true c9
        clear c9
        obtain ⟨y419, hy419⟩ : ∃ y_ : List (S65), y_ = (x3_1.set (x4_1 : Int).toNat (⟨t416⟩ : S65)) := ⟨_, rfl⟩
        replace H : (Zbv.l0 k1 l0 y419 (wrap64 (x4_1 + 1))) = some r := by first | (rw [hy419]; with_reducible exact H) | (have H2_ := (Option.bind_some _ _).symm.trans H; rw [hy419]; with_reducible exact H2_) | (have H2_ := (Option.bind_some _ _).symm.trans H; with_reducible exact H2_) | with_reducible exact H | (rw [hy419]; exact H) | exact H
        have Ny419 := Za.mk hy419
        clear hy419
        have H' := Za.mk H
        clear H
        have p415 : 0 ≤ (x4_1 : Int) := of_decide_eq_true (by assumption)
        have q415 : x4_1 < (l0.length : Int) := of_decide_eq_true (by assumption)
        obtain ⟨ad415, A415_0, c415_0, e415, hx415_0, hl415_0, hi415_0⟩ := at_T117 HR0.out x4_1 p415 q415
        cases e415
        replace hx415_0 := (HB.out.cell (World.block_lt_of_cell? w _ hx415_0)).trans hx415_0
        have HR415_0 := Za.mk hi415_0
        have HC415_0 := Za.mk hl415_0
        clear hi415_0 hl415_0
        replace p415 := eq_true p415
        replace q415 := eq_true q415
        go_wp2_with (first | ((with_reducible refine Zaj (f := 66) rfl ?_); refine Zai (some 20) rfl rfl Try.func66 (by kernel_rfl) rfl #[.agg #[.slice A415_0 ((rd_T117 l0 x4_1).f0).length c415_0]] rfl (by (try simp only [ZA, ZB, ZC]); first | done | rfl) ?_; (with_reducible refine (laws_toRule.calls k1 _ _ ((rd_T117 l0 x4_1).f0) t416 _ ?side1 ?side2 A8.out).mono ?_); (case side1 => repeat (first | exact (Kd.Zan HR415_0.out HB.out) | (with_reducible refine Kd.Zau ?_ _) | (with_reducible refine Kd.Zaw ?_ _) | (with_reducible refine Kd.Zav ?_))); (case side2 => exact HC415_0.out); rintro e w11 ⟨v417, rfl, ho0, hb⟩; obtain ⟨Av417, cv417, ev417⟩ : ∃ A_ c_, v417 = Value.slice A_ t416.length c_ := (by first | exact Kd.Zay ho0 | exact Kd.S_slice ho0); subst ev417; refine ⟨_, rfl, ?_⟩; replace HO_3 := Za.mk (Kd.S_elder' (by (with_reducible repeat (first | apply Kd.S_alloc | apply Kd.S_drewN | apply Kd.S_drew)); exact HO_3.out) (Kd.R_base ho0) hb); have HO418 := Za.mk (Kd.Zbk ho0 (Zl (by with_reducible repeat first | exact HB.out | apply Zc | apply Ze | apply Zd))); replace HB := Za.mk (Zo (by with_reducible repeat first | exact HB.out | apply Zc | apply Ze | apply Zd) hb); (try clear hb); (try clear hb2); (try clear hk); (try clear hi); (try clear ho0); have p10 : 0 ≤ (x4_1 : Int) := of_decide_eq_true (by assumption); have q10 : (x4_1 : Int) < ((x3_1.length : Int) : Int) := of_decide_eq_true (by assumption); obtain ⟨go10, co10, eo10, gb10, gl10, cl10, HG10⟩ := Kd.S_form HO_3.out (by omega); (first | cases eo10 | (injection eo10 with ea_ en_ ec_; (first | subst ea_ | (injection ea_ with ea_; subst ea_)); subst ec_; clear en_)); have GB10 := Za.mk gb10; have GG10 := Za.mk HG10; clear gb10 gl10 HG10; obtain ⟨_, ce10, hcl10, hM10, hcc10, hfr10, _, _⟩ := Kd.S_elem HO_3.out z65 (x4_1 : Int) p10 q10; obtain ⟨ve10_0, rfl, ge10_0⟩ := k65_openM hM10; have hx10_0 := hcc10 0 _ rfl; have hf10_0 := hfr10 0; (try simp only [show (k65).sz = 1 from rfl, Nat.mul_one, Nat.add_zero] at hx10_0); (try simp only [show (k65).sz = 1 from rfl, Nat.mul_one, Nat.add_zero] at hf10_0); clear hcl10 hcc10 hfr10 hM10; replace p10 := eq_true p10; replace q10 := eq_true q10; replace HO_3 := Za.mk (Kd.S_mono (ok' := (fun k_ => some k_ ≠ ((.slice Av417 t416.length cv417) : Value).ownBlock)) HO_3.out (fun k_ hk => hk.2)); have HX12 := Za.mk (show Kd.S k65 65 w11 w.heap.size (fun k_ => ((fun _ => True)) k_ ∧ ¬ ((fun k_ => some k_ = ((.slice Av417 t416.length cv417) : Value).ownBlock)) k_) (.slice (some ⟨go10, 0, none⟩) x3_1.length co10) x3_1 from (by (with_reducible repeat (first | apply Kd.S_alloc | apply Kd.S_drewN | apply Kd.S_drew)); exact Kd.S_mono HO_3.out (fun k_ hk => ⟨trivial, fun e_ => hk e_⟩))); obtain ⟨oki12, ce12, hcl12, hM12, hcc12, hfr12, hoki12, hH12⟩ := Kd.S_elem HX12.out z65 (x4_1 : Int) (of_decide_eq_true (by assumption)) (by have h_ : (x4_1 : Int) < ((x3_1.length : Int) : Int) := of_decide_eq_true (by assumption); first | exact h_ | (have e_ := (Kd.S_reads' HO_3.out).1; omega) | simpa using h_); obtain ⟨ve12_0, rfl, ge12_0⟩ := k65_openM hM12; have HP12 := Kd.S_seg hH12 (of_decide_eq_true (by assumption)) (by have h_ : (x4_1 : Int) < ((x3_1.length : Int) : Int) := of_decide_eq_true (by assumption); first | exact h_ | (have e_ := (Kd.S_reads' HO_3.out).1; omega) | simpa using h_) (seg := [(.slice Av417 t416.length cv417)]) (j := 0) (show 1 ≤ 1 from by decide) (x' := (⟨t416⟩ : S65)) (k65_mkM _ _ _ (⟨t416⟩ : S65) (Kd.Zas (Kd.R_tight rfl (Kd.Zas (ok' := fun k_ => ((fun _ => True)) k_ ∧ k_ ≠ go10) (Kd.R_apart' (HO418.out) (Kd.S_typed HO_3.out) (by decide)) (fun k_ hk => ⟨trivial, fun e_ => (hk.2) (by rw [e_]; rfl)⟩))) (fun _ h_ => Or.inr (h_)))) (fun _ hk => hk) (fun k_ hk_ => ((Kd.Zas (ok' := fun k_ => ((fun _ => True)) k_ ∧ k_ ≠ go10) (Kd.R_apart' (HO418.out) (Kd.S_typed HO_3.out) (by decide)) (fun k_ hk => ⟨trivial, fun e_ => (hk.2) (by rw [e_]; rfl)⟩))).1 k_ hk_.symm); have hx12_0 := hcc12 0 _ rfl; (try simp only [show (k65).sz = 1 from rfl, Nat.mul_one, Nat.add_zero] at hx12_0); have hf12_0 := hfr12 0; (try simp only [show (k65).sz = 1 from rfl, Nat.mul_one, Nat.add_zero] at hf12_0); clear hcl12 hcc12 hfr12 hM12 hoki12 hH12; (try simp only [show (k65).sz = 1 from rfl, Nat.mul_one, Nat.add_zero] at HP12)) | ((with_reducible refine gate_store (t := 65) (p := 21) rfl ?_); refine store_event (t := 65) (p := 21) (v := ?vo_w13) (w1 := (w11.setCell ⟨go10, (x4_1 : Int).toNat, none⟩ ((.slice Av417 t416.length cv417)))) ?hg ?ho ?hn ?hr ?_; (case ho => rfl); (case hg => rfl); (case hn => rfl); (case hr => go_simp <;> rfl); intro w13 hw; have hg : w11.grownBy w13 (some go10) := (by rw [hw]; exact HP12.2); have hp_ : Kd.S k65 65 w13 w.heap.size (fun _ => True) (.slice (some ⟨go10, 0, none⟩) x3_1.length co10) y419 := (by rw [hw, Ny419.out]; exact HP12.1); clear HP12; have n0_ := Za.mk (hp_); have n1_ := Za.mk ((by rw [hw]; exact Zk (HB.out) GB10.out : Below w.heap.size w w13)); clear HO_3; clear HB; clear HO418; have HO_3 := n0_; have HB := n1_; clear n0_ n1_; clear hg hw hp_))
        go_roundg k1
        case measure => have := HK1.out; omega
        case rel => exact ⟨(y419), (wrap64 (x4_1 + 1)), (by first | rfl | (simp; done) | (simp [*]; done)), H', ⟨by have := HK1.out; omega⟩, ⟨by (with_reducible repeat (first | apply Kd.S_alloc | apply Kd.S_drewN | apply Kd.S_drew)); exact HO_3.out⟩, ⟨by with_reducible repeat first | exact HB.out | apply Zc | apply Ze | apply Zd⟩⟩
       rw [if_neg c9] at H
       exact absurd H (by simp)
      rw [if_neg c7] at H
      exact absurd H (by simp)
     rw [if_neg c6] at H
     have c6b0 : decide (x4_1 < (l0.length : Int)) = false := decide_eq_false c6
     clear c6
     obtain rfl := Option.some.inj H
     go_wp2
     go_ret
     exact ⟨_, by first | rfl | (simp [Zm, Zn] <;> rfl) | (simp [*, Zm, Zn] <;> rfl), by (with_reducible repeat (first | apply Kd.S_alloc | apply Kd.S_drewN | apply Kd.S_drew)); exact HO_3.out, by with_reducible repeat first | exact HB.out | apply Zc | apply Ze | apply Zd⟩
  rw [if_neg c3] at H
  exact absurd H (by simp)
 rw [if_neg c2] at H
 exact absurd H (by simp)
def laws_toEntry.f (k : Nat) (a0_0 : Int) (a0_1 : Int) (l0_2 : List (S117)) : Option (Int × Int × (List (S65))) := (Zbv.f k l0_2).bind fun t423 => (some (a0_0, a0_1, t423))
set_option maxHeartbeats 8000000 in
set_option maxRecDepth 100000 in
theorem laws_toEntry.calls (k : Nat) (a0_0 : Int) (a0_1 : Int) (A0_2 : Option Addr) (c0_2 : Nat) (l0_2 : List (S117)) (r1 : Int) (r2 : Int) (r3 : List (S65)) (w : World) (hr0_2 : Kd.C k117 w A0_2 l0_2.length l0_2) (hc0_2 : l0_2.length ≤ c0_2) (h : laws_toEntry.f k a0_0 a0_1 l0_2 = some (r1, r2, r3)) :
  Calls Try.prog 34 #[.agg #[.int .u32 a0_0, .int .u32 a0_1, .slice A0_2 l0_2.length c0_2]] w fun e w' => ∃ v2_ : Value, e = .returned (.agg #[.int .u32 r1, .int .u32 r2, v2_]) ∧ Kd.S k65 65 w' w.heap.size (fun _ => True) v2_ r3 ∧ Below w.heap.size w w' := by
 have hu58 := Try.underlying58
 have hu61 := Try.underlying61
 have HR0_2 := Za.mk hr0_2
 have HC0_2 := Za.mk hc0_2
 clear hr0_2 hc0_2
 have HB := Za.mk (Below.refl w.heap.size w)
 have H : ((Zbv.f k l0_2).bind fun t423 => (some (a0_0, a0_1, t423))) = some (r1, r2, r3) := h
 clear h
 replace H := Option.bind_eq_some_iff.mp H
 obtain ⟨t423, A20, H⟩ := H
 replace H : (some (a0_0, a0_1, t423)) = some (r1, r2, r3) := H
 have A2 := Za.mk A20
 clear A20
 simp only [Option.some.injEq, Prod.mk.injEq] at H
 obtain ⟨rfl, rfl, rfl⟩ := H
 go_enter Try.func34, Try.ntmps34
 go_wp2_with (first | ((with_reducible refine Zab (N := 1) rfl ?_); refine Zac ?hg (N := 1) ?hd (cs := #[.int .u32 a0_0, .int .u32 a0_1, .slice A0_2 l0_2.length c0_2]) (t := 58) ?hr ?_; (case hd => rfl); (case hg => rfl); (case hr => go_simp <;> rfl); intro gb420 hg w3 hbox hb; have BK420 := Za.mk (hbox); have GW420 := Za.mk ((by rw [hg]; exact (Zl (by with_reducible repeat first | exact HB.out | apply Zc | apply Ze | apply Zd)) : w.heap.size ≤ gb420)); have GE420 := Za.mk ((by rw [hg]; exact (Zl (by with_reducible repeat first | exact HB.out | apply Zc | apply Ze | apply Zd)) : w.heap.size ≤ gb420)); replace HB := Za.mk (Zo (by with_reducible repeat first | exact HB.out | apply Zc | apply Ze | apply Zd) hb); clear hb hbox hg) | ((with_reducible refine Zab (N := 2) rfl ?_); refine Zac ?hg (N := 2) ?hd (cs := #[.int .u32 0, .int .u32 0, .slice none 0 0]) (t := 61) ?hr ?_; (case hd => rfl); (case hg => rfl); (case hr => go_simp <;> rfl); intro gb421 hg w4 hbox hb; have BK421 := Za.mk (hbox); have GW421 := Za.mk ((by rw [hg]; exact (Zl (by with_reducible repeat first | exact HB.out | apply Zc | apply Ze | apply Zd | refine Zk ?_ GE420.out)) : w.heap.size ≤ gb421)); have GE421 := Za.mk ((by rw [hg]; exact (Zl (by with_reducible repeat first | exact HB.out | apply Zc | apply Ze | apply Zd | refine Zk ?_ GE420.out)) : w.heap.size ≤ gb421)); replace HB := Za.mk (Zo (by with_reducible repeat first | exact HB.out | apply Zc | apply Ze | apply Zd | refine Zk ?_ GE420.out) hb); have NB420_421 := Za.mk ((by rw [hg]; exact Nat.ne_of_lt (Zs (g := gb420) (o := .cells #[.int .u32 a0_0, .int .u32 a0_1, .slice A0_2 l0_2.length c0_2] 58 (0, 0)) (by (with_reducible repeat first | apply Zg | apply Zf | apply Zh); exact BK420.out)) : gb420 ≠ gb421)); have NB421_420 := Za.mk ((by rw [hg]; exact Nat.ne_of_gt (Zs (g := gb420) (o := .cells #[.int .u32 a0_0, .int .u32 a0_1, .slice A0_2 l0_2.length c0_2] 58 (0, 0)) (by (with_reducible repeat first | apply Zg | apply Zf | apply Zh); exact BK420.out)) : gb421 ≠ gb420)); replace BK420 := Za.mk (Zp (g := gb420) (o := .cells #[.int .u32 a0_0, .int .u32 a0_1, .slice A0_2 l0_2.length c0_2] 58 (0, 0)) (by (with_reducible repeat first | apply Zg | apply Zf | apply Zh); exact BK420.out) hb); clear hb hbox hg) | ((with_reducible refine Zab (N := 3) rfl ?_); refine Zac ?hg (N := 3) ?hd (cs := #[.int .u32 0, .int .u32 0, .slice none 0 0]) (t := 61) ?hr ?_; (case hd => rfl); (case hg => rfl); (case hr => go_simp <;> rfl); intro gb422 hg w5 hbox hb; have BK422 := Za.mk (hbox); have GW422 := Za.mk ((by rw [hg]; exact (Zl (by with_reducible repeat first | exact HB.out | apply Zc | apply Ze | apply Zd | refine Zk ?_ GE420.out | refine Zk ?_ GE421.out)) : w.heap.size ≤ gb422)); have GE422 := Za.mk ((by rw [hg]; exact (Zl (by with_reducible repeat first | exact HB.out | apply Zc | apply Ze | apply Zd | refine Zk ?_ GE420.out | refine Zk ?_ GE421.out)) : w.heap.size ≤ gb422)); replace HB := Za.mk (Zo (by with_reducible repeat first | exact HB.out | apply Zc | apply Ze | apply Zd | refine Zk ?_ GE420.out | refine Zk ?_ GE421.out) hb); have NB420_422 := Za.mk ((by rw [hg]; exact Nat.ne_of_lt (Zs (g := gb420) (o := .cells #[.int .u32 a0_0, .int .u32 a0_1, .slice A0_2 l0_2.length c0_2] 58 (0, 0)) (by (with_reducible repeat first | apply Zg | apply Zf | apply Zh); exact BK420.out)) : gb420 ≠ gb422)); have NB422_420 := Za.mk ((by rw [hg]; exact Nat.ne_of_gt (Zs (g := gb420) (o := .cells #[.int .u32 a0_0, .int .u32 a0_1, .slice A0_2 l0_2.length c0_2] 58 (0, 0)) (by (with_reducible repeat first | apply Zg | apply Zf | apply Zh); exact BK420.out)) : gb422 ≠ gb420)); replace BK420 := Za.mk (Zp (g := gb420) (o := .cells #[.int .u32 a0_0, .int .u32 a0_1, .slice A0_2 l0_2.length c0_2] 58 (0, 0)) (by (with_reducible repeat first | apply Zg | apply Zf | apply Zh); exact BK420.out) hb); have NB421_422 := Za.mk ((by rw [hg]; exact Nat.ne_of_lt (Zs (g := gb421) (o := .cells #[.int .u32 0, .int .u32 0, .slice none 0 0] 61 (0, 0)) (by (with_reducible repeat first | apply Zg | apply Zf | apply Zh); exact BK421.out)) : gb421 ≠ gb422)); have NB422_421 := Za.mk ((by rw [hg]; exact Nat.ne_of_gt (Zs (g := gb421) (o := .cells #[.int .u32 0, .int .u32 0, .slice none 0 0] 61 (0, 0)) (by (with_reducible repeat first | apply Zg | apply Zf | apply Zh); exact BK421.out)) : gb422 ≠ gb421)); replace BK421 := Za.mk (Zp (g := gb421) (o := .cells #[.int .u32 0, .int .u32 0, .slice none 0 0] 61 (0, 0)) (by (with_reducible repeat first | apply Zg | apply Zf | apply Zh); exact BK421.out) hb); clear hb hbox hg; have hnb6 := NB420_421.out; have hnc6 := NB421_420.out; have hnb7 := NB420_422.out; have hnc7 := NB422_420.out; have hcz8_0 : w5.cell? ⟨gb420, 0, none⟩ = some (.int .u32 a0_0) := (Zb BK420.out 0).trans rfl; have hcz8_1 : w5.cell? ⟨gb420, 1, none⟩ = some (.int .u32 a0_1) := (Zb BK420.out 1).trans rfl; have hcz8_2 : w5.cell? ⟨gb420, 2, none⟩ = some (.slice A0_2 l0_2.length c0_2) := (Zb BK420.out 2).trans rfl; have hfz8_0 := Zj BK420.out 0; have hfz8_1 := Zj BK420.out 1; have hfz8_2 := Zj BK420.out 2; have hnb9 := NB422_421.out; have hnc9 := NB421_422.out; have hcz10_0 : w5.cell? ⟨gb422, 0, none⟩ = some (.int .u32 0) := (Zb BK422.out 0).trans rfl; have hcz10_1 : w5.cell? ⟨gb422, 1, none⟩ = some (.int .u32 0) := (Zb BK422.out 1).trans rfl; have hcz10_2 : w5.cell? ⟨gb422, 2, none⟩ = some (.slice none 0 0) := (Zb BK422.out 2).trans rfl; have hfz10_0 := Zj BK422.out 0; have hfz10_1 := Zj BK422.out 1; have hfz10_2 := Zj BK422.out 2) | ((with_reducible refine Zaj (f := 54) rfl ?_); refine Zai (some 12) rfl rfl Try.func54 (by kernel_rfl) rfl #[.slice A0_2 l0_2.length c0_2] rfl (by (try simp only [ZA, ZB, ZC]); first | done | rfl) ?_; (with_reducible refine (Zbv.calls k _ _ l0_2 t423 _ ?side1 ?side2 A2.out).mono ?_); (case side1 => exact Kd.Zan HR0_2.out (by with_reducible repeat first | exact HB.out | apply Zc | apply Ze | apply Zd | refine Zk ?_ GE420.out | refine Zk ?_ GE421.out | refine Zk ?_ GE422.out)); (case side2 => exact HC0_2.out); rintro e w11 ⟨v424, rfl, ho0, hb⟩; refine ⟨_, rfl, ?_⟩; have HO425 := Za.mk (Kd.S_lower ho0 (Zl (by with_reducible repeat first | exact HB.out | apply Zc | apply Ze | apply Zd | refine Zk ?_ GE420.out | refine Zk ?_ GE421.out | refine Zk ?_ GE422.out))); replace BK420 := Za.mk (Zp (g := gb420) (o := .cells #[.int .u32 a0_0, .int .u32 a0_1, .slice A0_2 l0_2.length c0_2] 58 (0, 0)) (by (with_reducible repeat first | apply Zg | apply Zf | apply Zh); refine Zt ?_ NB420_422.out _; (with_reducible repeat first | apply Zg | apply Zf | apply Zh); refine Zt ?_ NB420_422.out _; (with_reducible repeat first | apply Zg | apply Zf | apply Zh); exact BK420.out) hb); replace BK421 := Za.mk (Zp (g := gb421) (o := .cells #[.int .u32 0, .int .u32 0, .slice none 0 0] 61 (0, 0)) (by (with_reducible repeat first | apply Zg | apply Zf | apply Zh); refine Zt ?_ NB421_422.out _; (with_reducible repeat first | apply Zg | apply Zf | apply Zh); refine Zt ?_ NB421_422.out _; (with_reducible repeat first | apply Zg | apply Zf | apply Zh); exact BK421.out) hb); replace BK422 := Za.mk (Zp (g := gb422) (o := .cells #[.int .u32 a0_0, .int .u32 a0_1, .slice none 0 0] 61 (0, 0)) (by (with_reducible repeat first | apply Zg | apply Zf | apply Zh); refine Zw (cs := #[.int .u32 a0_0, .int .u32 0, .slice none 0 0]) ?_ 1 _ rfl; (with_reducible repeat first | apply Zg | apply Zf | apply Zh); refine Zw (cs := #[.int .u32 0, .int .u32 0, .slice none 0 0]) ?_ 0 _ rfl; (with_reducible repeat first | apply Zg | apply Zf | apply Zh); exact BK422.out) hb); replace HB := Za.mk (Zo (by with_reducible repeat first | exact HB.out | apply Zc | apply Ze | apply Zd | refine Zk ?_ GE420.out | refine Zk ?_ GE421.out | refine Zk ?_ GE422.out) hb); (try clear hb); (try clear hb2); (try clear hk); (try clear hi); (try clear ho0); obtain ⟨Ao12, co12, eo12⟩ := Kd.S_slice HO425.out; subst eo12; have hcz13_0 : w11.cell? ⟨gb422, 0, none⟩ = some (.int .u32 a0_0) := (Zb BK422.out 0).trans rfl; have hcz13_1 : w11.cell? ⟨gb422, 1, none⟩ = some (.int .u32 a0_1) := (Zb BK422.out 1).trans rfl; have hcz13_2 : w11.cell? ⟨gb422, 2, none⟩ = some (.slice none 0 0) := (Zb BK422.out 2).trans rfl; have hfz13_0 := Zj BK422.out 0; have hfz13_1 := Zj BK422.out 1; have hfz13_2 := Zj BK422.out 2; have hcz14_0 : w11.cell? ⟨gb421, 0, none⟩ = some (.int .u32 0) := (Zb BK421.out 0).trans rfl; have hcz14_1 : w11.cell? ⟨gb421, 1, none⟩ = some (.int .u32 0) := (Zb BK421.out 1).trans rfl; have hcz14_2 : w11.cell? ⟨gb421, 2, none⟩ = some (.slice none 0 0) := (Zb BK421.out 2).trans rfl; have hfz14_0 := Zj BK421.out 0; have hfz14_1 := Zj BK421.out 1; have hfz14_2 := Zj BK421.out 2))
 refine bodyPost_ret (results_cell_row rfl _ _ gb421 61 #[.int .u32 a0_0, .int .u32 a0_1, .slice Ao12 t423.length co12] (0, 0) _ rfl (by (with_reducible repeat first | apply Zg | apply Zf | apply Zh); refine Zw (cs := #[.int .u32 a0_0, .int .u32 a0_1, .slice none 0 0]) ?_ 2 _ rfl; (with_reducible repeat first | apply Zg | apply Zf | apply Zh); refine Zw (cs := #[.int .u32 a0_0, .int .u32 0, .slice none 0 0]) ?_ 1 _ rfl; (with_reducible repeat first | apply Zg | apply Zf | apply Zh); refine Zw (cs := #[.int .u32 0, .int .u32 0, .slice none 0 0]) ?_ 0 _ rfl; (with_reducible repeat first | apply Zg | apply Zf | apply Zh); refine Zt ?_ NB421_422.out _; (with_reducible repeat first | apply Zg | apply Zf | apply Zh); exact BK421.out) Try.underlying61 rfl (by kernel_rfl)) rfl ?_
 exact ⟨_, by first | rfl | (simp [Zm, Zn] <;> rfl) | (simp [*, Zm, Zn] <;> rfl), by (with_reducible repeat (first | apply Kd.S_alloc | apply Kd.S_drewN | apply Kd.S_drew)); exact Kd.S_mono (Kd.S_far (p := ⟨gb421, 2, none⟩) (Kd.S_far (p := ⟨gb421, 1, none⟩) (Kd.S_far (p := ⟨gb421, 0, none⟩) (Kd.S_far (p := ⟨gb422, 2, none⟩) (Kd.S_types (Kd.S_types HO425.out BK422.out (by decide)) BK421.out (by decide)) (fun _ hk => hk.1.2) (.slice Ao12 t423.length co12)) (fun _ hk => hk.2) (.int .u32 a0_0)) (fun _ hk => hk.2) (.int .u32 a0_1)) (fun _ hk => hk.2) (.slice Ao12 t423.length co12)) (fun _ hk => trivial), by with_reducible repeat first | exact HB.out | apply Zc | apply Ze | apply Zd | refine Zk ?_ GE420.out | refine Zk ?_ GE421.out | refine Zk ?_ GE422.out⟩

end Go.Proofs.Ytgmbahldjiiajaa.P
