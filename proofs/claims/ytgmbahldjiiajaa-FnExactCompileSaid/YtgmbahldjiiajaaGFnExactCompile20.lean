import Derived.Test.YtgmbahldjiiajaaGFnExactCompile4
import Derived.Test.YtgmbahldjiiajaaGFnExactCompile6
import Derived.Test.YtgmbahldjiiajaaGFnExactCompile9
import Derived.Test.YtgmbahldjiiajaaGFnExactCompile10
import Derived.Test.YtgmbahldjiiajaaGFnExactCompile12
namespace Go.Proofs.Ytgmbahldjiiajaa.P
open Go.RowKit Go.Proofs.YtgmbahldjiiajaaW.PrintWords Go.Proofs.YtgmbahldjiiajaaW.PrintLast Go.Proofs.YtgmbahldjiiajaaW.PrintMore
attribute [local go_sem] max2_int min2_int max_two min_two max_three min_three max_four min_four
set_option linter.unusedVariables false
set_option linter.unusedSimpArgs false

def Zcf.l0 : Nat → List (S95) → Int → Int → Option (Int × (List (S95)))
 | 0, _, _, _ => none
 | k + 1, x0, x1, x5 => if x5 < (x0.length : Int) then (if 0 ≤ x5 then ((some (x0.set (x5 : Int).toNat (⟨x1, (Zx x0 x5).f1, (Zx x0 x5).f2⟩ : S95) : List (S95))).bind fun y520 => ((some (y520.set (x5 : Int).toNat (⟨(Zx y520 x5).f0, IntKind.u64.wrap (wrap64 (x1 + 1)), (Zx y520 x5).f2⟩ : S95) : List (S95))).bind fun y521 => (Zcf.l0 k (y521.set (x5 : Int).toNat (⟨(Zx y521 x5).f0, (Zx y521 x5).f1, IntKind.u64.wrap (wrap64 ((wrap64 (x1 + 1)) + 1))⟩ : S95)) (wrap64 ((wrap64 ((wrap64 (x1 + 1)) + 1)) + 1)) (wrap64 (x5 + 1))))) else (none)) else (some (x1, x0))
def Zcf.f (k : Nat) (l0 : List (S95)) (a1 : Int) : Option (Int × (List (S95))) := Zcf.l0 k l0 a1 0
set_option maxHeartbeats 8000000 in
set_option maxRecDepth 100000 in
theorem Zcf.calls (k : Nat) (P0_ : Nat → Prop) (u9000_ : Value) (l0 : List (S95)) (a1 : Int) (r1 : Int) (r2 : List (S95)) (w0 w : World) (hB : Below w0.heap.size w0 w) (ho0 : Kd.R k95 95 w w0.heap.size P0_ u9000_ l0) (h : Zcf.f k l0 a1 = some (r1, r2)) :
  Calls Try.prog 63 #[u9000_, .int .i64 a1] w fun e w' => e = .returned (.int .i64 r1) ∧ Kd.R k95 95 w' w0.heap.size (fun k_ => (P0_ k_ ∨ w.heap.size ≤ k_)) u9000_ r2 ∧ Below w0.heap.size w0 w' ∧ Kept w w' (fun k_ => P0_ k_) := by
 have HO0 := Za.mk (show Kd.R k95 95 w w0.heap.size (fun k_ => (P0_ k_ ∨ w.heap.size ≤ k_)) u9000_ l0 from Kd.Zas ho0 (fun k_ hk => (.inl hk)))
 have HK := Za.mk (Kept.refl w (fun k_ => P0_ k_))
 have HW0 := Za.mk hB.size
 have HB := Za.mk hB
 clear hB
 have H : (Zcf.l0 k l0 a1 0) = some (r1, r2) := h
 clear h
 have H' := Za.mk H
 clear H
 go_enter Try.func63, Try.ntmps63
 go_wp2
 go_loopg [1, 5] k (fun kq v1 v5 w' => ∃ (x0_1 : List (S95)) (x1_1 : Int) (x5_1 : Int), v1 = .int .i64 x1_1 ∧ v5 = .int .i64 x5_1 ∧ Za (Zcf.l0 kq x0_1 x1_1 x5_1 = some (r1, r2)) ∧ Za (kq ≤ k) ∧ Za (Kd.R k95 95 w' w0.heap.size (fun k_ => (P0_ k_ ∨ w.heap.size ≤ k_)) u9000_ x0_1) ∧ Za (Kept w w' (fun k_ => P0_ k_)) ∧ Za (Below w0.heap.size w0 w'))
 case atStart => exact ⟨(l0), (a1), (0), (by first | rfl | (simp; done) | (simp [*]; done)), (by first | rfl | (simp; done) | (simp [*]; done)), H', ⟨Nat.le_refl _⟩, ⟨by (with_reducible repeat (first | apply Kd.Zaa | apply Kd.Zy | apply Kd.Zz)); exact HO0.out⟩, ⟨by repeat (first | (with_reducible first | exact HK.out | apply Kept.alloc | apply Kept.drewN | apply Kept.drew) | exact HK.out)⟩, ⟨by with_reducible repeat first | exact HB.out | apply Zc | apply Ze | apply Zd⟩⟩
 case round =>
  clear H'
  try clear p2
  obtain ⟨x0_1, x1_1, x5_1, rfl, rfl, HA, HK1, HO_0, HK, HB⟩ := hrel
  cases gk with
  | zero => exact absurd HA.out (by simp [Zcf.l0])
  | succ k1 =>
   have H := HA.out
   clear HA
   simp only [Zcf.l0] at H
   by_cases c3 : x5_1 < (x0_1.length : Int)
   ·rw [if_pos c3] at H
    have c3b0 : decide (x5_1 < (x0_1.length : Int)) = true := decide_eq_true c3
    clear c3
    by_cases c4 : 0 ≤ x5_1
    ·rw [if_pos c4] at H
     have c4b0 : decide (0 ≤ x5_1) = true := decide_eq_true c4
     clear c4
     obtain ⟨y520, hy520⟩ : ∃ y_ : List (S95), y_ = (x0_1.set (x5_1 : Int).toNat (⟨x1_1, (Zx x0_1 x5_1).f1, (Zx x0_1 x5_1).f2⟩ : S95)) := ⟨_, rfl⟩
     replace H : ((some (y520.set (x5_1 : Int).toNat (⟨(Zx y520 x5_1).f0, IntKind.u64.wrap (wrap64 (x1_1 + 1)), (Zx y520 x5_1).f2⟩ : S95) : List (S95))).bind fun y521 => (Zcf.l0 k1 (y521.set (x5_1 : Int).toNat (⟨(Zx y521 x5_1).f0, (Zx y521 x5_1).f1, IntKind.u64.wrap (wrap64 ((wrap64 (x1_1 + 1)) + 1))⟩ : S95)) (wrap64 ((wrap64 ((wrap64 (x1_1 + 1)) + 1)) + 1)) (wrap64 (x5_1 + 1)))) = some (r1, r2) := by first | (rw [hy520]; with_reducible exact H) | (have H2_ := (Option.bind_some _ _).symm.trans H; rw [hy520]; with_reducible exact H2_) | (have H2_ := (Option.bind_some _ _).symm.trans H; with_reducible exact H2_) | with_reducible exact H | (rw [hy520]; exact H) | exact H
     have Ny520 := Za.mk hy520
     clear hy520
     obtain ⟨y521, hy521⟩ : ∃ y_ : List (S95), y_ = (y520.set (x5_1 : Int).toNat (⟨(Zx y520 x5_1).f0, IntKind.u64.wrap (wrap64 (x1_1 + 1)), (Zx y520 x5_1).f2⟩ : S95)) := ⟨_, rfl⟩
     replace H : (Zcf.l0 k1 (y521.set (x5_1 : Int).toNat (⟨(Zx y521 x5_1).f0, (Zx y521 x5_1).f1, IntKind.u64.wrap (wrap64 ((wrap64 (x1_1 + 1)) + 1))⟩ : S95)) (wrap64 ((wrap64 ((wrap64 (x1_1 + 1)) + 1)) + 1)) (wrap64 (x5_1 + 1))) = some (r1, r2) := by first | (rw [hy521]; with_reducible exact H) | (have H2_ := (Option.bind_some _ _).symm.trans H; rw [hy521]; with_reducible exact H2_) | (have H2_ := (Option.bind_some _ _).symm.trans H; with_reducible exact H2_) | with_reducible exact H | (rw [hy521]; exact H) | exact H
     have Ny521 := Za.mk hy521
     clear hy521
     obtain ⟨y522, hy522⟩ : ∃ y_ : List (S95), y_ = (y521.set (x5_1 : Int).toNat (⟨(Zx y521 x5_1).f0, (Zx y521 x5_1).f1, IntKind.u64.wrap (wrap64 ((wrap64 (x1_1 + 1)) + 1))⟩ : S95)) := ⟨_, rfl⟩
     replace H : (Zcf.l0 k1 y522 (wrap64 ((wrap64 ((wrap64 (x1_1 + 1)) + 1)) + 1)) (wrap64 (x5_1 + 1))) = some (r1, r2) := by first | (rw [hy522]; with_reducible exact H) | (have H2_ := (Option.bind_some _ _).symm.trans H; rw [hy522]; with_reducible exact H2_) | (have H2_ := (Option.bind_some _ _).symm.trans H; with_reducible exact H2_) | with_reducible exact H | (rw [hy522]; exact H) | exact H
     have Ny522 := Za.mk hy522
     clear hy522
     have H' := Za.mk H
     clear H
     obtain ⟨Ao8, co8, eo8⟩ := Kd.Zay HO_0.out
     subst eo8
     have p5 : 0 ≤ (x5_1 : Int) := of_decide_eq_true (by assumption)
     have q5 : (x5_1 : Int) < ((x0_1.length : Int) : Int) := of_decide_eq_true (by assumption)
     obtain ⟨go5, co5, eo5, gb5, gl5, cl5, HG5⟩ := Kd.R_form HO_0.out (by omega)
     (first | cases eo5 | (injection eo5 with ea_ en_ ec_; (first | subst ea_ | (injection ea_ with ea_; subst ea_)); subst ec_; clear en_))
     have GB5 := Za.mk gb5
     have GG5 := Za.mk HG5
     clear gb5 gl5 HG5
     have HMgo5 := Za.mk (show (P0_ go5 ∨ w.heap.size ≤ go5) from (HO_0.out.1 _ rfl))
     obtain ⟨ce5, hcl5, hM5, hcc5, hfr5⟩ := Kd.R_elem HO_0.out z95 (x5_1 : Int) p5 q5
     obtain rfl := k95_openM hM5
     have hx5_0 : wr.cell? ⟨go5, (x5_1 : Int).toNat * 3, none⟩ = some (.int .i64 ((Zx x0_1 x5_1).f0)) := hcc5 0 _ rfl
     have hx5_1 : wr.cell? ⟨go5, (x5_1 : Int).toNat * 3 + 1, none⟩ = some (.int .u64 ((Zx x0_1 x5_1).f1)) := hcc5 1 _ rfl
     have hx5_2 : wr.cell? ⟨go5, (x5_1 : Int).toNat * 3 + 2, none⟩ = some (.int .u64 ((Zx x0_1 x5_1).f2)) := hcc5 2 _ rfl
     have hf5_0 : wr.frozen? ⟨go5, (x5_1 : Int).toNat * 3, none⟩ = false := hfr5 0
     have hf5_1 : wr.frozen? ⟨go5, (x5_1 : Int).toNat * 3 + 1, none⟩ = false := hfr5 1
     have hf5_2 : wr.frozen? ⟨go5, (x5_1 : Int).toNat * 3 + 2, none⟩ = false := hfr5 2
     clear hcl5 hcc5 hfr5 hM5
     replace p5 := eq_true p5
     replace q5 := eq_true q5
     have HX9 := Za.mk (show Kd.R k95 95 wr w0.heap.size (fun k_ => (P0_ k_ ∨ w.heap.size ≤ k_)) (.slice (some ⟨go5, 0, none⟩) x0_1.length co8) x0_1 from (by (with_reducible repeat (first | apply Kd.Zaa | apply Kd.Zy | apply Kd.Zz)); exact HO_0.out))
     obtain ⟨ce9, hcl9, hM9, hcc9, hfr9⟩ := Kd.R_elem HX9.out z95 (x5_1 : Int) (of_decide_eq_true (by assumption)) (by have h_ : (x5_1 : Int) < ((x0_1.length : Int) : Int) := of_decide_eq_true (by assumption); first | exact h_ | (have e_ := (Kd.Zat HO_0.out).1; omega) | simpa using h_)
     obtain rfl := k95_openM hM9
     have HP9 := Kd.R_seg HX9.out (x5_1 : Int) (of_decide_eq_true (by assumption)) (by have h_ : (x5_1 : Int) < ((x0_1.length : Int) : Int) := of_decide_eq_true (by assumption); first | exact h_ | (have e_ := (Kd.Zat HO_0.out).1; omega) | simpa using h_) (seg := [.int .i64 x1_1]) (j := 0) hcl9 hcc9 (show 1 ≤ 3 from by decide) (x' := (⟨x1_1, (Zx x0_1 x5_1).f1, (Zx x0_1 x5_1).f2⟩ : S95)) (k95_mkM _ _ _ (⟨x1_1, (Zx x0_1 x5_1).f1, (Zx x0_1 x5_1).f2⟩ : S95) ) (fun _ hk => hk)
     have hx9_0 := hcc9 0 _ rfl
     (try simp only [show (k95).sz = 3 from rfl, Nat.mul_one, Nat.add_zero] at hx9_0)
     have hf9_0 := hfr9 0
     (try simp only [show (k95).sz = 3 from rfl, Nat.mul_one, Nat.add_zero] at hf9_0)
     clear hcl9 hcc9 hfr9 hM9
     go_wp2_with (first | ((with_reducible refine gate_store (t := 3) (p := 16) rfl ?_); refine store_event (t := 3) (p := 16) (v := ?vo_w10) (w1 := (wr.setCell ⟨go5, (x5_1 : Int).toNat * 3, none⟩ (.int .i64 x1_1))) ?hg ?ho ?hn ?hr ?_; (case ho => rfl); (case hg => rfl); (case hn => rfl); (case hr => go_simp <;> rfl); intro w10 hw; have hg : wr.grownBy w10 (some go5) := (by rw [hw]; exact HP9.2); have hp_ : Kd.R k95 95 w10 w0.heap.size (fun k_ => (P0_ k_ ∨ w.heap.size ≤ k_)) (.slice (some ⟨go5, 0, none⟩) x0_1.length co8) y520 := (by rw [hw, Ny520.out]; exact HP9.1); clear HP9; replace HB := Za.mk ((by rw [hw]; exact Zk (HB.out) GB5.out : Below w0.heap.size w0 w10)); replace HK := Za.mk (Kept.of_grown (S := (fun k_ => P0_ k_)) hg (by repeat (first | (with_reducible first | exact HK.out | apply Kept.alloc | apply Kept.drewN | apply Kept.drew) | exact HK.out)) (fun k_ e_ => (HO_0.out.1 k_ e_))); replace HO_0 := Za.mk (hp_); clear hg hw hp_; have p6 : 0 ≤ (x5_1 : Int) := of_decide_eq_true (by assumption); have q6 : (x5_1 : Int) < ((x0_1.length : Int) : Int) := of_decide_eq_true (by assumption); obtain ⟨ce6, hcl6, hM6, hcc6, hfr6⟩ := Kd.R_elem HO_0.out z95 (x5_1 : Int) p6 q6; obtain rfl := k95_openM hM6; have hx6_0 : w10.cell? ⟨go5, (x5_1 : Int).toNat * 3, none⟩ = some (.int .i64 ((Zx y520 x5_1).f0)) := hcc6 0 _ rfl; have hx6_1 : w10.cell? ⟨go5, (x5_1 : Int).toNat * 3 + 1, none⟩ = some (.int .u64 ((Zx y520 x5_1).f1)) := hcc6 1 _ rfl; have hx6_2 : w10.cell? ⟨go5, (x5_1 : Int).toNat * 3 + 2, none⟩ = some (.int .u64 ((Zx y520 x5_1).f2)) := hcc6 2 _ rfl; have hf6_0 : w10.frozen? ⟨go5, (x5_1 : Int).toNat * 3, none⟩ = false := hfr6 0; have hf6_1 : w10.frozen? ⟨go5, (x5_1 : Int).toNat * 3 + 1, none⟩ = false := hfr6 1; have hf6_2 : w10.frozen? ⟨go5, (x5_1 : Int).toNat * 3 + 2, none⟩ = false := hfr6 2; clear hcl6 hcc6 hfr6 hM6; replace p6 := eq_true p6; replace q6 := eq_true q6; have HX11 := Za.mk (show Kd.R k95 95 w10 w0.heap.size (fun k_ => (P0_ k_ ∨ w.heap.size ≤ k_)) (.slice (some ⟨go5, 0, none⟩) x0_1.length co8) y520 from (by (with_reducible repeat (first | apply Kd.Zaa | apply Kd.Zy | apply Kd.Zz)); exact HO_0.out)); obtain ⟨ce11, hcl11, hM11, hcc11, hfr11⟩ := Kd.R_elem HX11.out z95 (x5_1 : Int) (of_decide_eq_true (by assumption)) (by have h_ : (x5_1 : Int) < ((x0_1.length : Int) : Int) := of_decide_eq_true (by assumption); first | exact h_ | (have e_ := (Kd.Zat HO_0.out).1; omega) | simpa using h_); obtain rfl := k95_openM hM11; have HP11 := Kd.R_seg HX11.out (x5_1 : Int) (of_decide_eq_true (by assumption)) (by have h_ : (x5_1 : Int) < ((x0_1.length : Int) : Int) := of_decide_eq_true (by assumption); first | exact h_ | (have e_ := (Kd.Zat HO_0.out).1; omega) | simpa using h_) (seg := [.int .u64 (IntKind.u64.wrap (wrap64 (x1_1 + 1)))]) (j := 1) hcl11 hcc11 (show 2 ≤ 3 from by decide) (x' := (⟨(Zx y520 x5_1).f0, IntKind.u64.wrap (wrap64 (x1_1 + 1)), (Zx y520 x5_1).f2⟩ : S95)) (k95_mkM _ _ _ (⟨(Zx y520 x5_1).f0, IntKind.u64.wrap (wrap64 (x1_1 + 1)), (Zx y520 x5_1).f2⟩ : S95) ) (fun _ hk => hk); have hx11_1 := hcc11 1 _ rfl; (try simp only [show (k95).sz = 3 from rfl, Nat.mul_one, Nat.add_zero] at hx11_1); have hf11_1 := hfr11 1; (try simp only [show (k95).sz = 3 from rfl, Nat.mul_one, Nat.add_zero] at hf11_1); clear hcl11 hcc11 hfr11 hM11) | ((with_reducible refine gate_store (t := 93) (p := 24) rfl ?_); refine store_event (t := 93) (p := 24) (v := ?vo_w12) (w1 := (w10.setCell ⟨go5, (x5_1 : Int).toNat * 3 + 1, none⟩ (.int .u64 (IntKind.u64.wrap (wrap64 (x1_1 + 1)))))) ?hg ?ho ?hn ?hr ?_; (case ho => rfl); (case hg => rfl); (case hn => rfl); (case hr => go_simp <;> rfl); intro w12 hw; have hg : w10.grownBy w12 (some go5) := (by rw [hw]; exact HP11.2); have hp_ : Kd.R k95 95 w12 w0.heap.size (fun k_ => (P0_ k_ ∨ w.heap.size ≤ k_)) (.slice (some ⟨go5, 0, none⟩) x0_1.length co8) y521 := (by rw [hw, Ny521.out]; exact HP11.1); clear HP11; replace HB := Za.mk ((by rw [hw]; exact Zk (HB.out) GB5.out : Below w0.heap.size w0 w12)); replace HK := Za.mk (Kept.of_grown (S := (fun k_ => P0_ k_)) hg (by repeat (first | (with_reducible first | exact HK.out | apply Kept.alloc | apply Kept.drewN | apply Kept.drew) | exact HK.out)) (fun k_ e_ => (HO_0.out.1 k_ e_))); replace HO_0 := Za.mk (hp_); clear hg hw hp_; have p7 : 0 ≤ (x5_1 : Int) := of_decide_eq_true (by assumption); have q7 : (x5_1 : Int) < ((x0_1.length : Int) : Int) := of_decide_eq_true (by assumption); obtain ⟨ce7, hcl7, hM7, hcc7, hfr7⟩ := Kd.R_elem HO_0.out z95 (x5_1 : Int) p7 q7; obtain rfl := k95_openM hM7; have hx7_0 : w12.cell? ⟨go5, (x5_1 : Int).toNat * 3, none⟩ = some (.int .i64 ((Zx y521 x5_1).f0)) := hcc7 0 _ rfl; have hx7_1 : w12.cell? ⟨go5, (x5_1 : Int).toNat * 3 + 1, none⟩ = some (.int .u64 ((Zx y521 x5_1).f1)) := hcc7 1 _ rfl; have hx7_2 : w12.cell? ⟨go5, (x5_1 : Int).toNat * 3 + 2, none⟩ = some (.int .u64 ((Zx y521 x5_1).f2)) := hcc7 2 _ rfl; have hf7_0 : w12.frozen? ⟨go5, (x5_1 : Int).toNat * 3, none⟩ = false := hfr7 0; have hf7_1 : w12.frozen? ⟨go5, (x5_1 : Int).toNat * 3 + 1, none⟩ = false := hfr7 1; have hf7_2 : w12.frozen? ⟨go5, (x5_1 : Int).toNat * 3 + 2, none⟩ = false := hfr7 2; clear hcl7 hcc7 hfr7 hM7; replace p7 := eq_true p7; replace q7 := eq_true q7; have HX13 := Za.mk (show Kd.R k95 95 w12 w0.heap.size (fun k_ => (P0_ k_ ∨ w.heap.size ≤ k_)) (.slice (some ⟨go5, 0, none⟩) x0_1.length co8) y521 from (by (with_reducible repeat (first | apply Kd.Zaa | apply Kd.Zy | apply Kd.Zz)); exact HO_0.out)); obtain ⟨ce13, hcl13, hM13, hcc13, hfr13⟩ := Kd.R_elem HX13.out z95 (x5_1 : Int) (of_decide_eq_true (by assumption)) (by have h_ : (x5_1 : Int) < ((x0_1.length : Int) : Int) := of_decide_eq_true (by assumption); first | exact h_ | (have e_ := (Kd.Zat HO_0.out).1; omega) | simpa using h_); obtain rfl := k95_openM hM13; have HP13 := Kd.R_seg HX13.out (x5_1 : Int) (of_decide_eq_true (by assumption)) (by have h_ : (x5_1 : Int) < ((x0_1.length : Int) : Int) := of_decide_eq_true (by assumption); first | exact h_ | (have e_ := (Kd.Zat HO_0.out).1; omega) | simpa using h_) (seg := [.int .u64 (IntKind.u64.wrap (wrap64 ((wrap64 (x1_1 + 1)) + 1)))]) (j := 2) hcl13 hcc13 (show 3 ≤ 3 from by decide) (x' := (⟨(Zx y521 x5_1).f0, (Zx y521 x5_1).f1, IntKind.u64.wrap (wrap64 ((wrap64 (x1_1 + 1)) + 1))⟩ : S95)) (k95_mkM _ _ _ (⟨(Zx y521 x5_1).f0, (Zx y521 x5_1).f1, IntKind.u64.wrap (wrap64 ((wrap64 (x1_1 + 1)) + 1))⟩ : S95) ) (fun _ hk => hk); have hx13_2 := hcc13 2 _ rfl; (try simp only [show (k95).sz = 3 from rfl, Nat.mul_one, Nat.add_zero] at hx13_2); have hf13_2 := hfr13 2; (try simp only [show (k95).sz = 3 from rfl, Nat.mul_one, Nat.add_zero] at hf13_2); clear hcl13 hcc13 hfr13 hM13) | ((with_reducible refine gate_store (t := 93) (p := 32) rfl ?_); refine store_event (t := 93) (p := 32) (v := ?vo_w14) (w1 := (w12.setCell ⟨go5, (x5_1 : Int).toNat * 3 + 2, none⟩ (.int .u64 (IntKind.u64.wrap (wrap64 ((wrap64 (x1_1 + 1)) + 1)))))) ?hg ?ho ?hn ?hr ?_; (case ho => rfl); (case hg => rfl); (case hn => rfl); (case hr => go_simp <;> rfl); intro w14 hw; have hg : w12.grownBy w14 (some go5) := (by rw [hw]; exact HP13.2); have hp_ : Kd.R k95 95 w14 w0.heap.size (fun k_ => (P0_ k_ ∨ w.heap.size ≤ k_)) (.slice (some ⟨go5, 0, none⟩) x0_1.length co8) y522 := (by rw [hw, Ny522.out]; exact HP13.1); clear HP13; replace HB := Za.mk ((by rw [hw]; exact Zk (HB.out) GB5.out : Below w0.heap.size w0 w14)); replace HK := Za.mk (Kept.of_grown (S := (fun k_ => P0_ k_)) hg (by repeat (first | (with_reducible first | exact HK.out | apply Kept.alloc | apply Kept.drewN | apply Kept.drew) | exact HK.out)) (fun k_ e_ => (HO_0.out.1 k_ e_))); replace HO_0 := Za.mk (hp_); clear hg hw hp_))
     go_roundg k1
     case measure => have := HK1.out; omega
     case rel => exact ⟨(y522), (wrap64 ((wrap64 ((wrap64 (x1_1 + 1)) + 1)) + 1)), (wrap64 (x5_1 + 1)), (by first | rfl | (simp; done) | (simp [*]; done)), (by first | rfl | (simp; done) | (simp [*]; done)), H', ⟨by have := HK1.out; omega⟩, ⟨by (with_reducible repeat (first | apply Kd.Zaa | apply Kd.Zy | apply Kd.Zz)); exact HO_0.out⟩, ⟨by repeat (first | (with_reducible first | exact HK.out | apply Kept.alloc | apply Kept.drewN | apply Kept.drew) | exact HK.out)⟩, ⟨by with_reducible repeat first | exact HB.out | apply Zc | apply Ze | apply Zd⟩⟩
    rw [if_neg c4] at H
    exact absurd H (by simp)
   rw [if_neg c3] at H
   have c3b0 : decide (x5_1 < (x0_1.length : Int)) = false := decide_eq_false c3
   clear c3
   simp only [Option.some.injEq, Prod.mk.injEq] at H
   obtain ⟨rfl, rfl⟩ := H
   obtain ⟨Ao15, co15, eo15⟩ := Kd.Zay HO_0.out
   subst eo15
   go_wp2
   go_ret
   exact ⟨by first | rfl | (simp [Zm, Zn] <;> rfl) | (simp [*, Zm, Zn] <;> rfl), by (with_reducible repeat (first | apply Kd.Zaa | apply Kd.Zy | apply Kd.Zz)); exact HO_0.out, by with_reducible repeat first | exact HB.out | apply Zc | apply Ze | apply Zd, by repeat (first | (with_reducible first | exact HK.out | apply Kept.alloc | apply Kept.drewN | apply Kept.drew) | exact HK.out)⟩
def Zci.l0 : Nat → List (S65) → Int → Int → Option (Int × List (S65))
 | 0, _, _, _ => none
 | k + 1, x0, x1, x5 => if x5 < (x0.length : Int) then (if 0 ≤ x5 then ((Zcf.f k (Zao x0 x5).f0 x1).bind fun bt => Zci.l0 k (x0.set (x5 : Int).toNat (⟨bt.2⟩ : S65)) bt.1 (wrap64 (x5 + 1))) else (none)) else (some (x1, x0))
def Zci.f (k : Nat) (l0 : List (S65)) (a1 : Int) : Option (Int × List (S65)) := Zci.l0 k l0 a1 0
set_option maxHeartbeats 8000000 in
set_option maxRecDepth 100000 in
theorem Zci.calls (k : Nat) (P0_ : Nat → Prop) (u9000_ : Value) (l0 : List (S65)) (a1 : Int) (r1 : Int) (r2 : List (S65)) (w0 w : World) (hB : Below w0.heap.size w0 w) (ho0 : Kd.S k65 65 w w0.heap.size P0_ u9000_ l0) (h : Zci.f k l0 a1 = some (r1, r2)) :
  Calls Try.prog 49 #[u9000_, .int .i64 a1] w fun e w' => e = .returned (.int .i64 r1) ∧ Kd.S k65 65 w' w0.heap.size P0_ u9000_ r2 ∧ Below w0.heap.size w0 w' ∧ Kept w w' (fun k_ => P0_ k_) := by
 have HO0 := Za.mk (show Kd.S k65 65 w w0.heap.size P0_ u9000_ l0 from ho0)
 have HK := Za.mk (Kept.refl w (fun k_ => P0_ k_))
 have HB := Za.mk hB
 clear hB ho0
 have H' := Za.mk (show Zci.l0 k l0 a1 0 = some (r1, r2) from h)
 clear h
 go_enter Try.func49, Try.ntmps49
 go_wp2
 go_loopg [1, 5] k (fun kq v1 v5 w' => ∃ (x0 : List (S65)) (x1 : Int) (x5 : Int), v1 = .int .i64 x1 ∧ v5 = .int .i64 x5 ∧ Za (Zci.l0 kq x0 x1 x5 = some (r1, r2)) ∧ Za (kq ≤ k) ∧ Za (Kd.S k65 65 w' w0.heap.size P0_ u9000_ x0) ∧ Za (Kept w w' (fun k_ => P0_ k_)) ∧ Za (Below w0.heap.size w0 w'))
 case atStart => exact ⟨l0, a1, 0, rfl, rfl, H', ⟨Nat.le_refl _⟩, HO0, HK, HB⟩
 case round =>
  clear H' HO0 HK HB
  obtain ⟨x0, x1, x5, rfl, rfl, HA, HK1, HO, HK, HB⟩ := hrel
  cases gk with
  | zero => exact absurd HA.out (by simp [Zci.l0])
  | succ k1 =>
   have H := HA.out
   clear HA
   simp only [Zci.l0] at H
   by_cases c3 : x5 < (x0.length : Int)
   ·rw [if_pos c3] at H
    by_cases c4 : 0 ≤ x5
    ·rw [if_pos c4] at H
     obtain ⟨⟨t1, t2⟩, hm, H⟩ := Option.bind_eq_some_iff.1 H
     obtain ⟨go, cap, rfl, gb, gl, _⟩ := Kd.S_form HO.out (by omega)
     obtain ⟨oki, c, hcl, hM, hcc, hfr, hoki, hH⟩ := Kd.S_elem HO.out z65 x5 c4 (by omega)
     obtain ⟨v, rfl, hR⟩ := k65_openM hM
     have e1 := hcc 0 _ rfl
     have hs : k65.sz = 1 := rfl
     rw [hs] at e1
     rw [Nat.add_zero, Nat.mul_one] at e1
     have c3b : decide (x5 < (x0.length : Int)) = true := decide_eq_true c3
     have c4b : decide (0 ≤ x5) = true := decide_eq_true c4
     have HM := Za.mk hm
     have HG := Za.mk H
     have HC := Za.mk hcc
     have HF := Za.mk hfr
     have HI := Za.mk hoki
     have HH := Za.mk hH
     have HR := Za.mk hR
     have c3e := eq_true c3
     have c4e := eq_true c4
     have GB := Za.mk gb
     have C3 := Za.mk c3
     have C4 := Za.mk c4
     clear hm H hcc hfr hoki hH hR hM hs c3 c4 gb gl hcl
     go_wp2_with (go_at_call 63; refine (Zcf.calls k1 oki v _ _ t1 t2 w0 _ HB.out HR.out HM.out).mono ?_; rintro e w3 ⟨rfl, hR3, hB3, hK3⟩; have HR3 := Za.mk hR3; have HB3 := Za.mk hB3; have HK3 := Za.mk hK3; clear hR3 hB3 hK3)
     have hH := HH.out
     have h3 := Kd.H_step (w1 := w3) hH (fun k _ hn hlt => HK3.out.2 k hlt hn)
     have hR4 : k95.R 95 w3 w0.heap.size oki v t2 := Kd.Zas (Kd.R_tight rfl HR3.out) (fun k hk => HR.out.1 k hk.symm)
     have h4 := Kd.H_back h3 (x' := (⟨t2⟩ : S65)) (k65_mkM w3 _ oki _ hR4) (fun _ h => h)
     have HO4 := Za.mk h4
     have HK4 := Za.mk (Kept.then_ HK.out HK3.out (fun k hk => .inl (HI.out k hk).1))
     clear h3 h4 hH hR4
     go_roundg k1
     case measure => have := HK1.out; omega
     case rel => exact ⟨_, t1, wrap64 (x5 + 1), rfl, rfl, HG, ⟨by have := HK1.out; omega⟩, HO4, HK4, HB3⟩
    rw [if_neg c4] at H
    exact absurd H (by simp)
   rw [if_neg c3] at H
   have c3b : decide (x5 < (x0.length : Int)) = false := decide_eq_false c3
   simp only [Option.some.injEq, Prod.mk.injEq] at H
   obtain ⟨rfl, rfl⟩ := H
   obtain ⟨Ao9, co9, eo9⟩ := Kd.S_slice HO.out
   subst eo9
   clear c3
   go_wp2
   go_ret
   exact ⟨rfl, HO.out, HB.out, HK.out⟩
def Kd.sliceS {α : Type} (e : Nat) (d : Kd α) : Kd (List α) where
 sz := 1
 E := e :: d.E
 K := (Kd.slice e d).K
 M := fun w base ok xs cs => ∃ v, cs = [v] ∧ Kd.S d e w base ok v xs
 K_len := (Kd.slice e d).K_len
 K_one := (Kd.slice e d).K_one
 K_below := (Kd.slice e d).K_below
 K_of_M := by
  rintro w base ok x cs ⟨v, rfl, h⟩
  obtain ⟨A, c, rfl, hl, hr⟩ := Kd.S_reads h
  exact ⟨A, c, rfl, hl, hr⟩
 M_mono := by
  rintro w base ok ok' x cs hok ⟨v, rfl, h⟩
  exact ⟨v, rfl, Kd.S_mono h hok⟩
 M_bound := by
  rintro w base ok x cs ⟨v, rfl, h⟩
  exact ⟨v, rfl, Kd.S_bound h⟩
 M_move := by
  rintro w w1 base ok x cs hm ⟨v, rfl, h⟩
  exact ⟨v, rfl, Kd.S_move h hm⟩
 M_lower := by
  rintro w base base' ok x cs hb ⟨v, rfl, h⟩
  exact ⟨v, rfl, Kd.S_lower h hb⟩
def kE : Kd S61 := Kd.iso (Kd.pair (Kd.int .u32) (Kd.pair (Kd.int .u32) (Kd.sliceS 65 k65))) (fun x : S61 => (x.f0, x.f1, x.f2))
theorem kE_openM {w : World} {base : Nat} {ok : Nat → Prop} {x : S61} {cs : List Value} (h : kE.M w base ok x cs) : ∃ v2, cs = [.int .u32 x.f0, .int .u32 x.f1, v2] ∧ Kd.S k65 65 w base ok v2 x.f2 := by
 obtain ⟨_, _, rfl, rfl, ⟨_, _, rfl, rfl, ⟨v, rfl, h⟩⟩⟩ := h
 exact ⟨v, rfl, h⟩
theorem kE_mkM (w : World) (base : Nat) (ok : Nat → Prop) (x : S61) {v2 : Value} (g2 : Kd.S k65 65 w base ok v2 x.f2) : kE.M w base ok x [.int .u32 x.f0, .int .u32 x.f1, v2] := ⟨[.int .u32 x.f0], [.int .u32 x.f1, v2], rfl, rfl, ⟨[.int .u32 x.f1], [v2], rfl, rfl, ⟨v2, rfl, g2⟩⟩⟩
set_option maxHeartbeats 8000000 in
set_option maxRecDepth 100000 in
theorem Zcd.deep (k : Nat) (A0 : Option Addr) (c0 : Nat) (l0 : List (S58)) (r : List (S61)) (w : World) (hr0 : Kd.C k58 w A0 l0.length l0) (hc0 : l0.length ≤ c0) (h : Zcd.f k l0 = some r) :
  Calls Try.prog 17 #[.slice A0 l0.length c0] w fun e w' => ∃ v0_ : Value, e = .returned (v0_) ∧ Kd.S kE 61 w' w.heap.size (fun _ => True) v0_ r ∧ Below w.heap.size w w' := by
 have HR0 := Za.mk hr0
 have HC0 := Za.mk hc0
 clear hr0 hc0
 have H : (if 0 ≤ (l0.length : Int) then (if ((l0.length : Int) : Int).toNat ≤ 8796093022208 then (Zcd.l0 k l0 (List.replicate ((l0.length : Int) : Int).toNat z61) 0) else (none)) else (none)) = some r := h
 clear h
 rw [if_pos (by omega)] at H
 by_cases c3 : ((l0.length : Int) : Int).toNat ≤ 8796093022208
 case neg => rw [if_neg c3] at H; exact absurd H (by simp)
 rw [if_pos c3] at H
 have H' := Za.mk H
 have C3 := Za.mk c3
 clear H c3
 go_enter Try.func17, Try.ntmps17
 go_wp2_with (first | ((with_reducible refine Zab (N := 7) rfl ?_); refine Kd.S_make kE _ 61 rfl (N := 7) rfl 29 _ _ rfl (l0.length : Int) rfl rfl Try.underlying29 (.agg #[(.int .u32 0), (.int .u32 0), (.slice none 0 0)]) 32 info61 rfl (by decide) (by omega) z61 (ok := fun _ => True) (okp := fun _ => True) (kE_mkM _ _ _ z61 (Kd.S_nil _ _ _ _ _)) (fun _ hk => hk) trivial (by omega) (Nat.le_trans (Nat.mul_le_mul_right _ C3.out) (by omega)) (Below.refl w.heap.size w) (Nat.le_refl _) ?_; intro v0 w4 ho hb hg_ hnew_; clear hg_ hnew_; have HO := Za.mk ho; have HB := Za.mk hb; clear ho hb))
 go_loopg [4] k (fun kq v4 w' => ∃ (x3 : List (S61)) (x4 : Int), v4 = .int .i64 x4 ∧ Za (Zcd.l0 kq l0 x3 x4 = some r) ∧ Za (kq ≤ k) ∧ Za (Kd.S kE 61 w' w.heap.size (fun _ => True) v0 x3) ∧ Za (Below w.heap.size w w'))
 case atStart => exact ⟨_, 0, rfl, H', ⟨Nat.le_refl _⟩, HO, HB⟩
 case round =>
  clear H' HO HB
  obtain ⟨x3, x4, rfl, HA, HK1, HO, HB⟩ := hrel
  cases gk with
  | zero => exact absurd HA.out (by simp [Zcd.l0])
  | succ k1 =>
   have H := HA.out
   clear HA
   simp only [Zcd.l0] at H
   by_cases c6 : x4 < (l0.length : Int)
   ·rw [if_pos c6] at H
    by_cases c7 : 0 ≤ x4
    ·rw [if_pos c7] at H
     obtain ⟨⟨t1, t2, t3⟩, A80, H⟩ := Option.bind_eq_some_iff.1 H
     by_cases c9 : x4 < (x3.length : Int)
     ·replace H : (if x4 < (x3.length : Int) then (Zcd.l0 k1 l0 (x3.set (x4 : Int).toNat (⟨t1, t2, t3⟩ : S61)) (wrap64 (x4 + 1))) else (none)) = some r := H
      rw [if_pos c9] at H
      have A8 := Za.mk A80
      have HG := Za.mk H
      obtain ⟨ad, A2, c2, e1, g0, g1, g2, g3, g4⟩ := at_T58 HR0.out x4 c7 c6
      cases e1
      replace g0 := (HB.out.cell (World.block_lt_of_cell? w _ g0)).trans g0
      replace g1 := (HB.out.cell (World.block_lt_of_cell? w _ g1)).trans g1
      replace g2 := (HB.out.cell (World.block_lt_of_cell? w _ g2)).trans g2
      have HR2 := Za.mk g4
      have HC2 := Za.mk g3
      obtain ⟨go, cap, rfl, gb, gl, _⟩ := Kd.S_form HO.out (by omega)
      have GB := Za.mk gb
      have GL := Za.mk gl
      have c6b : decide (x4 < (l0.length : Int)) = true := decide_eq_true c6
      have c7b : decide (0 ≤ x4) = true := decide_eq_true c7
      have c9b : decide (x4 < (x3.length : Int)) = true := decide_eq_true c9
      have c6e := eq_true c6
      have c7e := eq_true c7
      have c9e := eq_true c9
      have C7 := Za.mk c7
      have C9 := Za.mk c9
      clear A80 H g3 g4 gb gl c6 c7 c9
      go_wp2_with (go_at_call 34; refine (laws_toEntry.calls k1 _ _ A2 c2 _ t1 t2 t3 _ (Kd.Zan HR2.out HB.out) HC2.out A8.out).mono ?_; rintro e w5 ⟨v5, rfl, ho5, hb5⟩; obtain ⟨A5, n5, e5⟩ := Kd.S_slice ho5; subst e5; have HO5 := Za.mk (Kd.S_lower (Kd.S_mono (ok' := fun k_ => wr.heap.size ≤ k_) (Kd.S_bound ho5) (fun k_ hk => hk.2.1)) HB.out.size); have HO6 := Za.mk (Kd.S_mono (ok' := fun k_ => True ∧ ¬ wr.heap.size ≤ k_) (Kd.S_old HO.out hb5) (fun k_ hk => ⟨trivial, by have := hk.2; omega⟩)); have HB5 := Za.mk (Zo HB.out hb5); obtain ⟨oki, c, hcl, hM, hcc, hfr, hoki, hH⟩ := Kd.S_elem HO6.out z61 x4 C7.out C9.out; obtain ⟨vv, rfl, hR⟩ := kE_openM hM; have e1 := hcc 0 _ rfl; have e2 := hcc 1 _ rfl; have e3 := hcc 2 _ rfl; have f1 := hfr 0; have f2 := hfr 1; have f3 := hfr 2; rw [show kE.sz = 3 from rfl] at e1 e2 e3 f1 f2 f3; rw [Nat.add_zero] at e1 f1; have HP := Za.mk (Kd.S_seg hH C7.out C9.out (seg := [.int .u32 t1, .int .u32 t2, .slice A5 t3.length n5]) (j := 0) (show 3 ≤ 3 from by decide) (x' := (⟨t1, t2, t3⟩ : S61)) (kE_mkM _ _ _ (⟨t1, t2, t3⟩ : S61) (Kd.S_mono HO5.out (fun _ h_ => Or.inr h_))) (fun _ hk => hk) (fun k_ hk_ => ⟨trivial, by have := GL.out; omega⟩)); clear hcl hM hcc hfr hoki hH hR hb5 ho5)
      go_roundg k1
      case measure => have := HK1.out; omega
      case rel => exact ⟨_, wrap64 (x4 + 1), rfl, HG, ⟨by have := HK1.out; omega⟩, ⟨HP.out.1⟩, ⟨Zk (Zk (Zk HB5.out GB.out) GB.out) GB.out⟩⟩
     ·exact absurd H (by simp [c9])
    ·rw [if_neg c7] at H
     exact absurd H (by simp)
   ·rw [if_neg c6] at H
    have c6b : decide (x4 < (l0.length : Int)) = false := decide_eq_false c6
    simp only [Option.some.injEq] at H
    subst H
    clear c6
    go_wp2
    go_ret
    exact ⟨_, rfl, HO.out, HB.out⟩
set_option maxHeartbeats 8000000 in
set_option maxRecDepth 100000 in
theorem Zcl.deep (k : Nat) (A0_0 : Option Addr) (c0_0 : Nat) (l0_0 : List (S58)) (r : List (S61)) (w : World) (hr0_0 : Kd.C k58 w A0_0 l0_0.length l0_0) (hc0_0 : l0_0.length ≤ c0_0) (h : Zcl.f k l0_0 = some r) :
  Calls Try.prog 6 #[.agg #[.slice A0_0 l0_0.length c0_0]] w fun e w' => ∃ v0_ : Value, e = .returned (.agg #[v0_]) ∧ Kd.S kE 61 w' w.heap.size (fun _ => True) v0_ r ∧ Below w.heap.size w w' := by
 have h2 : Zcd.f k l0_0 = some r := by
  unfold Zcl.f at h
  obtain ⟨a, ha, hb⟩ := Option.bind_eq_some_iff.1 h
  rw [ha]
  exact hb
 have HX := Za.mk h2
 have HR := Za.mk (And.intro hr0_0 hc0_0)
 clear h h2 hr0_0 hc0_0
 go_enter Try.func6, Try.ntmps6
 have hb3 : Below w.heap.size w (((w.alloc (.cells #[.slice A0_0 l0_0.length c0_0] 24)).alloc (.cells #[.slice none 0 0] 31)).alloc (.cells #[.slice none 0 0] 31)) := Zc (Zc (Zc (Below.refl _ _) _) _) _
 have hs3 : (((w.alloc (.cells #[.slice A0_0 l0_0.length c0_0] 24)).alloc (.cells #[.slice none 0 0] 31)).alloc (.cells #[.slice none 0 0] 31)).heap.size = w.heap.size + 3 := by simp
 have k2 : (((w.alloc (.cells #[.slice A0_0 l0_0.length c0_0] 24)).alloc (.cells #[.slice none 0 0] 31)).alloc (.cells #[.slice none 0 0] 31)).heap[w.heap.size + 1]? = some (.cells #[.slice none 0 0] 31 (0, 0)) := by
  have := Zp (blk_new (w.alloc (.cells #[.slice A0_0 l0_0.length c0_0] 24)) (.cells #[.slice none 0 0] 31)) (Zc (Below.refl ((w.alloc (.cells #[.slice A0_0 l0_0.length c0_0] 24)).alloc (.cells #[.slice none 0 0] 31)).heap.size ((w.alloc (.cells #[.slice A0_0 l0_0.length c0_0] 24)).alloc (.cells #[.slice none 0 0] 31))) (.cells #[.slice none 0 0] 31))
  simpa using this
 have k3 : (((w.alloc (.cells #[.slice A0_0 l0_0.length c0_0] 24)).alloc (.cells #[.slice none 0 0] 31)).alloc (.cells #[.slice none 0 0] 31)).heap[w.heap.size + 1 + 1]? = some (.cells #[.slice none 0 0] 31 (0, 0)) := by
  have := blk_new ((w.alloc (.cells #[.slice A0_0 l0_0.length c0_0] 24)).alloc (.cells #[.slice none 0 0] 31)) (.cells #[.slice none 0 0] 31)
  simpa using this
 have HZ := Za.mk (And.intro hb3 (And.intro hs3 (And.intro k2 k3)))
 clear hb3 hs3 k2 k3
 go_wp2_with (go_at_call 17; refine (Zcd.deep k A0_0 c0_0 l0_0 r _ (Kd.Zan HR.out.1 HZ.out.1) HR.out.2 HX.out).mono ?_; rintro e w5 ⟨v5, rfl, ho5, hb5⟩; obtain ⟨A5, n5, e5⟩ := Kd.S_slice ho5; subst e5; have h2 := Zp HZ.out.2.2.1 hb5; have h3 := Zp HZ.out.2.2.2 hb5; have q2 : w5.cell? ⟨w.heap.size + 1, 0, none⟩ = some (.slice none 0 0) := (Zb h2 0).trans rfl; have q3 : w5.cell? ⟨w.heap.size + 1 + 1, 0, none⟩ = some (.slice none 0 0) := (Zb h3 0).trans rfl; have f2 := Zj h2 0; have f3 := Zj h3 0; have HO := Za.mk ho5; have HB := Za.mk (Zo HZ.out.1 hb5); have H2 := Za.mk h2; clear ho5 hb5 h2 h3)
 refine bodyPost_ret (results_cell_row rfl _ _ (w.heap.size + 1) 31 #[.slice A5 r.length n5] (0, 0) _ rfl (Zw (cs := #[.slice none 0 0]) (Zt H2.out (by show w.heap.size + 1 ≠ w.heap.size + 1 + 1; omega) _) 0 _ rfl) Try.underlying31 rfl (by kernel_rfl)) rfl ?_
 refine ⟨_, rfl, ?_, Zk (Zk HB.out (by show w.heap.size ≤ w.heap.size + 1 + 1; omega)) (by show w.heap.size ≤ w.heap.size + 1; omega)⟩
 have h1 := Kd.S_mono (ok' := fun k_ => w.heap.size + 3 ≤ k_) (Kd.S_bound HO.out) (fun k_ hk => by have := hk.2.1; rw [HZ.out.2.1] at this; exact this)
 refine Kd.S_mono (Kd.S_lower (Kd.S_far (p := ⟨w.heap.size + 1, 0, none⟩) (Kd.S_far (p := ⟨w.heap.size + 1 + 1, 0, none⟩) h1 (fun k_ hk => by simp only; omega) _) (fun k_ hk => by simp only; omega) _) (by rw [HZ.out.2.1]; omega)) (fun _ _ => trivial)
def Zcj.l0 : Nat → List (S61) → Int → Int → Option (Int × List (S61))
 | 0, _, _, _ => none
 | k + 1, x0, x1, x5 => if x5 < (x0.length : Int) then (if 0 ≤ x5 then ((Zci.f k (Zi x0 x5).f2 (wrap64 (wrap64 (x1 + 1) + 1))).bind fun bt => Zcj.l0 k (x0.set (x5 : Int).toNat (⟨x1 % 4294967296, wrap64 (x1 + 1) % 4294967296, bt.2⟩ : S61)) bt.1 (wrap64 (x5 + 1))) else (none)) else (some (x1, x0))
def Zcj.f (k : Nat) (l0 : List (S61)) (a1 : Int) : Option (Int × List (S61)) := Zcj.l0 k l0 a1 0
set_option maxHeartbeats 8000000 in
set_option maxRecDepth 100000 in
theorem Zcj.calls (k : Nat) (P0_ : Nat → Prop) (u9000_ : Value) (l0 : List (S61)) (a1 : Int) (r1 : Int) (r2 : List (S61)) (w0 w : World) (hB : Below w0.heap.size w0 w) (ho0 : Kd.S kE 61 w w0.heap.size P0_ u9000_ l0) (h : Zcj.f k l0 a1 = some (r1, r2)) :
  Calls Try.prog 23 #[u9000_, .int .i64 a1] w fun e w' => e = .returned (.int .i64 r1) ∧ Kd.S kE 61 w' w0.heap.size P0_ u9000_ r2 ∧ Below w0.heap.size w0 w' ∧ Kept w w' (fun k_ => P0_ k_) := by
 have HO0 := Za.mk (show Kd.S kE 61 w w0.heap.size P0_ u9000_ l0 from ho0)
 have HK := Za.mk (Kept.refl w (fun k_ => P0_ k_))
 have HB := Za.mk hB
 clear hB ho0
 have H' := Za.mk (show Zcj.l0 k l0 a1 0 = some (r1, r2) from h)
 clear h
 go_enter Try.func23, Try.ntmps23
 go_wp2
 go_loopg [1, 5] k (fun kq v1 v5 w' => ∃ (x0 : List (S61)) (x1 : Int) (x5 : Int), v1 = .int .i64 x1 ∧ v5 = .int .i64 x5 ∧ Za (Zcj.l0 kq x0 x1 x5 = some (r1, r2)) ∧ Za (kq ≤ k) ∧ Za (Kd.S kE 61 w' w0.heap.size P0_ u9000_ x0) ∧ Za (Kept w w' (fun k_ => P0_ k_)) ∧ Za (Below w0.heap.size w0 w'))
 case atStart => exact ⟨l0, a1, 0, rfl, rfl, H', ⟨Nat.le_refl _⟩, HO0, HK, HB⟩
 case round =>
  clear H' HO0 HK HB
  obtain ⟨x0, x1, x5, rfl, rfl, HA, HK1, HO, HK, HB⟩ := hrel
  cases gk with
  | zero => exact absurd HA.out (by simp [Zcj.l0])
  | succ k1 =>
   have H := HA.out
   clear HA
   simp only [Zcj.l0] at H
   by_cases c3 : x5 < (x0.length : Int)
   ·rw [if_pos c3] at H
    by_cases c4 : 0 ≤ x5
    ·rw [if_pos c4] at H
     obtain ⟨⟨t1, t2⟩, hm, H⟩ := Option.bind_eq_some_iff.1 H
     obtain ⟨go, cap, rfl, gb, gl, _⟩ := Kd.S_form HO.out (by omega)
     obtain ⟨oki, c, hcl, hM, hcc, hfr, hoki, hH⟩ := Kd.S_elem HO.out z61 x5 c4 (by omega)
     obtain ⟨v, rfl, hR⟩ := kE_openM hM
     have e1 := hcc 0 _ rfl
     have e2 := hcc 1 _ rfl
     have e3 := hcc 2 _ rfl
     have f1 := hfr 0
     have f2 := hfr 1
     have hs : kE.sz = 3 := rfl
     rw [hs] at e1 e2 e3 f1 f2
     rw [Nat.add_zero] at e1 f1
     have c3b : decide (x5 < (x0.length : Int)) = true := decide_eq_true c3
     have c4b : decide (0 ≤ x5) = true := decide_eq_true c4
     have HM := Za.mk hm
     have HG := Za.mk H
     have HC := Za.mk hcc
     have HF := Za.mk hfr
     have HI := Za.mk hoki
     have HH := Za.mk hH
     have HR := Za.mk hR
     have c3e := eq_true c3
     have c4e := eq_true c4
     have GB := Za.mk gb
     have C3 := Za.mk c3
     have C4 := Za.mk c4
     clear hm H hcc hfr hoki hH hR hM hs c3 c4 gb gl hcl
     go_wp2_with (go_at_call 49; refine (Zci.calls k1 oki v _ _ t1 t2 w0 _ (below_set1 (below_set1 HB.out GB.out _) GB.out _) (Kd.S_far (p := ⟨go, _, none⟩) (Kd.S_far (p := ⟨go, _, none⟩) HR.out (fun k hk => (HI.out k hk).2) _) (fun k hk => (HI.out k hk).2) _) HM.out).mono ?_; rintro e w3 ⟨rfl, hR3, hB3, hK3⟩; have HR3 := Za.mk hR3; have HB3 := Za.mk hB3; have HK3 := Za.mk hK3; clear hR3 hB3 hK3)
     have hH := HH.out
     have h1 := (Kd.H_seg hH C4.out C3.out (seg := [.int .u32 (x1 % 4294967296)]) (j := 0) (show (1 : Nat) ≤ 3 from by decide) (by simp [Value.oneCell'])).1
     have h2 := (Kd.H_seg h1 C4.out C3.out (seg := [.int .u32 (wrap64 (x1 + 1) % 4294967296)]) (j := 1) (show (2 : Nat) ≤ 3 from by decide) (by simp [Value.oneCell'])).1
     have h3 := Kd.H_step (w1 := w3) h2 (fun k _ hn hlt => HK3.out.2 k hlt hn)
     have hR4 := HR3.out
     have h4 := Kd.H_back h3 (x' := (⟨x1 % 4294967296, wrap64 (x1 + 1) % 4294967296, t2⟩ : S61)) (kE_mkM w3 _ oki _ hR4) (fun _ h => h)
     have hgo := Or.inl (b := w.heap.size ≤ go) ((Kd.S_R HO.out).1 go rfl)
     have HO4 := Za.mk h4
     have HK4 := Za.mk (Kept.then_ (Kept.setCell (Kept.setCell HK.out (p := ⟨go, _, none⟩) hgo _) (p := ⟨go, _, none⟩) hgo _) HK3.out (fun k hk => .inl (HI.out k hk).1))
     clear h1 h2 h3 h4 hH hgo hR4
     go_roundg k1
     case measure => have := HK1.out; omega
     case rel => exact ⟨_, t1, wrap64 (x5 + 1), rfl, rfl, HG, ⟨by have := HK1.out; omega⟩, HO4, HK4, HB3⟩
    rw [if_neg c4] at H
    exact absurd H (by simp)
   rw [if_neg c3] at H
   have c3b : decide (x5 < (x0.length : Int)) = false := decide_eq_false c3
   simp only [Option.some.injEq, Prod.mk.injEq] at H
   obtain ⟨rfl, rfl⟩ := H
   obtain ⟨Ao9, co9, eo9⟩ := Kd.S_slice HO.out
   subst eo9
   clear c3
   go_wp2
   go_ret
   exact ⟨rfl, HO.out, HB.out, HK.out⟩
def laws_markPolicy.f (k : Nat) (l0 : List (S61)) (a1 : Int) : Option (Int × List (S61)) := Zcj.f k l0 a1
set_option maxHeartbeats 8000000 in
set_option maxRecDepth 100000 in
theorem laws_markPolicy.calls (k : Nat) (P0_ : Nat → Prop) (u9000_ : Value) (l0 : List (S61)) (a1 : Int) (r1 : Int) (r2 : List (S61)) (w0 w : World) (hB : Below w0.heap.size w0 w) (ho0 : Kd.S kE 61 w w0.heap.size P0_ u9000_ l0) (h : laws_markPolicy.f k l0 a1 = some (r1, r2)) :
  Calls Try.prog 10 #[.agg #[u9000_], .int .i64 a1] w fun e w' => e = .returned (.int .i64 r1) ∧ Kd.S kE 61 w' w0.heap.size P0_ u9000_ r2 ∧ Below w0.heap.size w0 w' ∧ Kept w w' (fun k_ => P0_ k_) := by
 obtain ⟨Ao, co, eo⟩ := Kd.S_slice ho0
 subst eo
 have HO := Za.mk ho0
 have HB := Za.mk hB
 have HM := Za.mk (show Zcj.f k l0 a1 = some (r1, r2) from h)
 clear ho0 hB h
 go_enter Try.func10, Try.ntmps10
 go_wp2_with (go_at_call 23; refine (Zcj.calls k P0_ (.slice Ao l0.length co) l0 a1 r1 r2 w0 _ (Zc HB.out _) (Kd.S_alloc HO.out _) HM.out).mono ?_; rintro e w3 ⟨rfl, hR3, hB3, hK3⟩; have HR3 := Za.mk hR3; have HB3 := Za.mk hB3; have HK3 := Za.mk hK3; clear hR3 hB3 hK3)
 go_ret
 exact ⟨rfl, HR3.out, HB3.out, Kept.then_ (Kept.of_below (Zc (Below.refl _ _) _) (fun k_ => P0_ k_)) HK3.out (fun _ h => .inl h)⟩
def markC (k : Int) : S95 := ⟨k, IntKind.u64.wrap (k + 1), IntKind.u64.wrap (k + 1 + 1)⟩
def marksC : Nat → Int → List S95
 | 0, _ => []
 | n + 1, k => markC k :: marksC n (k + 3)
theorem rd_mid {l a : List S95} (c : S95) (i : Nat) (h : a.length = i) : Zx (a ++ c :: l) (i : Int) = c := by
 rw [rdCI _ i (by rw [List.length_append, List.length_cons]; omega)]
 subst h
 simp
theorem set_mid {α : Type} {l a : List α} (c d : α) (i : Nat) (h : a.length = i) : (a ++ c :: l).set i d = (a ++ [d]) ++ l := by
 subst h
 simp
theorem set_mid2 {α : Type} {l a : List α} (c d : α) (i : Nat) (h : a.length = i) : (a ++ c :: l).set i d = a ++ d :: l := by
 subst h
 simp
theorem markConS_ev (l : List S95) (k0 : Int) (h0 : 0 ≤ k0) (h1 : k0 + 3 * (l.length : Int) ≤ 4000000000000000000) : Ev (fun k => Zcf.f k l k0) (k0 + 3 * (l.length : Int), marksC l.length k0) := by
 have key : ∀ (r a : List S95) (i : Nat) (kk : Int), a.length = i → 0 ≤ kk → kk + 3 * (r.length : Int) ≤ 4000000000000000000 → i + r.length < 4000000000000000000 → Ev (fun k => Zcf.l0 k (a ++ r) kk (i : Int)) (kk + 3 * (r.length : Int), a ++ marksC r.length kk) := by
  intro r
  induction r with
  | nil =>
   intro a i kk ha hk hk2 hi
   refine ev_end fun k => ?_
   simp only [Zcf.l0]
   rw [if_neg (by rw [List.append_nil]; omega)]
   simp [marksC]
  | cons c r ih =>
   intro a i kk ha hk hk2 hi
   rw [List.length_cons] at hk2 hi
   have c1 : (i : Int) < ((a ++ c :: r).length : Int) := by rw [List.length_append, List.length_cons]; omega
   have c2 : (0 : Int) ≤ (i : Int) := by omega
   have hn := ih (a ++ [markC kk]) (i + 1) (kk + 3) (by rw [List.length_append, List.length_singleton]; omega) (by omega) (by omega) (by omega)
   have b1 : (-9223372036854775808 : Int) ≤ kk + 1 := by omega
   have b2 : kk + 1 < 9223372036854775808 := by omega
   have b3 : (-9223372036854775808 : Int) ≤ kk + 1 + 1 := by omega
   have b4 : kk + 1 + 1 < 9223372036854775808 := by omega
   have b5 : (-9223372036854775808 : Int) ≤ kk + 1 + 1 + 1 := by omega
   have b6 : kk + 1 + 1 + 1 < 9223372036854775808 := by omega
   have b7 : (-9223372036854775808 : Int) ≤ (i : Int) + 1 := by omega
   have b8 : (i : Int) + 1 < 9223372036854775808 := by omega
   have e1 : kk + 1 + 1 + 1 = kk + 3 := by omega
   have e2 : kk + 3 + 3 * (r.length : Int) = kk + 3 * ((c :: r).length : Int) := by rw [List.length_cons]; omega
   have e3 : a ++ marksC (c :: r).length kk = (a ++ [markC kk]) ++ marksC r.length (kk + 3) := by rw [List.length_cons, marksC, List.append_assoc]; rfl
   rw [e2] at hn
   rw [e3]
   refine Zbe _ (fun k => ?_) hn
   simp only [Zcf.l0, Option.bind_some, Int.toNat_natCast]
   rw [if_pos c1, if_pos c2, set_mid2 c _ i ha, set_mid2 _ _ i ha, set_mid _ _ i ha, rd_mid _ i ha, rd_mid _ i ha, rd_mid _ i ha, Zae b1 b2, Zae b3 b4, Zae b5 b6, Zae b7 b8, e1]
   rfl
 exact key l [] 0 k0 rfl h0 h1 (by omega)
def endR (k : Int) : List S65 → Int
 | [] => k
 | r :: l => endR (k + 3 * (r.f0.length : Int)) l
def marksR (k : Int) : List S65 → List S65
 | [] => []
 | r :: l => ⟨marksC r.f0.length k⟩ :: marksR (k + 3 * (r.f0.length : Int)) l
theorem endR_le (k : Int) : ∀ l : List S65, (∀ r ∈ l, r.f0.length ≤ 1048576) → k ≤ endR k l ∧ endR k l ≤ k + 3145728 * (l.length : Int) := by
 intro l
 induction l generalizing k with
 | nil => intro _; exact ⟨Int.le_refl _, by simp [endR]⟩
 | cons r l ih =>
  intro h
  have h1 := h r (by simp)
  have h2 := ih (k + 3 * (r.f0.length : Int)) (fun x hx => h x (by simp [hx]))
  rw [endR, List.length_cons]
  omega
theorem rdR_mid {l a : List S65} (c : S65) (i : Nat) (h : a.length = i) : Zao (a ++ c :: l) (i : Int) = c := by
 rw [rdRI _ i (by rw [List.length_append, List.length_cons]; omega)]
 subst h
 simp
theorem markRuleS_ev (l : List S65) (k0 : Int) (hs : SmallRI l) (h0 : 0 ≤ k0) (h1 : k0 ≤ 3900000000000000000) : Ev (fun k => Zci.f k l k0) (endR k0 l, marksR k0 l) := by
 obtain ⟨hl, hm⟩ := hs
 have key : ∀ (r a : List S65) (i : Nat) (kk : Int), (∀ x ∈ r, x.f0.length ≤ 1048576) → a.length = i → 0 ≤ kk → kk + 3145728 * (r.length : Int) ≤ 3990000000000000000 → i + r.length ≤ 1048576 → Ev (fun k => Zci.l0 k (a ++ r) kk (i : Int)) (endR kk r, a ++ marksR kk r) := by
  intro r
  induction r with
  | nil =>
   intro a i kk hr ha hk hk2 hi
   refine ev_end fun k => ?_
   simp only [Zci.l0]
   rw [if_neg (by rw [List.append_nil]; omega)]
   simp [marksR, endR]
  | cons c r ih =>
   intro a i kk hr ha hk hk2 hi
   rw [List.length_cons] at hk2 hi
   have hc := hr c (by simp)
   have c1 : (i : Int) < ((a ++ c :: r).length : Int) := by rw [List.length_append, List.length_cons]; omega
   have c2 : (0 : Int) ≤ (i : Int) := by omega
   have hn := ih (a ++ [⟨marksC c.f0.length kk⟩]) (i + 1) (kk + 3 * (c.f0.length : Int)) (fun x hx => hr x (by simp [hx])) (by rw [List.length_append, List.length_singleton]; omega) (by omega) (by omega) (by omega)
   have b7 : (-9223372036854775808 : Int) ≤ (i : Int) + 1 := by omega
   have b8 : (i : Int) + 1 < 9223372036854775808 := by omega
   have e3 : a ++ marksR kk (c :: r) = (a ++ [⟨marksC c.f0.length kk⟩]) ++ marksR (kk + 3 * (c.f0.length : Int)) r := by rw [marksR, List.append_assoc]; rfl
   obtain ⟨K1, q1⟩ := ev_get (markConS_ev c.f0 kk hk (by omega))
   obtain ⟨K2, q2⟩ := ev_get hn
   rw [e3, endR]
   refine ev_mk (K1 + K2 + 1) fun k hk => ?_
   obtain ⟨k, rfl⟩ : ∃ m, k = m + 1 := ⟨k - 1, by omega⟩
   have k1 : K1 ≤ k := by omega
   have k2 : K2 ≤ k := by omega
   simp only [Zci.l0, Int.toNat_natCast]
   rw [if_pos c1, if_pos c2, rdR_mid _ i ha, q1 k k1, Option.bind_some, set_mid _ _ i ha, Zae b7 b8]
   exact q2 k k2
 exact key l [] 0 k0 hm rfl h0 (by omega) (by omega)
def endE (k : Int) : List S61 → Int
 | [] => k
 | e :: l => endE (endR (k + 1 + 1) e.f2) l
def marksE (k : Int) : List S61 → List S61
 | [] => []
 | e :: l => ⟨k % 4294967296, (k + 1) % 4294967296, marksR (k + 1 + 1) e.f2⟩ :: marksE (endR (k + 1 + 1) e.f2) l
theorem endE_le (k : Int) : ∀ l : List S61, (∀ e ∈ l, SmallRI e.f2) → k ≤ endE k l := by
 intro l
 induction l generalizing k with
 | nil => intro _; exact Int.le_refl _
 | cons e l ih =>
  intro h
  have h1 := endR_le (k + 1 + 1) e.f2 (h e (by simp)).2
  have h2 := ih (endR (k + 1 + 1) e.f2) (fun x hx => h x (by simp [hx]))
  rw [endE]
  omega
theorem rdE_mid {l a : List S61} (c : S61) (i : Nat) (h : a.length = i) : Zi (a ++ c :: l) (i : Int) = c := by
 rw [rdEI _ i (by rw [List.length_append, List.length_cons]; omega)]
 subst h
 simp
theorem markPolicy_ev (l : List S61) (k0 : Int) (hs : SmallEI l) (h0 : 0 ≤ k0) (h1 : k0 ≤ 1000000) : Ev (fun k => laws_markPolicy.f k l k0) (endE k0 l, marksE k0 l) := by
 obtain ⟨hl, hm⟩ := hs
 have key : ∀ (r a : List S61) (i : Nat) (kk : Int), (∀ x ∈ r, SmallRI x.f2) → a.length = i → 0 ≤ kk → kk + 3298534883332 * (r.length : Int) ≤ 3800000000000000000 → i + r.length ≤ 1048576 → Ev (fun k => Zcj.l0 k (a ++ r) kk (i : Int)) (endE kk r, a ++ marksE kk r) := by
  intro r
  induction r with
  | nil =>
   intro a i kk hr ha hk hk2 hi
   refine ev_end fun k => ?_
   simp only [Zcj.l0]
   rw [if_neg (by rw [List.append_nil]; omega)]
   simp [marksE, endE]
  | cons c r ih =>
   intro a i kk hr ha hk hk2 hi
   rw [List.length_cons] at hk2 hi
   have hc := hr c (by simp)
   have hce := endR_le (kk + 1 + 1) c.f2 hc.2
   have hcl := hc.1
   have c1 : (i : Int) < ((a ++ c :: r).length : Int) := by rw [List.length_append, List.length_cons]; omega
   have c2 : (0 : Int) ≤ (i : Int) := by omega
   have hn := ih (a ++ [⟨kk % 4294967296, (kk + 1) % 4294967296, marksR (kk + 1 + 1) c.f2⟩]) (i + 1) (endR (kk + 1 + 1) c.f2) (fun x hx => hr x (by simp [hx])) (by rw [List.length_append, List.length_singleton]; omega) (by omega) (by omega) (by omega)
   have b1 : (-9223372036854775808 : Int) ≤ kk + 1 := by omega
   have b2 : kk + 1 < 9223372036854775808 := by omega
   have b3 : (-9223372036854775808 : Int) ≤ kk + 1 + 1 := by omega
   have b4 : kk + 1 + 1 < 9223372036854775808 := by omega
   have b7 : (-9223372036854775808 : Int) ≤ (i : Int) + 1 := by omega
   have b8 : (i : Int) + 1 < 9223372036854775808 := by omega
   have e3 : a ++ marksE kk (c :: r) = (a ++ [⟨kk % 4294967296, (kk + 1) % 4294967296, marksR (kk + 1 + 1) c.f2⟩]) ++ marksE (endR (kk + 1 + 1) c.f2) r := by rw [marksE, List.append_assoc]; rfl
   obtain ⟨K1, q1⟩ := ev_get (markRuleS_ev c.f2 (kk + 1 + 1) hc (by omega) (by omega))
   obtain ⟨K2, q2⟩ := ev_get hn
   rw [e3, endE]
   refine ev_mk (K1 + K2 + 1) fun k hk => ?_
   obtain ⟨k, rfl⟩ : ∃ m, k = m + 1 := ⟨k - 1, by omega⟩
   have k1 : K1 ≤ k := by omega
   have k2 : K2 ≤ k := by omega
   simp only [Zcj.l0, Int.toNat_natCast]
   rw [if_pos c1, if_pos c2, rdE_mid _ i ha, Zae b1 b2, Zae b3 b4, q1 k k1, Option.bind_some, set_mid _ _ i ha, Zae b7 b8]
   exact q2 k k2
 exact key l [] 0 k0 hm rfl h0 (by omega) (by omega)
def Zcb.l0 : Nat → List (S52) → Int → Int → Option (Int × (List (S52)))
 | 0, _, _, _ => none
 | k + 1, x0, x1, x5 => if x5 < (x0.length : Int) then (if 0 ≤ x5 then ((some (x0.set (x5 : Int).toNat (⟨IntKind.u16.wrap (x1), (Zq x0 x5).f1, (Zq x0 x5).f2, (Zq x0 x5).f3⟩ : S52) : List (S52))).bind fun y523 => ((some (y523.set (x5 : Int).toNat (⟨(Zq y523 x5).f0, (wrap64 (x1 + 1)) % 256, (Zq y523 x5).f2, (Zq y523 x5).f3⟩ : S52) : List (S52))).bind fun y524 => ((some (y524.set (x5 : Int).toNat (⟨(Zq y524 x5).f0, (Zq y524 x5).f1, (wrap64 ((wrap64 (x1 + 1)) + 1)) % 256, (Zq y524 x5).f3⟩ : S52) : List (S52))).bind fun y525 => (Zcb.l0 k (y525.set (x5 : Int).toNat (⟨(Zq y525 x5).f0, (Zq y525 x5).f1, (Zq y525 x5).f2, (wrap64 ((wrap64 ((wrap64 (x1 + 1)) + 1)) + 1)) % 4294967296⟩ : S52)) (wrap64 ((wrap64 ((wrap64 ((wrap64 (x1 + 1)) + 1)) + 1)) + 1)) (wrap64 (x5 + 1)))))) else (none)) else (some (x1, x0))
def Zcb.f (k : Nat) (l0 : List (S52)) (a1 : Int) : Option (Int × (List (S52))) := Zcb.l0 k l0 a1 0
set_option maxHeartbeats 8000000 in
set_option maxRecDepth 100000 in
theorem Zcb.calls (k : Nat) (P0_ : Nat → Prop) (u9000_ : Value) (l0 : List (S52)) (a1 : Int) (r1 : Int) (r2 : List (S52)) (w0 w : World) (hB : Below w0.heap.size w0 w) (ho0 : Kd.R k52 52 w w0.heap.size P0_ u9000_ l0) (h : Zcb.f k l0 a1 = some (r1, r2)) :
  Calls Try.prog 11 #[u9000_, .int .i64 a1] w fun e w' => e = .returned (.int .i64 r1) ∧ Kd.R k52 52 w' w0.heap.size (fun k_ => (P0_ k_ ∨ w.heap.size ≤ k_)) u9000_ r2 ∧ Below w0.heap.size w0 w' ∧ Kept w w' (fun k_ => P0_ k_) := by
 have HO0 := Za.mk (show Kd.R k52 52 w w0.heap.size (fun k_ => (P0_ k_ ∨ w.heap.size ≤ k_)) u9000_ l0 from Kd.Zas ho0 (fun k_ hk => (.inl hk)))
 have HK := Za.mk (Kept.refl w (fun k_ => P0_ k_))
 have HW0 := Za.mk hB.size
 have HB := Za.mk hB
 clear hB
 have H : (Zcb.l0 k l0 a1 0) = some (r1, r2) := h
 clear h
 have H' := Za.mk H
 clear H
 go_enter Try.func11, Try.ntmps11
 go_wp2
 go_loopg [1, 5] k (fun kq v1 v5 w' => ∃ (x0_1 : List (S52)) (x1_1 : Int) (x5_1 : Int), v1 = .int .i64 x1_1 ∧ v5 = .int .i64 x5_1 ∧ Za (Zcb.l0 kq x0_1 x1_1 x5_1 = some (r1, r2)) ∧ Za (kq ≤ k) ∧ Za (Kd.R k52 52 w' w0.heap.size (fun k_ => (P0_ k_ ∨ w.heap.size ≤ k_)) u9000_ x0_1) ∧ Za (Kept w w' (fun k_ => P0_ k_)) ∧ Za (Below w0.heap.size w0 w'))
 case atStart => exact ⟨(l0), (a1), (0), (by first | rfl | (simp; done) | (simp [*]; done)), (by first | rfl | (simp; done) | (simp [*]; done)), H', ⟨Nat.le_refl _⟩, ⟨by (with_reducible repeat (first | apply Kd.Zaa | apply Kd.Zy | apply Kd.Zz)); exact HO0.out⟩, ⟨by repeat (first | (with_reducible first | exact HK.out | apply Kept.alloc | apply Kept.drewN | apply Kept.drew) | exact HK.out)⟩, ⟨by with_reducible repeat first | exact HB.out | apply Zc | apply Ze | apply Zd⟩⟩
 case round =>
  clear H'
  try clear c1
  try clear p2
  obtain ⟨x0_1, x1_1, x5_1, rfl, rfl, HA, HK1, HO_0, HK, HB⟩ := hrel
  cases gk with
  | zero => exact absurd HA.out (by simp [Zcb.l0])
  | succ k1 =>
   have H := HA.out
   clear HA
   simp only [Zcb.l0] at H
   by_cases c3 : x5_1 < (x0_1.length : Int)
   ·rw [if_pos c3] at H
    have c3b0 : decide (x5_1 < (x0_1.length : Int)) = true := decide_eq_true c3
    clear c3
    by_cases c4 : 0 ≤ x5_1
    ·rw [if_pos c4] at H
     have c4b0 : decide (0 ≤ x5_1) = true := decide_eq_true c4
     clear c4
     obtain ⟨y523, hy523⟩ : ∃ y_ : List (S52), y_ = (x0_1.set (x5_1 : Int).toNat (⟨IntKind.u16.wrap (x1_1), (Zq x0_1 x5_1).f1, (Zq x0_1 x5_1).f2, (Zq x0_1 x5_1).f3⟩ : S52)) := ⟨_, rfl⟩
     replace H : ((some (y523.set (x5_1 : Int).toNat (⟨(Zq y523 x5_1).f0, (wrap64 (x1_1 + 1)) % 256, (Zq y523 x5_1).f2, (Zq y523 x5_1).f3⟩ : S52) : List (S52))).bind fun y524 => ((some (y524.set (x5_1 : Int).toNat (⟨(Zq y524 x5_1).f0, (Zq y524 x5_1).f1, (wrap64 ((wrap64 (x1_1 + 1)) + 1)) % 256, (Zq y524 x5_1).f3⟩ : S52) : List (S52))).bind fun y525 => (Zcb.l0 k1 (y525.set (x5_1 : Int).toNat (⟨(Zq y525 x5_1).f0, (Zq y525 x5_1).f1, (Zq y525 x5_1).f2, (wrap64 ((wrap64 ((wrap64 (x1_1 + 1)) + 1)) + 1)) % 4294967296⟩ : S52)) (wrap64 ((wrap64 ((wrap64 ((wrap64 (x1_1 + 1)) + 1)) + 1)) + 1)) (wrap64 (x5_1 + 1))))) = some (r1, r2) := by first | (rw [hy523]; with_reducible exact H) | (have H2_ := (Option.bind_some _ _).symm.trans H; rw [hy523]; with_reducible exact H2_) | (have H2_ := (Option.bind_some _ _).symm.trans H; with_reducible exact H2_) | with_reducible exact H | (rw [hy523]; exact H) | exact H
     have Ny523 := Za.mk hy523
     clear hy523
     obtain ⟨y524, hy524⟩ : ∃ y_ : List (S52), y_ = (y523.set (x5_1 : Int).toNat (⟨(Zq y523 x5_1).f0, (wrap64 (x1_1 + 1)) % 256, (Zq y523 x5_1).f2, (Zq y523 x5_1).f3⟩ : S52)) := ⟨_, rfl⟩
     replace H : ((some (y524.set (x5_1 : Int).toNat (⟨(Zq y524 x5_1).f0, (Zq y524 x5_1).f1, (wrap64 ((wrap64 (x1_1 + 1)) + 1)) % 256, (Zq y524 x5_1).f3⟩ : S52) : List (S52))).bind fun y525 => (Zcb.l0 k1 (y525.set (x5_1 : Int).toNat (⟨(Zq y525 x5_1).f0, (Zq y525 x5_1).f1, (Zq y525 x5_1).f2, (wrap64 ((wrap64 ((wrap64 (x1_1 + 1)) + 1)) + 1)) % 4294967296⟩ : S52)) (wrap64 ((wrap64 ((wrap64 ((wrap64 (x1_1 + 1)) + 1)) + 1)) + 1)) (wrap64 (x5_1 + 1)))) = some (r1, r2) := by first | (rw [hy524]; with_reducible exact H) | (have H2_ := (Option.bind_some _ _).symm.trans H; rw [hy524]; with_reducible exact H2_) | (have H2_ := (Option.bind_some _ _).symm.trans H; with_reducible exact H2_) | with_reducible exact H | (rw [hy524]; exact H) | exact H
     have Ny524 := Za.mk hy524
     clear hy524
     obtain ⟨y525, hy525⟩ : ∃ y_ : List (S52), y_ = (y524.set (x5_1 : Int).toNat (⟨(Zq y524 x5_1).f0, (Zq y524 x5_1).f1, (wrap64 ((wrap64 (x1_1 + 1)) + 1)) % 256, (Zq y524 x5_1).f3⟩ : S52)) := ⟨_, rfl⟩
     replace H : (Zcb.l0 k1 (y525.set (x5_1 : Int).toNat (⟨(Zq y525 x5_1).f0, (Zq y525 x5_1).f1, (Zq y525 x5_1).f2, (wrap64 ((wrap64 ((wrap64 (x1_1 + 1)) + 1)) + 1)) % 4294967296⟩ : S52)) (wrap64 ((wrap64 ((wrap64 ((wrap64 (x1_1 + 1)) + 1)) + 1)) + 1)) (wrap64 (x5_1 + 1))) = some (r1, r2) := by first | (rw [hy525]; with_reducible exact H) | (have H2_ := (Option.bind_some _ _).symm.trans H; rw [hy525]; with_reducible exact H2_) | (have H2_ := (Option.bind_some _ _).symm.trans H; with_reducible exact H2_) | with_reducible exact H | (rw [hy525]; exact H) | exact H
     have Ny525 := Za.mk hy525
     clear hy525
     obtain ⟨y526, hy526⟩ : ∃ y_ : List (S52), y_ = (y525.set (x5_1 : Int).toNat (⟨(Zq y525 x5_1).f0, (Zq y525 x5_1).f1, (Zq y525 x5_1).f2, (wrap64 ((wrap64 ((wrap64 (x1_1 + 1)) + 1)) + 1)) % 4294967296⟩ : S52)) := ⟨_, rfl⟩
     replace H : (Zcb.l0 k1 y526 (wrap64 ((wrap64 ((wrap64 ((wrap64 (x1_1 + 1)) + 1)) + 1)) + 1)) (wrap64 (x5_1 + 1))) = some (r1, r2) := by first | (rw [hy526]; with_reducible exact H) | (have H2_ := (Option.bind_some _ _).symm.trans H; rw [hy526]; with_reducible exact H2_) | (have H2_ := (Option.bind_some _ _).symm.trans H; with_reducible exact H2_) | with_reducible exact H | (rw [hy526]; exact H) | exact H
     have Ny526 := Za.mk hy526
     clear hy526
     have H' := Za.mk H
     clear H
     obtain ⟨Ao9, co9, eo9⟩ := Kd.Zay HO_0.out
     subst eo9
     have p5 : 0 ≤ (x5_1 : Int) := of_decide_eq_true (by assumption)
     have q5 : (x5_1 : Int) < ((x0_1.length : Int) : Int) := of_decide_eq_true (by assumption)
     obtain ⟨go5, co5, eo5, gb5, gl5, cl5, HG5⟩ := Kd.R_form HO_0.out (by omega)
     (first | cases eo5 | (injection eo5 with ea_ en_ ec_; (first | subst ea_ | (injection ea_ with ea_; subst ea_)); subst ec_; clear en_))
     have GB5 := Za.mk gb5
     have GG5 := Za.mk HG5
     clear gb5 gl5 HG5
     have HMgo5 := Za.mk (show (P0_ go5 ∨ w.heap.size ≤ go5) from (HO_0.out.1 _ rfl))
     obtain ⟨ce5, hcl5, hM5, hcc5, hfr5⟩ := Kd.R_elem HO_0.out z52 (x5_1 : Int) p5 q5
     obtain rfl := k52_openM hM5
     have hx5_0 : wr.cell? ⟨go5, (x5_1 : Int).toNat * 4, none⟩ = some (.int .u16 ((Zq x0_1 x5_1).f0)) := hcc5 0 _ rfl
     have hx5_1 : wr.cell? ⟨go5, (x5_1 : Int).toNat * 4 + 1, none⟩ = some (.int .u8 ((Zq x0_1 x5_1).f1)) := hcc5 1 _ rfl
     have hx5_2 : wr.cell? ⟨go5, (x5_1 : Int).toNat * 4 + 2, none⟩ = some (.int .u8 ((Zq x0_1 x5_1).f2)) := hcc5 2 _ rfl
     have hx5_3 : wr.cell? ⟨go5, (x5_1 : Int).toNat * 4 + 3, none⟩ = some (.int .u32 ((Zq x0_1 x5_1).f3)) := hcc5 3 _ rfl
     have hf5_0 : wr.frozen? ⟨go5, (x5_1 : Int).toNat * 4, none⟩ = false := hfr5 0
     have hf5_1 : wr.frozen? ⟨go5, (x5_1 : Int).toNat * 4 + 1, none⟩ = false := hfr5 1
     have hf5_2 : wr.frozen? ⟨go5, (x5_1 : Int).toNat * 4 + 2, none⟩ = false := hfr5 2
     have hf5_3 : wr.frozen? ⟨go5, (x5_1 : Int).toNat * 4 + 3, none⟩ = false := hfr5 3
     clear hcl5 hcc5 hfr5 hM5
     replace p5 := eq_true p5
     replace q5 := eq_true q5
     have HX10 := Za.mk (show Kd.R k52 52 wr w0.heap.size (fun k_ => (P0_ k_ ∨ w.heap.size ≤ k_)) (.slice (some ⟨go5, 0, none⟩) x0_1.length co9) x0_1 from (by (with_reducible repeat (first | apply Kd.Zaa | apply Kd.Zy | apply Kd.Zz)); exact HO_0.out))
     obtain ⟨ce10, hcl10, hM10, hcc10, hfr10⟩ := Kd.R_elem HX10.out z52 (x5_1 : Int) (of_decide_eq_true (by assumption)) (by have h_ : (x5_1 : Int) < ((x0_1.length : Int) : Int) := of_decide_eq_true (by assumption); first | exact h_ | (have e_ := (Kd.Zat HO_0.out).1; omega) | simpa using h_)
     obtain rfl := k52_openM hM10
     have HP10 := Kd.R_seg HX10.out (x5_1 : Int) (of_decide_eq_true (by assumption)) (by have h_ : (x5_1 : Int) < ((x0_1.length : Int) : Int) := of_decide_eq_true (by assumption); first | exact h_ | (have e_ := (Kd.Zat HO_0.out).1; omega) | simpa using h_) (seg := [.int .u16 (IntKind.u16.wrap (x1_1))]) (j := 0) hcl10 hcc10 (show 1 ≤ 4 from by decide) (x' := (⟨IntKind.u16.wrap (x1_1), (Zq x0_1 x5_1).f1, (Zq x0_1 x5_1).f2, (Zq x0_1 x5_1).f3⟩ : S52)) (k52_mkM _ _ _ (⟨IntKind.u16.wrap (x1_1), (Zq x0_1 x5_1).f1, (Zq x0_1 x5_1).f2, (Zq x0_1 x5_1).f3⟩ : S52) ) (fun _ hk => hk)
     have hx10_0 := hcc10 0 _ rfl
     (try simp only [show (k52).sz = 4 from rfl, Nat.mul_one, Nat.add_zero] at hx10_0)
     have hf10_0 := hfr10 0
     (try simp only [show (k52).sz = 4 from rfl, Nat.mul_one, Nat.add_zero] at hf10_0)
     clear hcl10 hcc10 hfr10 hM10
     go_wp2_with (first | ((with_reducible refine gate_store (t := 49) (p := 17) rfl ?_); refine store_event (t := 49) (p := 17) (v := ?vo_w11) (w1 := (wr.setCell ⟨go5, (x5_1 : Int).toNat * 4, none⟩ (.int .u16 (IntKind.u16.wrap (x1_1))))) ?hg ?ho ?hn ?hr ?_; (case ho => rfl); (case hg => rfl); (case hn => rfl); (case hr => go_simp <;> rfl); intro w11 hw; have hg : wr.grownBy w11 (some go5) := (by rw [hw]; exact HP10.2); have hp_ : Kd.R k52 52 w11 w0.heap.size (fun k_ => (P0_ k_ ∨ w.heap.size ≤ k_)) (.slice (some ⟨go5, 0, none⟩) x0_1.length co9) y523 := (by rw [hw, Ny523.out]; exact HP10.1); clear HP10; replace HB := Za.mk ((by rw [hw]; exact Zk (HB.out) GB5.out : Below w0.heap.size w0 w11)); replace HK := Za.mk (Kept.of_grown (S := (fun k_ => P0_ k_)) hg (by repeat (first | (with_reducible first | exact HK.out | apply Kept.alloc | apply Kept.drewN | apply Kept.drew) | exact HK.out)) (fun k_ e_ => (HO_0.out.1 k_ e_))); replace HO_0 := Za.mk (hp_); clear hg hw hp_; have p6 : 0 ≤ (x5_1 : Int) := of_decide_eq_true (by assumption); have q6 : (x5_1 : Int) < ((x0_1.length : Int) : Int) := of_decide_eq_true (by assumption); obtain ⟨ce6, hcl6, hM6, hcc6, hfr6⟩ := Kd.R_elem HO_0.out z52 (x5_1 : Int) p6 q6; obtain rfl := k52_openM hM6; have hx6_0 : w11.cell? ⟨go5, (x5_1 : Int).toNat * 4, none⟩ = some (.int .u16 ((Zq y523 x5_1).f0)) := hcc6 0 _ rfl; have hx6_1 : w11.cell? ⟨go5, (x5_1 : Int).toNat * 4 + 1, none⟩ = some (.int .u8 ((Zq y523 x5_1).f1)) := hcc6 1 _ rfl; have hx6_2 : w11.cell? ⟨go5, (x5_1 : Int).toNat * 4 + 2, none⟩ = some (.int .u8 ((Zq y523 x5_1).f2)) := hcc6 2 _ rfl; have hx6_3 : w11.cell? ⟨go5, (x5_1 : Int).toNat * 4 + 3, none⟩ = some (.int .u32 ((Zq y523 x5_1).f3)) := hcc6 3 _ rfl; have hf6_0 : w11.frozen? ⟨go5, (x5_1 : Int).toNat * 4, none⟩ = false := hfr6 0; have hf6_1 : w11.frozen? ⟨go5, (x5_1 : Int).toNat * 4 + 1, none⟩ = false := hfr6 1; have hf6_2 : w11.frozen? ⟨go5, (x5_1 : Int).toNat * 4 + 2, none⟩ = false := hfr6 2; have hf6_3 : w11.frozen? ⟨go5, (x5_1 : Int).toNat * 4 + 3, none⟩ = false := hfr6 3; clear hcl6 hcc6 hfr6 hM6; replace p6 := eq_true p6; replace q6 := eq_true q6; have HX12 := Za.mk (show Kd.R k52 52 w11 w0.heap.size (fun k_ => (P0_ k_ ∨ w.heap.size ≤ k_)) (.slice (some ⟨go5, 0, none⟩) x0_1.length co9) y523 from (by (with_reducible repeat (first | apply Kd.Zaa | apply Kd.Zy | apply Kd.Zz)); exact HO_0.out)); obtain ⟨ce12, hcl12, hM12, hcc12, hfr12⟩ := Kd.R_elem HX12.out z52 (x5_1 : Int) (of_decide_eq_true (by assumption)) (by have h_ : (x5_1 : Int) < ((x0_1.length : Int) : Int) := of_decide_eq_true (by assumption); first | exact h_ | (have e_ := (Kd.Zat HO_0.out).1; omega) | simpa using h_); obtain rfl := k52_openM hM12; have HP12 := Kd.R_seg HX12.out (x5_1 : Int) (of_decide_eq_true (by assumption)) (by have h_ : (x5_1 : Int) < ((x0_1.length : Int) : Int) := of_decide_eq_true (by assumption); first | exact h_ | (have e_ := (Kd.Zat HO_0.out).1; omega) | simpa using h_) (seg := [.int .u8 ((wrap64 (x1_1 + 1)) % 256)]) (j := 1) hcl12 hcc12 (show 2 ≤ 4 from by decide) (x' := (⟨(Zq y523 x5_1).f0, (wrap64 (x1_1 + 1)) % 256, (Zq y523 x5_1).f2, (Zq y523 x5_1).f3⟩ : S52)) (k52_mkM _ _ _ (⟨(Zq y523 x5_1).f0, (wrap64 (x1_1 + 1)) % 256, (Zq y523 x5_1).f2, (Zq y523 x5_1).f3⟩ : S52) ) (fun _ hk => hk); have hx12_1 := hcc12 1 _ rfl; (try simp only [show (k52).sz = 4 from rfl, Nat.mul_one, Nat.add_zero] at hx12_1); have hf12_1 := hfr12 1; (try simp only [show (k52).sz = 4 from rfl, Nat.mul_one, Nat.add_zero] at hf12_1); clear hcl12 hcc12 hfr12 hM12) | ((with_reducible refine gate_store (t := 5) (p := 25) rfl ?_); refine store_event (t := 5) (p := 25) (v := ?vo_w13) (w1 := (w11.setCell ⟨go5, (x5_1 : Int).toNat * 4 + 1, none⟩ (.int .u8 ((wrap64 (x1_1 + 1)) % 256)))) ?hg ?ho ?hn ?hr ?_; (case ho => rfl); (case hg => rfl); (case hn => rfl); (case hr => go_simp <;> rfl); intro w13 hw; have hg : w11.grownBy w13 (some go5) := (by rw [hw]; exact HP12.2); have hp_ : Kd.R k52 52 w13 w0.heap.size (fun k_ => (P0_ k_ ∨ w.heap.size ≤ k_)) (.slice (some ⟨go5, 0, none⟩) x0_1.length co9) y524 := (by rw [hw, Ny524.out]; exact HP12.1); clear HP12; replace HB := Za.mk ((by rw [hw]; exact Zk (HB.out) GB5.out : Below w0.heap.size w0 w13)); replace HK := Za.mk (Kept.of_grown (S := (fun k_ => P0_ k_)) hg (by repeat (first | (with_reducible first | exact HK.out | apply Kept.alloc | apply Kept.drewN | apply Kept.drew) | exact HK.out)) (fun k_ e_ => (HO_0.out.1 k_ e_))); replace HO_0 := Za.mk (hp_); clear hg hw hp_; have p7 : 0 ≤ (x5_1 : Int) := of_decide_eq_true (by assumption); have q7 : (x5_1 : Int) < ((x0_1.length : Int) : Int) := of_decide_eq_true (by assumption); obtain ⟨ce7, hcl7, hM7, hcc7, hfr7⟩ := Kd.R_elem HO_0.out z52 (x5_1 : Int) p7 q7; obtain rfl := k52_openM hM7; have hx7_0 : w13.cell? ⟨go5, (x5_1 : Int).toNat * 4, none⟩ = some (.int .u16 ((Zq y524 x5_1).f0)) := hcc7 0 _ rfl; have hx7_1 : w13.cell? ⟨go5, (x5_1 : Int).toNat * 4 + 1, none⟩ = some (.int .u8 ((Zq y524 x5_1).f1)) := hcc7 1 _ rfl; have hx7_2 : w13.cell? ⟨go5, (x5_1 : Int).toNat * 4 + 2, none⟩ = some (.int .u8 ((Zq y524 x5_1).f2)) := hcc7 2 _ rfl; have hx7_3 : w13.cell? ⟨go5, (x5_1 : Int).toNat * 4 + 3, none⟩ = some (.int .u32 ((Zq y524 x5_1).f3)) := hcc7 3 _ rfl; have hf7_0 : w13.frozen? ⟨go5, (x5_1 : Int).toNat * 4, none⟩ = false := hfr7 0; have hf7_1 : w13.frozen? ⟨go5, (x5_1 : Int).toNat * 4 + 1, none⟩ = false := hfr7 1; have hf7_2 : w13.frozen? ⟨go5, (x5_1 : Int).toNat * 4 + 2, none⟩ = false := hfr7 2; have hf7_3 : w13.frozen? ⟨go5, (x5_1 : Int).toNat * 4 + 3, none⟩ = false := hfr7 3; clear hcl7 hcc7 hfr7 hM7; replace p7 := eq_true p7; replace q7 := eq_true q7; have HX14 := Za.mk (show Kd.R k52 52 w13 w0.heap.size (fun k_ => (P0_ k_ ∨ w.heap.size ≤ k_)) (.slice (some ⟨go5, 0, none⟩) x0_1.length co9) y524 from (by (with_reducible repeat (first | apply Kd.Zaa | apply Kd.Zy | apply Kd.Zz)); exact HO_0.out)); obtain ⟨ce14, hcl14, hM14, hcc14, hfr14⟩ := Kd.R_elem HX14.out z52 (x5_1 : Int) (of_decide_eq_true (by assumption)) (by have h_ : (x5_1 : Int) < ((x0_1.length : Int) : Int) := of_decide_eq_true (by assumption); first | exact h_ | (have e_ := (Kd.Zat HO_0.out).1; omega) | simpa using h_); obtain rfl := k52_openM hM14; have HP14 := Kd.R_seg HX14.out (x5_1 : Int) (of_decide_eq_true (by assumption)) (by have h_ : (x5_1 : Int) < ((x0_1.length : Int) : Int) := of_decide_eq_true (by assumption); first | exact h_ | (have e_ := (Kd.Zat HO_0.out).1; omega) | simpa using h_) (seg := [.int .u8 ((wrap64 ((wrap64 (x1_1 + 1)) + 1)) % 256)]) (j := 2) hcl14 hcc14 (show 3 ≤ 4 from by decide) (x' := (⟨(Zq y524 x5_1).f0, (Zq y524 x5_1).f1, (wrap64 ((wrap64 (x1_1 + 1)) + 1)) % 256, (Zq y524 x5_1).f3⟩ : S52)) (k52_mkM _ _ _ (⟨(Zq y524 x5_1).f0, (Zq y524 x5_1).f1, (wrap64 ((wrap64 (x1_1 + 1)) + 1)) % 256, (Zq y524 x5_1).f3⟩ : S52) ) (fun _ hk => hk); have hx14_2 := hcc14 2 _ rfl; (try simp only [show (k52).sz = 4 from rfl, Nat.mul_one, Nat.add_zero] at hx14_2); have hf14_2 := hfr14 2; (try simp only [show (k52).sz = 4 from rfl, Nat.mul_one, Nat.add_zero] at hf14_2); clear hcl14 hcc14 hfr14 hM14) | ((with_reducible refine gate_store (t := 5) (p := 33) rfl ?_); refine store_event (t := 5) (p := 33) (v := ?vo_w15) (w1 := (w13.setCell ⟨go5, (x5_1 : Int).toNat * 4 + 2, none⟩ (.int .u8 ((wrap64 ((wrap64 (x1_1 + 1)) + 1)) % 256)))) ?hg ?ho ?hn ?hr ?_; (case ho => rfl); (case hg => rfl); (case hn => rfl); (case hr => go_simp <;> rfl); intro w15 hw; have hg : w13.grownBy w15 (some go5) := (by rw [hw]; exact HP14.2); have hp_ : Kd.R k52 52 w15 w0.heap.size (fun k_ => (P0_ k_ ∨ w.heap.size ≤ k_)) (.slice (some ⟨go5, 0, none⟩) x0_1.length co9) y525 := (by rw [hw, Ny525.out]; exact HP14.1); clear HP14; replace HB := Za.mk ((by rw [hw]; exact Zk (HB.out) GB5.out : Below w0.heap.size w0 w15)); replace HK := Za.mk (Kept.of_grown (S := (fun k_ => P0_ k_)) hg (by repeat (first | (with_reducible first | exact HK.out | apply Kept.alloc | apply Kept.drewN | apply Kept.drew) | exact HK.out)) (fun k_ e_ => (HO_0.out.1 k_ e_))); replace HO_0 := Za.mk (hp_); clear hg hw hp_; have p8 : 0 ≤ (x5_1 : Int) := of_decide_eq_true (by assumption); have q8 : (x5_1 : Int) < ((x0_1.length : Int) : Int) := of_decide_eq_true (by assumption); obtain ⟨ce8, hcl8, hM8, hcc8, hfr8⟩ := Kd.R_elem HO_0.out z52 (x5_1 : Int) p8 q8; obtain rfl := k52_openM hM8; have hx8_0 : w15.cell? ⟨go5, (x5_1 : Int).toNat * 4, none⟩ = some (.int .u16 ((Zq y525 x5_1).f0)) := hcc8 0 _ rfl; have hx8_1 : w15.cell? ⟨go5, (x5_1 : Int).toNat * 4 + 1, none⟩ = some (.int .u8 ((Zq y525 x5_1).f1)) := hcc8 1 _ rfl; have hx8_2 : w15.cell? ⟨go5, (x5_1 : Int).toNat * 4 + 2, none⟩ = some (.int .u8 ((Zq y525 x5_1).f2)) := hcc8 2 _ rfl; have hx8_3 : w15.cell? ⟨go5, (x5_1 : Int).toNat * 4 + 3, none⟩ = some (.int .u32 ((Zq y525 x5_1).f3)) := hcc8 3 _ rfl; have hf8_0 : w15.frozen? ⟨go5, (x5_1 : Int).toNat * 4, none⟩ = false := hfr8 0; have hf8_1 : w15.frozen? ⟨go5, (x5_1 : Int).toNat * 4 + 1, none⟩ = false := hfr8 1; have hf8_2 : w15.frozen? ⟨go5, (x5_1 : Int).toNat * 4 + 2, none⟩ = false := hfr8 2; have hf8_3 : w15.frozen? ⟨go5, (x5_1 : Int).toNat * 4 + 3, none⟩ = false := hfr8 3; clear hcl8 hcc8 hfr8 hM8; replace p8 := eq_true p8; replace q8 := eq_true q8; have HX16 := Za.mk (show Kd.R k52 52 w15 w0.heap.size (fun k_ => (P0_ k_ ∨ w.heap.size ≤ k_)) (.slice (some ⟨go5, 0, none⟩) x0_1.length co9) y525 from (by (with_reducible repeat (first | apply Kd.Zaa | apply Kd.Zy | apply Kd.Zz)); exact HO_0.out)); obtain ⟨ce16, hcl16, hM16, hcc16, hfr16⟩ := Kd.R_elem HX16.out z52 (x5_1 : Int) (of_decide_eq_true (by assumption)) (by have h_ : (x5_1 : Int) < ((x0_1.length : Int) : Int) := of_decide_eq_true (by assumption); first | exact h_ | (have e_ := (Kd.Zat HO_0.out).1; omega) | simpa using h_); obtain rfl := k52_openM hM16; have HP16 := Kd.R_seg HX16.out (x5_1 : Int) (of_decide_eq_true (by assumption)) (by have h_ : (x5_1 : Int) < ((x0_1.length : Int) : Int) := of_decide_eq_true (by assumption); first | exact h_ | (have e_ := (Kd.Zat HO_0.out).1; omega) | simpa using h_) (seg := [.int .u32 ((wrap64 ((wrap64 ((wrap64 (x1_1 + 1)) + 1)) + 1)) % 4294967296)]) (j := 3) hcl16 hcc16 (show 4 ≤ 4 from by decide) (x' := (⟨(Zq y525 x5_1).f0, (Zq y525 x5_1).f1, (Zq y525 x5_1).f2, (wrap64 ((wrap64 ((wrap64 (x1_1 + 1)) + 1)) + 1)) % 4294967296⟩ : S52)) (k52_mkM _ _ _ (⟨(Zq y525 x5_1).f0, (Zq y525 x5_1).f1, (Zq y525 x5_1).f2, (wrap64 ((wrap64 ((wrap64 (x1_1 + 1)) + 1)) + 1)) % 4294967296⟩ : S52) ) (fun _ hk => hk); have hx16_3 := hcc16 3 _ rfl; (try simp only [show (k52).sz = 4 from rfl, Nat.mul_one, Nat.add_zero] at hx16_3); have hf16_3 := hfr16 3; (try simp only [show (k52).sz = 4 from rfl, Nat.mul_one, Nat.add_zero] at hf16_3); clear hcl16 hcc16 hfr16 hM16) | ((with_reducible refine gate_store (t := 50) (p := 41) rfl ?_); refine store_event (t := 50) (p := 41) (v := ?vo_w17) (w1 := (w15.setCell ⟨go5, (x5_1 : Int).toNat * 4 + 3, none⟩ (.int .u32 ((wrap64 ((wrap64 ((wrap64 (x1_1 + 1)) + 1)) + 1)) % 4294967296)))) ?hg ?ho ?hn ?hr ?_; (case ho => rfl); (case hg => rfl); (case hn => rfl); (case hr => go_simp <;> rfl); intro w17 hw; have hg : w15.grownBy w17 (some go5) := (by rw [hw]; exact HP16.2); have hp_ : Kd.R k52 52 w17 w0.heap.size (fun k_ => (P0_ k_ ∨ w.heap.size ≤ k_)) (.slice (some ⟨go5, 0, none⟩) x0_1.length co9) y526 := (by rw [hw, Ny526.out]; exact HP16.1); clear HP16; replace HB := Za.mk ((by rw [hw]; exact Zk (HB.out) GB5.out : Below w0.heap.size w0 w17)); replace HK := Za.mk (Kept.of_grown (S := (fun k_ => P0_ k_)) hg (by repeat (first | (with_reducible first | exact HK.out | apply Kept.alloc | apply Kept.drewN | apply Kept.drew) | exact HK.out)) (fun k_ e_ => (HO_0.out.1 k_ e_))); replace HO_0 := Za.mk (hp_); clear hg hw hp_))
     go_roundg k1
     case measure => have := HK1.out; omega
     case rel => exact ⟨(y526), (wrap64 ((wrap64 ((wrap64 ((wrap64 (x1_1 + 1)) + 1)) + 1)) + 1)), (wrap64 (x5_1 + 1)), (by first | rfl | (simp; done) | (simp [*]; done)), (by first | rfl | (simp; done) | (simp [*]; done)), H', ⟨by have := HK1.out; omega⟩, ⟨by (with_reducible repeat (first | apply Kd.Zaa | apply Kd.Zy | apply Kd.Zz)); exact HO_0.out⟩, ⟨by repeat (first | (with_reducible first | exact HK.out | apply Kept.alloc | apply Kept.drewN | apply Kept.drew) | exact HK.out)⟩, ⟨by with_reducible repeat first | exact HB.out | apply Zc | apply Ze | apply Zd⟩⟩
    rw [if_neg c4] at H
    exact absurd H (by simp)
   rw [if_neg c3] at H
   have c3b0 : decide (x5_1 < (x0_1.length : Int)) = false := decide_eq_false c3
   clear c3
   simp only [Option.some.injEq, Prod.mk.injEq] at H
   obtain ⟨rfl, rfl⟩ := H
   obtain ⟨Ao18, co18, eo18⟩ := Kd.Zay HO_0.out
   subst eo18
   go_wp2
   go_ret
   exact ⟨by first | rfl | (simp [Zm, Zn] <;> rfl) | (simp [*, Zm, Zn] <;> rfl), by (with_reducible repeat (first | apply Kd.Zaa | apply Kd.Zy | apply Kd.Zz)); exact HO_0.out, by with_reducible repeat first | exact HB.out | apply Zc | apply Ze | apply Zd, by repeat (first | (with_reducible first | exact HK.out | apply Kept.alloc | apply Kept.drewN | apply Kept.drew) | exact HK.out)⟩

end Go.Proofs.Ytgmbahldjiiajaa.P
