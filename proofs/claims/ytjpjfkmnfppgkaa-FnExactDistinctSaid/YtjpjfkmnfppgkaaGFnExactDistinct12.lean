import Derived.Test.YtjpjfkmnfppgkaaGFnExactDistinct6
import Derived.Test.YtjpjfkmnfppgkaaGFnExactDistinct11
import Derived.Lib.SliceRun
import Derived.Shelf.SlSortCmp.WholeK
import Derived.Shelf.SlGeneric
import Derived.Ground.SlsfProg
import Derived.Test.YtjpjfkmnfppgkaaProg
import Derived.Shelf.SlSortCmp.NoneTotal
import Derived.Test.YtjpjfkmnfppgkaaGFnExactDistinct7
namespace Go.Proofs.Ytjpjfkmnfppgkaa.P
open Go.RowKit Go.Proofs.YtjpjfkmnfppgkaaW.PrintWords Go.Proofs.YtjpjfkmnfppgkaaW.PrintLast Go.Proofs.YtjpjfkmnfppgkaaW.PrintMore
attribute [local go_sem] max2_int min2_int max_two min_two max_three min_three max_four min_four
set_option linter.unusedVariables false
set_option linter.unusedSimpArgs false

def Zaq.l0 : Nat → List (S34) → List (S35) → Int → Option ((List (S35)))
  | 0, _, _, _ => none
  | k + 1, x0, x3, x4 => if x4 < (x0.length : Int) then (if 0 ≤ x4 then ((laws_toCall.f k ((rd_T34 x0 x4).f0) ((rd_T34 x0 x4).f1) ((rd_T34 x0 x4).f2)).bind fun bt176 => (if x4 < (x3.length : Int) then (Zaq.l0 k x0 (x3.set (x4 : Int).toNat (⟨bt176.1, bt176.2.1, bt176.2.2⟩ : S35)) (wrap64 (x4 + 1))) else (none))) else (none)) else (some x3)
def Zaq.f (k : Nat) (l0 : List (S34)) : Option ((List (S35))) := if 0 ≤ (l0.length : Int) then (if ((l0.length : Int) : Int).toNat ≤ 8796093022208 then (Zaq.l0 k l0 (List.replicate ((l0.length : Int) : Int).toNat z35) 0) else (none)) else (none)
set_option maxHeartbeats 8000000 in
set_option maxRecDepth 100000 in
theorem Zaq.calls (k : Nat) (A0 : Option Addr) (c0 : Nat) (l0 : List (S34)) (r : List (S35)) (w : World) (hr0 : Kd.C k34 w A0 l0.length l0) (hc0 : l0.length ≤ c0) (h : Zaq.f k l0 = some r) :
  Calls Try.prog 6 #[.slice A0 l0.length c0] w fun e w' => ∃ v0_ : Value, e = .returned (v0_) ∧ Kd.S k35 35 w' w.heap.size (fun _ => True) v0_ r ∧ Below w.heap.size w w' := by
 have hu34 := Try.underlying34
 have hu35 := Try.underlying35
 have HR0 := Za.mk hr0
 have HC0 := Za.mk hc0
 clear hr0 hc0
 have HB := Za.mk (Below.refl w.heap.size w)
 have H : (if 0 ≤ (l0.length : Int) then (if ((l0.length : Int) : Int).toNat ≤ 8796093022208 then (Zaq.l0 k l0 (List.replicate ((l0.length : Int) : Int).toNat z35) 0) else (none)) else (none)) = some r := h
 clear h
 by_cases c2 : 0 ≤ (l0.length : Int)
 ·rw [if_pos c2] at H
  have c2b0 := eq_true c2
  have c2b1 : decide (0 ≤ (l0.length : Int)) = true := decide_eq_true c2
  clear c2
  by_cases c3 : ((l0.length : Int) : Int).toNat ≤ 8796093022208
  ·rw [if_pos c3] at H
   have c3b0 := eq_true c3
   have c3b1 : decide (((l0.length : Int) : Int).toNat ≤ 8796093022208) = true := decide_eq_true c3
   clear c3
   obtain ⟨y172, hy172⟩ : ∃ y_ : List (S35), y_ = (List.replicate ((l0.length : Int) : Int).toNat z35) := ⟨_, rfl⟩
   replace H : (Zaq.l0 k l0 y172 0) = some r := by first | (rw [hy172]; with_reducible exact H) | (have H2_ := (Option.bind_some _ _).symm.trans H; rw [hy172]; with_reducible exact H2_) | (have H2_ := (Option.bind_some _ _).symm.trans H; with_reducible exact H2_) | with_reducible exact H | (rw [hy172]; exact H) | exact H
   have Ny172 := Za.mk hy172
   clear hy172
   have H' := Za.mk H
   clear H
   go_enter Try.func6, Try.ntmps6
   go_wp2_with (first | ((with_reducible refine Zab (N := 7) rfl ?_); refine Kd.S_make k35 _ 35 rfl (N := 7) rfl 24 _ _ rfl (l0.length : Int) rfl rfl Try.underlying24 (.agg #[(.int .u32 0), (.int .u32 0), (.slice none 0 0)]) 32 info35 rfl (by decide) (by omega) z35 (ok := fun _ => True) (okp := fun _ => True) (k35_mkM _ _ _ z35 (Kd.R_nil _ _ _ _ _)) (fun _ hk => hk) trivial (of_decide_eq_true (by assumption)) (Nat.le_trans (Nat.mul_le_mul_right _ (of_decide_eq_true (by assumption) : (l0.length : Int).toNat ≤ 8796093022208)) (by omega)) (Below.refl _ _) (Nat.le_refl _) ?_; intro v173 w4 ho5 hb hg_ hnew_; clear hg_ hnew_; (first | rw [← Ny172.out] at ho5 | (simp only [Int.reduceToNat] at ho5; rw [← Ny172.out] at ho5)); have HO174 := Za.mk (Kd.S_lower ho5 (Zr (by repeat (first | (with_reducible first | exact HB.out | apply Zd | apply Zf | apply Ze) | exact HB.out)))); replace HB := Za.mk (Zx (by repeat (first | (with_reducible first | exact HB.out | apply Zd | apply Zf | apply Ze) | exact HB.out)) hb); clear hb ho5))
   go_loopg [4] k (fun kq v4 w' => ∃ (x3_1 : List (S35)) (x4_1 : Int), v4 = .int .i64 x4_1 ∧ Za (Zaq.l0 kq l0 x3_1 x4_1 = some r) ∧ Za (kq ≤ k) ∧ Za (Kd.S k35 35 w' w.heap.size (fun _ => True) v173 x3_1) ∧ Za (Below w.heap.size w w'))
   case atStart => exact ⟨(y172), (0), (by first | rfl | (simp; done) | (simp [*]; done)), H', ⟨Nat.le_refl _⟩, ⟨by (with_reducible repeat (first | apply Kd.S_alloc | apply Kd.S_drewN | apply Kd.S_drew)); exact HO174.out⟩, ⟨by repeat (first | (with_reducible first | exact HB.out | apply Zd | apply Zf | apply Ze) | exact HB.out)⟩⟩
   case round =>
    clear H'
    try clear c2
    try clear c2b0
    try clear c2b1
    try clear p2
    try clear c3
    try clear c3b0
    try clear c3b1
    obtain ⟨x3_1, x4_1, rfl, HA, HK1, HO_3, HB⟩ := hrel
    cases gk with
    | zero => exact absurd HA.out (by simp [Zaq.l0])
    | succ k1 =>
     have H := HA.out
     clear HA
     simp only [Zaq.l0] at H
     by_cases c6 : x4_1 < (l0.length : Int)
     ·rw [if_pos c6] at H
      have c6b0 : decide (x4_1 < (l0.length : Int)) = true := decide_eq_true c6
      clear c6
      by_cases c7 : 0 ≤ x4_1
      ·rw [if_pos c7] at H
       have c7b0 : decide (0 ≤ x4_1) = true := decide_eq_true c7
       clear c7
       replace H := Option.bind_eq_some_iff.mp H
       obtain ⟨⟨t176, t177, t178⟩, A80, H⟩ := H
       replace H : (if x4_1 < (x3_1.length : Int) then (Zaq.l0 k1 l0 (x3_1.set (x4_1 : Int).toNat (⟨t176, t177, t178⟩ : S35)) (wrap64 (x4_1 + 1))) else (none)) = some r := H
       have A8 := Za.mk A80
       clear A80
       by_cases c9 : x4_1 < (x3_1.length : Int)
       ·rw [if_pos c9] at H
        have c9b0 : decide (x4_1 < (x3_1.length : Int)) = true := decide_eq_true c9
        clear c9
        obtain ⟨y181, hy181⟩ : ∃ y_ : List (S35), y_ = (x3_1.set (x4_1 : Int).toNat (⟨t176, t177, t178⟩ : S35)) := ⟨_, rfl⟩
        replace H : (Zaq.l0 k1 l0 y181 (wrap64 (x4_1 + 1))) = some r := by first | (rw [hy181]; with_reducible exact H) | (have H2_ := (Option.bind_some _ _).symm.trans H; rw [hy181]; with_reducible exact H2_) | (have H2_ := (Option.bind_some _ _).symm.trans H; with_reducible exact H2_) | with_reducible exact H | (rw [hy181]; exact H) | exact H
        have Ny181 := Za.mk hy181
        clear hy181
        have H' := Za.mk H
        clear H
        have p175 : 0 ≤ (x4_1 : Int) := of_decide_eq_true (by assumption)
        have q175 : x4_1 < (l0.length : Int) := of_decide_eq_true (by assumption)
        obtain ⟨ad175, A175_2, c175_2, e175, hx175_0, hx175_1, hx175_2, hl175_2, hi175_2⟩ := at_T34 HR0.out x4_1 p175 q175
        cases e175
        replace hx175_0 := (HB.out.cell (World.block_lt_of_cell? w _ hx175_0)).trans hx175_0
        replace hx175_1 := (HB.out.cell (World.block_lt_of_cell? w _ hx175_1)).trans hx175_1
        replace hx175_2 := (HB.out.cell (World.block_lt_of_cell? w _ hx175_2)).trans hx175_2
        have HR175_2 := Za.mk hi175_2
        have HC175_2 := Za.mk hl175_2
        clear hi175_2 hl175_2
        replace p175 := eq_true p175
        replace q175 := eq_true q175
        go_wp2_with (first | ((with_reducible refine Zai (f := 14) rfl ?_); refine goesL_ (some 20) rfl rfl Try.func14 (by kernel_rfl) rfl #[.agg #[.int .u32 ((rd_T34 l0 x4_1).f0), .int .u32 ((rd_T34 l0 x4_1).f1), .slice A175_2 ((rd_T34 l0 x4_1).f2).length c175_2]] rfl (by (try simp only [ZA, ZB, ZC]); first | done | rfl) ?_; (with_reducible refine (laws_toCall.calls k1 ((rd_T34 l0 x4_1).f0) ((rd_T34 l0 x4_1).f1) _ _ ((rd_T34 l0 x4_1).f2) t176 t177 t178 _ ?side1 ?side2 A8.out).mono ?_); (case side1 => repeat (first | exact (Kd.Zah HR175_2.out HB.out) | (with_reducible refine Kd.Zac ?_ _) | (with_reducible refine Kd.Zaf ?_ _) | (with_reducible refine Kd.Zae ?_))); (case side2 => exact HC175_2.out); rintro e w11 ⟨v179, rfl, ho0, hb⟩; obtain ⟨Av179, cv179, ev179⟩ : ∃ A_ c_, v179 = Value.slice A_ t178.length c_ := (by first | exact Kd.R_slice ho0 | exact Kd.S_slice ho0); subst ev179; refine ⟨_, rfl, ?_⟩; replace HO_3 := Za.mk (Kd.S_elder' (by (with_reducible repeat (first | apply Kd.S_alloc | apply Kd.S_drewN | apply Kd.S_drew)); exact HO_3.out) (Kd.R_base ho0) hb); have HO180 := Za.mk (Kd.R_lower ho0 (Zr (by repeat (first | (with_reducible first | exact HB.out | apply Zd | apply Zf | apply Ze) | exact HB.out)))); replace HB := Za.mk (Zx (by repeat (first | (with_reducible first | exact HB.out | apply Zd | apply Zf | apply Ze) | exact HB.out)) hb); (try clear hb); (try clear hb2); (try clear hk); (try clear hi); (try clear ho0); have p10 : 0 ≤ (x4_1 : Int) := of_decide_eq_true (by assumption); have q10 : (x4_1 : Int) < ((x3_1.length : Int) : Int) := of_decide_eq_true (by assumption); obtain ⟨go10, co10, eo10, gb10, gl10, cl10, HG10⟩ := Kd.S_form HO_3.out (by omega); (first | cases eo10 | (injection eo10 with ea_ en_ ec_; (first | subst ea_ | (injection ea_ with ea_; subst ea_)); subst ec_; clear en_)); have GB10 := Za.mk gb10; have GG10 := Za.mk HG10; clear gb10 gl10 HG10; obtain ⟨_, ce10, hcl10, hM10, hcc10, hfr10, _, _⟩ := Kd.S_elem HO_3.out z35 (x4_1 : Int) p10 q10; obtain ⟨ve10_2, rfl, ge10_2⟩ := k35_openM hM10; have hx10_0 : w11.cell? ⟨go10, (x4_1 : Int).toNat * 3, none⟩ = some (.int .u32 ((Zb x3_1 x4_1).f0)) := hcc10 0 _ rfl; have hx10_1 : w11.cell? ⟨go10, (x4_1 : Int).toNat * 3 + 1, none⟩ = some (.int .u32 ((Zb x3_1 x4_1).f1)) := hcc10 1 _ rfl; have hx10_2 : w11.cell? ⟨go10, (x4_1 : Int).toNat * 3 + 2, none⟩ = some (ve10_2) := hcc10 2 _ rfl; have hf10_0 : w11.frozen? ⟨go10, (x4_1 : Int).toNat * 3, none⟩ = false := hfr10 0; have hf10_1 : w11.frozen? ⟨go10, (x4_1 : Int).toNat * 3 + 1, none⟩ = false := hfr10 1; have hf10_2 : w11.frozen? ⟨go10, (x4_1 : Int).toNat * 3 + 2, none⟩ = false := hfr10 2; clear hcl10 hcc10 hfr10 hM10; replace p10 := eq_true p10; replace q10 := eq_true q10; have n_ := Za.mk (Kd.S_mono (ok' := (fun k_ => some k_ ≠ ((.slice Av179 t178.length cv179) : Value).ownBlock)) HO_3.out (fun k_ hk => hk.2)); clear HO_3; have HO_3 := n_; clear n_; have HX12 := Za.mk (show Kd.S k35 35 w11 w.heap.size (fun k_ => ((fun _ => True)) k_ ∧ ¬ ((fun k_ => some k_ = ((.slice Av179 t178.length cv179) : Value).ownBlock)) k_) (.slice (some ⟨go10, 0, none⟩) x3_1.length co10) x3_1 from (by (with_reducible repeat (first | apply Kd.S_alloc | apply Kd.S_drewN | apply Kd.S_drew)); exact Kd.S_mono HO_3.out (fun k_ hk => ⟨trivial, fun e_ => hk e_⟩))); obtain ⟨oki12, ce12, hcl12, hM12, hcc12, hfr12, hoki12, hH12⟩ := Kd.S_elem HX12.out z35 (x4_1 : Int) (of_decide_eq_true (by assumption)) (by have h_ : (x4_1 : Int) < ((x3_1.length : Int) : Int) := of_decide_eq_true (by assumption); first | exact h_ | (have e_ := (Kd.Zar HO_3.out).1; omega) | simpa using h_); obtain ⟨ve12_2, rfl, ge12_2⟩ := k35_openM hM12; have HP12 := Kd.S_seg hH12 (of_decide_eq_true (by assumption)) (by have h_ : (x4_1 : Int) < ((x3_1.length : Int) : Int) := of_decide_eq_true (by assumption); first | exact h_ | (have e_ := (Kd.Zar HO_3.out).1; omega) | simpa using h_) (seg := [.int .u32 t176, .int .u32 t177, (.slice Av179 t178.length cv179)]) (j := 0) (show 3 ≤ 3 from by decide) (x' := (⟨t176, t177, t178⟩ : S35)) (k35_mkM _ _ _ (⟨t176, t177, t178⟩ : S35) (Kd.R_mono (Kd.R_tight rfl (Kd.R_mono (ok' := fun k_ => ((fun _ => True)) k_ ∧ k_ ≠ go10) (Kd.R_apart' (HO180.out) (Kd.S_typed HO_3.out) (by decide)) (fun k_ hk => ⟨trivial, fun e_ => (hk.2) (by rw [e_]; rfl)⟩))) (fun _ h_ => Or.inr (h_)))) (fun _ hk => hk) (fun k_ hk_ => ((Kd.R_mono (ok' := fun k_ => ((fun _ => True)) k_ ∧ k_ ≠ go10) (Kd.R_apart' (HO180.out) (Kd.S_typed HO_3.out) (by decide)) (fun k_ hk => ⟨trivial, fun e_ => (hk.2) (by rw [e_]; rfl)⟩))).1 k_ hk_.symm); have hx12_0 := hcc12 0 _ rfl; (try simp only [show (k35).sz = 3 from rfl, Nat.mul_one, Nat.add_zero] at hx12_0); have hf12_0 := hfr12 0; (try simp only [show (k35).sz = 3 from rfl, Nat.mul_one, Nat.add_zero] at hf12_0); have hx12_1 := hcc12 1 _ rfl; (try simp only [show (k35).sz = 3 from rfl, Nat.mul_one, Nat.add_zero] at hx12_1); have hf12_1 := hfr12 1; (try simp only [show (k35).sz = 3 from rfl, Nat.mul_one, Nat.add_zero] at hf12_1); have hx12_2 := hcc12 2 _ rfl; (try simp only [show (k35).sz = 3 from rfl, Nat.mul_one, Nat.add_zero] at hx12_2); have hf12_2 := hfr12 2; (try simp only [show (k35).sz = 3 from rfl, Nat.mul_one, Nat.add_zero] at hf12_2); clear hcl12 hcc12 hfr12 hM12 hoki12 hH12) | ((with_reducible refine gate_store (t := 35) (p := 21) rfl ?_); refine store_event (t := 35) (p := 21) (v := ?vo_w13) (w1 := (((w11.setCell ⟨go10, (x4_1 : Int).toNat * 3, none⟩ (.int .u32 t176)).setCell ⟨go10, (x4_1 : Int).toNat * 3 + 1, none⟩ (.int .u32 t177)).setCell ⟨go10, (x4_1 : Int).toNat * 3 + 2, none⟩ ((.slice Av179 t178.length cv179)))) ?hg ?ho ?hn ?hr ?_; (case ho => rfl); (case hg => rfl); (case hn => rfl); (case hr => first | (go_simp; done) | (go_simp; rfl)); intro w13 hw; have hg : w11.grownBy w13 (some go10) := (by rw [hw]; exact HP12.2); have hp_ : Kd.S k35 35 w13 w.heap.size (fun _ => True) (.slice (some ⟨go10, 0, none⟩) x3_1.length co10) y181 := (by rw [hw, Ny181.out]; exact HP12.1); clear HP12; have n0_ := Za.mk (hp_); have n1_ := Za.mk ((by rw [hw]; exact Zj (Zj (Zj (HB.out) GB10.out) GB10.out) GB10.out : Below w.heap.size w w13)); clear HO_3; clear HB; clear HO180; have HO_3 := n0_; have HB := n1_; clear n0_ n1_; clear hg hw hp_))
        go_roundg k1
        case measure => have := HK1.out; omega
        case rel => exact ⟨(y181), (wrap64 (x4_1 + 1)), (by first | rfl | (simp; done) | (simp [*]; done)), H', ⟨by have := HK1.out; omega⟩, ⟨by (with_reducible repeat (first | apply Kd.S_alloc | apply Kd.S_drewN | apply Kd.S_drew)); exact HO_3.out⟩, ⟨by repeat (first | (with_reducible first | exact HB.out | apply Zd | apply Zf | apply Ze) | exact HB.out)⟩⟩
       ·rw [if_neg c9] at H
        exact absurd H (by simp)
      ·rw [if_neg c7] at H
       exact absurd H (by simp)
     ·rw [if_neg c6] at H
      have c6b0 : decide (x4_1 < (l0.length : Int)) = false := decide_eq_false c6
      clear c6
      obtain rfl := Option.some.inj H
      go_wp2
      go_ret
      exact ⟨_, by first | rfl | (simp [Zy, Zz] <;> rfl) | (simp [*, Zy, Zz] <;> rfl), by (with_reducible repeat (first | apply Kd.S_alloc | apply Kd.S_drewN | apply Kd.S_drew)); exact HO_3.out, by repeat (first | (with_reducible first | exact HB.out | apply Zd | apply Zf | apply Ze) | exact HB.out)⟩
  ·rw [if_neg c3] at H
   exact absurd H (by simp)
 ·rw [if_neg c2] at H
  exact absurd H (by simp)
theorem C_none {α : Type} {d : Kd α} {w : World} {n : Nat} {xs : List α} (h : d.C w none n xs) : xs = [] := by
  obtain ⟨hl, _, hn⟩ := h
  rcases Nat.eq_zero_or_pos n with h0 | hp
  · exact List.eq_nil_of_length_eq_zero (hl.trans h0)
  · obtain ⟨ad, he, _⟩ := hn hp
    cases he
set_option maxHeartbeats 4000000 in
theorem cloneCall.does (A : Option Addr) (c : Nat) (xs : List (S35)) (w : World) (hr : Kd.C k35 w A xs.length xs) (hc : xs.length ≤ c) (hl : xs.length ≤ 4398046511104) :
    Calls Try.prog 23 #[.slice A xs.length c] w fun e w' => ∃ v rows, e = .returned v ∧ (Kd.raw 3).R 35 w' w.heap.size (fun _ => True) v rows ∧ rows.length = xs.length ∧ (∀ (j : Nat) (x : S35) (cs : List Value), xs[j]? = some x → rows[j]? = some cs → k35.K w x cs) ∧ Below w.heap.size w w' := by
  have q22 : ∀ (w : World) (a : Option Addr) (n c n' c' : Nat), (binOp .eql 24 (.slice a n c) (.slice none n' c')).run Try.prog w = .ok (.bool a.isNone) w := fun w a n c n' c' => Lib.run_eql_slice_nil w _ _ a n c n' c' Try.underlying24
  cases A with
  | none =>
    obtain rfl := C_none hr
    clear hr hc hl
    go_enter Try.func23, Try.ntmps23
    go_wp2
    go_ret
    exact ⟨_, [], rfl, Kd.R_nil _ _ _ _ _, rfl, fun j x cs hx => by simp at hx, Below.refl _ _⟩
  | some ad =>
    obtain ⟨news, hnl, hnr, hnk⟩ := Kd.reads_raw hr (fun x c hk => ⟨k35.K_len hk, k35.K_one hk⟩)
    have HN := Za.mk hnr
    have HK := Za.mk hnk
    have HL := Za.mk hnl
    have HM := Za.mk hl
    clear hnr hnk hr hnl hl
    go_enter Try.func23, Try.ntmps23
    go_wp2_with (first | ((with_reducible refine Zab (N := 5) rfl ?_); refine Kd.R_lit (Kd.raw 3) w.heap.size 35 ?hg (N := 5) ?hd (xs := ([] : List (List Value))) (inner := []) (ok := fun _ => True) (okp := fun _ => False) ?hr ?hp (fun _ hk => hk.elim) trivial (Below.refl _ _) (Nat.le_refl _) (by simp) ?_; (case hd => rfl); (case hg => rfl); (case hr => first | (go_simp; done) | (go_simp; rfl)); (case hp => exact Reps.none _ _); intro v0 w1 ho hb hg_ hnew_; clear hg_ hnew_; have HO := Za.mk ho; have HB := Za.mk hb; clear ho hb) | ((with_reducible refine gate_builtin (b := .append) (xs := #[.tmp 5, .tmp 6]) rfl ?_); at_builtin; refine Kd.R_append_rows (Kd.raw 3) w.heap.size rfl (.tmp 5) (.tmp 6) 24 35 (.agg #[(.int .u32 0), (.int .u32 0), (.slice none 0 0)]) 32 rfl Try.underlying24 info35 rfl (by decide) (by omega) v0 [] news (some ad) xs.length c (fun _ => True) (fun _ => False) rfl rfl HO.out ?aR (fun _ _ h => h) (fun _ h => h.elim) (fun _ _ => trivial) HB.out ?aS ?aL ?_; (case aR => exact Kd.Zah (d := Kd.raw 3) HN.out HB.out); (case aS => exact Zr HB.out); (case aL => have := HM.out; simp only [List.length_nil]; omega); intro v1 w2 ho hb hg hat; have HO2 := Za.mk ho; have HB2 := Za.mk hb; clear ho hb hg hat))
    go_ret
    exact ⟨_, news, rfl, HO2.out, HL.out, HK.out, HB2.out⟩
set_option maxHeartbeats 4000000 in
theorem cloneU64.does (A : Option Addr) (c : Nat) (xs : List Int) (w : World) (hr : Kd.C (Kd.int .u64) w A xs.length xs) (hc : xs.length ≤ c) (hl : xs.length ≤ 17592186044416) :
    Calls Try.prog 30 #[.slice A xs.length c] w fun e w' => ∃ v, e = .returned v ∧ (Kd.int .u64).R 42 w' w.heap.size (fun _ => True) v xs ∧ Below w.heap.size w w' := by
  have q22 : ∀ (w : World) (a : Option Addr) (n c n' c' : Nat), (binOp .eql 32 (.slice a n c) (.slice none n' c')).run Try.prog w = .ok (.bool a.isNone) w := fun w a n c n' c' => Lib.run_eql_slice_nil w _ _ a n c n' c' Try.underlying32
  cases A with
  | none =>
    obtain rfl := C_none hr
    clear hr hc hl
    go_enter Try.func30, Try.ntmps30
    go_wp2
    go_ret
    exact ⟨_, rfl, Kd.R_nil _ _ _ _ _, Below.refl _ _⟩
  | some ad =>
    have HN := Za.mk hr
    have HM := Za.mk hl
    clear hr hl
    go_enter Try.func30, Try.ntmps30
    go_wp2_with (first | ((with_reducible refine Zab (N := 5) rfl ?_); refine Kd.R_lit (Kd.int .u64) w.heap.size 42 ?hg (N := 5) ?hd (xs := ([] : List Int)) (inner := []) (ok := fun _ => True) (okp := fun _ => False) ?hr ?hp (fun _ hk => hk.elim) trivial (Below.refl _ _) (Nat.le_refl _) (by simp) ?_; (case hd => rfl); (case hg => rfl); (case hr => first | (go_simp; done) | (go_simp; rfl)); (case hp => exact Reps.none _ _); intro v0 w1 ho hb hg_ hnew_; clear hg_ hnew_; have HO := Za.mk ho; have HB := Za.mk hb; clear ho hb) | ((with_reducible refine gate_builtin (b := .append) (xs := #[.tmp 5, .tmp 6]) rfl ?_); at_builtin; refine Kd.R_append_rows (Kd.int .u64) w.heap.size rfl (.tmp 5) (.tmp 6) 32 42 (.int .u64 0) 8 rfl Try.underlying32 info42 rfl (by decide) (by omega) v0 [] xs (some ad) xs.length c (fun _ => True) (fun _ => False) rfl rfl HO.out ?aR (fun _ _ h => h) (fun _ h => h.elim) (fun _ _ => trivial) HB.out ?aS ?aL ?_; (case aR => exact Kd.Zah HN.out HB.out); (case aS => exact Zr HB.out); (case aL => have := HM.out; simp only [List.length_nil]; omega); intro v1 w2 ho hb hg hat; have HO2 := Za.mk ho; have HB2 := Za.mk hb; clear ho hb hg hat))
    go_ret
    exact ⟨_, rfl, HO2.out, HB2.out⟩
open Go.Shelf
def sortCall_ren : Go.Shelf.Ren := ⟨fun | 6 => 24 | 15 => 33 | 14 => 32 | 28 => 44 | 29 => 45 | 20 => 36 | 21 => 37 | 22 => 38 | 23 => 39 | 24 => 40 | 25 => 41 | 26 => 42 | 27 => 43 | 46 => 47 | 47 => 48 | 48 => 49 | 49 => 50 | 50 => 51 | 57 => 52 | n => n, fun | 22 => 24 | 24 => 35 | 25 => 37 | 3 => 3 | 39 => 52 | 0 => 0 | 53 => 31 | 55 => 42 | 4 => 4 | 46 => 58 | 45 => 57 | 50 => 62 | 5 => 5 | 9 => 9 | 66 => 67 | 70 => 71 | 76 => 73 | 77 => 74 | n => n, fun | n => n⟩
theorem sortCall : Go.Proofs.SlLaysF0.n6 Try.prog sortCall_ren := {
  mixed := by kernel_rfl
  f6 := ⟨Try.f24.name, by decide, Try.func24.trans (congrArg some (by kernel_rfl))⟩
  f14 := ⟨Try.f32.name, by decide, Try.func32.trans (congrArg some (by kernel_rfl))⟩
  f15 := Try.func33.trans (congrArg some (by kernel_rfl))
  f20 := ⟨Try.f36.name, by decide, Try.func36.trans (congrArg some (by kernel_rfl))⟩
  f21 := ⟨Try.f37.name, by decide, Try.func37.trans (congrArg some (by kernel_rfl))⟩
  f22 := ⟨Try.f38.name, by decide, Try.func38.trans (congrArg some (by kernel_rfl))⟩
  f23 := ⟨Try.f39.name, by decide, Try.func39.trans (congrArg some (by kernel_rfl))⟩
  f24 := ⟨Try.f40.name, by decide, Try.func40.trans (congrArg some (by kernel_rfl))⟩
  f25 := ⟨Try.f41.name, by decide, Try.func41.trans (congrArg some (by kernel_rfl))⟩
  f26 := ⟨Try.f42.name, by decide, Try.func42.trans (congrArg some (by kernel_rfl))⟩
  f27 := ⟨Try.f43.name, by decide, Try.func43.trans (congrArg some (by kernel_rfl))⟩
  f28 := Try.func44.trans (congrArg some (by kernel_rfl))
  f29 := Try.func45.trans (congrArg some (by kernel_rfl))
  f46 := ⟨Try.f47.name, by decide, Try.func47.trans (congrArg some (by kernel_rfl))⟩
  f47 := Try.func48.trans (congrArg some (by kernel_rfl))
  f48 := Try.func49.trans (congrArg some (by kernel_rfl))
  f49 := ⟨Try.f50.name, by decide, Try.func50.trans (congrArg some (by kernel_rfl))⟩
  f50 := ⟨Try.f51.name, by decide, Try.func51.trans (congrArg some (by kernel_rfl))⟩
  f57 := ⟨Try.f52.name, by decide, Try.func52.trans (congrArg some (by kernel_rfl))⟩
  t0 := Try.underlying0
  a0 := Try.isAgg0
  z0 := Try.sizeOf0
  v0 := Try.zeroValue0
  t3 := Try.underlying3
  a3 := Try.isAgg3
  z3 := Try.sizeOf3
  v3 := Try.zeroValue3
  t4 := Try.underlying4
  a4 := Try.isAgg4
  z4 := Try.sizeOf4
  v4 := Try.zeroValue4
  t5 := Try.underlying5
  a5 := Try.isAgg5
  z5 := Try.sizeOf5
  v5 := Try.zeroValue5
  t9 := Try.underlying9
  a9 := Try.isAgg9
  z9 := Try.sizeOf9
  v9 := Try.zeroValue9
  t22 := Try.underlying24
  a22 := Try.isAgg24
  z22 := Try.sizeOf24
  v22 := Try.zeroValue24
  t25 := Try.underlying37
  a25 := Try.isAgg37
  z25 := Try.sizeOf37
  v25 := Try.zeroValue37
  t39 := Try.underlying52
  a39 := Try.isAgg52
  z39 := Try.sizeOf52
  v39 := Try.zeroValue52
  t45 := Try.underlying57
  a45 := Try.isAgg57
  z45 := Try.sizeOf57
  v45 := Try.zeroValue57
  t46 := Try.underlying58
  a46 := Try.isAgg58
  z46 := Try.sizeOf58
  v46 := Try.zeroValue58
  t50 := Try.underlying62
  a50 := Try.isAgg62
  z50 := Try.sizeOf62
  v50 := Try.zeroValue62
  t53 := Try.underlying31
  a53 := Try.isAgg31
  z53 := Try.sizeOf31
  v53 := Try.zeroValue31
  t55 := Try.underlying42
  a55 := Try.isAgg42
  z55 := Try.sizeOf42
  v55 := Try.zeroValue42
  t66 := Try.underlying67
  a66 := Try.isAgg67
  z66 := Try.sizeOf67
  v66 := Try.zeroValue67
  t70 := Try.underlying71
  a70 := Try.isAgg71
  z70 := Try.sizeOf71
  v70 := Try.zeroValue71
  t76 := Try.underlying73
  a76 := Try.isAgg73
  z76 := Try.sizeOf73
  v76 := Try.zeroValue73
  t77 := Try.underlying74
  a77 := Try.isAgg74
  z77 := Try.sizeOf74
  v77 := Try.zeroValue74 }
theorem grew_of {W w' : World} (hb : Below W.heap.size W w') (hd : W.drawn ≤ w'.drawn) : ∃ q os, w' = Go.Sort.grow (W.drewN q) os := by
  refine ⟨w'.drawn - W.drawn, w'.heap.extract W.heap.size w'.heap.size, ?_⟩
  have hh : w'.heap = W.heap ++ w'.heap.extract W.heap.size w'.heap.size := by
    apply Array.ext_getElem?
    intro k
    rw [Array.getElem?_append]
    split
    · rename_i h
      exact hb.block k h
    · rename_i h
      rw [Array.getElem?_extract]
      have hs := hb.size
      by_cases hk : k < w'.heap.size
      · rw [if_pos (by omega), show W.heap.size + (k - W.heap.size) = k by omega]
      · rw [if_neg (by omega), Array.getElem?_eq_none (by omega)]
  have h1 := hb.os
  have h2 := hb.tape
  have h3 := hb.output
  cases w' with
  | mk heap tape drawn os output =>
    cases W with
    | mk heap0 tape0 drawn0 os0 output0 =>
      dsimp only at *
      subst h1 h2 h3
      unfold Go.Sort.grow World.drewN
      dsimp only
      congr 1
      omega
def zrow : List Value := [.int .u32 0, .int .u32 0, .slice none 0 0]
def rowAt (rows : List (List Value)) (i : Nat) : List Value := rows.getD i zrow
def Zs (l : List (S35)) (i : Nat) : S35 := l.getD i z35
def CallCells (w : World) (x : S35) (cs : List Value) : Prop := ∃ A c, cs = [.int .u32 x.f0, .int .u32 x.f1, .slice A x.f2.length c] ∧ x.f2.length ≤ c ∧ Kd.C (Kd.int .u64) w A x.f2.length x.f2
theorem callCells_of {w : World} {x : S35} {cs : List Value} (h : k35.K w x cs) : CallCells w x cs := by
  obtain ⟨_, _, rfl, rfl, _, _, rfl, rfl, A, c, rfl, hl, hr⟩ := h
  exact ⟨A, c, rfl, hl, hr⟩
theorem callCells_below {w w1 : World} {x : S35} {cs : List Value} (h : CallCells w x cs) (hb : Below w.heap.size w w1) : CallCells w1 x cs := by
  obtain ⟨A, c, rfl, hl, hr⟩ := h
  exact ⟨A, c, rfl, hl, Kd.Zah hr hb⟩
theorem callCells_zero (w : World) : CallCells w z35 zrow := ⟨none, 0, rfl, Nat.le_refl _, ⟨rfl, by decide, fun h => absurd h (by decide)⟩⟩
theorem callCells_len {w : World} {x : S35} {cs : List Value} (h : CallCells w x cs) : cs.length = 3 ∧ ∀ u ∈ cs, u.oneCell' = true := by
  obtain ⟨A, c, rfl, _, _⟩ := h
  exact ⟨rfl, fun u hu => by simp at hu; rcases hu with rfl | rfl | rfl <;> rfl⟩
def RowsOf (w : World) (l : List (S35)) (rows : List (List Value)) : Prop := ∀ i, CallCells w (Zs l i) (rowAt rows i)
theorem rowsOf_mk {w : World} {l : List (S35)} {rows : List (List Value)} (hl : rows.length = l.length) (hK : ∀ (j : Nat) (x : S35) (cs : List Value), l[j]? = some x → rows[j]? = some cs → k35.K w x cs) : RowsOf w l rows := fun i => by
  unfold Zs rowAt
  by_cases h : i < l.length
  · have h2 : i < rows.length := by omega
    rw [List.getD_eq_getElem?_getD, List.getD_eq_getElem?_getD, List.getElem?_eq_getElem h, List.getElem?_eq_getElem h2]
    exact callCells_of (hK i _ _ (List.getElem?_eq_getElem h) (List.getElem?_eq_getElem h2))
  · rw [List.getD_eq_getElem?_getD, List.getD_eq_getElem?_getD, List.getElem?_eq_none (by omega), List.getElem?_eq_none (by omega)]
    exact callCells_zero w
theorem sortWorld_block {α : Type} [Inhabited α] (enc : α → List Value) (k : Nat) (w : World) (blk off m : Nat) (d : Array α) (os : Array Obj) (j : Nat) (hj : j < w.heap.size) (hne : j ≠ blk) : (sortWorldK enc k w blk off m d os).heap[j]? = w.heap[j]? := by
  show ((w.heap.modify blk _) ++ os)[j]? = _
  rw [Array.getElem?_append, if_pos (by rw [Array.size_modify]; exact hj), Array.getElem?_modify, if_neg (Ne.symm hne)]
theorem sortWorld_below {α : Type} [Inhabited α] (enc : α → List Value) (k : Nat) {w0 w : World} (hb : Below w0.heap.size w0 w) (blk off m : Nat) (d : Array α) (os : Array Obj) (hblk : w0.heap.size ≤ blk) : Below w0.heap.size w0 (sortWorldK enc k w blk off m d os) := by
  refine ⟨hb.os, hb.tape, hb.output, ?_, fun j hj => ?_⟩
  · show w0.heap.size ≤ ((w.heap.modify blk _) ++ os).size
    rw [Array.size_append, Array.size_modify]
    have := hb.size
    omega
  · rw [sortWorld_block _ _ _ _ _ _ _ _ _ (Nat.lt_of_lt_of_le hj hb.size) (by omega)]
    exact hb.block j hj
theorem sortWorld_at {α : Type} [Inhabited α] (enc : α → List Value) (k : Nat) (w : World) (blk off m : Nat) (d : Array α) (os : Array Obj) {cur : Array Value} {e : TypeId} {fr : Nat × Nat} (h : w.heap[blk]? = some (.cells cur e fr)) : (sortWorldK enc k w blk off m d os).heap[blk]? = some (.cells (Go.Sort.putCells id off (Go.Sort.flatK enc k d) cur) e fr) := by
  show ((w.heap.modify blk _) ++ os)[blk]? = _
  have hlt : blk < w.heap.size := (Array.getElem?_eq_some_iff.1 h).1
  rw [Array.getElem?_append, if_pos (by rw [Array.size_modify]; exact hlt), Array.getElem?_modify, if_pos rfl, h]
  rfl
theorem cmpLays_calls {w0 w1 : World} {l : List (S35)} {rows : List (List Value)} (hB : Below w0.heap.size w0 w1) (hK : RowsOf w0 l rows) {cf : Nat → Nat → Int}
    (hcf : ∀ i j, ∃ k, Zau.f k (Zs l i).f0 (Zs l i).f1 (Zs l i).f2 (Zs l j).f0 (Zs l j).f1 (Zs l j).f2 = some (cf i j)) (blk n : Nat) (hblk : w0.heap.size ≤ blk) : CmpLays Try.prog 16 #[] (rowAt rows) 3 cf blk 0 n w1 := by
  intro m os dk hs x y
  have hW := sortWorld_below (rowAt rows) 3 hB blk 0 m dk os hblk
  obtain ⟨A1, c1, e1, h1, r1⟩ := callCells_below (hK x) hW
  obtain ⟨A2, c2, e2, h2, r2⟩ := callCells_below (hK y) hW
  obtain ⟨k, hk⟩ := hcf x y
  rw [e1, e2]
  exact (Zau.grew k _ _ A1 c1 _ _ _ A2 c2 _ _ _ r1 h1 r2 h2 hk).mono fun e w' ⟨he, hb, hd⟩ => ⟨he, grew_of hb hd⟩
theorem holds_rows {w : World} {base g n cap : Nat} {rows : List (List Value)} (hR : (Kd.raw 3).R 35 w base (fun _ => True) (.slice (some ⟨g, 0, none⟩) n cap) rows) (hl : rows.length = n) : Go.Sort.HoldsK (rowAt rows) 3 w g 0 (Array.range n) := by
  intro t ht
  rw [Go.Sort.size_flatK, Array.size_range] at ht
  have hi : t / 3 < n := by omega
  obtain ⟨c, hcl, hM, hcc, hfr⟩ := Kd.R_elem hR zrow ((t / 3 : Nat) : Int) (by omega) (by omega)
  rw [Int.toNat_natCast] at hM hcc hfr
  have h3 : (Kd.raw 3).sz = 3 := rfl
  rw [h3] at hcl hcc hfr
  obtain ⟨he, _⟩ := hM
  rw [Nat.zero_add, Go.Sort.get_flatK _ _ _ t (by rw [Array.size_range]; exact ht)]
  have hr : (Array.range n)[t / 3]! = t / 3 := by rw [getElem!_pos _ _ (by rw [Array.size_range]; exact hi), Array.getElem_range]
  have hc : rowAt rows (t / 3) = c := by unfold rowAt; exact he.symm
  have ht3 : t % 3 < c.length := by omega
  have e : t / 3 * 3 + t % 3 = t := by omega
  rw [hr, hc, id, getElem!_pos c (t % 3) ht3]
  have h1 := hcc (t % 3) _ (List.getElem?_eq_getElem ht3)
  have h2 := hfr (t % 3)
  rw [e] at h1 h2
  exact ⟨h1, h2⟩
theorem putCells_size (off : Nat) (F cur : Array Value) : (Go.Sort.putCells id off F cur).size = cur.size := by unfold Go.Sort.putCells; rw [Array.size_mapIdx]
theorem putCells_take (F cur : Array Value) (h : F.size ≤ cur.size) : (Go.Sort.putCells id 0 F cur).toList.take F.size = F.toList := by
  apply List.ext_getElem?
  intro j
  rw [List.getElem?_take]
  split
  · rename_i hj
    rw [Array.getElem?_toList, Array.getElem?_toList]
    unfold Go.Sort.putCells
    rw [Array.getElem?_mapIdx, Array.getElem?_eq_getElem (show j < cur.size by omega), Array.getElem?_eq_getElem hj, Option.map_some, if_pos (by omega), Nat.sub_zero, getElem!_pos F j hj]
    rfl
  · rename_i hj
    rw [Array.getElem?_toList, Array.getElem?_eq_none (by omega)]
theorem sorted_row {w : World} {base g n cap m : Nat} {rows : List (List Value)} {d : Array Nat} {os : Array Obj} (hR : (Kd.raw 3).R 35 w base (fun _ => True) (.slice (some ⟨g, 0, none⟩) n cap) rows) (hl : rows.length = n) (hd : d.size = n) (hrow : ∀ i, (rowAt rows i).length = 3 ∧ ∀ u ∈ rowAt rows i, u.oneCell' = true) :
    (Kd.raw 3).R 35 (sortWorldK (rowAt rows) 3 w g 0 m d os) base (fun _ => True) (.slice (some ⟨g, 0, none⟩) n cap) (d.toList.map (rowAt rows)) := by
  obtain ⟨_, inner, ⟨hil, ho⟩, hr⟩ := hR
  have hlen : (d.toList.map (rowAt rows)).length = n := by rw [List.length_map, Array.length_toList, hd]
  have hF : (Go.Sort.flatK (rowAt rows) 3 d).size = n * 3 := by rw [Go.Sort.size_flatK, hd]
  refine ⟨fun _ _ => trivial, (Go.Sort.flatK (rowAt rows) 3 d).toList, ⟨by rw [Array.length_toList, hF, hlen]; rfl, ?_⟩, by rw [Array.length_toList, hF, hlen]; rfl, fun j r hj => ?_⟩
  · rcases ho with ⟨h1, h2⟩ | ⟨g', cap', cur, h1, hbg, hh, hnc, hcm, hcs, hct⟩
    · cases h1
    · injection h1 with h1 h2 h3
      injection h1 with h1
      injection h1 with h1
      subst h1 h3
      right
      rw [hlen]
      rw [hl] at hnc
      have h3 : (Kd.raw 3).sz = 3 := rfl
      rw [h3] at hcs ⊢
      refine ⟨g, cap, _, rfl, hbg, sortWorld_at _ _ _ _ _ _ _ _ hh, hnc, hcm, by rw [putCells_size]; exact hcs, ?_⟩
      rw [← hF]
      exact putCells_take _ _ (by rw [hF, hcs]; exact Nat.mul_le_mul_right 3 hnc)
  · obtain ⟨hjl, hje⟩ := List.getElem?_eq_some_iff.1 hj
    rw [List.length_map, Array.length_toList] at hjl
    rw [List.getElem_map, Array.getElem_toList] at hje
    obtain ⟨q1, q2⟩ := hrow d[j]
    have key : ((Go.Sort.flatK (rowAt rows) 3 d).toList.drop (j * 3)).take 3 = r := by
      rw [← hje]
      apply List.ext_getElem?
      intro c
      rw [List.getElem?_take]
      split
      · rename_i hc
        rw [List.getElem?_drop, Array.getElem?_toList]
        have hlt : j * 3 + c < d.size * 3 := by omega
        rw [Array.getElem?_eq_getElem (by rw [Go.Sort.size_flatK]; exact hlt), ← getElem!_pos _ _ (by rw [Go.Sort.size_flatK]; exact hlt), Go.Sort.get_flatK _ _ _ _ hlt, show (j * 3 + c) / 3 = j by omega, show (j * 3 + c) % 3 = c by omega, getElem!_pos d j hjl, getElem!_pos _ c (by rw [q1]; exact hc), List.getElem?_eq_getElem]
      · rename_i hc
        rw [List.getElem?_eq_none (by omega)]
    exact ⟨key, (congrArg List.length key).trans ((congrArg List.length hje.symm).trans q1), fun u hu => q2 u (by rw [hje, ← key]; exact hu)⟩
theorem sortCall.pos {w0 w1 : World} {l : List (S35)} {rows : List (List Value)} {g cap : Nat} (hB : Below w0.heap.size w0 w1) (hR : (Kd.raw 3).R 35 w1 w0.heap.size (fun _ => True) (.slice (some ⟨g, 0, none⟩) l.length cap) rows) (hl : rows.length = l.length) (hK : RowsOf w0 l rows) {cf : Nat → Nat → Int}
    (hcf : ∀ i j, ∃ k, Zau.f k (Zs l i).f0 (Zs l i).f1 (Zs l i).f2 (Zs l j).f0 (Zs l j).f1 (Zs l j).f2 = some (cf i j)) (hO : Go.Sort.SWO (ltOf cf)) (hn : l.length < 4611686018427387904) (gb : w0.heap.size ≤ g) (glt : g < w1.heap.size) :
    Calls Try.prog 24 #[.slice (some ⟨g, 0, none⟩) l.length cap, .func (.func 16) #[] #[]] w1 fun e w' => e = .returned (.tuple #[]) ∧ ∃ (d' : Array Nat) (m : Nat) (os : Array Obj), d'.size = l.length ∧ d'.toList.Perm (List.range l.length) ∧ d'.toList.Pairwise (fun i j => ltOf cf j i = false) ∧ w' = sortWorldK (rowAt rows) 3 w1 g 0 m d' os := by
  have eg : ∀ args w, (callFunc 16 args).run Try.prog w = .ok (.enter 16 args) w := enters_of Try.func16 (by kernel_rfl) rfl
  have hrow : ∀ i, (rowAt rows i).length = 3 ∧ ∀ u ∈ rowAt rows i, u.oneCell' = true := fun i => callCells_len (hK i)
  have hsz : (Array.range l.length).size = l.length := Array.size_range
  have hcon := AnyQ.slices_SortFunc sortCall 3 Try.isAgg35 Try.sizeOf35 (rowAt rows) (fun i => (hrow i).1) (fun i => (hrow i).2) cf hO 16 #[] g 0 cap (Array.range l.length) w1 eg (cmpLays_calls hB hK hcf g _ gb) (holds_rows hR hl) glt (by rw [hsz]; exact hn)
  rw [hsz] at hcon
  refine hcon.mono ?_
  rintro e w' ⟨rfl, d', m, os, ⟨hds, _, hperm⟩, hsrt, rfl⟩
  rw [hsz] at hds
  rw [Array.extract_eq_self_of_le (by omega), Array.extract_eq_self_of_le (by rw [hsz]; exact Nat.le_refl _), Array.toList_range] at hperm
  refine ⟨rfl, d', m, os, hds, hperm, ?_, rfl⟩
  rw [List.pairwise_iff_getElem]
  intro i j hi hj hij
  rw [Array.length_toList] at hi hj
  have := hsrt i j (Nat.zero_le _) hij (by omega)
  rw [getElem!_pos d' i hi, getElem!_pos d' j hj] at this
  rw [Array.getElem_toList, Array.getElem_toList]
  exact this

end Go.Proofs.Ytjpjfkmnfppgkaa.P
