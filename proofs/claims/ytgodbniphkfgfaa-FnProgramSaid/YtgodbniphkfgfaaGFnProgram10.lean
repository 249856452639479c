import Derived.Test.YtgodbniphkfgfaaGFnProgram4
import Derived.Test.YtgodbniphkfgfaaGFnProgram9
namespace Go.Proofs.Ytgodbniphkfgfaa.P
open Go.RowKit Go.Proofs.YtgodbniphkfgfaaW.PrintWords Go.Proofs.YtgodbniphkfgfaaW.PrintLast Go.Proofs.YtgodbniphkfgfaaW.PrintMore
attribute [local go_sem] max2_int min2_int max_two min_two max_three min_three max_four min_four
set_option linter.unusedVariables false
set_option linter.unusedSimpArgs false

def Zbz.l0 : Nat → List Int → Int → List Int → Int → Option (List Int × Int)
  | 0, _, _, _, _ => none
  | k + 1, x3, x4, x1000, x1001 => if x4 < 16 then ((Zcf.f x1000 x1001).bind fun bt509 => ((Zca.f k (IntKind.u64.wrap (bt509.1)) 4).bind fun t511 => (if x3.length + t511.length < 140737488355328 then (Zbz.l0 k (x3 ++ t511) (wrap64 (x4 + 1)) x1000 bt509.2) else (none)))) else (some (x3, x1001))
def Zbz.f (k : Nat) (s0_0 : List Int) (s0_1 : Int) : Option (List Int × Int) := Zbz.l0 k ([] : List Int) 0 s0_0 s0_1
set_option maxHeartbeats 8000000 in
set_option maxRecDepth 100000 in
theorem Zbz.calls (k : Nat) (g : Nat) (s0_0 : List Int) (s0_1 : Int) (r1 : List Int) (r2 : Int) (w0 w : World) (hI : Zc w0 w g s0_0 s0_1) (hB : Below w0.heap.size w0 w) (h : Zbz.f k s0_0 s0_1 = some (r1, r2)) :
  Calls Try.prog 42 #[.pointer (some ⟨g, 0, none⟩)] w fun e w' => ∃ v0_ : Value, e = .returned (v0_) ∧ Kd.R (Kd.int .u8) 5 w' w.heap.size (fun _ => True) v0_ r1 ∧ Zc w0 w' g s0_0 r2 ∧ Below w0.heap.size w0 w' ∧ Zm w w' g none := by
 have HI0 := Za.mk hI
 have HK := Za.mk (Zm.refl w g none)
 have HL := Za.mk hB.size
 clear hI
 have HW0 := Za.mk hB.size
 have HB := Za.mk hB
 clear hB
 have H : (Zbz.l0 k ([] : List Int) 0 s0_0 s0_1) = some (r1, r2) := h
 clear h
 have H' := Za.mk H
 clear H
 go_enter Try.func42, Try.ntmps42
 go_wp2
 go_loopg [3, 4] k (fun kq v3 v4 w' => ∃ (x3_1 : List Int) (x4_1 : Int) (x1001_1 : Int), v4 = .int .i64 x4_1 ∧ Za (Zbz.l0 kq x3_1 x4_1 s0_0 x1001_1 = some (r1, r2)) ∧ Za (kq ≤ k) ∧ Za (Kd.R (Kd.int .u8) 5 w' w.heap.size (fun _ => True) v3 x3_1) ∧ Za (Zc w0 w' g s0_0 x1001_1) ∧ Za (Zm w w' g none) ∧ Za (Below w0.heap.size w0 w'))
 case atStart => exact ⟨(([] : List Int)), (0), (s0_1), (by first | rfl | (simp; done) | (simp [*]; done)), H', ⟨Nat.le_refl _⟩, ⟨by first | exact Kd.R_nil _ _ _ _ _ | exact Kd.N_nil _ _ _ _ _ | exact Kd.V_nil _ _ _ _ _ | exact Kd.Q_nil _ _ _ _ _ | exact Kd.S_nil _ _ _ _ _⟩, ⟨by repeat (first | (with_reducible first | exact HI0.out | apply Zc.alloc | apply Zc.drewN | apply Zc.drew | apply Zc.Zv) | exact HI0.out)⟩, ⟨by repeat (first | (with_reducible first | exact HK.out | apply Zm.set_ | apply Zaa | apply Zac | apply Zab) | exact HK.out)⟩, ⟨by repeat (first | (with_reducible first | exact HB.out | apply Ze | apply Zf | apply Zd | refine Zk ?_ (Zc.ge HI0.out)) | exact HB.out)⟩⟩
 case round =>
  clear H'
  obtain ⟨x3_1, x4_1, x1001_1, rfl, HA, HK1, HO_3, HI0, HK, HB⟩ := hrel
  cases gk with
  | zero => exact absurd HA.out (by simp [Zbz.l0])
  | succ k1 =>
   have H := HA.out
   clear HA
   simp only [Zbz.l0] at H
   by_cases c2 : x4_1 < 16
   ·rw [if_pos c2] at H
    have c2b0 : decide (x4_1 < 16) = true := decide_eq_true c2
    clear c2
    replace H := Option.bind_eq_some_iff.mp H
    obtain ⟨⟨t509, t510⟩, A30, H⟩ := H
    (try dsimp only at H)
    have A3 := Za.mk A30
    clear A30
    replace H := Option.bind_eq_some_iff.mp H
    obtain ⟨t511, A40, H⟩ := H
    (try dsimp only at H)
    have A4 := Za.mk A40
    clear A40
    by_cases c5 : x3_1.length + t511.length < 140737488355328
    ·rw [if_pos c5] at H
     have LMc5 := Za.mk c5
     clear c5
     obtain ⟨y514, hy514⟩ : ∃ y_ : List Int, y_ = (x3_1 ++ t511) := ⟨_, rfl⟩
     replace H : (Zbz.l0 k1 y514 (wrap64 (x4_1 + 1)) s0_0 t510) = some (r1, r2) := by first | (rw [hy514]; with_reducible exact H) | (have H2_ := (Option.bind_some _ _).symm.trans H; rw [hy514]; with_reducible exact H2_) | (have H2_ := (Option.bind_some _ _).symm.trans H; with_reducible exact H2_) | with_reducible exact H | (rw [hy514]; exact H) | exact H
     have Ny514 := Za.mk hy514
     clear hy514
     have H' := Za.mk H
     clear H
     go_wp2_with (first | ((with_reducible refine Zaf (f := 57) rfl ?_); refine Zae (some 11) rfl rfl Try.func57 (by kernel_rfl) rfl #[.pointer (some ⟨g, 0, none⟩)] rfl (by (try simp only [ZA, ZB, ZC]); first | done | rfl) ?_; (with_reducible refine (Zcf.calls g s0_0 x1001_1 t509 t510 w0 _ ?side1 ?side2 A3.out).mono ?_); (case side1 => repeat (first | (with_reducible first | exact HI0.out | apply Zc.alloc | apply Zc.drewN | apply Zc.drew | apply Zc.Zv) | exact HI0.out)); (case side2 => repeat (first | (with_reducible first | exact HB.out | apply Ze | apply Zf | apply Zd | refine Zk ?_ (Zc.ge HI0.out)) | exact HB.out)); rintro e w6 ⟨rfl, hi, hb, hk⟩; refine ⟨_, rfl, ?_⟩; replace HO_3 := Za.mk (Kd.Zah (Kd.R_keep (Zc.apart (show Zc w0 _ g s0_0 x1001_1 from by repeat (first | (with_reducible first | exact HI0.out | apply Zc.alloc | apply Zc.drewN | apply Zc.drew | apply Zc.Zv) | exact HI0.out)) (by (with_reducible repeat (first | apply Kd.Zs | apply Kd.Zt | apply Kd.Zr)); exact HO_3.out) (by decide)) hk (fun _ h => h.2)) (fun _ h => h.1)); replace HK := Za.mk (Zm.trans (by repeat (first | (with_reducible first | exact HK.out | apply Zm.set_ | apply Zaa | apply Zac | apply Zab) | exact HK.out)) hk (.inl rfl)); replace HB := Za.mk (hb); replace HI0 := Za.mk (hi); (try clear hb); (try clear hb2); (try clear hk); (try clear hi)) | ((with_reducible refine Zaf (f := 56) rfl ?_); refine Zae (some 13) rfl rfl Try.func56 (by kernel_rfl) rfl #[.int .u64 (IntKind.u64.wrap (t509)), .int .i64 4] rfl (by (try simp only [ZA, ZB, ZC]); first | done | rfl) ?_; (with_reducible refine (Zca.calls k1 (IntKind.u64.wrap (t509)) 4 t511 _ A4.out).mono ?_); rintro e w7 ⟨v512, rfl, ho0, hb⟩; refine ⟨_, rfl, ?_⟩; have HO513 := Za.mk (Kd.Zbi (Kd.R_new' ho0 (Kd.R_lt (by (with_reducible repeat (first | apply Kd.Zs | apply Kd.Zt | apply Kd.Zr)); exact HO_3.out))) (Zbm (w := w) (g := g) (row := none) (by repeat (first | (with_reducible first | exact HK.out | apply Zm.set_ | apply Zaa | apply Zac | apply Zab) | exact HK.out)))); replace HO_3 := Za.mk (Kd.R_elder' (by (with_reducible repeat (first | apply Kd.Zs | apply Kd.Zt | apply Kd.Zr)); exact HO_3.out) (Kd.R_base ho0) hb); replace HK := Za.mk (Zm.trans (by repeat (first | (with_reducible first | exact HK.out | apply Zm.set_ | apply Zaa | apply Zac | apply Zab) | exact HK.out)) (Zm.of_below hb g none) (.inl rfl)); replace HB := Za.mk (Zai (by repeat (first | (with_reducible first | exact HB.out | apply Ze | apply Zf | apply Zd | refine Zk ?_ (Zc.ge HI0.out)) | exact HB.out)) hb); replace HI0 := Za.mk (Zc.below (by repeat (first | (with_reducible first | exact HI0.out | apply Zc.alloc | apply Zc.drewN | apply Zc.drew | apply Zc.Zv) | exact HI0.out)) hb); (try clear hb); (try clear hb2); (try clear hk); (try clear hi); (try clear ho0); obtain ⟨Ao9, co9, eo9⟩ := Kd.Zbf HO513.out; subst eo9) | ((with_reducible refine Zce (b := .append) (xs := #[.tmp 9, .tmp 13]) rfl ?_); at_builtin; refine Kd.R_append_rows (Kd.int .u8) w.heap.size rfl (.tmp 9) (.tmp 13) 22 5 (.int .u8 0) 1 rfl Try.underlying22 info5 rfl (by decide) (by omega) u3 x3_1 t511 _ _ _ (fun k_ => some k_ ≠ (.slice Ao9 t511.length co9 : Value).ownBlock) (fun _ => False) rfl rfl ?aO ?aR (fun _ _ h => h) (fun _ h => h.elim) ?aF (Below.refl _ _) ?aS ?aL ?_; (case aR => repeat (first | exact (Kd.Zag HO513.out).2.2 | (with_reducible refine Kd.Zam ?_ _) | (with_reducible refine Kd.Zao ?_ _) | (with_reducible refine Kd.Zan ?_))); (case aF => exact (fun k_ hk => Kd.fresh' (Kd.R_lt (by (with_reducible repeat (first | apply Kd.Zs | apply Kd.Zt | apply Kd.Zr)); exact HO513.out)) k_ hk)); (case aO => exact (by (with_reducible repeat (first | apply Kd.Zs | apply Kd.Zt | apply Kd.Zr)); exact Kd.Zah HO_3.out (fun _ hk => hk.2))); (case aS => exact (Zbm (w := w) (g := g) (row := none) (by repeat (first | (with_reducible first | exact HK.out | apply Zm.set_ | apply Zaa | apply Zac | apply Zab) | exact HK.out)))); (case aL => have := LMc5.out; omega); intro v515 w8 ho hb hg hat; rw [← Ny514.out] at ho; have n0_ := Za.mk (Zc.grown (by repeat (first | (with_reducible first | exact HI0.out | apply Zc.alloc | apply Zc.drewN | apply Zc.drew | apply Zc.Zv) | exact HI0.out)) hg (Zc.own_ne HI0.out HO_3.out (by decide))); have n1_ := Za.mk (Kd.R_after (ok := (fun _ => True)) (by (with_reducible repeat (first | apply Kd.Zs | apply Kd.Zt | apply Kd.Zr)); exact HO513.out) hg hat); have n2_ := Za.mk (below_weaken (by repeat (first | (with_reducible first | exact HB.out | apply Ze | apply Zf | apply Zd | refine Zk ?_ (Zc.ge HI0.out)) | exact HB.out)) HL.out hb); have n3_ := Za.mk (Zm.trans (by repeat (first | (with_reducible first | exact HK.out | apply Zm.set_ | apply Zaa | apply Zac | apply Zab) | exact HK.out)) (Zm.Zbn hg g) (Kd.R_base2 HO_3.out)); have n4_ := Za.mk (ho); clear HI0; clear HO513; clear HB; clear HK; clear HO_3; have HI0 := n0_; have HO513 := n1_; have HB := n2_; have HK := n3_; have HO516 := n4_; clear n0_ n1_ n2_ n3_ n4_; clear ho hb hg hat))
     go_roundg k1
     case measure => have := HK1.out; omega
     case rel => exact ⟨(y514), (wrap64 (x4_1 + 1)), (t510), (by first | rfl | (simp; done) | (simp [*]; done)), H', ⟨by have := HK1.out; omega⟩, ⟨by (with_reducible repeat (first | apply Kd.Zs | apply Kd.Zt | apply Kd.Zr)); exact Kd.Zah HO516.out (fun _ hk => trivial)⟩, ⟨by repeat (first | (with_reducible first | exact HI0.out | apply Zc.alloc | apply Zc.drewN | apply Zc.drew | apply Zc.Zv) | exact HI0.out)⟩, ⟨by repeat (first | (with_reducible first | exact HK.out | apply Zm.set_ | apply Zaa | apply Zac | apply Zab) | exact HK.out)⟩, ⟨by repeat (first | (with_reducible first | exact HB.out | apply Ze | apply Zf | apply Zd | refine Zk ?_ (Zc.ge HI0.out)) | exact HB.out)⟩⟩
    ·rw [if_neg c5] at H
     exact absurd H (by simp)
   ·rw [if_neg c2] at H
    have c2b0 : decide (x4_1 < 16) = false := decide_eq_false c2
    clear c2
    simp only [Option.some.injEq, Prod.mk.injEq] at H
    obtain ⟨rfl, rfl⟩ := H
    go_wp2
    go_ret
    exact ⟨_, by first | rfl | (simp [Zo, Zp] <;> rfl) | (simp [*, Zo, Zp] <;> rfl), by (with_reducible repeat (first | apply Kd.Zs | apply Kd.Zt | apply Kd.Zr)); exact HO_3.out, by repeat (first | (with_reducible first | exact HI0.out | apply Zc.alloc | apply Zc.drewN | apply Zc.drew | apply Zc.Zv) | exact HI0.out), by repeat (first | (with_reducible first | exact HB.out | apply Ze | apply Zf | apply Zd | refine Zk ?_ (Zc.ge HI0.out)) | exact HB.out), by repeat (first | (with_reducible first | exact HK.out | apply Zm.set_ | apply Zaa | apply Zac | apply Zab) | exact HK.out)⟩
def Zcb.l0 : Nat → Int → List (S54) → Int → Option ((List (S54)))
  | 0, _, _, _ => none
  | k + 1, x0, x3, x4 => if x4 < x0 then (if x3.length < 17592186044416 then (Zcb.l0 k x0 (x3 ++ [(⟨6, 0, 0, (x4) % 4294967296⟩ : S54)]) (wrap64 (x4 + 1))) else (none)) else (if x0 > 1 then (if 0 < (x3.length : Int) then (some (x3.set (0 : Int).toNat (⟨5, 0, 0, (wrap64 (x0 - 2)) % 4294967296⟩ : S54))) else (none)) else (some x3))
def Zcb.f (k : Nat) (a0 : Int) : Option ((List (S54))) := Zcb.l0 k a0 ([] : List (S54)) 0
set_option maxHeartbeats 8000000 in
set_option maxRecDepth 100000 in
theorem Zcb.calls (k : Nat) (a0 : Int) (r : List (S54)) (w : World) (h : Zcb.f k a0 = some r) :
  Calls Try.prog 58 #[.int .i64 a0] w fun e w' => ∃ v0_ : Value, e = .returned (v0_) ∧ Kd.R k54 54 w' w.heap.size (fun _ => True) v0_ r ∧ Below w.heap.size w w' := by
 have hu54 := Try.underlying54
 have HB := Za.mk (Below.refl w.heap.size w)
 have H : (Zcb.l0 k a0 ([] : List (S54)) 0) = some r := h
 clear h
 have H' := Za.mk H
 clear H
 go_enter Try.func58, Try.ntmps58
 go_wp2
 go_loopg [3, 4] k (fun kq v3 v4 w' => ∃ (x3_1 : List (S54)) (x4_1 : Int), v4 = .int .i64 x4_1 ∧ Za (Zcb.l0 kq a0 x3_1 x4_1 = some r) ∧ Za (kq ≤ k) ∧ Za (Kd.R k54 54 w' w.heap.size (fun _ => True) v3 x3_1) ∧ Za (Below w.heap.size w w'))
 case atStart => exact ⟨(([] : List (S54))), (0), (by first | rfl | (simp; done) | (simp [*]; done)), H', ⟨Nat.le_refl _⟩, ⟨by first | exact Kd.R_nil _ _ _ _ _ | exact Kd.N_nil _ _ _ _ _ | exact Kd.V_nil _ _ _ _ _ | exact Kd.Q_nil _ _ _ _ _ | exact Kd.S_nil _ _ _ _ _⟩, ⟨by repeat (first | (with_reducible first | exact HB.out | apply Ze | apply Zf | apply Zd) | exact HB.out)⟩⟩
 case round =>
  clear H'
  obtain ⟨x3_1, x4_1, rfl, HA, HK1, HO_3, HB⟩ := hrel
  cases gk with
  | zero => exact absurd HA.out (by simp [Zcb.l0])
  | succ k1 =>
   have H := HA.out
   clear HA
   simp only [Zcb.l0] at H
   by_cases c2 : x4_1 < a0
   ·rw [if_pos c2] at H
    have c2b0 : decide (x4_1 < a0) = true := decide_eq_true c2
    clear c2
    by_cases c3 : x3_1.length < 17592186044416
    ·rw [if_pos c3] at H
     have LMc3 := Za.mk c3
     clear c3
     obtain ⟨y517, hy517⟩ : ∃ y_ : List (S54), y_ = (x3_1 ++ [(⟨6, 0, 0, (x4_1) % 4294967296⟩ : S54)]) := ⟨_, rfl⟩
     replace H : (Zcb.l0 k1 a0 y517 (wrap64 (x4_1 + 1))) = some r := by first | (rw [hy517]; with_reducible exact H) | (have H2_ := (Option.bind_some _ _).symm.trans H; rw [hy517]; with_reducible exact H2_) | (have H2_ := (Option.bind_some _ _).symm.trans H; with_reducible exact H2_) | with_reducible exact H | (rw [hy517]; exact H) | exact H
     have Ny517 := Za.mk hy517
     clear hy517
     have H' := Za.mk H
     clear H
     go_wp2_with (first | ((with_reducible refine Zce (b := .append) (xs := #[.tmp 10, .tmp 14]) rfl ?_); at_builtin; refine Kd.R_append k54 (w0 := w) w.heap.size rfl (.tmp 10) (.tmp 14) 23 54 (.agg #[(.int .u16 0), (.int .u8 0), (.int .u8 0), (.int .u32 0)]) 8 rfl Try.underlying23 info54 rfl (by decide) (by omega) u3 x3_1 (⟨6, 0, 0, (x4_1) % 4294967296⟩ : S54) [.int .u16 6, .int .u8 0, .int .u8 0, .int .u32 ((x4_1) % 4294967296)] (fun _ => True) (fun _ => False) rfl rfl ?aP (fun _ hk => hk.elim) ?aF ?aO ?aB ?aS ?aL ?_; (case aP => exact k54_mkM _ _ _ (⟨6, 0, 0, (x4_1) % 4294967296⟩ : S54)); (case aB => exact (by repeat (first | (with_reducible first | exact HB.out | apply Ze | apply Zf | apply Zd) | exact HB.out))); (case aF => exact (fun _ _ => trivial)); (case aO => exact (by (with_reducible repeat (first | apply Kd.Zs | apply Kd.Zt | apply Kd.Zr)); exact HO_3.out)); (case aS => exact (Zas (by repeat (first | (with_reducible first | exact HB.out | apply Ze | apply Zf | apply Zd) | exact HB.out)))); (case aL => have := LMc3.out; omega); intro v518 w4 ho hb hg hat; rw [← Ny517.out] at ho; have n0_ := Za.mk (hb); have n1_ := Za.mk (ho); clear HB; clear HO_3; have HB := n0_; have HO519 := n1_; clear n0_ n1_; clear ho hb hg hat))
     go_roundg k1
     case measure => have := HK1.out; omega
     case rel => exact ⟨(y517), (wrap64 (x4_1 + 1)), (by first | rfl | (simp; done) | (simp [*]; done)), H', ⟨by have := HK1.out; omega⟩, ⟨by (with_reducible repeat (first | apply Kd.Zs | apply Kd.Zt | apply Kd.Zr)); exact HO519.out⟩, ⟨by repeat (first | (with_reducible first | exact HB.out | apply Ze | apply Zf | apply Zd) | exact HB.out)⟩⟩
    ·rw [if_neg c3] at H
     exact absurd H (by simp)
   ·rw [if_neg c2] at H
    have c2b0 : decide (x4_1 < a0) = false := decide_eq_false c2
    clear c2
    by_cases c5 : a0 > 1
    ·rw [if_pos c5] at H
     have c5b0 : decide (1 < a0) = true := decide_eq_true c5
     clear c5
     by_cases c6 : 0 < (x3_1.length : Int)
     ·rw [if_pos c6] at H
      have c6b0 : decide (0 < (x3_1.length : Int)) = true := decide_eq_true c6
      have c6b1 : decide (0 < x3_1.length) = true := decide_eq_true (by omega)
      clear c6
      obtain ⟨y520, hy520⟩ : ∃ y_ : List (S54), y_ = (x3_1.set (0 : Int).toNat (⟨5, 0, 0, (wrap64 (a0 - 2)) % 4294967296⟩ : S54)) := ⟨_, rfl⟩
      replace H : (some y520) = some r := by first | (rw [hy520]; with_reducible exact H) | (have H2_ := (Option.bind_some _ _).symm.trans H; rw [hy520]; with_reducible exact H2_) | (have H2_ := (Option.bind_some _ _).symm.trans H; with_reducible exact H2_) | with_reducible exact H | (rw [hy520]; exact H) | exact H
      have Ny520 := Za.mk hy520
      clear hy520
      obtain rfl := Option.some.inj H
      have p7 : 0 ≤ (0 : Int) := (by omega)
      have q7 : (0 : Int) < ((x3_1.length : Int) : Int) := of_decide_eq_true (by assumption)
      have qi7 : (0 < x3_1.length) = True := eq_true (by omega)
      obtain ⟨go7, co7, eo7, gb7, gl7, cl7, HG7⟩ := Kd.R_form HO_3.out (by omega)
      (first | cases eo7 | (injection eo7 with ea_ en_ ec_; (first | subst ea_ | (injection ea_ with ea_; subst ea_)); subst ec_; clear en_))
      have GB7 := Za.mk gb7
      have GG7 := Za.mk HG7
      clear gb7 gl7 HG7
      obtain ⟨ce7, hcl7, hM7, hcc7, hfr7⟩ := Kd.R_elem HO_3.out z54 (0 : Int) p7 q7
      obtain rfl := Zba hM7
      have hx7_0 : wr.cell? ⟨go7, (0 : Int).toNat * 4, none⟩ = some (.int .u16 ((Zb x3_1 0).f0)) := hcc7 0 _ rfl
      have hx7_1 : wr.cell? ⟨go7, (0 : Int).toNat * 4 + 1, none⟩ = some (.int .u8 ((Zb x3_1 0).f1)) := hcc7 1 _ rfl
      have hx7_2 : wr.cell? ⟨go7, (0 : Int).toNat * 4 + 2, none⟩ = some (.int .u8 ((Zb x3_1 0).f2)) := hcc7 2 _ rfl
      have hx7_3 : wr.cell? ⟨go7, (0 : Int).toNat * 4 + 3, none⟩ = some (.int .u32 ((Zb x3_1 0).f3)) := hcc7 3 _ rfl
      have hf7_0 : wr.frozen? ⟨go7, (0 : Int).toNat * 4, none⟩ = false := hfr7 0
      have hf7_1 : wr.frozen? ⟨go7, (0 : Int).toNat * 4 + 1, none⟩ = false := hfr7 1
      have hf7_2 : wr.frozen? ⟨go7, (0 : Int).toNat * 4 + 2, none⟩ = false := hfr7 2
      have hf7_3 : wr.frozen? ⟨go7, (0 : Int).toNat * 4 + 3, none⟩ = false := hfr7 3
      clear hcl7 hcc7 hfr7 hM7
      (try rw [show ((0 : Int)).toNat = 0 from rfl] at hx7_0)
      (try simp only [Nat.reduceMul, Nat.zero_mul, Nat.zero_add, Nat.reduceAdd] at hx7_0)
      (try rw [show ((0 : Int)).toNat = 0 from rfl] at hf7_0)
      (try simp only [Nat.reduceMul, Nat.zero_mul, Nat.zero_add, Nat.reduceAdd] at hf7_0)
      (try rw [show ((0 : Int)).toNat = 0 from rfl] at hx7_1)
      (try simp only [Nat.reduceMul, Nat.zero_mul, Nat.zero_add, Nat.reduceAdd] at hx7_1)
      (try rw [show ((0 : Int)).toNat = 0 from rfl] at hf7_1)
      (try simp only [Nat.reduceMul, Nat.zero_mul, Nat.zero_add, Nat.reduceAdd] at hf7_1)
      (try rw [show ((0 : Int)).toNat = 0 from rfl] at hx7_2)
      (try simp only [Nat.reduceMul, Nat.zero_mul, Nat.zero_add, Nat.reduceAdd] at hx7_2)
      (try rw [show ((0 : Int)).toNat = 0 from rfl] at hf7_2)
      (try simp only [Nat.reduceMul, Nat.zero_mul, Nat.zero_add, Nat.reduceAdd] at hf7_2)
      (try rw [show ((0 : Int)).toNat = 0 from rfl] at hx7_3)
      (try simp only [Nat.reduceMul, Nat.zero_mul, Nat.zero_add, Nat.reduceAdd] at hx7_3)
      (try rw [show ((0 : Int)).toNat = 0 from rfl] at hf7_3)
      (try simp only [Nat.reduceMul, Nat.zero_mul, Nat.zero_add, Nat.reduceAdd] at hf7_3)
      replace p7 := eq_true p7
      replace q7 := eq_true q7
      have HX8 := Za.mk (show Kd.R k54 54 wr w.heap.size (fun _ => True) (.slice (some ⟨go7, 0, none⟩) x3_1.length co7) x3_1 from (by (with_reducible repeat (first | apply Kd.Zs | apply Kd.Zt | apply Kd.Zr)); exact HO_3.out))
      obtain ⟨ce8, hcl8, hM8, hcc8, hfr8⟩ := Kd.R_elem HX8.out z54 (0 : Int) (by omega) (by have h_ : (0 : Int) < ((x3_1.length : Int) : Int) := of_decide_eq_true (by assumption); first | exact h_ | (have e_ := (Kd.Zag HO_3.out).1; omega) | simpa using h_)
      obtain rfl := Zba hM8
      have HP8 := Kd.R_seg HX8.out (0 : Int) (by omega) (by have h_ : (0 : Int) < ((x3_1.length : Int) : Int) := of_decide_eq_true (by assumption); first | exact h_ | (have e_ := (Kd.Zag HO_3.out).1; omega) | simpa using h_) (seg := [.int .u16 5, .int .u8 0, .int .u8 0, .int .u32 ((wrap64 (a0 - 2)) % 4294967296)]) (j := 0) hcl8 hcc8 (show 4 ≤ 4 from by decide) (x' := (⟨5, 0, 0, (wrap64 (a0 - 2)) % 4294967296⟩ : S54)) (k54_mkM _ _ _ (⟨5, 0, 0, (wrap64 (a0 - 2)) % 4294967296⟩ : S54) ) (fun _ hk => hk)
      have hx8_0 := hcc8 0 _ rfl
      (try simp only [show (k54).sz = 4 from rfl, Nat.mul_one, Nat.add_zero] at hx8_0)
      (try rw [show ((0 : Int)).toNat = 0 from rfl] at hx8_0)
      (try simp only [Nat.reduceMul, Nat.zero_mul, Nat.zero_add, Nat.reduceAdd] at hx8_0)
      have hf8_0 := hfr8 0
      (try simp only [show (k54).sz = 4 from rfl, Nat.mul_one, Nat.add_zero] at hf8_0)
      (try rw [show ((0 : Int)).toNat = 0 from rfl] at hf8_0)
      (try simp only [Nat.reduceMul, Nat.zero_mul, Nat.zero_add, Nat.reduceAdd] at hf8_0)
      have hx8_1 := hcc8 1 _ rfl
      (try simp only [show (k54).sz = 4 from rfl, Nat.mul_one, Nat.add_zero] at hx8_1)
      (try rw [show ((0 : Int)).toNat = 0 from rfl] at hx8_1)
      (try simp only [Nat.reduceMul, Nat.zero_mul, Nat.zero_add, Nat.reduceAdd] at hx8_1)
      have hf8_1 := hfr8 1
      (try simp only [show (k54).sz = 4 from rfl, Nat.mul_one, Nat.add_zero] at hf8_1)
      (try rw [show ((0 : Int)).toNat = 0 from rfl] at hf8_1)
      (try simp only [Nat.reduceMul, Nat.zero_mul, Nat.zero_add, Nat.reduceAdd] at hf8_1)
      have hx8_2 := hcc8 2 _ rfl
      (try simp only [show (k54).sz = 4 from rfl, Nat.mul_one, Nat.add_zero] at hx8_2)
      (try rw [show ((0 : Int)).toNat = 0 from rfl] at hx8_2)
      (try simp only [Nat.reduceMul, Nat.zero_mul, Nat.zero_add, Nat.reduceAdd] at hx8_2)
      have hf8_2 := hfr8 2
      (try simp only [show (k54).sz = 4 from rfl, Nat.mul_one, Nat.add_zero] at hf8_2)
      (try rw [show ((0 : Int)).toNat = 0 from rfl] at hf8_2)
      (try simp only [Nat.reduceMul, Nat.zero_mul, Nat.zero_add, Nat.reduceAdd] at hf8_2)
      have hx8_3 := hcc8 3 _ rfl
      (try simp only [show (k54).sz = 4 from rfl, Nat.mul_one, Nat.add_zero] at hx8_3)
      (try rw [show ((0 : Int)).toNat = 0 from rfl] at hx8_3)
      (try simp only [Nat.reduceMul, Nat.zero_mul, Nat.zero_add, Nat.reduceAdd] at hx8_3)
      have hf8_3 := hfr8 3
      (try simp only [show (k54).sz = 4 from rfl, Nat.mul_one, Nat.add_zero] at hf8_3)
      (try rw [show ((0 : Int)).toNat = 0 from rfl] at hf8_3)
      (try simp only [Nat.reduceMul, Nat.zero_mul, Nat.zero_add, Nat.reduceAdd] at hf8_3)
      clear hcl8 hcc8 hfr8 hM8
      go_wp2_with (first | ((with_reducible refine Zby (t := 54) (p := 23) rfl ?_); refine Zbx (t := 54) (p := 23) (v := ?vo_w9) (w1 := ((((wr.setCell ⟨go7, 0, none⟩ (.int .u16 5)).setCell ⟨go7, 1, none⟩ (.int .u8 0)).setCell ⟨go7, 2, none⟩ (.int .u8 0)).setCell ⟨go7, 3, none⟩ (.int .u32 ((wrap64 (a0 - 2)) % 4294967296)))) ?hg ?ho ?hn ?hr ?_; (case ho => rfl); (case hg => rfl); (case hn => rfl); (case hr => first | (go_simp; done) | (go_simp; rfl)); intro w9 hw; have hg : wr.grownBy w9 (some go7) := (by rw [hw]; exact HP8.2); have hp_ : Kd.R k54 54 w9 w.heap.size (fun _ => True) (.slice (some ⟨go7, 0, none⟩) x3_1.length co7) y520 := (by rw [hw, Ny520.out]; exact HP8.1); clear HP8; replace HO_3 := Za.mk (hp_); replace HB := Za.mk ((by rw [hw]; exact Zk (Zk (Zk (Zk (HB.out) GB7.out) GB7.out) GB7.out) GB7.out : Below w.heap.size w w9)); clear hg hw hp_))
      go_ret
      exact ⟨_, by first | rfl | (simp [Zo, Zp] <;> rfl) | (simp [*, Zo, Zp] <;> rfl), by (with_reducible repeat (first | apply Kd.Zs | apply Kd.Zt | apply Kd.Zr)); exact HO_3.out, by repeat (first | (with_reducible first | exact HB.out | apply Ze | apply Zf | apply Zd) | exact HB.out)⟩
     ·rw [if_neg c6] at H
      exact absurd H (by simp)
    ·rw [if_neg c5] at H
     have c5b0 : decide (1 < a0) = false := decide_eq_false c5
     clear c5
     obtain rfl := Option.some.inj H
     go_wp2
     go_ret
     exact ⟨_, by first | rfl | (simp [Zo, Zp] <;> rfl) | (simp [*, Zo, Zp] <;> rfl), by (with_reducible repeat (first | apply Kd.Zs | apply Kd.Zt | apply Kd.Zr)); exact HO_3.out, by repeat (first | (with_reducible first | exact HB.out | apply Ze | apply Zf | apply Zd) | exact HB.out)⟩
attribute [local go_sem] cell_defd
mutual
def Zax.j0 : Nat → Int → Int → Int → Bool → List Int → Int → Option (Int × Int × Int × Int × Int)
  | 0, _, _, _, _, _, _ => none
  | k + 1, x1, x2, x8, x27, x1000, x1001 => if x27 = true then ((Zar.f x1000 x1001).bind fun bt528 => (if (Int.tmod bt528.1 4) > 0 then (Zax.j1 k x1 x2 32 x1000 bt528.2) else (Zax.j1 k x1 x2 x8 x1000 bt528.2))) else (Zax.j1 k x1 x2 x8 x1000 x1001)
def Zax.j1 : Nat → Int → Int → Int → List Int → Int → Option (Int × Int × Int × Int × Int)
  | 0, _, _, _, _, _ => none
  | k + 1, x1, x2, x8, x1000, x1001 => (Zcf.f x1000 x1001).bind fun bt530 => (if x8 = 32 then (some (IntKind.u16.wrap (x8), 0, 0, ((Int.tmod bt530.1 16) * 4) % 4294967296, bt530.2)) else (if x8 = 96 then (Zax.j2 k x8 (wrap64 ((wrap64 (x2 - x1)) - 2)) true x1000 bt530.2 (IntKind.u16.wrap (x8)) 0 0 bt530.1) else (if x8 = 97 then (Zax.j2 k x8 (wrap64 ((wrap64 (x2 - x1)) - 2)) true x1000 bt530.2 (IntKind.u16.wrap (x8)) 0 0 bt530.1) else (if x8 = 2 then (Zax.j2 k x8 (wrap64 ((wrap64 (x2 - x1)) - 2)) true x1000 bt530.2 (IntKind.u16.wrap (x8)) 0 0 bt530.1) else (Zax.j2 k x8 (wrap64 ((wrap64 (x2 - x1)) - 2)) (x8 == 3) x1000 bt530.2 (IntKind.u16.wrap (x8)) 0 0 bt530.1)))))
def Zax.j2 : Nat → Int → Int → Bool → List Int → Int → Int → Int → Int → Int → Option (Int × Int × Int × Int × Int)
  | 0, _, _, _, _, _, _, _, _, _ => none
  | k + 1, x8, x10, x61, x1000, x1001, x533000, x533001, x533002, x533003 => if x61 = true then ((Zar.f x1000 x1001).bind fun bt533 => (if bt533.1 = 7 then (some (x533000, x533001, x533002, 15, bt533.2)) else (some (x533000, x533001, x533002, Int.tmod x533003 3, bt533.2)))) else (if x8 = 5 then (if ((wrap64 (x10 + 1)) % 4294967296) = 0 then (none) else (some (x533000, x533001, x533002, Int.tmod (Int.tmod x533003 ((wrap64 (x10 + 1)) % 4294967296)) 5, x1001))) else (if x8 = 52 then (some (x533000, x533001, x533002, Go.bits .or .u32 x533003 1, x1001)) else (if x8 = 100 then (Zax.j3 k x8 x10 true x1000 x1001 x533000 x533001 x533002 x533003) else (Zax.j3 k x8 x10 (x8 == 116) x1000 x1001 x533000 x533001 x533002 x533003))))
def Zax.j3 : Nat → Int → Int → Bool → List Int → Int → Int → Int → Int → Int → Option (Int × Int × Int × Int × Int)
  | 0, _, _, _, _, _, _, _, _, _ => none
  | k + 1, x8, x10, x91, x1000, x1001, x533000, x533001, x533002, x533003 => if x91 = true then (some (x533000, x533001, x533002, Int.tmod x533003 32, x1001)) else ((Zcd.f k x8).bind fun t535 => (if t535 = true then ((Zar.f x1000 x1001).bind fun bt536 => ((Zar.f x1000 bt536.2).bind fun bt538 => (if (wrap64 (x10 + 1)) = 0 then (none) else (some (x533000, (Int.tmod (Int.tmod bt536.1 (wrap64 (x10 + 1))) 6) % 256, (Int.tmod (Int.tmod bt538.1 (wrap64 (x10 + 1))) 6) % 256, x533003, bt538.2))))) else (if x8 = 135 then ((Zar.f x1000 x1001).bind fun bt540 => (some (x533000, (bt540.1) % 256, x533002, x533003, bt540.2))) else (if x8 = 7 then ((Zar.f x1000 x1001).bind fun bt542 => (some (x533000, (bt542.1) % 256, x533002, x533003, bt542.2))) else (some (x533000, x533001, x533002, x533003, x1001))))))
end
def Zax.f (k : Nat) (s0_0 : List Int) (s0_1 : Int) (a1 : Int) (a2 : Int) : Option (Int × Int × Int × Int × Int) := (spec_l1codes.f).bind fun t522 => ((Zar.f s0_0 s0_1).bind fun bt525 => (if (t522.length : Int) = 0 then (none) else (if 0 ≤ (Int.tmod bt525.1 (t522.length : Int)) then (if (Int.tmod bt525.1 (t522.length : Int)) < (t522.length : Int) then (if (rd t522 (Int.tmod bt525.1 (t522.length : Int))) = 6 then (Zax.j0 k a1 a2 (rd t522 (Int.tmod bt525.1 (t522.length : Int))) true s0_0 bt525.2) else (Zax.j0 k a1 a2 (rd t522 (Int.tmod bt525.1 (t522.length : Int))) ((rd t522 (Int.tmod bt525.1 (t522.length : Int))) == 22) s0_0 bt525.2)) else (none)) else (none))))
set_option maxHeartbeats 64000000 in
set_option maxRecDepth 100000 in
theorem Zax.calls (k : Nat) (g : Nat) (s0_0 : List Int) (s0_1 : Int) (a1 : Int) (a2 : Int) (r1 : Int) (r2 : Int) (r3 : Int) (r4 : Int) (r5 : Int) (w0 w : World) (hI : Zc w0 w g s0_0 s0_1) (hB : Below w0.heap.size w0 w) (h : Zax.f k s0_0 s0_1 a1 a2 = some (r1, r2, r3, r4, r5)) :
  Calls Try.prog 71 #[.pointer (some ⟨g, 0, none⟩), .int .i64 a1, .int .i64 a2] w fun e w' => e = .returned (.agg #[.int .u16 r1, .int .u8 r2, .int .u8 r3, .int .u32 r4]) ∧ Zc w0 w' g s0_0 r5 ∧ Below w0.heap.size w0 w' ∧ Zm w w' g none := by
 have hu54 := Try.underlying54
 have HI0 := Za.mk hI
 have HK := Za.mk (Zm.refl w g none)
 have HL := Za.mk hB.size
 clear hI
 have HW0 := Za.mk hB.size
 have HB := Za.mk hB
 clear hB
 have H := h
 unfold Zax.f at H
 clear h
 replace H := Option.bind_eq_some_iff.mp H
 obtain ⟨t522, A40, H⟩ := H
 (try dsimp only at H)
 have A4 := Za.mk A40
 clear A40
 replace H := Option.bind_eq_some_iff.mp H
 obtain ⟨⟨t525, t526⟩, A50, H⟩ := H
 (try dsimp only at H)
 have A5 := Za.mk A50
 clear A50
 by_cases c6 : (t522.length : Int) = 0
 ·rw [if_pos c6] at H
  exact absurd H (by simp)
 ·rw [if_neg c6] at H
  have c6b0 : ((t522.length : Int) == 0) = false := beq_eq_false_iff_ne.mpr c6
  have c6b1 : ((t522.length : Int) != 0) = true := bne_iff_ne.mpr c6
  have c6b2 : ¬ (t522 = []) := fun h_ => c6 (by rw [h_]; rfl)
  obtain ⟨ji7, hji7⟩ : ∃ j_ : Int, (Int.tmod t525 (t522.length : Int)) = j_ := ⟨_, rfl⟩
  replace H : (if 0 ≤ (ji7) then (if (ji7) < (t522.length : Int) then (if (rd t522 (ji7)) = 6 then (Zax.j0 k a1 a2 (rd t522 (ji7)) true s0_0 t526) else (Zax.j0 k a1 a2 (rd t522 (ji7)) ((rd t522 (ji7)) == 22) s0_0 t526)) else (none)) else (none)) = some (r1, r2, r3, r4, r5) := by first | (rw [hji7] at H; exact H) | (simp only [hji7] at H ⊢; exact H)
  (try rw [hji7] at A4)
  (try rw [hji7] at A5)
  by_cases c8 : 0 ≤ (ji7)
  ·rw [if_pos c8] at H
   have c8b0 : decide (0 ≤ (ji7)) = true := decide_eq_true c8
   clear c8
   by_cases c9 : (ji7) < (t522.length : Int)
   ·rw [if_pos c9] at H
    have c9b0 : decide ((ji7) < (t522.length : Int)) = true := decide_eq_true c9
    clear c9
    have HC10 := Za.mk H
    clear H
    go_enter Try.func71, Try.ntmps71
    go_upto_region 3 with (first | ((with_reducible refine Zbj (N := 6) rfl ?_); refine Zbo ?hg (N := 6) ?hd (cs := #[.int .u16 0, .int .u8 0, .int .u8 0, .int .u32 0]) (t := 54) ?hr ?_; (case hd => rfl); (case hg => rfl); (case hr => first | (go_simp; done) | (go_simp; rfl)); intro gb521 hg w11 hbox hb; replace HB := Za.mk (Zai (by repeat (first | (with_reducible first | exact HB.out | apply Ze | apply Zf | apply Zd | refine Zk ?_ (Zc.ge HI0.out)) | exact HB.out)) hb); have BK521 := Za.mk (hbox); have GW521 := Za.mk ((by rw [hg]; exact (Zbm (w := w) (g := g) (row := none) (by repeat (first | (with_reducible first | exact HK.out | apply Zm.set_ | apply Zaa | apply Zac | apply Zab) | exact HK.out))) : w.heap.size ≤ gb521)); have GE521 := Za.mk ((Nat.le_trans HW0.out (by rw [hg]; exact (Zbm (w := w) (g := g) (row := none) (by repeat (first | (with_reducible first | exact HK.out | apply Zm.set_ | apply Zaa | apply Zac | apply Zab) | exact HK.out))) : w.heap.size ≤ gb521) : w0.heap.size ≤ gb521)); replace HK := Za.mk (Zm.trans (by repeat (first | (with_reducible first | exact HK.out | apply Zm.set_ | apply Zaa | apply Zac | apply Zab) | exact HK.out)) (Zm.of_below hb g none) (.inl rfl)); have NB0_521 := Za.mk ((by rw [hg]; exact Nat.ne_of_lt (Zc.lt (show Zc w0 _ g s0_0 s0_1 from by repeat (first | (with_reducible first | exact HI0.out | apply Zc.alloc | apply Zc.drewN | apply Zc.drew | apply Zc.Zv) | exact HI0.out))) : g ≠ gb521)); have NB521_0 := Za.mk ((by rw [hg]; exact Nat.ne_of_gt (Zc.lt (show Zc w0 _ g s0_0 s0_1 from by repeat (first | (with_reducible first | exact HI0.out | apply Zc.alloc | apply Zc.drewN | apply Zc.drew | apply Zc.Zv) | exact HI0.out))) : gb521 ≠ g)); replace HI0 := Za.mk (Zc.below (by repeat (first | (with_reducible first | exact HI0.out | apply Zc.alloc | apply Zc.drewN | apply Zc.drew | apply Zc.Zv) | exact HI0.out)) hb); clear hb hbox hg) | ((with_reducible refine Zaf (f := 72) rfl ?_); refine Zae (some 13) rfl rfl Try.func72 (by kernel_rfl) rfl #[] rfl (by (try simp only [ZA, ZB, ZC]); first | done | rfl) ?_; (with_reducible refine (spec_l1codes.calls  t522 _ A4.out).mono ?_); rintro e w12 ⟨v523, rfl, ho0, hb⟩; refine ⟨_, rfl, ?_⟩; have HO524 := Za.mk (Kd.Zbi ho0 (Zbm (w := w) (g := g) (row := none) (by repeat (first | (with_reducible first | exact HK.out | apply Zm.set_ | apply Zaa | apply Zac | apply Zab | refine Zak ?_ GW521.out _) | exact HK.out)))); replace BK521 := Za.mk (Zbd (g := gb521) (o := .cells #[.int .u16 0, .int .u8 0, .int .u8 0, .int .u32 0] 54 (0, 0)) (by (with_reducible repeat (first | refine Zj ?_ _ | refine Zh ?_ | refine Zi ?_ _)); exact BK521.out) hb); replace HK := Za.mk (Zm.trans (by repeat (first | (with_reducible first | exact HK.out | apply Zm.set_ | apply Zaa | apply Zac | apply Zab | refine Zak ?_ GW521.out _) | exact HK.out)) (Zm.of_below hb g none) (.inl rfl)); replace HB := Za.mk (Zai (by repeat (first | (with_reducible first | exact HB.out | apply Ze | apply Zf | apply Zd | refine Zk ?_ (Zc.ge HI0.out) | refine Zk ?_ GE521.out) | exact HB.out)) hb); replace HI0 := Za.mk (Zc.below (by repeat (first | (with_reducible first | exact HI0.out | apply Zc.alloc | apply Zc.drewN | apply Zc.drew | apply Zc.Zv | refine Zc.far ?_ NB0_521.out _) | exact HI0.out)) hb); (try clear hb); (try clear hb2); (try clear hk); (try clear hi); (try clear ho0)) | ((with_reducible refine Zaf (f := 44) rfl ?_); refine Zae (some 16) rfl rfl Try.func44 (by kernel_rfl) rfl #[.pointer (some ⟨g, 0, none⟩)] rfl (by (try simp only [ZA, ZB, ZC]); first | done | rfl) ?_; (with_reducible refine (Zar.calls g s0_0 s0_1 t525 t526 w0 _ ?side1 ?side2 A5.out).mono ?_); (case side1 => repeat (first | (with_reducible first | exact HI0.out | apply Zc.alloc | apply Zc.drewN | apply Zc.drew | apply Zc.Zv | refine Zc.far ?_ NB0_521.out _) | exact HI0.out)); (case side2 => repeat (first | (with_reducible first | exact HB.out | apply Ze | apply Zf | apply Zd | refine Zk ?_ (Zc.ge HI0.out) | refine Zk ?_ GE521.out) | exact HB.out)); rintro e w13 ⟨rfl, hi, hb, hk⟩; refine ⟨_, rfl, ?_⟩; replace BK521 := Za.mk (Zm.blk hk (g' := gb521) (o := .cells #[.int .u16 0, .int .u8 0, .int .u8 0, .int .u32 0] 54 (0, 0)) (by (with_reducible repeat (first | refine Zj ?_ _ | refine Zh ?_ | refine Zi ?_ _)); exact BK521.out) NB521_0.out (by simp)); replace HO524 := Za.mk (Kd.Zah (Kd.R_keep (Zc.apart (show Zc w0 _ g s0_0 s0_1 from by repeat (first | (with_reducible first | exact HI0.out | apply Zc.alloc | apply Zc.drewN | apply Zc.drew | apply Zc.Zv | refine Zc.far ?_ NB0_521.out _) | exact HI0.out)) (by (with_reducible repeat (first | apply Kd.Zs | apply Kd.Zt | apply Kd.Zr)); exact HO524.out) (by decide)) hk (fun _ h => h.2)) (fun _ h => h.1)); replace HK := Za.mk (Zm.trans (by repeat (first | (with_reducible first | exact HK.out | apply Zm.set_ | apply Zaa | apply Zac | apply Zab | refine Zak ?_ GW521.out _) | exact HK.out)) hk (.inl rfl)); replace HB := Za.mk (hb); replace HI0 := Za.mk (hi); (try clear hb); (try clear hb2); (try clear hk); (try clear hi); obtain ⟨Ao14, co14, eo14⟩ := Kd.Zbf HO524.out; subst eo14; have p527 : 0 ≤ ((ji7) : Int) := of_decide_eq_true (by assumption); have q527 : (ji7) < (t522.length : Int) := of_decide_eq_true (by assumption); obtain ⟨ad527, e527, hx527_0⟩ := Kd.at_int (Kd.Zag HO524.out).2.2 (ji7) p527 q527; cases e527; replace p527 := eq_true p527; replace q527 := eq_true q527))
    (try simp only [Act.put, ZD, ZE, ZF])
    go_cut [27] (fun v27 wc => ∃ (kq : Nat) (x27_9 : Bool), v27 = .bool x27_9 ∧ Za (Zax.j0 kq a1 a2 (rd t522 (ji7)) x27_9 s0_0 t526 = some (r1, r2, r3, r4, r5)) ∧ Za (kq ≤ k) ∧ Za (wc.heap[gb521]? = some (.cells #[.int .u16 0, .int .u8 0, .int .u8 0, .int .u32 0] 54 (0, 0))) ∧ Za (Zc w0 wc g s0_0 t526) ∧ Za (Zm w wc g none) ∧ Za (Below w0.heap.size w0 wc))
    case first =>
     have H := HC10.out
     clear HC10
     by_cases c15 : (rd t522 (ji7)) = 6
     ·rw [if_pos c15] at H
      have c15b0 : ((rd t522 (ji7)) == 6) = true := beq_iff_eq.mpr c15
      have c15b1 : ((rd t522 (ji7)) != 6) = false := bne_eq_false_iff_eq.mpr c15
      clear c15
      (first | rw [c15b0] | (simp only [Zn, Zq]; rw [c15b0]) | skip)
      have H' := Za.mk H
      clear H
      go_wp2
      go_meet
      case rel => exact ⟨_, (true), (by first | rfl | (simp; done) | (simp [*]; done)), H', ⟨by first | omega | exact Nat.le_refl _⟩, ⟨by (with_reducible repeat (first | refine Zj ?_ _ | refine Zh ?_ | refine Zi ?_ _)); exact BK521.out⟩, ⟨by repeat (first | (with_reducible first | exact HI0.out | apply Zc.alloc | apply Zc.drewN | apply Zc.drew | apply Zc.Zv | refine Zc.far ?_ NB0_521.out _) | exact HI0.out)⟩, ⟨by repeat (first | (with_reducible first | exact HK.out | apply Zm.set_ | apply Zaa | apply Zac | apply Zab | refine Zak ?_ GW521.out _) | exact HK.out)⟩, ⟨by repeat (first | (with_reducible first | exact HB.out | apply Ze | apply Zf | apply Zd | refine Zk ?_ (Zc.ge HI0.out) | refine Zk ?_ GE521.out) | exact HB.out)⟩⟩
     ·rw [if_neg c15] at H
      have c15b0 : ((rd t522 (ji7)) == 6) = false := beq_eq_false_iff_ne.mpr c15
      have c15b1 : ((rd t522 (ji7)) != 6) = true := bne_iff_ne.mpr c15
      (first | rw [c15b0] | (simp only [Zn, Zq]; rw [c15b0]) | skip)
      have H' := Za.mk H
      clear H
      go_wp2
      go_meet
      case rel => exact ⟨_, (((rd t522 (ji7)) == 22)), (by first | rfl | (simp; done) | (simp only [hji7v (by first | omega | (simp only [decide_eq_true_eq] at *; omega))]; done) | (simp only [← hji7] <;> (first | rfl | simp)) | (simp [*]; done)), H', ⟨by first | omega | exact Nat.le_refl _⟩, ⟨by (with_reducible repeat (first | refine Zj ?_ _ | refine Zh ?_ | refine Zi ?_ _)); exact BK521.out⟩, ⟨by repeat (first | (with_reducible first | exact HI0.out | apply Zc.alloc | apply Zc.drewN | apply Zc.drew | apply Zc.Zv | refine Zc.far ?_ NB0_521.out _) | exact HI0.out)⟩, ⟨by repeat (first | (with_reducible first | exact HK.out | apply Zm.set_ | apply Zaa | apply Zac | apply Zab | refine Zak ?_ GW521.out _) | exact HK.out)⟩, ⟨by repeat (first | (with_reducible first | exact HB.out | apply Ze | apply Zf | apply Zd | refine Zk ?_ (Zc.ge HI0.out) | refine Zk ?_ GE521.out) | exact HB.out)⟩⟩
    case rest =>
     clear HC10
     try clear c1
     try clear p2
     try clear c4
     try clear p5
     try clear q5
     try clear hx5
     try clear c6
     try clear c6b0
     try clear c6b1
     try clear c6b2
     try clear c7
     try clear c8
     try clear c8b0
     try clear c9
     try clear c9b0
     try clear c15
     try clear c15b0
     try clear c15b1
     try clear hx527_0
     try clear p527
     try clear q527
     obtain ⟨kq, x27_9, rfl, HA, HJ9, BK521, HI0, HK, HB⟩ := hcut
     cases kq with
     | zero => exact absurd HA.out (by simp [Zax.j0])
     | succ kj9 =>
      have H := HA.out
      clear HA
      simp only [Zax.j0] at H
      have HC16 := Za.mk H
      clear H
      go_upto_if 27 with (fail)
      go_cut [8] (fun v8 wc => ∃ (kq : Nat) (x8_15 : Int) (x1001_15 : Int), v8 = .int .i64 x8_15 ∧ Za (Zax.j1 kq a1 a2 x8_15 s0_0 x1001_15 = some (r1, r2, r3, r4, r5)) ∧ Za (kq ≤ kj9) ∧ Za (wc.heap[gb521]? = some (.cells #[.int .u16 0, .int .u8 0, .int .u8 0, .int .u32 0] 54 (0, 0))) ∧ Za (Zc w0 wc g s0_0 x1001_15) ∧ Za (Zm w wc g none) ∧ Za (Below w0.heap.size w0 wc))
      case first =>
       have H := HC16.out
       clear HC16
       by_cases c17 : x27_9 = true
       ·subst c17
        have H1 : ((Zar.f s0_0 t526).bind fun bt528 => (if (Int.tmod bt528.1 4) > 0 then (Zax.j1 kj9 a1 a2 32 s0_0 bt528.2) else (Zax.j1 kj9 a1 a2 (rd t522 (ji7)) s0_0 bt528.2))) = some (r1, r2, r3, r4, r5) := by rw [if_pos rfl] at H; exact H
        clear H
        have H := H1
        clear H1
        replace H := Option.bind_eq_some_iff.mp H
        obtain ⟨⟨t528, t529⟩, A180, H⟩ := H
        (try dsimp only at H)
        have A18 := Za.mk A180
        clear A180
        by_cases c19 : (Int.tmod t528 4) > 0
        ·rw [if_pos c19] at H
         have c19b0 : decide (0 < (Int.tmod t528 4)) = true := decide_eq_true c19
         clear c19
         (first | rw [c19b0] | (simp only [Zn, Zq]; rw [c19b0]) | skip)
         have H' := Za.mk H
         clear H
         go_wp2_with (first | ((with_reducible refine Zaf (f := 44) rfl ?_); refine Zae (some 29) rfl rfl Try.func44 (by kernel_rfl) rfl #[.pointer (some ⟨g, 0, none⟩)] rfl (by (try simp only [ZA, ZB, ZC]); first | done | rfl) ?_; (with_reducible refine (Zar.calls g s0_0 t526 t528 t529 w0 _ ?side1 ?side2 A18.out).mono ?_); (case side1 => repeat (first | (with_reducible first | exact HI0.out | apply Zc.alloc | apply Zc.drewN | apply Zc.drew | apply Zc.Zv | refine Zc.far ?_ NB0_521.out _) | exact HI0.out)); (case side2 => repeat (first | (with_reducible first | exact HB.out | apply Ze | apply Zf | apply Zd | refine Zk ?_ (Zc.ge HI0.out) | refine Zk ?_ GE521.out) | exact HB.out)); rintro e w20 ⟨rfl, hi, hb, hk⟩; refine ⟨_, rfl, ?_⟩; replace BK521 := Za.mk (Zm.blk hk (g' := gb521) (o := .cells #[.int .u16 0, .int .u8 0, .int .u8 0, .int .u32 0] 54 (0, 0)) (by (with_reducible repeat (first | refine Zj ?_ _ | refine Zh ?_ | refine Zi ?_ _)); exact BK521.out) NB521_0.out (by simp)); replace HK := Za.mk (Zm.trans (by repeat (first | (with_reducible first | exact HK.out | apply Zm.set_ | apply Zaa | apply Zac | apply Zab | refine Zak ?_ GW521.out _) | exact HK.out)) hk (.inl rfl)); replace HB := Za.mk (hb); replace HI0 := Za.mk (hi); (try clear hb); (try clear hb2); (try clear hk); (try clear hi)))
         go_meet
         case rel => exact ⟨_, (32), (t529), (by first | rfl | (simp; done) | (simp [*]; done)), H', ⟨by have := HJ9.out; first | omega | exact Nat.le_refl _⟩, ⟨by (with_reducible repeat (first | refine Zj ?_ _ | refine Zh ?_ | refine Zi ?_ _)); exact BK521.out⟩, ⟨by repeat (first | (with_reducible first | exact HI0.out | apply Zc.alloc | apply Zc.drewN | apply Zc.drew | apply Zc.Zv | refine Zc.far ?_ NB0_521.out _) | exact HI0.out)⟩, ⟨by repeat (first | (with_reducible first | exact HK.out | apply Zm.set_ | apply Zaa | apply Zac | apply Zab | refine Zak ?_ GW521.out _) | exact HK.out)⟩, ⟨by repeat (first | (with_reducible first | exact HB.out | apply Ze | apply Zf | apply Zd | refine Zk ?_ (Zc.ge HI0.out) | refine Zk ?_ GE521.out) | exact HB.out)⟩⟩
        ·rw [if_neg c19] at H
         have c19b0 : decide (0 < (Int.tmod t528 4)) = false := decide_eq_false c19
         clear c19
         (first | rw [c19b0] | (simp only [Zn, Zq]; rw [c19b0]) | skip)
         have H' := Za.mk H
         clear H
         go_wp2_with (first | ((with_reducible refine Zaf (f := 44) rfl ?_); refine Zae (some 29) rfl rfl Try.func44 (by kernel_rfl) rfl #[.pointer (some ⟨g, 0, none⟩)] rfl (by (try simp only [ZA, ZB, ZC]); first | done | rfl) ?_; (with_reducible refine (Zar.calls g s0_0 t526 t528 t529 w0 _ ?side1 ?side2 A18.out).mono ?_); (case side1 => repeat (first | (with_reducible first | exact HI0.out | apply Zc.alloc | apply Zc.drewN | apply Zc.drew | apply Zc.Zv | refine Zc.far ?_ NB0_521.out _) | exact HI0.out)); (case side2 => repeat (first | (with_reducible first | exact HB.out | apply Ze | apply Zf | apply Zd | refine Zk ?_ (Zc.ge HI0.out) | refine Zk ?_ GE521.out) | exact HB.out)); rintro e w21 ⟨rfl, hi, hb, hk⟩; refine ⟨_, rfl, ?_⟩; replace BK521 := Za.mk (Zm.blk hk (g' := gb521) (o := .cells #[.int .u16 0, .int .u8 0, .int .u8 0, .int .u32 0] 54 (0, 0)) (by (with_reducible repeat (first | refine Zj ?_ _ | refine Zh ?_ | refine Zi ?_ _)); exact BK521.out) NB521_0.out (by simp)); replace HK := Za.mk (Zm.trans (by repeat (first | (with_reducible first | exact HK.out | apply Zm.set_ | apply Zaa | apply Zac | apply Zab | refine Zak ?_ GW521.out _) | exact HK.out)) hk (.inl rfl)); replace HB := Za.mk (hb); replace HI0 := Za.mk (hi); (try clear hb); (try clear hb2); (try clear hk); (try clear hi)))
         go_meet
         case rel => exact ⟨_, ((rd t522 (ji7))), (t529), (by first | rfl | (simp; done) | (simp only [hji7v (by first | omega | (simp only [decide_eq_true_eq] at *; omega))]; done) | (simp only [← hji7] <;> (first | rfl | simp)) | (simp [*]; done)), H', ⟨by have := HJ9.out; first | omega | exact Nat.le_refl _⟩, ⟨by (with_reducible repeat (first | refine Zj ?_ _ | refine Zh ?_ | refine Zi ?_ _)); exact BK521.out⟩, ⟨by repeat (first | (with_reducible first | exact HI0.out | apply Zc.alloc | apply Zc.drewN | apply Zc.drew | apply Zc.Zv | refine Zc.far ?_ NB0_521.out _) | exact HI0.out)⟩, ⟨by repeat (first | (with_reducible first | exact HK.out | apply Zm.set_ | apply Zaa | apply Zac | apply Zab | refine Zak ?_ GW521.out _) | exact HK.out)⟩, ⟨by repeat (first | (with_reducible first | exact HB.out | apply Ze | apply Zf | apply Zd | refine Zk ?_ (Zc.ge HI0.out) | refine Zk ?_ GE521.out) | exact HB.out)⟩⟩
       ·replace c17 := Bool.eq_false_iff.mpr c17
        subst c17
        have H1 : (Zax.j1 kj9 a1 a2 (rd t522 (ji7)) s0_0 t526) = some (r1, r2, r3, r4, r5) := by rw [if_neg (show ¬ (false = true) by decide)] at H; exact H
        clear H
        have H := H1
        clear H1
        have H' := Za.mk H
        clear H
        go_wp2
        go_meet
        case rel => exact ⟨_, ((rd t522 (ji7))), (t526), (by first | rfl | (simp; done) | (simp only [hji7v (by first | omega | (simp only [decide_eq_true_eq] at *; omega))]; done) | (simp only [← hji7] <;> (first | rfl | simp)) | (simp [*]; done)), H', ⟨by have := HJ9.out; first | omega | exact Nat.le_refl _⟩, ⟨by (with_reducible repeat (first | refine Zj ?_ _ | refine Zh ?_ | refine Zi ?_ _)); exact BK521.out⟩, ⟨by repeat (first | (with_reducible first | exact HI0.out | apply Zc.alloc | apply Zc.drewN | apply Zc.drew | apply Zc.Zv | refine Zc.far ?_ NB0_521.out _) | exact HI0.out)⟩, ⟨by repeat (first | (with_reducible first | exact HK.out | apply Zm.set_ | apply Zaa | apply Zac | apply Zab | refine Zak ?_ GW521.out _) | exact HK.out)⟩, ⟨by repeat (first | (with_reducible first | exact HB.out | apply Ze | apply Zf | apply Zd | refine Zk ?_ (Zc.ge HI0.out) | refine Zk ?_ GE521.out) | exact HB.out)⟩⟩
      case rest =>
       clear HC16
       try clear c1
       try clear p2
       try clear c4
       try clear p5
       try clear q5
       try clear hx5
       try clear c6
       try clear c6b0
       try clear c6b1
       try clear c6b2
       try clear c7
       try clear c8
       try clear c8b0
       try clear c9
       try clear c9b0
       try clear c15
       try clear c15b0
       try clear c15b1
       try clear c17
       try clear c19
       try clear c19b0
       try clear hx527_0
       try clear p2
       try clear p5
       try clear p527
       try clear q5
       try clear q527
       obtain ⟨kq, x8_15, x1001_15, rfl, HA, HJ15, BK521, HI0, HK, HB⟩ := hcut
       cases kq with
       | zero => exact absurd HA.out (by simp [Zax.j1])
       | succ kj15 =>
        have H := HA.out
        clear HA
        simp only [Zax.j1] at H
        replace H := Option.bind_eq_some_iff.mp H
        obtain ⟨⟨t530, t531⟩, A220, H⟩ := H
        (try dsimp only at H)
        have A22 := Za.mk A220
        clear A220
        by_cases c23 : x8_15 = 32
        ·rw [if_pos c23] at H
         have c23b0 : (x8_15 == 32) = true := beq_iff_eq.mpr c23
         have c23b1 : (x8_15 != 32) = false := bne_eq_false_iff_eq.mpr c23
         clear c23
         simp only [Option.some.injEq, Prod.mk.injEq] at H
         obtain ⟨rfl, rfl, rfl, rfl, rfl⟩ := H
         go_wp2_with (first | ((with_reducible refine Zaf (f := 57) rfl ?_); refine Zae (some 35) rfl rfl Try.func57 (by kernel_rfl) rfl #[.pointer (some ⟨g, 0, none⟩)] rfl (by (try simp only [ZA, ZB, ZC]); first | done | rfl) ?_; (with_reducible refine (Zcf.calls g s0_0 x1001_15 t530 t531 w0 _ ?side1 ?side2 A22.out).mono ?_); (case side1 => repeat (first | (with_reducible first | exact HI0.out | apply Zc.alloc | apply Zc.drewN | apply Zc.drew | apply Zc.Zv | refine Zc.far ?_ NB0_521.out _) | exact HI0.out)); (case side2 => repeat (first | (with_reducible first | exact HB.out | apply Ze | apply Zf | apply Zd | refine Zk ?_ (Zc.ge HI0.out) | refine Zk ?_ GE521.out) | exact HB.out)); rintro e w24 ⟨rfl, hi, hb, hk⟩; refine ⟨_, rfl, ?_⟩; replace BK521 := Za.mk (Zm.blk hk (g' := gb521) (o := .cells #[.int .u16 0, .int .u8 0, .int .u8 0, .int .u32 0] 54 (0, 0)) (by (with_reducible repeat (first | refine Zj ?_ _ | refine Zh ?_ | refine Zi ?_ _)); exact BK521.out) NB521_0.out (by simp)); replace HK := Za.mk (Zm.trans (by repeat (first | (with_reducible first | exact HK.out | apply Zm.set_ | apply Zaa | apply Zac | apply Zab | refine Zak ?_ GW521.out _) | exact HK.out)) hk (.inl rfl)); replace HB := Za.mk (hb); replace HI0 := Za.mk (hi); (try clear hb); (try clear hb2); (try clear hk); (try clear hi)) | ((with_reducible refine Zbj (N := 9) rfl ?_); refine Zbo ?hg (N := 9) ?hd (cs := #[.int .u16 0, .int .u8 0, .int .u8 0, .int .u32 0]) (t := 54) ?hr ?_; (case hd => rfl); (case hg => rfl); (case hr => first | (go_simp; done) | (go_simp; rfl)); intro gb532 hg w25 hbox hb; replace HB := Za.mk (Zai (by repeat (first | (with_reducible first | exact HB.out | apply Ze | apply Zf | apply Zd | refine Zk ?_ (Zc.ge HI0.out) | refine Zk ?_ GE521.out) | exact HB.out)) hb); have BK532 := Za.mk (hbox); have GW532 := Za.mk ((by rw [hg]; exact (Zbm (w := w) (g := g) (row := none) (by repeat (first | (with_reducible first | exact HK.out | apply Zm.set_ | apply Zaa | apply Zac | apply Zab | refine Zak ?_ GW521.out _) | exact HK.out))) : w.heap.size ≤ gb532)); have GE532 := Za.mk ((Nat.le_trans HW0.out (by rw [hg]; exact (Zbm (w := w) (g := g) (row := none) (by repeat (first | (with_reducible first | exact HK.out | apply Zm.set_ | apply Zaa | apply Zac | apply Zab | refine Zak ?_ GW521.out _) | exact HK.out))) : w.heap.size ≤ gb532) : w0.heap.size ≤ gb532)); replace HK := Za.mk (Zm.trans (by repeat (first | (with_reducible first | exact HK.out | apply Zm.set_ | apply Zaa | apply Zac | apply Zab | refine Zak ?_ GW521.out _) | exact HK.out)) (Zm.of_below hb g none) (.inl rfl)); have NB521_532 := Za.mk ((by rw [hg]; exact Nat.ne_of_lt (blk_lt (g := gb521) (o := .cells #[.int .u16 0, .int .u8 0, .int .u8 0, .int .u32 0] 54 (0, 0)) (by (with_reducible repeat (first | refine Zj ?_ _ | refine Zh ?_ | refine Zi ?_ _)); exact BK521.out)) : gb521 ≠ gb532)); have NB532_521 := Za.mk ((by rw [hg]; exact Nat.ne_of_gt (blk_lt (g := gb521) (o := .cells #[.int .u16 0, .int .u8 0, .int .u8 0, .int .u32 0] 54 (0, 0)) (by (with_reducible repeat (first | refine Zj ?_ _ | refine Zh ?_ | refine Zi ?_ _)); exact BK521.out)) : gb532 ≠ gb521)); replace BK521 := Za.mk (Zbd (g := gb521) (o := .cells #[.int .u16 0, .int .u8 0, .int .u8 0, .int .u32 0] 54 (0, 0)) (by (with_reducible repeat (first | refine Zj ?_ _ | refine Zh ?_ | refine Zi ?_ _)); exact BK521.out) hb); have NB0_532 := Za.mk ((by rw [hg]; exact Nat.ne_of_lt (Zc.lt (show Zc w0 _ g s0_0 t531 from by repeat (first | (with_reducible first | exact HI0.out | apply Zc.alloc | apply Zc.drewN | apply Zc.drew | apply Zc.Zv | refine Zc.far ?_ NB0_521.out _) | exact HI0.out))) : g ≠ gb532)); have NB532_0 := Za.mk ((by rw [hg]; exact Nat.ne_of_gt (Zc.lt (show Zc w0 _ g s0_0 t531 from by repeat (first | (with_reducible first | exact HI0.out | apply Zc.alloc | apply Zc.drewN | apply Zc.drew | apply Zc.Zv | refine Zc.far ?_ NB0_521.out _) | exact HI0.out))) : gb532 ≠ g)); replace HI0 := Za.mk (Zc.below (by repeat (first | (with_reducible first | exact HI0.out | apply Zc.alloc | apply Zc.drewN | apply Zc.drew | apply Zc.Zv | refine Zc.far ?_ NB0_521.out _) | exact HI0.out)) hb); clear hb hbox hg; have hnb26 := NB532_521.out; have hnc26 := NB521_532.out; have hnb27 := NB532_0.out; have hnc27 := NB0_532.out; have hcz28_0 : w25.cell? ⟨gb532, 0, none⟩ = some (.int .u16 0) := (Zg BK532.out 0).trans rfl; have hcz28_1 : w25.cell? ⟨gb532, 1, none⟩ = some (.int .u8 0) := (Zg BK532.out 1).trans rfl; have hcz28_2 : w25.cell? ⟨gb532, 2, none⟩ = some (.int .u8 0) := (Zg BK532.out 2).trans rfl; have hcz28_3 : w25.cell? ⟨gb532, 3, none⟩ = some (.int .u32 0) := (Zg BK532.out 3).trans rfl; have hfz28_0 := Zl BK532.out 0; have hfz28_1 := Zl BK532.out 1; have hfz28_2 := Zl BK532.out 2; have hfz28_3 := Zl BK532.out 3; have hnb29 := NB521_0.out; have hnc29 := NB0_521.out; have hcz30_0 : w25.cell? ⟨gb521, 0, none⟩ = some (.int .u16 0) := (Zg BK521.out 0).trans rfl; have hcz30_1 : w25.cell? ⟨gb521, 1, none⟩ = some (.int .u8 0) := (Zg BK521.out 1).trans rfl; have hcz30_2 : w25.cell? ⟨gb521, 2, none⟩ = some (.int .u8 0) := (Zg BK521.out 2).trans rfl; have hcz30_3 : w25.cell? ⟨gb521, 3, none⟩ = some (.int .u32 0) := (Zg BK521.out 3).trans rfl; have hfz30_0 := Zl BK521.out 0; have hfz30_1 := Zl BK521.out 1; have hfz30_2 := Zl BK521.out 2; have hfz30_3 := Zl BK521.out 3))
         refine bodyPost_ret (results_cell_row rfl _ _ gb521 54 #[.int .u16 (IntKind.u16.wrap (x8_15)), .int .u8 0, .int .u8 0, .int .u32 (((Int.tmod t530 16) * 4) % 4294967296)] (0, 0) _ rfl (by (with_reducible repeat (first | refine Zj ?_ _ | refine Zh ?_ | refine Zi ?_ _)); refine Zu (cs := #[.int .u16 (IntKind.u16.wrap (x8_15)), .int .u8 0, .int .u8 0, .int .u32 0]) ?_ 3 _ rfl; (with_reducible repeat (first | refine Zj ?_ _ | refine Zh ?_ | refine Zi ?_ _)); refine Zu (cs := #[.int .u16 (IntKind.u16.wrap (x8_15)), .int .u8 0, .int .u8 0, .int .u32 0]) ?_ 2 _ rfl; (with_reducible repeat (first | refine Zj ?_ _ | refine Zh ?_ | refine Zi ?_ _)); refine Zu (cs := #[.int .u16 (IntKind.u16.wrap (x8_15)), .int .u8 0, .int .u8 0, .int .u32 0]) ?_ 1 _ rfl; (with_reducible repeat (first | refine Zj ?_ _ | refine Zh ?_ | refine Zi ?_ _)); refine Zu (cs := #[.int .u16 0, .int .u8 0, .int .u8 0, .int .u32 0]) ?_ 0 _ rfl; (with_reducible repeat (first | refine Zj ?_ _ | refine Zh ?_ | refine Zi ?_ _)); refine Zbh ?_ NB521_532.out _; (with_reducible repeat (first | refine Zj ?_ _ | refine Zh ?_ | refine Zi ?_ _)); refine Zbh ?_ NB521_532.out _; (with_reducible repeat (first | refine Zj ?_ _ | refine Zh ?_ | refine Zi ?_ _)); refine Zbh ?_ NB521_532.out _; (with_reducible repeat (first | refine Zj ?_ _ | refine Zh ?_ | refine Zi ?_ _)); refine Zbh ?_ NB521_532.out _; (with_reducible repeat (first | refine Zj ?_ _ | refine Zh ?_ | refine Zi ?_ _)); refine Zbh ?_ NB521_532.out _; (with_reducible repeat (first | refine Zj ?_ _ | refine Zh ?_ | refine Zi ?_ _)); exact BK521.out) Try.underlying54 rfl (by kernel_rfl)) rfl ?_
         exact ⟨by first | rfl | (simp [Zo, Zp] <;> rfl) | (simp only [← hji7]; first | rfl | (simp [Zo, Zp] <;> rfl)) | (simp [*, Zo, Zp] <;> rfl), by repeat (first | (with_reducible first | exact HI0.out | apply Zc.alloc | apply Zc.drewN | apply Zc.drew | apply Zc.Zv | refine Zc.far ?_ NB0_521.out _ | refine Zc.far ?_ NB0_532.out _) | exact HI0.out), by repeat (first | (with_reducible first | exact HB.out | apply Ze | apply Zf | apply Zd | refine Zk ?_ (Zc.ge HI0.out) | refine Zk ?_ GE521.out | refine Zk ?_ GE532.out) | exact HB.out), by repeat (first | (with_reducible first | exact HK.out | apply Zm.set_ | apply Zaa | apply Zac | apply Zab | refine Zak ?_ GW521.out _ | refine Zak ?_ GW532.out _) | exact HK.out)⟩
        ·rw [if_neg c23] at H
         have c23b0 : (x8_15 == 32) = false := beq_eq_false_iff_ne.mpr c23
         have c23b1 : (x8_15 != 32) = true := bne_iff_ne.mpr c23
         have HC31 := Za.mk H
         clear H
         go_upto_region 10 with (first | ((with_reducible refine Zaf (f := 57) rfl ?_); refine Zae (some 35) rfl rfl Try.func57 (by kernel_rfl) rfl #[.pointer (some ⟨g, 0, none⟩)] rfl (by (try simp only [ZA, ZB, ZC]); first | done | rfl) ?_; (with_reducible refine (Zcf.calls g s0_0 x1001_15 t530 t531 w0 _ ?side1 ?side2 A22.out).mono ?_); (case side1 => repeat (first | (with_reducible first | exact HI0.out | apply Zc.alloc | apply Zc.drewN | apply Zc.drew | apply Zc.Zv | refine Zc.far ?_ NB0_521.out _) | exact HI0.out)); (case side2 => repeat (first | (with_reducible first | exact HB.out | apply Ze | apply Zf | apply Zd | refine Zk ?_ (Zc.ge HI0.out) | refine Zk ?_ GE521.out) | exact HB.out)); rintro e w32 ⟨rfl, hi, hb, hk⟩; refine ⟨_, rfl, ?_⟩; replace BK521 := Za.mk (Zm.blk hk (g' := gb521) (o := .cells #[.int .u16 0, .int .u8 0, .int .u8 0, .int .u32 0] 54 (0, 0)) (by (with_reducible repeat (first | refine Zj ?_ _ | refine Zh ?_ | refine Zi ?_ _)); exact BK521.out) NB521_0.out (by simp)); replace HK := Za.mk (Zm.trans (by repeat (first | (with_reducible first | exact HK.out | apply Zm.set_ | apply Zaa | apply Zac | apply Zab | refine Zak ?_ GW521.out _) | exact HK.out)) hk (.inl rfl)); replace HB := Za.mk (hb); replace HI0 := Za.mk (hi); (try clear hb); (try clear hb2); (try clear hk); (try clear hi)) | ((with_reducible refine Zbj (N := 9) rfl ?_); refine Zbo ?hg (N := 9) ?hd (cs := #[.int .u16 0, .int .u8 0, .int .u8 0, .int .u32 0]) (t := 54) ?hr ?_; (case hd => rfl); (case hg => rfl); (case hr => first | (go_simp; done) | (go_simp; rfl)); intro gb532 hg w33 hbox hb; replace HB := Za.mk (Zai (by repeat (first | (with_reducible first | exact HB.out | apply Ze | apply Zf | apply Zd | refine Zk ?_ (Zc.ge HI0.out) | refine Zk ?_ GE521.out) | exact HB.out)) hb); have BK532 := Za.mk (hbox); have GW532 := Za.mk ((by rw [hg]; exact (Zbm (w := w) (g := g) (row := none) (by repeat (first | (with_reducible first | exact HK.out | apply Zm.set_ | apply Zaa | apply Zac | apply Zab | refine Zak ?_ GW521.out _) | exact HK.out))) : w.heap.size ≤ gb532)); have GE532 := Za.mk ((Nat.le_trans HW0.out (by rw [hg]; exact (Zbm (w := w) (g := g) (row := none) (by repeat (first | (with_reducible first | exact HK.out | apply Zm.set_ | apply Zaa | apply Zac | apply Zab | refine Zak ?_ GW521.out _) | exact HK.out))) : w.heap.size ≤ gb532) : w0.heap.size ≤ gb532)); replace HK := Za.mk (Zm.trans (by repeat (first | (with_reducible first | exact HK.out | apply Zm.set_ | apply Zaa | apply Zac | apply Zab | refine Zak ?_ GW521.out _) | exact HK.out)) (Zm.of_below hb g none) (.inl rfl)); have NB521_532 := Za.mk ((by rw [hg]; exact Nat.ne_of_lt (blk_lt (g := gb521) (o := .cells #[.int .u16 0, .int .u8 0, .int .u8 0, .int .u32 0] 54 (0, 0)) (by (with_reducible repeat (first | refine Zj ?_ _ | refine Zh ?_ | refine Zi ?_ _)); exact BK521.out)) : gb521 ≠ gb532)); have NB532_521 := Za.mk ((by rw [hg]; exact Nat.ne_of_gt (blk_lt (g := gb521) (o := .cells #[.int .u16 0, .int .u8 0, .int .u8 0, .int .u32 0] 54 (0, 0)) (by (with_reducible repeat (first | refine Zj ?_ _ | refine Zh ?_ | refine Zi ?_ _)); exact BK521.out)) : gb532 ≠ gb521)); replace BK521 := Za.mk (Zbd (g := gb521) (o := .cells #[.int .u16 0, .int .u8 0, .int .u8 0, .int .u32 0] 54 (0, 0)) (by (with_reducible repeat (first | refine Zj ?_ _ | refine Zh ?_ | refine Zi ?_ _)); exact BK521.out) hb); have NB0_532 := Za.mk ((by rw [hg]; exact Nat.ne_of_lt (Zc.lt (show Zc w0 _ g s0_0 t531 from by repeat (first | (with_reducible first | exact HI0.out | apply Zc.alloc | apply Zc.drewN | apply Zc.drew | apply Zc.Zv | refine Zc.far ?_ NB0_521.out _) | exact HI0.out))) : g ≠ gb532)); have NB532_0 := Za.mk ((by rw [hg]; exact Nat.ne_of_gt (Zc.lt (show Zc w0 _ g s0_0 t531 from by repeat (first | (with_reducible first | exact HI0.out | apply Zc.alloc | apply Zc.drewN | apply Zc.drew | apply Zc.Zv | refine Zc.far ?_ NB0_521.out _) | exact HI0.out))) : gb532 ≠ g)); replace HI0 := Za.mk (Zc.below (by repeat (first | (with_reducible first | exact HI0.out | apply Zc.alloc | apply Zc.drewN | apply Zc.drew | apply Zc.Zv | refine Zc.far ?_ NB0_521.out _) | exact HI0.out)) hb); clear hb hbox hg; have hnb34 := NB532_521.out; have hnc34 := NB521_532.out; have hnb35 := NB532_0.out; have hnc35 := NB0_532.out; have hcz36_0 : w33.cell? ⟨gb532, 0, none⟩ = some (.int .u16 0) := (Zg BK532.out 0).trans rfl; have hcz36_1 : w33.cell? ⟨gb532, 1, none⟩ = some (.int .u8 0) := (Zg BK532.out 1).trans rfl; have hcz36_2 : w33.cell? ⟨gb532, 2, none⟩ = some (.int .u8 0) := (Zg BK532.out 2).trans rfl; have hcz36_3 : w33.cell? ⟨gb532, 3, none⟩ = some (.int .u32 0) := (Zg BK532.out 3).trans rfl; have hfz36_0 := Zl BK532.out 0; have hfz36_1 := Zl BK532.out 1; have hfz36_2 := Zl BK532.out 2; have hfz36_3 := Zl BK532.out 3))
         (try simp only [Act.put, ZD, ZE, ZF])
         go_cut [61] (fun v61 wc => ∃ (kq : Nat) (x61_30 : Bool), v61 = .bool x61_30 ∧ Za (Zax.j2 kq x8_15 (wrap64 ((wrap64 (a2 - a1)) - 2)) x61_30 s0_0 t531 (IntKind.u16.wrap (x8_15)) 0 0 t530 = some (r1, r2, r3, r4, r5)) ∧ Za (kq ≤ kj15) ∧ Za (wc.heap[gb521]? = some (.cells #[.int .u16 0, .int .u8 0, .int .u8 0, .int .u32 0] 54 (0, 0))) ∧ Za (wc.heap[gb532]? = some (.cells #[.int .u16 (IntKind.u16.wrap (x8_15)), .int .u8 0, .int .u8 0, .int .u32 t530] 54 (0, 0))) ∧ Za (Zc w0 wc g s0_0 t531) ∧ Za (Zm w wc g none) ∧ Za (Below w0.heap.size w0 wc))
         case first =>
          have H := HC31.out
          clear HC31
          by_cases c37 : x8_15 = 96
          ·rw [if_pos c37] at H
           have c37b0 : (x8_15 == 96) = true := beq_iff_eq.mpr c37
           have c37b1 : (x8_15 != 96) = false := bne_eq_false_iff_eq.mpr c37
           clear c37
           (first | rw [c37b0] | (simp only [Zn, Zq]; rw [c37b0]) | skip)
           have H' := Za.mk H
           clear H
           go_wp2
           go_meet
           case rel => exact ⟨_, (true), (by first | rfl | (simp; done) | (simp [*]; done)), H', ⟨by have := HJ9.out; have := HJ15.out; first | omega | exact Nat.le_refl _⟩, ⟨by (with_reducible repeat (first | refine Zj ?_ _ | refine Zh ?_ | refine Zi ?_ _)); refine Zbh ?_ NB521_532.out _; (with_reducible repeat (first | refine Zj ?_ _ | refine Zh ?_ | refine Zi ?_ _)); refine Zbh ?_ NB521_532.out _; (with_reducible repeat (first | refine Zj ?_ _ | refine Zh ?_ | refine Zi ?_ _)); refine Zbh ?_ NB521_532.out _; (with_reducible repeat (first | refine Zj ?_ _ | refine Zh ?_ | refine Zi ?_ _)); refine Zbh ?_ NB521_532.out _; (with_reducible repeat (first | refine Zj ?_ _ | refine Zh ?_ | refine Zi ?_ _)); exact BK521.out⟩, ⟨by (with_reducible repeat (first | refine Zj ?_ _ | refine Zh ?_ | refine Zi ?_ _)); refine Zu (cs := #[.int .u16 (IntKind.u16.wrap (x8_15)), .int .u8 0, .int .u8 0, .int .u32 0]) ?_ 3 _ rfl; (with_reducible repeat (first | refine Zj ?_ _ | refine Zh ?_ | refine Zi ?_ _)); refine Zu (cs := #[.int .u16 (IntKind.u16.wrap (x8_15)), .int .u8 0, .int .u8 0, .int .u32 0]) ?_ 2 _ rfl; (with_reducible repeat (first | refine Zj ?_ _ | refine Zh ?_ | refine Zi ?_ _)); refine Zu (cs := #[.int .u16 (IntKind.u16.wrap (x8_15)), .int .u8 0, .int .u8 0, .int .u32 0]) ?_ 1 _ rfl; (with_reducible repeat (first | refine Zj ?_ _ | refine Zh ?_ | refine Zi ?_ _)); refine Zu (cs := #[.int .u16 0, .int .u8 0, .int .u8 0, .int .u32 0]) ?_ 0 _ rfl; (with_reducible repeat (first | refine Zj ?_ _ | refine Zh ?_ | refine Zi ?_ _)); exact BK532.out⟩, ⟨by repeat (first | (with_reducible first | exact HI0.out | apply Zc.alloc | apply Zc.drewN | apply Zc.drew | apply Zc.Zv | refine Zc.far ?_ NB0_521.out _ | refine Zc.far ?_ NB0_532.out _) | exact HI0.out)⟩, ⟨by repeat (first | (with_reducible first | exact HK.out | apply Zm.set_ | apply Zaa | apply Zac | apply Zab | refine Zak ?_ GW521.out _ | refine Zak ?_ GW532.out _) | exact HK.out)⟩, ⟨by repeat (first | (with_reducible first | exact HB.out | apply Ze | apply Zf | apply Zd | refine Zk ?_ (Zc.ge HI0.out) | refine Zk ?_ GE521.out | refine Zk ?_ GE532.out) | exact HB.out)⟩⟩
          ·rw [if_neg c37] at H
           have c37b0 : (x8_15 == 96) = false := beq_eq_false_iff_ne.mpr c37
           have c37b1 : (x8_15 != 96) = true := bne_iff_ne.mpr c37
           (first | rw [c37b0] | (simp only [Zn, Zq]; rw [c37b0]) | skip)
           by_cases c38 : x8_15 = 97
           ·rw [if_pos c38] at H
            have c38b0 : (x8_15 == 97) = true := beq_iff_eq.mpr c38
            have c38b1 : (x8_15 != 97) = false := bne_eq_false_iff_eq.mpr c38
            clear c38
            have H' := Za.mk H
            clear H
            go_wp2
            go_meet
            case rel => exact ⟨_, (true), (by first | rfl | (simp; done) | (simp [*]; done)), H', ⟨by have := HJ9.out; have := HJ15.out; first | omega | exact Nat.le_refl _⟩, ⟨by (with_reducible repeat (first | refine Zj ?_ _ | refine Zh ?_ | refine Zi ?_ _)); refine Zbh ?_ NB521_532.out _; (with_reducible repeat (first | refine Zj ?_ _ | refine Zh ?_ | refine Zi ?_ _)); refine Zbh ?_ NB521_532.out _; (with_reducible repeat (first | refine Zj ?_ _ | refine Zh ?_ | refine Zi ?_ _)); refine Zbh ?_ NB521_532.out _; (with_reducible repeat (first | refine Zj ?_ _ | refine Zh ?_ | refine Zi ?_ _)); refine Zbh ?_ NB521_532.out _; (with_reducible repeat (first | refine Zj ?_ _ | refine Zh ?_ | refine Zi ?_ _)); exact BK521.out⟩, ⟨by (with_reducible repeat (first | refine Zj ?_ _ | refine Zh ?_ | refine Zi ?_ _)); refine Zu (cs := #[.int .u16 (IntKind.u16.wrap (x8_15)), .int .u8 0, .int .u8 0, .int .u32 0]) ?_ 3 _ rfl; (with_reducible repeat (first | refine Zj ?_ _ | refine Zh ?_ | refine Zi ?_ _)); refine Zu (cs := #[.int .u16 (IntKind.u16.wrap (x8_15)), .int .u8 0, .int .u8 0, .int .u32 0]) ?_ 2 _ rfl; (with_reducible repeat (first | refine Zj ?_ _ | refine Zh ?_ | refine Zi ?_ _)); refine Zu (cs := #[.int .u16 (IntKind.u16.wrap (x8_15)), .int .u8 0, .int .u8 0, .int .u32 0]) ?_ 1 _ rfl; (with_reducible repeat (first | refine Zj ?_ _ | refine Zh ?_ | refine Zi ?_ _)); refine Zu (cs := #[.int .u16 0, .int .u8 0, .int .u8 0, .int .u32 0]) ?_ 0 _ rfl; (with_reducible repeat (first | refine Zj ?_ _ | refine Zh ?_ | refine Zi ?_ _)); exact BK532.out⟩, ⟨by repeat (first | (with_reducible first | exact HI0.out | apply Zc.alloc | apply Zc.drewN | apply Zc.drew | apply Zc.Zv | refine Zc.far ?_ NB0_521.out _ | refine Zc.far ?_ NB0_532.out _) | exact HI0.out)⟩, ⟨by repeat (first | (with_reducible first | exact HK.out | apply Zm.set_ | apply Zaa | apply Zac | apply Zab | refine Zak ?_ GW521.out _ | refine Zak ?_ GW532.out _) | exact HK.out)⟩, ⟨by repeat (first | (with_reducible first | exact HB.out | apply Ze | apply Zf | apply Zd | refine Zk ?_ (Zc.ge HI0.out) | refine Zk ?_ GE521.out | refine Zk ?_ GE532.out) | exact HB.out)⟩⟩
           ·rw [if_neg c38] at H
            have c38b0 : (x8_15 == 97) = false := beq_eq_false_iff_ne.mpr c38
            have c38b1 : (x8_15 != 97) = true := bne_iff_ne.mpr c38
            by_cases c39 : x8_15 = 2
            ·rw [if_pos c39] at H
             have c39b0 : (x8_15 == 2) = true := beq_iff_eq.mpr c39
             have c39b1 : (x8_15 != 2) = false := bne_eq_false_iff_eq.mpr c39
             clear c39
             have H' := Za.mk H
             clear H
             go_wp2
             go_meet
             case rel => exact ⟨_, (true), (by first | rfl | (simp; done) | (simp [*]; done)), H', ⟨by have := HJ9.out; have := HJ15.out; first | omega | exact Nat.le_refl _⟩, ⟨by (with_reducible repeat (first | refine Zj ?_ _ | refine Zh ?_ | refine Zi ?_ _)); refine Zbh ?_ NB521_532.out _; (with_reducible repeat (first | refine Zj ?_ _ | refine Zh ?_ | refine Zi ?_ _)); refine Zbh ?_ NB521_532.out _; (with_reducible repeat (first | refine Zj ?_ _ | refine Zh ?_ | refine Zi ?_ _)); refine Zbh ?_ NB521_532.out _; (with_reducible repeat (first | refine Zj ?_ _ | refine Zh ?_ | refine Zi ?_ _)); refine Zbh ?_ NB521_532.out _; (with_reducible repeat (first | refine Zj ?_ _ | refine Zh ?_ | refine Zi ?_ _)); exact BK521.out⟩, ⟨by (with_reducible repeat (first | refine Zj ?_ _ | refine Zh ?_ | refine Zi ?_ _)); refine Zu (cs := #[.int .u16 (IntKind.u16.wrap (x8_15)), .int .u8 0, .int .u8 0, .int .u32 0]) ?_ 3 _ rfl; (with_reducible repeat (first | refine Zj ?_ _ | refine Zh ?_ | refine Zi ?_ _)); refine Zu (cs := #[.int .u16 (IntKind.u16.wrap (x8_15)), .int .u8 0, .int .u8 0, .int .u32 0]) ?_ 2 _ rfl; (with_reducible repeat (first | refine Zj ?_ _ | refine Zh ?_ | refine Zi ?_ _)); refine Zu (cs := #[.int .u16 (IntKind.u16.wrap (x8_15)), .int .u8 0, .int .u8 0, .int .u32 0]) ?_ 1 _ rfl; (with_reducible repeat (first | refine Zj ?_ _ | refine Zh ?_ | refine Zi ?_ _)); refine Zu (cs := #[.int .u16 0, .int .u8 0, .int .u8 0, .int .u32 0]) ?_ 0 _ rfl; (with_reducible repeat (first | refine Zj ?_ _ | refine Zh ?_ | refine Zi ?_ _)); exact BK532.out⟩, ⟨by repeat (first | (with_reducible first | exact HI0.out | apply Zc.alloc | apply Zc.drewN | apply Zc.drew | apply Zc.Zv | refine Zc.far ?_ NB0_521.out _ | refine Zc.far ?_ NB0_532.out _) | exact HI0.out)⟩, ⟨by repeat (first | (with_reducible first | exact HK.out | apply Zm.set_ | apply Zaa | apply Zac | apply Zab | refine Zak ?_ GW521.out _ | refine Zak ?_ GW532.out _) | exact HK.out)⟩, ⟨by repeat (first | (with_reducible first | exact HB.out | apply Ze | apply Zf | apply Zd | refine Zk ?_ (Zc.ge HI0.out) | refine Zk ?_ GE521.out | refine Zk ?_ GE532.out) | exact HB.out)⟩⟩
            ·rw [if_neg c39] at H
             have c39b0 : (x8_15 == 2) = false := beq_eq_false_iff_ne.mpr c39
             have c39b1 : (x8_15 != 2) = true := bne_iff_ne.mpr c39
             have H' := Za.mk H
             clear H
             go_wp2
             go_meet
             case rel => exact ⟨_, ((x8_15 == 3)), (by first | rfl | (simp; done) | (simp [*]; done)), H', ⟨by have := HJ9.out; have := HJ15.out; first | omega | exact Nat.le_refl _⟩, ⟨by (with_reducible repeat (first | refine Zj ?_ _ | refine Zh ?_ | refine Zi ?_ _)); refine Zbh ?_ NB521_532.out _; (with_reducible repeat (first | refine Zj ?_ _ | refine Zh ?_ | refine Zi ?_ _)); refine Zbh ?_ NB521_532.out _; (with_reducible repeat (first | refine Zj ?_ _ | refine Zh ?_ | refine Zi ?_ _)); refine Zbh ?_ NB521_532.out _; (with_reducible repeat (first | refine Zj ?_ _ | refine Zh ?_ | refine Zi ?_ _)); refine Zbh ?_ NB521_532.out _; (with_reducible repeat (first | refine Zj ?_ _ | refine Zh ?_ | refine Zi ?_ _)); exact BK521.out⟩, ⟨by (with_reducible repeat (first | refine Zj ?_ _ | refine Zh ?_ | refine Zi ?_ _)); refine Zu (cs := #[.int .u16 (IntKind.u16.wrap (x8_15)), .int .u8 0, .int .u8 0, .int .u32 0]) ?_ 3 _ rfl; (with_reducible repeat (first | refine Zj ?_ _ | refine Zh ?_ | refine Zi ?_ _)); refine Zu (cs := #[.int .u16 (IntKind.u16.wrap (x8_15)), .int .u8 0, .int .u8 0, .int .u32 0]) ?_ 2 _ rfl; (with_reducible repeat (first | refine Zj ?_ _ | refine Zh ?_ | refine Zi ?_ _)); refine Zu (cs := #[.int .u16 (IntKind.u16.wrap (x8_15)), .int .u8 0, .int .u8 0, .int .u32 0]) ?_ 1 _ rfl; (with_reducible repeat (first | refine Zj ?_ _ | refine Zh ?_ | refine Zi ?_ _)); refine Zu (cs := #[.int .u16 0, .int .u8 0, .int .u8 0, .int .u32 0]) ?_ 0 _ rfl; (with_reducible repeat (first | refine Zj ?_ _ | refine Zh ?_ | refine Zi ?_ _)); exact BK532.out⟩, ⟨by repeat (first | (with_reducible first | exact HI0.out | apply Zc.alloc | apply Zc.drewN | apply Zc.drew | apply Zc.Zv | refine Zc.far ?_ NB0_521.out _ | refine Zc.far ?_ NB0_532.out _) | exact HI0.out)⟩, ⟨by repeat (first | (with_reducible first | exact HK.out | apply Zm.set_ | apply Zaa | apply Zac | apply Zab | refine Zak ?_ GW521.out _ | refine Zak ?_ GW532.out _) | exact HK.out)⟩, ⟨by repeat (first | (with_reducible first | exact HB.out | apply Ze | apply Zf | apply Zd | refine Zk ?_ (Zc.ge HI0.out) | refine Zk ?_ GE521.out | refine Zk ?_ GE532.out) | exact HB.out)⟩⟩
         case rest =>
          clear HC31
          try clear c1
          try clear c2
          try clear p2
          try clear c3
          try clear c4
          try clear c5
          try clear p5
          try clear q5
          try clear hx5
          try clear c6
          try clear c6b0
          try clear c6b1
          try clear c6b2
          try clear p6
          try clear c7
          try clear c8
          try clear c8b0
          try clear c9
          try clear c9b0
          try clear c15
          try clear c15b0
          try clear c15b1
          try clear c17
          try clear c19
          try clear c19b0
          try clear c23
          try clear c23b0
          try clear c23b1
          try clear c26
          try clear c27
          try clear c29
          try clear c34
          try clear c35
          try clear c37
          try clear c37b0
          try clear c37b1
          try clear c38
          try clear c38b0
          try clear c38b1
          try clear c39
          try clear c39b0
          try clear c39b1
          try clear hcz28_0
          try clear hcz28_1
          try clear hcz28_2
          try clear hcz28_3
          try clear hcz30_0
          try clear hcz30_1
          try clear hcz30_2
          try clear hcz30_3
          try clear hcz36_0
          try clear hcz36_1
          try clear hcz36_2
          try clear hcz36_3
          try clear hfz28_0
          try clear hfz28_1
          try clear hfz28_2
          try clear hfz28_3
          try clear hfz30_0
          try clear hfz30_1
          try clear hfz30_2
          try clear hfz30_3
          try clear hfz36_0
          try clear hfz36_1
          try clear hfz36_2
          try clear hfz36_3
          try clear hx527_0
          try clear p2
          try clear p5
          try clear p527
          try clear q5
          try clear q527
          obtain ⟨kq, x61_30, rfl, HA, HJ30, BK521, BK532, HI0, HK, HB⟩ := hcut
          cases kq with
          | zero => exact absurd HA.out (by simp [Zax.j2])
          | succ kj30 =>
           have H := HA.out
           clear HA
           simp only [Zax.j2] at H
           by_cases c40 : x61_30 = true
           ·subst c40
            have H1 : ((Zar.f s0_0 t531).bind fun bt533 => (if bt533.1 = 7 then (some ((IntKind.u16.wrap (x8_15)), 0, 0, 15, bt533.2)) else (some ((IntKind.u16.wrap (x8_15)), 0, 0, Int.tmod t530 3, bt533.2)))) = some (r1, r2, r3, r4, r5) := by rw [if_pos rfl] at H; exact H
            clear H
            have H := H1
            clear H1
            replace H := Option.bind_eq_some_iff.mp H
            obtain ⟨⟨t533, t534⟩, A410, H⟩ := H
            (try dsimp only at H)
            have A41 := Za.mk A410
            clear A410
            by_cases c42 : t533 = 7
            ·rw [if_pos c42] at H
             have c42b0 : (t533 == 7) = true := beq_iff_eq.mpr c42
             have c42b1 : (t533 != 7) = false := bne_eq_false_iff_eq.mpr c42
             clear c42
             simp only [Option.some.injEq, Prod.mk.injEq] at H
             obtain ⟨rfl, rfl, rfl, rfl, rfl⟩ := H
             have hnb43 := NB532_521.out
             have hnc43 := NB521_532.out
             have hnb44 := NB532_0.out
             have hnc44 := NB0_532.out
             have hcz45_0 : wc.cell? ⟨gb532, 0, none⟩ = some (.int .u16 (IntKind.u16.wrap (x8_15))) := (Zg BK532.out 0).trans rfl
             have hcz45_1 : wc.cell? ⟨gb532, 1, none⟩ = some (.int .u8 0) := (Zg BK532.out 1).trans rfl
             have hcz45_2 : wc.cell? ⟨gb532, 2, none⟩ = some (.int .u8 0) := (Zg BK532.out 2).trans rfl
             have hcz45_3 : wc.cell? ⟨gb532, 3, none⟩ = some (.int .u32 t530) := (Zg BK532.out 3).trans rfl
             have hfz45_0 := Zl BK532.out 0
             have hfz45_1 := Zl BK532.out 1
             have hfz45_2 := Zl BK532.out 2
             have hfz45_3 := Zl BK532.out 3
             go_wp2_with (first | ((with_reducible refine Zaf (f := 44) rfl ?_); refine Zae (some 67) rfl rfl Try.func44 (by kernel_rfl) rfl #[.pointer (some ⟨g, 0, none⟩)] rfl (by (try simp only [ZA, ZB, ZC]); first | done | rfl) ?_; (with_reducible refine (Zar.calls g s0_0 t531 t533 t534 w0 _ ?side1 ?side2 A41.out).mono ?_); (case side1 => repeat (first | (with_reducible first | exact HI0.out | apply Zc.alloc | apply Zc.drewN | apply Zc.drew | apply Zc.Zv | refine Zc.far ?_ NB0_521.out _ | refine Zc.far ?_ NB0_532.out _) | exact HI0.out)); (case side2 => repeat (first | (with_reducible first | exact HB.out | apply Ze | apply Zf | apply Zd | refine Zk ?_ (Zc.ge HI0.out) | refine Zk ?_ GE521.out | refine Zk ?_ GE532.out) | exact HB.out)); rintro e w46 ⟨rfl, hi, hb, hk⟩; refine ⟨_, rfl, ?_⟩; replace BK521 := Za.mk (Zm.blk hk (g' := gb521) (o := .cells #[.int .u16 0, .int .u8 0, .int .u8 0, .int .u32 0] 54 (0, 0)) (by (with_reducible repeat (first | refine Zj ?_ _ | refine Zh ?_ | refine Zi ?_ _)); refine Zbh ?_ NB521_532.out _; (with_reducible repeat (first | refine Zj ?_ _ | refine Zh ?_ | refine Zi ?_ _)); exact BK521.out) NB521_0.out (by simp)); replace BK532 := Za.mk (Zm.blk hk (g' := gb532) (o := .cells #[.int .u16 (IntKind.u16.wrap (x8_15)), .int .u8 0, .int .u8 0, .int .u32 (Int.tmod t530 3)] 54 (0, 0)) (by (with_reducible repeat (first | refine Zj ?_ _ | refine Zh ?_ | refine Zi ?_ _)); refine Zu (cs := #[.int .u16 (IntKind.u16.wrap (x8_15)), .int .u8 0, .int .u8 0, .int .u32 t530]) ?_ 3 _ rfl; (with_reducible repeat (first | refine Zj ?_ _ | refine Zh ?_ | refine Zi ?_ _)); exact BK532.out) NB532_0.out (by simp)); replace HK := Za.mk (Zm.trans (by repeat (first | (with_reducible first | exact HK.out | apply Zm.set_ | apply Zaa | apply Zac | apply Zab | refine Zak ?_ GW521.out _ | refine Zak ?_ GW532.out _) | exact HK.out)) hk (.inl rfl)); replace HB := Za.mk (hb); replace HI0 := Za.mk (hi); (try clear hb); (try clear hb2); (try clear hk); (try clear hi); have hcz47_0 : w46.cell? ⟨gb532, 0, none⟩ = some (.int .u16 (IntKind.u16.wrap (x8_15))) := (Zg BK532.out 0).trans rfl; have hcz47_1 : w46.cell? ⟨gb532, 1, none⟩ = some (.int .u8 0) := (Zg BK532.out 1).trans rfl; have hcz47_2 : w46.cell? ⟨gb532, 2, none⟩ = some (.int .u8 0) := (Zg BK532.out 2).trans rfl; have hcz47_3 : w46.cell? ⟨gb532, 3, none⟩ = some (.int .u32 (Int.tmod t530 3)) := (Zg BK532.out 3).trans rfl; have hfz47_0 := Zl BK532.out 0; have hfz47_1 := Zl BK532.out 1; have hfz47_2 := Zl BK532.out 2; have hfz47_3 := Zl BK532.out 3; have hnb48 := NB521_0.out; have hnc48 := NB0_521.out; have hcz49_0 : w46.cell? ⟨gb521, 0, none⟩ = some (.int .u16 0) := (Zg BK521.out 0).trans rfl; have hcz49_1 : w46.cell? ⟨gb521, 1, none⟩ = some (.int .u8 0) := (Zg BK521.out 1).trans rfl; have hcz49_2 : w46.cell? ⟨gb521, 2, none⟩ = some (.int .u8 0) := (Zg BK521.out 2).trans rfl; have hcz49_3 : w46.cell? ⟨gb521, 3, none⟩ = some (.int .u32 0) := (Zg BK521.out 3).trans rfl; have hfz49_0 := Zl BK521.out 0; have hfz49_1 := Zl BK521.out 1; have hfz49_2 := Zl BK521.out 2; have hfz49_3 := Zl BK521.out 3))
             refine bodyPost_ret (results_cell_row rfl _ _ gb521 54 #[.int .u16 (IntKind.u16.wrap (x8_15)), .int .u8 0, .int .u8 0, .int .u32 15] (0, 0) _ rfl (by (with_reducible repeat (first | refine Zj ?_ _ | refine Zh ?_ | refine Zi ?_ _)); refine Zu (cs := #[.int .u16 (IntKind.u16.wrap (x8_15)), .int .u8 0, .int .u8 0, .int .u32 0]) ?_ 3 _ rfl; (with_reducible repeat (first | refine Zj ?_ _ | refine Zh ?_ | refine Zi ?_ _)); refine Zu (cs := #[.int .u16 (IntKind.u16.wrap (x8_15)), .int .u8 0, .int .u8 0, .int .u32 0]) ?_ 2 _ rfl; (with_reducible repeat (first | refine Zj ?_ _ | refine Zh ?_ | refine Zi ?_ _)); refine Zu (cs := #[.int .u16 (IntKind.u16.wrap (x8_15)), .int .u8 0, .int .u8 0, .int .u32 0]) ?_ 1 _ rfl; (with_reducible repeat (first | refine Zj ?_ _ | refine Zh ?_ | refine Zi ?_ _)); refine Zu (cs := #[.int .u16 0, .int .u8 0, .int .u8 0, .int .u32 0]) ?_ 0 _ rfl; (with_reducible repeat (first | refine Zj ?_ _ | refine Zh ?_ | refine Zi ?_ _)); refine Zbh ?_ NB521_532.out _; (with_reducible repeat (first | refine Zj ?_ _ | refine Zh ?_ | refine Zi ?_ _)); exact BK521.out) Try.underlying54 rfl (by kernel_rfl)) rfl ?_
             exact ⟨by first | rfl | (simp [Zo, Zp] <;> rfl) | (simp only [← hji7]; first | rfl | (simp [Zo, Zp] <;> rfl)) | (simp [*, Zo, Zp] <;> rfl), by repeat (first | (with_reducible first | exact HI0.out | apply Zc.alloc | apply Zc.drewN | apply Zc.drew | apply Zc.Zv | refine Zc.far ?_ NB0_521.out _ | refine Zc.far ?_ NB0_532.out _) | exact HI0.out), by repeat (first | (with_reducible first | exact HB.out | apply Ze | apply Zf | apply Zd | refine Zk ?_ (Zc.ge HI0.out) | refine Zk ?_ GE521.out | refine Zk ?_ GE532.out) | exact HB.out), by repeat (first | (with_reducible first | exact HK.out | apply Zm.set_ | apply Zaa | apply Zac | apply Zab | refine Zak ?_ GW521.out _ | refine Zak ?_ GW532.out _) | exact HK.out)⟩
            ·rw [if_neg c42] at H
             have c42b0 : (t533 == 7) = false := beq_eq_false_iff_ne.mpr c42
             have c42b1 : (t533 != 7) = true := bne_iff_ne.mpr c42
             simp only [Option.some.injEq, Prod.mk.injEq] at H
             obtain ⟨rfl, rfl, rfl, rfl, rfl⟩ := H
             have hnb50 := NB532_521.out
             have hnc50 := NB521_532.out
             have hnb51 := NB532_0.out
             have hnc51 := NB0_532.out
             have hcz52_0 : wc.cell? ⟨gb532, 0, none⟩ = some (.int .u16 (IntKind.u16.wrap (x8_15))) := (Zg BK532.out 0).trans rfl
             have hcz52_1 : wc.cell? ⟨gb532, 1, none⟩ = some (.int .u8 0) := (Zg BK532.out 1).trans rfl
             have hcz52_2 : wc.cell? ⟨gb532, 2, none⟩ = some (.int .u8 0) := (Zg BK532.out 2).trans rfl
             have hcz52_3 : wc.cell? ⟨gb532, 3, none⟩ = some (.int .u32 t530) := (Zg BK532.out 3).trans rfl
             have hfz52_0 := Zl BK532.out 0
             have hfz52_1 := Zl BK532.out 1
             have hfz52_2 := Zl BK532.out 2
             have hfz52_3 := Zl BK532.out 3
             go_wp2_with (first | ((with_reducible refine Zaf (f := 44) rfl ?_); refine Zae (some 67) rfl rfl Try.func44 (by kernel_rfl) rfl #[.pointer (some ⟨g, 0, none⟩)] rfl (by (try simp only [ZA, ZB, ZC]); first | done | rfl) ?_; (with_reducible refine (Zar.calls g s0_0 t531 t533 t534 w0 _ ?side1 ?side2 A41.out).mono ?_); (case side1 => repeat (first | (with_reducible first | exact HI0.out | apply Zc.alloc | apply Zc.drewN | apply Zc.drew | apply Zc.Zv | refine Zc.far ?_ NB0_521.out _ | refine Zc.far ?_ NB0_532.out _) | exact HI0.out)); (case side2 => repeat (first | (with_reducible first | exact HB.out | apply Ze | apply Zf | apply Zd | refine Zk ?_ (Zc.ge HI0.out) | refine Zk ?_ GE521.out | refine Zk ?_ GE532.out) | exact HB.out)); rintro e w53 ⟨rfl, hi, hb, hk⟩; refine ⟨_, rfl, ?_⟩; replace BK521 := Za.mk (Zm.blk hk (g' := gb521) (o := .cells #[.int .u16 0, .int .u8 0, .int .u8 0, .int .u32 0] 54 (0, 0)) (by (with_reducible repeat (first | refine Zj ?_ _ | refine Zh ?_ | refine Zi ?_ _)); refine Zbh ?_ NB521_532.out _; (with_reducible repeat (first | refine Zj ?_ _ | refine Zh ?_ | refine Zi ?_ _)); exact BK521.out) NB521_0.out (by simp)); replace BK532 := Za.mk (Zm.blk hk (g' := gb532) (o := .cells #[.int .u16 (IntKind.u16.wrap (x8_15)), .int .u8 0, .int .u8 0, .int .u32 (Int.tmod t530 3)] 54 (0, 0)) (by (with_reducible repeat (first | refine Zj ?_ _ | refine Zh ?_ | refine Zi ?_ _)); refine Zu (cs := #[.int .u16 (IntKind.u16.wrap (x8_15)), .int .u8 0, .int .u8 0, .int .u32 t530]) ?_ 3 _ rfl; (with_reducible repeat (first | refine Zj ?_ _ | refine Zh ?_ | refine Zi ?_ _)); exact BK532.out) NB532_0.out (by simp)); replace HK := Za.mk (Zm.trans (by repeat (first | (with_reducible first | exact HK.out | apply Zm.set_ | apply Zaa | apply Zac | apply Zab | refine Zak ?_ GW521.out _ | refine Zak ?_ GW532.out _) | exact HK.out)) hk (.inl rfl)); replace HB := Za.mk (hb); replace HI0 := Za.mk (hi); (try clear hb); (try clear hb2); (try clear hk); (try clear hi); have hcz54_0 : w53.cell? ⟨gb532, 0, none⟩ = some (.int .u16 (IntKind.u16.wrap (x8_15))) := (Zg BK532.out 0).trans rfl; have hcz54_1 : w53.cell? ⟨gb532, 1, none⟩ = some (.int .u8 0) := (Zg BK532.out 1).trans rfl; have hcz54_2 : w53.cell? ⟨gb532, 2, none⟩ = some (.int .u8 0) := (Zg BK532.out 2).trans rfl; have hcz54_3 : w53.cell? ⟨gb532, 3, none⟩ = some (.int .u32 (Int.tmod t530 3)) := (Zg BK532.out 3).trans rfl; have hfz54_0 := Zl BK532.out 0; have hfz54_1 := Zl BK532.out 1; have hfz54_2 := Zl BK532.out 2; have hfz54_3 := Zl BK532.out 3; have hnb55 := NB521_0.out; have hnc55 := NB0_521.out; have hcz56_0 : w53.cell? ⟨gb521, 0, none⟩ = some (.int .u16 0) := (Zg BK521.out 0).trans rfl; have hcz56_1 : w53.cell? ⟨gb521, 1, none⟩ = some (.int .u8 0) := (Zg BK521.out 1).trans rfl; have hcz56_2 : w53.cell? ⟨gb521, 2, none⟩ = some (.int .u8 0) := (Zg BK521.out 2).trans rfl; have hcz56_3 : w53.cell? ⟨gb521, 3, none⟩ = some (.int .u32 0) := (Zg BK521.out 3).trans rfl; have hfz56_0 := Zl BK521.out 0; have hfz56_1 := Zl BK521.out 1; have hfz56_2 := Zl BK521.out 2; have hfz56_3 := Zl BK521.out 3))
             refine bodyPost_ret (results_cell_row rfl _ _ gb521 54 #[.int .u16 (IntKind.u16.wrap (x8_15)), .int .u8 0, .int .u8 0, .int .u32 (Int.tmod t530 3)] (0, 0) _ rfl (by (with_reducible repeat (first | refine Zj ?_ _ | refine Zh ?_ | refine Zi ?_ _)); refine Zu (cs := #[.int .u16 (IntKind.u16.wrap (x8_15)), .int .u8 0, .int .u8 0, .int .u32 0]) ?_ 3 _ rfl; (with_reducible repeat (first | refine Zj ?_ _ | refine Zh ?_ | refine Zi ?_ _)); refine Zu (cs := #[.int .u16 (IntKind.u16.wrap (x8_15)), .int .u8 0, .int .u8 0, .int .u32 0]) ?_ 2 _ rfl; (with_reducible repeat (first | refine Zj ?_ _ | refine Zh ?_ | refine Zi ?_ _)); refine Zu (cs := #[.int .u16 (IntKind.u16.wrap (x8_15)), .int .u8 0, .int .u8 0, .int .u32 0]) ?_ 1 _ rfl; (with_reducible repeat (first | refine Zj ?_ _ | refine Zh ?_ | refine Zi ?_ _)); refine Zu (cs := #[.int .u16 0, .int .u8 0, .int .u8 0, .int .u32 0]) ?_ 0 _ rfl; (with_reducible repeat (first | refine Zj ?_ _ | refine Zh ?_ | refine Zi ?_ _)); exact BK521.out) Try.underlying54 rfl (by kernel_rfl)) rfl ?_
             exact ⟨by first | rfl | (simp [Zo, Zp] <;> rfl) | (simp only [← hji7]; first | rfl | (simp [Zo, Zp] <;> rfl)) | (simp [*, Zo, Zp] <;> rfl), by repeat (first | (with_reducible first | exact HI0.out | apply Zc.alloc | apply Zc.drewN | apply Zc.drew | apply Zc.Zv | refine Zc.far ?_ NB0_521.out _ | refine Zc.far ?_ NB0_532.out _) | exact HI0.out), by repeat (first | (with_reducible first | exact HB.out | apply Ze | apply Zf | apply Zd | refine Zk ?_ (Zc.ge HI0.out) | refine Zk ?_ GE521.out | refine Zk ?_ GE532.out) | exact HB.out), by repeat (first | (with_reducible first | exact HK.out | apply Zm.set_ | apply Zaa | apply Zac | apply Zab | refine Zak ?_ GW521.out _ | refine Zak ?_ GW532.out _) | exact HK.out)⟩
           ·replace c40 := Bool.eq_false_iff.mpr c40
            subst c40
            have H1 : (if x8_15 = 5 then (if ((wrap64 ((wrap64 ((wrap64 (a2 - a1)) - 2)) + 1)) % 4294967296) = 0 then (none) else (some ((IntKind.u16.wrap (x8_15)), 0, 0, Int.tmod (Int.tmod t530 ((wrap64 ((wrap64 ((wrap64 (a2 - a1)) - 2)) + 1)) % 4294967296)) 5, t531))) else (if x8_15 = 52 then (some ((IntKind.u16.wrap (x8_15)), 0, 0, Go.bits .or .u32 t530 1, t531)) else (if x8_15 = 100 then (Zax.j3 kj30 x8_15 (wrap64 ((wrap64 (a2 - a1)) - 2)) true s0_0 t531 (IntKind.u16.wrap (x8_15)) 0 0 t530) else (Zax.j3 kj30 x8_15 (wrap64 ((wrap64 (a2 - a1)) - 2)) (x8_15 == 116) s0_0 t531 (IntKind.u16.wrap (x8_15)) 0 0 t530)))) = some (r1, r2, r3, r4, r5) := by rw [if_neg (show ¬ (false = true) by decide)] at H; exact H
            clear H
            have H := H1
            clear H1
            by_cases c57 : x8_15 = 5
            ·rw [if_pos c57] at H
             have c57b0 : (x8_15 == 5) = true := beq_iff_eq.mpr c57
             have c57b1 : (x8_15 != 5) = false := bne_eq_false_iff_eq.mpr c57
             clear c57
             by_cases c58 : ((wrap64 ((wrap64 ((wrap64 (a2 - a1)) - 2)) + 1)) % 4294967296) = 0
             ·rw [if_pos c58] at H
              exact absurd H (by simp)
             ·rw [if_neg c58] at H
              have c58b0 : (((wrap64 ((wrap64 ((wrap64 (a2 - a1)) - 2)) + 1)) % 4294967296) == 0) = false := beq_eq_false_iff_ne.mpr c58
              have c58b1 : (((wrap64 ((wrap64 ((wrap64 (a2 - a1)) - 2)) + 1)) % 4294967296) != 0) = true := bne_iff_ne.mpr c58
              simp only [Option.some.injEq, Prod.mk.injEq] at H
              obtain ⟨rfl, rfl, rfl, rfl, rfl⟩ := H
              have hnb59 := NB532_521.out
              have hnc59 := NB521_532.out
              have hnb60 := NB532_0.out
              have hnc60 := NB0_532.out
              have hcz61_0 : wc.cell? ⟨gb532, 0, none⟩ = some (.int .u16 (IntKind.u16.wrap (x8_15))) := (Zg BK532.out 0).trans rfl
              have hcz61_1 : wc.cell? ⟨gb532, 1, none⟩ = some (.int .u8 0) := (Zg BK532.out 1).trans rfl
              have hcz61_2 : wc.cell? ⟨gb532, 2, none⟩ = some (.int .u8 0) := (Zg BK532.out 2).trans rfl
              have hcz61_3 : wc.cell? ⟨gb532, 3, none⟩ = some (.int .u32 t530) := (Zg BK532.out 3).trans rfl
              have hfz61_0 := Zl BK532.out 0
              have hfz61_1 := Zl BK532.out 1
              have hfz61_2 := Zl BK532.out 2
              have hfz61_3 := Zl BK532.out 3
              have hnb62 := NB521_0.out
              have hnc62 := NB0_521.out
              have hcz63_0 : wc.cell? ⟨gb521, 0, none⟩ = some (.int .u16 0) := (Zg BK521.out 0).trans rfl
              have hcz63_1 : wc.cell? ⟨gb521, 1, none⟩ = some (.int .u8 0) := (Zg BK521.out 1).trans rfl
              have hcz63_2 : wc.cell? ⟨gb521, 2, none⟩ = some (.int .u8 0) := (Zg BK521.out 2).trans rfl
              have hcz63_3 : wc.cell? ⟨gb521, 3, none⟩ = some (.int .u32 0) := (Zg BK521.out 3).trans rfl
              have hfz63_0 := Zl BK521.out 0
              have hfz63_1 := Zl BK521.out 1
              have hfz63_2 := Zl BK521.out 2
              have hfz63_3 := Zl BK521.out 3
              go_wp2
              refine bodyPost_ret (results_cell_row rfl _ _ gb521 54 #[.int .u16 (IntKind.u16.wrap (x8_15)), .int .u8 0, .int .u8 0, .int .u32 (Int.tmod (Int.tmod t530 ((wrap64 ((wrap64 ((wrap64 (a2 - a1)) - 2)) + 1)) % 4294967296)) 5)] (0, 0) _ rfl (by (with_reducible repeat (first | refine Zj ?_ _ | refine Zh ?_ | refine Zi ?_ _)); refine Zu (cs := #[.int .u16 (IntKind.u16.wrap (x8_15)), .int .u8 0, .int .u8 0, .int .u32 0]) ?_ 3 _ rfl; (with_reducible repeat (first | refine Zj ?_ _ | refine Zh ?_ | refine Zi ?_ _)); refine Zu (cs := #[.int .u16 (IntKind.u16.wrap (x8_15)), .int .u8 0, .int .u8 0, .int .u32 0]) ?_ 2 _ rfl; (with_reducible repeat (first | refine Zj ?_ _ | refine Zh ?_ | refine Zi ?_ _)); refine Zu (cs := #[.int .u16 (IntKind.u16.wrap (x8_15)), .int .u8 0, .int .u8 0, .int .u32 0]) ?_ 1 _ rfl; (with_reducible repeat (first | refine Zj ?_ _ | refine Zh ?_ | refine Zi ?_ _)); refine Zu (cs := #[.int .u16 0, .int .u8 0, .int .u8 0, .int .u32 0]) ?_ 0 _ rfl; (with_reducible repeat (first | refine Zj ?_ _ | refine Zh ?_ | refine Zi ?_ _)); refine Zbh ?_ NB521_532.out _; (with_reducible repeat (first | refine Zj ?_ _ | refine Zh ?_ | refine Zi ?_ _)); exact BK521.out) Try.underlying54 rfl (by kernel_rfl)) rfl ?_
              exact ⟨by first | rfl | (simp [Zo, Zp] <;> rfl) | (simp only [← hji7]; first | rfl | (simp [Zo, Zp] <;> rfl)) | (simp [*, Zo, Zp] <;> rfl), by repeat (first | (with_reducible first | exact HI0.out | apply Zc.alloc | apply Zc.drewN | apply Zc.drew | apply Zc.Zv | refine Zc.far ?_ NB0_521.out _ | refine Zc.far ?_ NB0_532.out _) | exact HI0.out), by repeat (first | (with_reducible first | exact HB.out | apply Ze | apply Zf | apply Zd | refine Zk ?_ (Zc.ge HI0.out) | refine Zk ?_ GE521.out | refine Zk ?_ GE532.out) | exact HB.out), by repeat (first | (with_reducible first | exact HK.out | apply Zm.set_ | apply Zaa | apply Zac | apply Zab | refine Zak ?_ GW521.out _ | refine Zak ?_ GW532.out _) | exact HK.out)⟩
            ·rw [if_neg c57] at H
             have c57b0 : (x8_15 == 5) = false := beq_eq_false_iff_ne.mpr c57
             have c57b1 : (x8_15 != 5) = true := bne_iff_ne.mpr c57
             by_cases c64 : x8_15 = 52
             ·rw [if_pos c64] at H
              have c64b0 : (x8_15 == 52) = true := beq_iff_eq.mpr c64
              have c64b1 : (x8_15 != 52) = false := bne_eq_false_iff_eq.mpr c64
              clear c64
              simp only [Option.some.injEq, Prod.mk.injEq] at H
              obtain ⟨rfl, rfl, rfl, rfl, rfl⟩ := H
              have hnb65 := NB532_521.out
              have hnc65 := NB521_532.out
              have hnb66 := NB532_0.out
              have hnc66 := NB0_532.out
              have hcz67_0 : wc.cell? ⟨gb532, 0, none⟩ = some (.int .u16 (IntKind.u16.wrap (x8_15))) := (Zg BK532.out 0).trans rfl
              have hcz67_1 : wc.cell? ⟨gb532, 1, none⟩ = some (.int .u8 0) := (Zg BK532.out 1).trans rfl
              have hcz67_2 : wc.cell? ⟨gb532, 2, none⟩ = some (.int .u8 0) := (Zg BK532.out 2).trans rfl
              have hcz67_3 : wc.cell? ⟨gb532, 3, none⟩ = some (.int .u32 t530) := (Zg BK532.out 3).trans rfl
              have hfz67_0 := Zl BK532.out 0
              have hfz67_1 := Zl BK532.out 1
              have hfz67_2 := Zl BK532.out 2
              have hfz67_3 := Zl BK532.out 3
              have hnb68 := NB521_0.out
              have hnc68 := NB0_521.out
              have hcz69_0 : wc.cell? ⟨gb521, 0, none⟩ = some (.int .u16 0) := (Zg BK521.out 0).trans rfl
              have hcz69_1 : wc.cell? ⟨gb521, 1, none⟩ = some (.int .u8 0) := (Zg BK521.out 1).trans rfl
              have hcz69_2 : wc.cell? ⟨gb521, 2, none⟩ = some (.int .u8 0) := (Zg BK521.out 2).trans rfl
              have hcz69_3 : wc.cell? ⟨gb521, 3, none⟩ = some (.int .u32 0) := (Zg BK521.out 3).trans rfl
              have hfz69_0 := Zl BK521.out 0
              have hfz69_1 := Zl BK521.out 1
              have hfz69_2 := Zl BK521.out 2
              have hfz69_3 := Zl BK521.out 3
              go_wp2
              refine bodyPost_ret (results_cell_row rfl _ _ gb521 54 #[.int .u16 (IntKind.u16.wrap (x8_15)), .int .u8 0, .int .u8 0, .int .u32 (Go.bits .or .u32 t530 1)] (0, 0) _ rfl (by (with_reducible repeat (first | refine Zj ?_ _ | refine Zh ?_ | refine Zi ?_ _)); refine Zu (cs := #[.int .u16 (IntKind.u16.wrap (x8_15)), .int .u8 0, .int .u8 0, .int .u32 0]) ?_ 3 _ rfl; (with_reducible repeat (first | refine Zj ?_ _ | refine Zh ?_ | refine Zi ?_ _)); refine Zu (cs := #[.int .u16 (IntKind.u16.wrap (x8_15)), .int .u8 0, .int .u8 0, .int .u32 0]) ?_ 2 _ rfl; (with_reducible repeat (first | refine Zj ?_ _ | refine Zh ?_ | refine Zi ?_ _)); refine Zu (cs := #[.int .u16 (IntKind.u16.wrap (x8_15)), .int .u8 0, .int .u8 0, .int .u32 0]) ?_ 1 _ rfl; (with_reducible repeat (first | refine Zj ?_ _ | refine Zh ?_ | refine Zi ?_ _)); refine Zu (cs := #[.int .u16 0, .int .u8 0, .int .u8 0, .int .u32 0]) ?_ 0 _ rfl; (with_reducible repeat (first | refine Zj ?_ _ | refine Zh ?_ | refine Zi ?_ _)); refine Zbh ?_ NB521_532.out _; (with_reducible repeat (first | refine Zj ?_ _ | refine Zh ?_ | refine Zi ?_ _)); exact BK521.out) Try.underlying54 rfl (by kernel_rfl)) rfl ?_
              exact ⟨by first | rfl | (simp [Zo, Zp] <;> rfl) | (simp only [← hji7]; first | rfl | (simp [Zo, Zp] <;> rfl)) | (simp [*, Zo, Zp] <;> rfl), by repeat (first | (with_reducible first | exact HI0.out | apply Zc.alloc | apply Zc.drewN | apply Zc.drew | apply Zc.Zv | refine Zc.far ?_ NB0_521.out _ | refine Zc.far ?_ NB0_532.out _) | exact HI0.out), by repeat (first | (with_reducible first | exact HB.out | apply Ze | apply Zf | apply Zd | refine Zk ?_ (Zc.ge HI0.out) | refine Zk ?_ GE521.out | refine Zk ?_ GE532.out) | exact HB.out), by repeat (first | (with_reducible first | exact HK.out | apply Zm.set_ | apply Zaa | apply Zac | apply Zab | refine Zak ?_ GW521.out _ | refine Zak ?_ GW532.out _) | exact HK.out)⟩
             ·rw [if_neg c64] at H
              have c64b0 : (x8_15 == 52) = false := beq_eq_false_iff_ne.mpr c64
              have c64b1 : (x8_15 != 52) = true := bne_iff_ne.mpr c64
              have HC70 := Za.mk H
              clear H
              go_upto_region 18 with (fail)
              go_cut [91] (fun v91 wc => ∃ (kq : Nat) (x91_69 : Bool), v91 = .bool x91_69 ∧ Za (Zax.j3 kq x8_15 (wrap64 ((wrap64 (a2 - a1)) - 2)) x91_69 s0_0 t531 (IntKind.u16.wrap (x8_15)) 0 0 t530 = some (r1, r2, r3, r4, r5)) ∧ Za (kq ≤ kj30) ∧ Za (wc.heap[gb521]? = some (.cells #[.int .u16 0, .int .u8 0, .int .u8 0, .int .u32 0] 54 (0, 0))) ∧ Za (wc.heap[gb532]? = some (.cells #[.int .u16 (IntKind.u16.wrap (x8_15)), .int .u8 0, .int .u8 0, .int .u32 t530] 54 (0, 0))) ∧ Za (Zc w0 wc g s0_0 t531) ∧ Za (Zm w wc g none) ∧ Za (Below w0.heap.size w0 wc))
              case first =>
               have H := HC70.out
               clear HC70
               by_cases c71 : x8_15 = 100
               ·rw [if_pos c71] at H
                have c71b0 : (x8_15 == 100) = true := beq_iff_eq.mpr c71
                have c71b1 : (x8_15 != 100) = false := bne_eq_false_iff_eq.mpr c71
                clear c71
                (first | rw [c71b0] | (simp only [Zn, Zq]; rw [c71b0]) | skip)
                have H' := Za.mk H
                clear H
                go_wp2
                go_meet
                case rel => exact ⟨_, (true), (by first | rfl | (simp; done) | (simp [*]; done)), H', ⟨by have := HJ9.out; have := HJ15.out; have := HJ30.out; first | omega | exact Nat.le_refl _⟩, ⟨by (with_reducible repeat (first | refine Zj ?_ _ | refine Zh ?_ | refine Zi ?_ _)); exact BK521.out⟩, ⟨by (with_reducible repeat (first | refine Zj ?_ _ | refine Zh ?_ | refine Zi ?_ _)); exact BK532.out⟩, ⟨by repeat (first | (with_reducible first | exact HI0.out | apply Zc.alloc | apply Zc.drewN | apply Zc.drew | apply Zc.Zv | refine Zc.far ?_ NB0_521.out _ | refine Zc.far ?_ NB0_532.out _) | exact HI0.out)⟩, ⟨by repeat (first | (with_reducible first | exact HK.out | apply Zm.set_ | apply Zaa | apply Zac | apply Zab | refine Zak ?_ GW521.out _ | refine Zak ?_ GW532.out _) | exact HK.out)⟩, ⟨by repeat (first | (with_reducible first | exact HB.out | apply Ze | apply Zf | apply Zd | refine Zk ?_ (Zc.ge HI0.out) | refine Zk ?_ GE521.out | refine Zk ?_ GE532.out) | exact HB.out)⟩⟩
               ·rw [if_neg c71] at H
                have c71b0 : (x8_15 == 100) = false := beq_eq_false_iff_ne.mpr c71
                have c71b1 : (x8_15 != 100) = true := bne_iff_ne.mpr c71
                (first | rw [c71b0] | (simp only [Zn, Zq]; rw [c71b0]) | skip)
                have H' := Za.mk H
                clear H
                go_wp2
                go_meet
                case rel => exact ⟨_, ((x8_15 == 116)), (by first | rfl | (simp; done) | (simp [*]; done)), H', ⟨by have := HJ9.out; have := HJ15.out; have := HJ30.out; first | omega | exact Nat.le_refl _⟩, ⟨by (with_reducible repeat (first | refine Zj ?_ _ | refine Zh ?_ | refine Zi ?_ _)); exact BK521.out⟩, ⟨by (with_reducible repeat (first | refine Zj ?_ _ | refine Zh ?_ | refine Zi ?_ _)); exact BK532.out⟩, ⟨by repeat (first | (with_reducible first | exact HI0.out | apply Zc.alloc | apply Zc.drewN | apply Zc.drew | apply Zc.Zv | refine Zc.far ?_ NB0_521.out _ | refine Zc.far ?_ NB0_532.out _) | exact HI0.out)⟩, ⟨by repeat (first | (with_reducible first | exact HK.out | apply Zm.set_ | apply Zaa | apply Zac | apply Zab | refine Zak ?_ GW521.out _ | refine Zak ?_ GW532.out _) | exact HK.out)⟩, ⟨by repeat (first | (with_reducible first | exact HB.out | apply Ze | apply Zf | apply Zd | refine Zk ?_ (Zc.ge HI0.out) | refine Zk ?_ GE521.out | refine Zk ?_ GE532.out) | exact HB.out)⟩⟩
              case rest =>
               clear HC70
               try clear c1
               try clear c2
               try clear p2
               try clear c3
               try clear c4
               try clear c5
               try clear p5
               try clear q5
               try clear hx5
               try clear c6
               try clear c6b0
               try clear c6b1
               try clear c6b2
               try clear p6
               try clear c7
               try clear c8
               try clear c8b0
               try clear c9
               try clear c9b0
               try clear c15
               try clear c15b0
               try clear c15b1
               try clear c17
               try clear c19
               try clear c19b0
               try clear c23
               try clear c23b0
               try clear c23b1
               try clear c26
               try clear c27
               try clear c29
               try clear c34
               try clear c35
               try clear c37
               try clear c37b0
               try clear c37b1
               try clear c38
               try clear c38b0
               try clear c38b1
               try clear c39
               try clear c39b0
               try clear c39b1
               try clear c40
               try clear c42
               try clear c42b0
               try clear c42b1
               try clear c43
               try clear c44
               try clear c48
               try clear c50
               try clear c51
               try clear p52
               try clear q52
               try clear hx52
               try clear c55
               try clear c57
               try clear c57b0
               try clear c57b1
               try clear c58
               try clear c58b0
               try clear c58b1
               try clear c59
               try clear c60
               try clear c62
               try clear c64
               try clear c64b0
               try clear c64b1
               try clear p64
               try clear c65
               try clear c66
               try clear c68
               try clear c71
               try clear c71b0
               try clear c71b1
               try clear hcz28_0
               try clear hcz28_1
               try clear hcz28_2
               try clear hcz28_3
               try clear hcz30_0
               try clear hcz30_1
               try clear hcz30_2
               try clear hcz30_3
               try clear hcz36_0
               try clear hcz36_1
               try clear hcz36_2
               try clear hcz36_3
               try clear hcz45_0
               try clear hcz45_1
               try clear hcz45_2
               try clear hcz45_3
               try clear hcz47_0
               try clear hcz47_1
               try clear hcz47_2
               try clear hcz47_3
               try clear hcz49_0
               try clear hcz49_1
               try clear hcz49_2
               try clear hcz49_3
               try clear hcz52_0
               try clear hcz52_1
               try clear hcz52_2
               try clear hcz52_3
               try clear hcz54_0
               try clear hcz54_1
               try clear hcz54_2
               try clear hcz54_3
               try clear hcz56_0
               try clear hcz56_1
               try clear hcz56_2
               try clear hcz56_3
               try clear hcz61_0
               try clear hcz61_1
               try clear hcz61_2
               try clear hcz61_3
               try clear hcz63_0
               try clear hcz63_1
               try clear hcz63_2
               try clear hcz63_3
               try clear hcz67_0
               try clear hcz67_1
               try clear hcz67_2
               try clear hcz67_3
               try clear hcz69_0
               try clear hcz69_1
               try clear hcz69_2
               try clear hcz69_3
               try clear hfz28_0
               try clear hfz28_1
               try clear hfz28_2
               try clear hfz28_3
               try clear hfz30_0
               try clear hfz30_1
               try clear hfz30_2
               try clear hfz30_3
               try clear hfz36_0
               try clear hfz36_1
               try clear hfz36_2
               try clear hfz36_3
               try clear hfz45_0
               try clear hfz45_1
               try clear hfz45_2
               try clear hfz45_3
               try clear hfz47_0
               try clear hfz47_1
               try clear hfz47_2
               try clear hfz47_3
               try clear hfz49_0
               try clear hfz49_1
               try clear hfz49_2
               try clear hfz49_3
               try clear hfz52_0
               try clear hfz52_1
               try clear hfz52_2
               try clear hfz52_3
               try clear hfz54_0
               try clear hfz54_1
               try clear hfz54_2
               try clear hfz54_3
               try clear hfz56_0
               try clear hfz56_1
               try clear hfz56_2
               try clear hfz56_3
               try clear hfz61_0
               try clear hfz61_1
               try clear hfz61_2
               try clear hfz61_3
               try clear hfz63_0
               try clear hfz63_1
               try clear hfz63_2
               try clear hfz63_3
               try clear hfz67_0
               try clear hfz67_1
               try clear hfz67_2
               try clear hfz67_3
               try clear hfz69_0
               try clear hfz69_1
               try clear hfz69_2
               try clear hfz69_3
               try clear hx527_0
               try clear p2
               try clear p5
               try clear p527
               try clear p6
               try clear q5
               try clear q527
               obtain ⟨kq, x91_69, rfl, HA, HJ69, BK521, BK532, HI0, HK, HB⟩ := hcut
               cases kq with
               | zero => exact absurd HA.out (by simp [Zax.j3])
               | succ kj69 =>
                have H := HA.out
                clear HA
                simp only [Zax.j3] at H
                by_cases c72 : x91_69 = true
                ·subst c72
                 have H1 : (some ((IntKind.u16.wrap (x8_15)), 0, 0, Int.tmod t530 32, t531)) = some (r1, r2, r3, r4, r5) := by rw [if_pos rfl] at H; exact H
                 clear H
                 have H := H1
                 clear H1
                 simp only [Option.some.injEq, Prod.mk.injEq] at H
                 obtain ⟨rfl, rfl, rfl, rfl, rfl⟩ := H
                 have hnb73 := NB532_521.out
                 have hnc73 := NB521_532.out
                 have hnb74 := NB532_0.out
                 have hnc74 := NB0_532.out
                 have hcz75_0 : wc.cell? ⟨gb532, 0, none⟩ = some (.int .u16 (IntKind.u16.wrap (x8_15))) := (Zg BK532.out 0).trans rfl
                 have hcz75_1 : wc.cell? ⟨gb532, 1, none⟩ = some (.int .u8 0) := (Zg BK532.out 1).trans rfl
                 have hcz75_2 : wc.cell? ⟨gb532, 2, none⟩ = some (.int .u8 0) := (Zg BK532.out 2).trans rfl
                 have hcz75_3 : wc.cell? ⟨gb532, 3, none⟩ = some (.int .u32 t530) := (Zg BK532.out 3).trans rfl
                 have hfz75_0 := Zl BK532.out 0
                 have hfz75_1 := Zl BK532.out 1
                 have hfz75_2 := Zl BK532.out 2
                 have hfz75_3 := Zl BK532.out 3
                 have hnb76 := NB521_0.out
                 have hnc76 := NB0_521.out
                 have hcz77_0 : wc.cell? ⟨gb521, 0, none⟩ = some (.int .u16 0) := (Zg BK521.out 0).trans rfl
                 have hcz77_1 : wc.cell? ⟨gb521, 1, none⟩ = some (.int .u8 0) := (Zg BK521.out 1).trans rfl
                 have hcz77_2 : wc.cell? ⟨gb521, 2, none⟩ = some (.int .u8 0) := (Zg BK521.out 2).trans rfl
                 have hcz77_3 : wc.cell? ⟨gb521, 3, none⟩ = some (.int .u32 0) := (Zg BK521.out 3).trans rfl
                 have hfz77_0 := Zl BK521.out 0
                 have hfz77_1 := Zl BK521.out 1
                 have hfz77_2 := Zl BK521.out 2
                 have hfz77_3 := Zl BK521.out 3
                 go_wp2
                 refine bodyPost_ret (results_cell_row rfl _ _ gb521 54 #[.int .u16 (IntKind.u16.wrap (x8_15)), .int .u8 0, .int .u8 0, .int .u32 (Int.tmod t530 32)] (0, 0) _ rfl (by (with_reducible repeat (first | refine Zj ?_ _ | refine Zh ?_ | refine Zi ?_ _)); refine Zu (cs := #[.int .u16 (IntKind.u16.wrap (x8_15)), .int .u8 0, .int .u8 0, .int .u32 0]) ?_ 3 _ rfl; (with_reducible repeat (first | refine Zj ?_ _ | refine Zh ?_ | refine Zi ?_ _)); refine Zu (cs := #[.int .u16 (IntKind.u16.wrap (x8_15)), .int .u8 0, .int .u8 0, .int .u32 0]) ?_ 2 _ rfl; (with_reducible repeat (first | refine Zj ?_ _ | refine Zh ?_ | refine Zi ?_ _)); refine Zu (cs := #[.int .u16 (IntKind.u16.wrap (x8_15)), .int .u8 0, .int .u8 0, .int .u32 0]) ?_ 1 _ rfl; (with_reducible repeat (first | refine Zj ?_ _ | refine Zh ?_ | refine Zi ?_ _)); refine Zu (cs := #[.int .u16 0, .int .u8 0, .int .u8 0, .int .u32 0]) ?_ 0 _ rfl; (with_reducible repeat (first | refine Zj ?_ _ | refine Zh ?_ | refine Zi ?_ _)); refine Zbh ?_ NB521_532.out _; (with_reducible repeat (first | refine Zj ?_ _ | refine Zh ?_ | refine Zi ?_ _)); exact BK521.out) Try.underlying54 rfl (by kernel_rfl)) rfl ?_
                 exact ⟨by first | rfl | (simp [Zo, Zp] <;> rfl) | (simp only [← hji7]; first | rfl | (simp [Zo, Zp] <;> rfl)) | (simp [*, Zo, Zp] <;> rfl), by repeat (first | (with_reducible first | exact HI0.out | apply Zc.alloc | apply Zc.drewN | apply Zc.drew | apply Zc.Zv | refine Zc.far ?_ NB0_521.out _ | refine Zc.far ?_ NB0_532.out _) | exact HI0.out), by repeat (first | (with_reducible first | exact HB.out | apply Ze | apply Zf | apply Zd | refine Zk ?_ (Zc.ge HI0.out) | refine Zk ?_ GE521.out | refine Zk ?_ GE532.out) | exact HB.out), by repeat (first | (with_reducible first | exact HK.out | apply Zm.set_ | apply Zaa | apply Zac | apply Zab | refine Zak ?_ GW521.out _ | refine Zak ?_ GW532.out _) | exact HK.out)⟩
                ·replace c72 := Bool.eq_false_iff.mpr c72
                 subst c72
                 have H1 : ((Zcd.f kj69 x8_15).bind fun t535 => (if t535 = true then ((Zar.f s0_0 t531).bind fun bt536 => ((Zar.f s0_0 bt536.2).bind fun bt538 => (if (wrap64 ((wrap64 ((wrap64 (a2 - a1)) - 2)) + 1)) = 0 then (none) else (some ((IntKind.u16.wrap (x8_15)), (Int.tmod (Int.tmod bt536.1 (wrap64 ((wrap64 ((wrap64 (a2 - a1)) - 2)) + 1))) 6) % 256, (Int.tmod (Int.tmod bt538.1 (wrap64 ((wrap64 ((wrap64 (a2 - a1)) - 2)) + 1))) 6) % 256, t530, bt538.2))))) else (if x8_15 = 135 then ((Zar.f s0_0 t531).bind fun bt540 => (some ((IntKind.u16.wrap (x8_15)), (bt540.1) % 256, 0, t530, bt540.2))) else (if x8_15 = 7 then ((Zar.f s0_0 t531).bind fun bt542 => (some ((IntKind.u16.wrap (x8_15)), (bt542.1) % 256, 0, t530, bt542.2))) else (some ((IntKind.u16.wrap (x8_15)), 0, 0, t530, t531)))))) = some (r1, r2, r3, r4, r5) := by rw [if_neg (show ¬ (false = true) by decide)] at H; exact H
                 clear H
                 have H := H1
                 clear H1
                 replace H := Option.bind_eq_some_iff.mp H
                 obtain ⟨t535, A780, H⟩ := H
                 (try dsimp only at H)
                 have A78 := Za.mk A780
                 clear A780
                 by_cases c79 : t535 = true
                 ·subst c79
                  have H1 : ((Zar.f s0_0 t531).bind fun bt536 => ((Zar.f s0_0 bt536.2).bind fun bt538 => (if (wrap64 ((wrap64 ((wrap64 (a2 - a1)) - 2)) + 1)) = 0 then (none) else (some ((IntKind.u16.wrap (x8_15)), (Int.tmod (Int.tmod bt536.1 (wrap64 ((wrap64 ((wrap64 (a2 - a1)) - 2)) + 1))) 6) % 256, (Int.tmod (Int.tmod bt538.1 (wrap64 ((wrap64 ((wrap64 (a2 - a1)) - 2)) + 1))) 6) % 256, t530, bt538.2))))) = some (r1, r2, r3, r4, r5) := by rw [if_pos rfl] at H; exact H
                  clear H
                  have H := H1
                  clear H1
                  replace H := Option.bind_eq_some_iff.mp H
                  obtain ⟨⟨t536, t537⟩, A800, H⟩ := H
                  (try dsimp only at H)
                  have A80 := Za.mk A800
                  clear A800
                  replace H := Option.bind_eq_some_iff.mp H
                  obtain ⟨⟨t538, t539⟩, A810, H⟩ := H
                  (try dsimp only at H)
                  have A81 := Za.mk A810
                  clear A810
                  by_cases c82 : (wrap64 ((wrap64 ((wrap64 (a2 - a1)) - 2)) + 1)) = 0
                  ·rw [if_pos c82] at H
                   exact absurd H (by simp)
                  ·rw [if_neg c82] at H
                   have c82b0 : ((wrap64 ((wrap64 ((wrap64 (a2 - a1)) - 2)) + 1)) == 0) = false := beq_eq_false_iff_ne.mpr c82
                   have c82b1 : ((wrap64 ((wrap64 ((wrap64 (a2 - a1)) - 2)) + 1)) != 0) = true := bne_iff_ne.mpr c82
                   simp only [Option.some.injEq, Prod.mk.injEq] at H
                   obtain ⟨rfl, rfl, rfl, rfl, rfl⟩ := H
                   go_wp2_with (first | ((with_reducible refine Zaf (f := 62) rfl ?_); refine Zae (some 97) rfl rfl Try.func62 (by kernel_rfl) rfl #[.int .i64 x8_15] rfl (by (try simp only [ZA, ZB, ZC]); first | done | rfl) ?_; (with_reducible refine (Zcd.calls kj69 x8_15 true _ A78.out).mono ?_); rintro e w83 ⟨rfl, hb⟩; refine ⟨_, rfl, ?_⟩; replace BK521 := Za.mk (Zbd (g := gb521) (o := .cells #[.int .u16 0, .int .u8 0, .int .u8 0, .int .u32 0] 54 (0, 0)) (by (with_reducible repeat (first | refine Zj ?_ _ | refine Zh ?_ | refine Zi ?_ _)); exact BK521.out) hb); replace BK532 := Za.mk (Zbd (g := gb532) (o := .cells #[.int .u16 (IntKind.u16.wrap (x8_15)), .int .u8 0, .int .u8 0, .int .u32 t530] 54 (0, 0)) (by (with_reducible repeat (first | refine Zj ?_ _ | refine Zh ?_ | refine Zi ?_ _)); exact BK532.out) hb); replace HK := Za.mk (Zm.trans (by repeat (first | (with_reducible first | exact HK.out | apply Zm.set_ | apply Zaa | apply Zac | apply Zab | refine Zak ?_ GW521.out _ | refine Zak ?_ GW532.out _) | exact HK.out)) (Zm.of_below hb g none) (.inl rfl)); replace HB := Za.mk (Zai (by repeat (first | (with_reducible first | exact HB.out | apply Ze | apply Zf | apply Zd | refine Zk ?_ (Zc.ge HI0.out) | refine Zk ?_ GE521.out | refine Zk ?_ GE532.out) | exact HB.out)) hb); replace HI0 := Za.mk (Zc.below (by repeat (first | (with_reducible first | exact HI0.out | apply Zc.alloc | apply Zc.drewN | apply Zc.drew | apply Zc.Zv | refine Zc.far ?_ NB0_521.out _ | refine Zc.far ?_ NB0_532.out _) | exact HI0.out)) hb); (try clear hb); (try clear hb2); (try clear hk); (try clear hi)) | ((with_reducible refine Zaf (f := 44) rfl ?_); refine Zae (some 99) rfl rfl Try.func44 (by kernel_rfl) rfl #[.pointer (some ⟨g, 0, none⟩)] rfl (by (try simp only [ZA, ZB, ZC]); first | done | rfl) ?_; (with_reducible refine (Zar.calls g s0_0 t531 t536 t537 w0 _ ?side1 ?side2 A80.out).mono ?_); (case side1 => repeat (first | (with_reducible first | exact HI0.out | apply Zc.alloc | apply Zc.drewN | apply Zc.drew | apply Zc.Zv | refine Zc.far ?_ NB0_521.out _ | refine Zc.far ?_ NB0_532.out _) | exact HI0.out)); (case side2 => repeat (first | (with_reducible first | exact HB.out | apply Ze | apply Zf | apply Zd | refine Zk ?_ (Zc.ge HI0.out) | refine Zk ?_ GE521.out | refine Zk ?_ GE532.out) | exact HB.out)); rintro e w84 ⟨rfl, hi, hb, hk⟩; refine ⟨_, rfl, ?_⟩; replace BK521 := Za.mk (Zm.blk hk (g' := gb521) (o := .cells #[.int .u16 0, .int .u8 0, .int .u8 0, .int .u32 0] 54 (0, 0)) (by (with_reducible repeat (first | refine Zj ?_ _ | refine Zh ?_ | refine Zi ?_ _)); exact BK521.out) NB521_0.out (by simp)); replace BK532 := Za.mk (Zm.blk hk (g' := gb532) (o := .cells #[.int .u16 (IntKind.u16.wrap (x8_15)), .int .u8 0, .int .u8 0, .int .u32 t530] 54 (0, 0)) (by (with_reducible repeat (first | refine Zj ?_ _ | refine Zh ?_ | refine Zi ?_ _)); exact BK532.out) NB532_0.out (by simp)); replace HK := Za.mk (Zm.trans (by repeat (first | (with_reducible first | exact HK.out | apply Zm.set_ | apply Zaa | apply Zac | apply Zab | refine Zak ?_ GW521.out _ | refine Zak ?_ GW532.out _) | exact HK.out)) hk (.inl rfl)); replace HB := Za.mk (hb); replace HI0 := Za.mk (hi); (try clear hb); (try clear hb2); (try clear hk); (try clear hi)) | ((with_reducible refine Zaf (f := 44) rfl ?_); refine Zae (some 101) rfl rfl Try.func44 (by kernel_rfl) rfl #[.pointer (some ⟨g, 0, none⟩)] rfl (by (try simp only [ZA, ZB, ZC]); first | done | rfl) ?_; (with_reducible refine (Zar.calls g s0_0 t537 t538 t539 w0 _ ?side1 ?side2 A81.out).mono ?_); (case side1 => repeat (first | (with_reducible first | exact HI0.out | apply Zc.alloc | apply Zc.drewN | apply Zc.drew | apply Zc.Zv | refine Zc.far ?_ NB0_521.out _ | refine Zc.far ?_ NB0_532.out _) | exact HI0.out)); (case side2 => repeat (first | (with_reducible first | exact HB.out | apply Ze | apply Zf | apply Zd | refine Zk ?_ (Zc.ge HI0.out) | refine Zk ?_ GE521.out | refine Zk ?_ GE532.out) | exact HB.out)); rintro e w85 ⟨rfl, hi, hb, hk⟩; refine ⟨_, rfl, ?_⟩; replace BK521 := Za.mk (Zm.blk hk (g' := gb521) (o := .cells #[.int .u16 0, .int .u8 0, .int .u8 0, .int .u32 0] 54 (0, 0)) (by (with_reducible repeat (first | refine Zj ?_ _ | refine Zh ?_ | refine Zi ?_ _)); exact BK521.out) NB521_0.out (by simp)); replace BK532 := Za.mk (Zm.blk hk (g' := gb532) (o := .cells #[.int .u16 (IntKind.u16.wrap (x8_15)), .int .u8 0, .int .u8 0, .int .u32 t530] 54 (0, 0)) (by (with_reducible repeat (first | refine Zj ?_ _ | refine Zh ?_ | refine Zi ?_ _)); exact BK532.out) NB532_0.out (by simp)); replace HK := Za.mk (Zm.trans (by repeat (first | (with_reducible first | exact HK.out | apply Zm.set_ | apply Zaa | apply Zac | apply Zab | refine Zak ?_ GW521.out _ | refine Zak ?_ GW532.out _) | exact HK.out)) hk (.inl rfl)); replace HB := Za.mk (hb); replace HI0 := Za.mk (hi); (try clear hb); (try clear hb2); (try clear hk); (try clear hi); have hnb86 := NB532_521.out; have hnc86 := NB521_532.out; have hnb87 := NB532_0.out; have hnc87 := NB0_532.out; have hcz88_0 : w85.cell? ⟨gb532, 0, none⟩ = some (.int .u16 (IntKind.u16.wrap (x8_15))) := (Zg BK532.out 0).trans rfl; have hcz88_1 : w85.cell? ⟨gb532, 1, none⟩ = some (.int .u8 0) := (Zg BK532.out 1).trans rfl; have hcz88_2 : w85.cell? ⟨gb532, 2, none⟩ = some (.int .u8 0) := (Zg BK532.out 2).trans rfl; have hcz88_3 : w85.cell? ⟨gb532, 3, none⟩ = some (.int .u32 t530) := (Zg BK532.out 3).trans rfl; have hfz88_0 := Zl BK532.out 0; have hfz88_1 := Zl BK532.out 1; have hfz88_2 := Zl BK532.out 2; have hfz88_3 := Zl BK532.out 3; have hnb89 := NB521_0.out; have hnc89 := NB0_521.out; have hcz90_0 : w85.cell? ⟨gb521, 0, none⟩ = some (.int .u16 0) := (Zg BK521.out 0).trans rfl; have hcz90_1 : w85.cell? ⟨gb521, 1, none⟩ = some (.int .u8 0) := (Zg BK521.out 1).trans rfl; have hcz90_2 : w85.cell? ⟨gb521, 2, none⟩ = some (.int .u8 0) := (Zg BK521.out 2).trans rfl; have hcz90_3 : w85.cell? ⟨gb521, 3, none⟩ = some (.int .u32 0) := (Zg BK521.out 3).trans rfl; have hfz90_0 := Zl BK521.out 0; have hfz90_1 := Zl BK521.out 1; have hfz90_2 := Zl BK521.out 2; have hfz90_3 := Zl BK521.out 3))
                   refine bodyPost_ret (results_cell_row rfl _ _ gb521 54 #[.int .u16 (IntKind.u16.wrap (x8_15)), .int .u8 ((Int.tmod (Int.tmod t536 (wrap64 ((wrap64 ((wrap64 (a2 - a1)) - 2)) + 1))) 6) % 256), .int .u8 ((Int.tmod (Int.tmod t538 (wrap64 ((wrap64 ((wrap64 (a2 - a1)) - 2)) + 1))) 6) % 256), .int .u32 t530] (0, 0) _ rfl (by (with_reducible repeat (first | refine Zj ?_ _ | refine Zh ?_ | refine Zi ?_ _)); refine Zu (cs := #[.int .u16 (IntKind.u16.wrap (x8_15)), .int .u8 ((Int.tmod (Int.tmod t536 (wrap64 ((wrap64 ((wrap64 (a2 - a1)) - 2)) + 1))) 6) % 256), .int .u8 ((Int.tmod (Int.tmod t538 (wrap64 ((wrap64 ((wrap64 (a2 - a1)) - 2)) + 1))) 6) % 256), .int .u32 0]) ?_ 3 _ rfl; (with_reducible repeat (first | refine Zj ?_ _ | refine Zh ?_ | refine Zi ?_ _)); refine Zu (cs := #[.int .u16 (IntKind.u16.wrap (x8_15)), .int .u8 ((Int.tmod (Int.tmod t536 (wrap64 ((wrap64 ((wrap64 (a2 - a1)) - 2)) + 1))) 6) % 256), .int .u8 0, .int .u32 0]) ?_ 2 _ rfl; (with_reducible repeat (first | refine Zj ?_ _ | refine Zh ?_ | refine Zi ?_ _)); refine Zu (cs := #[.int .u16 (IntKind.u16.wrap (x8_15)), .int .u8 0, .int .u8 0, .int .u32 0]) ?_ 1 _ rfl; (with_reducible repeat (first | refine Zj ?_ _ | refine Zh ?_ | refine Zi ?_ _)); refine Zu (cs := #[.int .u16 0, .int .u8 0, .int .u8 0, .int .u32 0]) ?_ 0 _ rfl; (with_reducible repeat (first | refine Zj ?_ _ | refine Zh ?_ | refine Zi ?_ _)); refine Zbh ?_ NB521_532.out _; (with_reducible repeat (first | refine Zj ?_ _ | refine Zh ?_ | refine Zi ?_ _)); refine Zbh ?_ NB521_532.out _; (with_reducible repeat (first | refine Zj ?_ _ | refine Zh ?_ | refine Zi ?_ _)); exact BK521.out) Try.underlying54 rfl (by kernel_rfl)) rfl ?_
                   exact ⟨by first | rfl | (simp [Zo, Zp] <;> rfl) | (simp only [← hji7]; first | rfl | (simp [Zo, Zp] <;> rfl)) | (simp [*, Zo, Zp] <;> rfl), by repeat (first | (with_reducible first | exact HI0.out | apply Zc.alloc | apply Zc.drewN | apply Zc.drew | apply Zc.Zv | refine Zc.far ?_ NB0_521.out _ | refine Zc.far ?_ NB0_532.out _) | exact HI0.out), by repeat (first | (with_reducible first | exact HB.out | apply Ze | apply Zf | apply Zd | refine Zk ?_ (Zc.ge HI0.out) | refine Zk ?_ GE521.out | refine Zk ?_ GE532.out) | exact HB.out), by repeat (first | (with_reducible first | exact HK.out | apply Zm.set_ | apply Zaa | apply Zac | apply Zab | refine Zak ?_ GW521.out _ | refine Zak ?_ GW532.out _) | exact HK.out)⟩
                 ·replace c79 := Bool.eq_false_iff.mpr c79
                  subst c79
                  have H1 : (if x8_15 = 135 then ((Zar.f s0_0 t531).bind fun bt540 => (some ((IntKind.u16.wrap (x8_15)), (bt540.1) % 256, 0, t530, bt540.2))) else (if x8_15 = 7 then ((Zar.f s0_0 t531).bind fun bt542 => (some ((IntKind.u16.wrap (x8_15)), (bt542.1) % 256, 0, t530, bt542.2))) else (some ((IntKind.u16.wrap (x8_15)), 0, 0, t530, t531)))) = some (r1, r2, r3, r4, r5) := by rw [if_neg (show ¬ (false = true) by decide)] at H; exact H
                  clear H
                  have H := H1
                  clear H1
                  by_cases c91 : x8_15 = 135
                  ·rw [if_pos c91] at H
                   have c91b0 : (x8_15 == 135) = true := beq_iff_eq.mpr c91
                   have c91b1 : (x8_15 != 135) = false := bne_eq_false_iff_eq.mpr c91
                   clear c91
                   replace H := Option.bind_eq_some_iff.mp H
                   obtain ⟨⟨t540, t541⟩, A920, H⟩ := H
                   (try dsimp only at H)
                   have A92 := Za.mk A920
                   clear A920
                   simp only [Option.some.injEq, Prod.mk.injEq] at H
                   obtain ⟨rfl, rfl, rfl, rfl, rfl⟩ := H
                   go_wp2_with (first | ((with_reducible refine Zaf (f := 62) rfl ?_); refine Zae (some 97) rfl rfl Try.func62 (by kernel_rfl) rfl #[.int .i64 x8_15] rfl (by (try simp only [ZA, ZB, ZC]); first | done | rfl) ?_; (with_reducible refine (Zcd.calls kj69 x8_15 false _ A78.out).mono ?_); rintro e w93 ⟨rfl, hb⟩; refine ⟨_, rfl, ?_⟩; replace BK521 := Za.mk (Zbd (g := gb521) (o := .cells #[.int .u16 0, .int .u8 0, .int .u8 0, .int .u32 0] 54 (0, 0)) (by (with_reducible repeat (first | refine Zj ?_ _ | refine Zh ?_ | refine Zi ?_ _)); exact BK521.out) hb); replace BK532 := Za.mk (Zbd (g := gb532) (o := .cells #[.int .u16 (IntKind.u16.wrap (x8_15)), .int .u8 0, .int .u8 0, .int .u32 t530] 54 (0, 0)) (by (with_reducible repeat (first | refine Zj ?_ _ | refine Zh ?_ | refine Zi ?_ _)); exact BK532.out) hb); replace HK := Za.mk (Zm.trans (by repeat (first | (with_reducible first | exact HK.out | apply Zm.set_ | apply Zaa | apply Zac | apply Zab | refine Zak ?_ GW521.out _ | refine Zak ?_ GW532.out _) | exact HK.out)) (Zm.of_below hb g none) (.inl rfl)); replace HB := Za.mk (Zai (by repeat (first | (with_reducible first | exact HB.out | apply Ze | apply Zf | apply Zd | refine Zk ?_ (Zc.ge HI0.out) | refine Zk ?_ GE521.out | refine Zk ?_ GE532.out) | exact HB.out)) hb); replace HI0 := Za.mk (Zc.below (by repeat (first | (with_reducible first | exact HI0.out | apply Zc.alloc | apply Zc.drewN | apply Zc.drew | apply Zc.Zv | refine Zc.far ?_ NB0_521.out _ | refine Zc.far ?_ NB0_532.out _) | exact HI0.out)) hb); (try clear hb); (try clear hb2); (try clear hk); (try clear hi)) | ((with_reducible refine Zaf (f := 44) rfl ?_); refine Zae (some 123) rfl rfl Try.func44 (by kernel_rfl) rfl #[.pointer (some ⟨g, 0, none⟩)] rfl (by (try simp only [ZA, ZB, ZC]); first | done | rfl) ?_; (with_reducible refine (Zar.calls g s0_0 t531 t540 t541 w0 _ ?side1 ?side2 A92.out).mono ?_); (case side1 => repeat (first | (with_reducible first | exact HI0.out | apply Zc.alloc | apply Zc.drewN | apply Zc.drew | apply Zc.Zv | refine Zc.far ?_ NB0_521.out _ | refine Zc.far ?_ NB0_532.out _) | exact HI0.out)); (case side2 => repeat (first | (with_reducible first | exact HB.out | apply Ze | apply Zf | apply Zd | refine Zk ?_ (Zc.ge HI0.out) | refine Zk ?_ GE521.out | refine Zk ?_ GE532.out) | exact HB.out)); rintro e w94 ⟨rfl, hi, hb, hk⟩; refine ⟨_, rfl, ?_⟩; replace BK521 := Za.mk (Zm.blk hk (g' := gb521) (o := .cells #[.int .u16 0, .int .u8 0, .int .u8 0, .int .u32 0] 54 (0, 0)) (by (with_reducible repeat (first | refine Zj ?_ _ | refine Zh ?_ | refine Zi ?_ _)); exact BK521.out) NB521_0.out (by simp)); replace BK532 := Za.mk (Zm.blk hk (g' := gb532) (o := .cells #[.int .u16 (IntKind.u16.wrap (x8_15)), .int .u8 0, .int .u8 0, .int .u32 t530] 54 (0, 0)) (by (with_reducible repeat (first | refine Zj ?_ _ | refine Zh ?_ | refine Zi ?_ _)); exact BK532.out) NB532_0.out (by simp)); replace HK := Za.mk (Zm.trans (by repeat (first | (with_reducible first | exact HK.out | apply Zm.set_ | apply Zaa | apply Zac | apply Zab | refine Zak ?_ GW521.out _ | refine Zak ?_ GW532.out _) | exact HK.out)) hk (.inl rfl)); replace HB := Za.mk (hb); replace HI0 := Za.mk (hi); (try clear hb); (try clear hb2); (try clear hk); (try clear hi); have hnb95 := NB532_521.out; have hnc95 := NB521_532.out; have hnb96 := NB532_0.out; have hnc96 := NB0_532.out; have hcz97_0 : w94.cell? ⟨gb532, 0, none⟩ = some (.int .u16 (IntKind.u16.wrap (x8_15))) := (Zg BK532.out 0).trans rfl; have hcz97_1 : w94.cell? ⟨gb532, 1, none⟩ = some (.int .u8 0) := (Zg BK532.out 1).trans rfl; have hcz97_2 : w94.cell? ⟨gb532, 2, none⟩ = some (.int .u8 0) := (Zg BK532.out 2).trans rfl; have hcz97_3 : w94.cell? ⟨gb532, 3, none⟩ = some (.int .u32 t530) := (Zg BK532.out 3).trans rfl; have hfz97_0 := Zl BK532.out 0; have hfz97_1 := Zl BK532.out 1; have hfz97_2 := Zl BK532.out 2; have hfz97_3 := Zl BK532.out 3; have hnb98 := NB521_0.out; have hnc98 := NB0_521.out; have hcz99_0 : w94.cell? ⟨gb521, 0, none⟩ = some (.int .u16 0) := (Zg BK521.out 0).trans rfl; have hcz99_1 : w94.cell? ⟨gb521, 1, none⟩ = some (.int .u8 0) := (Zg BK521.out 1).trans rfl; have hcz99_2 : w94.cell? ⟨gb521, 2, none⟩ = some (.int .u8 0) := (Zg BK521.out 2).trans rfl; have hcz99_3 : w94.cell? ⟨gb521, 3, none⟩ = some (.int .u32 0) := (Zg BK521.out 3).trans rfl; have hfz99_0 := Zl BK521.out 0; have hfz99_1 := Zl BK521.out 1; have hfz99_2 := Zl BK521.out 2; have hfz99_3 := Zl BK521.out 3))
                   refine bodyPost_ret (results_cell_row rfl _ _ gb521 54 #[.int .u16 (IntKind.u16.wrap (x8_15)), .int .u8 ((t540) % 256), .int .u8 0, .int .u32 t530] (0, 0) _ rfl (by (with_reducible repeat (first | refine Zj ?_ _ | refine Zh ?_ | refine Zi ?_ _)); refine Zu (cs := #[.int .u16 (IntKind.u16.wrap (x8_15)), .int .u8 ((t540) % 256), .int .u8 0, .int .u32 0]) ?_ 3 _ rfl; (with_reducible repeat (first | refine Zj ?_ _ | refine Zh ?_ | refine Zi ?_ _)); refine Zu (cs := #[.int .u16 (IntKind.u16.wrap (x8_15)), .int .u8 ((t540) % 256), .int .u8 0, .int .u32 0]) ?_ 2 _ rfl; (with_reducible repeat (first | refine Zj ?_ _ | refine Zh ?_ | refine Zi ?_ _)); refine Zu (cs := #[.int .u16 (IntKind.u16.wrap (x8_15)), .int .u8 0, .int .u8 0, .int .u32 0]) ?_ 1 _ rfl; (with_reducible repeat (first | refine Zj ?_ _ | refine Zh ?_ | refine Zi ?_ _)); refine Zu (cs := #[.int .u16 0, .int .u8 0, .int .u8 0, .int .u32 0]) ?_ 0 _ rfl; (with_reducible repeat (first | refine Zj ?_ _ | refine Zh ?_ | refine Zi ?_ _)); refine Zbh ?_ NB521_532.out _; (with_reducible repeat (first | refine Zj ?_ _ | refine Zh ?_ | refine Zi ?_ _)); exact BK521.out) Try.underlying54 rfl (by kernel_rfl)) rfl ?_
                   exact ⟨by first | rfl | (simp [Zo, Zp] <;> rfl) | (simp only [← hji7]; first | rfl | (simp [Zo, Zp] <;> rfl)) | (simp [*, Zo, Zp] <;> rfl), by repeat (first | (with_reducible first | exact HI0.out | apply Zc.alloc | apply Zc.drewN | apply Zc.drew | apply Zc.Zv | refine Zc.far ?_ NB0_521.out _ | refine Zc.far ?_ NB0_532.out _) | exact HI0.out), by repeat (first | (with_reducible first | exact HB.out | apply Ze | apply Zf | apply Zd | refine Zk ?_ (Zc.ge HI0.out) | refine Zk ?_ GE521.out | refine Zk ?_ GE532.out) | exact HB.out), by repeat (first | (with_reducible first | exact HK.out | apply Zm.set_ | apply Zaa | apply Zac | apply Zab | refine Zak ?_ GW521.out _ | refine Zak ?_ GW532.out _) | exact HK.out)⟩
                  ·rw [if_neg c91] at H
                   have c91b0 : (x8_15 == 135) = false := beq_eq_false_iff_ne.mpr c91
                   have c91b1 : (x8_15 != 135) = true := bne_iff_ne.mpr c91
                   by_cases c100 : x8_15 = 7
                   ·rw [if_pos c100] at H
                    have c100b0 : (x8_15 == 7) = true := beq_iff_eq.mpr c100
                    have c100b1 : (x8_15 != 7) = false := bne_eq_false_iff_eq.mpr c100
                    clear c100
                    replace H := Option.bind_eq_some_iff.mp H
                    obtain ⟨⟨t542, t543⟩, A1010, H⟩ := H
                    (try dsimp only at H)
                    have A101 := Za.mk A1010
                    clear A1010
                    simp only [Option.some.injEq, Prod.mk.injEq] at H
                    obtain ⟨rfl, rfl, rfl, rfl, rfl⟩ := H
                    go_wp2_with (first | ((with_reducible refine Zaf (f := 62) rfl ?_); refine Zae (some 97) rfl rfl Try.func62 (by kernel_rfl) rfl #[.int .i64 x8_15] rfl (by (try simp only [ZA, ZB, ZC]); first | done | rfl) ?_; (with_reducible refine (Zcd.calls kj69 x8_15 false _ A78.out).mono ?_); rintro e w102 ⟨rfl, hb⟩; refine ⟨_, rfl, ?_⟩; replace BK521 := Za.mk (Zbd (g := gb521) (o := .cells #[.int .u16 0, .int .u8 0, .int .u8 0, .int .u32 0] 54 (0, 0)) (by (with_reducible repeat (first | refine Zj ?_ _ | refine Zh ?_ | refine Zi ?_ _)); exact BK521.out) hb); replace BK532 := Za.mk (Zbd (g := gb532) (o := .cells #[.int .u16 (IntKind.u16.wrap (x8_15)), .int .u8 0, .int .u8 0, .int .u32 t530] 54 (0, 0)) (by (with_reducible repeat (first | refine Zj ?_ _ | refine Zh ?_ | refine Zi ?_ _)); exact BK532.out) hb); replace HK := Za.mk (Zm.trans (by repeat (first | (with_reducible first | exact HK.out | apply Zm.set_ | apply Zaa | apply Zac | apply Zab | refine Zak ?_ GW521.out _ | refine Zak ?_ GW532.out _) | exact HK.out)) (Zm.of_below hb g none) (.inl rfl)); replace HB := Za.mk (Zai (by repeat (first | (with_reducible first | exact HB.out | apply Ze | apply Zf | apply Zd | refine Zk ?_ (Zc.ge HI0.out) | refine Zk ?_ GE521.out | refine Zk ?_ GE532.out) | exact HB.out)) hb); replace HI0 := Za.mk (Zc.below (by repeat (first | (with_reducible first | exact HI0.out | apply Zc.alloc | apply Zc.drewN | apply Zc.drew | apply Zc.Zv | refine Zc.far ?_ NB0_521.out _ | refine Zc.far ?_ NB0_532.out _) | exact HI0.out)) hb); (try clear hb); (try clear hb2); (try clear hk); (try clear hi)) | ((with_reducible refine Zaf (f := 44) rfl ?_); refine Zae (some 123) rfl rfl Try.func44 (by kernel_rfl) rfl #[.pointer (some ⟨g, 0, none⟩)] rfl (by (try simp only [ZA, ZB, ZC]); first | done | rfl) ?_; (with_reducible refine (Zar.calls g s0_0 t531 t542 t543 w0 _ ?side1 ?side2 A101.out).mono ?_); (case side1 => repeat (first | (with_reducible first | exact HI0.out | apply Zc.alloc | apply Zc.drewN | apply Zc.drew | apply Zc.Zv | refine Zc.far ?_ NB0_521.out _ | refine Zc.far ?_ NB0_532.out _) | exact HI0.out)); (case side2 => repeat (first | (with_reducible first | exact HB.out | apply Ze | apply Zf | apply Zd | refine Zk ?_ (Zc.ge HI0.out) | refine Zk ?_ GE521.out | refine Zk ?_ GE532.out) | exact HB.out)); rintro e w103 ⟨rfl, hi, hb, hk⟩; refine ⟨_, rfl, ?_⟩; replace BK521 := Za.mk (Zm.blk hk (g' := gb521) (o := .cells #[.int .u16 0, .int .u8 0, .int .u8 0, .int .u32 0] 54 (0, 0)) (by (with_reducible repeat (first | refine Zj ?_ _ | refine Zh ?_ | refine Zi ?_ _)); exact BK521.out) NB521_0.out (by simp)); replace BK532 := Za.mk (Zm.blk hk (g' := gb532) (o := .cells #[.int .u16 (IntKind.u16.wrap (x8_15)), .int .u8 0, .int .u8 0, .int .u32 t530] 54 (0, 0)) (by (with_reducible repeat (first | refine Zj ?_ _ | refine Zh ?_ | refine Zi ?_ _)); exact BK532.out) NB532_0.out (by simp)); replace HK := Za.mk (Zm.trans (by repeat (first | (with_reducible first | exact HK.out | apply Zm.set_ | apply Zaa | apply Zac | apply Zab | refine Zak ?_ GW521.out _ | refine Zak ?_ GW532.out _) | exact HK.out)) hk (.inl rfl)); replace HB := Za.mk (hb); replace HI0 := Za.mk (hi); (try clear hb); (try clear hb2); (try clear hk); (try clear hi); have hnb104 := NB532_521.out; have hnc104 := NB521_532.out; have hnb105 := NB532_0.out; have hnc105 := NB0_532.out; have hcz106_0 : w103.cell? ⟨gb532, 0, none⟩ = some (.int .u16 (IntKind.u16.wrap (x8_15))) := (Zg BK532.out 0).trans rfl; have hcz106_1 : w103.cell? ⟨gb532, 1, none⟩ = some (.int .u8 0) := (Zg BK532.out 1).trans rfl; have hcz106_2 : w103.cell? ⟨gb532, 2, none⟩ = some (.int .u8 0) := (Zg BK532.out 2).trans rfl; have hcz106_3 : w103.cell? ⟨gb532, 3, none⟩ = some (.int .u32 t530) := (Zg BK532.out 3).trans rfl; have hfz106_0 := Zl BK532.out 0; have hfz106_1 := Zl BK532.out 1; have hfz106_2 := Zl BK532.out 2; have hfz106_3 := Zl BK532.out 3; have hnb107 := NB521_0.out; have hnc107 := NB0_521.out; have hcz108_0 : w103.cell? ⟨gb521, 0, none⟩ = some (.int .u16 0) := (Zg BK521.out 0).trans rfl; have hcz108_1 : w103.cell? ⟨gb521, 1, none⟩ = some (.int .u8 0) := (Zg BK521.out 1).trans rfl; have hcz108_2 : w103.cell? ⟨gb521, 2, none⟩ = some (.int .u8 0) := (Zg BK521.out 2).trans rfl; have hcz108_3 : w103.cell? ⟨gb521, 3, none⟩ = some (.int .u32 0) := (Zg BK521.out 3).trans rfl; have hfz108_0 := Zl BK521.out 0; have hfz108_1 := Zl BK521.out 1; have hfz108_2 := Zl BK521.out 2; have hfz108_3 := Zl BK521.out 3))
                    refine bodyPost_ret (results_cell_row rfl _ _ gb521 54 #[.int .u16 (IntKind.u16.wrap (x8_15)), .int .u8 ((t542) % 256), .int .u8 0, .int .u32 t530] (0, 0) _ rfl (by (with_reducible repeat (first | refine Zj ?_ _ | refine Zh ?_ | refine Zi ?_ _)); refine Zu (cs := #[.int .u16 (IntKind.u16.wrap (x8_15)), .int .u8 ((t542) % 256), .int .u8 0, .int .u32 0]) ?_ 3 _ rfl; (with_reducible repeat (first | refine Zj ?_ _ | refine Zh ?_ | refine Zi ?_ _)); refine Zu (cs := #[.int .u16 (IntKind.u16.wrap (x8_15)), .int .u8 ((t542) % 256), .int .u8 0, .int .u32 0]) ?_ 2 _ rfl; (with_reducible repeat (first | refine Zj ?_ _ | refine Zh ?_ | refine Zi ?_ _)); refine Zu (cs := #[.int .u16 (IntKind.u16.wrap (x8_15)), .int .u8 0, .int .u8 0, .int .u32 0]) ?_ 1 _ rfl; (with_reducible repeat (first | refine Zj ?_ _ | refine Zh ?_ | refine Zi ?_ _)); refine Zu (cs := #[.int .u16 0, .int .u8 0, .int .u8 0, .int .u32 0]) ?_ 0 _ rfl; (with_reducible repeat (first | refine Zj ?_ _ | refine Zh ?_ | refine Zi ?_ _)); refine Zbh ?_ NB521_532.out _; (with_reducible repeat (first | refine Zj ?_ _ | refine Zh ?_ | refine Zi ?_ _)); exact BK521.out) Try.underlying54 rfl (by kernel_rfl)) rfl ?_
                    exact ⟨by first | rfl | (simp [Zo, Zp] <;> rfl) | (simp only [← hji7]; first | rfl | (simp [Zo, Zp] <;> rfl)) | (simp [*, Zo, Zp] <;> rfl), by repeat (first | (with_reducible first | exact HI0.out | apply Zc.alloc | apply Zc.drewN | apply Zc.drew | apply Zc.Zv | refine Zc.far ?_ NB0_521.out _ | refine Zc.far ?_ NB0_532.out _) | exact HI0.out), by repeat (first | (with_reducible first | exact HB.out | apply Ze | apply Zf | apply Zd | refine Zk ?_ (Zc.ge HI0.out) | refine Zk ?_ GE521.out | refine Zk ?_ GE532.out) | exact HB.out), by repeat (first | (with_reducible first | exact HK.out | apply Zm.set_ | apply Zaa | apply Zac | apply Zab | refine Zak ?_ GW521.out _ | refine Zak ?_ GW532.out _) | exact HK.out)⟩
                   ·rw [if_neg c100] at H
                    have c100b0 : (x8_15 == 7) = false := beq_eq_false_iff_ne.mpr c100
                    have c100b1 : (x8_15 != 7) = true := bne_iff_ne.mpr c100
                    simp only [Option.some.injEq, Prod.mk.injEq] at H
                    obtain ⟨rfl, rfl, rfl, rfl, rfl⟩ := H
                    go_wp2_with (first | ((with_reducible refine Zaf (f := 62) rfl ?_); refine Zae (some 97) rfl rfl Try.func62 (by kernel_rfl) rfl #[.int .i64 x8_15] rfl (by (try simp only [ZA, ZB, ZC]); first | done | rfl) ?_; (with_reducible refine (Zcd.calls kj69 x8_15 false _ A78.out).mono ?_); rintro e w109 ⟨rfl, hb⟩; refine ⟨_, rfl, ?_⟩; replace BK521 := Za.mk (Zbd (g := gb521) (o := .cells #[.int .u16 0, .int .u8 0, .int .u8 0, .int .u32 0] 54 (0, 0)) (by (with_reducible repeat (first | refine Zj ?_ _ | refine Zh ?_ | refine Zi ?_ _)); exact BK521.out) hb); replace BK532 := Za.mk (Zbd (g := gb532) (o := .cells #[.int .u16 (IntKind.u16.wrap (x8_15)), .int .u8 0, .int .u8 0, .int .u32 t530] 54 (0, 0)) (by (with_reducible repeat (first | refine Zj ?_ _ | refine Zh ?_ | refine Zi ?_ _)); exact BK532.out) hb); replace HK := Za.mk (Zm.trans (by repeat (first | (with_reducible first | exact HK.out | apply Zm.set_ | apply Zaa | apply Zac | apply Zab | refine Zak ?_ GW521.out _ | refine Zak ?_ GW532.out _) | exact HK.out)) (Zm.of_below hb g none) (.inl rfl)); replace HB := Za.mk (Zai (by repeat (first | (with_reducible first | exact HB.out | apply Ze | apply Zf | apply Zd | refine Zk ?_ (Zc.ge HI0.out) | refine Zk ?_ GE521.out | refine Zk ?_ GE532.out) | exact HB.out)) hb); replace HI0 := Za.mk (Zc.below (by repeat (first | (with_reducible first | exact HI0.out | apply Zc.alloc | apply Zc.drewN | apply Zc.drew | apply Zc.Zv | refine Zc.far ?_ NB0_521.out _ | refine Zc.far ?_ NB0_532.out _) | exact HI0.out)) hb); (try clear hb); (try clear hb2); (try clear hk); (try clear hi); have hnb110 := NB532_521.out; have hnc110 := NB521_532.out; have hnb111 := NB532_0.out; have hnc111 := NB0_532.out; have hcz112_0 : w109.cell? ⟨gb532, 0, none⟩ = some (.int .u16 (IntKind.u16.wrap (x8_15))) := (Zg BK532.out 0).trans rfl; have hcz112_1 : w109.cell? ⟨gb532, 1, none⟩ = some (.int .u8 0) := (Zg BK532.out 1).trans rfl; have hcz112_2 : w109.cell? ⟨gb532, 2, none⟩ = some (.int .u8 0) := (Zg BK532.out 2).trans rfl; have hcz112_3 : w109.cell? ⟨gb532, 3, none⟩ = some (.int .u32 t530) := (Zg BK532.out 3).trans rfl; have hfz112_0 := Zl BK532.out 0; have hfz112_1 := Zl BK532.out 1; have hfz112_2 := Zl BK532.out 2; have hfz112_3 := Zl BK532.out 3; have hnb113 := NB521_0.out; have hnc113 := NB0_521.out; have hcz114_0 : w109.cell? ⟨gb521, 0, none⟩ = some (.int .u16 0) := (Zg BK521.out 0).trans rfl; have hcz114_1 : w109.cell? ⟨gb521, 1, none⟩ = some (.int .u8 0) := (Zg BK521.out 1).trans rfl; have hcz114_2 : w109.cell? ⟨gb521, 2, none⟩ = some (.int .u8 0) := (Zg BK521.out 2).trans rfl; have hcz114_3 : w109.cell? ⟨gb521, 3, none⟩ = some (.int .u32 0) := (Zg BK521.out 3).trans rfl; have hfz114_0 := Zl BK521.out 0; have hfz114_1 := Zl BK521.out 1; have hfz114_2 := Zl BK521.out 2; have hfz114_3 := Zl BK521.out 3))
                    refine bodyPost_ret (results_cell_row rfl _ _ gb521 54 #[.int .u16 (IntKind.u16.wrap (x8_15)), .int .u8 0, .int .u8 0, .int .u32 t530] (0, 0) _ rfl (by (with_reducible repeat (first | refine Zj ?_ _ | refine Zh ?_ | refine Zi ?_ _)); refine Zu (cs := #[.int .u16 (IntKind.u16.wrap (x8_15)), .int .u8 0, .int .u8 0, .int .u32 0]) ?_ 3 _ rfl; (with_reducible repeat (first | refine Zj ?_ _ | refine Zh ?_ | refine Zi ?_ _)); refine Zu (cs := #[.int .u16 (IntKind.u16.wrap (x8_15)), .int .u8 0, .int .u8 0, .int .u32 0]) ?_ 2 _ rfl; (with_reducible repeat (first | refine Zj ?_ _ | refine Zh ?_ | refine Zi ?_ _)); refine Zu (cs := #[.int .u16 (IntKind.u16.wrap (x8_15)), .int .u8 0, .int .u8 0, .int .u32 0]) ?_ 1 _ rfl; (with_reducible repeat (first | refine Zj ?_ _ | refine Zh ?_ | refine Zi ?_ _)); refine Zu (cs := #[.int .u16 0, .int .u8 0, .int .u8 0, .int .u32 0]) ?_ 0 _ rfl; (with_reducible repeat (first | refine Zj ?_ _ | refine Zh ?_ | refine Zi ?_ _)); exact BK521.out) Try.underlying54 rfl (by kernel_rfl)) rfl ?_
                    exact ⟨by first | rfl | (simp [Zo, Zp] <;> rfl) | (simp only [← hji7]; first | rfl | (simp [Zo, Zp] <;> rfl)) | (simp [*, Zo, Zp] <;> rfl), by repeat (first | (with_reducible first | exact HI0.out | apply Zc.alloc | apply Zc.drewN | apply Zc.drew | apply Zc.Zv | refine Zc.far ?_ NB0_521.out _ | refine Zc.far ?_ NB0_532.out _) | exact HI0.out), by repeat (first | (with_reducible first | exact HB.out | apply Ze | apply Zf | apply Zd | refine Zk ?_ (Zc.ge HI0.out) | refine Zk ?_ GE521.out | refine Zk ?_ GE532.out) | exact HB.out), by repeat (first | (with_reducible first | exact HK.out | apply Zm.set_ | apply Zaa | apply Zac | apply Zab | refine Zak ?_ GW521.out _ | refine Zak ?_ GW532.out _) | exact HK.out)⟩
   ·rw [if_neg c9] at H
    exact absurd H (by simp)
  ·rw [if_neg c8] at H
   exact absurd H (by simp)

end Go.Proofs.Ytgodbniphkfgfaa.P
