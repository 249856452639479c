import Derived.Test.YtjpjfkmnfppgkaaGFnExactDistinct6
import Derived.Test.YtjpjfkmnfppgkaaGFnExactDistinct11
namespace Go.Proofs.Ytjpjfkmnfppgkaa.P
open Go.RowKit Go.Proofs.YtjpjfkmnfppgkaaW.PrintWords Go.Proofs.YtjpjfkmnfppgkaaW.PrintLast Go.Proofs.YtjpjfkmnfppgkaaW.PrintMore
attribute [local go_sem] max2_int min2_int max_two min_two max_three min_three max_four min_four
set_option linter.unusedVariables false
set_option linter.unusedSimpArgs false

def Zav.l0 : Nat → List Int → List Int → Int → Option (Bool)
  | 0, _, _, _ => none
  | k + 1, x0, x1, x5 => if x5 < (x0.length : Int) then (if 0 ≤ x5 then (if x5 < (x1.length : Int) then (if (rd x0 x5) = (rd x1 x5) then (Zav.l0 k x0 x1 (wrap64 (x5 + 1))) else (some false)) else (none)) else (none)) else (some true)
def Zav.f (k : Nat) (l0 : List Int) (l1 : List Int) : Option (Bool) := if (l0.length : Int) = (l1.length : Int) then (Zav.l0 k l0 l1 0) else (some false)
set_option maxHeartbeats 8000000 in
set_option maxRecDepth 100000 in
theorem Zav.calls (k : Nat) (A0 : Option Addr) (c0 : Nat) (l0 : List Int) (A1 : Option Addr) (c1 : Nat) (l1 : List Int) (r : Bool) (w : World) (hr0 : Kd.C (Kd.int .u64) w A0 l0.length l0) (hc0 : l0.length ≤ c0) (hr1 : Kd.C (Kd.int .u64) w A1 l1.length l1) (hc1 : l1.length ≤ c1) (h : Zav.f k l0 l1 = some r) :
  Calls Try.prog 31 #[.slice A0 l0.length c0, .slice A1 l1.length c1] w fun e w' => e = .returned (.bool r) ∧ Zt w w' := by
 have HR0 := Za.mk hr0
 have HC0 := Za.mk hc0
 clear hr0 hc0
 have HR1 := Za.mk hr1
 have HC1 := Za.mk hc1
 clear hr1 hc1
 have H : (if (l0.length : Int) = (l1.length : Int) then (Zav.l0 k l0 l1 0) else (some false)) = some r := h
 clear h
 by_cases c3 : (l0.length : Int) = (l1.length : Int)
 ·rw [if_pos c3] at H
  have c3b0 : ((l0.length : Int) == (l1.length : Int)) = true := beq_iff_eq.mpr c3
  have c3b1 : ((l0.length : Int) != (l1.length : Int)) = false := bne_eq_false_iff_eq.mpr c3
  have c3b2 : (l0.length == l1.length) = true := by first | simpa using c3 | (simp at c3 ⊢; omega)
  clear c3
  have H' := Za.mk H
  clear H
  go_enter Try.func31, Try.ntmps31
  go_wp2
  repeat (go_quiet (fail); try go_wp2)
  go_loopg [5] k (fun kq v5 w' => ∃ (x5_1 : Int), v5 = .int .i64 x5_1 ∧ Za (Zav.l0 kq l0 l1 x5_1 = some r) ∧ Za (kq ≤ k) ∧ Zt w w')
  case atStart => exact ⟨(0), (by first | rfl | (simp; done) | (simp [*]; done)), H', ⟨Nat.le_refl _⟩, by repeat (first | exact Zt.refl _ | apply Zt.step)⟩
  case round =>
   clear H'
   try clear c1
   try clear p2
   try clear c3
   try clear c3b0
   try clear c3b1
   try clear c3b2
   obtain ⟨x5_1, rfl, HA, HK1, ⟨m1, rfl⟩⟩ := hrel
   cases gk with
   | zero => exact absurd HA.out (by simp [Zav.l0])
   | succ k1 =>
    have H := HA.out
    clear HA
    simp only [Zav.l0] at H
    by_cases c4 : x5_1 < (l0.length : Int)
    ·rw [if_pos c4] at H
     have c4b0 : decide (x5_1 < (l0.length : Int)) = true := decide_eq_true c4
     clear c4
     by_cases c5 : 0 ≤ x5_1
     ·rw [if_pos c5] at H
      have c5b0 : decide (0 ≤ x5_1) = true := decide_eq_true c5
      clear c5
      by_cases c6 : x5_1 < (l1.length : Int)
      ·rw [if_pos c6] at H
       have c6b0 : decide (x5_1 < (l1.length : Int)) = true := decide_eq_true c6
       clear c6
       by_cases c7 : (rd l0 x5_1) = (rd l1 x5_1)
       ·rw [if_pos c7] at H
        have c7b0 : ((rd l0 x5_1) == (rd l1 x5_1)) = true := beq_iff_eq.mpr c7
        have c7b1 : ((rd l0 x5_1) != (rd l1 x5_1)) = false := bne_eq_false_iff_eq.mpr c7
        clear c7
        have H' := Za.mk H
        clear H
        have p203 : 0 ≤ (x5_1 : Int) := of_decide_eq_true (by assumption)
        have q203 : x5_1 < (l0.length : Int) := of_decide_eq_true (by assumption)
        obtain ⟨ad203, e203, hx203_0⟩ := Kd.at_int HR0.out x5_1 p203 q203
        cases e203
        replace p203 := eq_true p203
        replace q203 := eq_true q203
        have p204 : 0 ≤ (x5_1 : Int) := of_decide_eq_true (by assumption)
        have q204 : x5_1 < (l1.length : Int) := of_decide_eq_true (by assumption)
        obtain ⟨ad204, e204, hx204_0⟩ := Kd.at_int HR1.out x5_1 p204 q204
        cases e204
        replace p204 := eq_true p204
        replace q204 := eq_true q204
        go_wp2
        repeat (go_quiet (fail); try go_wp2)
        go_roundg k1
        case measure => have := HK1.out; omega
        case rel => exact ⟨(wrap64 (x5_1 + 1)), (by first | rfl | (simp; done) | (simp [*]; done)), H', ⟨by have := HK1.out; omega⟩, by repeat (first | exact Zt.refl _ | apply Zt.step)⟩
       ·rw [if_neg c7] at H
        have c7b0 : ((rd l0 x5_1) == (rd l1 x5_1)) = false := beq_eq_false_iff_ne.mpr c7
        have c7b1 : ((rd l0 x5_1) != (rd l1 x5_1)) = true := bne_iff_ne.mpr c7
        obtain rfl := Option.some.inj H
        have p203 : 0 ≤ (x5_1 : Int) := of_decide_eq_true (by assumption)
        have q203 : x5_1 < (l0.length : Int) := of_decide_eq_true (by assumption)
        obtain ⟨ad203, e203, hx203_0⟩ := Kd.at_int HR0.out x5_1 p203 q203
        cases e203
        replace p203 := eq_true p203
        replace q203 := eq_true q203
        have p204 : 0 ≤ (x5_1 : Int) := of_decide_eq_true (by assumption)
        have q204 : x5_1 < (l1.length : Int) := of_decide_eq_true (by assumption)
        obtain ⟨ad204, e204, hx204_0⟩ := Kd.at_int HR1.out x5_1 p204 q204
        cases e204
        replace p204 := eq_true p204
        replace q204 := eq_true q204
        go_wp2
        repeat (go_quiet (fail); try go_wp2)
        go_ret
        exact ⟨by first | rfl | (simp; done) | (simp [*]; done), by repeat (first | exact Zt.refl _ | apply Zt.step)⟩
      ·rw [if_neg c6] at H
       exact absurd H (by simp)
     ·rw [if_neg c5] at H
      exact absurd H (by simp)
    ·rw [if_neg c4] at H
     have c4b0 : decide (x5_1 < (l0.length : Int)) = false := decide_eq_false c4
     clear c4
     obtain rfl := Option.some.inj H
     go_wp2
     repeat (go_quiet (fail); try go_wp2)
     go_ret
     exact ⟨by first | rfl | (simp; done) | (simp [*]; done), by repeat (first | exact Zt.refl _ | apply Zt.step)⟩
 ·rw [if_neg c3] at H
  have c3b0 : ((l0.length : Int) == (l1.length : Int)) = false := beq_eq_false_iff_ne.mpr c3
  have c3b1 : ((l0.length : Int) != (l1.length : Int)) = true := bne_iff_ne.mpr c3
  have c3b2 : (l0.length == l1.length) = false := by first | simpa using c3 | (simp at c3 ⊢; omega)
  obtain rfl := Option.some.inj H
  go_enter Try.func31, Try.ntmps31
  go_wp2
  repeat (go_quiet (fail); try go_wp2)
  go_ret
  exact ⟨by first | rfl | (simp; done) | (simp [*]; done), by repeat (first | exact Zt.refl _ | apply Zt.step)⟩
theorem eqUint64S_ev (a b : List Int) (ha : a.length ≤ 35184372088832) (r : Bool) (hr : r = true ↔ a = b) : Ev (fun k => Zav.f k a b) r := by
  by_cases h : a.length = b.length
  · refine Ev.congr (f := fun k => Zav.l0 k a b 0) (fun k => by unfold Zav.f; rw [if_pos (by omega)]) ?_
    refine ev_loop_eq (fun k i => Zav.l0 k a b i) a b h (ev_end fun k => ?_) (fun i hi hi' e r hr => ev_step _ (fun k => ?_) hr) (fun i hi hi' e => ev_end fun k => ?_) r hr
    · simp only [Zav.l0]; rw [if_neg (by omega)]
    · simp only [Zav.l0]
      rw [if_pos (by omega), if_pos (by omega), if_pos (by omega), rd_eq a i hi, rd_eq b i hi', if_pos e, Zao (by omega) (by omega)]; rfl
    · simp only [Zav.l0]
      rw [if_pos (by omega), if_pos (by omega), if_pos (by omega), rd_eq a i hi, rd_eq b i hi', if_neg e]
  · have e : r = false := by
      cases r with
      | false => rfl
      | true => exact absurd (congrArg List.length (hr.1 rfl)) h
    rw [e]
    exact ev_is fun k => by unfold Zav.f; rw [if_neg (by omega)]
theorem toUint64S_ev (l : List Int) (hl : l.length ≤ 35184372088832) : Ev (fun k => Zaz.f k l) l := by
  have key := ev_loop (fun k s i => Zaz.l0 k l s i) l.length (filled id l 0) _ _ (filled_zero id l 0) (filled_all id l 0) (fun i hi r hr => by
    have hf := filled_length id l 0 i (by omega)
    refine ev_step _ (fun k => ?_) hr
    simp only [Zaz.l0]
    rw [if_pos (by omega), if_pos (by omega), if_pos (by omega), Zao (by omega) (by omega), Int.toNat_natCast, rd_eq l i hi]
    have := filled_set id l 0 i hi
    simp only [id] at this
    rw [this]
    rfl) l (ev_end fun k => by simp only [Zaz.l0]; rw [if_neg (by omega)]; simp)
  refine Ev.congr (fun k => ?_) key
  unfold Zaz.f
  rw [if_pos (by omega), if_pos (by omega), Int.toNat_natCast]
def Zbb.l0 : Nat → List Int → Int → Int → Option (Int × List Int)
  | 0, _, _, _ => none
  | k + 1, x0, x1, x5 => if x5 < (x0.length : Int) then (if 0 ≤ x5 then (Zbb.l0 k (x0.set (x5 : Int).toNat (IntKind.u64.wrap (x1))) (wrap64 (x1 + 1)) (wrap64 (x5 + 1))) else (none)) else (some (x1, x0))
def Zbb.f (k : Nat) (l0 : List Int) (a1 : Int) : Option (Int × List Int) := Zbb.l0 k l0 a1 0
set_option maxHeartbeats 8000000 in
set_option maxRecDepth 100000 in
theorem Zbb.calls (k : Nat) (P0_ : Nat → Prop) (u9000_ : Value) (l0 : List Int) (a1 : Int) (r1 : Int) (r2 : List Int) (w0 w : World) (hB : Below w0.heap.size w0 w) (ho0 : Kd.R (Kd.int .u64) 42 w w0.heap.size P0_ u9000_ l0) (h : Zbb.f k l0 a1 = some (r1, r2)) :
  Calls Try.prog 19 #[u9000_, .int .i64 a1] w fun e w' => e = .returned (.int .i64 r1) ∧ Kd.R (Kd.int .u64) 42 w' w0.heap.size (fun k_ => (P0_ k_ ∨ w.heap.size ≤ k_)) u9000_ r2 ∧ Below w0.heap.size w0 w' ∧ Kept w w' (fun k_ => P0_ k_) := by
 have HO0 := Za.mk (show Kd.R (Kd.int .u64) 42 w w0.heap.size (fun k_ => (P0_ k_ ∨ w.heap.size ≤ k_)) u9000_ l0 from Kd.R_mono ho0 (fun k_ hk => (.inl hk)))
 have HK := Za.mk (Kept.refl w (fun k_ => P0_ k_))
 have HW0 := Za.mk hB.size
 have HB := Za.mk hB
 clear hB
 have H : (Zbb.l0 k l0 a1 0) = some (r1, r2) := h
 clear h
 have H' := Za.mk H
 clear H
 go_enter Try.func19, Try.ntmps19
 go_wp2
 go_loopg [1, 5] k (fun kq v1 v5 w' => ∃ (x0_1 : List Int) (x1_1 : Int) (x5_1 : Int), v1 = .int .i64 x1_1 ∧ v5 = .int .i64 x5_1 ∧ Za (Zbb.l0 kq x0_1 x1_1 x5_1 = some (r1, r2)) ∧ Za (kq ≤ k) ∧ Za (Kd.R (Kd.int .u64) 42 w' w0.heap.size (fun k_ => (P0_ k_ ∨ w.heap.size ≤ k_)) u9000_ x0_1) ∧ Za (Kept w w' (fun k_ => P0_ k_)) ∧ Za (Below w0.heap.size w0 w'))
 case atStart => exact ⟨(l0), (a1), (0), (by first | rfl | (simp; done) | (simp [*]; done)), (by first | rfl | (simp; done) | (simp [*]; done)), H', ⟨Nat.le_refl _⟩, ⟨by (with_reducible repeat (first | apply Kd.R_alloc | apply Kd.R_drewN | apply Kd.R_drew)); exact HO0.out⟩, ⟨by repeat (first | (with_reducible first | exact HK.out | apply Kept.alloc | apply Kept.drewN | apply Kept.drew) | exact HK.out)⟩, ⟨by repeat (first | (with_reducible first | exact HB.out | apply Zd | apply Zf | apply Ze) | exact HB.out)⟩⟩
 case round =>
  clear H'
  try clear c1
  try clear p2
  obtain ⟨x0_1, x1_1, x5_1, rfl, rfl, HA, HK1, HO_0, HK, HB⟩ := hrel
  cases gk with
  | zero => exact absurd HA.out (by simp [Zbb.l0])
  | succ k1 =>
   have H := HA.out
   clear HA
   simp only [Zbb.l0] at H
   by_cases c3 : x5_1 < (x0_1.length : Int)
   ·rw [if_pos c3] at H
    have c3b0 : decide (x5_1 < (x0_1.length : Int)) = true := decide_eq_true c3
    clear c3
    by_cases c4 : 0 ≤ x5_1
    ·rw [if_pos c4] at H
     have c4b0 : decide (0 ≤ x5_1) = true := decide_eq_true c4
     clear c4
     obtain ⟨y211, hy211⟩ : ∃ y_ : List Int, y_ = (x0_1.set (x5_1 : Int).toNat (IntKind.u64.wrap (x1_1))) := ⟨_, rfl⟩
     replace H : (Zbb.l0 k1 y211 (wrap64 (x1_1 + 1)) (wrap64 (x5_1 + 1))) = some (r1, r2) := by first | (rw [hy211]; with_reducible exact H) | (have H2_ := (Option.bind_some _ _).symm.trans H; rw [hy211]; with_reducible exact H2_) | (have H2_ := (Option.bind_some _ _).symm.trans H; with_reducible exact H2_) | with_reducible exact H | (rw [hy211]; exact H) | exact H
     have Ny211 := Za.mk hy211
     clear hy211
     have H' := Za.mk H
     clear H
     obtain ⟨Ao6, co6, eo6⟩ := Kd.R_slice HO_0.out
     subst eo6
     have p5 : 0 ≤ (x5_1 : Int) := of_decide_eq_true (by assumption)
     have q5 : (x5_1 : Int) < ((x0_1.length : Int) : Int) := of_decide_eq_true (by assumption)
     obtain ⟨go5, co5, eo5, gb5, gl5, cl5, HG5⟩ := Kd.R_form HO_0.out (by omega)
     (first | cases eo5 | (injection eo5 with ea_ en_ ec_; (first | subst ea_ | (injection ea_ with ea_; subst ea_)); subst ec_; clear en_))
     have GB5 := Za.mk gb5
     have GG5 := Za.mk HG5
     clear gb5 gl5 HG5
     have HMgo5 := Za.mk (show (P0_ go5 ∨ w.heap.size ≤ go5) from (HO_0.out.1 _ rfl))
     obtain ⟨hx5_0, hf5_0⟩ := Kd.R_celln 0 HO_0.out (x5_1 : Int) p5 q5
     replace p5 := eq_true p5
     replace q5 := eq_true q5
     have HP7 := Kd.R_putg HO_0.out (x5_1 : Int) (IntKind.u64.wrap (x1_1))
     go_wp2_with (first | ((with_reducible refine gate_store (t := 42) (p := 16) rfl ?_); refine store_event (t := 42) (p := 16) (v := ?vo_w8) (w1 := (wr.setCell ⟨go5, (x5_1 : Int).toNat, none⟩ (.int .u64 (IntKind.u64.wrap (x1_1))))) ?hg ?ho ?hn ?hr ?_; (case ho => rfl); (case hg => rfl); (case hn => rfl); (case hr => first | (go_simp; done) | (go_simp; rfl)); intro w8 hw; have hg : wr.grownBy w8 (some go5) := (by rw [hw]; exact HP7.2); have hp_ : Kd.R (Kd.int .u64) 42 w8 w0.heap.size (fun k_ => (P0_ k_ ∨ w.heap.size ≤ k_)) (.slice (some ⟨go5, 0, none⟩) x0_1.length co6) y211 := (by rw [hw, Ny211.out]; exact HP7.1); clear HP7; replace HB := Za.mk ((by rw [hw]; exact Zj (HB.out) GB5.out : Below w0.heap.size w0 w8)); replace HK := Za.mk (Kept.of_grown (S := (fun k_ => P0_ k_)) hg (by repeat (first | (with_reducible first | exact HK.out | apply Kept.alloc | apply Kept.drewN | apply Kept.drew) | exact HK.out)) (fun k_ e_ => (HO_0.out.1 k_ e_))); replace HO_0 := Za.mk (hp_); clear hg hw hp_))
     go_roundg k1
     case measure => have := HK1.out; omega
     case rel => exact ⟨(y211), (wrap64 (x1_1 + 1)), (wrap64 (x5_1 + 1)), (by first | rfl | (simp; done) | (simp [*]; done)), (by first | rfl | (simp; done) | (simp [*]; done)), H', ⟨by have := HK1.out; omega⟩, ⟨by (with_reducible repeat (first | apply Kd.R_alloc | apply Kd.R_drewN | apply Kd.R_drew)); exact HO_0.out⟩, ⟨by repeat (first | (with_reducible first | exact HK.out | apply Kept.alloc | apply Kept.drewN | apply Kept.drew) | exact HK.out)⟩, ⟨by repeat (first | (with_reducible first | exact HB.out | apply Zd | apply Zf | apply Ze) | exact HB.out)⟩⟩
    ·rw [if_neg c4] at H
     exact absurd H (by simp)
   ·rw [if_neg c3] at H
    have c3b0 : decide (x5_1 < (x0_1.length : Int)) = false := decide_eq_false c3
    clear c3
    simp only [Option.some.injEq, Prod.mk.injEq] at H
    obtain ⟨rfl, rfl⟩ := H
    obtain ⟨Ao9, co9, eo9⟩ := Kd.R_slice HO_0.out
    subst eo9
    go_wp2
    go_ret
    exact ⟨by first | rfl | (simp [Zy, Zz] <;> rfl) | (simp [*, Zy, Zz] <;> rfl), by (with_reducible repeat (first | apply Kd.R_alloc | apply Kd.R_drewN | apply Kd.R_drew)); exact HO_0.out, by repeat (first | (with_reducible first | exact HB.out | apply Zd | apply Zf | apply Ze) | exact HB.out), by repeat (first | (with_reducible first | exact HK.out | apply Kept.alloc | apply Kept.drewN | apply Kept.drew) | exact HK.out)⟩
def marks64 (n : Nat) (k0 : Int) : List Int := (List.range n).map fun i : Nat => IntKind.u64.wrap (k0 + (i : Int))
theorem marks64_length (n : Nat) (k0 : Int) : (marks64 n k0).length = n := by simp [marks64]
theorem markUint64S_ev (l : List Int) (k0 : Int) (h0 : 0 ≤ k0) (h1 : k0 ≤ 1000000000000) (hl : l.length ≤ 35184372088832) : Ev (fun k => Zbb.f k l k0) (k0 + (l.length : Int), marks64 l.length k0) := by
  have key := ev_loop (fun k (s : Int × List Int) i => Zbb.l0 k s.2 s.1 i) l.length (fun i => (k0 + (i : Int), (marks64 i k0) ++ l.drop i)) (k0, l) (k0 + (l.length : Int), marks64 l.length k0) (by simp [marks64]) (by simp) (fun i hi r hr => by
    have hlen : ((marks64 i k0) ++ l.drop i).length = l.length := by rw [List.length_append, marks64_length, List.length_drop]; omega
    refine ev_step _ (fun k => ?_) hr
    simp only [Zbb.l0]
    rw [hlen, if_pos (by omega), if_pos (by omega), Zao (by omega) (by omega), Zao (by omega) (by omega), Int.toNat_natCast]
    have e : ((marks64 i k0) ++ l.drop i).set i (IntKind.u64.wrap (k0 + (i : Int))) = marks64 (i + 1) k0 ++ l.drop (i + 1) := by
      rw [List.set_append_right i _ (by rw [marks64_length]; omega), marks64_length, Nat.sub_self, List.drop_eq_getElem_cons hi, List.set_cons_zero]
      unfold marks64
      rw [List.range_succ, List.map_append, List.append_assoc]
      rfl
    rw [e, show k0 + (i : Int) + 1 = k0 + ((i + 1 : Nat) : Int) by omega]
    rfl) (k0 + (l.length : Int), marks64 l.length k0)
  refine Ev.congr (fun k => rfl) (key (ev_end fun k => ?_))
  simp only [Zbb.l0]
  rw [marks64_length, if_neg (by omega)]
def EvT {α : Type} (g : Nat → Option α) (P : α → Prop) : Prop := ∃ r, Ev g r ∧ P r
theorem evt_bind {α β : Type} {g : Nat → Option α} {f : Nat → α → Option β} {P : α → Prop} {Q : β → Prop} (h : EvT g P) (h2 : ∀ x, P x → EvT (fun k => f k x) Q) : EvT (fun k => (g k).bind (f k)) Q := by
  obtain ⟨x, hx, px⟩ := h
  obtain ⟨r, hr, pr⟩ := h2 x px
  exact ⟨r, Ev.bind hx hr, pr⟩
theorem evt_step {α : Type} {g : Nat → Option α} {P : α → Prop} (f : Nat → Option α) (h : ∀ k, g (k + 1) = f k) (k : EvT f P) : EvT g P := by
  obtain ⟨r, hr, pr⟩ := k
  exact ⟨r, ev_step f h hr, pr⟩
theorem evt_ev {α : Type} {g : Nat → Option α} {P : α → Prop} {r : α} (h : Ev g r) (p : P r) : EvT g P := ⟨r, h, p⟩
def laws_eqCall.f (k : Nat) (a0_0 : Int) (a0_1 : Int) (l0_2 : List Int) (a1_0 : Int) (a1_1 : Int) (l1_2 : List Int) : Option (Bool) := if a0_0 = a1_0 then (if a0_1 = a1_1 then ((Zav.f k l0_2 l1_2).bind fun t207 => (if t207 = true then (some true) else (some false))) else (some false)) else (some false)
set_option maxHeartbeats 8000000 in
set_option maxRecDepth 100000 in
theorem laws_eqCall.calls (k : Nat) (a0_0 : Int) (a0_1 : Int) (A0_2 : Option Addr) (c0_2 : Nat) (l0_2 : List Int) (a1_0 : Int) (a1_1 : Int) (A1_2 : Option Addr) (c1_2 : Nat) (l1_2 : List Int) (r : Bool) (w : World) (hr0_2 : Kd.C (Kd.int .u64) w A0_2 l0_2.length l0_2) (hc0_2 : l0_2.length ≤ c0_2) (hr1_2 : Kd.C (Kd.int .u64) w A1_2 l1_2.length l1_2) (hc1_2 : l1_2.length ≤ c1_2) (h : laws_eqCall.f k a0_0 a0_1 l0_2 a1_0 a1_1 l1_2 = some r) :
  Calls Try.prog 18 #[.agg #[.int .u32 a0_0, .int .u32 a0_1, .slice A0_2 l0_2.length c0_2], .agg #[.int .u32 a1_0, .int .u32 a1_1, .slice A1_2 l1_2.length c1_2]] w fun e w' => e = .returned (.bool r) ∧ Below w.heap.size w w' := by
 have hu35 := Try.underlying35
 have HR0_2 := Za.mk hr0_2
 have HC0_2 := Za.mk hc0_2
 clear hr0_2 hc0_2
 have HR1_2 := Za.mk hr1_2
 have HC1_2 := Za.mk hc1_2
 clear hr1_2 hc1_2
 have HB := Za.mk (Below.refl w.heap.size w)
 have H : (if a0_0 = a1_0 then (if a0_1 = a1_1 then ((Zav.f k l0_2 l1_2).bind fun t207 => (if t207 = true then (some true) else (some false))) else (some false)) else (some false)) = some r := h
 clear h
 by_cases c3 : a0_0 = a1_0
 ·rw [if_pos c3] at H
  have c3b0 : (a0_0 == a1_0) = true := beq_iff_eq.mpr c3
  have c3b1 : (a0_0 != a1_0) = false := bne_eq_false_iff_eq.mpr c3
  clear c3
  by_cases c4 : a0_1 = a1_1
  ·rw [if_pos c4] at H
   have c4b0 : (a0_1 == a1_1) = true := beq_iff_eq.mpr c4
   have c4b1 : (a0_1 != a1_1) = false := bne_eq_false_iff_eq.mpr c4
   clear c4
   replace H := Option.bind_eq_some_iff.mp H
   obtain ⟨t207, A50, H⟩ := H
   replace H : (if t207 = true then (some true) else (some false)) = some r := H
   have A5 := Za.mk A50
   clear A50
   by_cases c6 : t207 = true
   ·subst c6
    have H1 : (some true) = some r := by rw [if_pos rfl] at H; exact H
    clear H
    have H := H1
    clear H1
    obtain rfl := Option.some.inj H
    go_enter Try.func18, Try.ntmps18
    go_wp2_with (first | ((with_reducible refine Zab (N := 2) rfl ?_); refine Zad ?hg (N := 2) ?hd (cs := #[.int .u32 a0_0, .int .u32 a0_1, .slice A0_2 l0_2.length c0_2]) (t := 35) ?hr ?_; (case hd => rfl); (case hg => rfl); (case hr => first | (go_simp; done) | (go_simp; rfl)); intro gb205 hg w7 hbox hb; have BK205 := Za.mk (hbox); have GW205 := Za.mk ((by rw [hg]; exact (Zr (by repeat (first | (with_reducible first | exact HB.out | apply Zd | apply Zf | apply Ze) | exact HB.out))) : w.heap.size ≤ gb205)); have GE205 := Za.mk ((by rw [hg]; exact (Zr (by repeat (first | (with_reducible first | exact HB.out | apply Zd | apply Zf | apply Ze) | exact HB.out))) : w.heap.size ≤ gb205)); replace HB := Za.mk (Zx (by repeat (first | (with_reducible first | exact HB.out | apply Zd | apply Zf | apply Ze) | exact HB.out)) hb); clear hb hbox hg) | ((with_reducible refine Zab (N := 3) rfl ?_); refine Zad ?hg (N := 3) ?hd (cs := #[.int .u32 a1_0, .int .u32 a1_1, .slice A1_2 l1_2.length c1_2]) (t := 35) ?hr ?_; (case hd => rfl); (case hg => rfl); (case hr => first | (go_simp; done) | (go_simp; rfl)); intro gb206 hg w8 hbox hb; have BK206 := Za.mk (hbox); have GW206 := Za.mk ((by rw [hg]; exact (Zr (by repeat (first | (with_reducible first | exact HB.out | apply Zd | apply Zf | apply Ze | refine Zj ?_ GE205.out) | exact HB.out))) : w.heap.size ≤ gb206)); have GE206 := Za.mk ((by rw [hg]; exact (Zr (by repeat (first | (with_reducible first | exact HB.out | apply Zd | apply Zf | apply Ze | refine Zj ?_ GE205.out) | exact HB.out))) : w.heap.size ≤ gb206)); replace HB := Za.mk (Zx (by repeat (first | (with_reducible first | exact HB.out | apply Zd | apply Zf | apply Ze | refine Zj ?_ GE205.out) | exact HB.out)) hb); have NB205_206 := Za.mk ((by rw [hg]; exact Nat.ne_of_lt (Zaa (g := gb205) (o := .cells #[.int .u32 a0_0, .int .u32 a0_1, .slice A0_2 l0_2.length c0_2] 35 (0, 0)) (by (with_reducible repeat (first | refine Zo ?_ _ | refine Zm ?_ | refine Zn ?_ _)); exact BK205.out)) : gb205 ≠ gb206)); have NB206_205 := Za.mk ((by rw [hg]; exact Nat.ne_of_gt (Zaa (g := gb205) (o := .cells #[.int .u32 a0_0, .int .u32 a0_1, .slice A0_2 l0_2.length c0_2] 35 (0, 0)) (by (with_reducible repeat (first | refine Zo ?_ _ | refine Zm ?_ | refine Zn ?_ _)); exact BK205.out)) : gb206 ≠ gb205)); replace BK205 := Za.mk (Zak (g := gb205) (o := .cells #[.int .u32 a0_0, .int .u32 a0_1, .slice A0_2 l0_2.length c0_2] 35 (0, 0)) (by (with_reducible repeat (first | refine Zo ?_ _ | refine Zm ?_ | refine Zn ?_ _)); exact BK205.out) hb); clear hb hbox hg; have hnb9 := NB205_206.out; have hnc9 := NB206_205.out; have hcz10_0 : w8.cell? ⟨gb205, 0, none⟩ = some (.int .u32 a0_0) := (Zc BK205.out 0).trans rfl; have hcz10_1 : w8.cell? ⟨gb205, 1, none⟩ = some (.int .u32 a0_1) := (Zc BK205.out 1).trans rfl; have hcz10_2 : w8.cell? ⟨gb205, 2, none⟩ = some (.slice A0_2 l0_2.length c0_2) := (Zc BK205.out 2).trans rfl; have hfz10_0 := Zg BK205.out 0; have hfz10_1 := Zg BK205.out 1; have hfz10_2 := Zg BK205.out 2; have hcz11_0 : w8.cell? ⟨gb206, 0, none⟩ = some (.int .u32 a1_0) := (Zc BK206.out 0).trans rfl; have hcz11_1 : w8.cell? ⟨gb206, 1, none⟩ = some (.int .u32 a1_1) := (Zc BK206.out 1).trans rfl; have hcz11_2 : w8.cell? ⟨gb206, 2, none⟩ = some (.slice A1_2 l1_2.length c1_2) := (Zc BK206.out 2).trans rfl; have hfz11_0 := Zg BK206.out 0; have hfz11_1 := Zg BK206.out 1; have hfz11_2 := Zg BK206.out 2) | ((with_reducible refine Zai (f := 31) rfl ?_); refine goesL_ (some 19) rfl rfl Try.func31 (by kernel_rfl) rfl #[.slice A0_2 l0_2.length c0_2, .slice A1_2 l1_2.length c1_2] rfl (by (try simp only [ZA, ZB, ZC]); first | done | rfl) ?_; (with_reducible refine (Zav.calls k _ _ l0_2 _ _ l1_2 true _ ?side1 ?side2 ?side3 ?side4 A5.out).mono ?_); (case side1 => repeat (first | exact (Kd.Zah HR0_2.out HB.out) | (with_reducible refine Kd.Zac ?_ _) | (with_reducible refine Kd.Zaf ?_ _) | (with_reducible refine Kd.Zae ?_))); (case side2 => exact HC0_2.out); (case side3 => repeat (first | exact (Kd.Zah HR1_2.out HB.out) | (with_reducible refine Kd.Zac ?_ _) | (with_reducible refine Kd.Zaf ?_ _) | (with_reducible refine Kd.Zae ?_))); (case side4 => exact HC1_2.out); rintro e w' ⟨rfl, ⟨nd, rfl⟩⟩; refine ⟨_, rfl, ?_⟩))
    go_ret
    exact ⟨by first | rfl | (simp [Zy, Zz] <;> rfl) | (simp [*, Zy, Zz] <;> rfl), by repeat (first | (with_reducible first | exact HB.out | apply Zd | apply Zf | apply Ze | refine Zj ?_ GE205.out | refine Zj ?_ GE206.out) | exact HB.out)⟩
   ·replace c6 := Bool.eq_false_iff.mpr c6
    subst c6
    have H1 : (some false) = some r := by rw [if_neg (show ¬ (false = true) by decide)] at H; exact H
    clear H
    have H := H1
    clear H1
    obtain rfl := Option.some.inj H
    go_enter Try.func18, Try.ntmps18
    go_wp2_with (first | ((with_reducible refine Zab (N := 2) rfl ?_); refine Zad ?hg (N := 2) ?hd (cs := #[.int .u32 a0_0, .int .u32 a0_1, .slice A0_2 l0_2.length c0_2]) (t := 35) ?hr ?_; (case hd => rfl); (case hg => rfl); (case hr => first | (go_simp; done) | (go_simp; rfl)); intro gb205 hg w12 hbox hb; have BK205 := Za.mk (hbox); have GW205 := Za.mk ((by rw [hg]; exact (Zr (by repeat (first | (with_reducible first | exact HB.out | apply Zd | apply Zf | apply Ze) | exact HB.out))) : w.heap.size ≤ gb205)); have GE205 := Za.mk ((by rw [hg]; exact (Zr (by repeat (first | (with_reducible first | exact HB.out | apply Zd | apply Zf | apply Ze) | exact HB.out))) : w.heap.size ≤ gb205)); replace HB := Za.mk (Zx (by repeat (first | (with_reducible first | exact HB.out | apply Zd | apply Zf | apply Ze) | exact HB.out)) hb); clear hb hbox hg) | ((with_reducible refine Zab (N := 3) rfl ?_); refine Zad ?hg (N := 3) ?hd (cs := #[.int .u32 a1_0, .int .u32 a1_1, .slice A1_2 l1_2.length c1_2]) (t := 35) ?hr ?_; (case hd => rfl); (case hg => rfl); (case hr => first | (go_simp; done) | (go_simp; rfl)); intro gb206 hg w13 hbox hb; have BK206 := Za.mk (hbox); have GW206 := Za.mk ((by rw [hg]; exact (Zr (by repeat (first | (with_reducible first | exact HB.out | apply Zd | apply Zf | apply Ze | refine Zj ?_ GE205.out) | exact HB.out))) : w.heap.size ≤ gb206)); have GE206 := Za.mk ((by rw [hg]; exact (Zr (by repeat (first | (with_reducible first | exact HB.out | apply Zd | apply Zf | apply Ze | refine Zj ?_ GE205.out) | exact HB.out))) : w.heap.size ≤ gb206)); replace HB := Za.mk (Zx (by repeat (first | (with_reducible first | exact HB.out | apply Zd | apply Zf | apply Ze | refine Zj ?_ GE205.out) | exact HB.out)) hb); have NB205_206 := Za.mk ((by rw [hg]; exact Nat.ne_of_lt (Zaa (g := gb205) (o := .cells #[.int .u32 a0_0, .int .u32 a0_1, .slice A0_2 l0_2.length c0_2] 35 (0, 0)) (by (with_reducible repeat (first | refine Zo ?_ _ | refine Zm ?_ | refine Zn ?_ _)); exact BK205.out)) : gb205 ≠ gb206)); have NB206_205 := Za.mk ((by rw [hg]; exact Nat.ne_of_gt (Zaa (g := gb205) (o := .cells #[.int .u32 a0_0, .int .u32 a0_1, .slice A0_2 l0_2.length c0_2] 35 (0, 0)) (by (with_reducible repeat (first | refine Zo ?_ _ | refine Zm ?_ | refine Zn ?_ _)); exact BK205.out)) : gb206 ≠ gb205)); replace BK205 := Za.mk (Zak (g := gb205) (o := .cells #[.int .u32 a0_0, .int .u32 a0_1, .slice A0_2 l0_2.length c0_2] 35 (0, 0)) (by (with_reducible repeat (first | refine Zo ?_ _ | refine Zm ?_ | refine Zn ?_ _)); exact BK205.out) hb); clear hb hbox hg; have hnb14 := NB205_206.out; have hnc14 := NB206_205.out; have hcz15_0 : w13.cell? ⟨gb205, 0, none⟩ = some (.int .u32 a0_0) := (Zc BK205.out 0).trans rfl; have hcz15_1 : w13.cell? ⟨gb205, 1, none⟩ = some (.int .u32 a0_1) := (Zc BK205.out 1).trans rfl; have hcz15_2 : w13.cell? ⟨gb205, 2, none⟩ = some (.slice A0_2 l0_2.length c0_2) := (Zc BK205.out 2).trans rfl; have hfz15_0 := Zg BK205.out 0; have hfz15_1 := Zg BK205.out 1; have hfz15_2 := Zg BK205.out 2; have hcz16_0 : w13.cell? ⟨gb206, 0, none⟩ = some (.int .u32 a1_0) := (Zc BK206.out 0).trans rfl; have hcz16_1 : w13.cell? ⟨gb206, 1, none⟩ = some (.int .u32 a1_1) := (Zc BK206.out 1).trans rfl; have hcz16_2 : w13.cell? ⟨gb206, 2, none⟩ = some (.slice A1_2 l1_2.length c1_2) := (Zc BK206.out 2).trans rfl; have hfz16_0 := Zg BK206.out 0; have hfz16_1 := Zg BK206.out 1; have hfz16_2 := Zg BK206.out 2) | ((with_reducible refine Zai (f := 31) rfl ?_); refine goesL_ (some 19) rfl rfl Try.func31 (by kernel_rfl) rfl #[.slice A0_2 l0_2.length c0_2, .slice A1_2 l1_2.length c1_2] rfl (by (try simp only [ZA, ZB, ZC]); first | done | rfl) ?_; (with_reducible refine (Zav.calls k _ _ l0_2 _ _ l1_2 false _ ?side1 ?side2 ?side3 ?side4 A5.out).mono ?_); (case side1 => repeat (first | exact (Kd.Zah HR0_2.out HB.out) | (with_reducible refine Kd.Zac ?_ _) | (with_reducible refine Kd.Zaf ?_ _) | (with_reducible refine Kd.Zae ?_))); (case side2 => exact HC0_2.out); (case side3 => repeat (first | exact (Kd.Zah HR1_2.out HB.out) | (with_reducible refine Kd.Zac ?_ _) | (with_reducible refine Kd.Zaf ?_ _) | (with_reducible refine Kd.Zae ?_))); (case side4 => exact HC1_2.out); rintro e w' ⟨rfl, ⟨nd, rfl⟩⟩; refine ⟨_, rfl, ?_⟩))
    go_ret
    exact ⟨by first | rfl | (simp [Zy, Zz] <;> rfl) | (simp [*, Zy, Zz] <;> rfl), by repeat (first | (with_reducible first | exact HB.out | apply Zd | apply Zf | apply Ze | refine Zj ?_ GE205.out | refine Zj ?_ GE206.out) | exact HB.out)⟩
  ·rw [if_neg c4] at H
   have c4b0 : (a0_1 == a1_1) = false := beq_eq_false_iff_ne.mpr c4
   have c4b1 : (a0_1 != a1_1) = true := bne_iff_ne.mpr c4
   obtain rfl := Option.some.inj H
   go_enter Try.func18, Try.ntmps18
   go_wp2_with (first | ((with_reducible refine Zab (N := 2) rfl ?_); refine Zad ?hg (N := 2) ?hd (cs := #[.int .u32 a0_0, .int .u32 a0_1, .slice A0_2 l0_2.length c0_2]) (t := 35) ?hr ?_; (case hd => rfl); (case hg => rfl); (case hr => first | (go_simp; done) | (go_simp; rfl)); intro gb205 hg w17 hbox hb; have BK205 := Za.mk (hbox); have GW205 := Za.mk ((by rw [hg]; exact (Zr (by repeat (first | (with_reducible first | exact HB.out | apply Zd | apply Zf | apply Ze) | exact HB.out))) : w.heap.size ≤ gb205)); have GE205 := Za.mk ((by rw [hg]; exact (Zr (by repeat (first | (with_reducible first | exact HB.out | apply Zd | apply Zf | apply Ze) | exact HB.out))) : w.heap.size ≤ gb205)); replace HB := Za.mk (Zx (by repeat (first | (with_reducible first | exact HB.out | apply Zd | apply Zf | apply Ze) | exact HB.out)) hb); clear hb hbox hg) | ((with_reducible refine Zab (N := 3) rfl ?_); refine Zad ?hg (N := 3) ?hd (cs := #[.int .u32 a1_0, .int .u32 a1_1, .slice A1_2 l1_2.length c1_2]) (t := 35) ?hr ?_; (case hd => rfl); (case hg => rfl); (case hr => first | (go_simp; done) | (go_simp; rfl)); intro gb206 hg w18 hbox hb; have BK206 := Za.mk (hbox); have GW206 := Za.mk ((by rw [hg]; exact (Zr (by repeat (first | (with_reducible first | exact HB.out | apply Zd | apply Zf | apply Ze | refine Zj ?_ GE205.out) | exact HB.out))) : w.heap.size ≤ gb206)); have GE206 := Za.mk ((by rw [hg]; exact (Zr (by repeat (first | (with_reducible first | exact HB.out | apply Zd | apply Zf | apply Ze | refine Zj ?_ GE205.out) | exact HB.out))) : w.heap.size ≤ gb206)); replace HB := Za.mk (Zx (by repeat (first | (with_reducible first | exact HB.out | apply Zd | apply Zf | apply Ze | refine Zj ?_ GE205.out) | exact HB.out)) hb); have NB205_206 := Za.mk ((by rw [hg]; exact Nat.ne_of_lt (Zaa (g := gb205) (o := .cells #[.int .u32 a0_0, .int .u32 a0_1, .slice A0_2 l0_2.length c0_2] 35 (0, 0)) (by (with_reducible repeat (first | refine Zo ?_ _ | refine Zm ?_ | refine Zn ?_ _)); exact BK205.out)) : gb205 ≠ gb206)); have NB206_205 := Za.mk ((by rw [hg]; exact Nat.ne_of_gt (Zaa (g := gb205) (o := .cells #[.int .u32 a0_0, .int .u32 a0_1, .slice A0_2 l0_2.length c0_2] 35 (0, 0)) (by (with_reducible repeat (first | refine Zo ?_ _ | refine Zm ?_ | refine Zn ?_ _)); exact BK205.out)) : gb206 ≠ gb205)); replace BK205 := Za.mk (Zak (g := gb205) (o := .cells #[.int .u32 a0_0, .int .u32 a0_1, .slice A0_2 l0_2.length c0_2] 35 (0, 0)) (by (with_reducible repeat (first | refine Zo ?_ _ | refine Zm ?_ | refine Zn ?_ _)); exact BK205.out) hb); clear hb hbox hg; have hnb19 := NB205_206.out; have hnc19 := NB206_205.out; have hcz20_0 : w18.cell? ⟨gb205, 0, none⟩ = some (.int .u32 a0_0) := (Zc BK205.out 0).trans rfl; have hcz20_1 : w18.cell? ⟨gb205, 1, none⟩ = some (.int .u32 a0_1) := (Zc BK205.out 1).trans rfl; have hcz20_2 : w18.cell? ⟨gb205, 2, none⟩ = some (.slice A0_2 l0_2.length c0_2) := (Zc BK205.out 2).trans rfl; have hfz20_0 := Zg BK205.out 0; have hfz20_1 := Zg BK205.out 1; have hfz20_2 := Zg BK205.out 2; have hcz21_0 : w18.cell? ⟨gb206, 0, none⟩ = some (.int .u32 a1_0) := (Zc BK206.out 0).trans rfl; have hcz21_1 : w18.cell? ⟨gb206, 1, none⟩ = some (.int .u32 a1_1) := (Zc BK206.out 1).trans rfl; have hcz21_2 : w18.cell? ⟨gb206, 2, none⟩ = some (.slice A1_2 l1_2.length c1_2) := (Zc BK206.out 2).trans rfl; have hfz21_0 := Zg BK206.out 0; have hfz21_1 := Zg BK206.out 1; have hfz21_2 := Zg BK206.out 2))
   go_ret
   exact ⟨by first | rfl | (simp [Zy, Zz] <;> rfl) | (simp [*, Zy, Zz] <;> rfl), by repeat (first | (with_reducible first | exact HB.out | apply Zd | apply Zf | apply Ze | refine Zj ?_ GE205.out | refine Zj ?_ GE206.out) | exact HB.out)⟩
 ·rw [if_neg c3] at H
  have c3b0 : (a0_0 == a1_0) = false := beq_eq_false_iff_ne.mpr c3
  have c3b1 : (a0_0 != a1_0) = true := bne_iff_ne.mpr c3
  obtain rfl := Option.some.inj H
  go_enter Try.func18, Try.ntmps18
  go_wp2_with (first | ((with_reducible refine Zab (N := 2) rfl ?_); refine Zad ?hg (N := 2) ?hd (cs := #[.int .u32 a0_0, .int .u32 a0_1, .slice A0_2 l0_2.length c0_2]) (t := 35) ?hr ?_; (case hd => rfl); (case hg => rfl); (case hr => first | (go_simp; done) | (go_simp; rfl)); intro gb205 hg w22 hbox hb; have BK205 := Za.mk (hbox); have GW205 := Za.mk ((by rw [hg]; exact (Zr (by repeat (first | (with_reducible first | exact HB.out | apply Zd | apply Zf | apply Ze) | exact HB.out))) : w.heap.size ≤ gb205)); have GE205 := Za.mk ((by rw [hg]; exact (Zr (by repeat (first | (with_reducible first | exact HB.out | apply Zd | apply Zf | apply Ze) | exact HB.out))) : w.heap.size ≤ gb205)); replace HB := Za.mk (Zx (by repeat (first | (with_reducible first | exact HB.out | apply Zd | apply Zf | apply Ze) | exact HB.out)) hb); clear hb hbox hg) | ((with_reducible refine Zab (N := 3) rfl ?_); refine Zad ?hg (N := 3) ?hd (cs := #[.int .u32 a1_0, .int .u32 a1_1, .slice A1_2 l1_2.length c1_2]) (t := 35) ?hr ?_; (case hd => rfl); (case hg => rfl); (case hr => first | (go_simp; done) | (go_simp; rfl)); intro gb206 hg w23 hbox hb; have BK206 := Za.mk (hbox); have GW206 := Za.mk ((by rw [hg]; exact (Zr (by repeat (first | (with_reducible first | exact HB.out | apply Zd | apply Zf | apply Ze | refine Zj ?_ GE205.out) | exact HB.out))) : w.heap.size ≤ gb206)); have GE206 := Za.mk ((by rw [hg]; exact (Zr (by repeat (first | (with_reducible first | exact HB.out | apply Zd | apply Zf | apply Ze | refine Zj ?_ GE205.out) | exact HB.out))) : w.heap.size ≤ gb206)); replace HB := Za.mk (Zx (by repeat (first | (with_reducible first | exact HB.out | apply Zd | apply Zf | apply Ze | refine Zj ?_ GE205.out) | exact HB.out)) hb); have NB205_206 := Za.mk ((by rw [hg]; exact Nat.ne_of_lt (Zaa (g := gb205) (o := .cells #[.int .u32 a0_0, .int .u32 a0_1, .slice A0_2 l0_2.length c0_2] 35 (0, 0)) (by (with_reducible repeat (first | refine Zo ?_ _ | refine Zm ?_ | refine Zn ?_ _)); exact BK205.out)) : gb205 ≠ gb206)); have NB206_205 := Za.mk ((by rw [hg]; exact Nat.ne_of_gt (Zaa (g := gb205) (o := .cells #[.int .u32 a0_0, .int .u32 a0_1, .slice A0_2 l0_2.length c0_2] 35 (0, 0)) (by (with_reducible repeat (first | refine Zo ?_ _ | refine Zm ?_ | refine Zn ?_ _)); exact BK205.out)) : gb206 ≠ gb205)); replace BK205 := Za.mk (Zak (g := gb205) (o := .cells #[.int .u32 a0_0, .int .u32 a0_1, .slice A0_2 l0_2.length c0_2] 35 (0, 0)) (by (with_reducible repeat (first | refine Zo ?_ _ | refine Zm ?_ | refine Zn ?_ _)); exact BK205.out) hb); clear hb hbox hg; have hnb24 := NB205_206.out; have hnc24 := NB206_205.out; have hcz25_0 : w23.cell? ⟨gb205, 0, none⟩ = some (.int .u32 a0_0) := (Zc BK205.out 0).trans rfl; have hcz25_1 : w23.cell? ⟨gb205, 1, none⟩ = some (.int .u32 a0_1) := (Zc BK205.out 1).trans rfl; have hcz25_2 : w23.cell? ⟨gb205, 2, none⟩ = some (.slice A0_2 l0_2.length c0_2) := (Zc BK205.out 2).trans rfl; have hfz25_0 := Zg BK205.out 0; have hfz25_1 := Zg BK205.out 1; have hfz25_2 := Zg BK205.out 2; have hcz26_0 : w23.cell? ⟨gb206, 0, none⟩ = some (.int .u32 a1_0) := (Zc BK206.out 0).trans rfl; have hcz26_1 : w23.cell? ⟨gb206, 1, none⟩ = some (.int .u32 a1_1) := (Zc BK206.out 1).trans rfl; have hcz26_2 : w23.cell? ⟨gb206, 2, none⟩ = some (.slice A1_2 l1_2.length c1_2) := (Zc BK206.out 2).trans rfl; have hfz26_0 := Zg BK206.out 0; have hfz26_1 := Zg BK206.out 1; have hfz26_2 := Zg BK206.out 2))
  go_ret
  exact ⟨by first | rfl | (simp [Zy, Zz] <;> rfl) | (simp [*, Zy, Zz] <;> rfl), by repeat (first | (with_reducible first | exact HB.out | apply Zd | apply Zf | apply Ze | refine Zj ?_ GE205.out | refine Zj ?_ GE206.out) | exact HB.out)⟩

end Go.Proofs.Ytjpjfkmnfppgkaa.P
