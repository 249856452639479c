import Derived.Test.YtgodbniphkfgfaaGFnProgram4
import Derived.Laws.MakeOwn
import Derived.Test.YtgodbniphkfgfaaGFnProgram1
import Derived.Test.YtgodbniphkfgfaaGFnProgram3
import Derived.Laws.BitsLemmas
import Derived.RowKit
import Derived.Test.YtgodbniphkfgfaaGFnProgram9
import Derived.Test.YtgodbniphkfgfaaGFnProgram7
import Derived.Test.YtgodbniphkfgfaaGFnProgram5
namespace Go.Proofs.Ytgodbniphkfgfaa.P
open Go.RowKit Go.Proofs.YtgodbniphkfgfaaW.PrintWords Go.Proofs.YtgodbniphkfgfaaW.PrintLast Go.Proofs.YtgodbniphkfgfaaW.PrintMore
set_option linter.unusedVariables false
set_option linter.unusedSimpArgs false

section
open Go.Proofs.YtgodbniphkfgfaaW.PrintWords
variable {P : Program} {ops : Array Oper} {rest : List Oper} {o : Oper} {a : Act} {Q : Exit → Act → World → Prop} {W : World} {α : Type}
theorem Kd.R_make0 (d : Kd α) {w0 W : World} (base e : Nat) (hgd : o.guard = none) {N : Tmp} (hd : o.dst = some N) (t : TypeId) (x y : Operand) (ho : o.op = .makeSlice t x y) (n : Int) (hx : a.eval x = .int .i64 0) (hy : a.eval y = .int .i64 n)
    (ht : P.underlying t = some (.slice e)) (z : Value) (bytes : Nat) (hinfo : (P.info? e).map (fun i => (i.zero, i.size, i.bytes)) = some (some z, d.sz, bytes)) (hz : z.cells.size = d.sz) (hs0 : 0 < d.sz) (hb0 : 0 < bytes)
    (z0 : α) {ok okp : Nat → Prop} (hzero : d.M W base okp z0 z.cells.toList) (hok : ∀ k, okp k → ok k) (hfresh : ok W.heap.size) (h0 : 0 ≤ n) (hl : n.toNat * bytes ≤ 281474976710656) (HB : Below base w0 W) (hbase : base ≤ W.heap.size)
    (h : ∀ v1 w1, d.R e w1 base ok v1 [] → Below base w0 w1 → W.grownBy w1 none → (∃ b, v1.ownBlock = some b ∧ W.heap.size ≤ b) → wpList P ops Q rest (a.put o.dst v1) w1) : wpList P ops Q (o :: rest) a W := by
  obtain ⟨m, rfl⟩ := Int.eq_ofNat_of_zero_le h0
  simp only [Int.toNat_natCast] at hl
  obtain ⟨i0, hi, hzz⟩ := Option.map_eq_some_iff.1 hinfo
  simp only [Prod.mk.injEq] at hzz
  obtain ⟨hz0, hz1, hz2⟩ := hzz
  have hm : m ≤ 281474976710656 := Nat.le_trans (Nat.le_mul_of_pos_right _ hb0) hl
  obtain ⟨w1, hr, hown, hg⟩ := run_make_own (P := P) W base t e i0 z d.sz ht hi hz0 hz1 .i64 .i64 m (by rw [hz2, Nat.mul_comm]; exact hl) (by simp only [maxLen]; omega) hbase
  refine Go.Proofs.YtgodbniphkfgfaaW.PrintWords.Kd.event_run hgd (v := .slice (some ⟨W.heap.size, 0, none⟩) 0 m) (w1 := w1) ?_ (h _ _ ⟨fun k hk => ?_, [], hown, Reps.none _ _⟩ (pw_below_grown HB none hbase hg (fun _ h => by cases h)) hg ⟨W.heap.size, by simp [Value.ownBlock], Nat.le_refl _⟩)
  · simp [execOp, ho, hx, hy, hr]
  · have : W.heap.size = k := by simpa [Value.ownBlock] using hk
    subst this
    exact hfresh
end

end Go.Proofs.Ytgodbniphkfgfaa.P

namespace Go.Proofs.Ytgodbniphkfgfaa.P
open Go.RowKit Go.Proofs.YtgodbniphkfgfaaW.PrintWords Go.Proofs.YtgodbniphkfgfaaW.PrintLast Go.Proofs.YtgodbniphkfgfaaW.PrintMore
attribute [local go_sem] max2_int min2_int max_two min_two max_three min_three max_four min_four
set_option linter.unusedVariables false
set_option linter.unusedSimpArgs false

def Zbw.l0 : Nat → List Int → List (S54) → Int → Int → Option (List Int)
  | 0, _, _, _, _ => none
  | k + 1, x3, x10, x11, x12 => if x12 < x11 then (if 0 ≤ x12 then (if x12 < (x10.length : Int) then ((some (([((Zb x10 x12).f0) % 256, (((Zb x10 x12).f0) / 256) % 256, (Zb x10 x12).f1, (Zb x10 x12).f2, ((Zb x10 x12).f3) % 256, (((Zb x10 x12).f3) / 256) % 256, (((Zb x10 x12).f3) / 65536) % 256, (((Zb x10 x12).f3) / 16777216) % 256] : List Int) : List Int)).bind fun y645 => (if x3.length + y645.length < 140737488355328 then (Zbw.l0 k (x3 ++ y645) x10 x11 (wrap64 (x12 + 1))) else (none))) else (none)) else (none)) else (some x3)
def Zbw.f (k : Nat) (l0 : List (S54)) : Option (List Int) := if 0 ≤ (wrap64 (8 * (l0.length : Int))) then (if (wrap64 (8 * (l0.length : Int)) : Int).toNat ≤ 281474976710656 then (Zbw.l0 k (([] : List Int)) l0 (l0.length : Int) 0) else (none)) else (none)
set_option maxHeartbeats 8000000 in
set_option maxRecDepth 100000 in
theorem Zbw.calls (k : Nat) (A0 : Option Addr) (c0 : Nat) (l0 : List (S54)) (r : List Int) (w : World) (hr0 : Kd.C k54 w A0 l0.length l0) (hc0 : l0.length ≤ c0) (h : Zbw.f k l0 = some r) :
  Calls Try.prog 27 #[.slice A0 l0.length c0] w fun e w' => ∃ v0_ : Value, e = .returned (v0_) ∧ Kd.R (Kd.int .u8) 5 w' w.heap.size (fun _ => True) v0_ r ∧ Below w.heap.size w w' := by
 have hu54 := Try.underlying54
 have HR0 := Za.mk hr0
 have HC0 := Za.mk hc0
 clear hr0 hc0
 have HB := Za.mk (Below.refl w.heap.size w)
 have H := h
 unfold Zbw.f at H
 clear h
 obtain ⟨ji2, hji2⟩ : ∃ j_ : Int, (wrap64 (8 * (l0.length : Int))) = j_ := ⟨_, rfl⟩
 replace H : (if 0 ≤ (ji2) then (if (ji2 : Int).toNat ≤ 281474976710656 then (Zbw.l0 k (([] : List Int)) l0 (l0.length : Int) 0) else (none)) else (none)) = some r := by first | (rw [hji2] at H; exact H) | (simp only [hji2] at H ⊢; exact H)
 have hji2w : (IntKind.i64.wrap (8 * (l0.length : Int))) = ji2 := (Zn _).trans hji2
 by_cases c3 : 0 ≤ (ji2)
 ·rw [if_pos c3] at H
  have c3b0 := eq_true c3
  have c3b1 : decide (0 ≤ (ji2)) = true := decide_eq_true c3
  clear c3
  by_cases c4 : (ji2 : Int).toNat ≤ 281474976710656
  ·rw [if_pos c4] at H
   have c4b0 := eq_true c4
   have c4b1 : decide ((ji2 : Int).toNat ≤ 281474976710656) = true := decide_eq_true c4
   clear c4
   obtain ⟨y640, hy640⟩ : ∃ y_ : List Int, y_ = (([] : List Int)) := ⟨_, rfl⟩
   replace H : (Zbw.l0 k y640 l0 (l0.length : Int) 0) = some r := by first | (rw [hy640]; with_reducible exact H) | (have H2_ := (Option.bind_some _ _).symm.trans H; rw [hy640]; with_reducible exact H2_) | (have H2_ := (Option.bind_some _ _).symm.trans H; with_reducible exact H2_) | with_reducible exact H | (rw [hy640]; exact H) | exact H
   have Ny640 := Za.mk hy640
   clear hy640
   have H' := Za.mk H
   clear H
   go_enter Try.func27, Try.ntmps27
   go_wp2_with (first | ((with_reducible refine Zbj (N := 9) rfl ?_); refine Kd.R_make0 (Kd.int .u8) _ 5 rfl (N := 9) rfl 22 _ _ rfl ji2 rfl rfl Try.underlying22 (.int .u8 0) 1 info5 rfl (by decide) (by omega) 0 (ok := fun _ => True) (okp := fun _ => True) rfl (fun _ hk => hk) trivial (of_decide_eq_true (by assumption)) (Nat.le_trans (Nat.mul_le_mul_right _ (of_decide_eq_true (by assumption) : ji2.toNat ≤ 281474976710656)) (by omega)) (Below.refl _ _) (Nat.le_refl _) ?_; intro v641 w5 ho6 hb hg_ hnew_; clear hg_ hnew_; (first | rw [← Ny640.out] at ho6 | (simp only [Int.reduceToNat] at ho6; rw [← Ny640.out] at ho6)); have HO642 := Za.mk (Kd.Zbi ho6 (Zas (by repeat (first | (with_reducible first | exact HB.out | apply Ze | apply Zf | apply Zd) | exact HB.out)))); replace HB := Za.mk (Zai (by repeat (first | (with_reducible first | exact HB.out | apply Ze | apply Zf | apply Zd) | exact HB.out)) hb); clear hb ho6))
   go_loopg [3, 12] k (fun kq v3 v12 w' => ∃ (x3_1 : List Int) (x12_1 : Int), v12 = .int .i64 x12_1 ∧ Za (Zbw.l0 kq x3_1 l0 (l0.length : Int) x12_1 = some r) ∧ Za (kq ≤ k) ∧ Za (Kd.R (Kd.int .u8) 5 w' w.heap.size (fun _ => True) v3 x3_1) ∧ Za (Below w.heap.size w w'))
   case atStart => exact ⟨(y640), (0), (by first | rfl | (simp; done) | (simp [*]; done)), H', ⟨Nat.le_refl _⟩, ⟨by (with_reducible repeat (first | apply Kd.Zs | apply Kd.Zt | apply Kd.Zr)); exact HO642.out⟩, ⟨by repeat (first | (with_reducible first | exact HB.out | apply Ze | apply Zf | apply Zd) | exact HB.out)⟩⟩
   case round =>
    clear H'
    try clear c2
    try clear p2
    try clear c3
    try clear c3b0
    try clear c3b1
    try clear c4
    try clear c4b0
    try clear c4b1
    try clear p6
    obtain ⟨x3_1, x12_1, rfl, HA, HK1, HO_3, HB⟩ := hrel
    cases gk with
    | zero => exact absurd HA.out (by simp [Zbw.l0])
    | succ k1 =>
     have H := HA.out
     clear HA
     simp only [Zbw.l0] at H
     by_cases c7 : x12_1 < (l0.length : Int)
     ·rw [if_pos c7] at H
      have c7b0 : decide (x12_1 < (l0.length : Int)) = true := decide_eq_true c7
      clear c7
      by_cases c8 : 0 ≤ x12_1
      ·rw [if_pos c8] at H
       have c8b0 : decide (0 ≤ x12_1) = true := decide_eq_true c8
       clear c8
       by_cases c9 : x12_1 < (l0.length : Int)
       ·rw [if_pos c9] at H
        have c9b0 : decide (x12_1 < (l0.length : Int)) = true := decide_eq_true c9
        clear c9
        obtain ⟨y645, hy645⟩ : ∃ y_ : List Int, y_ = (([((Zb l0 x12_1).f0) % 256, (((Zb l0 x12_1).f0) / 256) % 256, (Zb l0 x12_1).f1, (Zb l0 x12_1).f2, ((Zb l0 x12_1).f3) % 256, (((Zb l0 x12_1).f3) / 256) % 256, (((Zb l0 x12_1).f3) / 65536) % 256, (((Zb l0 x12_1).f3) / 16777216) % 256] : List Int)) := ⟨_, rfl⟩
        replace H : (if x3_1.length + y645.length < 140737488355328 then (Zbw.l0 k1 (x3_1 ++ y645) l0 (l0.length : Int) (wrap64 (x12_1 + 1))) else (none)) = some r := by first | (rw [hy645]; with_reducible exact H) | (have H2_ := (Option.bind_some _ _).symm.trans H; rw [hy645]; with_reducible exact H2_) | (have H2_ := (Option.bind_some _ _).symm.trans H; with_reducible exact H2_) | with_reducible exact H | (rw [hy645]; exact H) | exact H
        have Ny645 := Za.mk hy645
        clear hy645
        by_cases c10 : x3_1.length + y645.length < 140737488355328
        ·rw [if_pos c10] at H
         have LMc10 := Za.mk c10
         clear c10
         obtain ⟨y648, hy648⟩ : ∃ y_ : List Int, y_ = (x3_1 ++ y645) := ⟨_, rfl⟩
         replace H : (Zbw.l0 k1 y648 l0 (l0.length : Int) (wrap64 (x12_1 + 1))) = some r := by first | (rw [hy648]; with_reducible exact H) | (have H2_ := (Option.bind_some _ _).symm.trans H; rw [hy648]; with_reducible exact H2_) | (have H2_ := (Option.bind_some _ _).symm.trans H; with_reducible exact H2_) | with_reducible exact H | (rw [hy648]; exact H) | exact H
         have Ny648 := Za.mk hy648
         clear hy648
         have H' := Za.mk H
         clear H
         have p643 : 0 ≤ (x12_1 : Int) := of_decide_eq_true (by assumption)
         have q643 : x12_1 < (l0.length : Int) := of_decide_eq_true (by assumption)
         obtain ⟨ad643, e643, hx643_0, hx643_1, hx643_2, hx643_3⟩ := at_T54 HR0.out x12_1 p643 q643
         cases e643
         replace hx643_0 := (HB.out.cell (World.block_lt_of_cell? w _ hx643_0)).trans hx643_0
         replace hx643_1 := (HB.out.cell (World.block_lt_of_cell? w _ hx643_1)).trans hx643_1
         replace hx643_2 := (HB.out.cell (World.block_lt_of_cell? w _ hx643_2)).trans hx643_2
         replace hx643_3 := (HB.out.cell (World.block_lt_of_cell? w _ hx643_3)).trans hx643_3
         replace p643 := eq_true p643
         replace q643 := eq_true q643
         go_wp2_with (first | ((with_reducible refine Zbj (N := 5) rfl ?_); refine Zbo ?hg (N := 5) ?hd (cs := #[.int .u16 0, .int .u8 0, .int .u8 0, .int .u32 0]) (t := 54) ?hr ?_; (case hd => rfl); (case hg => rfl); (case hr => first | (go_simp; done) | (go_simp; rfl)); intro gb644 hg w11 hbox hb; replace HO_3 := Za.mk (Kd.Zaq (by (with_reducible repeat (first | apply Kd.Zs | apply Kd.Zt | apply Kd.Zr)); exact HO_3.out) hb); have BK644 := Za.mk (hbox); have GW644 := Za.mk ((by rw [hg]; exact (Zas (by repeat (first | (with_reducible first | exact HB.out | apply Ze | apply Zf | apply Zd) | exact HB.out))) : w.heap.size ≤ gb644)); have GE644 := Za.mk ((by rw [hg]; exact (Zas (by repeat (first | (with_reducible first | exact HB.out | apply Ze | apply Zf | apply Zd) | exact HB.out))) : w.heap.size ≤ gb644)); replace HB := Za.mk (Zai (by repeat (first | (with_reducible first | exact HB.out | apply Ze | apply Zf | apply Zd) | exact HB.out)) hb); clear hb hbox hg; have hcz12_0 : w11.cell? ⟨gb644, 0, none⟩ = some (.int .u16 0) := (Zg BK644.out 0).trans rfl; have hcz12_1 : w11.cell? ⟨gb644, 1, none⟩ = some (.int .u8 0) := (Zg BK644.out 1).trans rfl; have hcz12_2 : w11.cell? ⟨gb644, 2, none⟩ = some (.int .u8 0) := (Zg BK644.out 2).trans rfl; have hcz12_3 : w11.cell? ⟨gb644, 3, none⟩ = some (.int .u32 0) := (Zg BK644.out 3).trans rfl; have hfz12_0 := Zl BK644.out 0; have hfz12_1 := Zl BK644.out 1; have hfz12_2 := Zl BK644.out 2; have hfz12_3 := Zl BK644.out 3) | ((with_reducible refine Zbj (N := 43) rfl ?_); refine Kd.R_lit (Kd.int .u8) _ 5 ?hg (N := 43) ?hd (xs := ([((Zb l0 x12_1).f0) % 256, (((Zb l0 x12_1).f0) / 256) % 256, (Zb l0 x12_1).f1, (Zb l0 x12_1).f2, ((Zb l0 x12_1).f3) % 256, (((Zb l0 x12_1).f3) / 256) % 256, (((Zb l0 x12_1).f3) / 65536) % 256, (((Zb l0 x12_1).f3) / 16777216) % 256] : List Int)) (inner := [.int .u8 (((Zb l0 x12_1).f0) % 256), .int .u8 ((((Zb l0 x12_1).f0) / 256) % 256), .int .u8 ((Zb l0 x12_1).f1), .int .u8 ((Zb l0 x12_1).f2), .int .u8 (((Zb l0 x12_1).f3) % 256), .int .u8 ((((Zb l0 x12_1).f3) / 256) % 256), .int .u8 ((((Zb l0 x12_1).f3) / 65536) % 256), .int .u8 ((((Zb l0 x12_1).f3) / 16777216) % 256)]) (ok := fun _ => True) (okp := fun _ => True) ?hr ?hp (fun _ hk => hk) trivial (Below.refl _ _) (Nat.le_refl _) (by simp) ?_; (case hd => rfl); (case hg => rfl); (case hr => first | (go_simp; done) | (go_simp; rfl)); (case hp => exact (Reps.one (show Kd.M (Kd.int .u8) _ _ _ (((Zb l0 x12_1).f0) % 256) [.int .u8 (((Zb l0 x12_1).f0) % 256)] from rfl) (Reps.one (show Kd.M (Kd.int .u8) _ _ _ ((((Zb l0 x12_1).f0) / 256) % 256) [.int .u8 ((((Zb l0 x12_1).f0) / 256) % 256)] from rfl) (Reps.one (show Kd.M (Kd.int .u8) _ _ _ ((Zb l0 x12_1).f1) [.int .u8 ((Zb l0 x12_1).f1)] from rfl) (Reps.one (show Kd.M (Kd.int .u8) _ _ _ ((Zb l0 x12_1).f2) [.int .u8 ((Zb l0 x12_1).f2)] from rfl) (Reps.one (show Kd.M (Kd.int .u8) _ _ _ (((Zb l0 x12_1).f3) % 256) [.int .u8 (((Zb l0 x12_1).f3) % 256)] from rfl) (Reps.one (show Kd.M (Kd.int .u8) _ _ _ ((((Zb l0 x12_1).f3) / 256) % 256) [.int .u8 ((((Zb l0 x12_1).f3) / 256) % 256)] from rfl) (Reps.one (show Kd.M (Kd.int .u8) _ _ _ ((((Zb l0 x12_1).f3) / 65536) % 256) [.int .u8 ((((Zb l0 x12_1).f3) / 65536) % 256)] from rfl) (Reps.one (show Kd.M (Kd.int .u8) _ _ _ ((((Zb l0 x12_1).f3) / 16777216) % 256) [.int .u8 ((((Zb l0 x12_1).f3) / 16777216) % 256)] from rfl) (Reps.none _ _)))))))))); intro v646 w13 ho14 hb hg_ hnew_; clear hg_ hnew_; (first | rw [← Ny645.out] at ho14 | (simp only [Int.reduceToNat] at ho14; rw [← Ny645.out] at ho14)); have HO647 := Za.mk (Kd.Zbi (Kd.R_new' ho14 (Kd.R_lt (by (with_reducible repeat (first | apply Kd.Zs | apply Kd.Zt | apply Kd.Zr)); exact (Kd.Zah (Kd.Zad (p := ⟨gb644, 3, none⟩) (Kd.Zad (p := ⟨gb644, 2, none⟩) (Kd.Zad (p := ⟨gb644, 1, none⟩) (Kd.Zad (p := ⟨gb644, 0, none⟩) (Kd.R_types HO_3.out BK644.out (by decide)) (fun _ hk => hk.2) (.int .u16 ((Zb l0 x12_1).f0))) (fun _ hk => hk.2) (.int .u8 ((Zb l0 x12_1).f1))) (fun _ hk => hk.2) (.int .u8 ((Zb l0 x12_1).f2))) (fun _ hk => hk.2) (.int .u32 ((Zb l0 x12_1).f3))) (fun _ h_ => h_.1))))) (Zas (by repeat (first | (with_reducible first | exact HB.out | apply Ze | apply Zf | apply Zd | refine Zk ?_ GE644.out) | exact HB.out)))); replace HO_3 := Za.mk (Kd.R_elder' (by (with_reducible repeat (first | apply Kd.Zs | apply Kd.Zt | apply Kd.Zr)); exact (Kd.Zah (Kd.Zad (p := ⟨gb644, 3, none⟩) (Kd.Zad (p := ⟨gb644, 2, none⟩) (Kd.Zad (p := ⟨gb644, 1, none⟩) (Kd.Zad (p := ⟨gb644, 0, none⟩) (Kd.R_types HO_3.out BK644.out (by decide)) (fun _ hk => hk.2) (.int .u16 ((Zb l0 x12_1).f0))) (fun _ hk => hk.2) (.int .u8 ((Zb l0 x12_1).f1))) (fun _ hk => hk.2) (.int .u8 ((Zb l0 x12_1).f2))) (fun _ hk => hk.2) (.int .u32 ((Zb l0 x12_1).f3))) (fun _ h_ => h_.1))) (Kd.R_base ho14) hb); replace BK644 := Za.mk (Zbd (g := gb644) (o := .cells #[.int .u16 ((Zb l0 x12_1).f0), .int .u8 ((Zb l0 x12_1).f1), .int .u8 ((Zb l0 x12_1).f2), .int .u32 ((Zb l0 x12_1).f3)] 54 (0, 0)) (by (with_reducible repeat (first | refine Zj ?_ _ | refine Zh ?_ | refine Zi ?_ _)); refine Zu (cs := #[.int .u16 ((Zb l0 x12_1).f0), .int .u8 ((Zb l0 x12_1).f1), .int .u8 ((Zb l0 x12_1).f2), .int .u32 0]) ?_ 3 _ rfl; (with_reducible repeat (first | refine Zj ?_ _ | refine Zh ?_ | refine Zi ?_ _)); refine Zu (cs := #[.int .u16 ((Zb l0 x12_1).f0), .int .u8 ((Zb l0 x12_1).f1), .int .u8 0, .int .u32 0]) ?_ 2 _ rfl; (with_reducible repeat (first | refine Zj ?_ _ | refine Zh ?_ | refine Zi ?_ _)); refine Zu (cs := #[.int .u16 ((Zb l0 x12_1).f0), .int .u8 0, .int .u8 0, .int .u32 0]) ?_ 1 _ rfl; (with_reducible repeat (first | refine Zj ?_ _ | refine Zh ?_ | refine Zi ?_ _)); refine Zu (cs := #[.int .u16 0, .int .u8 0, .int .u8 0, .int .u32 0]) ?_ 0 _ rfl; (with_reducible repeat (first | refine Zj ?_ _ | refine Zh ?_ | refine Zi ?_ _)); exact BK644.out) hb); replace HB := Za.mk (Zai (by repeat (first | (with_reducible first | exact HB.out | apply Ze | apply Zf | apply Zd | refine Zk ?_ GE644.out) | exact HB.out)) hb); clear hb ho14; obtain ⟨Ao16, co16, eo16⟩ := Kd.Zbf HO647.out; subst eo16) | ((with_reducible refine Zce (b := .append) (xs := #[.tmp 16, .tmp 43]) rfl ?_); at_builtin; refine Kd.R_append_rows (Kd.int .u8) (w0 := w) w.heap.size rfl (.tmp 16) (.tmp 43) 22 5 (.int .u8 0) 1 rfl Try.underlying22 info5 rfl (by decide) (by omega) u3 x3_1 y645 _ _ _ (fun k_ => some k_ ≠ (.slice Ao16 y645.length co16 : Value).ownBlock) (fun _ => False) rfl rfl ?aO ?aR (fun _ _ h => h) (fun _ h => h.elim) ?aF ?aB ?aS ?aL ?_; (case aR => repeat (first | exact (Kd.Zag HO647.out).2.2 | (with_reducible refine Kd.Zam ?_ _) | (with_reducible refine Kd.Zao ?_ _) | (with_reducible refine Kd.Zan ?_))); (case aB => exact (by repeat (first | (with_reducible first | exact HB.out | apply Ze | apply Zf | apply Zd | refine Zk ?_ GE644.out) | exact HB.out))); (case aF => exact (fun k_ hk => Kd.fresh' (Kd.R_lt (by (with_reducible repeat (first | apply Kd.Zs | apply Kd.Zt | apply Kd.Zr)); exact HO647.out)) k_ hk)); (case aO => exact (by (with_reducible repeat (first | apply Kd.Zs | apply Kd.Zt | apply Kd.Zr)); exact Kd.Zah HO_3.out (fun _ hk => hk.2))); (case aS => exact (Zas (by repeat (first | (with_reducible first | exact HB.out | apply Ze | apply Zf | apply Zd | refine Zk ?_ GE644.out) | exact HB.out)))); (case aL => have := LMc10.out; omega); intro v649 w15 ho hb hg hat; rw [← Ny648.out] at ho; have n0_ := Za.mk (blk_grown (g := gb644) (o := .cells #[.int .u16 ((Zb l0 x12_1).f0), .int .u8 ((Zb l0 x12_1).f1), .int .u8 ((Zb l0 x12_1).f2), .int .u32 ((Zb l0 x12_1).f3)] 54 (0, 0)) (by (with_reducible repeat (first | refine Zj ?_ _ | refine Zh ?_ | refine Zi ?_ _)); exact BK644.out) hg (Kd.R_ne HO_3.out BK644.out (by decide))); have n1_ := Za.mk (Kd.R_after (ok := (fun _ => True)) (by (with_reducible repeat (first | apply Kd.Zs | apply Kd.Zt | apply Kd.Zr)); exact HO647.out) hg hat); have n2_ := Za.mk (hb); have n3_ := Za.mk (ho); clear BK644; clear HO647; clear HB; clear HO_3; have BK644 := n0_; have HO647 := n1_; have HB := n2_; have HO650 := n3_; clear n0_ n1_ n2_ n3_; clear ho hb hg hat))
         go_roundg k1
         case measure => have := HK1.out; omega
         case rel => exact ⟨(y648), (wrap64 (x12_1 + 1)), (by first | rfl | (simp; done) | (simp [*]; done)), H', ⟨by have := HK1.out; omega⟩, ⟨by (with_reducible repeat (first | apply Kd.Zs | apply Kd.Zt | apply Kd.Zr)); exact Kd.Zah HO650.out (fun _ hk => trivial)⟩, ⟨by repeat (first | (with_reducible first | exact HB.out | apply Ze | apply Zf | apply Zd | refine Zk ?_ GE644.out) | exact HB.out)⟩⟩
        ·rw [if_neg c10] at H
         exact absurd H (by simp)
       ·rw [if_neg c9] at H
        exact absurd H (by simp)
      ·rw [if_neg c8] at H
       exact absurd H (by simp)
     ·rw [if_neg c7] at H
      have c7b0 : decide (x12_1 < (l0.length : Int)) = false := decide_eq_false c7
      clear c7
      obtain rfl := Option.some.inj H
      go_wp2
      go_ret
      exact ⟨_, by first | rfl | (simp [Zo, Zp] <;> rfl) | (simp only [← hji2]; first | rfl | (simp [Zo, Zp] <;> rfl)) | (simp [*, Zo, Zp] <;> rfl), by (with_reducible repeat (first | apply Kd.Zs | apply Kd.Zt | apply Kd.Zr)); exact HO_3.out, by repeat (first | (with_reducible first | exact HB.out | apply Ze | apply Zf | apply Zd) | exact HB.out)⟩
  ·rw [if_neg c4] at H
   exact absurd H (by simp)
 ·rw [if_neg c3] at H
  exact absurd H (by simp)
theorem Zaj {i : Int} (h0 : -9223372036854775808 ≤ i) (h1 : i < 9223372036854775808) : wrap64 i = i := by unfold wrap64; omega
theorem bo {α β : Type} {o : Option α} {x : α} {f : α → Option β} {r : Option β} (h : o = some x) (k : f x = r) : o.bind f = r := by rw [h]; exact k
theorem ev_step {α : Type} {g : Nat → Option α} {r : α} (f : Nat → Option α) (h : ∀ k, g (k + 1) = f k) (k : Ev f r) : Ev g r := Ev.step h k
theorem ev_end {α : Type} {g : Nat → Option α} {r : α} (h : ∀ k, g (k + 1) = some r) : Ev g r := Ev.step h (Ev.now r)
theorem ev_is {α : Type} {g : Nat → Option α} {r : α} (h : ∀ k, g k = some r) : Ev g r := ⟨0, fun k _ => h k⟩
theorem ev_mk {α : Type} {g : Nat → Option α} {r : α} (K : Nat) (h : ∀ k, K ≤ k → g k = some r) : Ev g r := ⟨K, h⟩
theorem ev_get {α : Type} {g : Nat → Option α} {r : α} (h : Ev g r) : ∃ K, ∀ k, K ≤ k → g k = some r := h

theorem bits_and_nat (k : IntKind) (hk : k.signed = false) (a b : Nat) (ha : a < 2 ^ k.bits) (hb : b < 2 ^ k.bits) : bits .and k a b = ((a &&& b : Nat) : Int) := by
  have h1 : (a &&& b) < 2 ^ k.bits := Nat.and_lt_two_pow _ hb
  simp only [bits, BitVec.ofInt_natCast, BitVec.toNat_and, BitVec.toNat_ofNat, Nat.mod_eq_of_lt ha, Nat.mod_eq_of_lt hb, IntKind.wrap, hk]
  have : ((a &&& b : Nat) : Int) < ((2 ^ k.bits : Nat) : Int) := by exact_mod_cast h1
  simp
  exact Int.emod_eq_of_lt (Int.natCast_nonneg _) (by simpa using this)
theorem bits_or_nat (k : IntKind) (hk : k.signed = false) (a b : Nat) (ha : a < 2 ^ k.bits) (hb : b < 2 ^ k.bits) : bits .or k a b = ((a ||| b : Nat) : Int) := by
  have h1 : (a ||| b) < 2 ^ k.bits := Nat.or_lt_two_pow ha hb
  simp only [bits, BitVec.ofInt_natCast, BitVec.toNat_or, BitVec.toNat_ofNat, Nat.mod_eq_of_lt ha, Nat.mod_eq_of_lt hb, IntKind.wrap, hk]
  have : ((a ||| b : Nat) : Int) < ((2 ^ k.bits : Nat) : Int) := by exact_mod_cast h1
  simp
  exact Int.emod_eq_of_lt (Int.natCast_nonneg _) (by simpa using this)
theorem bits_xor_nat (k : IntKind) (hk : k.signed = false) (a b : Nat) (ha : a < 2 ^ k.bits) (hb : b < 2 ^ k.bits) : bits .xor k a b = ((a ^^^ b : Nat) : Int) := by
  have h1 : (a ^^^ b) < 2 ^ k.bits := Nat.xor_lt_two_pow ha hb
  simp only [bits, BitVec.ofInt_natCast, BitVec.toNat_xor, BitVec.toNat_ofNat, Nat.mod_eq_of_lt ha, Nat.mod_eq_of_lt hb, IntKind.wrap, hk]
  have : ((a ^^^ b : Nat) : Int) < ((2 ^ k.bits : Nat) : Int) := by exact_mod_cast h1
  simp
  exact Int.emod_eq_of_lt (Int.natCast_nonneg _) (by simpa using this)
theorem wrap_range (k : IntKind) (hk : k.signed = false) (x : Int) : 0 ≤ k.wrap x ∧ k.wrap x < 2 ^ k.bits := by
  have hp : (0 : Int) < 2 ^ k.bits := Int.pow_pos (by decide)
  simp only [IntKind.wrap, hk, Bool.false_and, Bool.false_eq_true, if_false]
  exact ⟨Int.emod_nonneg _ (Int.ne_of_gt hp), Int.emod_lt_of_pos _ hp⟩
theorem bits_range (op : BinOp) (k : IntKind) (hk : k.signed = false) (x y : Int) : 0 ≤ bits op k x y ∧ bits op k x y < 2 ^ k.bits := wrap_range k hk _
theorem bits_u32 (op : BinOp) (x y : Int) : 0 ≤ bits op .u32 x y ∧ bits op .u32 x y < 4294967296 := by
  have h := bits_range op .u32 rfl x y
  simp only [IntKind.bits] at h
  omega
theorem rd_eq (l : List Int) (i : Nat) (h : i < l.length) : rd l i = l[i] := by
  simp [rd, List.getD_eq_getElem?_getD, List.getElem?_eq_getElem h]
theorem mem_u8 {l : List Int} (h : ∀ x ∈ l, (Lit.int .u8 x).wf = true) (x : Int) (hx : x ∈ l) : 0 ≤ x ∧ x < 256 := by
  have := h x hx
  simp only [Lit.wf, IntKind.min, IntKind.max, IntKind.signed, IntKind.bits, Bool.and_eq_true] at this
  simp at this
  omega

theorem ev_loop {σ ρ : Type} (L : Nat → σ → Int → Option ρ) (n : Nat) (S : Nat → σ) (s0 sn : σ) (h0 : S 0 = s0) (hn : S n = sn)
    (hstep : ∀ i, i < n → ∀ r, Ev (fun k => L k (S (i + 1)) ((i + 1 : Nat) : Int)) r → Ev (fun k => L k (S i) (i : Int)) r) :
    ∀ r, Ev (fun k => L k sn (n : Int)) r → Ev (fun k => L k s0 0) r := by
  intro r hr
  subst h0
  subst hn
  have key : ∀ d i, i + d = n → Ev (fun k => L k (S i) (i : Int)) r := by
    intro d
    induction d with
    | zero => intro i hi; have e : i = n := by omega
              subst e; exact hr
    | succ d ih => intro i hi; exact hstep i (by omega) r (ih (i + 1) (by omega))
  exact key n 0 (by omega)
def filled {α β : Type} (f : α → β) (a : List α) (z : β) (i : Nat) : List β := (a.take i).map f ++ List.replicate (a.length - i) z
def EvT {α : Type} (g : Nat → Option α) (P : α → Prop) : Prop := ∃ r, Ev g r ∧ P r
theorem Zbl {α β : Type} {g : Nat → Option α} {f : Nat → α → Option β} {P : α → Prop} {Q : β → Prop} (h : EvT g P) (h2 : ∀ x, P x → EvT (fun k => f k x) Q) : EvT (fun k => (g k).bind (f k)) Q := by
  obtain ⟨x, hx, px⟩ := h
  obtain ⟨r, hr, pr⟩ := h2 x px
  exact ⟨r, Ev.bind hx hr, pr⟩
theorem Zbb {α : Type} {P : α → Prop} {r : α} (h : P r) : EvT (fun _ => some r) P := ⟨r, ev_is fun _ => rfl, h⟩
theorem Zau {α : Type} {c : Prop} [Decidable c] {g h : Nat → Option α} {P : α → Prop} (h1 : c → EvT g P) (h2 : ¬ c → EvT h P) : EvT (fun k => if c then g k else h k) P := by
  by_cases hc : c
  · obtain ⟨r, hr, pr⟩ := h1 hc
    exact ⟨r, Ev.congr (fun k => by rw [if_pos hc]) hr, pr⟩
  · obtain ⟨r, hr, pr⟩ := h2 hc
    exact ⟨r, Ev.congr (fun k => by rw [if_neg hc]) hr, pr⟩
theorem evt_step {α : Type} {g : Nat → Option α} {P : α → Prop} (f : Nat → Option α) (h : ∀ k, g (k + 1) = f k) (k : EvT f P) : EvT g P := by
  obtain ⟨r, hr, pr⟩ := k
  exact ⟨r, ev_step f h hr, pr⟩
theorem evt_ev {α : Type} {g : Nat → Option α} {P : α → Prop} {r : α} (h : Ev g r) (p : P r) : EvT g P := ⟨r, h, p⟩
theorem evt_is {α : Type} {o : Option α} {P : α → Prop} {r : α} (h : o = some r) (p : P r) : EvT (fun _ => o) P := ⟨r, ev_is fun _ => h, p⟩
def Rd (l : List Int) (i : Int) : Prop := (∀ x ∈ l, 0 ≤ x ∧ x < 256) ∧ l.length ≤ 600 ∧ 0 ≤ i ∧ i ≤ l.length
theorem open_t (l : List Int) (h : ∀ x ∈ l, (Lit.int .u8 x).wf = true) : EvT (fun _ => spec_l1open.f l) (fun r => Rd r.1 r.2) := by
  have hb := mem_u8 h
  unfold spec_l1open.f
  by_cases c : (l.length : Int) > 600
  · refine evt_is (r := (l.take 600, 0)) (by rw [if_pos c, if_pos (by omega)]) ⟨fun x hx => hb x (List.mem_of_mem_take hx), by rw [List.length_take]; omega, by omega, by omega⟩
  · refine evt_is (r := (l.take ((l.length : Int) : Int).toNat, 0)) (by rw [if_neg c, if_pos (by omega), if_pos (by omega)]) ⟨fun x hx => hb x (List.mem_of_mem_take hx), by rw [List.length_take]; omega, by omega, by omega⟩
theorem next_t (l : List Int) (i : Int) (h : Rd l i) : EvT (fun _ => Zar.f l i) (fun r => 0 ≤ r.1 ∧ r.1 < 256 ∧ Rd l r.2) := by
  obtain ⟨h1, h2, h3, h4⟩ := h
  unfold Zar.f
  by_cases c : i ≥ (l.length : Int)
  · exact evt_is (r := (0, i)) (by rw [if_pos c]) ⟨by omega, by omega, h1, h2, h3, h4⟩
  · obtain ⟨n, rfl⟩ := Int.eq_ofNat_of_zero_le h3
    have hn : n < l.length := by omega
    have hx := h1 _ (List.getElem_mem hn)
    refine evt_is (r := (l[n], (n : Int) + 1)) (by rw [if_neg c, if_pos h3, if_pos (by omega), rd_eq l n hn, Zaj (by omega) (by omega), Zaj (by omega) (by omega)]) ⟨hx.1, hx.2, h1, h2, by omega, by omega⟩
theorem tmod_bd {x : Int} {m : Int} (h : 0 ≤ x) (hm : 0 < m) : 0 ≤ Int.tmod x m ∧ Int.tmod x m < m := by
  rw [Int.tmod_eq_emod_of_nonneg h]
  exact ⟨Int.emod_nonneg _ (by omega), Int.emod_lt_of_pos _ hm⟩
theorem word_t (l : List Int) (i : Int) (h : Rd l i) : EvT (fun _ => Zcf.f l i) (fun r => (0 ≤ r.1 ∧ r.1 < 4294967296) ∧ Rd l r.2) := by
  unfold Zcf.f
  refine Zbl (next_t l i h) ?_
  rintro ⟨v, j⟩ ⟨h1, h2, h3⟩
  dsimp only at *
  have hm := @tmod_bd v 5 h1 (by decide)
  refine Zau (fun _ => Zbb ⟨by omega, h3⟩) fun _ => Zau (fun _ => Zbb ⟨?_, h3⟩) fun _ => Zau (fun _ => Zbb ⟨by dsimp only; omega, h3⟩) fun _ => Zau (fun _ => Zbb ⟨by omega, h3⟩) fun _ => ?_
  · exact wrap_range .u32 rfl _
  · refine Zbl (next_t l j h3) ?_
    rintro ⟨v2, j2⟩ ⟨_, _, h4⟩
    refine Zbl (next_t l j2 h4) ?_
    rintro ⟨v3, j3⟩ ⟨_, _, h5⟩
    exact Zbb ⟨by omega, h5⟩
def plainCodes : List Int := [0, 1, 32, 96, 97, 2, 3, 4, 12, 20, 28, 36, 44, 52, 60, 68, 76, 84, 92, 164, 172, 100, 108, 116, 124, 132, 7, 135]
def testCodes : List Int := [21, 29, 37, 45, 53, 61, 69, 77]
def endCodes : List Int := [6, 22]
def sortN (c : Int) : Int := if c ∈ plainCodes then 1 else if c = 5 then 3 else if c ∈ testCodes then 2 else if c ∈ endCodes then 4 else 0
theorem sortOf_is (c : Int) (k : Nat) (hk : 2 ≤ k) : Zat.f k c = some (sortN c) := by
  obtain ⟨k, rfl⟩ : ∃ m, k = m + 2 := ⟨k - 2, by omega⟩
  by_cases h : c ∈ plainCodes
  · unfold sortN
    rw [if_pos h]
    simp only [plainCodes, List.mem_cons, List.not_mem_nil, or_false] at h
    rcases h with rfl | rfl | rfl | rfl | rfl | rfl | rfl | rfl | rfl | rfl | rfl | rfl | rfl | rfl | rfl | rfl | rfl | rfl | rfl | rfl | rfl | rfl | rfl | rfl | rfl | rfl | rfl | rfl <;> rfl
  · have h' := h
    simp only [plainCodes, List.mem_cons, List.not_mem_nil, or_false, not_or] at h'
    obtain ⟨h0, h1, h2, h3, h4, h5, h6, h7, h8, h9, h10, h11, h12, h13, h14, h15, h16, h17, h18, h19, h20, h21, h22, h23, h24, h25, h26, h27⟩ := h'
    have e : Zat.f (k + 2) c = Zat.j0 (k + 2) c false := by
      unfold Zat.f
      rw [if_neg h0, if_neg h1, if_neg h2, if_neg h3, if_neg h4, if_neg h5, if_neg h6, if_neg h7, if_neg h8, if_neg h9, if_neg h10, if_neg h11, if_neg h12, if_neg h13, if_neg h14, if_neg h15, if_neg h16, if_neg h17, if_neg h18, if_neg h19, if_neg h20, if_neg h21, if_neg h22, if_neg h23, if_neg h24, if_neg h25, if_neg h26, beq_eq_false_iff_ne.mpr h27]
    rw [e]
    unfold sortN
    rw [if_neg h, Zat.j0, if_neg (by decide)]
    by_cases h5 : c = 5
    · rw [if_pos h5, if_pos h5]
    · rw [if_neg h5, if_neg h5]
      by_cases ht : c ∈ testCodes
      · rw [if_pos ht]
        simp only [testCodes, List.mem_cons, List.not_mem_nil, or_false] at ht
        rcases ht with rfl | rfl | rfl | rfl | rfl | rfl | rfl | rfl <;> rfl
      · rw [if_neg ht]
        simp only [testCodes, List.mem_cons, List.not_mem_nil, or_false, not_or] at ht
        obtain ⟨t0, t1, t2, t3, t4, t5, t6, t7⟩ := ht
        rw [if_neg t0, if_neg t1, if_neg t2, if_neg t3, if_neg t4, if_neg t5, if_neg t6, beq_eq_false_iff_ne.mpr t7, Zat.j1, if_neg (by decide)]
        simp only [endCodes, List.mem_cons, List.not_mem_nil, or_false]
        by_cases h6 : c = 6
        · rw [if_pos h6, if_pos (.inl h6)]
        · rw [if_neg h6]
          by_cases h22 : c = 22
          · rw [if_pos h22, if_pos (.inr h22)]
          · rw [if_neg h22, if_neg (by rintro (h | h) <;> contradiction)]
theorem l1known_ev (c : Int) : Ev (fun k => Zbr.f k c) (decide (sortN c ≠ 0)) := by
  obtain ⟨L, hL⟩ : ∃ L, L = plainCodes ++ [5] ++ testCodes ++ endCodes := ⟨_, rfl⟩
  have hmem : decide (sortN c ≠ 0) = decide (c ∈ L) := by
    rw [hL, Bool.eq_iff_iff, decide_eq_true_eq, decide_eq_true_eq]
    unfold sortN
    simp only [List.mem_append, List.mem_singleton]
    split
    · simp_all
    · split
      · simp_all
      · split
        · simp_all
        · split <;> simp_all
  have hlen : L.length = 39 := by rw [hL]; rfl
  have key : ∀ d i : Nat, i + d = 39 → Ev (fun k => Zbr.l0 k c L (i : Int)) (decide (c ∈ L.drop i)) := by
    intro d
    induction d with
    | zero =>
      intro i hi
      refine ev_end fun k => ?_
      simp only [Zbr.l0]
      rw [if_neg (by omega), List.drop_of_length_le (by omega)]
      simp
    | succ d ih =>
      intro i hi
      have hlt : i < L.length := by omega
      have hd := List.drop_eq_getElem_cons hlt
      by_cases e : L[i] = c
      · refine ev_end fun k => ?_
        simp only [Zbr.l0]
        rw [if_pos (by omega), if_pos (by omega), rd_eq L i hlt, if_pos e, hd]
        simp [e]
      · have hr := ih (i + 1) (by omega)
        have he : decide (c ∈ L.drop i) = decide (c ∈ L.drop (i + 1)) := by
          rw [decide_eq_decide, hd, List.mem_cons]
          exact ⟨fun h => h.resolve_left (fun h => e h.symm), .inr⟩
        rw [he]
        refine ev_step _ (fun k => ?_) hr
        simp only [Zbr.l0]
        rw [if_pos (by omega), if_pos (by omega), rd_eq L i hlt, if_neg e, Zaj (by omega) (by omega)]
        rfl
  rw [hmem]
  refine Ev.congr (fun k => ?_) (key 39 0 (by omega))
  unfold Zbr.f spec_l1codes.f
  rw [Option.bind_some, hL]
  rfl
theorem l1isTest_ev (c : Int) (h0 : 0 ≤ c) : Ev (fun k => Zcd.f k c) (decide (sortN c = 2)) := by
  obtain ⟨K, hK⟩ := ev_get (l1known_ev c)
  refine ev_mk K fun k hk => ?_
  unfold Zcd.f
  rw [hK k hk, Option.bind_some]
  have hs : sortN c = 2 ↔ sortN c ≠ 0 ∧ c % 8 = 5 ∧ c ≠ 5 := by
    unfold sortN
    split
    · rename_i h
      simp only [plainCodes, List.mem_cons, List.not_mem_nil, or_false] at h
      rcases h with rfl | rfl | rfl | rfl | rfl | rfl | rfl | rfl | rfl | rfl | rfl | rfl | rfl | rfl | rfl | rfl | rfl | rfl | rfl | rfl | rfl | rfl | rfl | rfl | rfl | rfl | rfl | rfl <;> decide
    · split
      · rename_i h; subst h; decide
      · split
        · rename_i h
          simp only [testCodes, List.mem_cons, List.not_mem_nil, or_false] at h
          rcases h with rfl | rfl | rfl | rfl | rfl | rfl | rfl | rfl <;> decide
        · split
          · rename_i h
            simp only [endCodes, List.mem_cons, List.not_mem_nil, or_false] at h
            rcases h with rfl | rfl <;> decide
          · simp
  rw [Int.tmod_eq_emod_of_nonneg h0]
  by_cases h1 : sortN c = 0
  · rw [if_neg (by simp [h1])]
    congr 1
    simp [h1]
  · rw [if_pos (by simp [h1])]
    by_cases h2 : c % 8 = 5
    · rw [if_pos h2]
      congr 1
      rw [Bool.eq_iff_iff, decide_eq_true_eq, bne_iff_ne, hs]
      exact ⟨fun h => ⟨h1, h2, h⟩, fun h => h.2.2⟩
    · rw [if_neg h2]
      congr 1
      symm
      rw [decide_eq_false_iff_not, hs]
      exact fun h => h2 h.2.1
theorem rdIns_eq (l : List S54) (i : Nat) (h : i < l.length) : Zb l (i : Int) = l[i] := by
  simp [Zb, List.getD_eq_getElem?_getD, List.getElem?_eq_getElem h]
def InsR (x : S54) : Prop := (0 ≤ x.f0 ∧ x.f0 < 65536) ∧ (0 ≤ x.f1 ∧ x.f1 < 256) ∧ (0 ≤ x.f2 ∧ x.f2 < 256) ∧ 0 ≤ x.f3 ∧ x.f3 < 4294967296
def ft5 (c i n : Int) : Int := if i = n - 1 ∧ c ≠ 6 ∧ c ≠ 22 then 7 else 0
def ft4 (c k i n : Int) : Int := if (c = 100 ∨ c = 116) ∧ k ≥ 32 then 6 else ft5 c i n
def ft3 (c k i n : Int) : Int := if c = 52 ∧ k = 0 then 6 else ft4 c k i n
def ft2 (c t f k i n : Int) : Int := if sortN c = 2 ∧ (i + 1 + t ≥ n ∨ i + 1 + f ≥ n) then 5 else ft3 c k i n
def ft1 (c t f k i n : Int) : Int := if c = 5 ∧ i + 1 + k ≥ n then 5 else ft2 c t f k i n
def ft0 (c t f k i n : Int) : Int := if (c = 96 ∨ c = 97 ∨ c = 2 ∨ c = 3) ∧ k ≥ 16 then 4 else ft1 c t f k i n
def insFault (x : S54) (i n : Int) : Int := if sortN x.f0 = 0 then 2 else if x.f0 = 32 ∧ (x.f3 % 4 ≠ 0 ∨ x.f3 > 60) then 3 else ft0 x.f0 x.f1 x.f2 x.f3 i n
theorem sort_end (c : Int) : sortN c = 4 ↔ c = 6 ∨ c = 22 := by
  unfold sortN
  split
  · rename_i h
    simp only [plainCodes, List.mem_cons, List.not_mem_nil, or_false] at h
    rcases h with rfl | rfl | rfl | rfl | rfl | rfl | rfl | rfl | rfl | rfl | rfl | rfl | rfl | rfl | rfl | rfl | rfl | rfl | rfl | rfl | rfl | rfl | rfl | rfl | rfl | rfl | rfl | rfl <;> decide
  · split
    · rename_i h; subst h; decide
    · split
      · rename_i h
        simp only [testCodes, List.mem_cons, List.not_mem_nil, or_false] at h
        rcases h with rfl | rfl | rfl | rfl | rfl | rfl | rfl | rfl <;> decide
      · split <;> rename_i h
        · simpa [endCodes] using h
        · simpa [endCodes] using h
theorem sort_skip (c : Int) : sortN c = 3 ↔ c = 5 := by
  unfold sortN
  split
  · rename_i h
    simp only [plainCodes, List.mem_cons, List.not_mem_nil, or_false] at h
    rcases h with rfl | rfl | rfl | rfl | rfl | rfl | rfl | rfl | rfl | rfl | rfl | rfl | rfl | rfl | rfl | rfl | rfl | rfl | rfl | rfl | rfl | rfl | rfl | rfl | rfl | rfl | rfl | rfl <;> decide
  · split
    · rename_i h; simp [h]
    · rename_i h
      split
      · simp [h]
      · split <;> simp [h]
theorem specFault_ev (l : List S54) (i : Nat) (hi : i < l.length) (hl : l.length ≤ 4096) (hr : InsR l[i]) : Ev (fun k => Zal.f k l (i : Int)) (insFault l[i] i l.length) := by
  obtain ⟨⟨a0, a1⟩, ⟨b0, b1⟩, ⟨c0, c1⟩, d0, d1⟩ := hr
  obtain ⟨c, hc⟩ : ∃ c, c = l[i].f0 := ⟨_, rfl⟩
  obtain ⟨t, ht⟩ : ∃ c, c = l[i].f1 := ⟨_, rfl⟩
  obtain ⟨f, hf⟩ : ∃ c, c = l[i].f2 := ⟨_, rfl⟩
  obtain ⟨kk, hkk⟩ : ∃ c, c = l[i].f3 := ⟨_, rfl⟩
  obtain ⟨n, hn⟩ : ∃ n : Int, n = (l.length : Int) := ⟨_, rfl⟩
  obtain ⟨K1, h1⟩ := ev_get (l1known_ev c)
  obtain ⟨K2, h2⟩ := ev_get (l1isTest_ev c (by omega))
  have j5 : ∀ k b, Zal.j5 (k + 1) i n c b = some (if b = true then 6 else ft5 c i n) := by
    intro k b
    rw [Zal.j5, Zaj (by omega) (by omega)]
    unfold ft5
    by_cases hb : b = true
    · simp [hb]
    · rw [if_neg hb, if_neg hb]
      by_cases e : (i : Int) = n - 1
      · rw [if_pos e]
        by_cases e1 : c = 6
        · rw [if_pos e1, if_neg (by simp [e1])]
        · rw [if_neg e1]
          by_cases e2 : c = 22
          · rw [if_pos e2, if_neg (by simp [e2])]
          · rw [if_neg e2, if_pos ⟨e, e1, e2⟩]
      · rw [if_neg e, if_neg (fun h => e h.1)]
  have j4 : ∀ k b, Zal.j4 (k + 2) i n c kk b = some (if b = true then 6 else ft4 c kk i n) := by
    intro k b
    rw [Zal.j4]
    simp only [j5]
    unfold ft4
    by_cases hb : b = true
    · simp [hb]
    · rw [if_neg hb, if_neg hb]
      by_cases e1 : c = 100
      · rw [if_pos e1]; simp only [decide_eq_true_eq]; congr 1; by_cases e : kk ≥ 32 <;> simp [e, e1]
      · rw [if_neg e1]
        by_cases e2 : c = 116
        · rw [if_pos e2]; simp only [decide_eq_true_eq]; congr 1; by_cases e : kk ≥ 32 <;> simp [e, e2]
        · rw [if_neg e2]; simp [e1, e2]
  have j3 : ∀ k b, Zal.j3 (k + 3) i n c kk b = some (if b = true then 5 else ft3 c kk i n) := by
    intro k b
    rw [Zal.j3]
    simp only [j4]
    unfold ft3
    by_cases hb : b = true
    · simp [hb]
    · rw [if_neg hb, if_neg hb]
      by_cases e1 : c = 52
      · rw [if_pos e1]; simp only [beq_iff_eq]; congr 1; by_cases e : kk = 0 <;> simp [e, e1]
      · rw [if_neg e1]; simp [e1]
  have j2 : ∀ k b, K2 ≤ k → Zal.j2 (k + 4) l i n c kk b = some (if b = true then 5 else ft2 c t f kk i n) := by
    intro k b hk
    rw [Zal.j2]
    simp only [j3]
    rw [h2 (k + 3) (by omega), Option.bind_some, rdIns_eq l i hi, ← ht, ← hf, if_pos (by omega : (0 : Int) ≤ i), if_pos (by omega : (i : Int) < l.length)]
    rw [Zaj (i := (i : Int) + 1) (by omega) (by omega), Zaj (i := t) (by omega) (by omega), Zaj (i := f) (by omega) (by omega), Zaj (i := (i : Int) + 1 + t) (by omega) (by omega), Zaj (i := (i : Int) + 1 + f) (by omega) (by omega)]
    unfold ft2
    by_cases hb : b = true
    · simp [hb]
    · rw [if_neg hb, if_neg hb]
      by_cases e : sortN c = 2
      · rw [if_pos (by simp [e])]
        by_cases e1 : (i : Int) + 1 + t ≥ n
        · rw [if_pos e1]; simp [e, e1]
        · rw [if_neg e1]; simp only [decide_eq_true_eq]; congr 1; by_cases e2 : (i : Int) + 1 + f ≥ n <;> simp [e, e1, e2]
      · rw [if_neg (by simp [e])]; simp [e]
  have j1 : ∀ k b, K2 ≤ k → Zal.j1 (k + 5) l i n c kk b = some (if b = true then 4 else ft1 c t f kk i n) := by
    intro k b hk
    rw [Zal.j1]
    simp only [j2 _ _ hk]
    rw [Zaj (i := (i : Int) + 1) (by omega) (by omega), Zaj (i := (i : Int) + 1 + kk) (by omega) (by omega)]
    unfold ft1
    by_cases hb : b = true
    · simp [hb]
    · rw [if_neg hb, if_neg hb]
      by_cases e1 : c = 5
      · rw [if_pos e1]; simp only [decide_eq_true_eq]; congr 1; by_cases e : (i : Int) + 1 + kk ≥ n <;> simp [e, e1]
      · rw [if_neg e1]; simp [e1]
  have j0 : ∀ k b, K2 ≤ k → Zal.j0 (k + 6) l i n c kk b = some (if b = true then 3 else ft0 c t f kk i n) := by
    intro k b hk
    rw [Zal.j0]
    simp only [j1 _ _ hk]
    unfold ft0
    by_cases hb : b = true
    · simp [hb]
    · rw [if_neg hb, if_neg hb]
      simp only [decide_eq_true_eq, Bool.false_eq_true, if_false]
      by_cases e1 : c = 96
      · rw [if_pos e1]; congr 1; by_cases e : kk ≥ 16 <;> simp [e, e1]
      · rw [if_neg e1]
        by_cases e2 : c = 97
        · rw [if_pos e2]; congr 1; by_cases e : kk ≥ 16 <;> simp [e, e2]
        · rw [if_neg e2]
          by_cases e3 : c = 2
          · rw [if_pos e3]; congr 1; by_cases e : kk ≥ 16 <;> simp [e, e3]
          · rw [if_neg e3]
            by_cases e4 : c = 3
            · rw [if_pos e4]; congr 1; by_cases e : kk ≥ 16 <;> simp [e, e4]
            · rw [if_neg e4]; simp [e1, e2, e3, e4]
  refine ev_mk (K1 + K2 + 6) fun k hk => ?_
  obtain ⟨k, rfl⟩ : ∃ m, k = m + 6 := ⟨k - 6, by omega⟩
  unfold Zal.f insFault
  rw [if_pos (by omega), if_pos (by omega), rdIns_eq l i hi, ← hc, ← ht, ← hf, ← hkk, ← hn, Zaj (i := c) (by omega) (by omega), Zaj (i := kk) (by omega) (by omega), h1 _ (by omega), Option.bind_some]
  simp only [j0 _ _ (show K2 ≤ k by omega)]
  rw [Int.tmod_eq_emod_of_nonneg (by omega)]
  by_cases e0 : sortN c = 0
  · rw [if_neg (by simp [e0]), if_pos e0]
  · rw [if_pos (by simp [e0]), if_neg e0]
    by_cases e1 : c = 32
    · rw [if_pos e1]
      by_cases e2 : kk % 4 = 0
      · rw [if_pos e2]; simp only [decide_eq_true_eq]; congr 1; by_cases e : kk > 60 <;> simp [e, e1, e2]
      · rw [if_neg e2]; simp [e1, e2]
    · rw [if_neg e1]; simp [e1]
theorem contains4_ev (c : Int) : Ev (fun k => Zch.f k [96, 97, 2, 3] c) (decide (c = 96 ∨ c = 97 ∨ c = 2 ∨ c = 3)) := by
  refine ev_mk 6 fun k hk => ?_
  obtain ⟨k, rfl⟩ : ∃ m, k = m + 5 := ⟨k - 5, by omega⟩
  have r0 : rd [96, 97, 2, 3] 0 = 96 := rfl
  have r1 : rd [96, 97, 2, 3] 1 = 97 := rfl
  have r2 : rd [96, 97, 2, 3] 2 = 2 := rfl
  have r3 : rd [96, 97, 2, 3] 3 = 3 := rfl
  have w0 : wrap64 (0 + 1) = 1 := by rw [Zaj (by omega) (by omega)]; rfl
  have w1 : wrap64 (1 + 1) = 2 := by rw [Zaj (by omega) (by omega)]; rfl
  have w2 : wrap64 (2 + 1) = 3 := by rw [Zaj (by omega) (by omega)]; rfl
  have w3 : wrap64 (3 + 1) = 4 := by rw [Zaj (by omega) (by omega)]; rfl
  have hl : (([96, 97, 2, 3] : List Int).length : Int) = 4 := rfl
  unfold Zch.f Zbt.f
  rw [hl]
  by_cases e0 : c = 96
  · rw [Zbt.l0, hl, if_pos (by decide), if_pos (by decide), if_pos (by decide), r0, if_pos e0]; simp [e0]
  · rw [Zbt.l0, hl, if_pos (by decide), if_pos (by decide), if_pos (by decide), r0, if_neg e0, w0]
    by_cases e1 : c = 97
    · rw [Zbt.l0, hl, if_pos (by decide), if_pos (by decide), if_pos (by decide), r1, if_pos e1]; simp [e1]
    · rw [Zbt.l0, hl, if_pos (by decide), if_pos (by decide), if_pos (by decide), r1, if_neg e1, w1]
      by_cases e2 : c = 2
      · rw [Zbt.l0, hl, if_pos (by decide), if_pos (by decide), if_pos (by decide), r2, if_pos e2]; simp [e2]
      · rw [Zbt.l0, hl, if_pos (by decide), if_pos (by decide), if_pos (by decide), r2, if_neg e2, w2]
        by_cases e3 : c = 3
        · rw [Zbt.l0, hl, if_pos (by decide), if_pos (by decide), if_pos (by decide), r3, if_pos e3]; simp [e3]
        · rw [Zbt.l0, hl, if_pos (by decide), if_pos (by decide), if_pos (by decide), r3, if_neg e3, w3, Zbt.l0, if_neg (by decide)]
          simp [e0, e1, e2, e3]
theorem implFault_ev (x : S54) (i n : Int) (h0 : 0 ≤ i) (h1 : i < n) (hn : n ≤ 4096) (hr : InsR x) : Ev (fun k => Zap.f k x.f0 x.f1 x.f2 x.f3 i n) (insFault x i n) := by
  obtain ⟨c, t, f, kk⟩ := x
  obtain ⟨⟨a0, a1⟩, ⟨b0, b1⟩, ⟨c0, c1⟩, d0, d1⟩ := hr
  simp only at a0 a1 b0 b1 c0 c1 d0 d1
  obtain ⟨K1, hc⟩ := ev_get (contains4_ev c)
  obtain ⟨s, hs⟩ : ∃ s, s = sortN c := ⟨_, rfl⟩
  have hs4 := sort_end c
  have hs3 := sort_skip c
  rw [← hs] at hs4 hs3
  have wu : ∀ x : Int, IntKind.u64.wrap x = x % 18446744073709551616 := fun x => by simp [IntKind.wrap, IntKind.bits, IntKind.signed]
  have j5 : ∀ k b, Zap.j5 (k + 1) i n s b = some (if b = true then 6 else ft5 c i n) := by
    intro k b
    rw [Zap.j5, Zaj (by omega) (by omega)]
    unfold ft5
    by_cases hb : b = true
    · simp [hb]
    · rw [if_neg hb, if_neg hb]
      by_cases e : i = n - 1
      · rw [if_pos e]
        by_cases e1 : s = 4
        · rw [if_pos e1, if_neg (fun h => (hs4.1 e1).elim h.2.1 h.2.2)]
        · rw [if_neg e1, if_pos ⟨e, fun h => e1 (hs4.2 (.inl h)), fun h => e1 (hs4.2 (.inr h))⟩]
      · rw [if_neg e, if_neg (fun h => e h.1)]
  have j4 : ∀ k b, Zap.j4 (k + 2) i n s b c t f kk = some (if b = true then 6 else ft4 c kk i n) := by
    intro k b
    rw [Zap.j4]
    simp only [j5]
    unfold ft4
    by_cases hb : b = true
    · simp [hb]
    · rw [if_neg hb, if_neg hb]
      by_cases e1 : c = 100
      · rw [if_pos e1]; simp only [decide_eq_true_eq]; congr 1; by_cases e : kk ≥ 32 <;> simp [e, e1]
      · rw [if_neg e1]
        by_cases e2 : c = 116
        · rw [if_pos e2]; simp only [decide_eq_true_eq]; congr 1; by_cases e : kk ≥ 32 <;> simp [e, e2]
        · rw [if_neg e2]; simp [e1, e2]
  have j3 : ∀ k b, Zap.j3 (k + 3) i n s b c t f kk = some (if b = true then 5 else ft3 c kk i n) := by
    intro k b
    rw [Zap.j3]
    simp only [j4]
    unfold ft3
    by_cases hb : b = true
    · simp [hb]
    · rw [if_neg hb, if_neg hb]
      by_cases e1 : c = 52
      · rw [if_pos e1]; simp only [beq_iff_eq]; congr 1; by_cases e : kk = 0 <;> simp [e, e1]
      · rw [if_neg e1]; simp [e1]
  have j2 : ∀ k b, Zap.j2 (k + 4) i n s b c t f kk = some (if b = true then 5 else ft2 c t f kk i n) := by
    intro k b
    have hm : mx t f = if t < f then f else t := rfl
    have hm0 : 0 ≤ mx t f ∧ mx t f < 256 := by rw [hm]; split <;> omega
    rw [Zap.j2]
    simp only [j3]
    rw [Zaj (i := i + 1) (by omega) (by omega), Zaj (i := mx t f) (by omega) (by omega), Zaj (i := i + 1 + mx t f) (by omega) (by omega)]
    unfold ft2
    rw [← hs]
    by_cases hb : b = true
    · simp [hb]
    · rw [if_neg hb, if_neg hb]
      by_cases e : s = 2
      · rw [if_pos e]
        simp only [decide_eq_true_eq]
        congr 1
        by_cases e1 : i + 1 + mx t f ≥ n
        · rw [if_pos e1, if_pos ⟨e, by rw [hm] at e1; split at e1 <;> omega⟩]
        · rw [if_neg e1, if_neg (fun h => by rw [hm] at e1; have h2 := h.2; split at e1 <;> omega)]
      · rw [if_neg e]; simp [e]
  have j1 : ∀ k b, Zap.j1 (k + 5) i n s b c t f kk = some (if b = true then 4 else ft1 c t f kk i n) := by
    intro k b
    rw [Zap.j1]
    simp only [j2]
    unfold ft1
    by_cases hb : b = true
    · simp [hb]
    · rw [if_neg hb, if_neg hb]
      by_cases e1 : c = 5
      · rw [if_pos (hs3.2 e1)]
        have hw : IntKind.u64.wrap (IntKind.u64.wrap (IntKind.u64.wrap i + 1) + IntKind.u64.wrap kk) = i + 1 + kk := by rw [wu, wu, wu, wu]; omega
        have hw2 : IntKind.u64.wrap n = n := by rw [wu]; omega
        rw [hw, hw2]
        simp only [decide_eq_true_eq]; congr 1; by_cases e : i + 1 + kk ≥ n <;> simp [e, e1]
      · rw [if_neg (fun h => e1 (hs3.1 h))]; simp [e1]
  have j0 : ∀ k b, K1 ≤ k → Zap.j0 (k + 6) i n s b c t f kk = some (if b = true then 3 else ft0 c t f kk i n) := by
    intro k b hk
    rw [Zap.j0, hc _ (by omega), Option.bind_some]
    simp only [j1]
    unfold ft0
    by_cases hb : b = true
    · simp [hb]
    · rw [if_neg hb, if_neg hb]
      simp only [decide_eq_true_eq, Bool.false_eq_true, if_false]
      by_cases e : c = 96 ∨ c = 97 ∨ c = 2 ∨ c = 3
      · rw [if_pos e]; congr 1; by_cases e2 : kk ≥ 16 <;> simp [e, e2]
      · rw [if_neg e]; simp [e]
  refine ev_mk (K1 + 8) fun k hk => ?_
  obtain ⟨k, rfl⟩ : ∃ m, k = m + 6 := ⟨k - 6, by omega⟩
  unfold Zap.f insFault
  rw [sortOf_is c (k + 6) (by omega), Option.bind_some, ← hs]
  simp only [j0 _ _ (show K1 ≤ k by omega)]
  rw [Int.tmod_eq_emod_of_nonneg d0]
  by_cases e0 : s = 0
  · rw [if_pos e0, if_pos e0]
  · rw [if_neg e0, if_neg e0]
    by_cases e1 : c = 32
    · rw [if_pos e1]
      by_cases e2 : kk % 4 = 0
      · rw [if_pos e2]; simp only [decide_eq_true_eq]; congr 1; by_cases e : kk > 60 <;> simp [e, e1, e2]
      · rw [if_neg e2]; simp [e1, e2]
    · rw [if_neg e1]; simp [e1]
def faultFrom (l : List S54) (n : Int) : Nat → List S54 → Int × Int
  | _, [] => (0, 0)
  | i, x :: r => if insFault x i n = 0 then faultFrom l n (i + 1) r else (insFault x i n, i)
def validN (l : List S54) : Int × Int := if l.length < 1 ∨ l.length > 4096 then (1, 0) else faultFrom l l.length 0 l
theorem specValidate_ev (l : List S54) (hr : ∀ x ∈ l, InsR x) : Ev (fun k => Zbg.f k l) (validN l) := by
  have key : l.length ≤ 4096 → ∀ d i : Nat, i + d = l.length → Ev (fun k => Zbg.l0 k l (i : Int)) (faultFrom l l.length i (l.drop i)) := by
    intro hl d
    induction d with
    | zero =>
      intro i hi
      refine ev_end fun k => ?_
      rw [Zbg.l0, if_neg (by omega), List.drop_of_length_le (by omega)]
      rfl
    | succ d ih =>
      intro i hi
      have hlt : i < l.length := by omega
      rw [List.drop_eq_getElem_cons hlt]
      obtain ⟨K1, h1⟩ := ev_get (specFault_ev l i hlt hl (hr _ (List.getElem_mem hlt)))
      obtain ⟨K2, h2⟩ := ev_get (ih (i + 1) (by omega))
      refine ev_mk (K1 + K2 + 1) fun k hk => ?_
      obtain ⟨k, rfl⟩ : ∃ m, k = m + 1 := ⟨k - 1, by omega⟩
      rw [Zbg.l0, if_pos (by omega), h1 k (by omega), Option.bind_some, faultFrom]
      by_cases e : insFault l[i] i l.length = 0
      · rw [if_pos e, if_pos e, Zaj (by omega) (by omega)]
        exact h2 k (by omega)
      · rw [if_neg e, if_neg e]
  unfold validN
  by_cases h1 : l.length < 1
  · rw [if_pos (.inl h1)]
    refine ev_mk 1 fun k hk => ?_
    obtain ⟨k, rfl⟩ : ∃ m, k = m + 1 := ⟨k - 1, by omega⟩
    unfold Zbg.f
    rw [if_pos (by omega), Zbg.j0, if_pos rfl]
  · by_cases h2 : l.length > 4096
    · rw [if_pos (.inr h2)]
      refine ev_mk 1 fun k hk => ?_
      obtain ⟨k, rfl⟩ : ∃ m, k = m + 1 := ⟨k - 1, by omega⟩
      unfold Zbg.f
      rw [if_neg (by omega), Zbg.j0, if_pos (by simp; omega)]
    · rw [if_neg (by omega)]
      have h := key (by omega) l.length 0 (by omega)
      rw [List.drop_zero] at h
      refine ev_step _ (g := fun k => Zbg.f k l) (fun k => ?_) h
      unfold Zbg.f
      rw [if_neg (by omega), Zbg.j0, if_neg (by simp; omega)]
      rfl
theorem implValidate_ev (l : List S54) (hr : ∀ x ∈ l, InsR x) : Ev (fun k => Zbe.f k l) (validN l) := by
  have key : l.length ≤ 4096 → ∀ d i : Nat, i + d = l.length → Ev (fun k => Zbe.l0 k l l (l.length : Int) (i : Int)) (faultFrom l l.length i (l.drop i)) := by
    intro hl d
    induction d with
    | zero =>
      intro i hi
      refine ev_end fun k => ?_
      rw [Zbe.l0, if_neg (by omega), List.drop_of_length_le (by omega)]
      rfl
    | succ d ih =>
      intro i hi
      have hlt : i < l.length := by omega
      rw [List.drop_eq_getElem_cons hlt]
      obtain ⟨K1, h1⟩ := ev_get (implFault_ev l[i] i l.length (by omega) (by omega) (by omega) (hr _ (List.getElem_mem hlt)))
      obtain ⟨K2, h2⟩ := ev_get (ih (i + 1) (by omega))
      refine ev_mk (K1 + K2 + 1) fun k hk => ?_
      obtain ⟨k, rfl⟩ : ∃ m, k = m + 1 := ⟨k - 1, by omega⟩
      rw [Zbe.l0, if_pos (by omega), if_pos (by omega), if_pos (by omega), rdIns_eq l i hlt, h1 k (by omega), Option.bind_some, faultFrom]
      by_cases e : insFault l[i] i l.length = 0
      · rw [if_pos e, if_pos e, Zaj (by omega) (by omega)]
        exact h2 k (by omega)
      · rw [if_neg e, if_neg e]
  unfold validN
  by_cases h1 : l.length < 1
  · rw [if_pos (.inl h1)]
    refine ev_mk 1 fun k hk => ?_
    obtain ⟨k, rfl⟩ : ∃ m, k = m + 1 := ⟨k - 1, by omega⟩
    unfold Zbe.f
    rw [if_pos (by omega), Zbe.j0, if_pos rfl]
  · by_cases h2 : l.length > 4096
    · rw [if_pos (.inr h2)]
      refine ev_mk 1 fun k hk => ?_
      obtain ⟨k, rfl⟩ : ∃ m, k = m + 1 := ⟨k - 1, by omega⟩
      unfold Zbe.f
      rw [if_neg (by omega), Zbe.j0, if_pos (by simp; omega)]
    · rw [if_neg (by omega)]
      have h := key (by omega) l.length 0 (by omega)
      rw [List.drop_zero] at h
      refine ev_step _ (g := fun k => Zbe.f k l) (fun k => ?_) h
      unfold Zbe.f
      rw [if_neg (by omega), Zbe.j0, if_neg (by simp; omega)]
      rfl
end Go.Proofs.Ytgodbniphkfgfaa.P
