import Derived.Test.YtgodbniphkfgfaaGFnProgram4
import Derived.Test.YtgodbniphkfgfaaGFnProgram8
namespace Go.Proofs.Ytgodbniphkfgfaa.P
open Go.RowKit Go.Proofs.YtgodbniphkfgfaaW.PrintWords Go.Proofs.YtgodbniphkfgfaaW.PrintLast Go.Proofs.YtgodbniphkfgfaaW.PrintMore
attribute [local go_sem] max2_int min2_int max_two min_two max_three min_three max_four min_four
set_option linter.unusedVariables false
set_option linter.unusedSimpArgs false

mutual
def Zbe.j0 : Nat → List (S54) → Bool → Option (Int × Int)
  | 0, _, _ => none
  | k + 1, x0, x14 => if x14 = true then (some (1, 0)) else (Zbe.l0 k x0 x0 (x0.length : Int) 0)
def Zbe.l0 : Nat → List (S54) → List (S54) → Int → Int → Option (Int × Int)
  | 0, _, _, _, _ => none
  | k + 1, x0, x15, x16, x17 => if x17 < x16 then (if 0 ≤ x17 then (if x17 < (x15.length : Int) then ((Zap.f k ((Zb x15 x17).f0) ((Zb x15 x17).f1) ((Zb x15 x17).f2) ((Zb x15 x17).f3) x17 (x0.length : Int)).bind fun t467 => (if t467 = 0 then (Zbe.l0 k x0 x15 x16 (wrap64 (x17 + 1))) else (some (t467, x17)))) else (none)) else (none)) else (some (0, 0))
end
def Zbe.f (k : Nat) (l0 : List (S54)) : Option (Int × Int) := if (l0.length : Int) < 1 then (Zbe.j0 k l0 true) else (Zbe.j0 k l0 (decide ((l0.length : Int) > 4096)))
set_option maxHeartbeats 8000000 in
set_option maxRecDepth 100000 in
theorem Zbe.calls (k : Nat) (A0 : Option Addr) (c0 : Nat) (l0 : List (S54)) (r1 : Int) (r2 : Int) (w : World) (hr0 : Kd.C k54 w A0 l0.length l0) (hc0 : l0.length ≤ c0) (h : Zbe.f k l0 = some (r1, r2)) :
  Calls Try.prog 28 #[.slice A0 l0.length c0] w fun e w' => e = .returned (.tuple #[.int .i64 r1, .int .i64 r2]) ∧ Below w.heap.size w w' := by
 have hu54 := Try.underlying54
 have HR0 := Za.mk hr0
 have HC0 := Za.mk hc0
 clear hr0 hc0
 have HB := Za.mk (Below.refl w.heap.size w)
 have H : (if (l0.length : Int) < 1 then (Zbe.j0 k l0 true) else (Zbe.j0 k l0 (decide ((l0.length : Int) > 4096)))) = some (r1, r2) := h
 clear h
 have HC2 := Za.mk H
 clear H
 go_enter Try.func28, Try.ntmps28
 go_upto_region 1 with (fail)
 go_cut [14] (fun v14 wc => ∃ (kq : Nat) (x14_1 : Bool), v14 = .bool x14_1 ∧ Za (Zbe.j0 kq l0 x14_1 = some (r1, r2)) ∧ Za (kq ≤ k) ∧ Za (Below w.heap.size w wc))
 case first =>
  have H := HC2.out
  clear HC2
  by_cases c3 : (l0.length : Int) < 1
  ·rw [if_pos c3] at H
   have c3b0 : decide ((l0.length : Int) < 1) = true := decide_eq_true c3
   have c3b1 : decide (l0.length < 1) = true := decide_eq_true (by omega)
   clear c3
   (first | rw [c3b0] | (simp only [Zn, Zq]; rw [c3b0]) | skip)
   have H' := Za.mk H
   clear H
   go_wp2
   go_meet
   case rel => exact ⟨_, (true), (by first | rfl | (simp; done) | (simp [*]; done)), H', ⟨by first | omega | exact Nat.le_refl _⟩, ⟨by repeat (first | (with_reducible first | exact HB.out | apply Ze | apply Zf | apply Zd) | exact HB.out)⟩⟩
  ·rw [if_neg c3] at H
   have c3b0 : decide ((l0.length : Int) < 1) = false := decide_eq_false c3
   have c3b1 : decide (l0.length < 1) = false := decide_eq_false (by omega)
   clear c3
   (first | rw [c3b0] | (simp only [Zn, Zq]; rw [c3b0]) | skip)
   have H' := Za.mk H
   clear H
   go_wp2
   go_meet
   case rel => exact ⟨_, (decide ((l0.length : Int) > 4096)), (by first | rfl | (simp; done) | (simp [*]; done)), H', ⟨by first | omega | exact Nat.le_refl _⟩, ⟨by repeat (first | (with_reducible first | exact HB.out | apply Ze | apply Zf | apply Zd) | exact HB.out)⟩⟩
 case rest =>
  clear HC2
  try clear c2
  try clear p2
  try clear c3
  try clear c3b0
  try clear c3b1
  obtain ⟨kq, x14_1, rfl, HA, HJ1, HB⟩ := hcut
  cases kq with
  | zero => exact absurd HA.out (by simp [Zbe.j0])
  | succ kj1 =>
   have H := HA.out
   clear HA
   simp only [Zbe.j0] at H
   by_cases c4 : x14_1 = true
   ·subst c4
    have H1 : (some (1, 0)) = some (r1, r2) := by rw [if_pos rfl] at H; exact H
    clear H
    have H := H1
    clear H1
    simp only [Option.some.injEq, Prod.mk.injEq] at H
    obtain ⟨rfl, rfl⟩ := H
    go_wp2
    go_ret2
    exact ⟨by first | rfl | (simp [Zo, Zp] <;> rfl) | (simp [*, Zo, Zp] <;> rfl), by repeat (first | (with_reducible first | exact HB.out | apply Ze | apply Zf | apply Zd) | exact HB.out)⟩
   ·replace c4 := Bool.eq_false_iff.mpr c4
    subst c4
    have H1 : (Zbe.l0 kj1 l0 l0 (l0.length : Int) 0) = some (r1, r2) := by rw [if_neg (show ¬ (false = true) by decide)] at H; exact H
    clear H
    have H := H1
    clear H1
    have H' := Za.mk H
    clear H
    go_wp2
    go_loopg [17] kj1 (fun kq v17 w' => ∃ (x17_2 : Int), v17 = .int .i64 x17_2 ∧ Za (Zbe.l0 kq l0 l0 (l0.length : Int) x17_2 = some (r1, r2)) ∧ Za (kq ≤ kj1) ∧ Za (Below w.heap.size w w'))
    case atStart => exact ⟨(0), (by first | rfl | (simp; done) | (simp [*]; done)), H', ⟨Nat.le_refl _⟩, ⟨by repeat (first | (with_reducible first | exact HB.out | apply Ze | apply Zf | apply Zd) | exact HB.out)⟩⟩
    case round =>
     clear H'
     try clear c2
     try clear p2
     try clear c3
     try clear c3b0
     try clear c3b1
     try clear c4
     try clear p2
     obtain ⟨x17_2, rfl, HA, HK2, HB⟩ := hrel
     cases gk with
     | zero => exact absurd HA.out (by simp [Zbe.l0])
     | succ k2 =>
      have H := HA.out
      clear HA
      simp only [Zbe.l0] at H
      by_cases c5 : x17_2 < (l0.length : Int)
      ·rw [if_pos c5] at H
       have c5b0 : decide (x17_2 < (l0.length : Int)) = true := decide_eq_true c5
       clear c5
       by_cases c6 : 0 ≤ x17_2
       ·rw [if_pos c6] at H
        have c6b0 : decide (0 ≤ x17_2) = true := decide_eq_true c6
        clear c6
        by_cases c7 : x17_2 < (l0.length : Int)
        ·rw [if_pos c7] at H
         have c7b0 : decide (x17_2 < (l0.length : Int)) = true := decide_eq_true c7
         clear c7
         replace H := Option.bind_eq_some_iff.mp H
         obtain ⟨t467, A80, H⟩ := H
         (try dsimp only at H)
         have A8 := Za.mk A80
         clear A80
         by_cases c9 : t467 = 0
         ·rw [if_pos c9] at H
          have c9b0 : (t467 == 0) = true := beq_iff_eq.mpr c9
          have c9b1 : (t467 != 0) = false := bne_eq_false_iff_eq.mpr c9
          clear c9
          have H' := Za.mk H
          clear H
          have p465 : 0 ≤ (x17_2 : Int) := of_decide_eq_true (by assumption)
          have q465 : x17_2 < (l0.length : Int) := of_decide_eq_true (by assumption)
          obtain ⟨ad465, e465, hx465_0, hx465_1, hx465_2, hx465_3⟩ := at_T54 HR0.out x17_2 p465 q465
          cases e465
          replace hx465_0 := (HB.out.cell (World.block_lt_of_cell? w _ hx465_0)).trans hx465_0
          replace hx465_1 := (HB.out.cell (World.block_lt_of_cell? w _ hx465_1)).trans hx465_1
          replace hx465_2 := (HB.out.cell (World.block_lt_of_cell? w _ hx465_2)).trans hx465_2
          replace hx465_3 := (HB.out.cell (World.block_lt_of_cell? w _ hx465_3)).trans hx465_3
          replace p465 := eq_true p465
          replace q465 := eq_true q465
          go_wp2_with (first | ((with_reducible refine Zbj (N := 5) rfl ?_); (try (refine gate_guard (by rfl) ?_; dsimp only)); refine Zbo ?hg (N := 5) ?hd (cs := #[.int .u16 0, .int .u8 0, .int .u8 0, .int .u32 0]) (t := 54) ?hr ?_; (case hd => rfl); (case hg => rfl); (case hr => first | (go_simp; done) | (go_simp; rfl)); intro gb466 hg w10 hbox hb; have BK466 := Za.mk (hbox); have GW466 := Za.mk ((by rw [hg]; exact (Zas (by repeat (first | (with_reducible first | exact HB.out | apply Ze | apply Zf | apply Zd) | exact HB.out))) : w.heap.size ≤ gb466)); have GE466 := Za.mk ((by rw [hg]; exact (Zas (by repeat (first | (with_reducible first | exact HB.out | apply Ze | apply Zf | apply Zd) | exact HB.out))) : w.heap.size ≤ gb466)); replace HB := Za.mk (Zai (by repeat (first | (with_reducible first | exact HB.out | apply Ze | apply Zf | apply Zd) | exact HB.out)) hb); clear hb hbox hg; have hcz11_0 : w10.cell? ⟨gb466, 0, none⟩ = some (.int .u16 0) := (Zg BK466.out 0).trans rfl; have hcz11_1 : w10.cell? ⟨gb466, 1, none⟩ = some (.int .u8 0) := (Zg BK466.out 1).trans rfl; have hcz11_2 : w10.cell? ⟨gb466, 2, none⟩ = some (.int .u8 0) := (Zg BK466.out 2).trans rfl; have hcz11_3 : w10.cell? ⟨gb466, 3, none⟩ = some (.int .u32 0) := (Zg BK466.out 3).trans rfl; have hfz11_0 := Zl BK466.out 0; have hfz11_1 := Zl BK466.out 1; have hfz11_2 := Zl BK466.out 2; have hfz11_3 := Zl BK466.out 3) | ((with_reducible refine Zaf (f := 46) rfl ?_); refine Zae (some 26) rfl rfl Try.func46 (by kernel_rfl) rfl #[.agg #[.int .u16 ((Zb l0 x17_2).f0), .int .u8 ((Zb l0 x17_2).f1), .int .u8 ((Zb l0 x17_2).f2), .int .u32 ((Zb l0 x17_2).f3)], .int .i64 x17_2, .int .i64 (l0.length : Int)] rfl (by (try simp only [ZA, ZB, ZC]); first | done | rfl) ?_; (with_reducible refine (Zap.calls k2 ((Zb l0 x17_2).f0) ((Zb l0 x17_2).f1) ((Zb l0 x17_2).f2) ((Zb l0 x17_2).f3) x17_2 (l0.length : Int) t467 _ A8.out).mono ?_); rintro e w12 ⟨rfl, hb⟩; refine ⟨_, rfl, ?_⟩; replace BK466 := Za.mk (Zbd (g := gb466) (o := .cells #[.int .u16 ((Zb l0 x17_2).f0), .int .u8 ((Zb l0 x17_2).f1), .int .u8 ((Zb l0 x17_2).f2), .int .u32 ((Zb l0 x17_2).f3)] 54 (0, 0)) (by (with_reducible repeat (first | refine Zj ?_ _ | refine Zh ?_ | refine Zi ?_ _)); refine Zu (cs := #[.int .u16 ((Zb l0 x17_2).f0), .int .u8 ((Zb l0 x17_2).f1), .int .u8 ((Zb l0 x17_2).f2), .int .u32 0]) ?_ 3 _ rfl; (with_reducible repeat (first | refine Zj ?_ _ | refine Zh ?_ | refine Zi ?_ _)); refine Zu (cs := #[.int .u16 ((Zb l0 x17_2).f0), .int .u8 ((Zb l0 x17_2).f1), .int .u8 0, .int .u32 0]) ?_ 2 _ rfl; (with_reducible repeat (first | refine Zj ?_ _ | refine Zh ?_ | refine Zi ?_ _)); refine Zu (cs := #[.int .u16 ((Zb l0 x17_2).f0), .int .u8 0, .int .u8 0, .int .u32 0]) ?_ 1 _ rfl; (with_reducible repeat (first | refine Zj ?_ _ | refine Zh ?_ | refine Zi ?_ _)); refine Zu (cs := #[.int .u16 0, .int .u8 0, .int .u8 0, .int .u32 0]) ?_ 0 _ rfl; (with_reducible repeat (first | refine Zj ?_ _ | refine Zh ?_ | refine Zi ?_ _)); exact BK466.out) hb); replace HB := Za.mk (Zai (by repeat (first | (with_reducible first | exact HB.out | apply Ze | apply Zf | apply Zd | refine Zk ?_ GE466.out) | exact HB.out)) hb); (try clear hb); (try clear hb2); (try clear hk); (try clear hi)))
          go_roundg k2
          case measure => have := HJ1.out; have := HK2.out; omega
          case rel => exact ⟨(wrap64 (x17_2 + 1)), (by first | rfl | (simp; done) | (simp [*]; done)), H', ⟨by have := HJ1.out; have := HK2.out; omega⟩, ⟨by repeat (first | (with_reducible first | exact HB.out | apply Ze | apply Zf | apply Zd | refine Zk ?_ GE466.out) | exact HB.out)⟩⟩
         ·rw [if_neg c9] at H
          have c9b0 : (t467 == 0) = false := beq_eq_false_iff_ne.mpr c9
          have c9b1 : (t467 != 0) = true := bne_iff_ne.mpr c9
          simp only [Option.some.injEq, Prod.mk.injEq] at H
          obtain ⟨rfl, rfl⟩ := H
          have p465 : 0 ≤ (x17_2 : Int) := of_decide_eq_true (by assumption)
          have q465 : x17_2 < (l0.length : Int) := of_decide_eq_true (by assumption)
          obtain ⟨ad465, e465, hx465_0, hx465_1, hx465_2, hx465_3⟩ := at_T54 HR0.out x17_2 p465 q465
          cases e465
          replace hx465_0 := (HB.out.cell (World.block_lt_of_cell? w _ hx465_0)).trans hx465_0
          replace hx465_1 := (HB.out.cell (World.block_lt_of_cell? w _ hx465_1)).trans hx465_1
          replace hx465_2 := (HB.out.cell (World.block_lt_of_cell? w _ hx465_2)).trans hx465_2
          replace hx465_3 := (HB.out.cell (World.block_lt_of_cell? w _ hx465_3)).trans hx465_3
          replace p465 := eq_true p465
          replace q465 := eq_true q465
          go_wp2_with (first | ((with_reducible refine Zbj (N := 5) rfl ?_); (try (refine gate_guard (by rfl) ?_; dsimp only)); refine Zbo ?hg (N := 5) ?hd (cs := #[.int .u16 0, .int .u8 0, .int .u8 0, .int .u32 0]) (t := 54) ?hr ?_; (case hd => rfl); (case hg => rfl); (case hr => first | (go_simp; done) | (go_simp; rfl)); intro gb466 hg w13 hbox hb; have BK466 := Za.mk (hbox); have GW466 := Za.mk ((by rw [hg]; exact (Zas (by repeat (first | (with_reducible first | exact HB.out | apply Ze | apply Zf | apply Zd) | exact HB.out))) : w.heap.size ≤ gb466)); have GE466 := Za.mk ((by rw [hg]; exact (Zas (by repeat (first | (with_reducible first | exact HB.out | apply Ze | apply Zf | apply Zd) | exact HB.out))) : w.heap.size ≤ gb466)); replace HB := Za.mk (Zai (by repeat (first | (with_reducible first | exact HB.out | apply Ze | apply Zf | apply Zd) | exact HB.out)) hb); clear hb hbox hg; have hcz14_0 : w13.cell? ⟨gb466, 0, none⟩ = some (.int .u16 0) := (Zg BK466.out 0).trans rfl; have hcz14_1 : w13.cell? ⟨gb466, 1, none⟩ = some (.int .u8 0) := (Zg BK466.out 1).trans rfl; have hcz14_2 : w13.cell? ⟨gb466, 2, none⟩ = some (.int .u8 0) := (Zg BK466.out 2).trans rfl; have hcz14_3 : w13.cell? ⟨gb466, 3, none⟩ = some (.int .u32 0) := (Zg BK466.out 3).trans rfl; have hfz14_0 := Zl BK466.out 0; have hfz14_1 := Zl BK466.out 1; have hfz14_2 := Zl BK466.out 2; have hfz14_3 := Zl BK466.out 3) | ((with_reducible refine Zaf (f := 46) rfl ?_); refine Zae (some 26) rfl rfl Try.func46 (by kernel_rfl) rfl #[.agg #[.int .u16 ((Zb l0 x17_2).f0), .int .u8 ((Zb l0 x17_2).f1), .int .u8 ((Zb l0 x17_2).f2), .int .u32 ((Zb l0 x17_2).f3)], .int .i64 x17_2, .int .i64 (l0.length : Int)] rfl (by (try simp only [ZA, ZB, ZC]); first | done | rfl) ?_; (with_reducible refine (Zap.calls k2 ((Zb l0 x17_2).f0) ((Zb l0 x17_2).f1) ((Zb l0 x17_2).f2) ((Zb l0 x17_2).f3) x17_2 (l0.length : Int) t467 _ A8.out).mono ?_); rintro e w15 ⟨rfl, hb⟩; refine ⟨_, rfl, ?_⟩; replace BK466 := Za.mk (Zbd (g := gb466) (o := .cells #[.int .u16 ((Zb l0 x17_2).f0), .int .u8 ((Zb l0 x17_2).f1), .int .u8 ((Zb l0 x17_2).f2), .int .u32 ((Zb l0 x17_2).f3)] 54 (0, 0)) (by (with_reducible repeat (first | refine Zj ?_ _ | refine Zh ?_ | refine Zi ?_ _)); refine Zu (cs := #[.int .u16 ((Zb l0 x17_2).f0), .int .u8 ((Zb l0 x17_2).f1), .int .u8 ((Zb l0 x17_2).f2), .int .u32 0]) ?_ 3 _ rfl; (with_reducible repeat (first | refine Zj ?_ _ | refine Zh ?_ | refine Zi ?_ _)); refine Zu (cs := #[.int .u16 ((Zb l0 x17_2).f0), .int .u8 ((Zb l0 x17_2).f1), .int .u8 0, .int .u32 0]) ?_ 2 _ rfl; (with_reducible repeat (first | refine Zj ?_ _ | refine Zh ?_ | refine Zi ?_ _)); refine Zu (cs := #[.int .u16 ((Zb l0 x17_2).f0), .int .u8 0, .int .u8 0, .int .u32 0]) ?_ 1 _ rfl; (with_reducible repeat (first | refine Zj ?_ _ | refine Zh ?_ | refine Zi ?_ _)); refine Zu (cs := #[.int .u16 0, .int .u8 0, .int .u8 0, .int .u32 0]) ?_ 0 _ rfl; (with_reducible repeat (first | refine Zj ?_ _ | refine Zh ?_ | refine Zi ?_ _)); exact BK466.out) hb); replace HB := Za.mk (Zai (by repeat (first | (with_reducible first | exact HB.out | apply Ze | apply Zf | apply Zd | refine Zk ?_ GE466.out) | exact HB.out)) hb); (try clear hb); (try clear hb2); (try clear hk); (try clear hi)))
          go_ret2
          exact ⟨by first | rfl | (simp [Zo, Zp] <;> rfl) | (simp [*, Zo, Zp] <;> rfl), by repeat (first | (with_reducible first | exact HB.out | apply Ze | apply Zf | apply Zd | refine Zk ?_ GE466.out) | exact HB.out)⟩
        ·rw [if_neg c7] at H
         exact absurd H (by simp)
       ·rw [if_neg c6] at H
        exact absurd H (by simp)
      ·rw [if_neg c5] at H
       have c5b0 : decide (x17_2 < (l0.length : Int)) = false := decide_eq_false c5
       clear c5
       simp only [Option.some.injEq, Prod.mk.injEq] at H
       obtain ⟨rfl, rfl⟩ := H
       go_wp2
       go_ret2
       exact ⟨by first | rfl | (simp [Zo, Zp] <;> rfl) | (simp [*, Zo, Zp] <;> rfl), by repeat (first | (with_reducible first | exact HB.out | apply Ze | apply Zf | apply Zd) | exact HB.out)⟩
def Zc (w0 W : World) (g : Nat) (f0 : List Int) (f1 : Int) : Prop := ∃ A0 c0, W.heap[g]? = some (.cells #[.slice A0 f0.length c0, .int .i64 f1] 102 (0, 0)) ∧ w0.heap.size ≤ g ∧ Kd.C (Kd.int .u8) w0 A0 f0.length f0
theorem Zc.grown {w0 W : World} {g : Nat} {f0 : List Int} {f1 : Int} {W1 : World} {row : Option Nat} (h : Zc w0 W g f0 f1) (hw : W.grownBy W1 row) (hne : some g ≠ row) : Zc w0 W1 g f0 f1 := by
  obtain ⟨A0, c0, hb, hg, hr0⟩ := h
  exact ⟨A0, c0, blk_grown hb hw hne, hg, hr0⟩
theorem Zc.kept {w0 W : World} {g : Nat} {f0 : List Int} {f1 : Int} {W1 : World} {S : Nat → Prop} (h : Zc w0 W g f0 f1) (hk : Kept W W1 S) (hne : ¬ S g) : Zc w0 W1 g f0 f1 := by
  obtain ⟨A0, c0, hb, hg, hr0⟩ := h
  exact ⟨A0, c0, blk_kept hb hk hne, hg, hr0⟩
theorem Zc.below {w0 W : World} {g : Nat} {f0 : List Int} {f1 : Int} {W1 : World} (h : Zc w0 W g f0 f1) (hw : Below W.heap.size W W1) : Zc w0 W1 g f0 f1 := h.grown (grown_of_below hw none) (by simp)
theorem Zc.alloc {w0 W : World} {g : Nat} {f0 : List Int} {f1 : Int} (h : Zc w0 W g f0 f1) (o : Obj) : Zc w0 (W.alloc o) g f0 f1 := h.below (Ze (Below.refl _ _) o)
theorem Zc.drewN {w0 W : World} {g : Nat} {f0 : List Int} {f1 : Int} (h : Zc w0 W g f0 f1) (m : Nat) : Zc w0 (W.drewN m) g f0 f1 := h
theorem Zc.drew {w0 W : World} {g : Nat} {f0 : List Int} {f1 : Int} (h : Zc w0 W g f0 f1) : Zc w0 W.drew g f0 f1 := h
theorem Zc.at_ {w0 W : World} {g : Nat} {f0 : List Int} {f1 : Int} {w' : World} {m : Nat} (hq : W.drewN m = w') (h : Zc w0 W g f0 f1) : Zc w0 w' g f0 f1 := by subst hq; exact Zc.drewN h m
theorem Zc.apart {w0 W : World} {g : Nat} {f0 : List Int} {f1 : Int} {α : Type} {d : Kd α} {e : Nat} {base : Nat} {ok : Nat → Prop} {v : Value} {xs : List α} (h : Zc w0 W g f0 f1) (ho : d.R e W base ok v xs) (ht : ∀ q, q ∈ e :: d.E → q ≠ 102) : d.R e W base (fun k => ok k ∧ k ≠ g) v xs := by
  obtain ⟨A0, c0, hb, hg, hr0⟩ := h
  exact Kd.R_types ho hb ht
theorem Zc.own_ne {w0 W : World} {g : Nat} {f0 : List Int} {f1 : Int} {α : Type} {d : Kd α} {e : Nat} {base : Nat} {ok : Nat → Prop} {v : Value} {xs : List α} (h : Zc w0 W g f0 f1) (ho : d.R e W base ok v xs) (ht : e ≠ 102) : some g ≠ v.ownBlock := by
  obtain ⟨A0, c0, hb, hg, hr0⟩ := h
  exact Kd.R_ne ho hb ht
theorem Zc.lt {w0 W : World} {g : Nat} {f0 : List Int} {f1 : Int} (h : Zc w0 W g f0 f1) : g < W.heap.size := by
  obtain ⟨A0, c0, hb, hg, hr0⟩ := h
  exact blk_lt hb
theorem Zc.ge {w0 W : World} {g : Nat} {f0 : List Int} {f1 : Int} (h : Zc w0 W g f0 f1) : w0.heap.size ≤ g := by
  obtain ⟨A0, c0, hb, hg, hr0⟩ := h
  exact hg
theorem Zc.far {w0 W : World} {g : Nat} {f0 : List Int} {f1 : Int} {p : Addr} (h : Zc w0 W g f0 f1) (hne : g ≠ p.block) (u : Value) : Zc w0 (W.setCell p u) g f0 f1 := by
  obtain ⟨A0, c0, hb, hg, hr0⟩ := h
  exact ⟨A0, c0, Zbh hb hne u, hg, hr0⟩
theorem cellS102_0 {W : World} {g : Nat} {A0 : Option Addr} {c0 : Nat} {f0 : List Int} {f1 : Int} (h : W.heap[g]? = some (.cells #[.slice A0 f0.length c0, .int .i64 f1] 102 (0, 0))) : W.cell? ⟨g, 0, none⟩ = some (.slice A0 f0.length c0) := (Zg h 0).trans rfl
theorem cellS102_1 {W : World} {g : Nat} {A0 : Option Addr} {c0 : Nat} {f0 : List Int} {f1 : Int} (h : W.heap[g]? = some (.cells #[.slice A0 f0.length c0, .int .i64 f1] 102 (0, 0))) : W.cell? ⟨g, 1, none⟩ = some (.int .i64 f1) := (Zg h 1).trans rfl
theorem Zc.Zv {w0 W : World} {g : Nat} {f0 : List Int} {f1 : Int} (h : Zc w0 W g f0 f1) (x : Int) : Zc w0 (W.setCell ⟨g, 1, none⟩ (.int .i64 x)) g f0 x := by
  obtain ⟨A0, c0, hb, hg, hr0⟩ := h
  exact ⟨A0, c0, by simpa using blk_set hb 1 (.int .i64 x), hg, hr0⟩
theorem Zc.new (w0 W : World) (A0 : Option Addr) (c0 : Nat) (f0 : List Int) (f1 : Int) (hB : Below w0.heap.size w0 W) (hr0 : Kd.C (Kd.int .u8) w0 A0 f0.length f0) : Zc w0 (W.alloc (.cells #[.slice A0 f0.length c0, .int .i64 f1] 102)) W.heap.size f0 f1 := ⟨A0, c0, by simpa using heap_alloc_new W _, hB.size, hr0⟩

def spec_l1open.f (l0 : List Int) : Option (List Int × Int) := if (l0.length : Int) > 600 then (if 600 ≤ (l0.length : Int) then (some (l0.take 600, 0)) else (none)) else (if 0 ≤ (l0.length : Int) then (if (l0.length : Int) ≤ (l0.length : Int) then (some (l0.take ((l0.length : Int) : Int).toNat, 0)) else (none)) else (none))
set_option maxHeartbeats 8000000 in
set_option maxRecDepth 100000 in
theorem spec_l1open.calls (A0 : Option Addr) (c0 : Nat) (l0 : List Int) (r1 : List Int) (r2 : Int) (w0 w : World) (hB : Below w0.heap.size w0 w) (hr0 : Kd.C (Kd.int .u8) w0 A0 l0.length l0) (hc0 : l0.length ≤ c0) (h : spec_l1open.f l0 = some (r1, r2)) :
  Calls Try.prog 41 #[.slice A0 l0.length c0] w fun e w' => ∃ g_ : Nat, e = .returned (.pointer (some ⟨g_, 0, none⟩)) ∧ Zc w0 w' g_ r1 r2 ∧ Below w0.heap.size w0 w' ∧ Below w.heap.size w w' := by
 have hu102 := Try.underlying102
 have HR0 := Za.mk hr0
 have HC0 := Za.mk hc0
 clear hr0 hc0
 have HBW := Za.mk (Below.refl w.heap.size w)
 have HW0 := Za.mk hB.size
 have HB := Za.mk hB
 clear hB
 have H := h
 unfold spec_l1open.f at H
 clear h
 by_cases c2 : (l0.length : Int) > 600
 ·rw [if_pos c2] at H
  have c2b0 : decide (600 < (l0.length : Int)) = true := decide_eq_true c2
  have c2b1 : decide (600 < l0.length) = true := decide_eq_true (by omega)
  clear c2
  by_cases c3 : 600 ≤ (l0.length : Int)
  ·rw [if_pos c3] at H
   have c3b0 := eq_true c3
   have c3b1 : decide (600 ≤ (l0.length : Int)) = true := decide_eq_true c3
   clear c3
   simp only [Option.some.injEq, Prod.mk.injEq] at H
   obtain ⟨rfl, rfl⟩ := H
   obtain ⟨i04, hi04, _, hsz4, _⟩ := info_parts info5
   obtain ⟨hcut4, hA4, hC4⟩ := print_take_of (P := Try.prog) (Value.int .u8) 0 22 5 .i64 Try.underlying22 hi04 hsz4 A0 c0 l0 600 (by omega) (of_decide_eq_true (by assumption)) HC0.out
   have HR495 := Za.mk (Kd.C_of_reads (h1 := fun _ => rfl) (hA4 _ (Kd.reads_of_C HR0.out)))
   have HC495 := Za.mk hC4
   clear hA4 hC4 hi04 hsz4
   go_enter Try.func41, Try.ntmps41
   go_wp2_with (first | ((with_reducible refine Zbj (N := 12) rfl ?_); refine Zbo ?hg (N := 12) ?hd (cs := #[.slice A0 (l0.take 600).length c0, .int .i64 0]) (t := 102) ?hr ?_; (case hd => rfl); (case hg => rfl); (case hr => first | (go_simp; done) | (go_simp; rfl)); intro gb496 hg w5 hbox hb; replace HB := Za.mk (Zai (by repeat (first | (with_reducible first | exact HB.out | apply Ze | apply Zf | apply Zd) | exact HB.out)) hb); have BK496 := Za.mk (hbox); have GW496 := Za.mk ((by rw [hg]; exact (Zas (by repeat (first | (with_reducible first | exact HBW.out | apply Ze | apply Zf | apply Zd) | exact HBW.out))) : w.heap.size ≤ gb496)); have GE496 := Za.mk ((Nat.le_trans HW0.out (by rw [hg]; exact (Zas (by repeat (first | (with_reducible first | exact HBW.out | apply Ze | apply Zf | apply Zd) | exact HBW.out))) : w.heap.size ≤ gb496) : w0.heap.size ≤ gb496)); replace HBW := Za.mk (Zai HBW.out hb); clear hb hbox hg))
   go_ret
   exact ⟨_, rfl, (show Zc w0 _ gb496 (l0.take 600) 0 from ⟨_, _, by (with_reducible repeat (first | refine Zj ?_ _ | refine Zh ?_ | refine Zi ?_ _)); exact BK496.out, GE496.out, HR495.out⟩), by repeat (first | (with_reducible first | exact HB.out | apply Ze | apply Zf | apply Zd | refine Zk ?_ GE496.out) | exact HB.out), by repeat (first | (with_reducible first | exact HBW.out | apply Ze | apply Zf | apply Zd | refine Zk ?_ GW496.out) | exact HBW.out)⟩
  ·rw [if_neg c3] at H
   exact absurd H (by simp)
 ·rw [if_neg c2] at H
  have c2b0 : decide (600 < (l0.length : Int)) = false := decide_eq_false c2
  have c2b1 : decide (600 < l0.length) = false := decide_eq_false (by omega)
  clear c2
  by_cases c6 : 0 ≤ (l0.length : Int)
  ·rw [if_pos c6] at H
   have c6b0 := eq_true c6
   have c6b1 : decide (0 ≤ (l0.length : Int)) = true := decide_eq_true c6
   clear c6
   by_cases c7 : (l0.length : Int) ≤ (l0.length : Int)
   ·rw [if_pos c7] at H
    have c7b0 := eq_true c7
    have c7b1 : decide ((l0.length : Int) ≤ (l0.length : Int)) = true := decide_eq_true c7
    clear c7
    simp only [Option.some.injEq, Prod.mk.injEq] at H
    obtain ⟨rfl, rfl⟩ := H
    obtain ⟨i08, hi08, _, hsz8, _⟩ := info_parts info5
    obtain ⟨hcut8, hA8, hC8⟩ := print_take_of (P := Try.prog) (Value.int .u8) 0 22 5 .i64 Try.underlying22 hi08 hsz8 A0 c0 l0 (l0.length : Int) (of_decide_eq_true (by assumption)) (of_decide_eq_true (by assumption)) HC0.out
    have HR497 := Za.mk (Kd.C_of_reads (h1 := fun _ => rfl) (hA8 _ (Kd.reads_of_C HR0.out)))
    have HC497 := Za.mk hC8
    clear hA8 hC8 hi08 hsz8
    go_enter Try.func41, Try.ntmps41
    go_wp2_with (first | ((with_reducible refine Zbj (N := 12) rfl ?_); refine Zbo ?hg (N := 12) ?hd (cs := #[.slice A0 (l0.take ((l0.length : Int) : Int).toNat).length c0, .int .i64 0]) (t := 102) ?hr ?_; (case hd => rfl); (case hg => rfl); (case hr => first | (go_simp; done) | (go_simp; rfl)); intro gb498 hg w9 hbox hb; replace HB := Za.mk (Zai (by repeat (first | (with_reducible first | exact HB.out | apply Ze | apply Zf | apply Zd) | exact HB.out)) hb); have BK498 := Za.mk (hbox); have GW498 := Za.mk ((by rw [hg]; exact (Zas (by repeat (first | (with_reducible first | exact HBW.out | apply Ze | apply Zf | apply Zd) | exact HBW.out))) : w.heap.size ≤ gb498)); have GE498 := Za.mk ((Nat.le_trans HW0.out (by rw [hg]; exact (Zas (by repeat (first | (with_reducible first | exact HBW.out | apply Ze | apply Zf | apply Zd) | exact HBW.out))) : w.heap.size ≤ gb498) : w0.heap.size ≤ gb498)); replace HBW := Za.mk (Zai HBW.out hb); clear hb hbox hg))
    go_ret
    exact ⟨_, rfl, (show Zc w0 _ gb498 (l0.take ((l0.length : Int) : Int).toNat) 0 from ⟨_, _, by (with_reducible repeat (first | refine Zj ?_ _ | refine Zh ?_ | refine Zi ?_ _)); exact BK498.out, GE498.out, HR497.out⟩), by repeat (first | (with_reducible first | exact HB.out | apply Ze | apply Zf | apply Zd | refine Zk ?_ GE498.out) | exact HB.out), by repeat (first | (with_reducible first | exact HBW.out | apply Ze | apply Zf | apply Zd | refine Zk ?_ GW498.out) | exact HBW.out)⟩
   ·rw [if_neg c7] at H
    exact absurd H (by simp)
  ·rw [if_neg c6] at H
   exact absurd H (by simp)
def Zar.f (s0_0 : List Int) (s0_1 : Int) : Option (Int × Int) := if s0_1 ≥ (s0_0.length : Int) then (some (0, s0_1)) else (if 0 ≤ s0_1 then (if s0_1 < (s0_0.length : Int) then (some (wrap64 (rd s0_0 s0_1), wrap64 (s0_1 + 1))) else (none)) else (none))
set_option maxHeartbeats 8000000 in
set_option maxRecDepth 100000 in
theorem Zar.calls (g : Nat) (s0_0 : List Int) (s0_1 : Int) (r1 : Int) (r2 : Int) (w0 w : World) (hI : Zc w0 w g s0_0 s0_1) (hB : Below w0.heap.size w0 w) (h : Zar.f s0_0 s0_1 = some (r1, r2)) :
  Calls Try.prog 44 #[.pointer (some ⟨g, 0, none⟩)] w fun e w' => e = .returned (.int .i64 r1) ∧ Zc w0 w' g s0_0 r2 ∧ Below w0.heap.size w0 w' ∧ Zm w w' g none := by
 have HI0 := Za.mk hI
 have HK := Za.mk (Zm.refl w g none)
 have HL := Za.mk hB.size
 clear hI
 have HW0 := Za.mk hB.size
 have HB := Za.mk hB
 clear hB
 have H := h
 unfold Zar.f at H
 clear h
 by_cases c2 : s0_1 ≥ (s0_0.length : Int)
 ·rw [if_pos c2] at H
  have c2b0 : decide ((s0_0.length : Int) ≤ s0_1) = true := decide_eq_true c2
  clear c2
  simp only [Option.some.injEq, Prod.mk.injEq] at H
  obtain ⟨rfl, rfl⟩ := H
  obtain ⟨ASz3_0, cSz3_0, HGz3, hgz3, HSz3_0⟩ := HI0.out
  have hcz3_0 := cellS102_0 HGz3
  have hcz3_1 := cellS102_1 HGz3
  have hfz3_1 := Zl HGz3 1
  clear HGz3 hgz3
  go_enter Try.func44, Try.ntmps44
  go_wp2
  repeat (go_quiet (fail); try go_wp2)
  go_ret
  exact ⟨by first | rfl | (simp [Zo, Zp] <;> rfl) | (simp [*, Zo, Zp] <;> rfl), by repeat (first | (with_reducible first | exact HI0.out | apply Zc.alloc | apply Zc.drewN | apply Zc.drew | apply Zc.Zv) | exact HI0.out), by repeat (first | (with_reducible first | exact HB.out | apply Ze | apply Zf | apply Zd | refine Zk ?_ (Zc.ge HI0.out)) | exact HB.out), by repeat (first | (with_reducible first | exact HK.out | apply Zm.set_ | apply Zaa | apply Zac | apply Zab) | exact HK.out)⟩
 ·rw [if_neg c2] at H
  have c2b0 : decide ((s0_0.length : Int) ≤ s0_1) = false := decide_eq_false c2
  clear c2
  by_cases c4 : 0 ≤ s0_1
  ·rw [if_pos c4] at H
   have c4b0 : decide (0 ≤ s0_1) = true := decide_eq_true c4
   clear c4
   by_cases c5 : s0_1 < (s0_0.length : Int)
   ·rw [if_pos c5] at H
    have c5b0 : decide (s0_1 < (s0_0.length : Int)) = true := decide_eq_true c5
    clear c5
    simp only [Option.some.injEq, Prod.mk.injEq] at H
    obtain ⟨rfl, rfl⟩ := H
    obtain ⟨ASz6_0, cSz6_0, HGz6, hgz6, HSz6_0⟩ := HI0.out
    have hcz6_0 := cellS102_0 HGz6
    have hcz6_1 := cellS102_1 HGz6
    have hfz6_1 := Zl HGz6 1
    clear HGz6 hgz6
    have p502 : 0 ≤ (s0_1 : Int) := of_decide_eq_true (by assumption)
    have q502 : s0_1 < (s0_0.length : Int) := of_decide_eq_true (by assumption)
    obtain ⟨ad502, e502, hx502_0⟩ := Kd.at_int HSz6_0 s0_1 p502 q502
    cases e502
    replace hx502_0 := pw_cell_below HB.out hx502_0
    replace p502 := eq_true p502
    replace q502 := eq_true q502
    go_enter Try.func44, Try.ntmps44
    go_wp2
    repeat (go_quiet (fail); try go_wp2)
    go_ret
    exact ⟨by first | rfl | (simp [Zo, Zp] <;> rfl) | (simp [*, Zo, Zp] <;> rfl), by repeat (first | (with_reducible first | exact HI0.out | apply Zc.alloc | apply Zc.drewN | apply Zc.drew | apply Zc.Zv) | exact HI0.out), by repeat (first | (with_reducible first | exact HB.out | apply Ze | apply Zf | apply Zd | refine Zk ?_ (Zc.ge HI0.out)) | exact HB.out), by repeat (first | (with_reducible first | exact HK.out | apply Zm.set_ | apply Zaa | apply Zac | apply Zab) | exact HK.out)⟩
   ·rw [if_neg c5] at H
    exact absurd H (by simp)
  ·rw [if_neg c4] at H
   exact absurd H (by simp)
def Zca.l0 : Nat → Int → Int → List Int → Int → Option (List Int)
  | 0, _, _, _, _ => none
  | k + 1, x0, x1, x5, x6 => if x6 < x1 then (if x5.length < 140737488355328 then (Zca.l0 k (IntKind.u64.wrap (Int.tdiv x0 256)) x1 (x5 ++ [(Int.tmod x0 256) % 256]) (wrap64 (x6 + 1))) else (none)) else (some x5)
def Zca.f (k : Nat) (a0 : Int) (a1 : Int) : Option (List Int) := Zca.l0 k a0 a1 ([] : List Int) 0
set_option maxHeartbeats 8000000 in
set_option maxRecDepth 100000 in
theorem Zca.calls (k : Nat) (a0 : Int) (a1 : Int) (r : List Int) (w : World) (h : Zca.f k a0 a1 = some r) :
  Calls Try.prog 56 #[.int .u64 a0, .int .i64 a1] w fun e w' => ∃ v0_ : Value, e = .returned (v0_) ∧ Kd.R (Kd.int .u8) 5 w' w.heap.size (fun _ => True) v0_ r ∧ Below w.heap.size w w' := by
 have HB := Za.mk (Below.refl w.heap.size w)
 have H : (Zca.l0 k a0 a1 ([] : List Int) 0) = some r := h
 clear h
 have H' := Za.mk H
 clear H
 go_enter Try.func56, Try.ntmps56
 go_wp2
 go_loopg [0, 5, 6] k (fun kq v0 v5 v6 w' => ∃ (x0_1 : Int) (x5_1 : List Int) (x6_1 : Int), v0 = .int .u64 x0_1 ∧ v6 = .int .i64 x6_1 ∧ Za (Zca.l0 kq x0_1 a1 x5_1 x6_1 = some r) ∧ Za (kq ≤ k) ∧ Za (Kd.R (Kd.int .u8) 5 w' w.heap.size (fun _ => True) v5 x5_1) ∧ Za (Below w.heap.size w w'))
 case atStart => exact ⟨(a0), (([] : List Int)), (0), (by first | rfl | (simp; done) | (simp [*]; done)), (by first | rfl | (simp; done) | (simp [*]; done)), H', ⟨Nat.le_refl _⟩, ⟨by first | exact Kd.R_nil _ _ _ _ _ | exact Kd.N_nil _ _ _ _ _ | exact Kd.V_nil _ _ _ _ _ | exact Kd.Q_nil _ _ _ _ _ | exact Kd.S_nil _ _ _ _ _⟩, ⟨by repeat (first | (with_reducible first | exact HB.out | apply Ze | apply Zf | apply Zd) | exact HB.out)⟩⟩
 case round =>
  clear H'
  try clear p2
  obtain ⟨x0_1, x5_1, x6_1, rfl, rfl, HA, HK1, HO_5, HB⟩ := hrel
  cases gk with
  | zero => exact absurd HA.out (by simp [Zca.l0])
  | succ k1 =>
   have H := HA.out
   clear HA
   simp only [Zca.l0] at H
   by_cases c3 : x6_1 < a1
   ·rw [if_pos c3] at H
    have c3b0 : decide (x6_1 < a1) = true := decide_eq_true c3
    clear c3
    by_cases c4 : x5_1.length < 140737488355328
    ·rw [if_pos c4] at H
     have LMc4 := Za.mk c4
     clear c4
     obtain ⟨y499, hy499⟩ : ∃ y_ : List Int, y_ = (x5_1 ++ [(Int.tmod x0_1 256) % 256]) := ⟨_, rfl⟩
     replace H : (Zca.l0 k1 (IntKind.u64.wrap (Int.tdiv x0_1 256)) a1 y499 (wrap64 (x6_1 + 1))) = some r := by first | (rw [hy499]; with_reducible exact H) | (have H2_ := (Option.bind_some _ _).symm.trans H; rw [hy499]; with_reducible exact H2_) | (have H2_ := (Option.bind_some _ _).symm.trans H; with_reducible exact H2_) | with_reducible exact H | (rw [hy499]; exact H) | exact H
     have Ny499 := Za.mk hy499
     clear hy499
     have H' := Za.mk H
     clear H
     go_wp2_with (first | ((with_reducible refine Zce (b := .append) (xs := #[.tmp 12, .tmp 16]) rfl ?_); at_builtin; refine Kd.R_append (Kd.int .u8) (w0 := w) w.heap.size rfl (.tmp 12) (.tmp 16) 22 5 (.int .u8 0) 1 rfl Try.underlying22 info5 rfl (by decide) (by omega) u5 x5_1 ((Int.tmod x0_1 256) % 256) [.int .u8 ((Int.tmod x0_1 256) % 256)] (fun _ => True) (fun _ => False) rfl rfl ?aP (fun _ hk => hk.elim) ?aF ?aO ?aB ?aS ?aL ?_; (case aP => exact rfl); (case aB => exact (by repeat (first | (with_reducible first | exact HB.out | apply Ze | apply Zf | apply Zd) | exact HB.out))); (case aF => exact (fun _ _ => trivial)); (case aO => exact (by (with_reducible repeat (first | apply Kd.Zs | apply Kd.Zt | apply Kd.Zr)); exact HO_5.out)); (case aS => exact (Zas (by repeat (first | (with_reducible first | exact HB.out | apply Ze | apply Zf | apply Zd) | exact HB.out)))); (case aL => have := LMc4.out; omega); intro v500 w5 ho hb hg hat; rw [← Ny499.out] at ho; have n0_ := Za.mk (hb); have n1_ := Za.mk (ho); clear HB; clear HO_5; have HB := n0_; have HO501 := n1_; clear n0_ n1_; clear ho hb hg hat))
     go_roundg k1
     case measure => have := HK1.out; omega
     case rel => exact ⟨(IntKind.u64.wrap (Int.tdiv x0_1 256)), (y499), (wrap64 (x6_1 + 1)), (by first | rfl | (simp; done) | (simp [*]; done)), (by first | rfl | (simp; done) | (simp [*]; done)), H', ⟨by have := HK1.out; omega⟩, ⟨by (with_reducible repeat (first | apply Kd.Zs | apply Kd.Zt | apply Kd.Zr)); exact HO501.out⟩, ⟨by repeat (first | (with_reducible first | exact HB.out | apply Ze | apply Zf | apply Zd) | exact HB.out)⟩⟩
    ·rw [if_neg c4] at H
     exact absurd H (by simp)
   ·rw [if_neg c3] at H
    have c3b0 : decide (x6_1 < a1) = false := decide_eq_false c3
    clear c3
    obtain rfl := Option.some.inj H
    go_wp2
    go_ret
    exact ⟨_, by first | rfl | (simp [Zo, Zp] <;> rfl) | (simp [*, Zo, Zp] <;> rfl), by (with_reducible repeat (first | apply Kd.Zs | apply Kd.Zt | apply Kd.Zr)); exact HO_5.out, by repeat (first | (with_reducible first | exact HB.out | apply Ze | apply Zf | apply Zd) | exact HB.out)⟩
def Zcf.f (s0_0 : List Int) (s0_1 : Int) : Option (Int × Int) := (Zar.f s0_0 s0_1).bind fun bt503 => (if bt503.1 < 100 then (some ((Int.tmod bt503.1 20) % 4294967296, bt503.2)) else (if bt503.1 < 130 then (some (shl .u32 1 ((Int.tmod bt503.1 32) % 4294967296), bt503.2)) else (if bt503.1 < 160 then (some (4294967295 - ((Int.tmod bt503.1 5) % 4294967296), bt503.2)) else (if bt503.1 < 190 then (some ((((2147483648 + ((Int.tmod bt503.1 3) % 4294967296)) % 4294967296) - 1) % 4294967296, bt503.2)) else ((Zar.f s0_0 bt503.2).bind fun bt505 => ((Zar.f s0_0 bt505.2).bind fun bt507 => (some ((((((((bt503.1) % 4294967296) * 16777619) % 4294967296) + ((((bt505.1) % 4294967296) * 65537) % 4294967296)) % 4294967296) + ((bt507.1) % 4294967296)) % 4294967296, bt507.2))))))))
set_option maxHeartbeats 8000000 in
set_option maxRecDepth 100000 in
theorem Zcf.calls (g : Nat) (s0_0 : List Int) (s0_1 : Int) (r1 : Int) (r2 : Int) (w0 w : World) (hI : Zc w0 w g s0_0 s0_1) (hB : Below w0.heap.size w0 w) (h : Zcf.f s0_0 s0_1 = some (r1, r2)) :
  Calls Try.prog 57 #[.pointer (some ⟨g, 0, none⟩)] w fun e w' => e = .returned (.int .u32 r1) ∧ Zc w0 w' g s0_0 r2 ∧ Below w0.heap.size w0 w' ∧ Zm w w' g none := by
 have HI0 := Za.mk hI
 have HK := Za.mk (Zm.refl w g none)
 have HL := Za.mk hB.size
 clear hI
 have HW0 := Za.mk hB.size
 have HB := Za.mk hB
 clear hB
 have H := h
 unfold Zcf.f at H
 clear h
 replace H := Option.bind_eq_some_iff.mp H
 obtain ⟨⟨t503, t504⟩, A20, H⟩ := H
 (try dsimp only at H)
 have A2 := Za.mk A20
 clear A20
 by_cases c3 : t503 < 100
 ·rw [if_pos c3] at H
  have c3b0 : decide (t503 < 100) = true := decide_eq_true c3
  clear c3
  simp only [Option.some.injEq, Prod.mk.injEq] at H
  obtain ⟨rfl, rfl⟩ := H
  go_enter Try.func57, Try.ntmps57
  go_wp2_with (first | ((with_reducible refine Zaf (f := 44) rfl ?_); refine Zae (some 7) rfl rfl Try.func44 (by kernel_rfl) rfl #[.pointer (some ⟨g, 0, none⟩)] rfl (by (try simp only [ZA, ZB, ZC]); first | done | rfl) ?_; (with_reducible refine (Zar.calls g s0_0 s0_1 t503 t504 w0 _ ?side1 ?side2 A2.out).mono ?_); (case side1 => repeat (first | (with_reducible first | exact HI0.out | apply Zc.alloc | apply Zc.drewN | apply Zc.drew | apply Zc.Zv) | exact HI0.out)); (case side2 => repeat (first | (with_reducible first | exact HB.out | apply Ze | apply Zf | apply Zd | refine Zk ?_ (Zc.ge HI0.out)) | exact HB.out)); rintro e w4 ⟨rfl, hi, hb, hk⟩; refine ⟨_, rfl, ?_⟩; replace HK := Za.mk (Zm.trans (by repeat (first | (with_reducible first | exact HK.out | apply Zm.set_ | apply Zaa | apply Zac | apply Zab) | exact HK.out)) hk (.inl rfl)); replace HB := Za.mk (hb); replace HI0 := Za.mk (hi); (try clear hb); (try clear hb2); (try clear hk); (try clear hi)))
  go_ret
  exact ⟨by first | rfl | (simp [Zo, Zp] <;> rfl) | (simp [*, Zo, Zp] <;> rfl), by repeat (first | (with_reducible first | exact HI0.out | apply Zc.alloc | apply Zc.drewN | apply Zc.drew | apply Zc.Zv) | exact HI0.out), by repeat (first | (with_reducible first | exact HB.out | apply Ze | apply Zf | apply Zd | refine Zk ?_ (Zc.ge HI0.out)) | exact HB.out), by repeat (first | (with_reducible first | exact HK.out | apply Zm.set_ | apply Zaa | apply Zac | apply Zab) | exact HK.out)⟩
 ·rw [if_neg c3] at H
  have c3b0 : decide (t503 < 100) = false := decide_eq_false c3
  clear c3
  by_cases c5 : t503 < 130
  ·rw [if_pos c5] at H
   have c5b0 : decide (t503 < 130) = true := decide_eq_true c5
   clear c5
   obtain ⟨ji6, hji6⟩ : ∃ j_ : Int, (shl .u32 1 ((Int.tmod t503 32) % 4294967296)) = j_ := ⟨_, rfl⟩
   replace H : (some (ji6, t504)) = some (r1, r2) := by first | (rw [hji6] at H; exact H) | (simp only [hji6] at H ⊢; exact H)
   (try rw [hji6] at A2)
   have hji6_ : (IntKind.u32.wrap (1 * 2 ^ min ((Int.tmod t503 32) % 4294967296).toNat 32)) = ji6 := hji6
   try have hji6n : 0 ≤ ((Int.tmod t503 32) % 4294967296) := by omega
   have hji6z : ((Int.tmod t503 32) % 4294967296) ≤ 32 → (IntKind.u32.wrap (1 * 2 ^ ((Int.tmod t503 32) % 4294967296).toNat)) = ji6 := shl_small hji6
   have hji6u : (IntKind.u32.wrap (2 ^ min ((Int.tmod t503 32) % 4294967296).toNat 32)) = ji6 := by have h_ := hji6_; rw [Int.one_mul] at h_; exact h_
   have hji6v : ((Int.tmod t503 32) % 4294967296) ≤ 32 → (IntKind.u32.wrap (2 ^ ((Int.tmod t503 32) % 4294967296).toNat)) = ji6 := fun hle_ => by have h_ := hji6z hle_; rw [Int.one_mul] at h_; exact h_
   simp only [Option.some.injEq, Prod.mk.injEq] at H
   obtain ⟨rfl, rfl⟩ := H
   go_enter Try.func57, Try.ntmps57
   go_wp2_with (first | ((with_reducible refine Zaf (f := 44) rfl ?_); refine Zae (some 7) rfl rfl Try.func44 (by kernel_rfl) rfl #[.pointer (some ⟨g, 0, none⟩)] rfl (by (try simp only [ZA, ZB, ZC]); first | done | rfl) ?_; (with_reducible refine (Zar.calls g s0_0 s0_1 t503 t504 w0 _ ?side1 ?side2 A2.out).mono ?_); (case side1 => repeat (first | (with_reducible first | exact HI0.out | apply Zc.alloc | apply Zc.drewN | apply Zc.drew | apply Zc.Zv) | exact HI0.out)); (case side2 => repeat (first | (with_reducible first | exact HB.out | apply Ze | apply Zf | apply Zd | refine Zk ?_ (Zc.ge HI0.out)) | exact HB.out)); rintro e w7 ⟨rfl, hi, hb, hk⟩; refine ⟨_, rfl, ?_⟩; replace HK := Za.mk (Zm.trans (by repeat (first | (with_reducible first | exact HK.out | apply Zm.set_ | apply Zaa | apply Zac | apply Zab) | exact HK.out)) hk (.inl rfl)); replace HB := Za.mk (hb); replace HI0 := Za.mk (hi); (try clear hb); (try clear hb2); (try clear hk); (try clear hi)))
   go_ret
   exact ⟨by first | rfl | (simp [Zo, Zp] <;> rfl) | (simp only [← hji6]; first | rfl | (simp [Zo, Zp] <;> rfl)) | (simp [*, Zo, Zp] <;> rfl), by repeat (first | (with_reducible first | exact HI0.out | apply Zc.alloc | apply Zc.drewN | apply Zc.drew | apply Zc.Zv) | exact HI0.out), by repeat (first | (with_reducible first | exact HB.out | apply Ze | apply Zf | apply Zd | refine Zk ?_ (Zc.ge HI0.out)) | exact HB.out), by repeat (first | (with_reducible first | exact HK.out | apply Zm.set_ | apply Zaa | apply Zac | apply Zab) | exact HK.out)⟩
  ·rw [if_neg c5] at H
   have c5b0 : decide (t503 < 130) = false := decide_eq_false c5
   clear c5
   by_cases c8 : t503 < 160
   ·rw [if_pos c8] at H
    have c8b0 : decide (t503 < 160) = true := decide_eq_true c8
    clear c8
    simp only [Option.some.injEq, Prod.mk.injEq] at H
    obtain ⟨rfl, rfl⟩ := H
    go_enter Try.func57, Try.ntmps57
    go_wp2_with (first | ((with_reducible refine Zaf (f := 44) rfl ?_); refine Zae (some 7) rfl rfl Try.func44 (by kernel_rfl) rfl #[.pointer (some ⟨g, 0, none⟩)] rfl (by (try simp only [ZA, ZB, ZC]); first | done | rfl) ?_; (with_reducible refine (Zar.calls g s0_0 s0_1 t503 t504 w0 _ ?side1 ?side2 A2.out).mono ?_); (case side1 => repeat (first | (with_reducible first | exact HI0.out | apply Zc.alloc | apply Zc.drewN | apply Zc.drew | apply Zc.Zv) | exact HI0.out)); (case side2 => repeat (first | (with_reducible first | exact HB.out | apply Ze | apply Zf | apply Zd | refine Zk ?_ (Zc.ge HI0.out)) | exact HB.out)); rintro e w9 ⟨rfl, hi, hb, hk⟩; refine ⟨_, rfl, ?_⟩; replace HK := Za.mk (Zm.trans (by repeat (first | (with_reducible first | exact HK.out | apply Zm.set_ | apply Zaa | apply Zac | apply Zab) | exact HK.out)) hk (.inl rfl)); replace HB := Za.mk (hb); replace HI0 := Za.mk (hi); (try clear hb); (try clear hb2); (try clear hk); (try clear hi)))
    go_ret
    exact ⟨by first | rfl | (simp [Zo, Zp] <;> rfl) | (simp [*, Zo, Zp] <;> rfl), by repeat (first | (with_reducible first | exact HI0.out | apply Zc.alloc | apply Zc.drewN | apply Zc.drew | apply Zc.Zv) | exact HI0.out), by repeat (first | (with_reducible first | exact HB.out | apply Ze | apply Zf | apply Zd | refine Zk ?_ (Zc.ge HI0.out)) | exact HB.out), by repeat (first | (with_reducible first | exact HK.out | apply Zm.set_ | apply Zaa | apply Zac | apply Zab) | exact HK.out)⟩
   ·rw [if_neg c8] at H
    have c8b0 : decide (t503 < 160) = false := decide_eq_false c8
    clear c8
    by_cases c10 : t503 < 190
    ·rw [if_pos c10] at H
     have c10b0 : decide (t503 < 190) = true := decide_eq_true c10
     clear c10
     simp only [Option.some.injEq, Prod.mk.injEq] at H
     obtain ⟨rfl, rfl⟩ := H
     go_enter Try.func57, Try.ntmps57
     go_wp2_with (first | ((with_reducible refine Zaf (f := 44) rfl ?_); refine Zae (some 7) rfl rfl Try.func44 (by kernel_rfl) rfl #[.pointer (some ⟨g, 0, none⟩)] rfl (by (try simp only [ZA, ZB, ZC]); first | done | rfl) ?_; (with_reducible refine (Zar.calls g s0_0 s0_1 t503 t504 w0 _ ?side1 ?side2 A2.out).mono ?_); (case side1 => repeat (first | (with_reducible first | exact HI0.out | apply Zc.alloc | apply Zc.drewN | apply Zc.drew | apply Zc.Zv) | exact HI0.out)); (case side2 => repeat (first | (with_reducible first | exact HB.out | apply Ze | apply Zf | apply Zd | refine Zk ?_ (Zc.ge HI0.out)) | exact HB.out)); rintro e w11 ⟨rfl, hi, hb, hk⟩; refine ⟨_, rfl, ?_⟩; replace HK := Za.mk (Zm.trans (by repeat (first | (with_reducible first | exact HK.out | apply Zm.set_ | apply Zaa | apply Zac | apply Zab) | exact HK.out)) hk (.inl rfl)); replace HB := Za.mk (hb); replace HI0 := Za.mk (hi); (try clear hb); (try clear hb2); (try clear hk); (try clear hi)))
     go_ret
     exact ⟨by first | rfl | (simp [Zo, Zp] <;> rfl) | (simp [*, Zo, Zp] <;> rfl), by repeat (first | (with_reducible first | exact HI0.out | apply Zc.alloc | apply Zc.drewN | apply Zc.drew | apply Zc.Zv) | exact HI0.out), by repeat (first | (with_reducible first | exact HB.out | apply Ze | apply Zf | apply Zd | refine Zk ?_ (Zc.ge HI0.out)) | exact HB.out), by repeat (first | (with_reducible first | exact HK.out | apply Zm.set_ | apply Zaa | apply Zac | apply Zab) | exact HK.out)⟩
    ·rw [if_neg c10] at H
     have c10b0 : decide (t503 < 190) = false := decide_eq_false c10
     clear c10
     replace H := Option.bind_eq_some_iff.mp H
     obtain ⟨⟨t505, t506⟩, A120, H⟩ := H
     (try dsimp only at H)
     have A12 := Za.mk A120
     clear A120
     replace H := Option.bind_eq_some_iff.mp H
     obtain ⟨⟨t507, t508⟩, A130, H⟩ := H
     (try dsimp only at H)
     have A13 := Za.mk A130
     clear A130
     simp only [Option.some.injEq, Prod.mk.injEq] at H
     obtain ⟨rfl, rfl⟩ := H
     go_enter Try.func57, Try.ntmps57
     go_wp2_with (first | ((with_reducible refine Zaf (f := 44) rfl ?_); refine Zae (some 7) rfl rfl Try.func44 (by kernel_rfl) rfl #[.pointer (some ⟨g, 0, none⟩)] rfl (by (try simp only [ZA, ZB, ZC]); first | done | rfl) ?_; (with_reducible refine (Zar.calls g s0_0 s0_1 t503 t504 w0 _ ?side1 ?side2 A2.out).mono ?_); (case side1 => repeat (first | (with_reducible first | exact HI0.out | apply Zc.alloc | apply Zc.drewN | apply Zc.drew | apply Zc.Zv) | exact HI0.out)); (case side2 => repeat (first | (with_reducible first | exact HB.out | apply Ze | apply Zf | apply Zd | refine Zk ?_ (Zc.ge HI0.out)) | exact HB.out)); rintro e w14 ⟨rfl, hi, hb, hk⟩; refine ⟨_, rfl, ?_⟩; replace HK := Za.mk (Zm.trans (by repeat (first | (with_reducible first | exact HK.out | apply Zm.set_ | apply Zaa | apply Zac | apply Zab) | exact HK.out)) hk (.inl rfl)); replace HB := Za.mk (hb); replace HI0 := Za.mk (hi); (try clear hb); (try clear hb2); (try clear hk); (try clear hi)) | ((with_reducible refine Zaf (f := 44) rfl ?_); refine Zae (some 33) rfl rfl Try.func44 (by kernel_rfl) rfl #[.pointer (some ⟨g, 0, none⟩)] rfl (by (try simp only [ZA, ZB, ZC]); first | done | rfl) ?_; (with_reducible refine (Zar.calls g s0_0 t504 t505 t506 w0 _ ?side1 ?side2 A12.out).mono ?_); (case side1 => repeat (first | (with_reducible first | exact HI0.out | apply Zc.alloc | apply Zc.drewN | apply Zc.drew | apply Zc.Zv) | exact HI0.out)); (case side2 => repeat (first | (with_reducible first | exact HB.out | apply Ze | apply Zf | apply Zd | refine Zk ?_ (Zc.ge HI0.out)) | exact HB.out)); rintro e w15 ⟨rfl, hi, hb, hk⟩; refine ⟨_, rfl, ?_⟩; replace HK := Za.mk (Zm.trans (by repeat (first | (with_reducible first | exact HK.out | apply Zm.set_ | apply Zaa | apply Zac | apply Zab) | exact HK.out)) hk (.inl rfl)); replace HB := Za.mk (hb); replace HI0 := Za.mk (hi); (try clear hb); (try clear hb2); (try clear hk); (try clear hi)) | ((with_reducible refine Zaf (f := 44) rfl ?_); refine Zae (some 35) rfl rfl Try.func44 (by kernel_rfl) rfl #[.pointer (some ⟨g, 0, none⟩)] rfl (by (try simp only [ZA, ZB, ZC]); first | done | rfl) ?_; (with_reducible refine (Zar.calls g s0_0 t506 t507 t508 w0 _ ?side1 ?side2 A13.out).mono ?_); (case side1 => repeat (first | (with_reducible first | exact HI0.out | apply Zc.alloc | apply Zc.drewN | apply Zc.drew | apply Zc.Zv) | exact HI0.out)); (case side2 => repeat (first | (with_reducible first | exact HB.out | apply Ze | apply Zf | apply Zd | refine Zk ?_ (Zc.ge HI0.out)) | exact HB.out)); rintro e w16 ⟨rfl, hi, hb, hk⟩; refine ⟨_, rfl, ?_⟩; replace HK := Za.mk (Zm.trans (by repeat (first | (with_reducible first | exact HK.out | apply Zm.set_ | apply Zaa | apply Zac | apply Zab) | exact HK.out)) hk (.inl rfl)); replace HB := Za.mk (hb); replace HI0 := Za.mk (hi); (try clear hb); (try clear hb2); (try clear hk); (try clear hi)))
     go_ret
     exact ⟨by first | rfl | (simp [Zo, Zp] <;> rfl) | (simp [*, Zo, Zp] <;> rfl), by repeat (first | (with_reducible first | exact HI0.out | apply Zc.alloc | apply Zc.drewN | apply Zc.drew | apply Zc.Zv) | exact HI0.out), by repeat (first | (with_reducible first | exact HB.out | apply Ze | apply Zf | apply Zd | refine Zk ?_ (Zc.ge HI0.out)) | exact HB.out), by repeat (first | (with_reducible first | exact HK.out | apply Zm.set_ | apply Zaa | apply Zac | apply Zab) | exact HK.out)⟩

end Go.Proofs.Ytgodbniphkfgfaa.P
