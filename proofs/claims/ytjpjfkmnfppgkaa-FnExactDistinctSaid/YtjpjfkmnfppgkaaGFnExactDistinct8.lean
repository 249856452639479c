import Derived.Test.YtjpjfkmnfppgkaaGFnExactDistinct6
namespace Go.Proofs.Ytjpjfkmnfppgkaa.P
open Go.RowKit Go.Proofs.YtjpjfkmnfppgkaaW.PrintWords Go.Proofs.YtjpjfkmnfppgkaaW.PrintLast Go.Proofs.YtjpjfkmnfppgkaaW.PrintMore
attribute [local go_sem] max2_int min2_int max_two min_two max_three min_three max_four min_four
set_option linter.unusedVariables false
set_option linter.unusedSimpArgs false

mutual
def Zag.l0 : Nat → Int → Int → Int → List Int → Int → Int → List Int → Option (Int)
  | 0, _, _, _, _, _, _, _ => none
  | k + 1, x5, x111000, x111001, x111002, x112000, x112001, x112002 => if x5 < (x111002.length : Int) then (Zag.j1 k x5 (decide (x5 < (x112002.length : Int))) x111000 x111001 x111002 x112000 x112001 x112002) else (Zag.j1 k x5 false x111000 x111001 x111002 x112000 x112001 x112002)
def Zag.j1 : Nat → Int → Bool → Int → Int → List Int → Int → Int → List Int → Option (Int)
  | 0, _, _, _, _, _, _, _, _ => none
  | k + 1, x5, x37, x111000, x111001, x111002, x112000, x112001, x112002 => if x37 = true then (if 0 ≤ x5 then (if x5 < (x111002.length : Int) then (if x5 < (x112002.length : Int) then (if (rd x111002 x5) < (rd x112002 x5) then (some (-1)) else (if (rd x111002 x5) > (rd x112002 x5) then (some 1) else (Zag.l0 k (wrap64 (x5 + 1)) x111000 x111001 x111002 x112000 x112001 x112002))) else (none)) else (none)) else (none)) else (if (x111002.length : Int) < (x112002.length : Int) then (some (-1)) else (if (x111002.length : Int) > (x112002.length : Int) then (some 1) else (some 0)))
end
def Zag.f (k : Nat) (a0_0 : Int) (a0_1 : Int) (l0_2 : List Int) (a1_0 : Int) (a1_1 : Int) (l1_2 : List Int) : Option (Int) := if a0_0 = a1_0 then (if a0_1 = a1_1 then (Zag.l0 k 0 a0_0 a0_1 l0_2 a1_0 a1_1 l1_2) else (if a0_1 < a1_1 then (some (-1)) else (some 1))) else (if a0_0 < a1_0 then (some (-1)) else (some 1))
set_option maxHeartbeats 8000000 in
set_option maxRecDepth 100000 in
theorem Zag.calls (k : Nat) (a0_0 : Int) (a0_1 : Int) (A0_2 : Option Addr) (c0_2 : Nat) (l0_2 : List Int) (a1_0 : Int) (a1_1 : Int) (A1_2 : Option Addr) (c1_2 : Nat) (l1_2 : List Int) (r : Int) (w : World) (hr0_2 : Kd.C (Kd.int .u64) w A0_2 l0_2.length l0_2) (hc0_2 : l0_2.length ≤ c0_2) (hr1_2 : Kd.C (Kd.int .u64) w A1_2 l1_2.length l1_2) (hc1_2 : l1_2.length ≤ c1_2) (h : Zag.f k a0_0 a0_1 l0_2 a1_0 a1_1 l1_2 = some r) :
  Calls Try.prog 13 #[.agg #[.int .u32 a0_0, .int .u32 a0_1, .slice A0_2 l0_2.length c0_2], .agg #[.int .u32 a1_0, .int .u32 a1_1, .slice A1_2 l1_2.length c1_2]] w fun e w' => e = .returned (.int .i64 r) ∧ Below w.heap.size w w' := by
 have hu35 := Try.underlying35
 have HR0_2 := Za.mk hr0_2
 have HC0_2 := Za.mk hc0_2
 clear hr0_2 hc0_2
 have HR1_2 := Za.mk hr1_2
 have HC1_2 := Za.mk hc1_2
 clear hr1_2 hc1_2
 have HB := Za.mk (Below.refl w.heap.size w)
 have H : (if a0_0 = a1_0 then (if a0_1 = a1_1 then (Zag.l0 k 0 a0_0 a0_1 l0_2 a1_0 a1_1 l1_2) else (if a0_1 < a1_1 then (some (-1)) else (some 1))) else (if a0_0 < a1_0 then (some (-1)) else (some 1))) = some r := h
 clear h
 by_cases c3 : a0_0 = a1_0
 ·rw [if_pos c3] at H
  have c3b0 : (a0_0 == a1_0) = true := beq_iff_eq.mpr c3
  have c3b1 : (a0_0 != a1_0) = false := bne_eq_false_iff_eq.mpr c3
  clear c3
  by_cases c4 : a0_1 = a1_1
  ·rw [if_pos c4] at H
   have c4b0 : (a0_1 == a1_1) = true := beq_iff_eq.mpr c4
   have c4b1 : (a0_1 != a1_1) = false := bne_eq_false_iff_eq.mpr c4
   clear c4
   have H' := Za.mk H
   clear H
   go_enter Try.func13, Try.ntmps13
   go_wp2_with (first | ((with_reducible refine Zab (N := 2) rfl ?_); (try (refine Zal (by rfl) ?_; dsimp only)); refine Zad ?hg (N := 2) ?hd (cs := #[.int .u32 a0_0, .int .u32 a0_1, .slice A0_2 l0_2.length c0_2]) (t := 35) ?hr ?_; (case hd => rfl); (case hg => rfl); (case hr => first | (go_simp; done) | (go_simp; rfl)); intro gb110 hg w5 hbox hb; have BK110 := Za.mk (hbox); have GW110 := Za.mk ((by rw [hg]; exact (Zr (by repeat (first | (with_reducible first | exact HB.out | apply Zd | apply Zf | apply Ze) | exact HB.out))) : w.heap.size ≤ gb110)); have GE110 := Za.mk ((by rw [hg]; exact (Zr (by repeat (first | (with_reducible first | exact HB.out | apply Zd | apply Zf | apply Ze) | exact HB.out))) : w.heap.size ≤ gb110)); replace HB := Za.mk (Zx (by repeat (first | (with_reducible first | exact HB.out | apply Zd | apply Zf | apply Ze) | exact HB.out)) hb); clear hb hbox hg) | ((with_reducible refine Zab (N := 3) rfl ?_); (try (refine Zal (by rfl) ?_; dsimp only)); refine Zad ?hg (N := 3) ?hd (cs := #[.int .u32 a1_0, .int .u32 a1_1, .slice A1_2 l1_2.length c1_2]) (t := 35) ?hr ?_; (case hd => rfl); (case hg => rfl); (case hr => first | (go_simp; done) | (go_simp; rfl)); intro gb111 hg w6 hbox hb; have BK111 := Za.mk (hbox); have GW111 := Za.mk ((by rw [hg]; exact (Zr (by repeat (first | (with_reducible first | exact HB.out | apply Zd | apply Zf | apply Ze | refine Zj ?_ GE110.out) | exact HB.out))) : w.heap.size ≤ gb111)); have GE111 := Za.mk ((by rw [hg]; exact (Zr (by repeat (first | (with_reducible first | exact HB.out | apply Zd | apply Zf | apply Ze | refine Zj ?_ GE110.out) | exact HB.out))) : w.heap.size ≤ gb111)); replace HB := Za.mk (Zx (by repeat (first | (with_reducible first | exact HB.out | apply Zd | apply Zf | apply Ze | refine Zj ?_ GE110.out) | exact HB.out)) hb); have NB110_111 := Za.mk ((by rw [hg]; exact Nat.ne_of_lt (Zaa (g := gb110) (o := .cells #[.int .u32 a0_0, .int .u32 a0_1, .slice A0_2 l0_2.length c0_2] 35 (0, 0)) (by (with_reducible repeat (first | refine Zo ?_ _ | refine Zm ?_ | refine Zn ?_ _)); exact BK110.out)) : gb110 ≠ gb111)); have NB111_110 := Za.mk ((by rw [hg]; exact Nat.ne_of_gt (Zaa (g := gb110) (o := .cells #[.int .u32 a0_0, .int .u32 a0_1, .slice A0_2 l0_2.length c0_2] 35 (0, 0)) (by (with_reducible repeat (first | refine Zo ?_ _ | refine Zm ?_ | refine Zn ?_ _)); exact BK110.out)) : gb111 ≠ gb110)); replace BK110 := Za.mk (Zak (g := gb110) (o := .cells #[.int .u32 a0_0, .int .u32 a0_1, .slice A0_2 l0_2.length c0_2] 35 (0, 0)) (by (with_reducible repeat (first | refine Zo ?_ _ | refine Zm ?_ | refine Zn ?_ _)); exact BK110.out) hb); clear hb hbox hg; have hnb7 := NB110_111.out; have hnc7 := NB111_110.out; have hcz8_0 : w6.cell? ⟨gb110, 0, none⟩ = some (.int .u32 a0_0) := (Zc BK110.out 0).trans rfl; have hcz8_1 : w6.cell? ⟨gb110, 1, none⟩ = some (.int .u32 a0_1) := (Zc BK110.out 1).trans rfl; have hcz8_2 : w6.cell? ⟨gb110, 2, none⟩ = some (.slice A0_2 l0_2.length c0_2) := (Zc BK110.out 2).trans rfl; have hfz8_0 := Zg BK110.out 0; have hfz8_1 := Zg BK110.out 1; have hfz8_2 := Zg BK110.out 2; have hcz9_0 : w6.cell? ⟨gb111, 0, none⟩ = some (.int .u32 a1_0) := (Zc BK111.out 0).trans rfl; have hcz9_1 : w6.cell? ⟨gb111, 1, none⟩ = some (.int .u32 a1_1) := (Zc BK111.out 1).trans rfl; have hcz9_2 : w6.cell? ⟨gb111, 2, none⟩ = some (.slice A1_2 l1_2.length c1_2) := (Zc BK111.out 2).trans rfl; have hfz9_0 := Zg BK111.out 0; have hfz9_1 := Zg BK111.out 1; have hfz9_2 := Zg BK111.out 2))
   repeat (go_quiet (first | ((with_reducible refine Zab (N := 2) rfl ?_); (try (refine Zal (by rfl) ?_; dsimp only)); refine Zad ?hg (N := 2) ?hd (cs := #[.int .u32 a0_0, .int .u32 a0_1, .slice A0_2 l0_2.length c0_2]) (t := 35) ?hr ?_; (case hd => rfl); (case hg => rfl); (case hr => first | (go_simp; done) | (go_simp; rfl)); intro gb110 hg w5 hbox hb; have n0_ := Za.mk (Zx (by repeat (first | (with_reducible first | exact HB.out | apply Zd | apply Zf | apply Ze) | exact HB.out)) hb); have n1_ := Za.mk (hbox); have n2_ := Za.mk ((by rw [hg]; exact (Zr (by repeat (first | (with_reducible first | exact HB.out | apply Zd | apply Zf | apply Ze) | exact HB.out))) : w.heap.size ≤ gb110)); have n3_ := Za.mk ((by rw [hg]; exact (Zr (by repeat (first | (with_reducible first | exact HB.out | apply Zd | apply Zf | apply Ze) | exact HB.out))) : w.heap.size ≤ gb110)); clear HB; have HB := n0_; have BK110 := n1_; have GW110 := n2_; have GE110 := n3_; clear n0_ n1_ n2_ n3_; clear hb hbox hg) | ((with_reducible refine Zab (N := 3) rfl ?_); (try (refine Zal (by rfl) ?_; dsimp only)); refine Zad ?hg (N := 3) ?hd (cs := #[.int .u32 a1_0, .int .u32 a1_1, .slice A1_2 l1_2.length c1_2]) (t := 35) ?hr ?_; (case hd => rfl); (case hg => rfl); (case hr => first | (go_simp; done) | (go_simp; rfl)); intro gb111 hg w6 hbox hb; have n0_ := Za.mk (Zak (g := gb110) (o := .cells #[.int .u32 a0_0, .int .u32 a0_1, .slice A0_2 l0_2.length c0_2] 35 (0, 0)) (by (with_reducible repeat (first | refine Zo ?_ _ | refine Zm ?_ | refine Zn ?_ _)); exact BK110.out) hb); have n1_ := Za.mk (Zx (by repeat (first | (with_reducible first | exact HB.out | apply Zd | apply Zf | apply Ze | refine Zj ?_ GE110.out) | exact HB.out)) hb); have n2_ := Za.mk (hbox); have n3_ := Za.mk ((by rw [hg]; exact (Zr (by repeat (first | (with_reducible first | exact HB.out | apply Zd | apply Zf | apply Ze | refine Zj ?_ GE110.out) | exact HB.out))) : w.heap.size ≤ gb111)); have n4_ := Za.mk ((by rw [hg]; exact (Zr (by repeat (first | (with_reducible first | exact HB.out | apply Zd | apply Zf | apply Ze | refine Zj ?_ GE110.out) | exact HB.out))) : w.heap.size ≤ gb111)); have n5_ := Za.mk ((by rw [hg]; exact Nat.ne_of_lt (Zaa (g := gb110) (o := .cells #[.int .u32 a0_0, .int .u32 a0_1, .slice A0_2 l0_2.length c0_2] 35 (0, 0)) (by (with_reducible repeat (first | refine Zo ?_ _ | refine Zm ?_ | refine Zn ?_ _)); exact BK110.out)) : gb110 ≠ gb111)); have n6_ := Za.mk ((by rw [hg]; exact Nat.ne_of_gt (Zaa (g := gb110) (o := .cells #[.int .u32 a0_0, .int .u32 a0_1, .slice A0_2 l0_2.length c0_2] 35 (0, 0)) (by (with_reducible repeat (first | refine Zo ?_ _ | refine Zm ?_ | refine Zn ?_ _)); exact BK110.out)) : gb111 ≠ gb110)); clear BK110; clear HB; have BK110 := n0_; have HB := n1_; have BK111 := n2_; have GW111 := n3_; have GE111 := n4_; have NB110_111 := n5_; have NB111_110 := n6_; clear n0_ n1_ n2_ n3_ n4_ n5_ n6_; clear hb hbox hg; have hnb7 := NB110_111.out; have hnc7 := NB111_110.out; have hcz8_0 : w6.cell? ⟨gb110, 0, none⟩ = some (.int .u32 a0_0) := (Zc BK110.out 0).trans rfl; have hcz8_1 : w6.cell? ⟨gb110, 1, none⟩ = some (.int .u32 a0_1) := (Zc BK110.out 1).trans rfl; have hcz8_2 : w6.cell? ⟨gb110, 2, none⟩ = some (.slice A0_2 l0_2.length c0_2) := (Zc BK110.out 2).trans rfl; have hfz8_0 := Zg BK110.out 0; have hfz8_1 := Zg BK110.out 1; have hfz8_2 := Zg BK110.out 2; have hcz9_0 : w6.cell? ⟨gb111, 0, none⟩ = some (.int .u32 a1_0) := (Zc BK111.out 0).trans rfl; have hcz9_1 : w6.cell? ⟨gb111, 1, none⟩ = some (.int .u32 a1_1) := (Zc BK111.out 1).trans rfl; have hcz9_2 : w6.cell? ⟨gb111, 2, none⟩ = some (.slice A1_2 l1_2.length c1_2) := (Zc BK111.out 2).trans rfl; have hfz9_0 := Zg BK111.out 0; have hfz9_1 := Zg BK111.out 1; have hfz9_2 := Zg BK111.out 2)); try go_wp2_with (first | ((with_reducible refine Zab (N := 2) rfl ?_); (try (refine Zal (by rfl) ?_; dsimp only)); refine Zad ?hg (N := 2) ?hd (cs := #[.int .u32 a0_0, .int .u32 a0_1, .slice A0_2 l0_2.length c0_2]) (t := 35) ?hr ?_; (case hd => rfl); (case hg => rfl); (case hr => first | (go_simp; done) | (go_simp; rfl)); intro gb110 hg w5 hbox hb; have n0_ := Za.mk (Zx (by repeat (first | (with_reducible first | exact HB.out | apply Zd | apply Zf | apply Ze) | exact HB.out)) hb); have n1_ := Za.mk (hbox); have n2_ := Za.mk ((by rw [hg]; exact (Zr (by repeat (first | (with_reducible first | exact HB.out | apply Zd | apply Zf | apply Ze) | exact HB.out))) : w.heap.size ≤ gb110)); have n3_ := Za.mk ((by rw [hg]; exact (Zr (by repeat (first | (with_reducible first | exact HB.out | apply Zd | apply Zf | apply Ze) | exact HB.out))) : w.heap.size ≤ gb110)); clear HB; have HB := n0_; have BK110 := n1_; have GW110 := n2_; have GE110 := n3_; clear n0_ n1_ n2_ n3_; clear hb hbox hg) | ((with_reducible refine Zab (N := 3) rfl ?_); (try (refine Zal (by rfl) ?_; dsimp only)); refine Zad ?hg (N := 3) ?hd (cs := #[.int .u32 a1_0, .int .u32 a1_1, .slice A1_2 l1_2.length c1_2]) (t := 35) ?hr ?_; (case hd => rfl); (case hg => rfl); (case hr => first | (go_simp; done) | (go_simp; rfl)); intro gb111 hg w6 hbox hb; have n0_ := Za.mk (Zak (g := gb110) (o := .cells #[.int .u32 a0_0, .int .u32 a0_1, .slice A0_2 l0_2.length c0_2] 35 (0, 0)) (by (with_reducible repeat (first | refine Zo ?_ _ | refine Zm ?_ | refine Zn ?_ _)); exact BK110.out) hb); have n1_ := Za.mk (Zx (by repeat (first | (with_reducible first | exact HB.out | apply Zd | apply Zf | apply Ze | refine Zj ?_ GE110.out) | exact HB.out)) hb); have n2_ := Za.mk (hbox); have n3_ := Za.mk ((by rw [hg]; exact (Zr (by repeat (first | (with_reducible first | exact HB.out | apply Zd | apply Zf | apply Ze | refine Zj ?_ GE110.out) | exact HB.out))) : w.heap.size ≤ gb111)); have n4_ := Za.mk ((by rw [hg]; exact (Zr (by repeat (first | (with_reducible first | exact HB.out | apply Zd | apply Zf | apply Ze | refine Zj ?_ GE110.out) | exact HB.out))) : w.heap.size ≤ gb111)); have n5_ := Za.mk ((by rw [hg]; exact Nat.ne_of_lt (Zaa (g := gb110) (o := .cells #[.int .u32 a0_0, .int .u32 a0_1, .slice A0_2 l0_2.length c0_2] 35 (0, 0)) (by (with_reducible repeat (first | refine Zo ?_ _ | refine Zm ?_ | refine Zn ?_ _)); exact BK110.out)) : gb110 ≠ gb111)); have n6_ := Za.mk ((by rw [hg]; exact Nat.ne_of_gt (Zaa (g := gb110) (o := .cells #[.int .u32 a0_0, .int .u32 a0_1, .slice A0_2 l0_2.length c0_2] 35 (0, 0)) (by (with_reducible repeat (first | refine Zo ?_ _ | refine Zm ?_ | refine Zn ?_ _)); exact BK110.out)) : gb111 ≠ gb110)); clear BK110; clear HB; have BK110 := n0_; have HB := n1_; have BK111 := n2_; have GW111 := n3_; have GE111 := n4_; have NB110_111 := n5_; have NB111_110 := n6_; clear n0_ n1_ n2_ n3_ n4_ n5_ n6_; clear hb hbox hg; have hnb7 := NB110_111.out; have hnc7 := NB111_110.out; have hcz8_0 : w6.cell? ⟨gb110, 0, none⟩ = some (.int .u32 a0_0) := (Zc BK110.out 0).trans rfl; have hcz8_1 : w6.cell? ⟨gb110, 1, none⟩ = some (.int .u32 a0_1) := (Zc BK110.out 1).trans rfl; have hcz8_2 : w6.cell? ⟨gb110, 2, none⟩ = some (.slice A0_2 l0_2.length c0_2) := (Zc BK110.out 2).trans rfl; have hfz8_0 := Zg BK110.out 0; have hfz8_1 := Zg BK110.out 1; have hfz8_2 := Zg BK110.out 2; have hcz9_0 : w6.cell? ⟨gb111, 0, none⟩ = some (.int .u32 a1_0) := (Zc BK111.out 0).trans rfl; have hcz9_1 : w6.cell? ⟨gb111, 1, none⟩ = some (.int .u32 a1_1) := (Zc BK111.out 1).trans rfl; have hcz9_2 : w6.cell? ⟨gb111, 2, none⟩ = some (.slice A1_2 l1_2.length c1_2) := (Zc BK111.out 2).trans rfl; have hfz9_0 := Zg BK111.out 0; have hfz9_1 := Zg BK111.out 1; have hfz9_2 := Zg BK111.out 2)))
   go_loopg [5] k (fun kq v5 w' => ∃ (x5_1 : Int), v5 = .int .i64 x5_1 ∧ Za (Zag.l0 kq x5_1 a0_0 a0_1 l0_2 a1_0 a1_1 l1_2 = some r) ∧ Za (kq ≤ k) ∧ Za (w'.heap[gb110]? = some (.cells #[.int .u32 a0_0, .int .u32 a0_1, (.slice A0_2 l0_2.length c0_2)] 35 (0, 0))) ∧ Za (w'.heap[gb111]? = some (.cells #[.int .u32 a1_0, .int .u32 a1_1, (.slice A1_2 l1_2.length c1_2)] 35 (0, 0))) ∧ Za (Below w.heap.size w w'))
   case atStart => exact ⟨(0), (by first | rfl | (simp; done) | (simp [*]; done)), H', ⟨Nat.le_refl _⟩, ⟨by (with_reducible repeat (first | refine Zo ?_ _ | refine Zm ?_ | refine Zn ?_ _)); exact BK110.out⟩, ⟨by (with_reducible repeat (first | refine Zo ?_ _ | refine Zm ?_ | refine Zn ?_ _)); exact BK111.out⟩, ⟨by repeat (first | (with_reducible first | exact HB.out | apply Zd | apply Zf | apply Ze | refine Zj ?_ GE110.out | refine Zj ?_ GE111.out) | exact HB.out)⟩⟩
   case round =>
    clear H'
    try clear c1
    try clear p2
    try clear c3
    try clear c3b0
    try clear c3b1
    try clear c4
    try clear c4b0
    try clear c4b1
    try clear c7
    try clear hcz8_0
    try clear hcz8_1
    try clear hcz8_2
    try clear hcz9_0
    try clear hcz9_1
    try clear hcz9_2
    try clear hfz8_0
    try clear hfz8_1
    try clear hfz8_2
    try clear hfz9_0
    try clear hfz9_1
    try clear hfz9_2
    obtain ⟨x5_1, rfl, HA, HK1, BK110, BK111, HB⟩ := hrel
    cases gk with
    | zero => exact absurd HA.out (by simp [Zag.l0])
    | succ k1 =>
     have H := HA.out
     clear HA
     simp only [Zag.l0] at H
     have HC10 := Za.mk H
     clear H
     go_upto_region 10 with (fail)
     repeat (go_quiet (fail); go_upto_region 10 with (fail))
     go_cut [37] (fun v37 wc => ∃ (kq : Nat) (x37_9 : Bool), v37 = .bool x37_9 ∧ Za (Zag.j1 kq x5_1 x37_9 a0_0 a0_1 l0_2 a1_0 a1_1 l1_2 = some r) ∧ Za (kq ≤ k1) ∧ Za (wc.heap[gb110]? = some (.cells #[.int .u32 a0_0, .int .u32 a0_1, (.slice A0_2 l0_2.length c0_2)] 35 (0, 0))) ∧ Za (wc.heap[gb111]? = some (.cells #[.int .u32 a1_0, .int .u32 a1_1, (.slice A1_2 l1_2.length c1_2)] 35 (0, 0))) ∧ Za (Below w.heap.size w wc))
     case first =>
      have H := HC10.out
      clear HC10
      by_cases c11 : x5_1 < (l0_2.length : Int)
      ·rw [if_pos c11] at H
       have c11b0 : decide (x5_1 < (l0_2.length : Int)) = true := decide_eq_true c11
       clear c11
       (first | rw [c11b0] | (simp only [Zh, Zi]; rw [c11b0]) | skip)
       have H' := Za.mk H
       clear H
       have hnb12 := NB110_111.out
       have hnc12 := NB111_110.out
       have hcz13_0 : wr.cell? ⟨gb110, 0, none⟩ = some (.int .u32 a0_0) := (Zc BK110.out 0).trans rfl
       have hcz13_1 : wr.cell? ⟨gb110, 1, none⟩ = some (.int .u32 a0_1) := (Zc BK110.out 1).trans rfl
       have hcz13_2 : wr.cell? ⟨gb110, 2, none⟩ = some (.slice A0_2 l0_2.length c0_2) := (Zc BK110.out 2).trans rfl
       have hfz13_0 := Zg BK110.out 0
       have hfz13_1 := Zg BK110.out 1
       have hfz13_2 := Zg BK110.out 2
       have hcz14_0 : wr.cell? ⟨gb111, 0, none⟩ = some (.int .u32 a1_0) := (Zc BK111.out 0).trans rfl
       have hcz14_1 : wr.cell? ⟨gb111, 1, none⟩ = some (.int .u32 a1_1) := (Zc BK111.out 1).trans rfl
       have hcz14_2 : wr.cell? ⟨gb111, 2, none⟩ = some (.slice A1_2 l1_2.length c1_2) := (Zc BK111.out 2).trans rfl
       have hfz14_0 := Zg BK111.out 0
       have hfz14_1 := Zg BK111.out 1
       have hfz14_2 := Zg BK111.out 2
       go_wp2
       repeat (go_quiet (fail); try go_wp2)
       go_meet
       case rel => exact ⟨_, (decide (x5_1 < (l1_2.length : Int))), (by first | rfl | (simp; done) | (simp [*]; done)), H', ⟨by have := HK1.out; first | omega | exact Nat.le_refl _⟩, ⟨by (with_reducible repeat (first | refine Zo ?_ _ | refine Zm ?_ | refine Zn ?_ _)); exact BK110.out⟩, ⟨by (with_reducible repeat (first | refine Zo ?_ _ | refine Zm ?_ | refine Zn ?_ _)); exact BK111.out⟩, ⟨by repeat (first | (with_reducible first | exact HB.out | apply Zd | apply Zf | apply Ze | refine Zj ?_ GE110.out | refine Zj ?_ GE111.out) | exact HB.out)⟩⟩
      ·rw [if_neg c11] at H
       have c11b0 : decide (x5_1 < (l0_2.length : Int)) = false := decide_eq_false c11
       clear c11
       (first | rw [c11b0] | (simp only [Zh, Zi]; rw [c11b0]) | skip)
       have H' := Za.mk H
       clear H
       have hnb15 := NB110_111.out
       have hnc15 := NB111_110.out
       have hcz16_0 : wr.cell? ⟨gb110, 0, none⟩ = some (.int .u32 a0_0) := (Zc BK110.out 0).trans rfl
       have hcz16_1 : wr.cell? ⟨gb110, 1, none⟩ = some (.int .u32 a0_1) := (Zc BK110.out 1).trans rfl
       have hcz16_2 : wr.cell? ⟨gb110, 2, none⟩ = some (.slice A0_2 l0_2.length c0_2) := (Zc BK110.out 2).trans rfl
       have hfz16_0 := Zg BK110.out 0
       have hfz16_1 := Zg BK110.out 1
       have hfz16_2 := Zg BK110.out 2
       go_wp2
       repeat (go_quiet (fail); try go_wp2)
       go_meet
       case rel => exact ⟨_, (false), (by first | rfl | (simp; done) | (simp [*]; done)), H', ⟨by have := HK1.out; first | omega | exact Nat.le_refl _⟩, ⟨by (with_reducible repeat (first | refine Zo ?_ _ | refine Zm ?_ | refine Zn ?_ _)); exact BK110.out⟩, ⟨by (with_reducible repeat (first | refine Zo ?_ _ | refine Zm ?_ | refine Zn ?_ _)); exact BK111.out⟩, ⟨by repeat (first | (with_reducible first | exact HB.out | apply Zd | apply Zf | apply Ze | refine Zj ?_ GE110.out | refine Zj ?_ GE111.out) | exact HB.out)⟩⟩
     case rest =>
      clear HC10
      try clear c1
      try clear p2
      try clear c3
      try clear c3b0
      try clear c3b1
      try clear c4
      try clear c4b0
      try clear c4b1
      try clear c7
      try clear c11
      try clear c11b0
      try clear c12
      try clear c13
      try clear c15
      try clear hcz13_0
      try clear hcz13_1
      try clear hcz13_2
      try clear hcz14_0
      try clear hcz14_1
      try clear hcz14_2
      try clear hcz16_0
      try clear hcz16_1
      try clear hcz16_2
      try clear hcz8_0
      try clear hcz8_1
      try clear hcz8_2
      try clear hcz9_0
      try clear hcz9_1
      try clear hcz9_2
      try clear hfz13_0
      try clear hfz13_1
      try clear hfz13_2
      try clear hfz14_0
      try clear hfz14_1
      try clear hfz14_2
      try clear hfz16_0
      try clear hfz16_1
      try clear hfz16_2
      try clear hfz8_0
      try clear hfz8_1
      try clear hfz8_2
      try clear hfz9_0
      try clear hfz9_1
      try clear hfz9_2
      try clear p2
      obtain ⟨kq, x37_9, rfl, HA, HJ9, BK110, BK111, HB⟩ := hcut
      cases kq with
      | zero => exact absurd HA.out (by simp [Zag.j1])
      | succ kj9 =>
       have H := HA.out
       clear HA
       simp only [Zag.j1] at H
       by_cases c17 : x37_9 = true
       ·subst c17
        have H1 : (if 0 ≤ x5_1 then (if x5_1 < (l0_2.length : Int) then (if x5_1 < (l1_2.length : Int) then (if (rd l0_2 x5_1) < (rd l1_2 x5_1) then (some (-1)) else (if (rd l0_2 x5_1) > (rd l1_2 x5_1) then (some 1) else (Zag.l0 kj9 (wrap64 (x5_1 + 1)) a0_0 a0_1 l0_2 a1_0 a1_1 l1_2))) else (none)) else (none)) else (none)) = some r := by rw [if_pos rfl] at H; exact H
        clear H
        have H := H1
        clear H1
        by_cases c18 : 0 ≤ x5_1
        ·rw [if_pos c18] at H
         have c18b0 : decide (0 ≤ x5_1) = true := decide_eq_true c18
         clear c18
         by_cases c19 : x5_1 < (l0_2.length : Int)
         ·rw [if_pos c19] at H
          have c19b0 : decide (x5_1 < (l0_2.length : Int)) = true := decide_eq_true c19
          clear c19
          by_cases c20 : x5_1 < (l1_2.length : Int)
          ·rw [if_pos c20] at H
           have c20b0 : decide (x5_1 < (l1_2.length : Int)) = true := decide_eq_true c20
           clear c20
           by_cases c21 : (rd l0_2 x5_1) < (rd l1_2 x5_1)
           ·rw [if_pos c21] at H
            have c21b0 : decide ((rd l0_2 x5_1) < (rd l1_2 x5_1)) = true := decide_eq_true c21
            clear c21
            obtain rfl := Option.some.inj H
            have hnb22 := NB110_111.out
            have hnc22 := NB111_110.out
            have hcz23_0 : wc.cell? ⟨gb110, 0, none⟩ = some (.int .u32 a0_0) := (Zc BK110.out 0).trans rfl
            have hcz23_1 : wc.cell? ⟨gb110, 1, none⟩ = some (.int .u32 a0_1) := (Zc BK110.out 1).trans rfl
            have hcz23_2 : wc.cell? ⟨gb110, 2, none⟩ = some (.slice A0_2 l0_2.length c0_2) := (Zc BK110.out 2).trans rfl
            have hfz23_0 := Zg BK110.out 0
            have hfz23_1 := Zg BK110.out 1
            have hfz23_2 := Zg BK110.out 2
            have p112 : 0 ≤ (x5_1 : Int) := of_decide_eq_true (by assumption)
            have q112 : x5_1 < (l0_2.length : Int) := of_decide_eq_true (by assumption)
            obtain ⟨ad112, e112, hx112_0⟩ := Kd.at_int HR0_2.out x5_1 p112 q112
            cases e112
            replace hx112_0 := (HB.out.cell (World.block_lt_of_cell? w _ hx112_0)).trans hx112_0
            replace p112 := eq_true p112
            replace q112 := eq_true q112
            have hcz24_0 : wc.cell? ⟨gb111, 0, none⟩ = some (.int .u32 a1_0) := (Zc BK111.out 0).trans rfl
            have hcz24_1 : wc.cell? ⟨gb111, 1, none⟩ = some (.int .u32 a1_1) := (Zc BK111.out 1).trans rfl
            have hcz24_2 : wc.cell? ⟨gb111, 2, none⟩ = some (.slice A1_2 l1_2.length c1_2) := (Zc BK111.out 2).trans rfl
            have hfz24_0 := Zg BK111.out 0
            have hfz24_1 := Zg BK111.out 1
            have hfz24_2 := Zg BK111.out 2
            have p113 : 0 ≤ (x5_1 : Int) := of_decide_eq_true (by assumption)
            have q113 : x5_1 < (l1_2.length : Int) := of_decide_eq_true (by assumption)
            obtain ⟨ad113, e113, hx113_0⟩ := Kd.at_int HR1_2.out x5_1 p113 q113
            cases e113
            replace hx113_0 := (HB.out.cell (World.block_lt_of_cell? w _ hx113_0)).trans hx113_0
            replace p113 := eq_true p113
            replace q113 := eq_true q113
            go_wp2
            repeat (go_quiet (fail); try go_wp2)
            go_ret
            exact ⟨by first | rfl | (simp [Zy, Zz] <;> rfl) | (simp [*, Zy, Zz] <;> rfl), by repeat (first | (with_reducible first | exact HB.out | apply Zd | apply Zf | apply Ze | refine Zj ?_ GE110.out | refine Zj ?_ GE111.out) | exact HB.out)⟩
           ·rw [if_neg c21] at H
            have c21b0 : decide ((rd l0_2 x5_1) < (rd l1_2 x5_1)) = false := decide_eq_false c21
            clear c21
            by_cases c25 : (rd l0_2 x5_1) > (rd l1_2 x5_1)
            ·rw [if_pos c25] at H
             have c25b0 : decide ((rd l1_2 x5_1) < (rd l0_2 x5_1)) = true := decide_eq_true c25
             clear c25
             obtain rfl := Option.some.inj H
             have hnb26 := NB110_111.out
             have hnc26 := NB111_110.out
             have hcz27_0 : wc.cell? ⟨gb110, 0, none⟩ = some (.int .u32 a0_0) := (Zc BK110.out 0).trans rfl
             have hcz27_1 : wc.cell? ⟨gb110, 1, none⟩ = some (.int .u32 a0_1) := (Zc BK110.out 1).trans rfl
             have hcz27_2 : wc.cell? ⟨gb110, 2, none⟩ = some (.slice A0_2 l0_2.length c0_2) := (Zc BK110.out 2).trans rfl
             have hfz27_0 := Zg BK110.out 0
             have hfz27_1 := Zg BK110.out 1
             have hfz27_2 := Zg BK110.out 2
             have p112 : 0 ≤ (x5_1 : Int) := of_decide_eq_true (by assumption)
             have q112 : x5_1 < (l0_2.length : Int) := of_decide_eq_true (by assumption)
             obtain ⟨ad112, e112, hx112_0⟩ := Kd.at_int HR0_2.out x5_1 p112 q112
             cases e112
             replace hx112_0 := (HB.out.cell (World.block_lt_of_cell? w _ hx112_0)).trans hx112_0
             replace p112 := eq_true p112
             replace q112 := eq_true q112
             have hcz28_0 : wc.cell? ⟨gb111, 0, none⟩ = some (.int .u32 a1_0) := (Zc BK111.out 0).trans rfl
             have hcz28_1 : wc.cell? ⟨gb111, 1, none⟩ = some (.int .u32 a1_1) := (Zc BK111.out 1).trans rfl
             have hcz28_2 : wc.cell? ⟨gb111, 2, none⟩ = some (.slice A1_2 l1_2.length c1_2) := (Zc BK111.out 2).trans rfl
             have hfz28_0 := Zg BK111.out 0
             have hfz28_1 := Zg BK111.out 1
             have hfz28_2 := Zg BK111.out 2
             have p113 : 0 ≤ (x5_1 : Int) := of_decide_eq_true (by assumption)
             have q113 : x5_1 < (l1_2.length : Int) := of_decide_eq_true (by assumption)
             obtain ⟨ad113, e113, hx113_0⟩ := Kd.at_int HR1_2.out x5_1 p113 q113
             cases e113
             replace hx113_0 := (HB.out.cell (World.block_lt_of_cell? w _ hx113_0)).trans hx113_0
             replace p113 := eq_true p113
             replace q113 := eq_true q113
             have p114 : 0 ≤ (x5_1 : Int) := of_decide_eq_true (by assumption)
             have q114 : x5_1 < (l0_2.length : Int) := of_decide_eq_true (by assumption)
             obtain ⟨ad114, e114, hx114_0⟩ := Kd.at_int HR0_2.out x5_1 p114 q114
             obtain rfl : ad112 = ad114 := (by injection e114)
             replace hx114_0 := (HB.out.cell (World.block_lt_of_cell? w _ hx114_0)).trans hx114_0
             replace p114 := eq_true p114
             replace q114 := eq_true q114
             have p115 : 0 ≤ (x5_1 : Int) := of_decide_eq_true (by assumption)
             have q115 : x5_1 < (l1_2.length : Int) := of_decide_eq_true (by assumption)
             obtain ⟨ad115, e115, hx115_0⟩ := Kd.at_int HR1_2.out x5_1 p115 q115
             obtain rfl : ad113 = ad115 := (by injection e115)
             replace hx115_0 := (HB.out.cell (World.block_lt_of_cell? w _ hx115_0)).trans hx115_0
             replace p115 := eq_true p115
             replace q115 := eq_true q115
             go_wp2
             repeat (go_quiet (fail); try go_wp2)
             go_ret
             exact ⟨by first | rfl | (simp [Zy, Zz] <;> rfl) | (simp [*, Zy, Zz] <;> rfl), by repeat (first | (with_reducible first | exact HB.out | apply Zd | apply Zf | apply Ze | refine Zj ?_ GE110.out | refine Zj ?_ GE111.out) | exact HB.out)⟩
            ·rw [if_neg c25] at H
             have c25b0 : decide ((rd l1_2 x5_1) < (rd l0_2 x5_1)) = false := decide_eq_false c25
             clear c25
             have H' := Za.mk H
             clear H
             have hnb29 := NB110_111.out
             have hnc29 := NB111_110.out
             have hcz30_0 : wc.cell? ⟨gb110, 0, none⟩ = some (.int .u32 a0_0) := (Zc BK110.out 0).trans rfl
             have hcz30_1 : wc.cell? ⟨gb110, 1, none⟩ = some (.int .u32 a0_1) := (Zc BK110.out 1).trans rfl
             have hcz30_2 : wc.cell? ⟨gb110, 2, none⟩ = some (.slice A0_2 l0_2.length c0_2) := (Zc BK110.out 2).trans rfl
             have hfz30_0 := Zg BK110.out 0
             have hfz30_1 := Zg BK110.out 1
             have hfz30_2 := Zg BK110.out 2
             have p112 : 0 ≤ (x5_1 : Int) := of_decide_eq_true (by assumption)
             have q112 : x5_1 < (l0_2.length : Int) := of_decide_eq_true (by assumption)
             obtain ⟨ad112, e112, hx112_0⟩ := Kd.at_int HR0_2.out x5_1 p112 q112
             cases e112
             replace hx112_0 := (HB.out.cell (World.block_lt_of_cell? w _ hx112_0)).trans hx112_0
             replace p112 := eq_true p112
             replace q112 := eq_true q112
             have hcz31_0 : wc.cell? ⟨gb111, 0, none⟩ = some (.int .u32 a1_0) := (Zc BK111.out 0).trans rfl
             have hcz31_1 : wc.cell? ⟨gb111, 1, none⟩ = some (.int .u32 a1_1) := (Zc BK111.out 1).trans rfl
             have hcz31_2 : wc.cell? ⟨gb111, 2, none⟩ = some (.slice A1_2 l1_2.length c1_2) := (Zc BK111.out 2).trans rfl
             have hfz31_0 := Zg BK111.out 0
             have hfz31_1 := Zg BK111.out 1
             have hfz31_2 := Zg BK111.out 2
             have p113 : 0 ≤ (x5_1 : Int) := of_decide_eq_true (by assumption)
             have q113 : x5_1 < (l1_2.length : Int) := of_decide_eq_true (by assumption)
             obtain ⟨ad113, e113, hx113_0⟩ := Kd.at_int HR1_2.out x5_1 p113 q113
             cases e113
             replace hx113_0 := (HB.out.cell (World.block_lt_of_cell? w _ hx113_0)).trans hx113_0
             replace p113 := eq_true p113
             replace q113 := eq_true q113
             have p114 : 0 ≤ (x5_1 : Int) := of_decide_eq_true (by assumption)
             have q114 : x5_1 < (l0_2.length : Int) := of_decide_eq_true (by assumption)
             obtain ⟨ad114, e114, hx114_0⟩ := Kd.at_int HR0_2.out x5_1 p114 q114
             obtain rfl : ad112 = ad114 := (by injection e114)
             replace hx114_0 := (HB.out.cell (World.block_lt_of_cell? w _ hx114_0)).trans hx114_0
             replace p114 := eq_true p114
             replace q114 := eq_true q114
             have p115 : 0 ≤ (x5_1 : Int) := of_decide_eq_true (by assumption)
             have q115 : x5_1 < (l1_2.length : Int) := of_decide_eq_true (by assumption)
             obtain ⟨ad115, e115, hx115_0⟩ := Kd.at_int HR1_2.out x5_1 p115 q115
             obtain rfl : ad113 = ad115 := (by injection e115)
             replace hx115_0 := (HB.out.cell (World.block_lt_of_cell? w _ hx115_0)).trans hx115_0
             replace p115 := eq_true p115
             replace q115 := eq_true q115
             go_wp2
             repeat (go_quiet (fail); try go_wp2)
             go_roundg kj9
             case measure => have := HK1.out; have := HJ9.out; omega
             case rel => exact ⟨(wrap64 (x5_1 + 1)), (by first | rfl | (simp; done) | (simp [*]; done)), H', ⟨by have := HK1.out; have := HJ9.out; omega⟩, ⟨by (with_reducible repeat (first | refine Zo ?_ _ | refine Zm ?_ | refine Zn ?_ _)); exact BK110.out⟩, ⟨by (with_reducible repeat (first | refine Zo ?_ _ | refine Zm ?_ | refine Zn ?_ _)); exact BK111.out⟩, ⟨by repeat (first | (with_reducible first | exact HB.out | apply Zd | apply Zf | apply Ze | refine Zj ?_ GE110.out | refine Zj ?_ GE111.out) | exact HB.out)⟩⟩
          ·rw [if_neg c20] at H
           exact absurd H (by simp)
         ·rw [if_neg c19] at H
          exact absurd H (by simp)
        ·rw [if_neg c18] at H
         exact absurd H (by simp)
       ·replace c17 := Bool.eq_false_iff.mpr c17
        subst c17
        have H1 : (if (l0_2.length : Int) < (l1_2.length : Int) then (some (-1)) else (if (l0_2.length : Int) > (l1_2.length : Int) then (some 1) else (some 0))) = some r := by rw [if_neg (show ¬ (false = true) by decide)] at H; exact H
        clear H
        have H := H1
        clear H1
        by_cases c32 : (l0_2.length : Int) < (l1_2.length : Int)
        ·rw [if_pos c32] at H
         have c32b0 : decide ((l0_2.length : Int) < (l1_2.length : Int)) = true := decide_eq_true c32
         have c32b1 : decide (l0_2.length < l1_2.length) = true := decide_eq_true (Int.ofNat_lt.mp c32)
         clear c32
         obtain rfl := Option.some.inj H
         have hnb33 := NB110_111.out
         have hnc33 := NB111_110.out
         have hcz34_0 : wc.cell? ⟨gb110, 0, none⟩ = some (.int .u32 a0_0) := (Zc BK110.out 0).trans rfl
         have hcz34_1 : wc.cell? ⟨gb110, 1, none⟩ = some (.int .u32 a0_1) := (Zc BK110.out 1).trans rfl
         have hcz34_2 : wc.cell? ⟨gb110, 2, none⟩ = some (.slice A0_2 l0_2.length c0_2) := (Zc BK110.out 2).trans rfl
         have hfz34_0 := Zg BK110.out 0
         have hfz34_1 := Zg BK110.out 1
         have hfz34_2 := Zg BK110.out 2
         have hcz35_0 : wc.cell? ⟨gb111, 0, none⟩ = some (.int .u32 a1_0) := (Zc BK111.out 0).trans rfl
         have hcz35_1 : wc.cell? ⟨gb111, 1, none⟩ = some (.int .u32 a1_1) := (Zc BK111.out 1).trans rfl
         have hcz35_2 : wc.cell? ⟨gb111, 2, none⟩ = some (.slice A1_2 l1_2.length c1_2) := (Zc BK111.out 2).trans rfl
         have hfz35_0 := Zg BK111.out 0
         have hfz35_1 := Zg BK111.out 1
         have hfz35_2 := Zg BK111.out 2
         go_wp2
         repeat (go_quiet (fail); try go_wp2)
         go_ret
         exact ⟨by first | rfl | (simp [Zy, Zz] <;> rfl) | (simp [*, Zy, Zz] <;> rfl), by repeat (first | (with_reducible first | exact HB.out | apply Zd | apply Zf | apply Ze | refine Zj ?_ GE110.out | refine Zj ?_ GE111.out) | exact HB.out)⟩
        ·rw [if_neg c32] at H
         have c32b0 : decide ((l0_2.length : Int) < (l1_2.length : Int)) = false := decide_eq_false c32
         have c32b1 : decide (l0_2.length < l1_2.length) = false := decide_eq_false (fun h => c32 (Int.ofNat_lt.mpr h))
         clear c32
         by_cases c36 : (l0_2.length : Int) > (l1_2.length : Int)
         ·rw [if_pos c36] at H
          have c36b0 : decide ((l1_2.length : Int) < (l0_2.length : Int)) = true := decide_eq_true c36
          have c36b1 : decide (l1_2.length < l0_2.length) = true := decide_eq_true (Int.ofNat_lt.mp c36)
          clear c36
          obtain rfl := Option.some.inj H
          have hnb37 := NB110_111.out
          have hnc37 := NB111_110.out
          have hcz38_0 : wc.cell? ⟨gb110, 0, none⟩ = some (.int .u32 a0_0) := (Zc BK110.out 0).trans rfl
          have hcz38_1 : wc.cell? ⟨gb110, 1, none⟩ = some (.int .u32 a0_1) := (Zc BK110.out 1).trans rfl
          have hcz38_2 : wc.cell? ⟨gb110, 2, none⟩ = some (.slice A0_2 l0_2.length c0_2) := (Zc BK110.out 2).trans rfl
          have hfz38_0 := Zg BK110.out 0
          have hfz38_1 := Zg BK110.out 1
          have hfz38_2 := Zg BK110.out 2
          have hcz39_0 : wc.cell? ⟨gb111, 0, none⟩ = some (.int .u32 a1_0) := (Zc BK111.out 0).trans rfl
          have hcz39_1 : wc.cell? ⟨gb111, 1, none⟩ = some (.int .u32 a1_1) := (Zc BK111.out 1).trans rfl
          have hcz39_2 : wc.cell? ⟨gb111, 2, none⟩ = some (.slice A1_2 l1_2.length c1_2) := (Zc BK111.out 2).trans rfl
          have hfz39_0 := Zg BK111.out 0
          have hfz39_1 := Zg BK111.out 1
          have hfz39_2 := Zg BK111.out 2
          go_wp2
          repeat (go_quiet (fail); try go_wp2)
          go_ret
          exact ⟨by first | rfl | (simp [Zy, Zz] <;> rfl) | (simp [*, Zy, Zz] <;> rfl), by repeat (first | (with_reducible first | exact HB.out | apply Zd | apply Zf | apply Ze | refine Zj ?_ GE110.out | refine Zj ?_ GE111.out) | exact HB.out)⟩
         ·rw [if_neg c36] at H
          have c36b0 : decide ((l1_2.length : Int) < (l0_2.length : Int)) = false := decide_eq_false c36
          have c36b1 : decide (l1_2.length < l0_2.length) = false := decide_eq_false (fun h => c36 (Int.ofNat_lt.mpr h))
          clear c36
          obtain rfl := Option.some.inj H
          have hnb40 := NB110_111.out
          have hnc40 := NB111_110.out
          have hcz41_0 : wc.cell? ⟨gb110, 0, none⟩ = some (.int .u32 a0_0) := (Zc BK110.out 0).trans rfl
          have hcz41_1 : wc.cell? ⟨gb110, 1, none⟩ = some (.int .u32 a0_1) := (Zc BK110.out 1).trans rfl
          have hcz41_2 : wc.cell? ⟨gb110, 2, none⟩ = some (.slice A0_2 l0_2.length c0_2) := (Zc BK110.out 2).trans rfl
          have hfz41_0 := Zg BK110.out 0
          have hfz41_1 := Zg BK110.out 1
          have hfz41_2 := Zg BK110.out 2
          have hcz42_0 : wc.cell? ⟨gb111, 0, none⟩ = some (.int .u32 a1_0) := (Zc BK111.out 0).trans rfl
          have hcz42_1 : wc.cell? ⟨gb111, 1, none⟩ = some (.int .u32 a1_1) := (Zc BK111.out 1).trans rfl
          have hcz42_2 : wc.cell? ⟨gb111, 2, none⟩ = some (.slice A1_2 l1_2.length c1_2) := (Zc BK111.out 2).trans rfl
          have hfz42_0 := Zg BK111.out 0
          have hfz42_1 := Zg BK111.out 1
          have hfz42_2 := Zg BK111.out 2
          go_wp2
          repeat (go_quiet (fail); try go_wp2)
          go_ret
          exact ⟨by first | rfl | (simp [Zy, Zz] <;> rfl) | (simp [*, Zy, Zz] <;> rfl), by repeat (first | (with_reducible first | exact HB.out | apply Zd | apply Zf | apply Ze | refine Zj ?_ GE110.out | refine Zj ?_ GE111.out) | exact HB.out)⟩
  ·rw [if_neg c4] at H
   have c4b0 : (a0_1 == a1_1) = false := beq_eq_false_iff_ne.mpr c4
   have c4b1 : (a0_1 != a1_1) = true := bne_iff_ne.mpr c4
   by_cases c43 : a0_1 < a1_1
   ·rw [if_pos c43] at H
    have c43b0 : decide (a0_1 < a1_1) = true := decide_eq_true c43
    clear c43
    obtain rfl := Option.some.inj H
    go_enter Try.func13, Try.ntmps13
    go_wp2_with (first | ((with_reducible refine Zab (N := 2) rfl ?_); (try (refine Zal (by rfl) ?_; dsimp only)); refine Zad ?hg (N := 2) ?hd (cs := #[.int .u32 a0_0, .int .u32 a0_1, .slice A0_2 l0_2.length c0_2]) (t := 35) ?hr ?_; (case hd => rfl); (case hg => rfl); (case hr => first | (go_simp; done) | (go_simp; rfl)); intro gb110 hg w44 hbox hb; have BK110 := Za.mk (hbox); have GW110 := Za.mk ((by rw [hg]; exact (Zr (by repeat (first | (with_reducible first | exact HB.out | apply Zd | apply Zf | apply Ze) | exact HB.out))) : w.heap.size ≤ gb110)); have GE110 := Za.mk ((by rw [hg]; exact (Zr (by repeat (first | (with_reducible first | exact HB.out | apply Zd | apply Zf | apply Ze) | exact HB.out))) : w.heap.size ≤ gb110)); replace HB := Za.mk (Zx (by repeat (first | (with_reducible first | exact HB.out | apply Zd | apply Zf | apply Ze) | exact HB.out)) hb); clear hb hbox hg) | ((with_reducible refine Zab (N := 3) rfl ?_); (try (refine Zal (by rfl) ?_; dsimp only)); refine Zad ?hg (N := 3) ?hd (cs := #[.int .u32 a1_0, .int .u32 a1_1, .slice A1_2 l1_2.length c1_2]) (t := 35) ?hr ?_; (case hd => rfl); (case hg => rfl); (case hr => first | (go_simp; done) | (go_simp; rfl)); intro gb111 hg w45 hbox hb; have BK111 := Za.mk (hbox); have GW111 := Za.mk ((by rw [hg]; exact (Zr (by repeat (first | (with_reducible first | exact HB.out | apply Zd | apply Zf | apply Ze | refine Zj ?_ GE110.out) | exact HB.out))) : w.heap.size ≤ gb111)); have GE111 := Za.mk ((by rw [hg]; exact (Zr (by repeat (first | (with_reducible first | exact HB.out | apply Zd | apply Zf | apply Ze | refine Zj ?_ GE110.out) | exact HB.out))) : w.heap.size ≤ gb111)); replace HB := Za.mk (Zx (by repeat (first | (with_reducible first | exact HB.out | apply Zd | apply Zf | apply Ze | refine Zj ?_ GE110.out) | exact HB.out)) hb); have NB110_111 := Za.mk ((by rw [hg]; exact Nat.ne_of_lt (Zaa (g := gb110) (o := .cells #[.int .u32 a0_0, .int .u32 a0_1, .slice A0_2 l0_2.length c0_2] 35 (0, 0)) (by (with_reducible repeat (first | refine Zo ?_ _ | refine Zm ?_ | refine Zn ?_ _)); exact BK110.out)) : gb110 ≠ gb111)); have NB111_110 := Za.mk ((by rw [hg]; exact Nat.ne_of_gt (Zaa (g := gb110) (o := .cells #[.int .u32 a0_0, .int .u32 a0_1, .slice A0_2 l0_2.length c0_2] 35 (0, 0)) (by (with_reducible repeat (first | refine Zo ?_ _ | refine Zm ?_ | refine Zn ?_ _)); exact BK110.out)) : gb111 ≠ gb110)); replace BK110 := Za.mk (Zak (g := gb110) (o := .cells #[.int .u32 a0_0, .int .u32 a0_1, .slice A0_2 l0_2.length c0_2] 35 (0, 0)) (by (with_reducible repeat (first | refine Zo ?_ _ | refine Zm ?_ | refine Zn ?_ _)); exact BK110.out) hb); clear hb hbox hg; have hnb46 := NB110_111.out; have hnc46 := NB111_110.out; have hcz47_0 : w45.cell? ⟨gb110, 0, none⟩ = some (.int .u32 a0_0) := (Zc BK110.out 0).trans rfl; have hcz47_1 : w45.cell? ⟨gb110, 1, none⟩ = some (.int .u32 a0_1) := (Zc BK110.out 1).trans rfl; have hcz47_2 : w45.cell? ⟨gb110, 2, none⟩ = some (.slice A0_2 l0_2.length c0_2) := (Zc BK110.out 2).trans rfl; have hfz47_0 := Zg BK110.out 0; have hfz47_1 := Zg BK110.out 1; have hfz47_2 := Zg BK110.out 2; have hcz48_0 : w45.cell? ⟨gb111, 0, none⟩ = some (.int .u32 a1_0) := (Zc BK111.out 0).trans rfl; have hcz48_1 : w45.cell? ⟨gb111, 1, none⟩ = some (.int .u32 a1_1) := (Zc BK111.out 1).trans rfl; have hcz48_2 : w45.cell? ⟨gb111, 2, none⟩ = some (.slice A1_2 l1_2.length c1_2) := (Zc BK111.out 2).trans rfl; have hfz48_0 := Zg BK111.out 0; have hfz48_1 := Zg BK111.out 1; have hfz48_2 := Zg BK111.out 2))
    repeat (go_quiet (first | ((with_reducible refine Zab (N := 2) rfl ?_); (try (refine Zal (by rfl) ?_; dsimp only)); refine Zad ?hg (N := 2) ?hd (cs := #[.int .u32 a0_0, .int .u32 a0_1, .slice A0_2 l0_2.length c0_2]) (t := 35) ?hr ?_; (case hd => rfl); (case hg => rfl); (case hr => first | (go_simp; done) | (go_simp; rfl)); intro gb110 hg w44 hbox hb; have n0_ := Za.mk (Zx (by repeat (first | (with_reducible first | exact HB.out | apply Zd | apply Zf | apply Ze) | exact HB.out)) hb); have n1_ := Za.mk (hbox); have n2_ := Za.mk ((by rw [hg]; exact (Zr (by repeat (first | (with_reducible first | exact HB.out | apply Zd | apply Zf | apply Ze) | exact HB.out))) : w.heap.size ≤ gb110)); have n3_ := Za.mk ((by rw [hg]; exact (Zr (by repeat (first | (with_reducible first | exact HB.out | apply Zd | apply Zf | apply Ze) | exact HB.out))) : w.heap.size ≤ gb110)); clear HB; have HB := n0_; have BK110 := n1_; have GW110 := n2_; have GE110 := n3_; clear n0_ n1_ n2_ n3_; clear hb hbox hg) | ((with_reducible refine Zab (N := 3) rfl ?_); (try (refine Zal (by rfl) ?_; dsimp only)); refine Zad ?hg (N := 3) ?hd (cs := #[.int .u32 a1_0, .int .u32 a1_1, .slice A1_2 l1_2.length c1_2]) (t := 35) ?hr ?_; (case hd => rfl); (case hg => rfl); (case hr => first | (go_simp; done) | (go_simp; rfl)); intro gb111 hg w45 hbox hb; have n0_ := Za.mk (Zak (g := gb110) (o := .cells #[.int .u32 a0_0, .int .u32 a0_1, .slice A0_2 l0_2.length c0_2] 35 (0, 0)) (by (with_reducible repeat (first | refine Zo ?_ _ | refine Zm ?_ | refine Zn ?_ _)); exact BK110.out) hb); have n1_ := Za.mk (Zx (by repeat (first | (with_reducible first | exact HB.out | apply Zd | apply Zf | apply Ze | refine Zj ?_ GE110.out) | exact HB.out)) hb); have n2_ := Za.mk (hbox); have n3_ := Za.mk ((by rw [hg]; exact (Zr (by repeat (first | (with_reducible first | exact HB.out | apply Zd | apply Zf | apply Ze | refine Zj ?_ GE110.out) | exact HB.out))) : w.heap.size ≤ gb111)); have n4_ := Za.mk ((by rw [hg]; exact (Zr (by repeat (first | (with_reducible first | exact HB.out | apply Zd | apply Zf | apply Ze | refine Zj ?_ GE110.out) | exact HB.out))) : w.heap.size ≤ gb111)); have n5_ := Za.mk ((by rw [hg]; exact Nat.ne_of_lt (Zaa (g := gb110) (o := .cells #[.int .u32 a0_0, .int .u32 a0_1, .slice A0_2 l0_2.length c0_2] 35 (0, 0)) (by (with_reducible repeat (first | refine Zo ?_ _ | refine Zm ?_ | refine Zn ?_ _)); exact BK110.out)) : gb110 ≠ gb111)); have n6_ := Za.mk ((by rw [hg]; exact Nat.ne_of_gt (Zaa (g := gb110) (o := .cells #[.int .u32 a0_0, .int .u32 a0_1, .slice A0_2 l0_2.length c0_2] 35 (0, 0)) (by (with_reducible repeat (first | refine Zo ?_ _ | refine Zm ?_ | refine Zn ?_ _)); exact BK110.out)) : gb111 ≠ gb110)); clear BK110; clear HB; have BK110 := n0_; have HB := n1_; have BK111 := n2_; have GW111 := n3_; have GE111 := n4_; have NB110_111 := n5_; have NB111_110 := n6_; clear n0_ n1_ n2_ n3_ n4_ n5_ n6_; clear hb hbox hg; have hnb46 := NB110_111.out; have hnc46 := NB111_110.out; have hcz47_0 : w45.cell? ⟨gb110, 0, none⟩ = some (.int .u32 a0_0) := (Zc BK110.out 0).trans rfl; have hcz47_1 : w45.cell? ⟨gb110, 1, none⟩ = some (.int .u32 a0_1) := (Zc BK110.out 1).trans rfl; have hcz47_2 : w45.cell? ⟨gb110, 2, none⟩ = some (.slice A0_2 l0_2.length c0_2) := (Zc BK110.out 2).trans rfl; have hfz47_0 := Zg BK110.out 0; have hfz47_1 := Zg BK110.out 1; have hfz47_2 := Zg BK110.out 2; have hcz48_0 : w45.cell? ⟨gb111, 0, none⟩ = some (.int .u32 a1_0) := (Zc BK111.out 0).trans rfl; have hcz48_1 : w45.cell? ⟨gb111, 1, none⟩ = some (.int .u32 a1_1) := (Zc BK111.out 1).trans rfl; have hcz48_2 : w45.cell? ⟨gb111, 2, none⟩ = some (.slice A1_2 l1_2.length c1_2) := (Zc BK111.out 2).trans rfl; have hfz48_0 := Zg BK111.out 0; have hfz48_1 := Zg BK111.out 1; have hfz48_2 := Zg BK111.out 2)); try go_wp2_with (first | ((with_reducible refine Zab (N := 2) rfl ?_); (try (refine Zal (by rfl) ?_; dsimp only)); refine Zad ?hg (N := 2) ?hd (cs := #[.int .u32 a0_0, .int .u32 a0_1, .slice A0_2 l0_2.length c0_2]) (t := 35) ?hr ?_; (case hd => rfl); (case hg => rfl); (case hr => first | (go_simp; done) | (go_simp; rfl)); intro gb110 hg w44 hbox hb; have n0_ := Za.mk (Zx (by repeat (first | (with_reducible first | exact HB.out | apply Zd | apply Zf | apply Ze) | exact HB.out)) hb); have n1_ := Za.mk (hbox); have n2_ := Za.mk ((by rw [hg]; exact (Zr (by repeat (first | (with_reducible first | exact HB.out | apply Zd | apply Zf | apply Ze) | exact HB.out))) : w.heap.size ≤ gb110)); have n3_ := Za.mk ((by rw [hg]; exact (Zr (by repeat (first | (with_reducible first | exact HB.out | apply Zd | apply Zf | apply Ze) | exact HB.out))) : w.heap.size ≤ gb110)); clear HB; have HB := n0_; have BK110 := n1_; have GW110 := n2_; have GE110 := n3_; clear n0_ n1_ n2_ n3_; clear hb hbox hg) | ((with_reducible refine Zab (N := 3) rfl ?_); (try (refine Zal (by rfl) ?_; dsimp only)); refine Zad ?hg (N := 3) ?hd (cs := #[.int .u32 a1_0, .int .u32 a1_1, .slice A1_2 l1_2.length c1_2]) (t := 35) ?hr ?_; (case hd => rfl); (case hg => rfl); (case hr => first | (go_simp; done) | (go_simp; rfl)); intro gb111 hg w45 hbox hb; have n0_ := Za.mk (Zak (g := gb110) (o := .cells #[.int .u32 a0_0, .int .u32 a0_1, .slice A0_2 l0_2.length c0_2] 35 (0, 0)) (by (with_reducible repeat (first | refine Zo ?_ _ | refine Zm ?_ | refine Zn ?_ _)); exact BK110.out) hb); have n1_ := Za.mk (Zx (by repeat (first | (with_reducible first | exact HB.out | apply Zd | apply Zf | apply Ze | refine Zj ?_ GE110.out) | exact HB.out)) hb); have n2_ := Za.mk (hbox); have n3_ := Za.mk ((by rw [hg]; exact (Zr (by repeat (first | (with_reducible first | exact HB.out | apply Zd | apply Zf | apply Ze | refine Zj ?_ GE110.out) | exact HB.out))) : w.heap.size ≤ gb111)); have n4_ := Za.mk ((by rw [hg]; exact (Zr (by repeat (first | (with_reducible first | exact HB.out | apply Zd | apply Zf | apply Ze | refine Zj ?_ GE110.out) | exact HB.out))) : w.heap.size ≤ gb111)); have n5_ := Za.mk ((by rw [hg]; exact Nat.ne_of_lt (Zaa (g := gb110) (o := .cells #[.int .u32 a0_0, .int .u32 a0_1, .slice A0_2 l0_2.length c0_2] 35 (0, 0)) (by (with_reducible repeat (first | refine Zo ?_ _ | refine Zm ?_ | refine Zn ?_ _)); exact BK110.out)) : gb110 ≠ gb111)); have n6_ := Za.mk ((by rw [hg]; exact Nat.ne_of_gt (Zaa (g := gb110) (o := .cells #[.int .u32 a0_0, .int .u32 a0_1, .slice A0_2 l0_2.length c0_2] 35 (0, 0)) (by (with_reducible repeat (first | refine Zo ?_ _ | refine Zm ?_ | refine Zn ?_ _)); exact BK110.out)) : gb111 ≠ gb110)); clear BK110; clear HB; have BK110 := n0_; have HB := n1_; have BK111 := n2_; have GW111 := n3_; have GE111 := n4_; have NB110_111 := n5_; have NB111_110 := n6_; clear n0_ n1_ n2_ n3_ n4_ n5_ n6_; clear hb hbox hg; have hnb46 := NB110_111.out; have hnc46 := NB111_110.out; have hcz47_0 : w45.cell? ⟨gb110, 0, none⟩ = some (.int .u32 a0_0) := (Zc BK110.out 0).trans rfl; have hcz47_1 : w45.cell? ⟨gb110, 1, none⟩ = some (.int .u32 a0_1) := (Zc BK110.out 1).trans rfl; have hcz47_2 : w45.cell? ⟨gb110, 2, none⟩ = some (.slice A0_2 l0_2.length c0_2) := (Zc BK110.out 2).trans rfl; have hfz47_0 := Zg BK110.out 0; have hfz47_1 := Zg BK110.out 1; have hfz47_2 := Zg BK110.out 2; have hcz48_0 : w45.cell? ⟨gb111, 0, none⟩ = some (.int .u32 a1_0) := (Zc BK111.out 0).trans rfl; have hcz48_1 : w45.cell? ⟨gb111, 1, none⟩ = some (.int .u32 a1_1) := (Zc BK111.out 1).trans rfl; have hcz48_2 : w45.cell? ⟨gb111, 2, none⟩ = some (.slice A1_2 l1_2.length c1_2) := (Zc BK111.out 2).trans rfl; have hfz48_0 := Zg BK111.out 0; have hfz48_1 := Zg BK111.out 1; have hfz48_2 := Zg BK111.out 2)))
    go_ret
    exact ⟨by first | rfl | (simp [Zy, Zz] <;> rfl) | (simp [*, Zy, Zz] <;> rfl), by repeat (first | (with_reducible first | exact HB.out | apply Zd | apply Zf | apply Ze | refine Zj ?_ GE110.out | refine Zj ?_ GE111.out) | exact HB.out)⟩
   ·rw [if_neg c43] at H
    have c43b0 : decide (a0_1 < a1_1) = false := decide_eq_false c43
    clear c43
    obtain rfl := Option.some.inj H
    go_enter Try.func13, Try.ntmps13
    go_wp2_with (first | ((with_reducible refine Zab (N := 2) rfl ?_); (try (refine Zal (by rfl) ?_; dsimp only)); refine Zad ?hg (N := 2) ?hd (cs := #[.int .u32 a0_0, .int .u32 a0_1, .slice A0_2 l0_2.length c0_2]) (t := 35) ?hr ?_; (case hd => rfl); (case hg => rfl); (case hr => first | (go_simp; done) | (go_simp; rfl)); intro gb110 hg w49 hbox hb; have BK110 := Za.mk (hbox); have GW110 := Za.mk ((by rw [hg]; exact (Zr (by repeat (first | (with_reducible first | exact HB.out | apply Zd | apply Zf | apply Ze) | exact HB.out))) : w.heap.size ≤ gb110)); have GE110 := Za.mk ((by rw [hg]; exact (Zr (by repeat (first | (with_reducible first | exact HB.out | apply Zd | apply Zf | apply Ze) | exact HB.out))) : w.heap.size ≤ gb110)); replace HB := Za.mk (Zx (by repeat (first | (with_reducible first | exact HB.out | apply Zd | apply Zf | apply Ze) | exact HB.out)) hb); clear hb hbox hg) | ((with_reducible refine Zab (N := 3) rfl ?_); (try (refine Zal (by rfl) ?_; dsimp only)); refine Zad ?hg (N := 3) ?hd (cs := #[.int .u32 a1_0, .int .u32 a1_1, .slice A1_2 l1_2.length c1_2]) (t := 35) ?hr ?_; (case hd => rfl); (case hg => rfl); (case hr => first | (go_simp; done) | (go_simp; rfl)); intro gb111 hg w50 hbox hb; have BK111 := Za.mk (hbox); have GW111 := Za.mk ((by rw [hg]; exact (Zr (by repeat (first | (with_reducible first | exact HB.out | apply Zd | apply Zf | apply Ze | refine Zj ?_ GE110.out) | exact HB.out))) : w.heap.size ≤ gb111)); have GE111 := Za.mk ((by rw [hg]; exact (Zr (by repeat (first | (with_reducible first | exact HB.out | apply Zd | apply Zf | apply Ze | refine Zj ?_ GE110.out) | exact HB.out))) : w.heap.size ≤ gb111)); replace HB := Za.mk (Zx (by repeat (first | (with_reducible first | exact HB.out | apply Zd | apply Zf | apply Ze | refine Zj ?_ GE110.out) | exact HB.out)) hb); have NB110_111 := Za.mk ((by rw [hg]; exact Nat.ne_of_lt (Zaa (g := gb110) (o := .cells #[.int .u32 a0_0, .int .u32 a0_1, .slice A0_2 l0_2.length c0_2] 35 (0, 0)) (by (with_reducible repeat (first | refine Zo ?_ _ | refine Zm ?_ | refine Zn ?_ _)); exact BK110.out)) : gb110 ≠ gb111)); have NB111_110 := Za.mk ((by rw [hg]; exact Nat.ne_of_gt (Zaa (g := gb110) (o := .cells #[.int .u32 a0_0, .int .u32 a0_1, .slice A0_2 l0_2.length c0_2] 35 (0, 0)) (by (with_reducible repeat (first | refine Zo ?_ _ | refine Zm ?_ | refine Zn ?_ _)); exact BK110.out)) : gb111 ≠ gb110)); replace BK110 := Za.mk (Zak (g := gb110) (o := .cells #[.int .u32 a0_0, .int .u32 a0_1, .slice A0_2 l0_2.length c0_2] 35 (0, 0)) (by (with_reducible repeat (first | refine Zo ?_ _ | refine Zm ?_ | refine Zn ?_ _)); exact BK110.out) hb); clear hb hbox hg; have hnb51 := NB110_111.out; have hnc51 := NB111_110.out; have hcz52_0 : w50.cell? ⟨gb110, 0, none⟩ = some (.int .u32 a0_0) := (Zc BK110.out 0).trans rfl; have hcz52_1 : w50.cell? ⟨gb110, 1, none⟩ = some (.int .u32 a0_1) := (Zc BK110.out 1).trans rfl; have hcz52_2 : w50.cell? ⟨gb110, 2, none⟩ = some (.slice A0_2 l0_2.length c0_2) := (Zc BK110.out 2).trans rfl; have hfz52_0 := Zg BK110.out 0; have hfz52_1 := Zg BK110.out 1; have hfz52_2 := Zg BK110.out 2; have hcz53_0 : w50.cell? ⟨gb111, 0, none⟩ = some (.int .u32 a1_0) := (Zc BK111.out 0).trans rfl; have hcz53_1 : w50.cell? ⟨gb111, 1, none⟩ = some (.int .u32 a1_1) := (Zc BK111.out 1).trans rfl; have hcz53_2 : w50.cell? ⟨gb111, 2, none⟩ = some (.slice A1_2 l1_2.length c1_2) := (Zc BK111.out 2).trans rfl; have hfz53_0 := Zg BK111.out 0; have hfz53_1 := Zg BK111.out 1; have hfz53_2 := Zg BK111.out 2))
    repeat (go_quiet (first | ((with_reducible refine Zab (N := 2) rfl ?_); (try (refine Zal (by rfl) ?_; dsimp only)); refine Zad ?hg (N := 2) ?hd (cs := #[.int .u32 a0_0, .int .u32 a0_1, .slice A0_2 l0_2.length c0_2]) (t := 35) ?hr ?_; (case hd => rfl); (case hg => rfl); (case hr => first | (go_simp; done) | (go_simp; rfl)); intro gb110 hg w49 hbox hb; have n0_ := Za.mk (Zx (by repeat (first | (with_reducible first | exact HB.out | apply Zd | apply Zf | apply Ze) | exact HB.out)) hb); have n1_ := Za.mk (hbox); have n2_ := Za.mk ((by rw [hg]; exact (Zr (by repeat (first | (with_reducible first | exact HB.out | apply Zd | apply Zf | apply Ze) | exact HB.out))) : w.heap.size ≤ gb110)); have n3_ := Za.mk ((by rw [hg]; exact (Zr (by repeat (first | (with_reducible first | exact HB.out | apply Zd | apply Zf | apply Ze) | exact HB.out))) : w.heap.size ≤ gb110)); clear HB; have HB := n0_; have BK110 := n1_; have GW110 := n2_; have GE110 := n3_; clear n0_ n1_ n2_ n3_; clear hb hbox hg) | ((with_reducible refine Zab (N := 3) rfl ?_); (try (refine Zal (by rfl) ?_; dsimp only)); refine Zad ?hg (N := 3) ?hd (cs := #[.int .u32 a1_0, .int .u32 a1_1, .slice A1_2 l1_2.length c1_2]) (t := 35) ?hr ?_; (case hd => rfl); (case hg => rfl); (case hr => first | (go_simp; done) | (go_simp; rfl)); intro gb111 hg w50 hbox hb; have n0_ := Za.mk (Zak (g := gb110) (o := .cells #[.int .u32 a0_0, .int .u32 a0_1, .slice A0_2 l0_2.length c0_2] 35 (0, 0)) (by (with_reducible repeat (first | refine Zo ?_ _ | refine Zm ?_ | refine Zn ?_ _)); exact BK110.out) hb); have n1_ := Za.mk (Zx (by repeat (first | (with_reducible first | exact HB.out | apply Zd | apply Zf | apply Ze | refine Zj ?_ GE110.out) | exact HB.out)) hb); have n2_ := Za.mk (hbox); have n3_ := Za.mk ((by rw [hg]; exact (Zr (by repeat (first | (with_reducible first | exact HB.out | apply Zd | apply Zf | apply Ze | refine Zj ?_ GE110.out) | exact HB.out))) : w.heap.size ≤ gb111)); have n4_ := Za.mk ((by rw [hg]; exact (Zr (by repeat (first | (with_reducible first | exact HB.out | apply Zd | apply Zf | apply Ze | refine Zj ?_ GE110.out) | exact HB.out))) : w.heap.size ≤ gb111)); have n5_ := Za.mk ((by rw [hg]; exact Nat.ne_of_lt (Zaa (g := gb110) (o := .cells #[.int .u32 a0_0, .int .u32 a0_1, .slice A0_2 l0_2.length c0_2] 35 (0, 0)) (by (with_reducible repeat (first | refine Zo ?_ _ | refine Zm ?_ | refine Zn ?_ _)); exact BK110.out)) : gb110 ≠ gb111)); have n6_ := Za.mk ((by rw [hg]; exact Nat.ne_of_gt (Zaa (g := gb110) (o := .cells #[.int .u32 a0_0, .int .u32 a0_1, .slice A0_2 l0_2.length c0_2] 35 (0, 0)) (by (with_reducible repeat (first | refine Zo ?_ _ | refine Zm ?_ | refine Zn ?_ _)); exact BK110.out)) : gb111 ≠ gb110)); clear BK110; clear HB; have BK110 := n0_; have HB := n1_; have BK111 := n2_; have GW111 := n3_; have GE111 := n4_; have NB110_111 := n5_; have NB111_110 := n6_; clear n0_ n1_ n2_ n3_ n4_ n5_ n6_; clear hb hbox hg; have hnb51 := NB110_111.out; have hnc51 := NB111_110.out; have hcz52_0 : w50.cell? ⟨gb110, 0, none⟩ = some (.int .u32 a0_0) := (Zc BK110.out 0).trans rfl; have hcz52_1 : w50.cell? ⟨gb110, 1, none⟩ = some (.int .u32 a0_1) := (Zc BK110.out 1).trans rfl; have hcz52_2 : w50.cell? ⟨gb110, 2, none⟩ = some (.slice A0_2 l0_2.length c0_2) := (Zc BK110.out 2).trans rfl; have hfz52_0 := Zg BK110.out 0; have hfz52_1 := Zg BK110.out 1; have hfz52_2 := Zg BK110.out 2; have hcz53_0 : w50.cell? ⟨gb111, 0, none⟩ = some (.int .u32 a1_0) := (Zc BK111.out 0).trans rfl; have hcz53_1 : w50.cell? ⟨gb111, 1, none⟩ = some (.int .u32 a1_1) := (Zc BK111.out 1).trans rfl; have hcz53_2 : w50.cell? ⟨gb111, 2, none⟩ = some (.slice A1_2 l1_2.length c1_2) := (Zc BK111.out 2).trans rfl; have hfz53_0 := Zg BK111.out 0; have hfz53_1 := Zg BK111.out 1; have hfz53_2 := Zg BK111.out 2)); try go_wp2_with (first | ((with_reducible refine Zab (N := 2) rfl ?_); (try (refine Zal (by rfl) ?_; dsimp only)); refine Zad ?hg (N := 2) ?hd (cs := #[.int .u32 a0_0, .int .u32 a0_1, .slice A0_2 l0_2.length c0_2]) (t := 35) ?hr ?_; (case hd => rfl); (case hg => rfl); (case hr => first | (go_simp; done) | (go_simp; rfl)); intro gb110 hg w49 hbox hb; have n0_ := Za.mk (Zx (by repeat (first | (with_reducible first | exact HB.out | apply Zd | apply Zf | apply Ze) | exact HB.out)) hb); have n1_ := Za.mk (hbox); have n2_ := Za.mk ((by rw [hg]; exact (Zr (by repeat (first | (with_reducible first | exact HB.out | apply Zd | apply Zf | apply Ze) | exact HB.out))) : w.heap.size ≤ gb110)); have n3_ := Za.mk ((by rw [hg]; exact (Zr (by repeat (first | (with_reducible first | exact HB.out | apply Zd | apply Zf | apply Ze) | exact HB.out))) : w.heap.size ≤ gb110)); clear HB; have HB := n0_; have BK110 := n1_; have GW110 := n2_; have GE110 := n3_; clear n0_ n1_ n2_ n3_; clear hb hbox hg) | ((with_reducible refine Zab (N := 3) rfl ?_); (try (refine Zal (by rfl) ?_; dsimp only)); refine Zad ?hg (N := 3) ?hd (cs := #[.int .u32 a1_0, .int .u32 a1_1, .slice A1_2 l1_2.length c1_2]) (t := 35) ?hr ?_; (case hd => rfl); (case hg => rfl); (case hr => first | (go_simp; done) | (go_simp; rfl)); intro gb111 hg w50 hbox hb; have n0_ := Za.mk (Zak (g := gb110) (o := .cells #[.int .u32 a0_0, .int .u32 a0_1, .slice A0_2 l0_2.length c0_2] 35 (0, 0)) (by (with_reducible repeat (first | refine Zo ?_ _ | refine Zm ?_ | refine Zn ?_ _)); exact BK110.out) hb); have n1_ := Za.mk (Zx (by repeat (first | (with_reducible first | exact HB.out | apply Zd | apply Zf | apply Ze | refine Zj ?_ GE110.out) | exact HB.out)) hb); have n2_ := Za.mk (hbox); have n3_ := Za.mk ((by rw [hg]; exact (Zr (by repeat (first | (with_reducible first | exact HB.out | apply Zd | apply Zf | apply Ze | refine Zj ?_ GE110.out) | exact HB.out))) : w.heap.size ≤ gb111)); have n4_ := Za.mk ((by rw [hg]; exact (Zr (by repeat (first | (with_reducible first | exact HB.out | apply Zd | apply Zf | apply Ze | refine Zj ?_ GE110.out) | exact HB.out))) : w.heap.size ≤ gb111)); have n5_ := Za.mk ((by rw [hg]; exact Nat.ne_of_lt (Zaa (g := gb110) (o := .cells #[.int .u32 a0_0, .int .u32 a0_1, .slice A0_2 l0_2.length c0_2] 35 (0, 0)) (by (with_reducible repeat (first | refine Zo ?_ _ | refine Zm ?_ | refine Zn ?_ _)); exact BK110.out)) : gb110 ≠ gb111)); have n6_ := Za.mk ((by rw [hg]; exact Nat.ne_of_gt (Zaa (g := gb110) (o := .cells #[.int .u32 a0_0, .int .u32 a0_1, .slice A0_2 l0_2.length c0_2] 35 (0, 0)) (by (with_reducible repeat (first | refine Zo ?_ _ | refine Zm ?_ | refine Zn ?_ _)); exact BK110.out)) : gb111 ≠ gb110)); clear BK110; clear HB; have BK110 := n0_; have HB := n1_; have BK111 := n2_; have GW111 := n3_; have GE111 := n4_; have NB110_111 := n5_; have NB111_110 := n6_; clear n0_ n1_ n2_ n3_ n4_ n5_ n6_; clear hb hbox hg; have hnb51 := NB110_111.out; have hnc51 := NB111_110.out; have hcz52_0 : w50.cell? ⟨gb110, 0, none⟩ = some (.int .u32 a0_0) := (Zc BK110.out 0).trans rfl; have hcz52_1 : w50.cell? ⟨gb110, 1, none⟩ = some (.int .u32 a0_1) := (Zc BK110.out 1).trans rfl; have hcz52_2 : w50.cell? ⟨gb110, 2, none⟩ = some (.slice A0_2 l0_2.length c0_2) := (Zc BK110.out 2).trans rfl; have hfz52_0 := Zg BK110.out 0; have hfz52_1 := Zg BK110.out 1; have hfz52_2 := Zg BK110.out 2; have hcz53_0 : w50.cell? ⟨gb111, 0, none⟩ = some (.int .u32 a1_0) := (Zc BK111.out 0).trans rfl; have hcz53_1 : w50.cell? ⟨gb111, 1, none⟩ = some (.int .u32 a1_1) := (Zc BK111.out 1).trans rfl; have hcz53_2 : w50.cell? ⟨gb111, 2, none⟩ = some (.slice A1_2 l1_2.length c1_2) := (Zc BK111.out 2).trans rfl; have hfz53_0 := Zg BK111.out 0; have hfz53_1 := Zg BK111.out 1; have hfz53_2 := Zg BK111.out 2)))
    go_ret
    exact ⟨by first | rfl | (simp [Zy, Zz] <;> rfl) | (simp [*, Zy, Zz] <;> rfl), by repeat (first | (with_reducible first | exact HB.out | apply Zd | apply Zf | apply Ze | refine Zj ?_ GE110.out | refine Zj ?_ GE111.out) | exact HB.out)⟩
 ·rw [if_neg c3] at H
  have c3b0 : (a0_0 == a1_0) = false := beq_eq_false_iff_ne.mpr c3
  have c3b1 : (a0_0 != a1_0) = true := bne_iff_ne.mpr c3
  by_cases c54 : a0_0 < a1_0
  ·rw [if_pos c54] at H
   have c54b0 : decide (a0_0 < a1_0) = true := decide_eq_true c54
   clear c54
   obtain rfl := Option.some.inj H
   go_enter Try.func13, Try.ntmps13
   go_wp2_with (first | ((with_reducible refine Zab (N := 2) rfl ?_); (try (refine Zal (by rfl) ?_; dsimp only)); refine Zad ?hg (N := 2) ?hd (cs := #[.int .u32 a0_0, .int .u32 a0_1, .slice A0_2 l0_2.length c0_2]) (t := 35) ?hr ?_; (case hd => rfl); (case hg => rfl); (case hr => first | (go_simp; done) | (go_simp; rfl)); intro gb110 hg w55 hbox hb; have BK110 := Za.mk (hbox); have GW110 := Za.mk ((by rw [hg]; exact (Zr (by repeat (first | (with_reducible first | exact HB.out | apply Zd | apply Zf | apply Ze) | exact HB.out))) : w.heap.size ≤ gb110)); have GE110 := Za.mk ((by rw [hg]; exact (Zr (by repeat (first | (with_reducible first | exact HB.out | apply Zd | apply Zf | apply Ze) | exact HB.out))) : w.heap.size ≤ gb110)); replace HB := Za.mk (Zx (by repeat (first | (with_reducible first | exact HB.out | apply Zd | apply Zf | apply Ze) | exact HB.out)) hb); clear hb hbox hg) | ((with_reducible refine Zab (N := 3) rfl ?_); (try (refine Zal (by rfl) ?_; dsimp only)); refine Zad ?hg (N := 3) ?hd (cs := #[.int .u32 a1_0, .int .u32 a1_1, .slice A1_2 l1_2.length c1_2]) (t := 35) ?hr ?_; (case hd => rfl); (case hg => rfl); (case hr => first | (go_simp; done) | (go_simp; rfl)); intro gb111 hg w56 hbox hb; have BK111 := Za.mk (hbox); have GW111 := Za.mk ((by rw [hg]; exact (Zr (by repeat (first | (with_reducible first | exact HB.out | apply Zd | apply Zf | apply Ze | refine Zj ?_ GE110.out) | exact HB.out))) : w.heap.size ≤ gb111)); have GE111 := Za.mk ((by rw [hg]; exact (Zr (by repeat (first | (with_reducible first | exact HB.out | apply Zd | apply Zf | apply Ze | refine Zj ?_ GE110.out) | exact HB.out))) : w.heap.size ≤ gb111)); replace HB := Za.mk (Zx (by repeat (first | (with_reducible first | exact HB.out | apply Zd | apply Zf | apply Ze | refine Zj ?_ GE110.out) | exact HB.out)) hb); have NB110_111 := Za.mk ((by rw [hg]; exact Nat.ne_of_lt (Zaa (g := gb110) (o := .cells #[.int .u32 a0_0, .int .u32 a0_1, .slice A0_2 l0_2.length c0_2] 35 (0, 0)) (by (with_reducible repeat (first | refine Zo ?_ _ | refine Zm ?_ | refine Zn ?_ _)); exact BK110.out)) : gb110 ≠ gb111)); have NB111_110 := Za.mk ((by rw [hg]; exact Nat.ne_of_gt (Zaa (g := gb110) (o := .cells #[.int .u32 a0_0, .int .u32 a0_1, .slice A0_2 l0_2.length c0_2] 35 (0, 0)) (by (with_reducible repeat (first | refine Zo ?_ _ | refine Zm ?_ | refine Zn ?_ _)); exact BK110.out)) : gb111 ≠ gb110)); replace BK110 := Za.mk (Zak (g := gb110) (o := .cells #[.int .u32 a0_0, .int .u32 a0_1, .slice A0_2 l0_2.length c0_2] 35 (0, 0)) (by (with_reducible repeat (first | refine Zo ?_ _ | refine Zm ?_ | refine Zn ?_ _)); exact BK110.out) hb); clear hb hbox hg; have hnb57 := NB110_111.out; have hnc57 := NB111_110.out; have hcz58_0 : w56.cell? ⟨gb110, 0, none⟩ = some (.int .u32 a0_0) := (Zc BK110.out 0).trans rfl; have hcz58_1 : w56.cell? ⟨gb110, 1, none⟩ = some (.int .u32 a0_1) := (Zc BK110.out 1).trans rfl; have hcz58_2 : w56.cell? ⟨gb110, 2, none⟩ = some (.slice A0_2 l0_2.length c0_2) := (Zc BK110.out 2).trans rfl; have hfz58_0 := Zg BK110.out 0; have hfz58_1 := Zg BK110.out 1; have hfz58_2 := Zg BK110.out 2; have hcz59_0 : w56.cell? ⟨gb111, 0, none⟩ = some (.int .u32 a1_0) := (Zc BK111.out 0).trans rfl; have hcz59_1 : w56.cell? ⟨gb111, 1, none⟩ = some (.int .u32 a1_1) := (Zc BK111.out 1).trans rfl; have hcz59_2 : w56.cell? ⟨gb111, 2, none⟩ = some (.slice A1_2 l1_2.length c1_2) := (Zc BK111.out 2).trans rfl; have hfz59_0 := Zg BK111.out 0; have hfz59_1 := Zg BK111.out 1; have hfz59_2 := Zg BK111.out 2))
   repeat (go_quiet (first | ((with_reducible refine Zab (N := 2) rfl ?_); (try (refine Zal (by rfl) ?_; dsimp only)); refine Zad ?hg (N := 2) ?hd (cs := #[.int .u32 a0_0, .int .u32 a0_1, .slice A0_2 l0_2.length c0_2]) (t := 35) ?hr ?_; (case hd => rfl); (case hg => rfl); (case hr => first | (go_simp; done) | (go_simp; rfl)); intro gb110 hg w55 hbox hb; have n0_ := Za.mk (Zx (by repeat (first | (with_reducible first | exact HB.out | apply Zd | apply Zf | apply Ze) | exact HB.out)) hb); have n1_ := Za.mk (hbox); have n2_ := Za.mk ((by rw [hg]; exact (Zr (by repeat (first | (with_reducible first | exact HB.out | apply Zd | apply Zf | apply Ze) | exact HB.out))) : w.heap.size ≤ gb110)); have n3_ := Za.mk ((by rw [hg]; exact (Zr (by repeat (first | (with_reducible first | exact HB.out | apply Zd | apply Zf | apply Ze) | exact HB.out))) : w.heap.size ≤ gb110)); clear HB; have HB := n0_; have BK110 := n1_; have GW110 := n2_; have GE110 := n3_; clear n0_ n1_ n2_ n3_; clear hb hbox hg) | ((with_reducible refine Zab (N := 3) rfl ?_); (try (refine Zal (by rfl) ?_; dsimp only)); refine Zad ?hg (N := 3) ?hd (cs := #[.int .u32 a1_0, .int .u32 a1_1, .slice A1_2 l1_2.length c1_2]) (t := 35) ?hr ?_; (case hd => rfl); (case hg => rfl); (case hr => first | (go_simp; done) | (go_simp; rfl)); intro gb111 hg w56 hbox hb; have n0_ := Za.mk (Zak (g := gb110) (o := .cells #[.int .u32 a0_0, .int .u32 a0_1, .slice A0_2 l0_2.length c0_2] 35 (0, 0)) (by (with_reducible repeat (first | refine Zo ?_ _ | refine Zm ?_ | refine Zn ?_ _)); exact BK110.out) hb); have n1_ := Za.mk (Zx (by repeat (first | (with_reducible first | exact HB.out | apply Zd | apply Zf | apply Ze | refine Zj ?_ GE110.out) | exact HB.out)) hb); have n2_ := Za.mk (hbox); have n3_ := Za.mk ((by rw [hg]; exact (Zr (by repeat (first | (with_reducible first | exact HB.out | apply Zd | apply Zf | apply Ze | refine Zj ?_ GE110.out) | exact HB.out))) : w.heap.size ≤ gb111)); have n4_ := Za.mk ((by rw [hg]; exact (Zr (by repeat (first | (with_reducible first | exact HB.out | apply Zd | apply Zf | apply Ze | refine Zj ?_ GE110.out) | exact HB.out))) : w.heap.size ≤ gb111)); have n5_ := Za.mk ((by rw [hg]; exact Nat.ne_of_lt (Zaa (g := gb110) (o := .cells #[.int .u32 a0_0, .int .u32 a0_1, .slice A0_2 l0_2.length c0_2] 35 (0, 0)) (by (with_reducible repeat (first | refine Zo ?_ _ | refine Zm ?_ | refine Zn ?_ _)); exact BK110.out)) : gb110 ≠ gb111)); have n6_ := Za.mk ((by rw [hg]; exact Nat.ne_of_gt (Zaa (g := gb110) (o := .cells #[.int .u32 a0_0, .int .u32 a0_1, .slice A0_2 l0_2.length c0_2] 35 (0, 0)) (by (with_reducible repeat (first | refine Zo ?_ _ | refine Zm ?_ | refine Zn ?_ _)); exact BK110.out)) : gb111 ≠ gb110)); clear BK110; clear HB; have BK110 := n0_; have HB := n1_; have BK111 := n2_; have GW111 := n3_; have GE111 := n4_; have NB110_111 := n5_; have NB111_110 := n6_; clear n0_ n1_ n2_ n3_ n4_ n5_ n6_; clear hb hbox hg; have hnb57 := NB110_111.out; have hnc57 := NB111_110.out; have hcz58_0 : w56.cell? ⟨gb110, 0, none⟩ = some (.int .u32 a0_0) := (Zc BK110.out 0).trans rfl; have hcz58_1 : w56.cell? ⟨gb110, 1, none⟩ = some (.int .u32 a0_1) := (Zc BK110.out 1).trans rfl; have hcz58_2 : w56.cell? ⟨gb110, 2, none⟩ = some (.slice A0_2 l0_2.length c0_2) := (Zc BK110.out 2).trans rfl; have hfz58_0 := Zg BK110.out 0; have hfz58_1 := Zg BK110.out 1; have hfz58_2 := Zg BK110.out 2; have hcz59_0 : w56.cell? ⟨gb111, 0, none⟩ = some (.int .u32 a1_0) := (Zc BK111.out 0).trans rfl; have hcz59_1 : w56.cell? ⟨gb111, 1, none⟩ = some (.int .u32 a1_1) := (Zc BK111.out 1).trans rfl; have hcz59_2 : w56.cell? ⟨gb111, 2, none⟩ = some (.slice A1_2 l1_2.length c1_2) := (Zc BK111.out 2).trans rfl; have hfz59_0 := Zg BK111.out 0; have hfz59_1 := Zg BK111.out 1; have hfz59_2 := Zg BK111.out 2)); try go_wp2_with (first | ((with_reducible refine Zab (N := 2) rfl ?_); (try (refine Zal (by rfl) ?_; dsimp only)); refine Zad ?hg (N := 2) ?hd (cs := #[.int .u32 a0_0, .int .u32 a0_1, .slice A0_2 l0_2.length c0_2]) (t := 35) ?hr ?_; (case hd => rfl); (case hg => rfl); (case hr => first | (go_simp; done) | (go_simp; rfl)); intro gb110 hg w55 hbox hb; have n0_ := Za.mk (Zx (by repeat (first | (with_reducible first | exact HB.out | apply Zd | apply Zf | apply Ze) | exact HB.out)) hb); have n1_ := Za.mk (hbox); have n2_ := Za.mk ((by rw [hg]; exact (Zr (by repeat (first | (with_reducible first | exact HB.out | apply Zd | apply Zf | apply Ze) | exact HB.out))) : w.heap.size ≤ gb110)); have n3_ := Za.mk ((by rw [hg]; exact (Zr (by repeat (first | (with_reducible first | exact HB.out | apply Zd | apply Zf | apply Ze) | exact HB.out))) : w.heap.size ≤ gb110)); clear HB; have HB := n0_; have BK110 := n1_; have GW110 := n2_; have GE110 := n3_; clear n0_ n1_ n2_ n3_; clear hb hbox hg) | ((with_reducible refine Zab (N := 3) rfl ?_); (try (refine Zal (by rfl) ?_; dsimp only)); refine Zad ?hg (N := 3) ?hd (cs := #[.int .u32 a1_0, .int .u32 a1_1, .slice A1_2 l1_2.length c1_2]) (t := 35) ?hr ?_; (case hd => rfl); (case hg => rfl); (case hr => first | (go_simp; done) | (go_simp; rfl)); intro gb111 hg w56 hbox hb; have n0_ := Za.mk (Zak (g := gb110) (o := .cells #[.int .u32 a0_0, .int .u32 a0_1, .slice A0_2 l0_2.length c0_2] 35 (0, 0)) (by (with_reducible repeat (first | refine Zo ?_ _ | refine Zm ?_ | refine Zn ?_ _)); exact BK110.out) hb); have n1_ := Za.mk (Zx (by repeat (first | (with_reducible first | exact HB.out | apply Zd | apply Zf | apply Ze | refine Zj ?_ GE110.out) | exact HB.out)) hb); have n2_ := Za.mk (hbox); have n3_ := Za.mk ((by rw [hg]; exact (Zr (by repeat (first | (with_reducible first | exact HB.out | apply Zd | apply Zf | apply Ze | refine Zj ?_ GE110.out) | exact HB.out))) : w.heap.size ≤ gb111)); have n4_ := Za.mk ((by rw [hg]; exact (Zr (by repeat (first | (with_reducible first | exact HB.out | apply Zd | apply Zf | apply Ze | refine Zj ?_ GE110.out) | exact HB.out))) : w.heap.size ≤ gb111)); have n5_ := Za.mk ((by rw [hg]; exact Nat.ne_of_lt (Zaa (g := gb110) (o := .cells #[.int .u32 a0_0, .int .u32 a0_1, .slice A0_2 l0_2.length c0_2] 35 (0, 0)) (by (with_reducible repeat (first | refine Zo ?_ _ | refine Zm ?_ | refine Zn ?_ _)); exact BK110.out)) : gb110 ≠ gb111)); have n6_ := Za.mk ((by rw [hg]; exact Nat.ne_of_gt (Zaa (g := gb110) (o := .cells #[.int .u32 a0_0, .int .u32 a0_1, .slice A0_2 l0_2.length c0_2] 35 (0, 0)) (by (with_reducible repeat (first | refine Zo ?_ _ | refine Zm ?_ | refine Zn ?_ _)); exact BK110.out)) : gb111 ≠ gb110)); clear BK110; clear HB; have BK110 := n0_; have HB := n1_; have BK111 := n2_; have GW111 := n3_; have GE111 := n4_; have NB110_111 := n5_; have NB111_110 := n6_; clear n0_ n1_ n2_ n3_ n4_ n5_ n6_; clear hb hbox hg; have hnb57 := NB110_111.out; have hnc57 := NB111_110.out; have hcz58_0 : w56.cell? ⟨gb110, 0, none⟩ = some (.int .u32 a0_0) := (Zc BK110.out 0).trans rfl; have hcz58_1 : w56.cell? ⟨gb110, 1, none⟩ = some (.int .u32 a0_1) := (Zc BK110.out 1).trans rfl; have hcz58_2 : w56.cell? ⟨gb110, 2, none⟩ = some (.slice A0_2 l0_2.length c0_2) := (Zc BK110.out 2).trans rfl; have hfz58_0 := Zg BK110.out 0; have hfz58_1 := Zg BK110.out 1; have hfz58_2 := Zg BK110.out 2; have hcz59_0 : w56.cell? ⟨gb111, 0, none⟩ = some (.int .u32 a1_0) := (Zc BK111.out 0).trans rfl; have hcz59_1 : w56.cell? ⟨gb111, 1, none⟩ = some (.int .u32 a1_1) := (Zc BK111.out 1).trans rfl; have hcz59_2 : w56.cell? ⟨gb111, 2, none⟩ = some (.slice A1_2 l1_2.length c1_2) := (Zc BK111.out 2).trans rfl; have hfz59_0 := Zg BK111.out 0; have hfz59_1 := Zg BK111.out 1; have hfz59_2 := Zg BK111.out 2)))
   go_ret
   exact ⟨by first | rfl | (simp [Zy, Zz] <;> rfl) | (simp [*, Zy, Zz] <;> rfl), by repeat (first | (with_reducible first | exact HB.out | apply Zd | apply Zf | apply Ze | refine Zj ?_ GE110.out | refine Zj ?_ GE111.out) | exact HB.out)⟩
  ·rw [if_neg c54] at H
   have c54b0 : decide (a0_0 < a1_0) = false := decide_eq_false c54
   clear c54
   obtain rfl := Option.some.inj H
   go_enter Try.func13, Try.ntmps13
   go_wp2_with (first | ((with_reducible refine Zab (N := 2) rfl ?_); (try (refine Zal (by rfl) ?_; dsimp only)); refine Zad ?hg (N := 2) ?hd (cs := #[.int .u32 a0_0, .int .u32 a0_1, .slice A0_2 l0_2.length c0_2]) (t := 35) ?hr ?_; (case hd => rfl); (case hg => rfl); (case hr => first | (go_simp; done) | (go_simp; rfl)); intro gb110 hg w60 hbox hb; have BK110 := Za.mk (hbox); have GW110 := Za.mk ((by rw [hg]; exact (Zr (by repeat (first | (with_reducible first | exact HB.out | apply Zd | apply Zf | apply Ze) | exact HB.out))) : w.heap.size ≤ gb110)); have GE110 := Za.mk ((by rw [hg]; exact (Zr (by repeat (first | (with_reducible first | exact HB.out | apply Zd | apply Zf | apply Ze) | exact HB.out))) : w.heap.size ≤ gb110)); replace HB := Za.mk (Zx (by repeat (first | (with_reducible first | exact HB.out | apply Zd | apply Zf | apply Ze) | exact HB.out)) hb); clear hb hbox hg) | ((with_reducible refine Zab (N := 3) rfl ?_); (try (refine Zal (by rfl) ?_; dsimp only)); refine Zad ?hg (N := 3) ?hd (cs := #[.int .u32 a1_0, .int .u32 a1_1, .slice A1_2 l1_2.length c1_2]) (t := 35) ?hr ?_; (case hd => rfl); (case hg => rfl); (case hr => first | (go_simp; done) | (go_simp; rfl)); intro gb111 hg w61 hbox hb; have BK111 := Za.mk (hbox); have GW111 := Za.mk ((by rw [hg]; exact (Zr (by repeat (first | (with_reducible first | exact HB.out | apply Zd | apply Zf | apply Ze | refine Zj ?_ GE110.out) | exact HB.out))) : w.heap.size ≤ gb111)); have GE111 := Za.mk ((by rw [hg]; exact (Zr (by repeat (first | (with_reducible first | exact HB.out | apply Zd | apply Zf | apply Ze | refine Zj ?_ GE110.out) | exact HB.out))) : w.heap.size ≤ gb111)); replace HB := Za.mk (Zx (by repeat (first | (with_reducible first | exact HB.out | apply Zd | apply Zf | apply Ze | refine Zj ?_ GE110.out) | exact HB.out)) hb); have NB110_111 := Za.mk ((by rw [hg]; exact Nat.ne_of_lt (Zaa (g := gb110) (o := .cells #[.int .u32 a0_0, .int .u32 a0_1, .slice A0_2 l0_2.length c0_2] 35 (0, 0)) (by (with_reducible repeat (first | refine Zo ?_ _ | refine Zm ?_ | refine Zn ?_ _)); exact BK110.out)) : gb110 ≠ gb111)); have NB111_110 := Za.mk ((by rw [hg]; exact Nat.ne_of_gt (Zaa (g := gb110) (o := .cells #[.int .u32 a0_0, .int .u32 a0_1, .slice A0_2 l0_2.length c0_2] 35 (0, 0)) (by (with_reducible repeat (first | refine Zo ?_ _ | refine Zm ?_ | refine Zn ?_ _)); exact BK110.out)) : gb111 ≠ gb110)); replace BK110 := Za.mk (Zak (g := gb110) (o := .cells #[.int .u32 a0_0, .int .u32 a0_1, .slice A0_2 l0_2.length c0_2] 35 (0, 0)) (by (with_reducible repeat (first | refine Zo ?_ _ | refine Zm ?_ | refine Zn ?_ _)); exact BK110.out) hb); clear hb hbox hg; have hnb62 := NB110_111.out; have hnc62 := NB111_110.out; have hcz63_0 : w61.cell? ⟨gb110, 0, none⟩ = some (.int .u32 a0_0) := (Zc BK110.out 0).trans rfl; have hcz63_1 : w61.cell? ⟨gb110, 1, none⟩ = some (.int .u32 a0_1) := (Zc BK110.out 1).trans rfl; have hcz63_2 : w61.cell? ⟨gb110, 2, none⟩ = some (.slice A0_2 l0_2.length c0_2) := (Zc BK110.out 2).trans rfl; have hfz63_0 := Zg BK110.out 0; have hfz63_1 := Zg BK110.out 1; have hfz63_2 := Zg BK110.out 2; have hcz64_0 : w61.cell? ⟨gb111, 0, none⟩ = some (.int .u32 a1_0) := (Zc BK111.out 0).trans rfl; have hcz64_1 : w61.cell? ⟨gb111, 1, none⟩ = some (.int .u32 a1_1) := (Zc BK111.out 1).trans rfl; have hcz64_2 : w61.cell? ⟨gb111, 2, none⟩ = some (.slice A1_2 l1_2.length c1_2) := (Zc BK111.out 2).trans rfl; have hfz64_0 := Zg BK111.out 0; have hfz64_1 := Zg BK111.out 1; have hfz64_2 := Zg BK111.out 2))
   repeat (go_quiet (first | ((with_reducible refine Zab (N := 2) rfl ?_); (try (refine Zal (by rfl) ?_; dsimp only)); refine Zad ?hg (N := 2) ?hd (cs := #[.int .u32 a0_0, .int .u32 a0_1, .slice A0_2 l0_2.length c0_2]) (t := 35) ?hr ?_; (case hd => rfl); (case hg => rfl); (case hr => first | (go_simp; done) | (go_simp; rfl)); intro gb110 hg w60 hbox hb; have n0_ := Za.mk (Zx (by repeat (first | (with_reducible first | exact HB.out | apply Zd | apply Zf | apply Ze) | exact HB.out)) hb); have n1_ := Za.mk (hbox); have n2_ := Za.mk ((by rw [hg]; exact (Zr (by repeat (first | (with_reducible first | exact HB.out | apply Zd | apply Zf | apply Ze) | exact HB.out))) : w.heap.size ≤ gb110)); have n3_ := Za.mk ((by rw [hg]; exact (Zr (by repeat (first | (with_reducible first | exact HB.out | apply Zd | apply Zf | apply Ze) | exact HB.out))) : w.heap.size ≤ gb110)); clear HB; have HB := n0_; have BK110 := n1_; have GW110 := n2_; have GE110 := n3_; clear n0_ n1_ n2_ n3_; clear hb hbox hg) | ((with_reducible refine Zab (N := 3) rfl ?_); (try (refine Zal (by rfl) ?_; dsimp only)); refine Zad ?hg (N := 3) ?hd (cs := #[.int .u32 a1_0, .int .u32 a1_1, .slice A1_2 l1_2.length c1_2]) (t := 35) ?hr ?_; (case hd => rfl); (case hg => rfl); (case hr => first | (go_simp; done) | (go_simp; rfl)); intro gb111 hg w61 hbox hb; have n0_ := Za.mk (Zak (g := gb110) (o := .cells #[.int .u32 a0_0, .int .u32 a0_1, .slice A0_2 l0_2.length c0_2] 35 (0, 0)) (by (with_reducible repeat (first | refine Zo ?_ _ | refine Zm ?_ | refine Zn ?_ _)); exact BK110.out) hb); have n1_ := Za.mk (Zx (by repeat (first | (with_reducible first | exact HB.out | apply Zd | apply Zf | apply Ze | refine Zj ?_ GE110.out) | exact HB.out)) hb); have n2_ := Za.mk (hbox); have n3_ := Za.mk ((by rw [hg]; exact (Zr (by repeat (first | (with_reducible first | exact HB.out | apply Zd | apply Zf | apply Ze | refine Zj ?_ GE110.out) | exact HB.out))) : w.heap.size ≤ gb111)); have n4_ := Za.mk ((by rw [hg]; exact (Zr (by repeat (first | (with_reducible first | exact HB.out | apply Zd | apply Zf | apply Ze | refine Zj ?_ GE110.out) | exact HB.out))) : w.heap.size ≤ gb111)); have n5_ := Za.mk ((by rw [hg]; exact Nat.ne_of_lt (Zaa (g := gb110) (o := .cells #[.int .u32 a0_0, .int .u32 a0_1, .slice A0_2 l0_2.length c0_2] 35 (0, 0)) (by (with_reducible repeat (first | refine Zo ?_ _ | refine Zm ?_ | refine Zn ?_ _)); exact BK110.out)) : gb110 ≠ gb111)); have n6_ := Za.mk ((by rw [hg]; exact Nat.ne_of_gt (Zaa (g := gb110) (o := .cells #[.int .u32 a0_0, .int .u32 a0_1, .slice A0_2 l0_2.length c0_2] 35 (0, 0)) (by (with_reducible repeat (first | refine Zo ?_ _ | refine Zm ?_ | refine Zn ?_ _)); exact BK110.out)) : gb111 ≠ gb110)); clear BK110; clear HB; have BK110 := n0_; have HB := n1_; have BK111 := n2_; have GW111 := n3_; have GE111 := n4_; have NB110_111 := n5_; have NB111_110 := n6_; clear n0_ n1_ n2_ n3_ n4_ n5_ n6_; clear hb hbox hg; have hnb62 := NB110_111.out; have hnc62 := NB111_110.out; have hcz63_0 : w61.cell? ⟨gb110, 0, none⟩ = some (.int .u32 a0_0) := (Zc BK110.out 0).trans rfl; have hcz63_1 : w61.cell? ⟨gb110, 1, none⟩ = some (.int .u32 a0_1) := (Zc BK110.out 1).trans rfl; have hcz63_2 : w61.cell? ⟨gb110, 2, none⟩ = some (.slice A0_2 l0_2.length c0_2) := (Zc BK110.out 2).trans rfl; have hfz63_0 := Zg BK110.out 0; have hfz63_1 := Zg BK110.out 1; have hfz63_2 := Zg BK110.out 2; have hcz64_0 : w61.cell? ⟨gb111, 0, none⟩ = some (.int .u32 a1_0) := (Zc BK111.out 0).trans rfl; have hcz64_1 : w61.cell? ⟨gb111, 1, none⟩ = some (.int .u32 a1_1) := (Zc BK111.out 1).trans rfl; have hcz64_2 : w61.cell? ⟨gb111, 2, none⟩ = some (.slice A1_2 l1_2.length c1_2) := (Zc BK111.out 2).trans rfl; have hfz64_0 := Zg BK111.out 0; have hfz64_1 := Zg BK111.out 1; have hfz64_2 := Zg BK111.out 2)); try go_wp2_with (first | ((with_reducible refine Zab (N := 2) rfl ?_); (try (refine Zal (by rfl) ?_; dsimp only)); refine Zad ?hg (N := 2) ?hd (cs := #[.int .u32 a0_0, .int .u32 a0_1, .slice A0_2 l0_2.length c0_2]) (t := 35) ?hr ?_; (case hd => rfl); (case hg => rfl); (case hr => first | (go_simp; done) | (go_simp; rfl)); intro gb110 hg w60 hbox hb; have n0_ := Za.mk (Zx (by repeat (first | (with_reducible first | exact HB.out | apply Zd | apply Zf | apply Ze) | exact HB.out)) hb); have n1_ := Za.mk (hbox); have n2_ := Za.mk ((by rw [hg]; exact (Zr (by repeat (first | (with_reducible first | exact HB.out | apply Zd | apply Zf | apply Ze) | exact HB.out))) : w.heap.size ≤ gb110)); have n3_ := Za.mk ((by rw [hg]; exact (Zr (by repeat (first | (with_reducible first | exact HB.out | apply Zd | apply Zf | apply Ze) | exact HB.out))) : w.heap.size ≤ gb110)); clear HB; have HB := n0_; have BK110 := n1_; have GW110 := n2_; have GE110 := n3_; clear n0_ n1_ n2_ n3_; clear hb hbox hg) | ((with_reducible refine Zab (N := 3) rfl ?_); (try (refine Zal (by rfl) ?_; dsimp only)); refine Zad ?hg (N := 3) ?hd (cs := #[.int .u32 a1_0, .int .u32 a1_1, .slice A1_2 l1_2.length c1_2]) (t := 35) ?hr ?_; (case hd => rfl); (case hg => rfl); (case hr => first | (go_simp; done) | (go_simp; rfl)); intro gb111 hg w61 hbox hb; have n0_ := Za.mk (Zak (g := gb110) (o := .cells #[.int .u32 a0_0, .int .u32 a0_1, .slice A0_2 l0_2.length c0_2] 35 (0, 0)) (by (with_reducible repeat (first | refine Zo ?_ _ | refine Zm ?_ | refine Zn ?_ _)); exact BK110.out) hb); have n1_ := Za.mk (Zx (by repeat (first | (with_reducible first | exact HB.out | apply Zd | apply Zf | apply Ze | refine Zj ?_ GE110.out) | exact HB.out)) hb); have n2_ := Za.mk (hbox); have n3_ := Za.mk ((by rw [hg]; exact (Zr (by repeat (first | (with_reducible first | exact HB.out | apply Zd | apply Zf | apply Ze | refine Zj ?_ GE110.out) | exact HB.out))) : w.heap.size ≤ gb111)); have n4_ := Za.mk ((by rw [hg]; exact (Zr (by repeat (first | (with_reducible first | exact HB.out | apply Zd | apply Zf | apply Ze | refine Zj ?_ GE110.out) | exact HB.out))) : w.heap.size ≤ gb111)); have n5_ := Za.mk ((by rw [hg]; exact Nat.ne_of_lt (Zaa (g := gb110) (o := .cells #[.int .u32 a0_0, .int .u32 a0_1, .slice A0_2 l0_2.length c0_2] 35 (0, 0)) (by (with_reducible repeat (first | refine Zo ?_ _ | refine Zm ?_ | refine Zn ?_ _)); exact BK110.out)) : gb110 ≠ gb111)); have n6_ := Za.mk ((by rw [hg]; exact Nat.ne_of_gt (Zaa (g := gb110) (o := .cells #[.int .u32 a0_0, .int .u32 a0_1, .slice A0_2 l0_2.length c0_2] 35 (0, 0)) (by (with_reducible repeat (first | refine Zo ?_ _ | refine Zm ?_ | refine Zn ?_ _)); exact BK110.out)) : gb111 ≠ gb110)); clear BK110; clear HB; have BK110 := n0_; have HB := n1_; have BK111 := n2_; have GW111 := n3_; have GE111 := n4_; have NB110_111 := n5_; have NB111_110 := n6_; clear n0_ n1_ n2_ n3_ n4_ n5_ n6_; clear hb hbox hg; have hnb62 := NB110_111.out; have hnc62 := NB111_110.out; have hcz63_0 : w61.cell? ⟨gb110, 0, none⟩ = some (.int .u32 a0_0) := (Zc BK110.out 0).trans rfl; have hcz63_1 : w61.cell? ⟨gb110, 1, none⟩ = some (.int .u32 a0_1) := (Zc BK110.out 1).trans rfl; have hcz63_2 : w61.cell? ⟨gb110, 2, none⟩ = some (.slice A0_2 l0_2.length c0_2) := (Zc BK110.out 2).trans rfl; have hfz63_0 := Zg BK110.out 0; have hfz63_1 := Zg BK110.out 1; have hfz63_2 := Zg BK110.out 2; have hcz64_0 : w61.cell? ⟨gb111, 0, none⟩ = some (.int .u32 a1_0) := (Zc BK111.out 0).trans rfl; have hcz64_1 : w61.cell? ⟨gb111, 1, none⟩ = some (.int .u32 a1_1) := (Zc BK111.out 1).trans rfl; have hcz64_2 : w61.cell? ⟨gb111, 2, none⟩ = some (.slice A1_2 l1_2.length c1_2) := (Zc BK111.out 2).trans rfl; have hfz64_0 := Zg BK111.out 0; have hfz64_1 := Zg BK111.out 1; have hfz64_2 := Zg BK111.out 2)))
   go_ret
   exact ⟨by first | rfl | (simp [Zy, Zz] <;> rfl) | (simp [*, Zy, Zz] <;> rfl), by repeat (first | (with_reducible first | exact HB.out | apply Zd | apply Zf | apply Ze | refine Zj ?_ GE110.out | refine Zj ?_ GE111.out) | exact HB.out)⟩

end Go.Proofs.Ytjpjfkmnfppgkaa.P
