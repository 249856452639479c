import Derived.Test.YtgmbahldjiiajaaGFnExactCompile4
import Derived.Test.YtgmbahldjiiajaaGFnExactCompile16
import Derived.Test.YtgmbahldjiiajaaGFnExactCompile18
import Derived.Carry
import Derived.Deep.Cut
import Derived.Test.YtgmbahldjiiajaaGFnExactCompile6
import Derived.Deep.LoopGhost
import Derived.Test.YtgmbahldjiiajaaGFnExactCompile14
import Derived.Test.YtgmbahldjiiajaaGFnExactCompile7
namespace Go.Proofs.Ytgmbahldjiiajaa.P
open Go.RowKit Go.Proofs.YtgmbahldjiiajaaW.PrintWords Go.Proofs.YtgmbahldjiiajaaW.PrintLast Go.Proofs.YtgmbahldjiiajaaW.PrintMore
attribute [local go_sem] max2_int min2_int max_two min_two max_three min_three max_four min_four
set_option linter.unusedVariables false
set_option linter.unusedSimpArgs false

mutual
def Zbd.l0 : Nat → List (S69) → Int → Int → List (S61) → Int → Int → Int → Int → Int → Int → Option ((List (S69)))
 | 0, _, _, _, _, _, _, _, _, _, _ => none
 | k + 1, x4, x5, x6, x416000, x423000, x423001, x423002, x423003, x423004, x423005 => if x6 < (x416000.length : Int) then (Zbd.l1 k x4 x5 x6 x6 x416000 x423000 x423001 x423002 x423003 x423004 x423005) else ((Zax.f 0).bind fun bt435 => (if x4.length < 5864062014805 then ((some (x4 ++ [(⟨bt435.1, (⟨bt435.2.1, bt435.2.2.1, bt435.2.2.2.1, bt435.2.2.2.2.1⟩ : S52), bt435.2.2.2.2.2⟩ : S69)] : List (S69))).bind fun y441 => (if y441.length < 5864062014805 then (some (y441 ++ [(⟨x423000, (⟨x423001, x423002, x423003, x423004⟩ : S52), x423005⟩ : S69)])) else (none))) else (none)))
def Zbd.j2 : Nat → List (S69) → Int → Int → Int → List (S61) → Int → Int → Int → Int → Int → Int → Option ((List (S69)))
 | 0, _, _, _, _, _, _, _, _, _, _, _ => none
 | k + 1, x4, x5, x6, x7, x416000, x423000, x423001, x423002, x423003, x423004, x423005 => if 0 ≤ x6 then (if x6 < (x416000.length : Int) then ((Zak.f 2 21 ((Zi x416000 x6).f0) x5).bind fun bt450 => (if x4.length < 5864062014805 then ((some (x4 ++ [(⟨bt450.1, (⟨bt450.2.1, bt450.2.2.1, bt450.2.2.2.1, bt450.2.2.2.2.1⟩ : S52), bt450.2.2.2.2.2⟩ : S69)] : List (S69))).bind fun y456 => ((Zbh.f 0).bind fun bt459 => (if y456.length < 5864062014805 then ((some (y456 ++ [(⟨bt459.1, (⟨bt459.2.1, bt459.2.2.1, bt459.2.2.2.1, bt459.2.2.2.2.1⟩ : S52), bt459.2.2.2.2.2⟩ : S69)] : List (S69))).bind fun y465 => (if x6 ≤ x7 then (if x7 ≤ (x416000.length : Int) then ((Zbi.f k ((x416000.take (x7 : Int).toNat).drop (x6 : Int).toNat) (wrap64 (x5 + 1))).bind fun t472 => (if y465.length + t472.length < 5864062014805 then ((some (y465 ++ t472 : List (S69))).bind fun y475 => ((Zax.f x5).bind fun bt478 => (if y475.length < 5864062014805 then ((Zbo.f k ((x416000.take (x7 : Int).toNat).drop (x6 : Int).toNat)).bind fun t491 => (Zbd.l0 k (y475 ++ [(⟨bt478.1, (⟨bt478.2.1, bt478.2.2.1, bt478.2.2.2.1, bt478.2.2.2.2.1⟩ : S52), bt478.2.2.2.2.2⟩ : S69)]) (wrap64 (x5 + (wrap64 (1 + t491)))) x7 x416000 x423000 x423001 x423002 x423003 x423004 x423005)) else (none)))) else (none))) else (none)) else (none))) else (none)))) else (none))) else (none)) else (none)
def Zbd.l1 : Nat → List (S69) → Int → Int → Int → List (S61) → Int → Int → Int → Int → Int → Int → Option ((List (S69)))
 | 0, _, _, _, _, _, _, _, _, _, _, _ => none
 | k + 1, x4, x5, x6, x7, x416000, x423000, x423001, x423002, x423003, x423004, x423005 => if x7 < (x416000.length : Int) then (if 0 ≤ x7 then (if 0 ≤ x6 then (if x6 < (x416000.length : Int) then (if ((Zi x416000 x7).f0) = ((Zi x416000 x6).f0) then (Zbd.l1 k x4 x5 x6 (wrap64 (x7 + 1)) x416000 x423000 x423001 x423002 x423003 x423004 x423005) else (Zbd.j2 k x4 x5 x6 x7 x416000 x423000 x423001 x423002 x423003 x423004 x423005)) else (none)) else (none)) else (none)) else (Zbd.j2 k x4 x5 x6 x7 x416000 x423000 x423001 x423002 x423003 x423004 x423005)
end
def Zbd.f (k : Nat) (l0_0 : List (S61)) : Option ((List (S69))) := (Zbs.f 6 2147483648).bind fun bt416 => (if (l0_0.length : Int) = 0 then (some (([(⟨bt416.1, (⟨bt416.2.1, bt416.2.2.1, bt416.2.2.2.1, bt416.2.2.2.2.1⟩ : S52), bt416.2.2.2.2.2⟩ : S69)] : List (S69)))) else ((Zbh.f 4).bind fun bt426 => (Zbd.l0 k (([(⟨bt426.1, (⟨bt426.2.1, bt426.2.2.1, bt426.2.2.2.1, bt426.2.2.2.2.1⟩ : S52), bt426.2.2.2.2.2⟩ : S69)] : List (S69))) 1 0 l0_0 bt416.1 bt416.2.1 bt416.2.2.1 bt416.2.2.2.1 bt416.2.2.2.2.1 bt416.2.2.2.2.2)))
theorem ite_get {α : Type} {c : Prop} [Decidable c] {a : Option α} {r : α} (h : (if c then a else none) = some r) : c ∧ a = some r := by
 by_cases hc : c
 ·rw [if_pos hc] at h
  exact ⟨hc, h⟩
 ·rw [if_neg hc] at h
  cases h
set_option maxHeartbeats 8000000 in
set_option maxRecDepth 100000 in
theorem Zbd.calls (k : Nat) (A0_0 : Option Addr) (c0_0 : Nat) (l0_0 : List (S61)) (r : List (S69)) (w : World) (hr0_0 : Kd.C k61 w A0_0 l0_0.length l0_0) (hc0_0 : l0_0.length ≤ c0_0) (h : Zbd.f k l0_0 = some r) :
  Calls Try.prog 16 #[.agg #[.slice A0_0 l0_0.length c0_0]] w fun e w' => ∃ v0_ : Value, e = .returned (v0_) ∧ Kd.R k69 69 w' w.heap.size (fun _ => True) v0_ r ∧ Below w.heap.size w w' := by
 have HR := Za.mk (And.intro hr0_0 hc0_0)
 have hlm := hr0_0.2.1
 clear hr0_0 hc0_0
 unfold Zbd.f at h
 simp only [Zbs.f, Zbh.f, Option.bind_some] at h
 have HB := Za.mk (Zc (Below.refl w.heap.size w) (.cells #[.slice A0_0 l0_0.length c0_0] 31))
 have BK1 := Za.mk (blk_new w (.cells #[.slice A0_0 l0_0.length c0_0] 31))
 -- the box of the last instruction
 have hzz : ∀ b : Bool, ((l0_0.length : Int) == 0) = b → Za (b = true ↔ (l0_0.length : Int) = 0) := fun b hb => ⟨by rw [← hb, beq_iff_eq]⟩
 go_enter Try.func16, Try.ntmps16
 go_upto_if 12 with (first | (go_at_call 28; refine (Zbs.calls 6 2147483648 _ _ _ _ _ _ _ rfl).mono ?_; rintro e w5 ⟨rfl, hb⟩; replace BK1 := Za.mk (Zp BK1.out hb); replace HB := Za.mk (Zo HB.out hb); have q1 : w5.cell? ⟨w.heap.size, 0, none⟩ = some (.slice A0_0 l0_0.length c0_0) := (Zb BK1.out 0).trans rfl; have hlt : w.heap.size < w5.heap.size := Zs BK1.out; clear hb))
 have hb := Zc (Below.refl w5.heap.size w5) (.cells #[.int .i64 0, .int .u16 6, .int .u8 0, .int .u8 0, .int .u32 2147483648, .int .i64 0] 69)
 have hbk := blk_new w5 (.cells #[.int .i64 0, .int .u16 6, .int .u8 0, .int .u8 0, .int .u32 2147483648, .int .i64 0] 69)
 generalize w5.alloc (.cells #[.int .i64 0, .int .u16 6, .int .u8 0, .int .u8 0, .int .u32 2147483648, .int .i64 0] 69) = w6 at hb hbk ⊢
 obtain ⟨g3, hg3⟩ : ∃ g, w5.heap.size = g := ⟨_, rfl⟩
 rw [hg3] at hbk ⊢
 have BK3 := Za.mk hbk
 have nb := Za.mk (Zo HB.out hb)
 have nk := Za.mk (Zp BK1.out hb)
 clear HB BK1 hb hbk hlt q1 hg3
 have HB := nb
 have BK1 := nk
 clear nb nk
 by_cases hz : (l0_0.length : Int) = 0
 ·rw [if_pos hz] at h
  obtain rfl := Option.some.inj h
  have hzb : ((l0_0.length : Int) == 0) = true := beq_iff_eq.2 hz
  have d_ := True.intro
  have q1 : w6.cell? ⟨w.heap.size, 0, none⟩ = some (.slice A0_0 l0_0.length c0_0) := (Zb BK1.out 0).trans rfl; have d0 : w6.cell? ⟨g3, 0, none⟩ = some (.int .i64 0) := (Zb BK3.out 0).trans rfl; have d1 : w6.cell? ⟨g3, 1, none⟩ = some (.int .u16 6) := (Zb BK3.out 1).trans rfl; have d2 : w6.cell? ⟨g3, 2, none⟩ = some (.int .u8 0) := (Zb BK3.out 2).trans rfl; have d3 : w6.cell? ⟨g3, 3, none⟩ = some (.int .u8 0) := (Zb BK3.out 3).trans rfl; have d4 : w6.cell? ⟨g3, 4, none⟩ = some (.int .u32 2147483648) := (Zb BK3.out 4).trans rfl; have d5 : w6.cell? ⟨g3, 5, none⟩ = some (.int .i64 0) := (Zb BK3.out 5).trans rfl
  clear h hz hzz
  go_wp2_with (first | ((with_reducible refine Zab (N := 14) rfl ?_); refine Kd.R_lit k69 _ 69 ?hg (N := 14) ?hd (xs := [(⟨0, ⟨6, 0, 0, 2147483648⟩, 0⟩ : S69)]) (inner := [.int .i64 0, .int .u16 6, .int .u8 0, .int .u8 0, .int .u32 2147483648, .int .i64 0]) (ok := fun _ => True) (okp := fun _ => True) ?hr ?hp (fun _ hk => hk) trivial (Below.refl _ _) (Nat.le_refl _) (by simp) ?_; (case hd => rfl); (case hg => rfl); (case hr => go_simp <;> rfl); (case hp => exact (Reps.c6 (Zbg _ _ _ (⟨0, ⟨6, 0, 0, 2147483648⟩, 0⟩ : S69)) (Reps.none _ _))); intro v5 w5 ho hb hg hat; obtain ⟨A5, c5, e5⟩ := Kd.Zay ho; subst e5; have HO := Za.mk (Kd.Zbk (Kd.Zas (ok' := (fun k => k ≠ g3)) (Kd.R_bound ho) (fun k_ hk => by have := hk.2.1; have := Zs BK3.out; omega)) HB.out.size); replace BK1 := Za.mk (Zp BK1.out hb); replace BK3 := Za.mk (Zp BK3.out hb); replace HB := Za.mk (Zo HB.out hb); (try clear q1); have q1 : w5.cell? ⟨w.heap.size, 0, none⟩ = some (.slice A0_0 l0_0.length c0_0) := (Zb BK1.out 0).trans rfl;  clear ho hb hg hat))
  go_ret
  exact ⟨_, rfl, Kd.Zas HO.out (fun _ _ => trivial), HB.out⟩
 rw [if_neg hz] at h
 have hzb : ((l0_0.length : Int) == 0) = false := beq_eq_false_iff_ne.2 hz
 have HH := Za.mk h
 have d_ := True.intro
 have q1 : w6.cell? ⟨w.heap.size, 0, none⟩ = some (.slice A0_0 l0_0.length c0_0) := (Zb BK1.out 0).trans rfl
 clear h hz hzz
 go_wp2_with (first | (go_at_call 29; refine (Zbh.calls 4 _ _ _ _ _ _ _ rfl).mono ?_; rintro e w5 ⟨rfl, hb⟩; replace BK1 := Za.mk (Zp BK1.out hb); replace BK3 := Za.mk (Zp BK3.out hb); replace HB := Za.mk (Zo HB.out hb); (try clear q1); have q1 : w5.cell? ⟨w.heap.size, 0, none⟩ = some (.slice A0_0 l0_0.length c0_0) := (Zb BK1.out 0).trans rfl;  clear hb) | ((with_reducible refine Zab (N := 16) rfl ?_); refine Kd.R_lit k69 _ 69 ?hg (N := 16) ?hd (xs := [(⟨0, ⟨32, 0, 0, 4⟩, 0⟩ : S69)]) (inner := [.int .i64 0, .int .u16 32, .int .u8 0, .int .u8 0, .int .u32 4, .int .i64 0]) (ok := fun _ => True) (okp := fun _ => True) ?hr ?hp (fun _ hk => hk) trivial (Below.refl _ _) (Nat.le_refl _) (by simp) ?_; (case hd => rfl); (case hg => rfl); (case hr => go_simp <;> rfl); (case hp => exact (Reps.c6 (Zbg _ _ _ (⟨0, ⟨32, 0, 0, 4⟩, 0⟩ : S69)) (Reps.none _ _))); intro v5 w5 ho hb hg hat; obtain ⟨A5, c5, e5⟩ := Kd.Zay ho; subst e5; have HO := Za.mk (Kd.Zbk (Kd.Zas (ok' := (fun k => k ≠ g3)) (Kd.R_bound ho) (fun k_ hk => by have := hk.2.1; have := Zs BK3.out; omega)) HB.out.size); replace BK1 := Za.mk (Zp BK1.out hb); replace BK3 := Za.mk (Zp BK3.out hb); replace HB := Za.mk (Zo HB.out hb); (try clear q1); have q1 : w5.cell? ⟨w.heap.size, 0, none⟩ = some (.slice A0_0 l0_0.length c0_0) := (Zb BK1.out 0).trans rfl;  clear ho hb hg hat))
 go_loopg [4, 5, 6, 7] k (fun kq v4 v5 v6 _ w' => ∃ (x4 : List S69) (x5 x6 : Int), v5 = .int .i64 x5 ∧ v6 = .int .i64 x6 ∧ Za (Zbd.l0 kq x4 x5 x6 l0_0 0 6 0 0 2147483648 0 = some r) ∧ Za (Kd.R k69 69 w' w.heap.size (fun k => k ≠ g3) v4 x4) ∧ Za (Below w.heap.size w w') ∧ Za (w'.heap[w.heap.size]? = some (.cells #[.slice A0_0 l0_0.length c0_0] 31 (0, 0))) ∧ Za (w'.heap[g3]? = some (.cells #[.int .i64 0, .int .u16 6, .int .u8 0, .int .u8 0, .int .u32 2147483648, .int .i64 0] 69 (0, 0))))
 case atStart => exact ⟨_, 1, 0, rfl, rfl, HH, HO, HB, BK1, BK3⟩
 case round =>
  clear HH HO HB BK1 BK3
  obtain ⟨x4, x5, x6, rfl, rfl, HA, HO, HB, BK1, BK3⟩ := hrel
  cases gk with
  | zero => exact absurd HA.out (by simp [Zbd.l0])
  | succ k1 =>
   have H := HA.out
   clear HA
   simp only [Zbd.l0, Zax.f, Option.bind_some] at H
   have q1 : wr.cell? ⟨w.heap.size, 0, none⟩ = some (.slice A0_0 l0_0.length c0_0) := (Zb BK1.out 0).trans rfl
   obtain ⟨Ao, co, eo⟩ := Kd.Zay HO.out
   subst eo
   by_cases c6 : x6 < (l0_0.length : Int)
   case neg =>
    rw [if_neg c6] at H
    have c6b : decide (x6 < (l0_0.length : Int)) = false := decide_eq_false c6
    obtain ⟨e1, H⟩ := ite_get H
    obtain ⟨y1, hy1⟩ : ∃ y, x4 ++ [(⟨4, ⟨0, 0, 0, 0⟩, 0⟩ : S69)] = y := ⟨_, rfl⟩
    rw [hy1] at H
    have Ny1 := Za.mk hy1
    obtain ⟨e2, H⟩ := ite_get H
    obtain ⟨y2, hy2⟩ : ∃ y, y1 ++ [(⟨0, ⟨6, 0, 0, 2147483648⟩, 0⟩ : S69)] = y := ⟨_, rfl⟩
    rw [hy2] at H
    have Ny2 := Za.mk hy2
    obtain rfl := Option.some.inj H
    clear hy1 hy2
    have HL1 := Za.mk e1
    have HL2 := Za.mk e2
    clear H c6 e1 e2
    go_wp2_with (first | (go_at_call 32; refine (Zax.calls 0 _ _ _ _ _ _ _ rfl).mono ?_; rintro e w5 ⟨rfl, hb⟩; replace HO := Za.mk (Kd.Zam HO.out hb); replace BK1 := Za.mk (Zp BK1.out hb); replace BK3 := Za.mk (Zp BK3.out hb); replace HB := Za.mk (Zo HB.out hb); (try clear q1); have q1 : w5.cell? ⟨w.heap.size, 0, none⟩ = some (.slice A0_0 l0_0.length c0_0) := (Zb BK1.out 0).trans rfl;  clear hb) | ((with_reducible refine Zba (b := .append) (xs := #[.tmp 85, .tmp 87]) rfl ?_); at_builtin; refine Kd.Zbb k69 (w0 := w) w.heap.size rfl (.tmp 85) (.tmp 87) 41 69 (.agg #[(.int .i64 0), (.int .u16 0), (.int .u8 0), (.int .u8 0), (.int .u32 0), (.int .i64 0)]) 24 rfl Try.underlying41 info69 rfl (by decide) (by omega) (.slice Ao x4.length co) x4 (⟨4, ⟨0, 0, 0, 0⟩, 0⟩ : S69) [.int .i64 4, .int .u16 0, .int .u8 0, .int .u8 0, .int .u32 0, .int .i64 0] (fun k => k ≠ g3) (fun _ => False) rfl rfl ?aP (fun _ hk => hk.elim) ?aF ?aO ?aB ?aS ?aL ?_; (case aP => exact Zbg _ _ _ (⟨4, ⟨0, 0, 0, 0⟩, 0⟩ : S69)); (case aB => exact HB.out); (case aF => exact (fun k hk e => by have := Zs BK3.out; omega)); (case aO => exact HO.out); (case aS => exact Zl HB.out); (case aL => have := HL1.out; (try simp only [List.length_append, List.length_cons, List.length_nil] at this ⊢); omega); intro v5 w5 ho hb hg hat; rw [Ny1.out] at ho; obtain ⟨A5, c5, e5⟩ := Kd.Zay ho; subst e5; replace BK1 := Za.mk ((hg.block w.heap.size (Zs BK1.out) (Kd.R_ne HO.out BK1.out (by decide))).trans BK1.out); replace BK3 := Za.mk ((hg.block g3 (Zs BK3.out) (fun e => HO.out.1 g3 e.symm rfl)).trans BK3.out); replace HO := Za.mk (ho); replace HB := Za.mk (hb); (try clear q1); have q1 : w5.cell? ⟨w.heap.size, 0, none⟩ = some (.slice A0_0 l0_0.length c0_0) := (Zb BK1.out 0).trans rfl;  have d0 : w5.cell? ⟨g3, 0, none⟩ = some (.int .i64 0) := (Zb BK3.out 0).trans rfl; have d1 : w5.cell? ⟨g3, 1, none⟩ = some (.int .u16 6) := (Zb BK3.out 1).trans rfl; have d2 : w5.cell? ⟨g3, 2, none⟩ = some (.int .u8 0) := (Zb BK3.out 2).trans rfl; have d3 : w5.cell? ⟨g3, 3, none⟩ = some (.int .u8 0) := (Zb BK3.out 3).trans rfl; have d4 : w5.cell? ⟨g3, 4, none⟩ = some (.int .u32 2147483648) := (Zb BK3.out 4).trans rfl; have d5 : w5.cell? ⟨g3, 5, none⟩ = some (.int .i64 0) := (Zb BK3.out 5).trans rfl; clear ho hb hg hat) | ((with_reducible refine Zba (b := .append) (xs := #[.tmp 89, .tmp 91]) rfl ?_); at_builtin; refine Kd.Zbb k69 (w0 := w) w.heap.size rfl (.tmp 89) (.tmp 91) 41 69 (.agg #[(.int .i64 0), (.int .u16 0), (.int .u8 0), (.int .u8 0), (.int .u32 0), (.int .i64 0)]) 24 rfl Try.underlying41 info69 rfl (by decide) (by omega) (.slice A5 y1.length c5) y1 (⟨0, ⟨6, 0, 0, 2147483648⟩, 0⟩ : S69) [.int .i64 0, .int .u16 6, .int .u8 0, .int .u8 0, .int .u32 2147483648, .int .i64 0] (fun k => k ≠ g3) (fun _ => False) rfl rfl ?aP (fun _ hk => hk.elim) ?aF ?aO ?aB ?aS ?aL ?_; (case aP => exact Zbg _ _ _ (⟨0, ⟨6, 0, 0, 2147483648⟩, 0⟩ : S69)); (case aB => exact HB.out); (case aF => exact (fun k hk e => by have := Zs BK3.out; omega)); (case aO => exact HO.out); (case aS => exact Zl HB.out); (case aL => have := HL2.out; (try simp only [List.length_append, List.length_cons, List.length_nil] at this ⊢); omega); intro v5 w5 ho hb hg hat; rw [Ny2.out] at ho; obtain ⟨A5, c5, e5⟩ := Kd.Zay ho; subst e5; replace BK1 := Za.mk ((hg.block w.heap.size (Zs BK1.out) (Kd.R_ne HO.out BK1.out (by decide))).trans BK1.out); replace BK3 := Za.mk ((hg.block g3 (Zs BK3.out) (fun e => HO.out.1 g3 e.symm rfl)).trans BK3.out); replace HO := Za.mk (ho); replace HB := Za.mk (hb); (try clear q1); have q1 : w5.cell? ⟨w.heap.size, 0, none⟩ = some (.slice A0_0 l0_0.length c0_0) := (Zb BK1.out 0).trans rfl;  clear ho hb hg hat))
    go_ret
    exact ⟨_, rfl, Kd.Zas HO.out (fun _ _ => trivial), HB.out⟩
   rw [if_pos c6] at H
   have c6b : decide (x6 < (l0_0.length : Int)) = true := decide_eq_true c6
   have HH := Za.mk H
   clear H
   go_wp2_with fail
   clear q1 c6b
   go_loopg [7] k1 (fun kq v7 w' => ∃ x7 : Int, v7 = .int .i64 x7 ∧ Za (Zbd.l1 kq x4 x5 x6 x7 l0_0 0 6 0 0 2147483648 0 = some r) ∧ Za (kq ≤ k1) ∧ Za (Kd.R k69 69 w' w.heap.size (fun k => k ≠ g3) (.slice Ao x4.length co) x4) ∧ Za (Below w.heap.size w w') ∧ Za (w'.heap[w.heap.size]? = some (.cells #[.slice A0_0 l0_0.length c0_0] 31 (0, 0))) ∧ Za (w'.heap[g3]? = some (.cells #[.int .i64 0, .int .u16 6, .int .u8 0, .int .u8 0, .int .u32 2147483648, .int .i64 0] 69 (0, 0))))
   case atStart => exact ⟨x6, rfl, HH, ⟨Nat.le_refl _⟩, HO, HB, BK1, BK3⟩
   case round =>
    clear HH HO HB BK1 BK3
    obtain ⟨x7, rfl, HA, HQ, HO, HB, BK1, BK3⟩ := hrel
    cases gk with
    | zero => exact absurd HA.out (by simp [Zbd.l1])
    | succ k2 =>
     have H := HA.out
     clear HA
     simp only [Zbd.l1] at H
     have q1 : wr.cell? ⟨w.heap.size, 0, none⟩ = some (.slice A0_0 l0_0.length c0_0) := (Zb BK1.out 0).trans rfl
     obtain ⟨i1, hi1, _, hsz1, _⟩ := info_parts info61
     have hroom := HR.out.2
     by_cases c7 : x7 < (l0_0.length : Int)
     ·rw [if_pos c7] at H
      obtain ⟨e0, H⟩ := ite_get H
      obtain ⟨e1, H⟩ := ite_get H
      obtain ⟨e2, H⟩ := ite_get H
      have c7b : decide (x7 < (l0_0.length : Int)) = true := decide_eq_true c7
      obtain ⟨ad, A2, c2, ea, g0, g1, g2, g3_, g4⟩ := at_T61 HR.out.1 x7 e0 c7
      cases ea
      obtain ⟨ad', A3, c3, ea, f0, f1, f2, f3, f4⟩ := at_T61 HR.out.1 x6 e1 e2
      cases ea
      replace g0 := (HB.out.cell (World.block_lt_of_cell? w _ g0)).trans g0
      replace f0 := (HB.out.cell (World.block_lt_of_cell? w _ f0)).trans f0
      obtain ⟨a7, ha7⟩ : ∃ a, (Zi l0_0 x7).f0 = a := ⟨_, rfl⟩
      obtain ⟨a6, ha6⟩ : ∃ a, (Zi l0_0 x6).f0 = a := ⟨_, rfl⟩
      rw [ha7] at g0 H
      rw [ha6] at f0 H
      have HG0 := Za.mk g0
      have e0e := eq_true e0
      have e1e := eq_true e1
      have c7e := eq_true c7
      have e2e := eq_true e2
      have HA6 := Za.mk ha6
      clear g1 g2 g3_ g4 f1 f2 f3 f4 ha7 ha6
      by_cases ca : a7 = a6
      ·rw [if_pos ca] at H
       have hw7 : wrap64 (x7 + 1) = x7 + 1 := by unfold wrap64; omega
       rw [hw7] at H
       have cab : (a7 == a6) = true := beq_iff_eq.2 ca
       have HH := Za.mk H
       clear H ca
       go_wp2
       repeat (go_quiet (fail); try go_wp2)
       go_roundg k2
       case measure => omega
       case rel => exact ⟨_, rfl, HH, ⟨by have := HQ.out; omega⟩, ⟨Kd.Zy HO.out _⟩, ⟨Ze HB.out _⟩, ⟨Zg BK1.out _⟩, ⟨Zg BK3.out _⟩⟩
      rw [if_neg ca] at H
      have cab : (a7 == a6) = false := beq_eq_false_iff_ne.2 ca
      have HH := Za.mk H
      clear H g0 f0 e0 e1 e2 e0e e1e e2e c7e
      obtain ⟨k3, rfl⟩ : ∃ k3, k2 = k3 + 1 := by
       cases k2 with
       | zero => exact absurd HH.out (by simp [Zbd.j2])
       | succ n => exact ⟨n, rfl⟩
      have H := HH.out
      clear HH
      simp only [Zbd.j2, Zak.f, Zbh.f, Zbs.f, Zax.f, Option.bind_some, Int.zero_emod] at H
      obtain ⟨e1, H⟩ := ite_get H
      obtain ⟨e2, H⟩ := ite_get H
      obtain ⟨e3, H⟩ := ite_get H
      obtain ⟨ad, A3, c3, ea, f0, f1, f2, f3, f4⟩ := at_T61 HR.out.1 x6 e1 e2
      cases ea
      have f0o := f0
      replace f0 := (HB.out.cell (World.block_lt_of_cell? w _ f0)).trans f0
      have ha6 := HA6.out
      rw [ha6] at f0 f0o H
      obtain ⟨y1, hy1⟩ : ∃ y, x4 ++ [(⟨2, ⟨21, 0, 0, a6⟩, x5⟩ : S69)] = y := ⟨_, rfl⟩
      rw [hy1] at H
      obtain ⟨e4, H⟩ := ite_get H
      obtain ⟨y2, hy2⟩ : ∃ y, y1 ++ [(⟨0, ⟨32, 0, 0, 0⟩, 0⟩ : S69)] = y := ⟨_, rfl⟩
      rw [hy2] at H
      obtain ⟨e5, H⟩ := ite_get H
      obtain ⟨e6, H⟩ := ite_get H
      obtain ⟨ys, hys⟩ : ∃ ys, (l0_0.take (x7 : Int).toNat).drop (x6 : Int).toNat = ys := ⟨_, rfl⟩
      have hlys : x7.toNat - x6.toNat = ys.length := by rw [← hys, List.length_drop, List.length_take]; omega
      rw [hys] at H
      obtain ⟨t1, hT, H⟩ := Option.bind_eq_some_iff.1 H
      obtain ⟨e7, H⟩ := ite_get H
      obtain ⟨y3, hy3⟩ : ∃ y, y2 ++ t1 = y := ⟨_, rfl⟩
      rw [hy3] at H
      obtain ⟨e8, H⟩ := ite_get H
      obtain ⟨y4, hy4⟩ : ∃ y, y3 ++ [(⟨4, ⟨0, 0, 0, 0⟩, x5⟩ : S69)] = y := ⟨_, rfl⟩
      rw [hy4] at H
      obtain ⟨t2, hN, H⟩ := Option.bind_eq_some_iff.1 H
      have hcut := cut_mid (P := Try.prog) 29 61 .i64 .i64 Try.underlying29 hi1 3 hsz1 (some ad) l0_0.length c0_0 x6 x7 e1 e5 e6 hroom
      have HCY := Za.mk (Kd.C_mid (c := c0_0) (lo := x6.toNat) (hi := x7.toNat) HR.out.1 (by omega) (by omega) hroom)
      rw [if_neg (show ¬ c0_0 = x6.toNat by omega), Option.map_some, hlys] at hcut
      rw [if_neg (show ¬ c0_0 = x6.toNat by omega), Option.map_some, hys, show k61.sz = 3 from rfl] at HCY
      have HYC := Za.mk (show ys.length ≤ c0_0 - x6.toNat by omega)
      have e1e := eq_true e1
      have e2e := eq_true e2
      have HH := Za.mk H
      have HT := Za.mk hT
      have HN := Za.mk hN
      have HL3 := Za.mk e3
      have HL4 := Za.mk e4
      have HL7 := Za.mk e7
      have HL8 := Za.mk e8
      have Ny1 := Za.mk hy1
      have Ny2 := Za.mk hy2
      have Ny3 := Za.mk hy3
      have Ny4 := Za.mk hy4
      have HF := Za.mk f0o
      clear H hT hN e3 e4 e7 e8 hy1 hy2 hy3 hy4 f1 f2 f3 f4 ha6 hys hlys hi1 hsz1 f0o
      have g0 := HG0.out
      go_wp2
      go_quiet (fail)
      have n_ := Za.mk (Kd.Zy HO.out nq)
      clear HO
      have HO := n_
      clear n_
      have n_ := Za.mk (Ze HB.out nq)
      clear HB
      have HB := n_
      clear n_
      have n_ := Za.mk (Zg BK1.out nq)
      clear BK1
      have BK1 := n_
      clear n_
      have n_ := Za.mk (Zg BK3.out nq)
      clear BK3
      have BK3 := n_
      clear n_ q1 f0 hroom c7b cab ca
      generalize wr.drewN nq = wq at HO HB BK1 BK3 ⊢
      have q1 : wq.cell? ⟨w.heap.size, 0, none⟩ = some (.slice (some ad) l0_0.length c0_0) := (Zb BK1.out 0).trans rfl
      have f0 := (HB.out.cell (World.block_lt_of_cell? w _ HF.out)).trans HF.out
      go_wp2_with (first | (go_at_call 30; refine (Zak.calls 2 21 a6 x5 _ _ _ _ _ _ _ rfl).mono ?_; rintro e w5 ⟨rfl, hb⟩; replace HO := Za.mk (Kd.Zam HO.out hb); replace BK1 := Za.mk (Zp BK1.out hb); replace BK3 := Za.mk (Zp BK3.out hb); replace HB := Za.mk (Zo HB.out hb); (try clear q1); have q1 : w5.cell? ⟨w.heap.size, 0, none⟩ = some (.slice (some ad) l0_0.length c0_0) := (Zb BK1.out 0).trans rfl;  clear hb) | ((with_reducible refine Zba (b := .append) (xs := #[.tmp 45, .tmp 54]) rfl ?_); at_builtin; refine Kd.Zbb k69 (w0 := w) w.heap.size rfl (.tmp 45) (.tmp 54) 41 69 (.agg #[(.int .i64 0), (.int .u16 0), (.int .u8 0), (.int .u8 0), (.int .u32 0), (.int .i64 0)]) 24 rfl Try.underlying41 info69 rfl (by decide) (by omega) (.slice Ao x4.length co) x4 (⟨2, ⟨21, 0, 0, a6⟩, x5⟩ : S69) [.int .i64 2, .int .u16 21, .int .u8 0, .int .u8 0, .int .u32 (a6), .int .i64 (x5)] (fun k => k ≠ g3) (fun _ => False) rfl rfl ?aP (fun _ hk => hk.elim) ?aF ?aO ?aB ?aS ?aL ?_; (case aP => exact Zbg _ _ _ (⟨2, ⟨21, 0, 0, a6⟩, x5⟩ : S69)); (case aB => exact HB.out); (case aF => exact (fun k hk e => by have := Zs BK3.out; omega)); (case aO => exact HO.out); (case aS => exact Zl HB.out); (case aL => have := HL3.out; (try simp only [List.length_append, List.length_cons, List.length_nil] at this ⊢); omega); intro v5 w5 ho hb hg hat; rw [Ny1.out] at ho; obtain ⟨A5, c5, e5⟩ := Kd.Zay ho; subst e5; replace BK1 := Za.mk ((hg.block w.heap.size (Zs BK1.out) (Kd.R_ne HO.out BK1.out (by decide))).trans BK1.out); replace BK3 := Za.mk ((hg.block g3 (Zs BK3.out) (fun e => HO.out.1 g3 e.symm rfl)).trans BK3.out); replace HO := Za.mk (ho); replace HB := Za.mk (hb); (try clear q1); have q1 : w5.cell? ⟨w.heap.size, 0, none⟩ = some (.slice (some ad) l0_0.length c0_0) := (Zb BK1.out 0).trans rfl;  clear ho hb hg hat) | (go_at_call 29; refine (Zbh.calls 0 _ _ _ _ _ _ _ rfl).mono ?_; rintro e w5 ⟨rfl, hb⟩; replace HO := Za.mk (Kd.Zam HO.out hb); replace BK1 := Za.mk (Zp BK1.out hb); replace BK3 := Za.mk (Zp BK3.out hb); replace HB := Za.mk (Zo HB.out hb); (try clear q1); have q1 : w5.cell? ⟨w.heap.size, 0, none⟩ = some (.slice (some ad) l0_0.length c0_0) := (Zb BK1.out 0).trans rfl;  clear hb) | ((with_reducible refine Zba (b := .append) (xs := #[.tmp 56, .tmp 58]) rfl ?_); at_builtin; refine Kd.Zbb k69 (w0 := w) w.heap.size rfl (.tmp 56) (.tmp 58) 41 69 (.agg #[(.int .i64 0), (.int .u16 0), (.int .u8 0), (.int .u8 0), (.int .u32 0), (.int .i64 0)]) 24 rfl Try.underlying41 info69 rfl (by decide) (by omega) (.slice A5 y1.length c5) y1 (⟨0, ⟨32, 0, 0, 0⟩, 0⟩ : S69) [.int .i64 0, .int .u16 32, .int .u8 0, .int .u8 0, .int .u32 0, .int .i64 0] (fun k => k ≠ g3) (fun _ => False) rfl rfl ?aP (fun _ hk => hk.elim) ?aF ?aO ?aB ?aS ?aL ?_; (case aP => exact Zbg _ _ _ (⟨0, ⟨32, 0, 0, 0⟩, 0⟩ : S69)); (case aB => exact HB.out); (case aF => exact (fun k hk e => by have := Zs BK3.out; omega)); (case aO => exact HO.out); (case aS => exact Zl HB.out); (case aL => have := HL4.out; (try simp only [List.length_append, List.length_cons, List.length_nil] at this ⊢); omega); intro v5 w5 ho hb hg hat; rw [Ny2.out] at ho; obtain ⟨A5, c5, e5⟩ := Kd.Zay ho; subst e5; replace BK1 := Za.mk ((hg.block w.heap.size (Zs BK1.out) (Kd.R_ne HO.out BK1.out (by decide))).trans BK1.out); replace BK3 := Za.mk ((hg.block g3 (Zs BK3.out) (fun e => HO.out.1 g3 e.symm rfl)).trans BK3.out); replace HO := Za.mk (ho); replace HB := Za.mk (hb); (try clear q1); have q1 : w5.cell? ⟨w.heap.size, 0, none⟩ = some (.slice (some ad) l0_0.length c0_0) := (Zb BK1.out 0).trans rfl;  clear ho hb hg hat) | (go_at_call 31; refine (Zbi.calls k3 _ _ ys (wrap64 (x5 + 1)) t1 _ (Kd.Zan HCY.out HB.out) HYC.out HT.out).mono ?_; rintro e w5 ⟨v6, rfl, ho6, hb⟩; obtain ⟨A6, c6_, e6_⟩ := Kd.Zay ho6; subst e6_; have HO6 := Za.mk ho6; clear ho6; replace HO := Za.mk (Kd.Zam HO.out hb); replace BK1 := Za.mk (Zp BK1.out hb); replace BK3 := Za.mk (Zp BK3.out hb); replace HB := Za.mk (Zo HB.out hb); (try clear q1); have q1 : w5.cell? ⟨w.heap.size, 0, none⟩ = some (.slice (some ad) l0_0.length c0_0) := (Zb BK1.out 0).trans rfl;  clear hb) | ((with_reducible refine Zba (b := .append) (xs := #[.tmp 60, .tmp 68]) rfl ?_); at_builtin; refine Kd.R_append_rows k69 (Rr := k69.K _) (w0 := w) w.heap.size rfl (.tmp 60) (.tmp 68) 41 69 (.agg #[(.int .i64 0), (.int .u16 0), (.int .u8 0), (.int .u8 0), (.int .u32 0), (.int .i64 0)]) 24 rfl Try.underlying41 info69 rfl (by decide) (by omega) (.slice A5 y2.length c5) y2 t1 A6 t1.length c6_ (fun k => k ≠ g3) (fun _ => False) rfl rfl HO.out (Kd.Zat HO6.out).2.2 (fun x cs h => by have := k69_open h; subst this; exact Zbg _ _ _ x) (fun _ hk => hk.elim) (fun k hk e => by have := Zs BK3.out; omega) HB.out (Zl HB.out) (by have := HL7.out; omega) ?_; intro v5 w5 ho hb hg hat; rw [Ny3.out] at ho; obtain ⟨A5, c5, e5⟩ := Kd.Zay ho; subst e5; replace BK1 := Za.mk ((hg.block w.heap.size (Zs BK1.out) (Kd.R_ne HO.out BK1.out (by decide))).trans BK1.out); replace BK3 := Za.mk ((hg.block g3 (Zs BK3.out) (fun e => HO.out.1 g3 e.symm rfl)).trans BK3.out); replace HO := Za.mk (ho); replace HB := Za.mk (hb); (try clear q1); have q1 : w5.cell? ⟨w.heap.size, 0, none⟩ = some (.slice (some ad) l0_0.length c0_0) := (Zb BK1.out 0).trans rfl;  clear ho hb hg hat HO6) | (go_at_call 32; refine (Zax.calls x5 _ _ _ _ _ _ _ rfl).mono ?_; rintro e w5 ⟨rfl, hb⟩; replace HO := Za.mk (Kd.Zam HO.out hb); replace BK1 := Za.mk (Zp BK1.out hb); replace BK3 := Za.mk (Zp BK3.out hb); replace HB := Za.mk (Zo HB.out hb); (try clear q1); have q1 : w5.cell? ⟨w.heap.size, 0, none⟩ = some (.slice (some ad) l0_0.length c0_0) := (Zb BK1.out 0).trans rfl;  clear hb) | ((with_reducible refine Zba (b := .append) (xs := #[.tmp 70, .tmp 73]) rfl ?_); at_builtin; refine Kd.Zbb k69 (w0 := w) w.heap.size rfl (.tmp 70) (.tmp 73) 41 69 (.agg #[(.int .i64 0), (.int .u16 0), (.int .u8 0), (.int .u8 0), (.int .u32 0), (.int .i64 0)]) 24 rfl Try.underlying41 info69 rfl (by decide) (by omega) (.slice A5 y3.length c5) y3 (⟨4, ⟨0, 0, 0, 0⟩, x5⟩ : S69) [.int .i64 4, .int .u16 0, .int .u8 0, .int .u8 0, .int .u32 0, .int .i64 (x5)] (fun k => k ≠ g3) (fun _ => False) rfl rfl ?aP (fun _ hk => hk.elim) ?aF ?aO ?aB ?aS ?aL ?_; (case aP => exact Zbg _ _ _ (⟨4, ⟨0, 0, 0, 0⟩, x5⟩ : S69)); (case aB => exact HB.out); (case aF => exact (fun k hk e => by have := Zs BK3.out; omega)); (case aO => exact HO.out); (case aS => exact Zl HB.out); (case aL => have := HL8.out; (try simp only [List.length_append, List.length_cons, List.length_nil] at this ⊢); omega); intro v5 w5 ho hb hg hat; rw [Ny4.out] at ho; obtain ⟨A5, c5, e5⟩ := Kd.Zay ho; subst e5; replace BK1 := Za.mk ((hg.block w.heap.size (Zs BK1.out) (Kd.R_ne HO.out BK1.out (by decide))).trans BK1.out); replace BK3 := Za.mk ((hg.block g3 (Zs BK3.out) (fun e => HO.out.1 g3 e.symm rfl)).trans BK3.out); replace HO := Za.mk (ho); replace HB := Za.mk (hb); (try clear q1); have q1 : w5.cell? ⟨w.heap.size, 0, none⟩ = some (.slice (some ad) l0_0.length c0_0) := (Zb BK1.out 0).trans rfl;  clear ho hb hg hat) | (go_at_call 33; refine (Zbo.calls k3 _ _ ys t2 _ (Kd.Zan HCY.out HB.out) HYC.out HN.out).mono ?_; rintro e w5 ⟨rfl, hd⟩; have hb := hd.below; clear hd; replace HO := Za.mk (Kd.Zam HO.out hb); replace BK1 := Za.mk (Zp BK1.out hb); replace BK3 := Za.mk (Zp BK3.out hb); replace HB := Za.mk (Zo HB.out hb); (try clear q1); have q1 : w5.cell? ⟨w.heap.size, 0, none⟩ = some (.slice (some ad) l0_0.length c0_0) := (Zb BK1.out 0).trans rfl;  clear hb))
      go_roundg k3
      case measure => have := HQ.out; omega
      case rel => exact ⟨_, _, _, by first | rfl | (simp; done), by first | rfl | (simp; done), HH, HO, HB, BK1, BK3⟩
     rw [if_neg c7] at H
     have c7b : decide (x7 < (l0_0.length : Int)) = false := decide_eq_false c7
     have HH := Za.mk H
     clear H
     obtain ⟨k3, rfl⟩ : ∃ k3, k2 = k3 + 1 := by
      cases k2 with
      | zero => exact absurd HH.out (by simp [Zbd.j2])
      | succ n => exact ⟨n, rfl⟩
     have H := HH.out
     clear HH
     simp only [Zbd.j2, Zak.f, Zbh.f, Zbs.f, Zax.f, Option.bind_some, Int.zero_emod] at H
     obtain ⟨e1, H⟩ := ite_get H
     obtain ⟨e2, H⟩ := ite_get H
     obtain ⟨e3, H⟩ := ite_get H
     obtain ⟨ad, A3, c3, ea, f0, f1, f2, f3, f4⟩ := at_T61 HR.out.1 x6 e1 e2
     cases ea
     have f0o := f0
     replace f0 := (HB.out.cell (World.block_lt_of_cell? w _ f0)).trans f0
     obtain ⟨a6, ha6⟩ : ∃ a, (Zi l0_0 x6).f0 = a := ⟨_, rfl⟩
     rw [ha6] at f0 f0o H
     obtain ⟨y1, hy1⟩ : ∃ y, x4 ++ [(⟨2, ⟨21, 0, 0, a6⟩, x5⟩ : S69)] = y := ⟨_, rfl⟩
     rw [hy1] at H
     obtain ⟨e4, H⟩ := ite_get H
     obtain ⟨y2, hy2⟩ : ∃ y, y1 ++ [(⟨0, ⟨32, 0, 0, 0⟩, 0⟩ : S69)] = y := ⟨_, rfl⟩
     rw [hy2] at H
     obtain ⟨e5, H⟩ := ite_get H
     obtain ⟨e6, H⟩ := ite_get H
     obtain ⟨ys, hys⟩ : ∃ ys, (l0_0.take (x7 : Int).toNat).drop (x6 : Int).toNat = ys := ⟨_, rfl⟩
     have hlys : x7.toNat - x6.toNat = ys.length := by rw [← hys, List.length_drop, List.length_take]; omega
     rw [hys] at H
     obtain ⟨t1, hT, H⟩ := Option.bind_eq_some_iff.1 H
     obtain ⟨e7, H⟩ := ite_get H
     obtain ⟨y3, hy3⟩ : ∃ y, y2 ++ t1 = y := ⟨_, rfl⟩
     rw [hy3] at H
     obtain ⟨e8, H⟩ := ite_get H
     obtain ⟨y4, hy4⟩ : ∃ y, y3 ++ [(⟨4, ⟨0, 0, 0, 0⟩, x5⟩ : S69)] = y := ⟨_, rfl⟩
     rw [hy4] at H
     obtain ⟨t2, hN, H⟩ := Option.bind_eq_some_iff.1 H
     have hcut := cut_mid (P := Try.prog) 29 61 .i64 .i64 Try.underlying29 hi1 3 hsz1 (some ad) l0_0.length c0_0 x6 x7 e1 e5 e6 hroom
     have HCY := Za.mk (Kd.C_mid (c := c0_0) (lo := x6.toNat) (hi := x7.toNat) HR.out.1 (by omega) (by omega) hroom)
     rw [if_neg (show ¬ c0_0 = x6.toNat by omega), Option.map_some, hlys] at hcut
     rw [if_neg (show ¬ c0_0 = x6.toNat by omega), Option.map_some, hys, show k61.sz = 3 from rfl] at HCY
     have HYC := Za.mk (show ys.length ≤ c0_0 - x6.toNat by omega)
     have e1e := eq_true e1
     have e2e := eq_true e2
     have HH := Za.mk H
     have HT := Za.mk hT
     have HN := Za.mk hN
     have HL3 := Za.mk e3
     have HL4 := Za.mk e4
     have HL7 := Za.mk e7
     have HL8 := Za.mk e8
     have Ny1 := Za.mk hy1
     have Ny2 := Za.mk hy2
     have Ny3 := Za.mk hy3
     have Ny4 := Za.mk hy4
     have HF := Za.mk f0o
     clear H hT hN e3 e4 e7 e8 hy1 hy2 hy3 hy4 f1 f2 f3 f4 ha6 hys hlys hi1 hsz1 f0o
     go_wp2
     go_quiet (fail)
     have n_ := Za.mk (Kd.Zy HO.out nq)
     clear HO
     have HO := n_
     clear n_
     have n_ := Za.mk (Ze HB.out nq)
     clear HB
     have HB := n_
     clear n_
     have n_ := Za.mk (Zg BK1.out nq)
     clear BK1
     have BK1 := n_
     clear n_
     have n_ := Za.mk (Zg BK3.out nq)
     clear BK3
     have BK3 := n_
     clear n_ q1 f0 hroom c7b
     generalize wr.drewN nq = wq at HO HB BK1 BK3 ⊢
     have q1 : wq.cell? ⟨w.heap.size, 0, none⟩ = some (.slice (some ad) l0_0.length c0_0) := (Zb BK1.out 0).trans rfl
     have f0 := (HB.out.cell (World.block_lt_of_cell? w _ HF.out)).trans HF.out
     go_wp2_with (first | (go_at_call 30; refine (Zak.calls 2 21 a6 x5 _ _ _ _ _ _ _ rfl).mono ?_; rintro e w5 ⟨rfl, hb⟩; replace HO := Za.mk (Kd.Zam HO.out hb); replace BK1 := Za.mk (Zp BK1.out hb); replace BK3 := Za.mk (Zp BK3.out hb); replace HB := Za.mk (Zo HB.out hb); (try clear q1); have q1 : w5.cell? ⟨w.heap.size, 0, none⟩ = some (.slice (some ad) l0_0.length c0_0) := (Zb BK1.out 0).trans rfl;  clear hb) | ((with_reducible refine Zba (b := .append) (xs := #[.tmp 45, .tmp 54]) rfl ?_); at_builtin; refine Kd.Zbb k69 (w0 := w) w.heap.size rfl (.tmp 45) (.tmp 54) 41 69 (.agg #[(.int .i64 0), (.int .u16 0), (.int .u8 0), (.int .u8 0), (.int .u32 0), (.int .i64 0)]) 24 rfl Try.underlying41 info69 rfl (by decide) (by omega) (.slice Ao x4.length co) x4 (⟨2, ⟨21, 0, 0, a6⟩, x5⟩ : S69) [.int .i64 2, .int .u16 21, .int .u8 0, .int .u8 0, .int .u32 (a6), .int .i64 (x5)] (fun k => k ≠ g3) (fun _ => False) rfl rfl ?aP (fun _ hk => hk.elim) ?aF ?aO ?aB ?aS ?aL ?_; (case aP => exact Zbg _ _ _ (⟨2, ⟨21, 0, 0, a6⟩, x5⟩ : S69)); (case aB => exact HB.out); (case aF => exact (fun k hk e => by have := Zs BK3.out; omega)); (case aO => exact HO.out); (case aS => exact Zl HB.out); (case aL => have := HL3.out; (try simp only [List.length_append, List.length_cons, List.length_nil] at this ⊢); omega); intro v5 w5 ho hb hg hat; rw [Ny1.out] at ho; obtain ⟨A5, c5, e5⟩ := Kd.Zay ho; subst e5; replace BK1 := Za.mk ((hg.block w.heap.size (Zs BK1.out) (Kd.R_ne HO.out BK1.out (by decide))).trans BK1.out); replace BK3 := Za.mk ((hg.block g3 (Zs BK3.out) (fun e => HO.out.1 g3 e.symm rfl)).trans BK3.out); replace HO := Za.mk (ho); replace HB := Za.mk (hb); (try clear q1); have q1 : w5.cell? ⟨w.heap.size, 0, none⟩ = some (.slice (some ad) l0_0.length c0_0) := (Zb BK1.out 0).trans rfl;  clear ho hb hg hat) | (go_at_call 29; refine (Zbh.calls 0 _ _ _ _ _ _ _ rfl).mono ?_; rintro e w5 ⟨rfl, hb⟩; replace HO := Za.mk (Kd.Zam HO.out hb); replace BK1 := Za.mk (Zp BK1.out hb); replace BK3 := Za.mk (Zp BK3.out hb); replace HB := Za.mk (Zo HB.out hb); (try clear q1); have q1 : w5.cell? ⟨w.heap.size, 0, none⟩ = some (.slice (some ad) l0_0.length c0_0) := (Zb BK1.out 0).trans rfl;  clear hb) | ((with_reducible refine Zba (b := .append) (xs := #[.tmp 56, .tmp 58]) rfl ?_); at_builtin; refine Kd.Zbb k69 (w0 := w) w.heap.size rfl (.tmp 56) (.tmp 58) 41 69 (.agg #[(.int .i64 0), (.int .u16 0), (.int .u8 0), (.int .u8 0), (.int .u32 0), (.int .i64 0)]) 24 rfl Try.underlying41 info69 rfl (by decide) (by omega) (.slice A5 y1.length c5) y1 (⟨0, ⟨32, 0, 0, 0⟩, 0⟩ : S69) [.int .i64 0, .int .u16 32, .int .u8 0, .int .u8 0, .int .u32 0, .int .i64 0] (fun k => k ≠ g3) (fun _ => False) rfl rfl ?aP (fun _ hk => hk.elim) ?aF ?aO ?aB ?aS ?aL ?_; (case aP => exact Zbg _ _ _ (⟨0, ⟨32, 0, 0, 0⟩, 0⟩ : S69)); (case aB => exact HB.out); (case aF => exact (fun k hk e => by have := Zs BK3.out; omega)); (case aO => exact HO.out); (case aS => exact Zl HB.out); (case aL => have := HL4.out; (try simp only [List.length_append, List.length_cons, List.length_nil] at this ⊢); omega); intro v5 w5 ho hb hg hat; rw [Ny2.out] at ho; obtain ⟨A5, c5, e5⟩ := Kd.Zay ho; subst e5; replace BK1 := Za.mk ((hg.block w.heap.size (Zs BK1.out) (Kd.R_ne HO.out BK1.out (by decide))).trans BK1.out); replace BK3 := Za.mk ((hg.block g3 (Zs BK3.out) (fun e => HO.out.1 g3 e.symm rfl)).trans BK3.out); replace HO := Za.mk (ho); replace HB := Za.mk (hb); (try clear q1); have q1 : w5.cell? ⟨w.heap.size, 0, none⟩ = some (.slice (some ad) l0_0.length c0_0) := (Zb BK1.out 0).trans rfl;  clear ho hb hg hat) | (go_at_call 31; refine (Zbi.calls k3 _ _ ys (wrap64 (x5 + 1)) t1 _ (Kd.Zan HCY.out HB.out) HYC.out HT.out).mono ?_; rintro e w5 ⟨v6, rfl, ho6, hb⟩; obtain ⟨A6, c6_, e6_⟩ := Kd.Zay ho6; subst e6_; have HO6 := Za.mk ho6; clear ho6; replace HO := Za.mk (Kd.Zam HO.out hb); replace BK1 := Za.mk (Zp BK1.out hb); replace BK3 := Za.mk (Zp BK3.out hb); replace HB := Za.mk (Zo HB.out hb); (try clear q1); have q1 : w5.cell? ⟨w.heap.size, 0, none⟩ = some (.slice (some ad) l0_0.length c0_0) := (Zb BK1.out 0).trans rfl;  clear hb) | ((with_reducible refine Zba (b := .append) (xs := #[.tmp 60, .tmp 68]) rfl ?_); at_builtin; refine Kd.R_append_rows k69 (Rr := k69.K _) (w0 := w) w.heap.size rfl (.tmp 60) (.tmp 68) 41 69 (.agg #[(.int .i64 0), (.int .u16 0), (.int .u8 0), (.int .u8 0), (.int .u32 0), (.int .i64 0)]) 24 rfl Try.underlying41 info69 rfl (by decide) (by omega) (.slice A5 y2.length c5) y2 t1 A6 t1.length c6_ (fun k => k ≠ g3) (fun _ => False) rfl rfl HO.out (Kd.Zat HO6.out).2.2 (fun x cs h => by have := k69_open h; subst this; exact Zbg _ _ _ x) (fun _ hk => hk.elim) (fun k hk e => by have := Zs BK3.out; omega) HB.out (Zl HB.out) (by have := HL7.out; omega) ?_; intro v5 w5 ho hb hg hat; rw [Ny3.out] at ho; obtain ⟨A5, c5, e5⟩ := Kd.Zay ho; subst e5; replace BK1 := Za.mk ((hg.block w.heap.size (Zs BK1.out) (Kd.R_ne HO.out BK1.out (by decide))).trans BK1.out); replace BK3 := Za.mk ((hg.block g3 (Zs BK3.out) (fun e => HO.out.1 g3 e.symm rfl)).trans BK3.out); replace HO := Za.mk (ho); replace HB := Za.mk (hb); (try clear q1); have q1 : w5.cell? ⟨w.heap.size, 0, none⟩ = some (.slice (some ad) l0_0.length c0_0) := (Zb BK1.out 0).trans rfl;  clear ho hb hg hat HO6) | (go_at_call 32; refine (Zax.calls x5 _ _ _ _ _ _ _ rfl).mono ?_; rintro e w5 ⟨rfl, hb⟩; replace HO := Za.mk (Kd.Zam HO.out hb); replace BK1 := Za.mk (Zp BK1.out hb); replace BK3 := Za.mk (Zp BK3.out hb); replace HB := Za.mk (Zo HB.out hb); (try clear q1); have q1 : w5.cell? ⟨w.heap.size, 0, none⟩ = some (.slice (some ad) l0_0.length c0_0) := (Zb BK1.out 0).trans rfl;  clear hb) | ((with_reducible refine Zba (b := .append) (xs := #[.tmp 70, .tmp 73]) rfl ?_); at_builtin; refine Kd.Zbb k69 (w0 := w) w.heap.size rfl (.tmp 70) (.tmp 73) 41 69 (.agg #[(.int .i64 0), (.int .u16 0), (.int .u8 0), (.int .u8 0), (.int .u32 0), (.int .i64 0)]) 24 rfl Try.underlying41 info69 rfl (by decide) (by omega) (.slice A5 y3.length c5) y3 (⟨4, ⟨0, 0, 0, 0⟩, x5⟩ : S69) [.int .i64 4, .int .u16 0, .int .u8 0, .int .u8 0, .int .u32 0, .int .i64 (x5)] (fun k => k ≠ g3) (fun _ => False) rfl rfl ?aP (fun _ hk => hk.elim) ?aF ?aO ?aB ?aS ?aL ?_; (case aP => exact Zbg _ _ _ (⟨4, ⟨0, 0, 0, 0⟩, x5⟩ : S69)); (case aB => exact HB.out); (case aF => exact (fun k hk e => by have := Zs BK3.out; omega)); (case aO => exact HO.out); (case aS => exact Zl HB.out); (case aL => have := HL8.out; (try simp only [List.length_append, List.length_cons, List.length_nil] at this ⊢); omega); intro v5 w5 ho hb hg hat; rw [Ny4.out] at ho; obtain ⟨A5, c5, e5⟩ := Kd.Zay ho; subst e5; replace BK1 := Za.mk ((hg.block w.heap.size (Zs BK1.out) (Kd.R_ne HO.out BK1.out (by decide))).trans BK1.out); replace BK3 := Za.mk ((hg.block g3 (Zs BK3.out) (fun e => HO.out.1 g3 e.symm rfl)).trans BK3.out); replace HO := Za.mk (ho); replace HB := Za.mk (hb); (try clear q1); have q1 : w5.cell? ⟨w.heap.size, 0, none⟩ = some (.slice (some ad) l0_0.length c0_0) := (Zb BK1.out 0).trans rfl;  clear ho hb hg hat) | (go_at_call 33; refine (Zbo.calls k3 _ _ ys t2 _ (Kd.Zan HCY.out HB.out) HYC.out HN.out).mono ?_; rintro e w5 ⟨rfl, hd⟩; have hb := hd.below; clear hd; replace HO := Za.mk (Kd.Zam HO.out hb); replace BK1 := Za.mk (Zp BK1.out hb); replace BK3 := Za.mk (Zp BK3.out hb); replace HB := Za.mk (Zo HB.out hb); (try clear q1); have q1 : w5.cell? ⟨w.heap.size, 0, none⟩ = some (.slice (some ad) l0_0.length c0_0) := (Zb BK1.out 0).trans rfl;  clear hb))
     go_roundg k3
     case measure => have := HQ.out; omega
     case rel => exact ⟨_, _, _, by first | rfl | (simp; done), by first | rfl | (simp; done), HH, HO, HB, BK1, BK3⟩
def spec_Compile.f (k : Nat) (l0_0 : List (S61)) : Option ((List (S52)) × Int) := (Zar.f k l0_0).bind fun t387 => (if t387 = true then ((Zbd.f k l0_0).bind fun t388 => ((Zbq.f k t388).bind fun bt391 => (some (bt391.1, bt391.2)))) else (some (([] : List (S52)), 1)))
set_option maxHeartbeats 8000000 in
set_option maxRecDepth 100000 in
theorem spec_Compile.calls (k : Nat) (A0_0 : Option Addr) (c0_0 : Nat) (l0_0 : List (S61)) (r1 : List (S52)) (r2 : Int) (w : World) (hr0_0 : Kd.C k61 w A0_0 l0_0.length l0_0) (hc0_0 : l0_0.length ≤ c0_0) (h : spec_Compile.f k l0_0 = some (r1, r2)) :
  Calls Try.prog 5 #[.agg #[.slice A0_0 l0_0.length c0_0]] w fun e w' => ∃ v0_ : Value, e = .returned (.tuple #[v0_, .int .i64 r2]) ∧ Kd.R k52 52 w' w.heap.size (fun _ => True) v0_ r1 ∧ Below w.heap.size w w' := by
 have hu31 := Try.underlying31
 have HR0_0 := Za.mk hr0_0
 have HC0_0 := Za.mk hc0_0
 clear hr0_0 hc0_0
 have HB := Za.mk (Below.refl w.heap.size w)
 have H := h
 unfold spec_Compile.f at H
 clear h
 replace H := Option.bind_eq_some_iff.mp H
 obtain ⟨t387, A20, H⟩ := H
 replace H : (if t387 = true then ((Zbd.f k l0_0).bind fun t388 => ((Zbq.f k t388).bind fun bt391 => (some (bt391.1, bt391.2)))) else (some (([] : List (S52)), 1))) = some (r1, r2) := H
 have A2 := Za.mk A20
 clear A20
 by_cases c3 : t387 = true
 ·subst c3
  have H1 : ((Zbd.f k l0_0).bind fun t388 => ((Zbq.f k t388).bind fun bt391 => (some (bt391.1, bt391.2)))) = some (r1, r2) := by rw [if_pos rfl] at H; exact H
  clear H
  have H := H1
  clear H1
  replace H := Option.bind_eq_some_iff.mp H
  obtain ⟨t388, A40, H⟩ := H
  replace H : ((Zbq.f k t388).bind fun bt391 => (some (bt391.1, bt391.2))) = some (r1, r2) := H
  have A4 := Za.mk A40
  clear A40
  replace H := Option.bind_eq_some_iff.mp H
  obtain ⟨⟨t391, t392⟩, A50, H⟩ := H
  replace H : (some (t391, t392)) = some (r1, r2) := H
  have A5 := Za.mk A50
  clear A50
  simp only [Option.some.injEq, Prod.mk.injEq] at H
  obtain ⟨rfl, rfl⟩ := H
  go_enter Try.func5, Try.ntmps5
  go_wp2_with (first | ((with_reducible refine Zab (N := 1) rfl ?_); refine Zac ?hg (N := 1) ?hd (cs := #[.slice A0_0 l0_0.length c0_0]) (t := 31) ?hr ?_; (case hd => rfl); (case hg => rfl); (case hr => go_simp <;> rfl); intro gb386 hg w6 hbox hb; have BK386 := Za.mk (hbox); have GW386 := Za.mk ((by rw [hg]; exact (Zl (by with_reducible repeat first | exact HB.out | apply Zc | apply Ze | apply Zd)) : w.heap.size ≤ gb386)); have GE386 := Za.mk ((by rw [hg]; exact (Zl (by with_reducible repeat first | exact HB.out | apply Zc | apply Ze | apply Zd)) : w.heap.size ≤ gb386)); replace HB := Za.mk (Zo (by with_reducible repeat first | exact HB.out | apply Zc | apply Ze | apply Zd) hb); clear hb hbox hg; have hcz7_0 : w6.cell? ⟨gb386, 0, none⟩ = some (.slice A0_0 l0_0.length c0_0) := (Zb BK386.out 0).trans rfl; have hfz7_0 := Zj BK386.out 0) | ((with_reducible refine Zaj (f := 14) rfl ?_); refine Zai (some 5) rfl rfl Try.func14 (by kernel_rfl) rfl #[.agg #[.slice A0_0 l0_0.length c0_0]] rfl (by (try simp only [ZA, ZB, ZC]); first | done | rfl) ?_; (with_reducible refine (Zar.calls k _ _ l0_0 true _ ?side1 ?side2 A2.out).mono ?_); (case side1 => repeat (first | exact (Kd.Zan HR0_0.out HB.out) | (with_reducible refine Kd.Zau ?_ _) | (with_reducible refine Kd.Zaw ?_ _) | (with_reducible refine Kd.Zav ?_))); (case side2 => exact HC0_0.out); rintro e w8 ⟨rfl, hb⟩; refine ⟨_, rfl, ?_⟩; replace BK386 := Za.mk (Zp (g := gb386) (o := .cells #[.slice A0_0 l0_0.length c0_0] 31 (0, 0)) (by (with_reducible repeat first | apply Zg | apply Zf | apply Zh); exact BK386.out) hb); replace HB := Za.mk (Zo (by with_reducible repeat first | exact HB.out | apply Zc | apply Ze | apply Zd | refine Zk ?_ GE386.out) hb); (try clear hb); (try clear hb2); (try clear hk); (try clear hi); have hcz9_0 : w8.cell? ⟨gb386, 0, none⟩ = some (.slice A0_0 l0_0.length c0_0) := (Zb BK386.out 0).trans rfl; have hfz9_0 := Zj BK386.out 0) | ((with_reducible refine Zaj (f := 16) rfl ?_); refine Zai (some 8) rfl rfl Try.func16 (by kernel_rfl) rfl #[.agg #[.slice A0_0 l0_0.length c0_0]] rfl (by (try simp only [ZA, ZB, ZC]); first | done | rfl) ?_; (with_reducible refine (Zbd.calls k _ _ l0_0 t388 _ ?side1 ?side2 A4.out).mono ?_); (case side1 => repeat (first | exact (Kd.Zan HR0_0.out HB.out) | (with_reducible refine Kd.Zau ?_ _) | (with_reducible refine Kd.Zaw ?_ _) | (with_reducible refine Kd.Zav ?_))); (case side2 => exact HC0_0.out); rintro e w10 ⟨v389, rfl, ho0, hb⟩; refine ⟨_, rfl, ?_⟩; have HO390 := Za.mk (Kd.Zbk ho0 (Zl (by with_reducible repeat first | exact HB.out | apply Zc | apply Ze | apply Zd | refine Zk ?_ GE386.out))); replace BK386 := Za.mk (Zp (g := gb386) (o := .cells #[.slice A0_0 l0_0.length c0_0] 31 (0, 0)) (by (with_reducible repeat first | apply Zg | apply Zf | apply Zh); exact BK386.out) hb); replace HB := Za.mk (Zo (by with_reducible repeat first | exact HB.out | apply Zc | apply Ze | apply Zd | refine Zk ?_ GE386.out) hb); (try clear hb); (try clear hb2); (try clear hk); (try clear hi); (try clear ho0); obtain ⟨Ao11, co11, eo11⟩ := Kd.Zay HO390.out; subst eo11) | ((with_reducible refine Zaj (f := 15) rfl ?_); refine Zai (some 9) rfl rfl Try.func15 (by kernel_rfl) rfl #[.slice Ao11 t388.length co11] rfl (by (try simp only [ZA, ZB, ZC]); first | done | rfl) ?_; (with_reducible refine (Zbq.calls k _ _ t388 t391 t392 _ ?side1 ?side2 A5.out).mono ?_); (case side1 => repeat (first | exact (Kd.Zat HO390.out).2.2 | (with_reducible refine Kd.Zau ?_ _) | (with_reducible refine Kd.Zaw ?_ _) | (with_reducible refine Kd.Zav ?_))); (case side2 => exact (Kd.Zat HO390.out).2.1); rintro e w12 ⟨v393, rfl, ho0, hb⟩; refine ⟨_, rfl, ?_⟩; replace HO390 := Za.mk (Kd.Zam (by (with_reducible repeat (first | apply Kd.Zaa | apply Kd.Zy | apply Kd.Zz)); exact HO390.out) hb); have HO394 := Za.mk (Kd.Zbk ho0 (Zl (by with_reducible repeat first | exact HB.out | apply Zc | apply Ze | apply Zd | refine Zk ?_ GE386.out))); replace BK386 := Za.mk (Zp (g := gb386) (o := .cells #[.slice A0_0 l0_0.length c0_0] 31 (0, 0)) (by (with_reducible repeat first | apply Zg | apply Zf | apply Zh); exact BK386.out) hb); replace HB := Za.mk (Zo (by with_reducible repeat first | exact HB.out | apply Zc | apply Ze | apply Zd | refine Zk ?_ GE386.out) hb); (try clear hb); (try clear hb2); (try clear hk); (try clear hi); (try clear ho0)))
  go_ret2
  exact ⟨_, by first | rfl | (simp [Zm, Zn] <;> rfl) | (simp [*, Zm, Zn] <;> rfl), by (with_reducible repeat (first | apply Kd.Zaa | apply Kd.Zy | apply Kd.Zz)); exact HO394.out, by with_reducible repeat first | exact HB.out | apply Zc | apply Ze | apply Zd | refine Zk ?_ GE386.out⟩
 replace c3 := Bool.eq_false_iff.mpr c3
 subst c3
 have H1 : (some (([] : List (S52)), 1)) = some (r1, r2) := by rw [if_neg (show ¬ (false = true) by decide)] at H; exact H
 clear H
 have H := H1
 clear H1
 simp only [Option.some.injEq, Prod.mk.injEq] at H
 obtain ⟨rfl, rfl⟩ := H
 go_enter Try.func5, Try.ntmps5
 go_wp2_with (first | ((with_reducible refine Zab (N := 1) rfl ?_); refine Zac ?hg (N := 1) ?hd (cs := #[.slice A0_0 l0_0.length c0_0]) (t := 31) ?hr ?_; (case hd => rfl); (case hg => rfl); (case hr => go_simp <;> rfl); intro gb386 hg w13 hbox hb; have BK386 := Za.mk (hbox); have GW386 := Za.mk ((by rw [hg]; exact (Zl (by with_reducible repeat first | exact HB.out | apply Zc | apply Ze | apply Zd)) : w.heap.size ≤ gb386)); have GE386 := Za.mk ((by rw [hg]; exact (Zl (by with_reducible repeat first | exact HB.out | apply Zc | apply Ze | apply Zd)) : w.heap.size ≤ gb386)); replace HB := Za.mk (Zo (by with_reducible repeat first | exact HB.out | apply Zc | apply Ze | apply Zd) hb); clear hb hbox hg; have hcz14_0 : w13.cell? ⟨gb386, 0, none⟩ = some (.slice A0_0 l0_0.length c0_0) := (Zb BK386.out 0).trans rfl; have hfz14_0 := Zj BK386.out 0) | ((with_reducible refine Zaj (f := 14) rfl ?_); refine Zai (some 5) rfl rfl Try.func14 (by kernel_rfl) rfl #[.agg #[.slice A0_0 l0_0.length c0_0]] rfl (by (try simp only [ZA, ZB, ZC]); first | done | rfl) ?_; (with_reducible refine (Zar.calls k _ _ l0_0 false _ ?side1 ?side2 A2.out).mono ?_); (case side1 => repeat (first | exact (Kd.Zan HR0_0.out HB.out) | (with_reducible refine Kd.Zau ?_ _) | (with_reducible refine Kd.Zaw ?_ _) | (with_reducible refine Kd.Zav ?_))); (case side2 => exact HC0_0.out); rintro e w15 ⟨rfl, hb⟩; refine ⟨_, rfl, ?_⟩; replace BK386 := Za.mk (Zp (g := gb386) (o := .cells #[.slice A0_0 l0_0.length c0_0] 31 (0, 0)) (by (with_reducible repeat first | apply Zg | apply Zf | apply Zh); exact BK386.out) hb); replace HB := Za.mk (Zo (by with_reducible repeat first | exact HB.out | apply Zc | apply Ze | apply Zd | refine Zk ?_ GE386.out) hb); (try clear hb); (try clear hb2); (try clear hk); (try clear hi)))
 go_ret2
 exact ⟨_, by first | rfl | (simp [Zm, Zn] <;> rfl) | (simp [*, Zm, Zn] <;> rfl), by first | exact Kd.R_nil _ _ _ _ _ | exact Kd.N_nil _ _ _ _ _ | exact Kd.V_nil _ _ _ _ _ | exact Kd.Q_nil _ _ _ _ _ | exact Kd.S_nil _ _ _ _ _, by with_reducible repeat first | exact HB.out | apply Zc | apply Ze | apply Zd | refine Zk ?_ GE386.out⟩

end Go.Proofs.Ytgmbahldjiiajaa.P
