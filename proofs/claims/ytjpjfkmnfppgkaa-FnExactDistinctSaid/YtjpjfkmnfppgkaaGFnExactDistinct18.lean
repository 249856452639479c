import Derived.Test.YtjpjfkmnfppgkaaGFnExactDistinct6
import Derived.Test.YtjpjfkmnfppgkaaGFnExactDistinct17
import Derived.Test.YtjpjfkmnfppgkaaGFnExactDistinct13
import Derived.Test.YtjpjfkmnfppgkaaGFnExactDistinct15
import Derived.Test.YtjpjfkmnfppgkaaGFnExactDistinct16
import Derived.Test.YtjpjfkmnfppgkaaGFnExactDistinct10
import Derived.Test.YtjpjfkmnfppgkaaGFnExactDistinct12
import Derived.Test.YtjpjfkmnfppgkaaGFnExactDistinct11
namespace Go.Proofs.Ytjpjfkmnfppgkaa.P
open Go.RowKit Go.Proofs.YtjpjfkmnfppgkaaW.PrintWords Go.Proofs.YtjpjfkmnfppgkaaW.PrintLast Go.Proofs.YtjpjfkmnfppgkaaW.PrintMore
attribute [local go_sem] max2_int min2_int max_two min_two max_three min_three max_four min_four
set_option linter.unusedVariables false
set_option linter.unusedSimpArgs false

def impl_Distinct.f (k : Nat) (l0 : List (S35)) : Option (List (S35)) := if l0.length ≤ 1048576 ∧ ∀ c ∈ l0, c.f2.length ≤ 1048576 then some (distC l0) else none
set_option maxHeartbeats 8000000 in
set_option maxRecDepth 100000 in
theorem impl_Distinct.calls (k : Nat) (A0 : Option Addr) (c0 : Nat) (l0 : List (S35)) (r : List (S35)) (w : World) (hr0 : Kd.C k35 w A0 l0.length l0) (hc0 : l0.length ≤ c0) (h : impl_Distinct.f k l0 = some r) :
  Calls Try.prog 7 #[.slice A0 l0.length c0] w fun e w' => ∃ v0_ : Value, e = .returned (v0_) ∧ Kd.S k35 35 w' w.heap.size (fun _ => True) v0_ r ∧ Below w.heap.size w w' := by
 unfold impl_Distinct.f at h
 by_cases hh : l0.length ≤ 1048576 ∧ ∀ c ∈ l0, c.f2.length ≤ 1048576
 case neg => rw [if_neg hh] at h; exact absurd h (by simp)
 rw [if_pos hh] at h
 obtain rfl := Option.some.inj h
 have HON := Za.mk (once.does A0 c0 l0 w hr0 hc0 (by omega) (cfC_ex l0 hh.2) (cfC_swo l0))
 have HH := Za.mk hh
 clear h hh hr0 hc0
 go_enter Try.func7, Try.ntmps7
 go_wp2_with (go_at_call 15; refine HON.out.mono ?_; clear HON; rintro e w2 ⟨v, rows, p, rfl, hps, hpm, hpw, w1, hRW, hB1, hB2, hR⟩; obtain ⟨idx, hidx⟩ : ∃ idx, keepN (fun x y => decide (cfC l0 x y = 0)) (fun m => p[m]!) l0.length = idx := ⟨_, rfl⟩; have HX := Za.mk (show idx.map (Zs l0) = distC l0 ∧ idx.length ≤ 1048576 from by rw [← hidx]; exact ⟨keep_is l0 p hps hpm hpw, Nat.le_trans (keepN_le _ _ _) HH.out.1⟩); rw [hidx] at hR; obtain ⟨A2, c2, rfl⟩ := Kd.R_slice hR; rw [List.length_map] at hR ⊢; have HR := Za.mk hR; have HRW := Za.mk hRW; have HB1 := Za.mk hB1; have HB2 := Za.mk hB2; clear hR hRW hB1 hB2 hidx hps hpm hpw)
 go_loopg [10] idx.length (fun kq v10 w' => ∃ i : Nat, v10 = .int .i64 (i : Int) ∧ Za (i ≤ idx.length ∧ idx.length - i ≤ kq) ∧ Za (Below w1.heap.size w1 w') ∧ Za (0 < idx.length → ∃ g, A2 = some ⟨g, 0, none⟩ ∧ w1.heap.size ≤ g ∧ g < w'.heap.size ∧ DI w1.heap.size g c2 l0 rows idx i w') ∧ Za (idx.length = 0 → (Kd.raw 3).R 35 w' w1.heap.size (fun _ => True) (.slice A2 idx.length c2) []))
 case atStart =>
  refine ⟨0, rfl, ⟨by omega⟩, HB2, ⟨fun h0 => ?_⟩, ⟨fun h0 => ?_⟩⟩
  ·obtain ⟨g, cap, hv, gb, glt, _⟩ := Kd.R_form HR.out (by rw [List.length_map]; exact h0)
   injection hv with hv1 hv2 hv3
   subst hv1 hv3
   exact ⟨g, rfl, gb, glt, DI.start HR.out glt⟩
  ·have hR := HR.out
   rw [show idx.map (rowAt rows) = [] from by rw [List.eq_nil_of_length_eq_zero h0]; rfl] at hR
   exact hR
 case round =>
  clear HR HB2
  obtain ⟨i, rfl, HI, HB, HD, H0⟩ := hrel
  by_cases hi : i < idx.length
  ·obtain ⟨k1, rfl⟩ : ∃ m, gk = m + 1 := ⟨gk - 1, by have := HI.out; omega⟩
   obtain ⟨g, rfl, gb, glt, hD⟩ := HD.out (by omega)
   obtain ⟨cur, s, h1, h2, h3, h4, h5, h6, h7⟩ := hD
   obtain ⟨A3, c3, e3, hl3, r3⟩ := callCells_below (HRW.out (idx.getD i 0)) HB.out
   obtain ⟨x, hx⟩ : ∃ x, Zs l0 (idx.getD i 0) = x := ⟨_, rfl⟩
   have hxl : x.f2.length ≤ 17592186044416 := by
    rw [← hx]
    unfold Zs
    by_cases hj : idx.getD i 0 < l0.length
    ·rw [List.getD_eq_getElem?_getD, List.getElem?_eq_getElem hj]
     exact Nat.le_trans (HH.out.2 _ (List.getElem_mem hj)) (by decide)
    ·rw [List.getD_eq_getElem?_getD, List.getElem?_eq_none (by omega)]
     decide
   rw [hx] at e3 hl3 r3
   obtain ⟨cc, hcl, hM, hcc, hfr⟩ := Kd.R_elem h1 [] ((i : Nat) : Int) (by omega) (by omega)
   rw [Int.toNat_natCast] at hM hcc hfr
   have hce : cc = [.int .u32 x.f0, .int .u32 x.f1, .slice A3 x.f2.length c3] := by
    rw [← e3]
    have := hM.1
    rw [List.getD_eq_getElem?_getD, h3 i (Nat.le_refl _) hi] at this
    exact this
   subst hce
   have hs3 : (Kd.raw 3).sz = 3 := rfl
   rw [hs3] at hcc hfr
   have x0 : wr.cell? ⟨g, i * 3, none⟩ = some (.int .u32 x.f0) := hcc 0 _ rfl
   have x1 : wr.cell? ⟨g, i * 3 + 1, none⟩ = some (.int .u32 x.f1) := hcc 1 _ rfl
   have x2 : wr.cell? ⟨g, i * 3 + 2, none⟩ = some (.slice A3 x.f2.length c3) := hcc 2 _ rfl
   have u0 : wr.frozen? ⟨g, i * 3, none⟩ = false := hfr 0
   have u1 : wr.frozen? ⟨g, i * 3 + 1, none⟩ = false := hfr 1
   have u2 : wr.frozen? ⟨g, i * 3 + 2, none⟩ = false := hfr 2
   have p0 : (0 : Int) ≤ (i : Int) := by omega
   have p1 : (i : Int) < (idx.length : Int) := by omega
   have HCC := Za.mk (fun o => callCopy.does A3 c3 x (wr.alloc o) (Kd.Zac r3 o) hl3 hxl)
   have HDI := Za.mk (show DI w1.heap.size g c2 l0 rows idx i wr from ⟨cur, s, h1, h2, h3, h4, h5, h6, h7⟩)
   have HXX := Za.mk hx
   have HII := Za.mk hi
   have GB := Za.mk gb
   have GL := Za.mk glt
   have ew : wrap64 ((i : Int) + 1) = ((i + 1 : Nat) : Int) := by have := HX.out.2; clear p0 p1; unfold wrap64; omega
   have EW := Za.mk ew
   clear h1 h2 h3 h4 h5 h6 h7 e3 hl3 r3 hx hxl hcl hM hcc hfr hs3 hi gb glt HD
   go_wp2_with (go_at_call 17; refine (HCC.out _).mono ?_; clear HCC; rintro e w3 ⟨v2, rfl, hR2, hb2⟩; obtain ⟨Av, cv, rfl⟩ := Kd.R_slice hR2; have z0 := (hb2.cell (p := ⟨g, i * 3, none⟩) (by have := GL.out; simp; omega)).trans (Lib.cell?_alloc_some _ x0); have z1 := (hb2.cell (p := ⟨g, i * 3 + 1, none⟩) (by have := GL.out; simp; omega)).trans (Lib.cell?_alloc_some _ x1); have z2 := (hb2.cell (p := ⟨g, i * 3 + 2, none⟩) (by have := GL.out; simp; omega)).trans (Lib.cell?_alloc_some _ x2); have y0 : w3.frozen? ⟨g, i * 3, none⟩ = false := (hb2.frozen (p := ⟨g, i * 3, none⟩) (by have := GL.out; simp; omega)).trans ((frozen_alloc GL.out _).trans u0); have y1 : w3.frozen? ⟨g, i * 3 + 1, none⟩ = false := (hb2.frozen (p := ⟨g, i * 3 + 1, none⟩) (by have := GL.out; simp; omega)).trans ((frozen_alloc GL.out _).trans u1); have y2 : w3.frozen? ⟨g, i * 3 + 2, none⟩ = false := (hb2.frozen (p := ⟨g, i * 3 + 2, none⟩) (by have := GL.out; simp; omega)).trans ((frozen_alloc GL.out _).trans u2); have HR2 := Za.mk hR2; have HB3 := Za.mk hb2; clear hR2 hb2)
   clear ew
   have hb3 : Below w1.heap.size w1 w3 := (HB.out.alloc HB.out.size _).trans (HB3.out.mono (by have := HB.out.size; simp; omega))
   have hDS := DI.step HDI.out HII.out (Zd (Below.refl _ _) _) HB3.out HB.out.size (by rw [HXX.out]; exact HR2.out)
   rw [HXX.out] at hDS
   have HDS := Za.mk hDS
   have HBS := Za.mk (((hb3.setCell (p := ⟨g, i * 3, none⟩) GB.out (.int .u32 x.f0)).setCell (p := ⟨g, i * 3 + 1, none⟩) GB.out (.int .u32 x.f1)).setCell (p := ⟨g, i * 3 + 2, none⟩) GB.out (.slice Av x.f2.length cv))
   have hsz : wr.heap.size ≤ w3.heap.size := by have := HB3.out.size; simp at this; omega
   have HSZ := Za.mk hsz
   clear hDS hb3 hsz
   go_roundg k1
   case measure => have := HI.out; have := HII.out; omega
   case rel => exact ⟨i + 1, congrArg (Value.int .i64) EW.out, ⟨by have := HI.out; have := HII.out; omega⟩, HBS, ⟨fun _ => ⟨g, rfl, GB.out, by have := HSZ.out; have := GL.out; simp; omega, HDS.out⟩⟩, ⟨fun h0 => absurd h0 (by have := HII.out; omega)⟩⟩
  ·have hie : i = idx.length := by have := HI.out; omega
   subst hie
   have hkb : ¬ ((idx.length : Int) < (idx.length : Int)) := by omega
   go_wp2
   go_ret
   have hB : Below w.heap.size w wr := HB1.out.trans (HB.out.mono HB1.out.size)
   refine ⟨_, rfl, ?_, hB⟩
   rw [← HX.out.1]
   refine Kd.S_lower (base := w1.heap.size) ?_ HB1.out.size
   rcases Nat.eq_zero_or_pos idx.length with h0 | hp
   ·have hx0 : idx.map (Zs l0) = [] := by rw [List.eq_nil_of_length_eq_zero h0]; rfl
    rw [hx0]
    exact S_of_raw (s := fun _ => wr.heap.size) (H0.out h0) rfl (fun g hg => Kd.R_lt (H0.out h0) g hg) (fun j hj => Nat.le_refl _) (fun j x hx => by simp at hx)
   ·obtain ⟨g, rfl, _, _, hD⟩ := HD.out hp
    exact hD.done
section
variable {α : Type} {d : Kd α} {e b lo hi lo2 hi2 : Nat} {ok : Nat → Prop} {w W w1 W2 : World} {v : Value} {xs : List α}
def Span (lo hi : Nat) (k : Nat) : Prop := lo ≤ k ∧ k < hi
theorem S_span (h : Kd.S d e w1 W.heap.size ok v xs) (hW : W.heap.size = lo) (h1 : w1.heap.size = hi) (hb : b ≤ W.heap.size) : Kd.S d e w1 b (Span lo hi) v xs :=
  Kd.S_lower (Kd.S_mono (Kd.S_bound h) (fun k hk => ⟨by have := hk.2.1; omega, by have := hk.2.2.1; omega⟩)) hb
theorem S_beside (h : Kd.S d e W b (Span lo hi) v xs) (hk : Kept W W2 (Span lo2 hi2)) (hd : hi ≤ lo2 ∨ hi2 ≤ lo) : Kd.S d e W2 b (Span lo hi) v xs := Kd.S_kept h hk (fun k h1 h2 => by have := h1.1; have := h1.2; have := h2.1; have := h2.2; omega)
theorem N_span (h : Kd.N d e w1 W.heap.size (fun k => W.heap.size ≤ k) v xs) (hW : W.heap.size = lo) (h1 : w1.heap.size = hi) (hb : b ≤ W.heap.size) : Kd.N d e w1 b (Span lo hi) v xs :=
  Kd.N_lower (Kd.Zw (Kd.N_bound h) (fun k hk => ⟨by have := hk.1; omega, by have := hk.2; omega⟩)) hb
theorem N_beside (h : Kd.N d e W b (Span lo hi) v xs) (hk : Kept W W2 (Span lo2 hi2)) (hd : hi ≤ lo2 ∨ hi2 ≤ lo) : Kd.N d e W2 b (Span lo hi) v xs := Kd.N_kept h hk (fun k h1 h2 => by have := h1.1; have := h1.2; have := h2.1; have := h2.2; omega)
theorem below_of_drawn (h : Zt W W2) : Below W.heap.size W W2 := h.below
end
def Zbf.f (k : Nat) (l0 : List S34) : Option Bool :=
  (Zba.f k l0 1048576).bind fun t => if t < 0 then some true else
  (Zaq.f k l0).bind fun a => (Zp.f k a).bind fun b => (Zaq.f k l0).bind fun x => (impl_Distinct.f k x).bind fun g => (Zam.f k g b).bind fun e_ => if e_ = true then (Zaq.f k l0).bind fun y => (Zam.f k x y).bind fun e_ => if e_ = true then (Zas.f k x 1).bind fun km_ => if km_.1 < 0 then none else (Zam.f k g b).bind fun e_ => if e_ = true then (Zas.f k g 1).bind fun m_ => (Zbc.f k m_.2 1).bind fun q_ => if q_ = m_.1 then if m_.1 < 0 then none else (Zaq.f k l0).bind fun z => (impl_Distinct.f k z).bind fun v => (Zam.f k v b).bind fun e_ => if e_ = true then some true else none else none else none else none else none
set_option maxHeartbeats 8000000 in
set_option maxRecDepth 100000 in
theorem Zbf.calls (k : Nat) (A0 : Option Addr) (c0 : Nat) (l0 : List S34) (r : Bool) (w : World) (hr0 : Kd.C k34 w A0 l0.length l0) (hc0 : l0.length ≤ c0) (h : Zbf.f k l0 = some r) :
  Calls Try.prog 3 #[.slice A0 l0.length c0] w fun e w' => e = .returned (.bool r) ∧ Below w.heap.size w w' := by
 unfold Zbf.f at h
 have HR0 := Za.mk hr0
 have HC0 := Za.mk hc0
 clear hr0 hc0
 replace h := Option.bind_eq_some_iff.1 h
 obtain ⟨t, h1, h⟩ := h
 have H1 := Za.mk h1
 clear h1
 by_cases ct : t < 0
 ·rw [if_pos ct] at h
  obtain rfl := Option.some.inj h
  have ctb : decide (t < 0) = true := decide_eq_true ct
  clear h ct
  go_enter Try.func3, Try.ntmps3
  go_wp2_with (go_at_call 4; refine (Zba.calls k A0 c0 l0 _ t _ HR0.out HC0.out H1.out).mono ?_; rintro e w1 ⟨rfl, hb⟩; have HB1 := Za.mk hb; clear hb)
  go_ret
  exact ⟨rfl, HB1.out⟩
 rw [if_neg ct] at h
 have ctb : decide (t < 0) = false := decide_eq_false ct
 clear ct
 replace h := Option.bind_eq_some_iff.1 h
 obtain ⟨a, h2, h⟩ := h
 replace h := Option.bind_eq_some_iff.1 h
 obtain ⟨b, h3, h⟩ := h
 replace h := Option.bind_eq_some_iff.1 h
 obtain ⟨x, h4, h⟩ := h
 replace h := Option.bind_eq_some_iff.1 h
 obtain ⟨g, h5, h⟩ := h
 replace h := Option.bind_eq_some_iff.1 h
 obtain ⟨e6, h6, h⟩ := h
 by_cases ee : e6 = true
 case neg => rw [if_neg ee] at h; exact absurd h (by simp)
 rw [if_pos ee] at h
 subst ee
 replace h := Option.bind_eq_some_iff.1 h
 obtain ⟨y, h7, h⟩ := h
 replace h := Option.bind_eq_some_iff.1 h
 obtain ⟨e8, h8, h⟩ := h
 by_cases ee : e8 = true
 case neg => rw [if_neg ee] at h; exact absurd h (by simp)
 rw [if_pos ee] at h
 subst ee
 replace h := Option.bind_eq_some_iff.1 h
 obtain ⟨⟨km, xm⟩, h9, h⟩ := h
 dsimp only at h
 by_cases ckm : km < 0
 case pos => rw [if_pos ckm] at h; exact absurd h (by simp)
 rw [if_neg ckm] at h
 have ckmb : decide (km < 0) = false := decide_eq_false ckm
 clear ckm
 replace h := Option.bind_eq_some_iff.1 h
 obtain ⟨e10, h10, h⟩ := h
 by_cases ee : e10 = true
 case neg => rw [if_neg ee] at h; exact absurd h (by simp)
 rw [if_pos ee] at h
 subst ee
 replace h := Option.bind_eq_some_iff.1 h
 obtain ⟨⟨m, gm⟩, h11, h⟩ := h
 dsimp only at h
 replace h := Option.bind_eq_some_iff.1 h
 obtain ⟨q, h12, h⟩ := h
 by_cases ee : q = m
 case neg => rw [if_neg ee] at h; exact absurd h (by simp)
 rw [if_pos ee] at h
 subst ee
 by_cases cm : q < 0
 case pos => rw [if_pos cm] at h; exact absurd h (by simp)
 rw [if_neg cm] at h
 have cmb : decide (q < 0) = false := decide_eq_false cm
 clear cm
 replace h := Option.bind_eq_some_iff.1 h
 obtain ⟨z, h13, h⟩ := h
 replace h := Option.bind_eq_some_iff.1 h
 obtain ⟨v, h14, h⟩ := h
 replace h := Option.bind_eq_some_iff.1 h
 obtain ⟨e15, h15, h⟩ := h
 by_cases ee : e15 = true
 case neg => rw [if_neg ee] at h; exact absurd h (by simp)
 rw [if_pos ee] at h
 subst ee
 obtain rfl := Option.some.inj h
 have H2 := Za.mk h2
 have H3 := Za.mk h3
 have H4 := Za.mk h4
 have H5 := Za.mk h5
 have H6 := Za.mk h6
 have H7 := Za.mk h7
 have H8 := Za.mk h8
 have H9 := Za.mk h9
 have H10 := Za.mk h10
 have H11 := Za.mk h11
 have H12 := Za.mk h12
 have H13 := Za.mk h13
 have H14 := Za.mk h14
 have H15 := Za.mk h15
 clear h h2 h3 h4 h5 h6 h7 h8 h9 h10 h11 h12 h13 h14 h15
 obtain ⟨n0, hn0⟩ : ∃ n, w.heap.size = n := ⟨_, rfl⟩
 have HN0 := Za.mk hn0
 have HB0 := Za.mk (Below.refl w.heap.size w)
 clear hn0
 go_enter Try.func3, Try.ntmps3
 go_wp2_with (go_at_call 4; refine (Zba.calls k A0 c0 l0 _ t _ HR0.out HC0.out H1.out).mono ?_; clear H1; rintro e w1 ⟨rfl, hb⟩; have HB1 := Za.mk hb; obtain ⟨n1, hn1⟩ : ∃ n, w1.heap.size = n := ⟨_, rfl⟩; have HN1 := Za.mk hn1; have HL1 := Za.mk (show n0 ≤ n1 from by rw [← hn1, ← HN0.out]; exact hb.size); clear hb hn1)
 go_wp2_with (go_at_call 6; refine (Zaq.calls k A0 c0 l0 a _ (Kd.Zah HR0.out HB1.out) HC0.out H2.out).mono ?_; clear H2; rintro e w2 ⟨v_a, rfl, ho, hb⟩; have HB2 := Za.mk (below_call HB1.out hb HB1.out.size); obtain ⟨n2, hn2⟩ : ∃ n, w2.heap.size = n := ⟨_, rfl⟩; have HN2 := Za.mk hn2; have HL2 := Za.mk (show n1 ≤ n2 from by rw [← hn2, ← HN1.out]; exact hb.size); obtain ⟨A_a, c_a, e_a⟩ := Kd.S_slice ho; subst e_a; have HO_a := Za.mk (S_span ho HN1.out hn2 (HB1.out.size)); clear ho hb hn2)
 go_wp2_with (go_at_call 5; refine (Zp.calls k A_a c_a a b _ (Kd.Zar HO_a.out).2.2 (Kd.Zar HO_a.out).2.1 H3.out).mono ?_; clear H3; rintro e w3 ⟨v_b, rfl, ho, hb⟩; have HB3 := Za.mk (below_call HB2.out hb HB2.out.size); obtain ⟨n3, hn3⟩ : ∃ n, w3.heap.size = n := ⟨_, rfl⟩; have HN3 := Za.mk hn3; have HL3 := Za.mk (show n2 ≤ n3 from by rw [← hn3, ← HN2.out]; exact hb.size); have HO_a' := Za.mk (Kd.S_below HO_a.out hb); clear HO_a; have HO_a := HO_a'; clear HO_a'; obtain ⟨A_b, c_b, e_b⟩ := Kd.N_slice ho; subst e_b; have HO_b := Za.mk (N_span ho HN2.out hn3 (HB2.out.size)); clear ho hb hn3)
 clear HO_a
 go_wp2_with (go_at_call 6; refine (Zaq.calls k A0 c0 l0 x _ (Kd.Zah HR0.out HB3.out) HC0.out H4.out).mono ?_; clear H4; rintro e w4 ⟨v_x, rfl, ho, hb⟩; have HB4 := Za.mk (below_call HB3.out hb HB3.out.size); obtain ⟨n4, hn4⟩ : ∃ n, w4.heap.size = n := ⟨_, rfl⟩; have HN4 := Za.mk hn4; have HL4 := Za.mk (show n3 ≤ n4 from by rw [← hn4, ← HN3.out]; exact hb.size); have HO_b' := Za.mk (Kd.Zan HO_b.out hb); clear HO_b; have HO_b := HO_b'; clear HO_b'; obtain ⟨A_x, c_x, e_x⟩ := Kd.S_slice ho; subst e_x; have HO_x := Za.mk (S_span ho HN3.out hn4 (HB3.out.size)); clear ho hb hn4)
 go_wp2_with (go_at_call 7; refine (impl_Distinct.calls k A_x c_x x g _ (Kd.Zar HO_x.out).2.2 (Kd.Zar HO_x.out).2.1 H5.out).mono ?_; clear H5; rintro e w5 ⟨v_g, rfl, ho, hb⟩; have HB5 := Za.mk (below_call HB4.out hb HB4.out.size); obtain ⟨n5, hn5⟩ : ∃ n, w5.heap.size = n := ⟨_, rfl⟩; have HN5 := Za.mk hn5; have HL5 := Za.mk (show n4 ≤ n5 from by rw [← hn5, ← HN4.out]; exact hb.size); have HO_b' := Za.mk (Kd.Zan HO_b.out hb); clear HO_b; have HO_b := HO_b'; clear HO_b'; have HO_x' := Za.mk (Kd.S_below HO_x.out hb); clear HO_x; have HO_x := HO_x'; clear HO_x'; obtain ⟨A_g, c_g, e_g⟩ := Kd.S_slice ho; subst e_g; have HO_g := Za.mk (S_span ho HN4.out hn5 (HB4.out.size)); clear ho hb hn5)
 go_wp2_with (go_at_call 8; refine (Zam.calls k A_g c_g g A_b c_b b true _ (Kd.Zar HO_g.out).2.2 (Kd.Zar HO_g.out).2.1 (Kd.Zap HO_b.out).2.2 (Kd.Zap HO_b.out).2.1 H6.out).mono ?_; clear H6; rintro e w6 ⟨rfl, hb⟩; have HB6 := Za.mk (below_call HB5.out hb HB5.out.size); obtain ⟨n6, hn6⟩ : ∃ n, w6.heap.size = n := ⟨_, rfl⟩; have HN6 := Za.mk hn6; have HL6 := Za.mk (show n5 ≤ n6 from by rw [← hn6, ← HN5.out]; exact hb.size); have HO_b' := Za.mk (Kd.Zan HO_b.out hb); clear HO_b; have HO_b := HO_b'; clear HO_b'; have HO_x' := Za.mk (Kd.S_below HO_x.out hb); clear HO_x; have HO_x := HO_x'; clear HO_x'; have HO_g' := Za.mk (Kd.S_below HO_g.out hb); clear HO_g; have HO_g := HO_g'; clear HO_g'; clear hb hn6)
 go_wp2_with (go_at_call 6; refine (Zaq.calls k A0 c0 l0 y _ (Kd.Zah HR0.out HB6.out) HC0.out H7.out).mono ?_; clear H7; rintro e w7 ⟨v_y, rfl, ho, hb⟩; have HB7 := Za.mk (below_call HB6.out hb HB6.out.size); obtain ⟨n7, hn7⟩ : ∃ n, w7.heap.size = n := ⟨_, rfl⟩; have HN7 := Za.mk hn7; have HL7 := Za.mk (show n6 ≤ n7 from by rw [← hn7, ← HN6.out]; exact hb.size); have HO_b' := Za.mk (Kd.Zan HO_b.out hb); clear HO_b; have HO_b := HO_b'; clear HO_b'; have HO_x' := Za.mk (Kd.S_below HO_x.out hb); clear HO_x; have HO_x := HO_x'; clear HO_x'; have HO_g' := Za.mk (Kd.S_below HO_g.out hb); clear HO_g; have HO_g := HO_g'; clear HO_g'; obtain ⟨A_y, c_y, e_y⟩ := Kd.S_slice ho; subst e_y; have HO_y := Za.mk (S_span ho HN6.out hn7 (HB6.out.size)); clear ho hb hn7)
 go_wp2_with (go_at_call 8; refine (Zam.calls k A_x c_x x A_y c_y y true _ (Kd.Zar HO_x.out).2.2 (Kd.Zar HO_x.out).2.1 (Kd.Zar HO_y.out).2.2 (Kd.Zar HO_y.out).2.1 H8.out).mono ?_; clear H8; rintro e w8 ⟨rfl, hb⟩; have HB8 := Za.mk (below_call HB7.out hb HB7.out.size); obtain ⟨n8, hn8⟩ : ∃ n, w8.heap.size = n := ⟨_, rfl⟩; have HN8 := Za.mk hn8; have HL8 := Za.mk (show n7 ≤ n8 from by rw [← hn8, ← HN7.out]; exact hb.size); have HO_b' := Za.mk (Kd.Zan HO_b.out hb); clear HO_b; have HO_b := HO_b'; clear HO_b'; have HO_x' := Za.mk (Kd.S_below HO_x.out hb); clear HO_x; have HO_x := HO_x'; clear HO_x'; have HO_g' := Za.mk (Kd.S_below HO_g.out hb); clear HO_g; have HO_g := HO_g'; clear HO_g'; have HO_y' := Za.mk (Kd.S_below HO_y.out hb); clear HO_y; have HO_y := HO_y'; clear HO_y'; clear hb hn8)
 clear HO_y
 go_wp2_with (go_at_call 9; refine (Zas.calls k (Span n3 n4) _ x 1 km xm w _ HB8.out HO_x.out H9.out).mono ?_; clear H9; rintro e w9 ⟨rfl, ho, hb, hk⟩; have HB9 := Za.mk (hb); obtain ⟨n9, hn9⟩ : ∃ n, w9.heap.size = n := ⟨_, rfl⟩; have HN9 := Za.mk hn9; have HL9 := Za.mk (show n8 ≤ n9 from by rw [← hn9, ← HN8.out]; exact hk.1); have HO_b' := Za.mk (N_beside HO_b.out hk (by have := HL1.out; have := HL2.out; have := HL3.out; have := HL4.out; have := HL5.out; have := HL6.out; have := HL7.out; have := HL8.out; have := HL9.out; omega)); clear HO_b; have HO_b := HO_b'; clear HO_b'; have HO_g' := Za.mk (S_beside HO_g.out hk (by have := HL1.out; have := HL2.out; have := HL3.out; have := HL4.out; have := HL5.out; have := HL6.out; have := HL7.out; have := HL8.out; have := HL9.out; omega)); clear HO_g; have HO_g := HO_g'; clear HO_g'; clear HO_x; have HO_x := Za.mk ho; have HG_x := Za.mk (Kd.Zar ho).1; clear ho hb hk hn9)
 clear HO_x
 go_wp2_with (go_at_call 8; refine (Zam.calls k A_g c_g g A_b c_b b true _ (Kd.Zar HO_g.out).2.2 (Kd.Zar HO_g.out).2.1 (Kd.Zap HO_b.out).2.2 (Kd.Zap HO_b.out).2.1 H10.out).mono ?_; clear H10; rintro e w10 ⟨rfl, hb⟩; have HB10 := Za.mk (below_call HB9.out hb HB9.out.size); obtain ⟨n10, hn10⟩ : ∃ n, w10.heap.size = n := ⟨_, rfl⟩; have HN10 := Za.mk hn10; have HL10 := Za.mk (show n9 ≤ n10 from by rw [← hn10, ← HN9.out]; exact hb.size); have HO_b' := Za.mk (Kd.Zan HO_b.out hb); clear HO_b; have HO_b := HO_b'; clear HO_b'; have HO_g' := Za.mk (Kd.S_below HO_g.out hb); clear HO_g; have HO_g := HO_g'; clear HO_g'; clear hb hn10)
 go_wp2_with (go_at_call 9; refine (Zas.calls k (Span n4 n5) _ g 1 q gm w _ HB10.out HO_g.out H11.out).mono ?_; clear H11; rintro e w11 ⟨rfl, ho, hb, hk⟩; have HB11 := Za.mk (hb); obtain ⟨n11, hn11⟩ : ∃ n, w11.heap.size = n := ⟨_, rfl⟩; have HN11 := Za.mk hn11; have HL11 := Za.mk (show n10 ≤ n11 from by rw [← hn11, ← HN10.out]; exact hk.1); have HO_b' := Za.mk (N_beside HO_b.out hk (by have := HL1.out; have := HL2.out; have := HL3.out; have := HL4.out; have := HL5.out; have := HL6.out; have := HL7.out; have := HL8.out; have := HL9.out; have := HL10.out; have := HL11.out; omega)); clear HO_b; have HO_b := HO_b'; clear HO_b'; clear HO_g; have HO_g := Za.mk ho; have HG_g := Za.mk (Kd.Zar ho).1; clear ho hb hk hn11)
 go_wp2_with (go_at_call 10; refine (calls_of_args (args' := #[.slice A_g gm.length c_g, .int .i64 1]) (by rw [HG_g.out]) (Zbc.calls k A_g c_g gm 1 q _ (HG_g.out ▸ (Kd.Zar HO_g.out).2.2) (HG_g.out ▸ (Kd.Zar HO_g.out).2.1) H12.out)).mono ?_; rintro e w12 ⟨rfl, hd⟩; have hb := below_of_drawn hd; clear hd; have HB12 := Za.mk (below_call HB11.out hb HB11.out.size); obtain ⟨n12, hn12⟩ : ∃ n, w12.heap.size = n := ⟨_, rfl⟩; have HN12 := Za.mk hn12; have HL12 := Za.mk (show n11 ≤ n12 from by rw [← hn12, ← HN11.out]; exact hb.size); have HO_b' := Za.mk (Kd.Zan HO_b.out hb); clear HO_b; have HO_b := HO_b'; clear HO_b'; have HO_g' := Za.mk (Kd.S_below HO_g.out hb); clear HO_g; have HO_g := HO_g'; clear HO_g'; clear hb hn12)
 go_wp2_with (go_at_call 6; refine (Zaq.calls k A0 c0 l0 z _ (Kd.Zah HR0.out HB12.out) HC0.out H13.out).mono ?_; clear H13; rintro e w13 ⟨v_z, rfl, ho, hb⟩; have HB13 := Za.mk (below_call HB12.out hb HB12.out.size); obtain ⟨n13, hn13⟩ : ∃ n, w13.heap.size = n := ⟨_, rfl⟩; have HN13 := Za.mk hn13; have HL13 := Za.mk (show n12 ≤ n13 from by rw [← hn13, ← HN12.out]; exact hb.size); have HO_b' := Za.mk (Kd.Zan HO_b.out hb); clear HO_b; have HO_b := HO_b'; clear HO_b'; have HO_g' := Za.mk (Kd.S_below HO_g.out hb); clear HO_g; have HO_g := HO_g'; clear HO_g'; obtain ⟨A_z, c_z, e_z⟩ := Kd.S_slice ho; subst e_z; have HO_z := Za.mk (S_span ho HN12.out hn13 (HB12.out.size)); clear ho hb hn13)
 go_wp2_with (go_at_call 7; refine (impl_Distinct.calls k A_z c_z z v _ (Kd.Zar HO_z.out).2.2 (Kd.Zar HO_z.out).2.1 H14.out).mono ?_; clear H14; rintro e w14 ⟨v_v, rfl, ho, hb⟩; have HB14 := Za.mk (below_call HB13.out hb HB13.out.size); obtain ⟨n14, hn14⟩ : ∃ n, w14.heap.size = n := ⟨_, rfl⟩; have HN14 := Za.mk hn14; have HL14 := Za.mk (show n13 ≤ n14 from by rw [← hn14, ← HN13.out]; exact hb.size); have HO_b' := Za.mk (Kd.Zan HO_b.out hb); clear HO_b; have HO_b := HO_b'; clear HO_b'; have HO_g' := Za.mk (Kd.S_below HO_g.out hb); clear HO_g; have HO_g := HO_g'; clear HO_g'; have HO_z' := Za.mk (Kd.S_below HO_z.out hb); clear HO_z; have HO_z := HO_z'; clear HO_z'; obtain ⟨A_v, c_v, e_v⟩ := Kd.S_slice ho; subst e_v; have HO_v := Za.mk (S_span ho HN13.out hn14 (HB13.out.size)); clear ho hb hn14)
 clear HO_z
 go_wp2_with (go_at_call 8; refine (Zam.calls k A_v c_v v A_b c_b b true _ (Kd.Zar HO_v.out).2.2 (Kd.Zar HO_v.out).2.1 (Kd.Zap HO_b.out).2.2 (Kd.Zap HO_b.out).2.1 H15.out).mono ?_; clear H15; rintro e w15 ⟨rfl, hb⟩; have HB15 := Za.mk (below_call HB14.out hb HB14.out.size); obtain ⟨n15, hn15⟩ : ∃ n, w15.heap.size = n := ⟨_, rfl⟩; have HN15 := Za.mk hn15; have HL15 := Za.mk (show n14 ≤ n15 from by rw [← hn15, ← HN14.out]; exact hb.size); have HO_b' := Za.mk (Kd.Zan HO_b.out hb); clear HO_b; have HO_b := HO_b'; clear HO_b'; have HO_g' := Za.mk (Kd.S_below HO_g.out hb); clear HO_g; have HO_g := HO_g'; clear HO_g'; have HO_v' := Za.mk (Kd.S_below HO_v.out hb); clear HO_v; have HO_v := HO_v'; clear HO_v'; clear hb hn15)
 go_wp2_with (go_at_call 10; refine (calls_of_args (args' := #[.slice A_g gm.length c_g, .int .i64 1]) (by rw [HG_g.out]) (Zbc.calls k A_g c_g gm 1 q _ (HG_g.out ▸ (Kd.Zar HO_g.out).2.2) (HG_g.out ▸ (Kd.Zar HO_g.out).2.1) H12.out)).mono ?_; rintro e w16 ⟨rfl, hd⟩; have hb := below_of_drawn hd; clear hd; have HB16 := Za.mk (below_call HB15.out hb HB15.out.size); obtain ⟨n16, hn16⟩ : ∃ n, w16.heap.size = n := ⟨_, rfl⟩; have HN16 := Za.mk hn16; have HL16 := Za.mk (show n15 ≤ n16 from by rw [← hn16, ← HN15.out]; exact hb.size); have HO_b' := Za.mk (Kd.Zan HO_b.out hb); clear HO_b; have HO_b := HO_b'; clear HO_b'; have HO_g' := Za.mk (Kd.S_below HO_g.out hb); clear HO_g; have HO_g := HO_g'; clear HO_g'; have HO_v' := Za.mk (Kd.S_below HO_v.out hb); clear HO_v; have HO_v := HO_v'; clear HO_v'; clear hb hn16)
 go_ret
 exact ⟨rfl, HB16.out⟩
def Zbf.Pure : Prop := ∀ (l0 : List (S34)), l0.length ≤ maxLen → (∀ x ∈ l0, wf34 x) → ∃ k, Zbf.f k l0 = some true
end Go.Proofs.Ytjpjfkmnfppgkaa.P

namespace Go.Proofs.Ytjpjfkmnfppgkaa.Pure
open Go.RowKit Go.Proofs.Ytjpjfkmnfppgkaa.P Go.Proofs.YtjpjfkmnfppgkaaW.PrintWords Go.Proofs.YtjpjfkmnfppgkaaW.PrintLast
set_option linter.unusedVariables false
set_option linter.unusedSimpArgs false
theorem costI_insC (c : S35) : ∀ l, costI (insC c l) ≤ c.f2.length + costI l
  | [] => by simp [insC, costI]
  | x :: xs => by
    unfold insC
    split
    · exact Nat.le_refl _
    · split
      · have := costI_insC c xs
        show x.f2.length + costI (insC c xs) ≤ c.f2.length + (x.f2.length + costI xs)
        omega
      · show x.f2.length + costI xs ≤ c.f2.length + (x.f2.length + costI xs)
        omega
theorem costI_distC : ∀ l, costI (distC l) ≤ costI l
  | [] => Nat.le_refl _
  | x :: xs => by
    have h1 := costI_distC xs
    have h2 := costI_insC x (distC xs)
    show costI (insC x (distC xs)) ≤ x.f2.length + costI xs
    omega
theorem FnExactDistinct : Zbf.Pure := by
  intro l hl hw
  have hm : ∀ c ∈ l, c.f2.length ≤ maxLen := fun c hc => (hw c hc).2.2.1
  have hsz := szCallS_ev l hl hm
  obtain ⟨K0, h0⟩ := ev_get hsz
  by_cases hbig : l.length + costL l ≤ 1048576
  · rw [if_pos hbig] at h0
    have hm2 : ∀ c ∈ l, c.f2.length ≤ 1048576 := fun c hc => by have := costL_mem l c hc; omega
    have hlen : (l.map callOf).length = l.length := List.length_map ..
    have hmI : ∀ c ∈ l.map callOf, c.f2.length ≤ 1048576 := by
      intro c hc
      obtain ⟨x, hx, rfl⟩ := List.mem_map.1 hc
      exact hm2 x hx
    have hsh : shortC (l.map callOf) := ⟨by omega, hmI⟩
    have hD := distC_short hsh
    have hcD : costI (distC (l.map callOf)) ≤ 1048576 := by
      have := costI_distC (l.map callOf)
      have := costL_map l
      omega
    have himpl : ∀ k, impl_Distinct.f k (l.map callOf) = some (distC (l.map callOf)) := fun k => by
      unfold impl_Distinct.f
      exact if_pos hsh
    obtain ⟨K1, h1⟩ := ev_get (toCallS_ev l (by omega) hm2)
    obtain ⟨K2, h2⟩ := ev_get (specDistinct_ev _ (l.map callOf) (Nat.le_refl _) hsh)
    obtain ⟨K4, h4⟩ := ev_get (eqCallS_ev (distC (l.map callOf)) hD.1 hD.2)
    obtain ⟨K5, h5⟩ := ev_get (eqCallS_ev (l.map callOf) (by omega) hmI)
    obtain ⟨⟨km, xm⟩, hmk, hk0⟩ := markCallS_t (l.map callOf) (by omega) (by rw [costL_map]; omega)
    obtain ⟨K6, h6⟩ := ev_get hmk
    obtain ⟨K7, h7⟩ := ev_get (markCallS_ev (distC (l.map callOf)) hD.1 hcD)
    obtain ⟨K8, h8⟩ := ev_get (heldCallS_ev (distC (l.map callOf)) hD.1 hcD)
    have hend := endL_is (distC (l.map callOf)) 1
    have hge : ¬ (endL 1 (distC (l.map callOf)) < 0) := by omega
    refine ⟨K0 + K1 + K2 + K4 + K5 + K6 + K7 + K8, ?_⟩
    generalize hK : K0 + K1 + K2 + K4 + K5 + K6 + K7 + K8 = K
    unfold Zbf.f
    refine bo (h0 K (by omega)) ?_
    rw [if_neg (by omega)]
    refine bo (h1 K (by omega)) (bo (h2 K (by omega)) (bo (h1 K (by omega)) (bo (himpl K) (bo (h4 K (by omega)) ?_))))
    rw [if_pos rfl]
    refine bo (h1 K (by omega)) (bo (h5 K (by omega)) ?_)
    rw [if_pos rfl]
    refine bo (h6 K (by omega)) ?_
    dsimp only at hk0 ⊢
    rw [if_neg (by omega)]
    refine bo (h4 K (by omega)) ?_
    rw [if_pos rfl]
    refine bo (h7 K (by omega)) (bo (h8 K (by omega)) ?_)
    rw [if_pos rfl, if_neg hge]
    refine bo (h1 K (by omega)) (bo (himpl K) (bo (h4 K (by omega)) ?_))
    rw [if_pos rfl]
  · rw [if_neg hbig] at h0
    refine ⟨K0, ?_⟩
    unfold Zbf.f
    refine bo (h0 K0 (by omega)) ?_
    rw [if_pos (by decide)]
end Go.Proofs.Ytjpjfkmnfppgkaa.Pure
