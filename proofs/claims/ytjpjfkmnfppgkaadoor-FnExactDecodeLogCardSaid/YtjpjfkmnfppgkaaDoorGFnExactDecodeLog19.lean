import Derived.Test.YtjpjfkmnfppgkaaDoorGFnExactDecodeLog5
import Derived.Test.YtjpjfkmnfppgkaaDoorGFnExactDecodeLog18
import Derived.Test.YtjpjfkmnfppgkaaDoorGFnExactDecodeLog7
import Derived.Test.YtjpjfkmnfppgkaaDoorGFnExactDecodeLog12
import Derived.Test.YtjpjfkmnfppgkaaDoorGFnExactDecodeLog17
import Derived.Test.YtjpjfkmnfppgkaaDoorGFnExactDecodeLog13
import Derived.Test.YtjpjfkmnfppgkaaDoorGFnExactDecodeLog14
import Derived.Test.YtjpjfkmnfppgkaaDoorGFnExactDecodeLog16
namespace Go.Proofs.YtjpjfkmnfppgkaaDoor.P
open Go.RowKit Go.Proofs.YtjpjfkmnfppgkaaDoorW.PrintWords Go.Proofs.YtjpjfkmnfppgkaaDoorW.PrintLast Go.Proofs.YtjpjfkmnfppgkaaDoorW.PrintMore
set_option linter.unusedVariables false
set_option linter.unusedSimpArgs false

/-- Marks, one after another. -/
def marks (n : Nat) (k0 : Int) : List Int := (List.range n).map fun i : Nat => (k0 + (i : Int)) % 256
theorem marks_length (n : Nat) (k0 : Int) : (marks n k0).length = n := by simp [marks]
theorem markByteS_ev (l : List Int) (k0 : Int) (h0 : 0 ≤ k0) (h1 : k0 ≤ 1000000) (hl : l.length ≤ 140737488355328) : Ev (fun k => laws_markByteS.f k l k0) (k0 + (l.length : Int), marks l.length k0) := by
  have key := ev_loop (fun k (s : Int × List Int) i => laws_markByteS.l0 k s.2 s.1 i) l.length (fun i => (k0 + (i : Int), (marks i k0) ++ l.drop i)) (k0, l) (k0 + (l.length : Int), marks l.length k0) (by simp [marks]) (by simp) (fun i hi r hr => by
    have hlen : ((marks i k0) ++ l.drop i).length = l.length := by rw [List.length_append, marks_length, List.length_drop]; omega
    refine ev_step _ (fun k => ?_) hr
    simp only [laws_markByteS.l0]
    rw [hlen, if_pos (by omega), if_pos (by omega), wrap64_id (by omega) (by omega), wrap64_id (by omega) (by omega), Int.toNat_natCast]
    have e : ((marks i k0) ++ l.drop i).set i ((k0 + (i : Int)) % 256) = marks (i + 1) k0 ++ l.drop (i + 1) := by
      rw [List.set_append_right i _ (by rw [marks_length]; omega), marks_length, Nat.sub_self, List.drop_eq_getElem_cons hi, List.set_cons_zero]
      unfold marks
      rw [List.range_succ, List.map_append, List.append_assoc]
      rfl
    rw [e, show k0 + (i : Int) + 1 = k0 + ((i + 1 : Nat) : Int) by omega]
    rfl) (k0 + (l.length : Int), marks l.length k0)
  refine Ev.congr (fun k => rfl) (key (ev_end fun k => ?_))
  simp only [laws_markByteS.l0]
  rw [marks_length, if_neg (by omega)]
end Go.Proofs.YtjpjfkmnfppgkaaDoor.P

namespace Go.Proofs.YtjpjfkmnfppgkaaDoor.P
open Go.RowKit Go.Proofs.YtjpjfkmnfppgkaaDoorW.PrintWords Go.Proofs.YtjpjfkmnfppgkaaDoorW.PrintLast Go.Proofs.YtjpjfkmnfppgkaaDoorW.PrintMore
set_option linter.unusedVariables false
set_option linter.unusedSimpArgs false

/-! Rows of a law's own, told by the stretch of memory in which they were made. -/
section
variable {α : Type} {d : Kd α} {e b lo hi lo2 hi2 : Nat} {ok : Nat → Prop} {w W w1 W2 : World} {v : Value} {xs : List α}
/-- The stretch of memory from lo to hi. -/
def Span (lo hi : Nat) (k : Nat) : Prop := lo ≤ k ∧ k < hi
theorem S_span (h : Kd.S d e w1 W.heap.size ok v xs) (hW : W.heap.size = lo) (h1 : w1.heap.size = hi) (hb : b ≤ W.heap.size) : Kd.S d e w1 b (Span lo hi) v xs :=
  Kd.S_lower (Kd.S_mono (Kd.S_bound h) (fun k hk => ⟨by have := hk.2.1; omega, by have := hk.2.2.1; omega⟩)) hb
theorem R_span (h : Kd.R d e w1 W.heap.size ok v xs) (hW : W.heap.size = lo) (h1 : w1.heap.size = hi) (hb : b ≤ W.heap.size) : Kd.R d e w1 b (Span lo hi) v xs :=
  Kd.R_lower (Kd.R_mono (Kd.R_bound h) (fun k hk => ⟨by have := hk.2.1; omega, by have := hk.2.2.1; omega⟩)) hb
theorem S_beside (h : Kd.S d e W b (Span lo hi) v xs) (hk : Kept W W2 (Span lo2 hi2)) (hd : hi ≤ lo2 ∨ hi2 ≤ lo) : Kd.S d e W2 b (Span lo hi) v xs := Kd.S_kept h hk (fun k h1 h2 => by have := h1.1; have := h1.2; have := h2.1; have := h2.2; omega)
theorem below_of_drawn (h : Drawn0 W W2) : Below W.heap.size W W2 := h.below
end

end Go.Proofs.YtjpjfkmnfppgkaaDoor.P

namespace Go.Proofs.YtjpjfkmnfppgkaaDoor.P
open Go.RowKit Go.Proofs.YtjpjfkmnfppgkaaDoorW.PrintWords Go.Proofs.YtjpjfkmnfppgkaaDoorW.PrintLast Go.Proofs.YtjpjfkmnfppgkaaDoorW.PrintMore
set_option linter.unusedVariables false
set_option linter.unusedSimpArgs false

/-! Marks written into rows that may begin inside their blocks. -/
set_option maxHeartbeats 8000000 in
set_option maxRecDepth 100000 in
theorem laws_markUint64SQ.calls (k : Nat) (P0_ : Nat → Prop) (u9000_ : Value) (l0 : List Int) (a1 : Int) (r1 : Int) (r2 : List Int) (w0 w : World) (hB : Below w0.heap.size w0 w) (ho0 : Kd.Q (Kd.int .u64) 43 w w0.heap.size P0_ u9000_ l0) (h : laws_markUint64S.f k l0 a1 = some (r1, r2)) :
    Calls Tryd.prog 35 #[u9000_, .int .i64 a1] w fun e w' => e = .returned (.int .i64 r1) ∧ Kd.Q (Kd.int .u64) 43 w' w0.heap.size (fun k_ => (P0_ k_ ∨ w.heap.size ≤ k_)) u9000_ r2 ∧ Below w0.heap.size w0 w' ∧ Kept w w' (fun k_ => P0_ k_) := by
  have HO0 := Aside0.mk (show Kd.Q (Kd.int .u64) 43 w w0.heap.size (fun k_ => (P0_ k_ ∨ w.heap.size ≤ k_)) u9000_ l0 from Kd.Q_mono ho0 (fun k_ hk => (.inl hk)))
  have HK := Aside0.mk (Kept.refl w (fun k_ => P0_ k_))
  have HB := Aside0.mk hB
  clear hB ho0
  have H' := Aside0.mk (show laws_markUint64S.l0 k l0 a1 0 = some (r1, r2) from h)
  clear h
  go_enter Tryd.func35, Tryd.ntmps35
  go_wp2
  go_loopg [1, 5] k (fun kz v1 v5 w' => ∃ (x0 : List Int) (x1 : Int) (x5 : Int), v1 = .int .i64 x1 ∧ v5 = .int .i64 x5 ∧ Aside0 (laws_markUint64S.l0 kz x0 x1 x5 = some (r1, r2)) ∧ Aside0 (kz ≤ k) ∧ Aside0 (Kd.Q (Kd.int .u64) 43 w' w0.heap.size (fun k_ => (P0_ k_ ∨ w.heap.size ≤ k_)) u9000_ x0) ∧ Aside0 (Kept w w' (fun k_ => P0_ k_)) ∧ Aside0 (Below w0.heap.size w0 w'))
  case atStart => exact ⟨l0, a1, 0, rfl, rfl, H', ⟨Nat.le_refl _⟩, HO0, HK, HB⟩
  case round =>
    clear H' HO0 HK HB
    obtain ⟨x0, x1, x5, rfl, rfl, HA, HK1, HO, HK, HB⟩ := hrel
    cases gk with
    | zero => exact absurd HA.out (by simp [laws_markUint64S.l0])
    | succ k1 =>
      have H := HA.out
      clear HA
      simp only [laws_markUint64S.l0] at H
      by_cases c3 : x5 < (x0.length : Int)
      · rw [if_pos c3] at H
        by_cases c4 : 0 ≤ x5
        · rw [if_pos c4] at H
          obtain ⟨go, off, cap, rfl, gb, gl, _⟩ := Kd.Q_form HO.out (by omega)
          obtain ⟨j, rfl⟩ : ∃ j : Nat, x5 = j := ⟨x5.toNat, by omega⟩
          obtain ⟨hx, hf⟩ := Kd.Q_cell 0 HO.out (j : Int) (by omega) (by omega)
          have hp := Kd.Q_putg HO.out (j : Int) (by omega) (by omega) (IntKind.u64.wrap x1)
          have hok := HO.out.1 go (by simp [Value.ownBlock])
          simp only [Int.toNat_natCast] at hx hf hp H
          have c3b : decide ((j : Int) < (x0.length : Int)) = true := decide_eq_true c3
          have c3c : decide (j < x0.length) = true := decide_eq_true (by omega)
          have c3d : j < x0.length := by omega
          have HP := Aside0.mk hp
          have HG := Aside0.mk H
          have HOK := Aside0.mk hok
          have GB := Aside0.mk gb
          clear hp H hok c3 c4 gb gl
          go_wp2
          go_roundg k1
          case measure => have := HK1.out; omega
          case rel => exact ⟨_, _, _, rfl, rfl, HG, ⟨by have := HK1.out; omega⟩, ⟨HP.out.1⟩, ⟨Kept.setCell HK.out (p := ⟨go, off + j, none⟩) HOK.out _⟩, ⟨below_set1 HB.out GB.out _⟩⟩
        · rw [if_neg c4] at H
          exact absurd H (by simp)
      · rw [if_neg c3] at H
        have c3b : decide (x5 < (x0.length : Int)) = false := decide_eq_false c3
        simp only [Option.some.injEq, Prod.mk.injEq] at H
        obtain ⟨rfl, rfl⟩ := H
        obtain ⟨Ao9, co9, eo9, _⟩ := Kd.Q_slice HO.out
        subst eo9
        clear c3
        go_wp2
        go_ret
        exact ⟨rfl, HO.out, HB.out, HK.out⟩
set_option maxHeartbeats 8000000 in
set_option maxRecDepth 100000 in
theorem laws_markCallSQ.calls (k : Nat) (P0_ : Nat → Prop) (u9000_ : Value) (l0 : List (S28)) (a1 : Int) (r1 : Int) (r2 : List (S28)) (w0 w : World) (hB : Below w0.heap.size w0 w) (ho0 : Kd.S kq 28 w w0.heap.size P0_ u9000_ l0) (h : laws_markCallS.f k l0 a1 = some (r1, r2)) :
    Calls Tryd.prog 15 #[u9000_, .int .i64 a1] w fun e w' => e = .returned (.int .i64 r1) ∧ Kd.S kq 28 w' w0.heap.size (fun k_ => (P0_ k_ ∨ w.heap.size ≤ k_)) u9000_ r2 ∧ Below w0.heap.size w0 w' ∧ Kept w w' (fun k_ => P0_ k_) := by
  have HO0 := Aside0.mk (show Kd.S kq 28 w w0.heap.size (fun k_ => (P0_ k_ ∨ w.heap.size ≤ k_)) u9000_ l0 from Kd.S_mono ho0 (fun k_ hk => (.inl hk)))
  have HK := Aside0.mk (Kept.refl w (fun k_ => P0_ k_))
  have HB := Aside0.mk hB
  clear hB ho0
  have H' := Aside0.mk (show laws_markCallS.l0 k l0 a1 0 = some (r1, r2) from h)
  clear h
  go_enter Tryd.func15, Tryd.ntmps15
  go_wp2
  go_loopg [1, 5] k (fun kz v1 v5 w' => ∃ (x0 : List (S28)) (x1 : Int) (x5 : Int), v1 = .int .i64 x1 ∧ v5 = .int .i64 x5 ∧ Aside0 (laws_markCallS.l0 kz x0 x1 x5 = some (r1, r2)) ∧ Aside0 (kz ≤ k) ∧ Aside0 (Kd.S kq 28 w' w0.heap.size (fun k_ => (P0_ k_ ∨ w.heap.size ≤ k_)) u9000_ x0) ∧ Aside0 (Kept w w' (fun k_ => P0_ k_)) ∧ Aside0 (Below w0.heap.size w0 w'))
  case atStart => exact ⟨l0, a1, 0, rfl, rfl, H', ⟨Nat.le_refl _⟩, HO0, HK, HB⟩
  case round =>
    clear H' HO0 HK HB
    obtain ⟨x0, x1, x5, rfl, rfl, HA, HK1, HO, HK, HB⟩ := hrel
    cases gk with
    | zero => exact absurd HA.out (by simp [laws_markCallS.l0])
    | succ k1 =>
      have H := HA.out
      clear HA
      simp only [laws_markCallS.l0] at H
      by_cases c3 : x5 < (x0.length : Int)
      · rw [if_pos c3] at H
        by_cases c4 : 0 ≤ x5
        · rw [if_pos c4] at H
          obtain ⟨⟨t1, t2⟩, hm, H⟩ := Option.bind_eq_some_iff.1 H
          obtain ⟨go, cap, rfl, gb, gl, _⟩ := Kd.S_form HO.out (by omega)
          obtain ⟨oki, c, hcl, hM, hcc, hfr, hoki, hH⟩ := Kd.S_elem HO.out z28 x5 c4 (by omega)
          obtain ⟨v, rfl, hR⟩ := kq_openM hM
          have e1 := hcc 0 _ rfl
          have e2 := hcc 1 _ rfl
          have e3 := hcc 2 _ rfl
          have f1 := hfr 0
          have f2 := hfr 1
          have hs : kq.sz = 3 := rfl
          rw [hs] at e1 e2 e3 f1 f2
          rw [Nat.add_zero] at e1 f1
          have c3b : decide (x5 < (x0.length : Int)) = true := decide_eq_true c3
          have c4b : decide (0 ≤ x5) = true := decide_eq_true c4
          have HM := Aside0.mk hm
          have HG := Aside0.mk H
          have HC := Aside0.mk hcc
          have HF := Aside0.mk hfr
          have HI := Aside0.mk hoki
          have HH := Aside0.mk hH
          have HR := Aside0.mk hR
          have c3e := eq_true c3
          have c4e := eq_true c4
          have GB := Aside0.mk gb
          have C3 := Aside0.mk c3
          have C4 := Aside0.mk c4
          clear hm H hcc hfr hoki hH hR hM hs c3 c4 gb gl hcl
          go_wp2_with (go_at_call 35; refine (laws_markUint64SQ.calls k1 oki v _ _ t1 t2 w0 _ (below_set1 (below_set1 HB.out GB.out _) GB.out _) (Kd.Q_far (p := ⟨go, _, none⟩) (Kd.Q_far (p := ⟨go, _, none⟩) HR.out (fun k hk => (HI.out k hk).2) _) (fun k hk => (HI.out k hk).2) _) HM.out).mono ?_; rintro e w3 ⟨rfl, hR3, hB3, hK3⟩; have HR3 := Aside0.mk hR3; have HB3 := Aside0.mk hB3; have HK3 := Aside0.mk hK3; clear hR3 hB3 hK3)
          have hH := HH.out
          have h1 := (Kd.H_seg hH C4.out C3.out (seg := [.int .u32 (x1 % 4294967296)]) (j := 0) (show (1 : Nat) ≤ 3 from by decide) (by simp [Value.oneCell'])).1
          have h2 := (Kd.H_seg h1 C4.out C3.out (seg := [.int .u32 (wrap64 (x1 + 1) % 4294967296)]) (j := 1) (show (2 : Nat) ≤ 3 from by decide) (by simp [Value.oneCell'])).1
          have h3 := Kd.H_step (w1 := w3) h2 (fun k _ hn hlt => HK3.out.2 k hlt hn)
          have hR4 : (Kd.int .u64).Q 43 w3 w0.heap.size oki v t2 := Kd.Q_mono (Kd.Q_tight rfl HR3.out) (fun k hk => HR.out.1 k hk.symm)
          have h4 := Kd.H_back h3 (x' := (⟨x1 % 4294967296, wrap64 (x1 + 1) % 4294967296, t2⟩ : S28)) (kq_mkM w3 _ oki _ hR4) (fun _ h => h)
          have hgo := (Kd.S_R HO.out).1 go rfl
          have HO4 := Aside0.mk h4
          have HK4 := Aside0.mk (Kept.then_ (Kept.setCell (Kept.setCell HK.out (p := ⟨go, _, none⟩) hgo _) (p := ⟨go, _, none⟩) hgo _) HK3.out (fun k hk => (HI.out k hk).1))
          clear h1 h2 h3 h4 hH hgo hR4
          go_roundg k1
          case measure => have := HK1.out; omega
          case rel => exact ⟨_, t1, wrap64 (x5 + 1), rfl, rfl, HG, ⟨by have := HK1.out; omega⟩, HO4, HK4, HB3⟩
        · rw [if_neg c4] at H
          exact absurd H (by simp)
      · rw [if_neg c3] at H
        have c3b : decide (x5 < (x0.length : Int)) = false := decide_eq_false c3
        simp only [Option.some.injEq, Prod.mk.injEq] at H
        obtain ⟨rfl, rfl⟩ := H
        obtain ⟨Ao9, co9, eo9⟩ := Kd.S_slice HO.out
        subst eo9
        clear c3
        go_wp2
        go_ret
        exact ⟨rfl, HO.out, HB.out, HK.out⟩

end Go.Proofs.YtjpjfkmnfppgkaaDoor.P

namespace Go.Proofs.YtjpjfkmnfppgkaaDoor.P
open Go.RowKit Go.Proofs.YtjpjfkmnfppgkaaDoorW.PrintWords Go.Proofs.YtjpjfkmnfppgkaaDoorW.PrintLast Go.Proofs.YtjpjfkmnfppgkaaDoorW.PrintMore
attribute [local go_sem] max2_int min2_int max_two min_two max_three min_three max_four min_four   -- for this text's walks alone
set_option linter.unusedVariables false
set_option linter.unusedSimpArgs false

def laws_FnExactDecodeLog.f (k : Nat) (l0 : List Int) : Option Bool :=
  if (l0.length : Int) > 1048576 then some true else
  (laws_toByteS.f k l0).bind fun a => (spec_DecodeLog.f k a).bind fun b_ => (laws_toByteS.f k l0).bind fun x => (impl_DecodeLog.f k x).bind fun g_ => (laws_eqCallS.f k g_.1 b_.1).bind fun e_ => if e_ = true then if g_.2.1 = b_.2.1 then if g_.2.2 = b_.2.2 then (laws_toByteS.f k l0).bind fun y => (laws_eqByteS.f k x y).bind fun e_ => if e_ = true then (laws_markByteS.f k x 1).bind fun km_ => if km_.1 < 0 then none else (laws_eqCallS.f k g_.1 b_.1).bind fun e_ => if e_ = true then (laws_markCallS.f k g_.1 1).bind fun m_ => (laws_heldCallS.f k m_.2 1).bind fun q_ => if q_ = m_.1 then if m_.1 < 0 then none else (laws_toByteS.f k l0).bind fun z => (impl_DecodeLog.f k z).bind fun v_ => (laws_eqCallS.f k v_.1 b_.1).bind fun e_ => if e_ = true then if v_.2.1 = b_.2.1 then if v_.2.2 = b_.2.2 then some true else none else none else none else none else none else none else none else none else none
set_option maxHeartbeats 8000000 in
set_option maxRecDepth 100000 in
theorem laws_FnExactDecodeLog.calls (k : Nat) (A0 : Option Addr) (c0 : Nat) (l0 : List Int) (r : Bool) (w : World) (hr0 : Kd.C (Kd.int .u8) w A0 l0.length l0) (hc0 : l0.length ≤ c0) (hE : ETok w) (h : laws_FnExactDecodeLog.f k l0 = some r) :
    Calls Tryd.prog 4 #[.slice A0 l0.length c0] w fun e w' => e = .returned (.bool r) ∧ Below w.heap.size w w' := by
  unfold laws_FnExactDecodeLog.f at h
  have HR0 := Aside0.mk hr0
  have HC0 := Aside0.mk hc0
  clear hr0 hc0
  have HE := Aside0.mk hE
  clear hE
  by_cases ct : (l0.length : Int) > 1048576
  · rw [if_pos ct] at h
    obtain rfl := Option.some.inj h
    have ctb : decide ((l0.length : Int) > 1048576) = true := decide_eq_true ct
    have ctc : decide (1048576 < l0.length) = true := decide_eq_true (by omega)
    clear h ct
    go_enter Tryd.func4, Tryd.ntmps4
    go_wp2
    go_ret
    exact ⟨rfl, Below.refl _ _⟩
  rw [if_neg ct] at h
  have ctb : decide ((l0.length : Int) > 1048576) = false := decide_eq_false ct
  have ctc : decide (1048576 < l0.length) = false := decide_eq_false (by omega)
  clear ct
  replace h := Option.bind_eq_some_iff.1 h
  obtain ⟨a, h2, h⟩ := h
  replace h := Option.bind_eq_some_iff.1 h
  obtain ⟨⟨b, b2, b3⟩, h3, h⟩ := h
  dsimp only at h
  replace h := Option.bind_eq_some_iff.1 h
  obtain ⟨x, h4, h⟩ := h
  replace h := Option.bind_eq_some_iff.1 h
  obtain ⟨⟨g, g2, g3⟩, h5, h⟩ := h
  dsimp only at h
  replace h := Option.bind_eq_some_iff.1 h
  obtain ⟨e6, h6, h⟩ := h
  by_cases ee : e6 = true
  case neg => rw [if_neg ee] at h; exact absurd h (by simp)
  rw [if_pos ee] at h
  subst ee
  by_cases ee : g2 = b2
  case neg => rw [if_neg ee] at h; exact absurd h (by simp)
  rw [if_pos ee] at h
  subst ee
  by_cases ee : g3 = b3
  case neg => rw [if_neg ee] at h; exact absurd h (by simp)
  rw [if_pos ee] at h
  subst ee
  replace h := Option.bind_eq_some_iff.1 h
  obtain ⟨y, h7, h⟩ := h
  replace h := Option.bind_eq_some_iff.1 h
  obtain ⟨e8, h8, h⟩ := h
  by_cases ee : e8 = true
  case neg => rw [if_neg ee] at h; exact absurd h (by simp)
  rw [if_pos ee] at h
  subst ee
  replace h := Option.bind_eq_some_iff.1 h
  obtain ⟨⟨km, xm⟩, h9, h⟩ := h
  dsimp only at h
  by_cases ckm : km < 0
  case pos => rw [if_pos ckm] at h; exact absurd h (by simp)
  rw [if_neg ckm] at h
  have ckmb : decide (km < 0) = false := decide_eq_false ckm
  clear ckm
  replace h := Option.bind_eq_some_iff.1 h
  obtain ⟨e10, h10, h⟩ := h
  by_cases ee : e10 = true
  case neg => rw [if_neg ee] at h; exact absurd h (by simp)
  rw [if_pos ee] at h
  subst ee
  replace h := Option.bind_eq_some_iff.1 h
  obtain ⟨⟨m, gm⟩, h11, h⟩ := h
  dsimp only at h
  replace h := Option.bind_eq_some_iff.1 h
  obtain ⟨q, h12, h⟩ := h
  by_cases ee : q = m
  case neg => rw [if_neg ee] at h; exact absurd h (by simp)
  rw [if_pos ee] at h
  subst ee
  by_cases cm : q < 0
  case pos => rw [if_pos cm] at h; exact absurd h (by simp)
  rw [if_neg cm] at h
  have cmb : decide (q < 0) = false := decide_eq_false cm
  clear cm
  replace h := Option.bind_eq_some_iff.1 h
  obtain ⟨z, h13, h⟩ := h
  replace h := Option.bind_eq_some_iff.1 h
  obtain ⟨⟨v, v2, v3⟩, h14, h⟩ := h
  dsimp only at h
  replace h := Option.bind_eq_some_iff.1 h
  obtain ⟨e15, h15, h⟩ := h
  by_cases ee : e15 = true
  case neg => rw [if_neg ee] at h; exact absurd h (by simp)
  rw [if_pos ee] at h
  subst ee
  by_cases ee : v2 = g2
  case neg => rw [if_neg ee] at h; exact absurd h (by simp)
  rw [if_pos ee] at h
  subst ee
  by_cases ee : v3 = g3
  case neg => rw [if_neg ee] at h; exact absurd h (by simp)
  rw [if_pos ee] at h
  subst ee
  obtain rfl := Option.some.inj h
  have H2 := Aside0.mk h2
  have H3 := Aside0.mk h3
  have H4 := Aside0.mk h4
  have H5 := Aside0.mk h5
  have H6 := Aside0.mk h6
  have H7 := Aside0.mk h7
  have H8 := Aside0.mk h8
  have H9 := Aside0.mk h9
  have H10 := Aside0.mk h10
  have H11 := Aside0.mk h11
  have H12 := Aside0.mk h12
  have H13 := Aside0.mk h13
  have H14 := Aside0.mk h14
  have H15 := Aside0.mk h15
  clear h h2 h3 h4 h5 h6 h7 h8 h9 h10 h11 h12 h13 h14 h15
  obtain ⟨n0, hn0⟩ : ∃ n, w.heap.size = n := ⟨_, rfl⟩
  have HN0 := Aside0.mk hn0
  have HB0 := Aside0.mk (Below.refl w.heap.size w)
  clear hn0
  go_enter Tryd.func4, Tryd.ntmps4
  go_wp2_with (go_at_call 11; refine (laws_toByteS.calls k A0 c0 l0 a _ (Kd.C_below HR0.out HB0.out) HC0.out H2.out).mono ?_; clear H2; rintro e w1 ⟨v_a, rfl, ho, hb⟩; have HB1 := Aside0.mk (below_call HB0.out hb HB0.out.size); obtain ⟨n1, hn1⟩ : ∃ n, w1.heap.size = n := ⟨_, rfl⟩; have HN1 := Aside0.mk hn1; have HL1 := Aside0.mk (show n0 ≤ n1 from by rw [← hn1, ← HN0.out]; exact hb.size); obtain ⟨A_a, c_a, e_a⟩ := Kd.R_slice ho; subst e_a; have HO_a := Aside0.mk (R_span ho HN0.out hn1 (HB0.out.size)); clear ho hb hn1)
  go_wp2_with (go_at_call 10; refine (spec_DecodeLog.calls k A_a c_a a b v2 v3 _ (Kd.R_reads' HO_a.out).2.2 (Kd.R_reads' HO_a.out).2.1 H3.out).mono ?_; clear H3; rintro e w2 ⟨v_b, rfl, ho, hb⟩; have HB2 := Aside0.mk (below_call HB1.out hb HB1.out.size); obtain ⟨n2, hn2⟩ : ∃ n, w2.heap.size = n := ⟨_, rfl⟩; have HN2 := Aside0.mk hn2; have HL2 := Aside0.mk (show n1 ≤ n2 from by rw [← hn2, ← HN1.out]; exact hb.size); have HO_a' := Aside0.mk (Kd.R_below HO_a.out hb); clear HO_a; have HO_a := HO_a'; clear HO_a'; obtain ⟨A_b, c_b, e_b⟩ := Kd.S_slice ho; subst e_b; have HO_b := Aside0.mk (S_span ho HN1.out hn2 (HB1.out.size)); clear ho hb hn2)
  clear HO_a
  go_wp2_with (go_at_call 11; refine (laws_toByteS.calls k A0 c0 l0 x _ (Kd.C_below HR0.out HB2.out) HC0.out H4.out).mono ?_; clear H4; rintro e w3 ⟨v_x, rfl, ho, hb⟩; have HB3 := Aside0.mk (below_call HB2.out hb HB2.out.size); obtain ⟨n3, hn3⟩ : ∃ n, w3.heap.size = n := ⟨_, rfl⟩; have HN3 := Aside0.mk hn3; have HL3 := Aside0.mk (show n2 ≤ n3 from by rw [← hn3, ← HN2.out]; exact hb.size); have HO_b' := Aside0.mk (Kd.S_below HO_b.out hb); clear HO_b; have HO_b := HO_b'; clear HO_b'; obtain ⟨A_x, c_x, e_x⟩ := Kd.R_slice ho; subst e_x; have HO_x := Aside0.mk (R_span ho HN2.out hn3 (HB2.out.size)); clear ho hb hn3)
  go_wp2_with (go_at_call 8; refine (impl_DecodeLog.calls k A_x c_x x g v2 v3 _ (Kd.R_reads' HO_x.out).2.2 (Kd.R_reads' HO_x.out).2.1 (HE.out.below HB3.out) H5.out).mono ?_; clear H5; rintro e w4 ⟨v_g, rfl, ho, hb⟩; have HB4 := Aside0.mk (below_call HB3.out hb HB3.out.size); obtain ⟨n4, hn4⟩ : ∃ n, w4.heap.size = n := ⟨_, rfl⟩; have HN4 := Aside0.mk hn4; have HL4 := Aside0.mk (show n3 ≤ n4 from by rw [← hn4, ← HN3.out]; exact hb.size); have HO_b' := Aside0.mk (Kd.S_below HO_b.out hb); clear HO_b; have HO_b := HO_b'; clear HO_b'; have HO_x' := Aside0.mk (Kd.R_below HO_x.out hb); clear HO_x; have HO_x := HO_x'; clear HO_x'; obtain ⟨A_g, c_g, e_g⟩ := Kd.S_slice ho; subst e_g; have HO_g := Aside0.mk (S_span ho HN3.out hn4 (HB3.out.size)); clear ho hb hn4)
  go_wp2_with (go_at_call 12; refine (laws_eqCallS.calls k A_g c_g g A_b c_b b true _ (Kd.S_reads' HO_g.out).2.2 (Kd.S_reads' HO_g.out).2.1 (Kd.S_reads' HO_b.out).2.2 (Kd.S_reads' HO_b.out).2.1 H6.out).mono ?_; clear H6; rintro e w5 ⟨rfl, hb⟩; have HB5 := Aside0.mk (below_call HB4.out hb HB4.out.size); obtain ⟨n5, hn5⟩ : ∃ n, w5.heap.size = n := ⟨_, rfl⟩; have HN5 := Aside0.mk hn5; have HL5 := Aside0.mk (show n4 ≤ n5 from by rw [← hn5, ← HN4.out]; exact hb.size); have HO_b' := Aside0.mk (Kd.S_below HO_b.out hb); clear HO_b; have HO_b := HO_b'; clear HO_b'; have HO_x' := Aside0.mk (Kd.R_below HO_x.out hb); clear HO_x; have HO_x := HO_x'; clear HO_x'; have HO_g' := Aside0.mk (Kd.S_below HO_g.out hb); clear HO_g; have HO_g := HO_g'; clear HO_g'; clear hb hn5)
  go_wp2_with (go_at_call 11; refine (laws_toByteS.calls k A0 c0 l0 y _ (Kd.C_below HR0.out HB5.out) HC0.out H7.out).mono ?_; clear H7; rintro e w6 ⟨v_y, rfl, ho, hb⟩; have HB6 := Aside0.mk (below_call HB5.out hb HB5.out.size); obtain ⟨n6, hn6⟩ : ∃ n, w6.heap.size = n := ⟨_, rfl⟩; have HN6 := Aside0.mk hn6; have HL6 := Aside0.mk (show n5 ≤ n6 from by rw [← hn6, ← HN5.out]; exact hb.size); have HO_b' := Aside0.mk (Kd.S_below HO_b.out hb); clear HO_b; have HO_b := HO_b'; clear HO_b'; have HO_x' := Aside0.mk (Kd.R_below HO_x.out hb); clear HO_x; have HO_x := HO_x'; clear HO_x'; have HO_g' := Aside0.mk (Kd.S_below HO_g.out hb); clear HO_g; have HO_g := HO_g'; clear HO_g'; obtain ⟨A_y, c_y, e_y⟩ := Kd.R_slice ho; subst e_y; have HO_y := Aside0.mk (R_span ho HN5.out hn6 (HB5.out.size)); clear ho hb hn6)
  go_wp2_with (go_at_call 13; refine (laws_eqByteS.calls k A_x c_x x A_y c_y y true _ (Kd.R_reads' HO_x.out).2.2 (Kd.R_reads' HO_x.out).2.1 (Kd.R_reads' HO_y.out).2.2 (Kd.R_reads' HO_y.out).2.1 H8.out).mono ?_; clear H8; rintro e w7 ⟨rfl, hd⟩; have hb := below_of_drawn hd; clear hd; have HB7 := Aside0.mk (below_call HB6.out hb HB6.out.size); obtain ⟨n7, hn7⟩ : ∃ n, w7.heap.size = n := ⟨_, rfl⟩; have HN7 := Aside0.mk hn7; have HL7 := Aside0.mk (show n6 ≤ n7 from by rw [← hn7, ← HN6.out]; exact hb.size); have HO_b' := Aside0.mk (Kd.S_below HO_b.out hb); clear HO_b; have HO_b := HO_b'; clear HO_b'; have HO_x' := Aside0.mk (Kd.R_below HO_x.out hb); clear HO_x; have HO_x := HO_x'; clear HO_x'; have HO_g' := Aside0.mk (Kd.S_below HO_g.out hb); clear HO_g; have HO_g := HO_g'; clear HO_g'; have HO_y' := Aside0.mk (Kd.R_below HO_y.out hb); clear HO_y; have HO_y := HO_y'; clear HO_y'; clear hb hn7)
  clear HO_y
  go_wp2_with (go_at_call 14; refine (laws_markByteS.calls k (Span n2 n3) _ x 1 km xm w _ HB7.out HO_x.out H9.out).mono ?_; clear H9; rintro e w8 ⟨rfl, ho, hb, hk⟩; have HB8 := Aside0.mk (hb); obtain ⟨n8, hn8⟩ : ∃ n, w8.heap.size = n := ⟨_, rfl⟩; have HN8 := Aside0.mk hn8; have HL8 := Aside0.mk (show n7 ≤ n8 from by rw [← hn8, ← HN7.out]; exact hk.1); have HO_b' := Aside0.mk (S_beside HO_b.out hk (by have := HL1.out; have := HL2.out; have := HL3.out; have := HL4.out; have := HL5.out; have := HL6.out; have := HL7.out; have := HL8.out; omega)); clear HO_b; have HO_b := HO_b'; clear HO_b'; have HO_g' := Aside0.mk (S_beside HO_g.out hk (by have := HL1.out; have := HL2.out; have := HL3.out; have := HL4.out; have := HL5.out; have := HL6.out; have := HL7.out; have := HL8.out; omega)); clear HO_g; have HO_g := HO_g'; clear HO_g'; clear HO_x; have HO_x := Aside0.mk ho; have HG_x := Aside0.mk (Kd.R_reads' ho).1; clear ho hb hk hn8)
  clear HO_x
  go_wp2_with (go_at_call 12; refine (laws_eqCallS.calls k A_g c_g g A_b c_b b true _ (Kd.S_reads' HO_g.out).2.2 (Kd.S_reads' HO_g.out).2.1 (Kd.S_reads' HO_b.out).2.2 (Kd.S_reads' HO_b.out).2.1 H10.out).mono ?_; clear H10; rintro e w9 ⟨rfl, hb⟩; have HB9 := Aside0.mk (below_call HB8.out hb HB8.out.size); obtain ⟨n9, hn9⟩ : ∃ n, w9.heap.size = n := ⟨_, rfl⟩; have HN9 := Aside0.mk hn9; have HL9 := Aside0.mk (show n8 ≤ n9 from by rw [← hn9, ← HN8.out]; exact hb.size); have HO_b' := Aside0.mk (Kd.S_below HO_b.out hb); clear HO_b; have HO_b := HO_b'; clear HO_b'; have HO_g' := Aside0.mk (Kd.S_below HO_g.out hb); clear HO_g; have HO_g := HO_g'; clear HO_g'; clear hb hn9)
  go_wp2_with (go_at_call 15; refine (laws_markCallSQ.calls k (Span n3 n4) _ g 1 q gm w _ HB9.out HO_g.out H11.out).mono ?_; clear H11; rintro e w10 ⟨rfl, ho, hb, hk⟩; have HB10 := Aside0.mk (hb); obtain ⟨n10, hn10⟩ : ∃ n, w10.heap.size = n := ⟨_, rfl⟩; have HN10 := Aside0.mk hn10; have HL10 := Aside0.mk (show n9 ≤ n10 from by rw [← hn10, ← HN9.out]; exact hk.1); have HO_b' := Aside0.mk (S_beside HO_b.out hk (by have := HL1.out; have := HL2.out; have := HL3.out; have := HL4.out; have := HL5.out; have := HL6.out; have := HL7.out; have := HL8.out; have := HL9.out; have := HL10.out; omega)); clear HO_b; have HO_b := HO_b'; clear HO_b'; clear HO_g; have HO_g := Aside0.mk ho; have HG_g := Aside0.mk (Kd.S_reads' ho).1; clear ho hb hk hn10)
  go_wp2_with (go_at_call 16; refine (calls_of_args (args' := #[.slice A_g gm.length c_g, .int .i64 1]) (by rw [HG_g.out]) (laws_heldCallS.calls k A_g c_g gm 1 q _ (HG_g.out ▸ (Kd.S_reads' HO_g.out).2.2) (HG_g.out ▸ (Kd.S_reads' HO_g.out).2.1) H12.out)).mono ?_; rintro e w11 ⟨rfl, hd⟩; have hb := below_of_drawn hd; clear hd; have HB11 := Aside0.mk (below_call HB10.out hb HB10.out.size); obtain ⟨n11, hn11⟩ : ∃ n, w11.heap.size = n := ⟨_, rfl⟩; have HN11 := Aside0.mk hn11; have HL11 := Aside0.mk (show n10 ≤ n11 from by rw [← hn11, ← HN10.out]; exact hb.size); have HO_b' := Aside0.mk (Kd.S_below HO_b.out hb); clear HO_b; have HO_b := HO_b'; clear HO_b'; have HO_g' := Aside0.mk (Kd.S_below HO_g.out hb); clear HO_g; have HO_g := HO_g'; clear HO_g'; clear hb hn11)
  go_wp2_with (go_at_call 11; refine (laws_toByteS.calls k A0 c0 l0 z _ (Kd.C_below HR0.out HB11.out) HC0.out H13.out).mono ?_; clear H13; rintro e w12 ⟨v_z, rfl, ho, hb⟩; have HB12 := Aside0.mk (below_call HB11.out hb HB11.out.size); obtain ⟨n12, hn12⟩ : ∃ n, w12.heap.size = n := ⟨_, rfl⟩; have HN12 := Aside0.mk hn12; have HL12 := Aside0.mk (show n11 ≤ n12 from by rw [← hn12, ← HN11.out]; exact hb.size); have HO_b' := Aside0.mk (Kd.S_below HO_b.out hb); clear HO_b; have HO_b := HO_b'; clear HO_b'; have HO_g' := Aside0.mk (Kd.S_below HO_g.out hb); clear HO_g; have HO_g := HO_g'; clear HO_g'; obtain ⟨A_z, c_z, e_z⟩ := Kd.R_slice ho; subst e_z; have HO_z := Aside0.mk (R_span ho HN11.out hn12 (HB11.out.size)); clear ho hb hn12)
  go_wp2_with (go_at_call 8; refine (impl_DecodeLog.calls k A_z c_z z v v2 v3 _ (Kd.R_reads' HO_z.out).2.2 (Kd.R_reads' HO_z.out).2.1 (HE.out.below HB12.out) H14.out).mono ?_; clear H14; rintro e w13 ⟨v_v, rfl, ho, hb⟩; have HB13 := Aside0.mk (below_call HB12.out hb HB12.out.size); obtain ⟨n13, hn13⟩ : ∃ n, w13.heap.size = n := ⟨_, rfl⟩; have HN13 := Aside0.mk hn13; have HL13 := Aside0.mk (show n12 ≤ n13 from by rw [← hn13, ← HN12.out]; exact hb.size); have HO_b' := Aside0.mk (Kd.S_below HO_b.out hb); clear HO_b; have HO_b := HO_b'; clear HO_b'; have HO_g' := Aside0.mk (Kd.S_below HO_g.out hb); clear HO_g; have HO_g := HO_g'; clear HO_g'; have HO_z' := Aside0.mk (Kd.R_below HO_z.out hb); clear HO_z; have HO_z := HO_z'; clear HO_z'; obtain ⟨A_v, c_v, e_v⟩ := Kd.S_slice ho; subst e_v; have HO_v := Aside0.mk (S_span ho HN12.out hn13 (HB12.out.size)); clear ho hb hn13)
  clear HO_z
  go_wp2_with (go_at_call 12; refine (laws_eqCallS.calls k A_v c_v v A_b c_b b true _ (Kd.S_reads' HO_v.out).2.2 (Kd.S_reads' HO_v.out).2.1 (Kd.S_reads' HO_b.out).2.2 (Kd.S_reads' HO_b.out).2.1 H15.out).mono ?_; clear H15; rintro e w14 ⟨rfl, hb⟩; have HB14 := Aside0.mk (below_call HB13.out hb HB13.out.size); obtain ⟨n14, hn14⟩ : ∃ n, w14.heap.size = n := ⟨_, rfl⟩; have HN14 := Aside0.mk hn14; have HL14 := Aside0.mk (show n13 ≤ n14 from by rw [← hn14, ← HN13.out]; exact hb.size); have HO_b' := Aside0.mk (Kd.S_below HO_b.out hb); clear HO_b; have HO_b := HO_b'; clear HO_b'; have HO_g' := Aside0.mk (Kd.S_below HO_g.out hb); clear HO_g; have HO_g := HO_g'; clear HO_g'; have HO_v' := Aside0.mk (Kd.S_below HO_v.out hb); clear HO_v; have HO_v := HO_v'; clear HO_v'; clear hb hn14)
  go_wp2_with (go_at_call 16; refine (calls_of_args (args' := #[.slice A_g gm.length c_g, .int .i64 1]) (by rw [HG_g.out]) (laws_heldCallS.calls k A_g c_g gm 1 q _ (HG_g.out ▸ (Kd.S_reads' HO_g.out).2.2) (HG_g.out ▸ (Kd.S_reads' HO_g.out).2.1) H12.out)).mono ?_; rintro e w15 ⟨rfl, hd⟩; have hb := below_of_drawn hd; clear hd; have HB15 := Aside0.mk (below_call HB14.out hb HB14.out.size); obtain ⟨n15, hn15⟩ : ∃ n, w15.heap.size = n := ⟨_, rfl⟩; have HN15 := Aside0.mk hn15; have HL15 := Aside0.mk (show n14 ≤ n15 from by rw [← hn15, ← HN14.out]; exact hb.size); have HO_b' := Aside0.mk (Kd.S_below HO_b.out hb); clear HO_b; have HO_b := HO_b'; clear HO_b'; have HO_g' := Aside0.mk (Kd.S_below HO_g.out hb); clear HO_g; have HO_g := HO_g'; clear HO_g'; have HO_v' := Aside0.mk (Kd.S_below HO_v.out hb); clear HO_v; have HO_v := HO_v'; clear HO_v'; clear hb hn15)
  go_ret
  exact ⟨rfl, HB15.out⟩

end Go.Proofs.YtjpjfkmnfppgkaaDoor.P
