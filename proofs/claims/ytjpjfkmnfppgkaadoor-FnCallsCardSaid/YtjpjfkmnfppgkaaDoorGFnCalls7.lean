import Derived.Test.YtjpjfkmnfppgkaaDoorGFnCalls5
import Derived.Test.YtjpjfkmnfppgkaaDoorGFnCalls6
namespace Go.Proofs.YtjpjfkmnfppgkaaDoor.P
open Go.RowKit Go.Proofs.YtjpjfkmnfppgkaaDoorW.PrintWords Go.Proofs.YtjpjfkmnfppgkaaDoorW.PrintLast Go.Proofs.YtjpjfkmnfppgkaaDoorW.PrintMore
set_option linter.unusedVariables false
set_option linter.unusedSimpArgs false
/-! Draws: they all come to something. -/
def U (x : Int) : Prop := 0 ≤ x ∧ x < 18446744073709551616
theorem u_wrap (x : Int) : U (IntKind.u64.wrap x) := by unfold U; rw [wrap_u64]; omega
theorem u_shl (x y : Int) : U (shl .u64 x y) := u_wrap _
theorem u_bits (op : BinOp) (x y : Int) : U (bits op .u64 x y) := bits_u64 op x y
theorem arg_t (l : List Int) (i : Int) (h : Rd l i) : EvT (fun _ => spec_l2drawArg.f l i) (fun r => U r.1 ∧ Rd l r.2) := by
  unfold spec_l2drawArg.f
  refine evt_bind (next_t l i h) ?_
  rintro ⟨v, j⟩ ⟨h1, h2, h3⟩
  dsimp only at *
  refine evt_ite (fun _ => evt_some ⟨u_wrap _, h3⟩) fun _ => evt_ite (fun _ => evt_some ⟨u_wrap _, h3⟩) fun _ => evt_ite (fun _ => evt_some ⟨u_wrap _, h3⟩) fun _ => evt_ite (fun _ => ?_) fun _ => evt_ite (fun _ => evt_some ⟨u_wrap _, h3⟩) fun _ => evt_ite (fun _ => evt_some ⟨u_wrap _, h3⟩) fun _ => ?_
  · exact evt_ite (fun _ => evt_some ⟨u_shl _ _, h3⟩) fun c => absurd (u_wrap _).1 c
  · refine evt_bind (word_t l j h3) ?_
    rintro ⟨v2, j2⟩ ⟨_, h4⟩
    refine evt_bind (word_t l j2 h4) ?_
    rintro ⟨v3, j3⟩ ⟨_, h5⟩
    exact evt_some ⟨(by (try dsimp only); exact u_bits _ _ _), h5⟩
theorem near_t (x : Int) (hx : U x) (l : List Int) (i : Int) (h : Rd l i) : EvT (fun _ => spec_l2near.f x l i) (fun r => U r.1 ∧ Rd l r.2) := by
  unfold spec_l2near.f
  refine evt_bind (next_t l i h) ?_
  rintro ⟨v, j⟩ ⟨h1, h2, h3⟩
  dsimp only at *
  refine evt_ite (fun _ => evt_some ⟨hx, h3⟩) fun _ => evt_ite (fun _ => evt_some ⟨u_wrap _, h3⟩) fun _ => evt_ite (fun _ => evt_some ⟨u_wrap _, h3⟩) fun _ => evt_ite (fun _ => ?_) fun _ => evt_ite (fun _ => ?_) fun _ => ?_
  · exact evt_ite (fun _ => evt_some ⟨(by (try dsimp only); exact u_bits _ _ _), h3⟩) fun c => absurd (u_wrap _).1 c
  · exact evt_ite (fun _ => evt_some ⟨(by (try dsimp only); exact u_bits _ _ _), h3⟩) fun c => absurd (u_wrap _).1 c
  · refine evt_bind (arg_t l j h3) ?_
    rintro ⟨v2, j2⟩ ⟨h4, h5⟩
    exact evt_some ⟨h4, h5⟩
end Go.Proofs.YtjpjfkmnfppgkaaDoor.P

namespace Go.Proofs.YtjpjfkmnfppgkaaDoor.P
open Go.RowKit Go.Proofs.YtjpjfkmnfppgkaaDoorW.PrintWords Go.Proofs.YtjpjfkmnfppgkaaDoorW.PrintLast Go.Proofs.YtjpjfkmnfppgkaaDoorW.PrintMore
set_option linter.unusedVariables false
set_option linter.unusedSimpArgs false
/-- The n lowest bytes of v, the lowest first. -/
def le (v : Int) (n : Nat) : List Int := (List.range n).map fun i => v / 256 ^ i % 256
theorem le_length (v : Int) (n : Nat) : (le v n).length = n := by simp [le]
theorem le_succ (v : Int) (n : Nat) : le v (n + 1) = le v n ++ [v / 256 ^ n % 256] := by
  simp [le, List.range_succ]
theorem le_mem (v : Int) (n : Nat) : ∀ x ∈ le v n, 0 ≤ x ∧ x < 256 := by
  intro x hx
  simp only [le, List.mem_map] at hx
  obtain ⟨i, _, rfl⟩ := hx
  omega
end Go.Proofs.YtjpjfkmnfppgkaaDoor.P

namespace Go.Proofs.YtjpjfkmnfppgkaaDoor.P
open Go.RowKit Go.Proofs.YtjpjfkmnfppgkaaDoorW.PrintWords Go.Proofs.YtjpjfkmnfppgkaaDoorW.PrintLast Go.Proofs.YtjpjfkmnfppgkaaDoorW.PrintMore
attribute [local go_sem] max2_int min2_int max_two min_two max_three min_three max_four min_four   -- for this text's walks alone
set_option linter.unusedVariables false
set_option linter.unusedSimpArgs false

/-! ### spec_l1little: function 31 -/
def spec_l1little.l0 : Nat → Int → Int → List Int → Int → Option (List Int)
  | 0, _, _, _, _ => none
  | k + 1, x0, x1, x5, x6 => if x6 < x1 then (if x5.length < 140737488355328 then (spec_l1little.l0 k (IntKind.u64.wrap (Int.tdiv x0 256)) x1 (x5 ++ [(Int.tmod x0 256) % 256]) (wrap64 (x6 + 1))) else (none)) else (some x5)
def spec_l1little.f (k : Nat) (a0 : Int) (a1 : Int) : Option (List Int) := spec_l1little.l0 k a0 a1 ([] : List Int) 0
end Go.Proofs.YtjpjfkmnfppgkaaDoor.P

namespace Go.Proofs.YtjpjfkmnfppgkaaDoor.P
open Go.RowKit Go.Proofs.YtjpjfkmnfppgkaaDoorW.PrintWords Go.Proofs.YtjpjfkmnfppgkaaDoorW.PrintLast Go.Proofs.YtjpjfkmnfppgkaaDoorW.PrintMore
set_option linter.unusedVariables false
set_option linter.unusedSimpArgs false

theorem div_pow_succ (v : Int) (i : Nat) : v / 256 ^ (i + 1) = v / 256 ^ i / 256 := by
  rw [Int.pow_succ, Int.ediv_ediv_of_nonneg (Int.le_of_lt (Int.pow_pos (by decide)))]
end Go.Proofs.YtjpjfkmnfppgkaaDoor.P

namespace Go.Proofs.YtjpjfkmnfppgkaaDoor.P
open Go.RowKit Go.Proofs.YtjpjfkmnfppgkaaDoorW.PrintWords Go.Proofs.YtjpjfkmnfppgkaaDoorW.PrintLast Go.Proofs.YtjpjfkmnfppgkaaDoorW.PrintMore
attribute [local go_sem] max2_int min2_int max_two min_two max_three min_three max_four min_four   -- for this text's walks alone
set_option linter.unusedVariables false
set_option linter.unusedSimpArgs false

/-! ### impl_low: function 23 -/
def impl_low.l0 : Nat → List Int → Int → Int → Int → Option (List Int)
  | 0, _, _, _, _ => none
  | k + 1, x0, x1, x7, x8 => if x8 < x7 then (if x0.length < 140737488355328 then (impl_low.l0 k (x0 ++ [(x1) % 256]) (x1 / 256) x7 (wrap64 (x8 + 1))) else (none)) else (some x0)
def impl_low.f (k : Nat) (l0 : List Int) (a1 : Int) (a2 : Int) : Option (List Int) := impl_low.l0 k l0 a1 a2 0
set_option maxHeartbeats 8000000 in
set_option maxRecDepth 100000 in
theorem impl_low.calls (k : Nat) (P0_ : Nat → Prop) (u9000_ : Value) (l0 : List Int) (a1 : Int) (a2 : Int) (r : List Int) (w0 w : World) (hB : Below w0.heap.size w0 w) (ho0 : Kd.R (Kd.int .u8) 5 w w0.heap.size P0_ u9000_ l0) (h : impl_low.f k l0 a1 a2 = some r) :
    Calls Tryd.prog 23 #[u9000_, .int .u64 a1, .int .i64 a2] w fun e w' => ∃ v0_ : Value, e = .returned (v0_) ∧ Kd.R (Kd.int .u8) 5 w' w0.heap.size (fun k_ => (P0_ k_ ∨ w.heap.size ≤ k_)) v0_ r ∧ Below w0.heap.size w0 w' ∧ Kept w w' (fun k_ => P0_ k_) := by
  have HO0 := Aside0.mk (show Kd.R (Kd.int .u8) 5 w w0.heap.size (fun k_ => (P0_ k_ ∨ w.heap.size ≤ k_)) u9000_ l0 from Kd.R_mono ho0 (fun k_ hk => (.inl hk)))
  have HK := Aside0.mk (Kept.refl w (fun k_ => P0_ k_))
  have HW0 := Aside0.mk hB.size
  have HB := Aside0.mk hB
  clear hB
  have H : (impl_low.l0 k l0 a1 a2 0) = some r := h
  clear h
  have H' := Aside0.mk H
  clear H
  go_enter Tryd.func23, Tryd.ntmps23
  go_wp2
  go_loopg [0, 1, 8] k (fun kq v0 v1 v8 w' => ∃ (x0_1 : List Int) (x1_1 : Int) (x8_1 : Int), v1 = .int .u64 x1_1 ∧ v8 = .int .i64 x8_1 ∧ Aside0 (impl_low.l0 kq x0_1 x1_1 a2 x8_1 = some r) ∧ Aside0 (kq ≤ k) ∧ Aside0 (Kd.R (Kd.int .u8) 5 w' w0.heap.size (fun k_ => (P0_ k_ ∨ w.heap.size ≤ k_)) v0 x0_1) ∧ Aside0 (Kept w w' (fun k_ => P0_ k_)) ∧ Aside0 (Below w0.heap.size w0 w'))
  case atStart => exact ⟨(l0), (a1), (0), (by first | rfl | (simp; done) | (simp [*]; done)), (by first | rfl | (simp; done) | (simp [*]; done)), H', ⟨Nat.le_refl _⟩, ⟨by (with_reducible repeat (first | apply Kd.R_alloc | apply Kd.R_drewN | apply Kd.R_drew)); exact HO0.out⟩, ⟨by repeat (first | (with_reducible first | exact HK.out | apply Kept.alloc | apply Kept.drewN | apply Kept.drew) | exact HK.out)⟩, ⟨by repeat (first | (with_reducible first | exact HB.out | apply below_alloc | apply pw_below_drewN | apply below_drew1) | exact HB.out)⟩⟩
  case round =>
    clear H'
    try clear c2
    try clear p2
    obtain ⟨x0_1, x1_1, x8_1, rfl, rfl, HA, HK1, HO_0, HK, HB⟩ := hrel
    cases gk with
    | zero => exact absurd HA.out (by simp [impl_low.l0])
    | succ k1 =>
      have H := HA.out
      clear HA
      simp only [impl_low.l0] at H
      by_cases c4 : x8_1 < a2
      · rw [if_pos c4] at H
        have c4b0 : decide (x8_1 < a2) = true := decide_eq_true c4
        clear c4
        by_cases c5 : x0_1.length < 140737488355328
        · rw [if_pos c5] at H
          have LMc5 := Aside0.mk c5
          clear c5
          obtain ⟨y201, hy201⟩ : ∃ y_ : List Int, y_ = (x0_1 ++ [(x1_1) % 256]) := ⟨_, rfl⟩
          replace H : (impl_low.l0 k1 y201 (x1_1 / 256) a2 (wrap64 (x8_1 + 1))) = some r := by first | (rw [hy201]; with_reducible exact H) | (have H2_ := (Option.bind_some _ _).symm.trans H; rw [hy201]; with_reducible exact H2_) | (have H2_ := (Option.bind_some _ _).symm.trans H; with_reducible exact H2_) | with_reducible exact H | (rw [hy201]; exact H) | exact H
          have Ny201 := Aside0.mk hy201
          clear hy201
          have H' := Aside0.mk H
          clear H
          go_wp2_with (first | ((with_reducible refine gate_builtin (b := .append) (xs := #[.tmp 10, .tmp 13]) rfl ?_); at_builtin; refine Kd.R_append (Kd.int .u8) (w0 := w0) w0.heap.size rfl (.tmp 10) (.tmp 13) 22 5 (.int .u8 0) 1 rfl Tryd.underlying22 info5 rfl (by decide) (by omega) u0 x0_1 ((x1_1) % 256) [.int .u8 ((x1_1) % 256)] (fun k_ => (P0_ k_ ∨ w.heap.size ≤ k_)) (fun _ => False) rfl rfl ?aP (fun _ hk => hk.elim) ?aF ?aO ?aB ?aS ?aL ?_; (case aP => exact rfl); (case aB => exact (by repeat (first | (with_reducible first | exact HB.out | apply below_alloc | apply pw_below_drewN | apply below_drew1) | exact HB.out))); (case aF => exact (fun k_ hk => (.inr (Nat.le_trans (by first | exact HK.out.1 | exact (show Kept w _ (fun k_ => P0_ k_) from by repeat (first | (with_reducible first | exact HK.out | apply Kept.alloc | apply Kept.drewN | apply Kept.drew) | exact HK.out)).1) hk)))); (case aO => exact (by (with_reducible repeat (first | apply Kd.R_alloc | apply Kd.R_drewN | apply Kd.R_drew)); exact HO_0.out)); (case aS => exact (below_size (by repeat (first | (with_reducible first | exact HB.out | apply below_alloc | apply pw_below_drewN | apply below_drew1) | exact HB.out)))); (case aL => have := LMc5.out; omega); intro v202 w6 ho hb hg hat; rw [← Ny201.out] at ho; have n0_ := Aside0.mk (hb); have n1_ := Aside0.mk (Kept.of_grown (S := (fun k_ => P0_ k_)) hg (by repeat (first | (with_reducible first | exact HK.out | apply Kept.alloc | apply Kept.drewN | apply Kept.drew) | exact HK.out)) (fun k_ e_ => (HO_0.out.1 k_ e_))); have n2_ := Aside0.mk (ho); clear HB; clear HK; clear HO_0; have HB := n0_; have HK := n1_; have HO203 := n2_; clear n0_ n1_ n2_; clear ho hb hg hat))
          go_roundg k1
          case measure => have := HK1.out; omega
          case rel => exact ⟨(y201), (x1_1 / 256), (wrap64 (x8_1 + 1)), (by first | rfl | (simp; done) | (simp [*]; done)), (by first | rfl | (simp; done) | (simp [*]; done)), H', ⟨by have := HK1.out; omega⟩, ⟨by (with_reducible repeat (first | apply Kd.R_alloc | apply Kd.R_drewN | apply Kd.R_drew)); exact HO203.out⟩, ⟨by repeat (first | (with_reducible first | exact HK.out | apply Kept.alloc | apply Kept.drewN | apply Kept.drew) | exact HK.out)⟩, ⟨by repeat (first | (with_reducible first | exact HB.out | apply below_alloc | apply pw_below_drewN | apply below_drew1) | exact HB.out)⟩⟩
        · rw [if_neg c5] at H
          exact absurd H (by simp)
      · rw [if_neg c4] at H
        have c4b0 : decide (x8_1 < a2) = false := decide_eq_false c4
        clear c4
        obtain rfl := Option.some.inj H
        go_wp2
        go_ret
        exact ⟨_, by first | rfl | (simp [errW_none, errW_some] <;> rfl) | (simp [*, errW_none, errW_some] <;> rfl), by (with_reducible repeat (first | apply Kd.R_alloc | apply Kd.R_drewN | apply Kd.R_drew)); exact HO_0.out, by repeat (first | (with_reducible first | exact HB.out | apply below_alloc | apply pw_below_drewN | apply below_drew1) | exact HB.out), by repeat (first | (with_reducible first | exact HK.out | apply Kept.alloc | apply Kept.drewN | apply Kept.drew) | exact HK.out)⟩

end Go.Proofs.YtjpjfkmnfppgkaaDoor.P

namespace Go.Proofs.YtjpjfkmnfppgkaaDoor.P
open Go.RowKit Go.Proofs.YtjpjfkmnfppgkaaDoorW.PrintWords Go.Proofs.YtjpjfkmnfppgkaaDoorW.PrintLast Go.Proofs.YtjpjfkmnfppgkaaDoorW.PrintMore
set_option linter.unusedVariables false
set_option linter.unusedSimpArgs false
theorem low_ev (l : List Int) (v : Int) (n : Nat) (hn : n ≤ 1000000) (hl : l.length + n ≤ 140737488355328) : Ev (fun k => impl_low.f k l v n) (l ++ le v n) := by
  have key := ev_loop (fun k (s : Int × List Int) i => impl_low.l0 k s.2 s.1 n i) n (fun i => (v / 256 ^ i, l ++ le v i)) (v, l) (v / 256 ^ n, l ++ le v n) (by simp [le]) rfl (fun i hi r hr => by
    refine ev_step _ (fun k => ?_) hr
    simp only [impl_low.l0]
    rw [if_pos (by omega), List.length_append, le_length, if_pos (by omega), wrap64_id (by omega) (by omega), le_succ, div_pow_succ, List.append_assoc]
    rfl) (l ++ le v n)
  refine Ev.congr (fun k => rfl) (key (ev_end fun k => ?_))
  simp only [impl_low.l0]
  rw [if_neg (by omega)]
end Go.Proofs.YtjpjfkmnfppgkaaDoor.P

namespace Go.Proofs.YtjpjfkmnfppgkaaDoor.P
open Go.RowKit Go.Proofs.YtjpjfkmnfppgkaaDoorW.PrintWords Go.Proofs.YtjpjfkmnfppgkaaDoorW.PrintLast Go.Proofs.YtjpjfkmnfppgkaaDoorW.PrintMore
attribute [local go_sem] max2_int min2_int max_two min_two max_three min_three max_four min_four   -- for this text's walks alone
set_option linter.unusedVariables false
set_option linter.unusedSimpArgs false

/-! ### spec_l2half: function 52 -/
def spec_l2half.f (a0 : Int) : Option (Int) := if (Int.tmod a0 2) = 1 then (some (Go.bits .xor .u32 ((Int.tdiv a0 2) % 4294967296) 3988292384)) else (some ((Int.tdiv a0 2) % 4294967296))
end Go.Proofs.YtjpjfkmnfppgkaaDoor.P

namespace Go.Proofs.YtjpjfkmnfppgkaaDoor.P
open Go.RowKit Go.Proofs.YtjpjfkmnfppgkaaDoorW.PrintWords Go.Proofs.YtjpjfkmnfppgkaaDoorW.PrintLast Go.Proofs.YtjpjfkmnfppgkaaDoorW.PrintMore
attribute [local go_sem] max2_int min2_int max_two min_two max_three min_three max_four min_four   -- for this text's walks alone
set_option linter.unusedVariables false
set_option linter.unusedSimpArgs false

/-! ### spec_Checksum: function 32 -/
mutual
def spec_Checksum.l0 : Nat → List Int → Int → Int → Option (Int)
  | 0, _, _, _ => none
  | k + 1, x0, x3, x4 => if x4 < (x0.length : Int) then (if 0 ≤ x4 then (spec_Checksum.l1 k x0 (Go.bits .xor .u32 x3 ((rd x0 x4) % 4294967296)) x4 0) else (none)) else (some (Go.bits .xor .u32 x3 4294967295))
def spec_Checksum.l1 : Nat → List Int → Int → Int → Int → Option (Int)
  | 0, _, _, _, _ => none
  | k + 1, x0, x3, x4, x5 => if x5 < 8 then ((spec_l2half.f x3).bind fun t287 => (spec_Checksum.l1 k x0 t287 x4 (wrap64 (x5 + 1)))) else (spec_Checksum.l0 k x0 x3 (wrap64 (x4 + 1)))
end
def spec_Checksum.f (k : Nat) (l0 : List Int) : Option (Int) := spec_Checksum.l0 k l0 4294967295 0
end Go.Proofs.YtjpjfkmnfppgkaaDoor.P

namespace Go.Proofs.YtjpjfkmnfppgkaaDoor.P
open Go.RowKit Go.Proofs.YtjpjfkmnfppgkaaDoorW.PrintWords Go.Proofs.YtjpjfkmnfppgkaaDoorW.PrintLast Go.Proofs.YtjpjfkmnfppgkaaDoorW.PrintMore
attribute [local go_sem] max2_int min2_int max_two min_two max_three min_three max_four min_four   -- for this text's walks alone
set_option linter.unusedVariables false
set_option linter.unusedSimpArgs false

/-! ### impl_Checksum: function 26 -/
mutual
def impl_Checksum.l0 : Nat → Int → List Int → Int → Int → Option (Int)
  | 0, _, _, _, _ => none
  | k + 1, x3, x7, x8, x9 => if x9 < x8 then (if 0 ≤ x9 then (if x9 < (x7.length : Int) then (impl_Checksum.l1 k (Go.bits .xor .u32 x3 ((rd x7 x9) % 4294967296)) x7 x8 x9 0) else (none)) else (none)) else (some (Go.bits .xor .u32 4294967295 x3))
def impl_Checksum.l1 : Nat → Int → List Int → Int → Int → Int → Option (Int)
  | 0, _, _, _, _, _ => none
  | k + 1, x3, x7, x8, x9, x17 => if x17 < 8 then (if (Go.bits .and .u32 x3 1) = 1 then (impl_Checksum.l1 k (Go.bits .xor .u32 (x3 / 2) 3988292384) x7 x8 x9 (wrap64 (x17 + 1))) else (impl_Checksum.l1 k (x3 / 2) x7 x8 x9 (wrap64 (x17 + 1)))) else (impl_Checksum.l0 k x3 x7 x8 (wrap64 (x9 + 1)))
end
def impl_Checksum.f (k : Nat) (l0 : List Int) : Option (Int) := impl_Checksum.l0 k 4294967295 l0 (l0.length : Int) 0
set_option maxHeartbeats 8000000 in
set_option maxRecDepth 100000 in
theorem impl_Checksum.calls (k : Nat) (A0 : Option Addr) (c0 : Nat) (l0 : List Int) (r : Int) (w : World) (hr0 : Kd.C (Kd.int .u8) w A0 l0.length l0) (hc0 : l0.length ≤ c0) (h : impl_Checksum.f k l0 = some r) :
    Calls Tryd.prog 26 #[.slice A0 l0.length c0] w fun e w' => e = .returned (.int .u32 r) ∧ Drawn0 w w' := by
  have HR0 := Aside0.mk hr0
  have HC0 := Aside0.mk hc0
  clear hr0 hc0
  have H : (impl_Checksum.l0 k 4294967295 l0 (l0.length : Int) 0) = some r := h
  clear h
  have H' := Aside0.mk H
  clear H
  go_enter Tryd.func26, Tryd.ntmps26
  go_wp2
  go_loopg [3, 9] k (fun kq v3 v9 w' => ∃ (x3_1 : Int) (x9_1 : Int), v3 = .int .u32 x3_1 ∧ v9 = .int .i64 x9_1 ∧ Aside0 (impl_Checksum.l0 kq x3_1 l0 (l0.length : Int) x9_1 = some r) ∧ Aside0 (kq ≤ k) ∧ Drawn0 w w')
  case atStart => exact ⟨(4294967295), (0), (by first | rfl | (simp; done) | (simp [*]; done)), (by first | rfl | (simp; done) | (simp [*]; done)), H', ⟨Nat.le_refl _⟩, by repeat (first | exact Drawn0.refl _ | apply Drawn0.step)⟩
  case round =>
    clear H'
    obtain ⟨x3_1, x9_1, rfl, rfl, HA, HK1, ⟨m1, rfl⟩⟩ := hrel
    cases gk with
    | zero => exact absurd HA.out (by simp [impl_Checksum.l0])
    | succ k1 =>
      have H := HA.out
      clear HA
      simp only [impl_Checksum.l0] at H
      by_cases c2 : x9_1 < (l0.length : Int)
      · rw [if_pos c2] at H
        have c2b0 : decide (x9_1 < (l0.length : Int)) = true := decide_eq_true c2
        clear c2
        by_cases c3 : 0 ≤ x9_1
        · rw [if_pos c3] at H
          have c3b0 : decide (0 ≤ x9_1) = true := decide_eq_true c3
          clear c3
          by_cases c4 : x9_1 < (l0.length : Int)
          · rw [if_pos c4] at H
            have c4b0 : decide (x9_1 < (l0.length : Int)) = true := decide_eq_true c4
            clear c4
            have H' := Aside0.mk H
            clear H
            have p222 : 0 ≤ (x9_1 : Int) := of_decide_eq_true (by first | (with_reducible assumption) | assumption)
            have q222 : x9_1 < (l0.length : Int) := of_decide_eq_true (by first | (with_reducible assumption) | assumption)
            obtain ⟨ad222, e222, hx222_0⟩ := Kd.at_int HR0.out x9_1 p222 q222
            cases e222
            replace p222 := eq_true p222
            replace q222 := eq_true q222
            go_wp2
            go_loopg [3, 17] k1 (fun kq v3 v17 w' => ∃ (x3_2 : Int) (x17_2 : Int), v3 = .int .u32 x3_2 ∧ v17 = .int .i64 x17_2 ∧ Aside0 (impl_Checksum.l1 kq x3_2 l0 (l0.length : Int) x9_1 x17_2 = some r) ∧ Aside0 (kq ≤ k1) ∧ Drawn0 w w')
            case atStart => exact ⟨(Go.bits .xor .u32 x3_1 ((rd l0 x9_1) % 4294967296)), (0), (by first | rfl | (simp; done) | (simp [*]; done)), (by first | rfl | (simp; done) | (simp [*]; done)), H', ⟨Nat.le_refl _⟩, by repeat (first | exact Drawn0.refl _ | apply Drawn0.step)⟩
            case round =>
              clear H'
              try clear c2
              try clear c2b0
              try clear p2
              try clear q2
              try clear hx2
              try clear c3
              try clear c3b0
              try clear c4
              try clear c4b0
              try clear hx222_0
              try clear p222
              try clear q222
              obtain ⟨x3_2, x17_2, rfl, rfl, HA, HK2, ⟨m2, rfl⟩⟩ := hrel
              cases gk with
              | zero => exact absurd HA.out (by simp [impl_Checksum.l1])
              | succ k2 =>
                have H := HA.out
                clear HA
                simp only [impl_Checksum.l1] at H
                by_cases c5 : x17_2 < 8
                · rw [if_pos c5] at H
                  have c5b0 : decide (x17_2 < 8) = true := decide_eq_true c5
                  clear c5
                  by_cases c6 : (Go.bits .and .u32 x3_2 1) = 1
                  · rw [if_pos c6] at H
                    have c6b0 : ((Go.bits .and .u32 x3_2 1) == 1) = true := beq_iff_eq.mpr c6
                    have c6b1 : ((Go.bits .and .u32 x3_2 1) != 1) = false := bne_eq_false_iff_eq.mpr c6
                    clear c6
                    have H' := Aside0.mk H
                    clear H
                    go_wp2
                    go_roundg k2
                    case measure => have := HK1.out; have := HK2.out; omega
                    case rel => exact ⟨(Go.bits .xor .u32 (x3_2 / 2) 3988292384), (wrap64 (x17_2 + 1)), (by first | rfl | (simp; done) | (simp [*]; done)), (by first | rfl | (simp; done) | (simp [*]; done)), H', ⟨by have := HK1.out; have := HK2.out; omega⟩, by repeat (first | exact Drawn0.refl _ | apply Drawn0.step)⟩
                  · rw [if_neg c6] at H
                    have c6b0 : ((Go.bits .and .u32 x3_2 1) == 1) = false := beq_eq_false_iff_ne.mpr c6
                    have c6b1 : ((Go.bits .and .u32 x3_2 1) != 1) = true := bne_iff_ne.mpr c6
                    have H' := Aside0.mk H
                    clear H
                    go_wp2
                    go_roundg k2
                    case measure => have := HK1.out; have := HK2.out; omega
                    case rel => exact ⟨(x3_2 / 2), (wrap64 (x17_2 + 1)), (by first | rfl | (simp; done) | (simp [*]; done)), (by first | rfl | (simp; done) | (simp [*]; done)), H', ⟨by have := HK1.out; have := HK2.out; omega⟩, by repeat (first | exact Drawn0.refl _ | apply Drawn0.step)⟩
                · rw [if_neg c5] at H
                  have c5b0 : decide (x17_2 < 8) = false := decide_eq_false c5
                  clear c5
                  have H' := Aside0.mk H
                  clear H
                  go_wp2
                  go_roundg k2
                  case measure => have := HK1.out; have := HK2.out; omega
                  case rel => exact ⟨(x3_2), (wrap64 (x9_1 + 1)), (by first | rfl | (simp; done) | (simp [*]; done)), (by first | rfl | (simp; done) | (simp [*]; done)), H', ⟨by have := HK1.out; have := HK2.out; omega⟩, by repeat (first | exact Drawn0.refl _ | apply Drawn0.step)⟩
          · rw [if_neg c4] at H
            exact absurd H (by simp)
        · rw [if_neg c3] at H
          exact absurd H (by simp)
      · rw [if_neg c2] at H
        have c2b0 : decide (x9_1 < (l0.length : Int)) = false := decide_eq_false c2
        clear c2
        obtain rfl := Option.some.inj H
        go_wp2
        go_ret
        exact ⟨by first | rfl | (simp; done) | (simp [*]; done), by repeat (first | exact Drawn0.refl _ | apply Drawn0.step)⟩

end Go.Proofs.YtjpjfkmnfppgkaaDoor.P

namespace Go.Proofs.YtjpjfkmnfppgkaaDoor.P
open Go.RowKit Go.Proofs.YtjpjfkmnfppgkaaDoorW.PrintWords Go.Proofs.YtjpjfkmnfppgkaaDoorW.PrintLast Go.Proofs.YtjpjfkmnfppgkaaDoorW.PrintMore
set_option linter.unusedVariables false
set_option linter.unusedSimpArgs false

/-! What both sums come to. -/
def crcHalf (h : Int) : Int := if h % 2 = 1 then bits .xor .u32 (h / 2) 3988292384 else h / 2
def crcHalves : Nat → Int → Int
  | 0, h => h
  | n + 1, h => crcHalves n (crcHalf h)
def crcByte (h c : Int) : Int := crcHalves 8 (bits .xor .u32 h c)
def crcSum (l : List Int) : Int := bits .xor .u32 (l.foldl crcByte 4294967295) 4294967295
theorem crcHalf_range (h : Int) (h0 : 0 ≤ h) (h1 : h < 4294967296) : 0 ≤ crcHalf h ∧ crcHalf h < 4294967296 := by
  unfold crcHalf
  split
  · exact bits_u32 .xor _ _
  · omega
theorem crcHalves_range : ∀ (n : Nat) (h : Int), 0 ≤ h → h < 4294967296 → 0 ≤ crcHalves n h ∧ crcHalves n h < 4294967296
  | 0, h, h0, h1 => ⟨h0, h1⟩
  | n + 1, h, h0, h1 => crcHalves_range n _ (crcHalf_range h h0 h1).1 (crcHalf_range h h0 h1).2
theorem crcHalves_succ : ∀ (n : Nat) (h : Int), crcHalves (n + 1) h = crcHalf (crcHalves n h)
  | 0, h => rfl
  | n + 1, h => crcHalves_succ n (crcHalf h)
theorem foldl_take_succ {α β : Type} (f : β → α → β) (l : List α) (z : β) (i : Nat) (h : i < l.length) : (l.take (i + 1)).foldl f z = f ((l.take i).foldl f z) l[i] := by
  rw [List.take_succ_eq_append_getElem h, List.foldl_append]; rfl

theorem implChecksum_ev (l : List Int) (hl : l.length ≤ 140737488355328) (hb : ∀ x ∈ l, 0 ≤ x ∧ x < 256) : Ev (fun k => impl_Checksum.f k l) (crcSum l) := by
  have inner : ∀ (i : Nat) (r : Int) (h : Int), 0 ≤ h → h < 4294967296 → Ev (fun k => impl_Checksum.l0 k (crcHalves 8 h) l (l.length : Int) (wrap64 ((i : Int) + 1))) r → Ev (fun k => impl_Checksum.l1 k h l (l.length : Int) i 0) r := by
    intro i r h h0 h1 hr
    have key := ev_loop (fun k s j => impl_Checksum.l1 k s l (l.length : Int) i j) 8 (fun j => crcHalves j h) h (crcHalves 8 h) rfl rfl (fun j hj r hr => by
      have hh := crcHalves_range j h h0 h1
      refine ev_step _ (fun k => ?_) hr
      simp only [impl_Checksum.l1]
      rw [if_pos (by omega), u32_and1 _ hh.1 hh.2, wrap64_id (by omega) (by omega), crcHalves_succ]
      unfold crcHalf
      split <;> rfl) r
    refine key (ev_step _ (fun k => ?_) hr)
    simp only [impl_Checksum.l1]
    rw [if_neg (by omega)]
  have key := ev_loop (fun k s i => impl_Checksum.l0 k s l (l.length : Int) i) l.length (fun i => (l.take i).foldl crcByte 4294967295) 4294967295 (l.foldl crcByte 4294967295) (by simp) (by simp) (fun i hi r hr => by
    have hx := hb l[i] (List.getElem_mem hi)
    rw [foldl_take_succ _ _ _ _ hi] at hr
    have hb := bits_u32 .xor ((l.take i).foldl crcByte 4294967295) l[i]
    have h1 := inner i r (bits .xor .u32 ((l.take i).foldl crcByte 4294967295) l[i]) hb.1 hb.2 (by rw [wrap64_id (by omega) (by omega)]; exact hr)
    refine ev_step _ (fun k => ?_) h1
    simp only [impl_Checksum.l0]
    rw [if_pos (by omega), if_pos (by omega), if_pos (by omega), rd_eq l i hi, show l[i] % 4294967296 = l[i] by omega]) (crcSum l)
  refine key (ev_end fun k => ?_)
  simp only [impl_Checksum.l0]
  rw [if_neg (by omega), bits_xor_comm]
  rfl
end Go.Proofs.YtjpjfkmnfppgkaaDoor.P

namespace Go.Proofs.YtjpjfkmnfppgkaaDoor.P
open Go.RowKit Go.Proofs.YtjpjfkmnfppgkaaDoorW.PrintWords Go.Proofs.YtjpjfkmnfppgkaaDoorW.PrintLast Go.Proofs.YtjpjfkmnfppgkaaDoorW.PrintMore
attribute [local go_sem] max2_int min2_int max_two min_two max_three min_three max_four min_four   -- for this text's walks alone
set_option linter.unusedVariables false
set_option linter.unusedSimpArgs false

/-! ### spec_l2var: function 58 -/
def spec_l2var.f : Nat → Int → Option (List Int)
  | 0, _ => none
  | k + 1, a0 => if a0 < 128 then (some (([(a0) % 256] : List Int))) else ((some (([(IntKind.u64.wrap ((Int.tmod a0 128) + 128)) % 256] : List Int) : List Int)).bind fun y299 => ((spec_l2var.f k (IntKind.u64.wrap (Int.tdiv a0 128))).bind fun t302 => (if y299.length + t302.length < 140737488355328 then (some (y299 ++ t302)) else (none))))
end Go.Proofs.YtjpjfkmnfppgkaaDoor.P

namespace Go.Proofs.YtjpjfkmnfppgkaaDoor.P
open Go.RowKit Go.Proofs.YtjpjfkmnfppgkaaDoorW.PrintWords Go.Proofs.YtjpjfkmnfppgkaaDoorW.PrintLast Go.Proofs.YtjpjfkmnfppgkaaDoorW.PrintMore
attribute [local go_sem] max2_int min2_int max_two min_two max_three min_three max_four min_four   -- for this text's walks alone
set_option linter.unusedVariables false
set_option linter.unusedSimpArgs false

/-! ### impl_putNumber: function 43 -/
def impl_putNumber.l0 : Nat → List Int → Int → Option (List Int)
  | 0, _, _ => none
  | k + 1, x0, x1 => if x1 ≥ 128 then (if x0.length < 140737488355328 then (impl_putNumber.l0 k (x0 ++ [Go.bits .or .u8 ((x1) % 256) 128]) (x1 / 128)) else (none)) else (if x0.length < 140737488355328 then (some (x0 ++ [(x1) % 256])) else (none))
def impl_putNumber.f (k : Nat) (l0 : List Int) (a1 : Int) : Option (List Int) := impl_putNumber.l0 k l0 a1
set_option maxHeartbeats 8000000 in
set_option maxRecDepth 100000 in
theorem impl_putNumber.calls (k : Nat) (P0_ : Nat → Prop) (u9000_ : Value) (l0 : List Int) (a1 : Int) (r : List Int) (w0 w : World) (hB : Below w0.heap.size w0 w) (ho0 : Kd.R (Kd.int .u8) 5 w w0.heap.size P0_ u9000_ l0) (h : impl_putNumber.f k l0 a1 = some r) :
    Calls Tryd.prog 43 #[u9000_, .int .u64 a1] w fun e w' => ∃ v0_ : Value, e = .returned (v0_) ∧ Kd.R (Kd.int .u8) 5 w' w0.heap.size (fun k_ => (P0_ k_ ∨ w.heap.size ≤ k_)) v0_ r ∧ Below w0.heap.size w0 w' ∧ Kept w w' (fun k_ => P0_ k_) := by
  have HO0 := Aside0.mk (show Kd.R (Kd.int .u8) 5 w w0.heap.size (fun k_ => (P0_ k_ ∨ w.heap.size ≤ k_)) u9000_ l0 from Kd.R_mono ho0 (fun k_ hk => (.inl hk)))
  have HK := Aside0.mk (Kept.refl w (fun k_ => P0_ k_))
  have HW0 := Aside0.mk hB.size
  have HB := Aside0.mk hB
  clear hB
  have H : (impl_putNumber.l0 k l0 a1) = some r := h
  clear h
  have H' := Aside0.mk H
  clear H
  go_enter Tryd.func43, Tryd.ntmps43
  go_wp2
  go_loopg [0, 1] k (fun kq v0 v1 w' => ∃ (x0_1 : List Int) (x1_1 : Int), v1 = .int .u64 x1_1 ∧ Aside0 (impl_putNumber.l0 kq x0_1 x1_1 = some r) ∧ Aside0 (kq ≤ k) ∧ Aside0 (Kd.R (Kd.int .u8) 5 w' w0.heap.size (fun k_ => (P0_ k_ ∨ w.heap.size ≤ k_)) v0 x0_1) ∧ Aside0 (Kept w w' (fun k_ => P0_ k_)) ∧ Aside0 (Below w0.heap.size w0 w'))
  case atStart => exact ⟨(l0), (a1), (by first | rfl | (simp; done) | (simp [*]; done)), H', ⟨Nat.le_refl _⟩, ⟨by (with_reducible repeat (first | apply Kd.R_alloc | apply Kd.R_drewN | apply Kd.R_drew)); exact HO0.out⟩, ⟨by repeat (first | (with_reducible first | exact HK.out | apply Kept.alloc | apply Kept.drewN | apply Kept.drew) | exact HK.out)⟩, ⟨by repeat (first | (with_reducible first | exact HB.out | apply below_alloc | apply pw_below_drewN | apply below_drew1) | exact HB.out)⟩⟩
  case round =>
    clear H'
    try clear p2
    obtain ⟨x0_1, x1_1, rfl, HA, HK1, HO_0, HK, HB⟩ := hrel
    cases gk with
    | zero => exact absurd HA.out (by simp [impl_putNumber.l0])
    | succ k1 =>
      have H := HA.out
      clear HA
      simp only [impl_putNumber.l0] at H
      by_cases c3 : x1_1 ≥ 128
      · rw [if_pos c3] at H
        have c3b0 : decide (128 ≤ x1_1) = true := decide_eq_true c3
        clear c3
        by_cases c4 : x0_1.length < 140737488355328
        · rw [if_pos c4] at H
          have LMc4 := Aside0.mk c4
          clear c4
          obtain ⟨y205, hy205⟩ : ∃ y_ : List Int, y_ = (x0_1 ++ [Go.bits .or .u8 ((x1_1) % 256) 128]) := ⟨_, rfl⟩
          replace H : (impl_putNumber.l0 k1 y205 (x1_1 / 128)) = some r := by first | (rw [hy205]; with_reducible exact H) | (have H2_ := (Option.bind_some _ _).symm.trans H; rw [hy205]; with_reducible exact H2_) | (have H2_ := (Option.bind_some _ _).symm.trans H; with_reducible exact H2_) | with_reducible exact H | (rw [hy205]; exact H) | exact H
          have Ny205 := Aside0.mk hy205
          clear hy205
          have H' := Aside0.mk H
          clear H
          go_wp2_with (first | ((with_reducible refine gate_builtin (b := .append) (xs := #[.tmp 7, .tmp 11]) rfl ?_); at_builtin; refine Kd.R_append (Kd.int .u8) (w0 := w0) w0.heap.size rfl (.tmp 7) (.tmp 11) 22 5 (.int .u8 0) 1 rfl Tryd.underlying22 info5 rfl (by decide) (by omega) u0 x0_1 (Go.bits .or .u8 ((x1_1) % 256) 128) [.int .u8 (Go.bits .or .u8 ((x1_1) % 256) 128)] (fun k_ => (P0_ k_ ∨ w.heap.size ≤ k_)) (fun _ => False) rfl rfl ?aP (fun _ hk => hk.elim) ?aF ?aO ?aB ?aS ?aL ?_; (case aP => exact rfl); (case aB => exact (by repeat (first | (with_reducible first | exact HB.out | apply below_alloc | apply pw_below_drewN | apply below_drew1) | exact HB.out))); (case aF => exact (fun k_ hk => (.inr (Nat.le_trans (by first | exact HK.out.1 | exact (show Kept w _ (fun k_ => P0_ k_) from by repeat (first | (with_reducible first | exact HK.out | apply Kept.alloc | apply Kept.drewN | apply Kept.drew) | exact HK.out)).1) hk)))); (case aO => exact (by (with_reducible repeat (first | apply Kd.R_alloc | apply Kd.R_drewN | apply Kd.R_drew)); exact HO_0.out)); (case aS => exact (below_size (by repeat (first | (with_reducible first | exact HB.out | apply below_alloc | apply pw_below_drewN | apply below_drew1) | exact HB.out)))); (case aL => have := LMc4.out; omega); intro v206 w5 ho hb hg hat; rw [← Ny205.out] at ho; have n0_ := Aside0.mk (hb); have n1_ := Aside0.mk (Kept.of_grown (S := (fun k_ => P0_ k_)) hg (by repeat (first | (with_reducible first | exact HK.out | apply Kept.alloc | apply Kept.drewN | apply Kept.drew) | exact HK.out)) (fun k_ e_ => (HO_0.out.1 k_ e_))); have n2_ := Aside0.mk (ho); clear HB; clear HK; clear HO_0; have HB := n0_; have HK := n1_; have HO207 := n2_; clear n0_ n1_ n2_; clear ho hb hg hat))
          go_roundg k1
          case measure => have := HK1.out; omega
          case rel => exact ⟨(y205), (x1_1 / 128), (by first | rfl | (simp; done) | (simp [*]; done)), H', ⟨by have := HK1.out; omega⟩, ⟨by (with_reducible repeat (first | apply Kd.R_alloc | apply Kd.R_drewN | apply Kd.R_drew)); exact HO207.out⟩, ⟨by repeat (first | (with_reducible first | exact HK.out | apply Kept.alloc | apply Kept.drewN | apply Kept.drew) | exact HK.out)⟩, ⟨by repeat (first | (with_reducible first | exact HB.out | apply below_alloc | apply pw_below_drewN | apply below_drew1) | exact HB.out)⟩⟩
        · rw [if_neg c4] at H
          exact absurd H (by simp)
      · rw [if_neg c3] at H
        have c3b0 : decide (128 ≤ x1_1) = false := decide_eq_false c3
        clear c3
        by_cases c6 : x0_1.length < 140737488355328
        · rw [if_pos c6] at H
          have LMc6 := Aside0.mk c6
          clear c6
          obtain ⟨y208, hy208⟩ : ∃ y_ : List Int, y_ = (x0_1 ++ [(x1_1) % 256]) := ⟨_, rfl⟩
          replace H : (some y208) = some r := by first | (rw [hy208]; with_reducible exact H) | (have H2_ := (Option.bind_some _ _).symm.trans H; rw [hy208]; with_reducible exact H2_) | (have H2_ := (Option.bind_some _ _).symm.trans H; with_reducible exact H2_) | with_reducible exact H | (rw [hy208]; exact H) | exact H
          have Ny208 := Aside0.mk hy208
          clear hy208
          obtain rfl := Option.some.inj H
          go_wp2_with (first | ((with_reducible refine gate_builtin (b := .append) (xs := #[.tmp 15, .tmp 18]) rfl ?_); at_builtin; refine Kd.R_append (Kd.int .u8) (w0 := w0) w0.heap.size rfl (.tmp 15) (.tmp 18) 22 5 (.int .u8 0) 1 rfl Tryd.underlying22 info5 rfl (by decide) (by omega) u0 x0_1 ((x1_1) % 256) [.int .u8 ((x1_1) % 256)] (fun k_ => (P0_ k_ ∨ w.heap.size ≤ k_)) (fun _ => False) rfl rfl ?aP (fun _ hk => hk.elim) ?aF ?aO ?aB ?aS ?aL ?_; (case aP => exact rfl); (case aB => exact (by repeat (first | (with_reducible first | exact HB.out | apply below_alloc | apply pw_below_drewN | apply below_drew1) | exact HB.out))); (case aF => exact (fun k_ hk => (.inr (Nat.le_trans (by first | exact HK.out.1 | exact (show Kept w _ (fun k_ => P0_ k_) from by repeat (first | (with_reducible first | exact HK.out | apply Kept.alloc | apply Kept.drewN | apply Kept.drew) | exact HK.out)).1) hk)))); (case aO => exact (by (with_reducible repeat (first | apply Kd.R_alloc | apply Kd.R_drewN | apply Kd.R_drew)); exact HO_0.out)); (case aS => exact (below_size (by repeat (first | (with_reducible first | exact HB.out | apply below_alloc | apply pw_below_drewN | apply below_drew1) | exact HB.out)))); (case aL => have := LMc6.out; omega); intro v209 w7 ho hb hg hat; rw [← Ny208.out] at ho; have n0_ := Aside0.mk (hb); have n1_ := Aside0.mk (Kept.of_grown (S := (fun k_ => P0_ k_)) hg (by repeat (first | (with_reducible first | exact HK.out | apply Kept.alloc | apply Kept.drewN | apply Kept.drew) | exact HK.out)) (fun k_ e_ => (HO_0.out.1 k_ e_))); have n2_ := Aside0.mk (ho); clear HB; clear HK; clear HO_0; have HB := n0_; have HK := n1_; have HO210 := n2_; clear n0_ n1_ n2_; clear ho hb hg hat))
          go_ret
          exact ⟨_, by first | rfl | (simp [errW_none, errW_some] <;> rfl) | (simp [*, errW_none, errW_some] <;> rfl), by (with_reducible repeat (first | apply Kd.R_alloc | apply Kd.R_drewN | apply Kd.R_drew)); exact HO210.out, by repeat (first | (with_reducible first | exact HB.out | apply below_alloc | apply pw_below_drewN | apply below_drew1) | exact HB.out), by repeat (first | (with_reducible first | exact HK.out | apply Kept.alloc | apply Kept.drewN | apply Kept.drew) | exact HK.out)⟩
        · rw [if_neg c6] at H
          exact absurd H (by simp)

end Go.Proofs.YtjpjfkmnfppgkaaDoor.P

namespace Go.Proofs.YtjpjfkmnfppgkaaDoor.P
open Go.RowKit Go.Proofs.YtjpjfkmnfppgkaaDoorW.PrintWords Go.Proofs.YtjpjfkmnfppgkaaDoorW.PrintLast Go.Proofs.YtjpjfkmnfppgkaaDoorW.PrintMore
set_option linter.unusedVariables false
set_option linter.unusedSimpArgs false
/-! The log of calls. -/
def varF : Nat → Int → List Int
  | 0, v => [v]
  | n + 1, v => if v < 128 then [v] else (v % 128 + 128) :: varF n (v / 128)
def varB (v : Int) : List Int := varF 9 v
theorem varF_length : ∀ (n : Nat) (v : Int), 1 ≤ (varF n v).length ∧ (varF n v).length ≤ n + 1
  | 0, v => by simp [varF]
  | n + 1, v => by
    have := varF_length n (v / 128)
    unfold varF
    split
    · simp
    · rw [List.length_cons]; omega
theorem varF_mem : ∀ (n : Nat) (v : Int), 0 ≤ v → v < 128 ^ (n + 1) → ∀ x ∈ varF n v, 0 ≤ x ∧ x < 256
  | 0, v, h0, h1, x, hx => by
    simp only [varF, List.mem_singleton] at hx
    subst hx
    have : (128 : Int) ^ (0 + 1) = 128 := by decide
    omega
  | n + 1, v, h0, h1, x, hx => by
    unfold varF at hx
    split at hx
    · rw [List.mem_singleton.1 hx]; omega
    · rcases List.mem_cons.1 hx with rfl | hx
      · omega
      · refine varF_mem n (v / 128) (by omega) ?_ x hx
        rw [Int.pow_succ] at h1
        omega
theorem or128 : ∀ b : Fin 256, b.val ||| 128 = b.val % 128 + 128 := by decide +kernel
theorem implVar_ev : ∀ (n : Nat) (v : Int) (out : List Int), n ≤ 9 → 0 ≤ v → v < 18446744073709551616 → v < 128 ^ (n + 1) → out.length + n < 140737488355328 → Ev (fun k => impl_putNumber.l0 k out v) (out ++ varF n v)
  | 0, v, out, hn, h0, hu, h1, hl => by
    have : (128 : Int) ^ (0 + 1) = 128 := by decide
    exact ev_end fun k => by simp only [impl_putNumber.l0]; rw [if_neg (by omega), if_pos (by omega), Int.emod_eq_of_lt h0 (by omega)]; rfl
  | n + 1, v, out, hn, h0, hu, h1, hl => by
    unfold varF
    by_cases c : v < 128
    · rw [if_pos c]
      exact ev_end fun k => by simp only [impl_putNumber.l0]; rw [if_neg (by omega), if_pos (by omega), Int.emod_eq_of_lt h0 (by omega)]
    · rw [if_neg c]
      have hrec := implVar_ev n (v / 128) (out ++ [v % 128 + 128]) (by omega) (by omega) (by omega) (by rw [Int.pow_succ] at h1; omega) (by rw [List.length_append, List.length_singleton]; omega)
      rw [List.append_assoc] at hrec
      refine ev_step _ (fun k => ?_) hrec
      have e2 : Go.bits .or .u8 (v % 256) 128 = v % 128 + 128 := by
        obtain ⟨a, ha⟩ : ∃ a : Nat, v % 256 = (a : Int) := ⟨(v % 256).toNat, by omega⟩
        have hlt : a < 256 := by omega
        have h128 := or128 ⟨a, hlt⟩
        dsimp only at h128
        rw [ha, show (128 : Int) = ((128 : Nat) : Int) from rfl, bits_or_nat .u8 rfl a 128 (by simpa [IntKind.bits] using hlt) (by decide), h128]
        omega
      simp only [impl_putNumber.l0]
      rw [if_pos (by omega), if_pos (by omega), e2]
theorem pow128 : (18446744073709551616 : Int) ≤ 128 ^ (9 + 1) := by decide
theorem implVarB_ev (v : Int) (out : List Int) (h0 : 0 ≤ v) (h1 : v < 18446744073709551616) (hl : out.length < 140737488355000) : Ev (fun k => impl_putNumber.f k out v) (out ++ varB v) := implVar_ev 9 v out (by omega) h0 h1 (Int.lt_of_lt_of_le h1 pow128) (by omega)
theorem varB_length (v : Int) : 1 ≤ (varB v).length ∧ (varB v).length ≤ 10 := varF_length 9 v
theorem varB_mem (v : Int) (h0 : 0 ≤ v) (h1 : v < 18446744073709551616) : ∀ x ∈ varB v, 0 ≤ x ∧ x < 256 := varF_mem 9 v h0 (Int.lt_of_lt_of_le h1 pow128)
end Go.Proofs.YtjpjfkmnfppgkaaDoor.P
