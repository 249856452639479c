import Derived.Test.YtjpjfkmnfppgkaaDoorGFnExactDecodeLog5
import Derived.Test.YtjpjfkmnfppgkaaDoorGFnExactDecodeLog7
import Derived.Test.YtjpjfkmnfppgkaaDoorGFnExactDecodeLog4
import Derived.Test.YtjpjfkmnfppgkaaDoorGFnExactDecodeLog6
namespace Go.Proofs.YtjpjfkmnfppgkaaDoor.P
open Go.RowKit Go.Proofs.YtjpjfkmnfppgkaaDoorW.PrintWords Go.Proofs.YtjpjfkmnfppgkaaDoorW.PrintLast Go.Proofs.YtjpjfkmnfppgkaaDoorW.PrintMore
set_option linter.unusedVariables false
set_option linter.unusedSimpArgs false
/-! A number off a body. -/
def valB : List Int → Int
  | [] => 0
  | b :: r => b % 128 + 128 * valB r
theorem valB_range : ∀ l : List Int, 0 ≤ valB l ∧ valB l < 128 ^ l.length
  | [] => by simp [valB]
  | b :: r => by
    have := valB_range r
    simp only [valB, List.length_cons, Int.pow_succ]
    omega
theorem valB_snoc (c : Int) : ∀ l : List Int, valB (l ++ [c]) = valB l + 128 ^ l.length * (c % 128)
  | [] => by simp [valB]
  | b :: r => by
    have := valB_snoc c r
    simp only [List.cons_append, valB, List.length_cons, Int.pow_succ, this]
    rw [Int.mul_add, Int.add_assoc]
    congr 2
    rw [Int.mul_comm (128 ^ r.length) 128, Int.mul_assoc]
theorem lt64 {z : Nat} (h : z < 18446744073709551616) : z < 2 ^ IntKind.u64.bits := h
theorem and127 : ∀ b : Fin 256, b.val &&& 127 = b.val % 128 := by decide +kernel
theorem or_shift (v c : Int) (i : Nat) (hi : i ≤ 9) (h0 : 0 ≤ v) (hv : v < 128 ^ i) (hc0 : 0 ≤ c) (hc1 : c < 256) (h9 : i = 9 → c ≤ 1) :
    bits .or .u64 v (shl .u64 (IntKind.u64.wrap (bits .and .u8 c 127)) (wrap64 (7 * (i : Int)))) = v + 128 ^ i * (c % 128) := by
  obtain ⟨a, rfl⟩ := Int.eq_ofNat_of_zero_le hc0
  obtain ⟨n, rfl⟩ := Int.eq_ofNat_of_zero_le h0
  have ha : a < 256 := by omega
  have e1 : bits .and .u8 (a : Int) 127 = ((a % 128 : Nat) : Int) := by
    rw [show (127 : Int) = ((127 : Nat) : Int) from rfl, bits_and_nat .u8 rfl a 127 (by simpa [IntKind.bits] using ha) (by decide)]
    have := and127 ⟨a, ha⟩
    dsimp only at this
    rw [this]
  have hp : (2 : Nat) ^ (7 * i) = 128 ^ i := by rw [Nat.pow_mul]
  have hpi : (128 : Int) ^ i = ((128 ^ i : Nat) : Int) := by simp
  have hb : a % 128 * 128 ^ i < 18446744073709551616 := by
    rcases Nat.lt_or_ge i 9 with h | h
    · have h1 : (128 : Nat) ^ i ≤ 128 ^ 8 := Nat.pow_le_pow_right (by decide) (by omega)
      have h2 : a % 128 < 128 := Nat.mod_lt _ (by decide)
      exact Nat.lt_of_le_of_lt (Nat.mul_le_mul (show a % 128 ≤ 127 by omega) h1) (by decide)
    · have e : i = 9 := by omega
      subst e
      have := h9 rfl
      have h2 : a % 128 ≤ 1 := by omega
      exact Nat.lt_of_le_of_lt (Nat.mul_le_mul h2 (Nat.le_refl (128 ^ 9))) (by decide)
  have hvn : n < 128 ^ i := by rw [hpi] at hv; exact_mod_cast hv
  have hn64 : n < 18446744073709551616 := by
    have h1 : (128 : Nat) ^ i ≤ 128 ^ 9 := Nat.pow_le_pow_right (by decide) hi
    have h2 : (128 : Nat) ^ 9 < 18446744073709551616 := by decide
    omega
  have e2 : IntKind.u64.wrap ((a % 128 : Nat) : Int) = ((a % 128 : Nat) : Int) := wrap_u64_id (by omega) (by omega)
  have e3 : shl .u64 ((a % 128 : Nat) : Int) (wrap64 (7 * (i : Int))) = ((a % 128 * 128 ^ i : Nat) : Int) := by
    unfold shl
    rw [wrap64_id (by omega) (by omega), show (7 * (i : Int)).toNat = 7 * i by omega, Nat.min_eq_left (by simp [IntKind.bits]; omega)]
    have e4 : ((a % 128 : Nat) : Int) * 2 ^ (7 * i) = ((a % 128 * 128 ^ i : Nat) : Int) := by
      rw [← hp]; push_cast; rfl
    rw [e4]
    clear e4
    generalize a % 128 * 128 ^ i = z at hb ⊢
    exact wrap_u64_id (by omega) (by omega)
  rw [e1, e2, e3, bits_or_nat .u64 rfl n (a % 128 * 128 ^ i) (lt64 hn64) (lt64 hb)]
  have h3 : 2 ^ (7 * i) * (a % 128) + n = 2 ^ (7 * i) * (a % 128) ||| n := Nat.two_pow_add_eq_or_of_lt (i := 7 * i) (by rw [hp]; exact hvn) _
  rw [Nat.or_comm, Nat.mul_comm (a % 128), ← hp, ← h3, hpi, ← hp]
  push_cast
  omega
def numG : List Int → List Int → Int × List Int × Bool
  | _, [] => (0, [], false)
  | one, c :: r => if one.length = 9 ∧ c > 1 then (0, [], false) else if c < 128 then (valB (one ++ [c]), r, decide (c ≠ 0 ∨ one.length = 0)) else numG (one ++ [c]) r
theorem numB0 (c : Int) (n : Nat) (h : c = 0) : ((n : Int) == 0) = decide (c ≠ 0 ∨ n = 0) := by
  rw [Bool.eq_iff_iff, beq_iff_eq, decide_eq_true_eq]
  omega
theorem numB1 (c : Int) (n : Nat) (h : c ≠ 0) : decide (c ≠ 0 ∨ n = 0) = true := by
  rw [decide_eq_true_eq]
  exact Or.inl h
theorem numV (c : Int) (i : Nat) (h : i = 9 → c ≤ 1) (e : (i : Int) = 9) : decide (c > 1) = false := by
  have := h (by omega)
  exact decide_eq_false (by omega)
theorem numX (one : List Int) (c : Int) (h : one.length ≤ 9) (h9 : one.length = 9 → c ≤ 1) (c1 : ¬ c < 128) : (one ++ [c]).length ≤ 9 := by
  rw [List.length_append, List.length_singleton]
  by_cases e : one.length = 9
  · have := h9 e; omega
  · omega
theorem numW (i n : Nat) (h : i ≤ 9) (hi : i < n) : 0 ≤ wrap64 (7 * (i : Int)) ∧ wrap64 ((i : Int) + 1) = ((i + 1 : Nat) : Int) ∧ 0 ≤ wrap64 ((i : Int) + 1) ∧ wrap64 ((i : Int) + 1) ≤ (n : Int) := by
  have w7 : wrap64 (7 * (i : Int)) = 7 * (i : Int) := wrap64_id (by omega) (by omega)
  have w1 : wrap64 ((i : Int) + 1) = ((i + 1 : Nat) : Int) := by rw [wrap64_id (by omega) (by omega)]; omega
  rw [w7, w1]
  exact ⟨by omega, rfl, by omega, by omega⟩
theorem number_ev : ∀ (rem one l : List Int), l = one ++ rem → one.length ≤ 9 → l.length ≤ 1000000 → (∀ x ∈ l, 0 ≤ x ∧ x < 256) → Ev (fun k => impl_number.l0 k l (valB one) l (l.length : Int) (one.length : Int)) (numG one rem)
  | [], one, l, e, h9, hl, hb => by
    subst e
    refine ev_end fun k => ?_
    simp only [impl_number.l0, List.append_nil]
    rw [if_neg (by omega)]
    rfl
  | c :: r, one, l, e, h9, hl, hb => by
    have hlen : l.length = one.length + r.length + 1 := by rw [e, List.length_append, List.length_cons]; omega
    have hi : one.length < l.length := by omega
    have hc : rd l (one.length : Int) = c := by rw [rd_eq l one.length hi]; simp [e]
    have hcb := hb c (by rw [e]; simp)
    have hv := valB_range one
    have hdrop : l.drop (one.length + 1) = r := by rw [e]; simp
    have he2 : l = (one ++ [c]) ++ r := by rw [e, List.append_assoc]; rfl
    by_cases c9 : one.length = 9 ∧ c > 1
    · refine ev_step (fun k => impl_number.j1 k l (valB one) (one.length : Int) c l (l.length : Int) (one.length : Int) true) (fun k => ?_) (ev_end fun k => ?_)
      · simp only [impl_number.l0]
        rw [if_pos (by omega), if_pos (by omega), if_pos (by omega), if_pos (by omega), hc, decide_eq_true c9.2]
      · simp only [impl_number.j1, if_true]
        rw [numG, if_pos c9]
    · have h9c : one.length = 9 → c ≤ 1 := fun h => by omega
      have hor := or_shift (valB one) c one.length h9 hv.1 hv.2 hcb.1 hcb.2 h9c
      rw [← valB_snoc] at hor
      refine ev_step (fun k => impl_number.j1 k l (valB one) (one.length : Int) c l (l.length : Int) (one.length : Int) false) (fun k => ?_) ?_
      · simp only [impl_number.l0]
        rw [if_pos (by omega), if_pos (by omega), if_pos (by omega), hc]
        by_cases e9 : (one.length : Int) = 9
        · rw [if_pos e9, numV c one.length h9c e9]
        · rw [if_neg e9]
      · obtain ⟨w7, w1, w2, w3⟩ := numW one.length l.length h9 hi
        by_cases c1 : c < 128
        · refine ev_end fun k => ?_
          simp only [impl_number.j1, Bool.false_eq_true, if_false]
          rw [if_pos w7, if_pos c1, if_pos w2, if_pos w3, Option.bind_some, w1, Int.toNat_natCast, hdrop, hor, numG, if_neg c9, if_pos c1]
          by_cases c0 : c = 0
          · rw [if_pos c0, numB0 c one.length c0]
          · rw [if_neg c0, numB1 c one.length c0]
        · have hrec := number_ev r (one ++ [c]) l he2 (numX one c h9 h9c c1) hl hb
          rw [List.length_append, List.length_singleton] at hrec
          rw [numG, if_neg c9, if_neg c1]
          refine ev_step (fun k => impl_number.l0 k l (valB (one ++ [c])) l (l.length : Int) ((one.length + 1 : Nat) : Int)) (fun k => ?_) hrec
          simp only [impl_number.j1, Bool.false_eq_true, if_false]
          rw [if_pos w7, if_neg c1, hor, w1]
theorem numberF_ev (l : List Int) (hl : l.length ≤ 1000000) (hb : ∀ x ∈ l, 0 ≤ x ∧ x < 256) : Ev (fun k => impl_number.f k l) (numG [] l) := number_ev l [] l rfl (by simp) hl hb
theorem numG_mem : ∀ (rem one : List Int), ∀ x ∈ (numG one rem).2.1, x ∈ rem
  | [], one, x, hx => by simp [numG] at hx
  | c :: r, one, x, hx => by
    unfold numG at hx
    split at hx
    · simp at hx
    · split at hx
      · exact List.mem_cons_of_mem _ hx
      · exact List.mem_cons_of_mem _ (numG_mem r _ x hx)
theorem numG_len : ∀ (rem one : List Int), (numG one rem).2.1.length ≤ rem.length
  | [], one => by simp [numG]
  | c :: r, one => by
    unfold numG
    split
    · simp
    · split
      · simp
      · have := numG_len r (one ++ [c]); rw [List.length_cons]; omega
/-- The numbers that a body begins with. -/
def cofG : Nat → List Int → List Int → Option (List Int × List Int)
  | 0, all, b => some (all, b)
  | n + 1, all, b => if (numG [] b).2.2 = true then cofG n (all ++ [(numG [] b).1]) (numG [] b).2.1 else none
theorem cofL_ev : ∀ (n : Nat) (all b : List Int), b.length ≤ 1000000 → (∀ x ∈ b, 0 ≤ x ∧ x < 256) → Ev (fun k => cofL k n all b) (cofG n all b)
  | 0, all, b, hl, hb => ⟨0, fun k _ => rfl⟩
  | n + 1, all, b, hl, hb => by
    refine Ev.congr (f := fun k => (impl_number.f k b).bind fun t => if t.2.2 = true then cofL k n (all ++ [t.1]) t.2.1 else some none) (fun k => rfl) (Ev.bind (f := fun k t => if t.2.2 = true then cofL k n (all ++ [t.1]) t.2.1 else some none) (numberF_ev b hl hb) ?_)
    unfold cofG
    by_cases c : (numG [] b).2.2 = true
    · rw [if_pos c]
      refine Ev.congr (fun k => by rw [if_pos c]) (cofL_ev n _ _ (Nat.le_trans (numG_len b []) hl) (fun x hx => hb x (numG_mem b [] x hx)))
    · rw [if_neg c]
      exact Ev.congr (fun k => by rw [if_neg c]) (Ev.now _)
theorem implCallOf_ev (b : List Int) (hl : b.length ≤ 1000000) (hb : ∀ x ∈ b, 0 ≤ x ∧ x < 256) : Ev (fun k => impl_callOf.f k b) (callEnd (cofG 8 [] b)) := by
  obtain ⟨K, hK⟩ := ev_get (cofL_ev 8 [] b hl hb)
  exact ev_mk K fun k hk => by unfold impl_callOf.f; rw [hK k hk]; rfl
end Go.Proofs.YtjpjfkmnfppgkaaDoor.P

namespace Go.Proofs.YtjpjfkmnfppgkaaDoor.P
open Go.RowKit Go.Proofs.YtjpjfkmnfppgkaaDoorW.PrintWords Go.Proofs.YtjpjfkmnfppgkaaDoorW.PrintLast Go.Proofs.YtjpjfkmnfppgkaaDoorW.PrintMore
attribute [local go_sem] max2_int min2_int max_two min_two max_three min_three max_four min_four   -- for this text's walks alone
set_option linter.unusedVariables false
set_option linter.unusedSimpArgs false

/-! ### spec_l2cut: function 53 -/
def spec_l2cut.l0 : Nat → List Int → List (List Int) → List Int → Int → Option ((List (List Int)) × Bool)
  | 0, _, _, _, _ => none
  | k + 1, x0, x4, x5, x6 => if x6 < (x0.length : Int) then (if 0 ≤ x6 then (if x5.length < 140737488355328 then ((some (x5 ++ [rd x0 x6] : List Int)).bind fun y290 => (if (rd x0 x6) < 128 then (if x4.length < 5864062014805 then (spec_l2cut.l0 k x0 (x4 ++ [y290]) ([] : List Int) (wrap64 (x6 + 1))) else (none)) else (spec_l2cut.l0 k x0 x4 y290 (wrap64 (x6 + 1))))) else (none)) else (none)) else (some (x4, ((x5.length : Int) == 0)))
def spec_l2cut.f (k : Nat) (l0 : List Int) : Option ((List (List Int)) × Bool) := spec_l2cut.l0 k l0 ([] : List (List Int)) ([] : List Int) 0
set_option maxHeartbeats 8000000 in
set_option maxRecDepth 100000 in
theorem spec_l2cut.calls (k : Nat) (A0 : Option Addr) (c0 : Nat) (l0 : List Int) (r1 : List (List Int)) (r2 : Bool) (w : World) (hr0 : Kd.C (Kd.int .u8) w A0 l0.length l0) (hc0 : l0.length ≤ c0) (h : spec_l2cut.f k l0 = some (r1, r2)) :
    Calls Tryd.prog 53 #[.slice A0 l0.length c0] w fun e w' => ∃ v0_ : Value, e = .returned (.tuple #[v0_, .bool r2]) ∧ Kd.S (Kd.slice 5 (Kd.int .u8)) 22 w' w.heap.size (fun _ => True) v0_ r1 ∧ Below w.heap.size w w' := by
  have HR0 := Aside0.mk hr0
  have HC0 := Aside0.mk hc0
  clear hr0 hc0
  have HB := Aside0.mk (Below.refl w.heap.size w)
  have H : (spec_l2cut.l0 k l0 ([] : List (List Int)) ([] : List Int) 0) = some (r1, r2) := h
  clear h
  have H' := Aside0.mk H
  clear H
  go_enter Tryd.func53, Tryd.ntmps53
  go_wp2
  go_loopg [4, 5, 6] k (fun kq v4 v5 v6 w' => ∃ (x4_1 : List (List Int)) (x5_1 : List Int) (x6_1 : Int), v6 = .int .i64 x6_1 ∧ Aside0 (spec_l2cut.l0 kq l0 x4_1 x5_1 x6_1 = some (r1, r2)) ∧ Aside0 (kq ≤ k) ∧ Aside0 (Kd.S (Kd.slice 5 (Kd.int .u8)) 22 w' w.heap.size (fun k_ => some k_ ≠ (v5 : Value).ownBlock) v4 x4_1) ∧ Aside0 (Kd.R (Kd.int .u8) 5 w' w.heap.size (fun _ => True) v5 x5_1) ∧ Aside0 (Below w.heap.size w w'))
  case atStart => exact ⟨(([] : List (List Int))), (([] : List Int)), (0), (by first | rfl | (simp; done) | (simp [*]; done)), H', ⟨Nat.le_refl _⟩, ⟨by first | exact Kd.S_nil _ _ _ _ _ | exact Kd.N_nil _ _ _ _ _ | exact Kd.V_nil _ _ _ _ _ | exact Kd.Q_nil _ _ _ _ _ | exact Kd.R_nil _ _ _ _ _⟩, ⟨by first | exact Kd.R_nil _ _ _ _ _ | exact Kd.N_nil _ _ _ _ _ | exact Kd.V_nil _ _ _ _ _ | exact Kd.Q_nil _ _ _ _ _ | exact Kd.S_nil _ _ _ _ _⟩, ⟨by repeat (first | (with_reducible first | exact HB.out | apply below_alloc | apply pw_below_drewN | apply below_drew1) | exact HB.out)⟩⟩
  case round =>
    clear H'
    obtain ⟨x4_1, x5_1, x6_1, rfl, HA, HK1, HO_4, HO_5, HB⟩ := hrel
    cases gk with
    | zero => exact absurd HA.out (by simp [spec_l2cut.l0])
    | succ k1 =>
      have H := HA.out
      clear HA
      simp only [spec_l2cut.l0] at H
      by_cases c2 : x6_1 < (l0.length : Int)
      · rw [if_pos c2] at H
        have c2b0 : decide (x6_1 < (l0.length : Int)) = true := decide_eq_true c2
        clear c2
        by_cases c3 : 0 ≤ x6_1
        · rw [if_pos c3] at H
          have c3b0 : decide (0 ≤ x6_1) = true := decide_eq_true c3
          clear c3
          by_cases c4 : x5_1.length < 140737488355328
          · rw [if_pos c4] at H
            have LMc4 := Aside0.mk c4
            clear c4
            obtain ⟨y290, hy290⟩ : ∃ y_ : List Int, y_ = (x5_1 ++ [rd l0 x6_1]) := ⟨_, rfl⟩
            replace H : (if (rd l0 x6_1) < 128 then (if x4_1.length < 5864062014805 then (spec_l2cut.l0 k1 l0 (x4_1 ++ [y290]) ([] : List Int) (wrap64 (x6_1 + 1))) else (none)) else (spec_l2cut.l0 k1 l0 x4_1 y290 (wrap64 (x6_1 + 1)))) = some (r1, r2) := by first | (rw [hy290]; with_reducible exact H) | (have H2_ := (Option.bind_some _ _).symm.trans H; rw [hy290]; with_reducible exact H2_) | (have H2_ := (Option.bind_some _ _).symm.trans H; with_reducible exact H2_) | with_reducible exact H | (rw [hy290]; exact H) | exact H
            have Ny290 := Aside0.mk hy290
            clear hy290
            by_cases c5 : (rd l0 x6_1) < 128
            · rw [if_pos c5] at H
              have c5b0 : decide ((rd l0 x6_1) < 128) = true := decide_eq_true c5
              clear c5
              by_cases c6 : x4_1.length < 5864062014805
              · rw [if_pos c6] at H
                have LMc6 := Aside0.mk c6
                clear c6
                obtain ⟨y294, hy294⟩ : ∃ y_ : List (List Int), y_ = (x4_1 ++ [y290]) := ⟨_, rfl⟩
                replace H : (spec_l2cut.l0 k1 l0 y294 ([] : List Int) (wrap64 (x6_1 + 1))) = some (r1, r2) := by first | (rw [hy294]; with_reducible exact H) | (have H2_ := (Option.bind_some _ _).symm.trans H; rw [hy294]; with_reducible exact H2_) | (have H2_ := (Option.bind_some _ _).symm.trans H; with_reducible exact H2_) | with_reducible exact H | (rw [hy294]; exact H) | exact H
                have Ny294 := Aside0.mk hy294
                clear hy294
                have H' := Aside0.mk H
                clear H
                have p289 : 0 ≤ (x6_1 : Int) := of_decide_eq_true (by first | (with_reducible assumption) | assumption)
                have q289 : x6_1 < (l0.length : Int) := of_decide_eq_true (by first | (with_reducible assumption) | assumption)
                obtain ⟨ad289, e289, hx289_0⟩ := Kd.at_int HR0.out x6_1 p289 q289
                cases e289
                replace hx289_0 := (HB.out.cell (World.block_lt_of_cell? w _ hx289_0)).trans hx289_0
                replace p289 := eq_true p289
                replace q289 := eq_true q289
                go_wp2_with (first | ((with_reducible refine gate_builtin (b := .append) (xs := #[.tmp 13, .tmp 18]) rfl ?_); at_builtin; refine Kd.R_append (Kd.int .u8) (w0 := w) w.heap.size rfl (.tmp 13) (.tmp 18) 22 5 (.int .u8 0) 1 rfl Tryd.underlying22 info5 rfl (by decide) (by omega) u5 x5_1 (rd l0 x6_1) [.int .u8 (rd l0 x6_1)] (fun _ => True) (fun _ => False) rfl rfl ?aP (fun _ hk => hk.elim) ?aF ?aO ?aB ?aS ?aL ?_; (case aP => exact rfl); (case aB => exact (by repeat (first | (with_reducible first | exact HB.out | apply below_alloc | apply pw_below_drewN | apply below_drew1) | exact HB.out))); (case aF => exact (fun _ _ => trivial)); (case aO => exact (by (with_reducible repeat (first | apply Kd.R_alloc | apply Kd.R_drewN | apply Kd.R_drew)); exact HO_5.out)); (case aS => exact (below_size (by repeat (first | (with_reducible first | exact HB.out | apply below_alloc | apply pw_below_drewN | apply below_drew1) | exact HB.out)))); (case aL => have := LMc4.out; omega); intro v291 w7 ho hb hg hat; rw [← Ny290.out] at ho; have n0_ := Aside0.mk (Kd.S_after (ok := (fun _ => True)) (by (with_reducible repeat (first | apply Kd.S_alloc | apply Kd.S_drewN | apply Kd.S_drew)); exact Kd.S_mono HO_4.out (fun _ hk => ⟨trivial, hk⟩)) hg hat); have n1_ := Aside0.mk (hb); have n2_ := Aside0.mk (ho); clear HO_4; clear HB; clear HO_5; have HO_4 := n0_; have HB := n1_; have HO292 := n2_; clear n0_ n1_ n2_; clear ho hb hg hat; have p293 : 0 ≤ (x6_1 : Int) := of_decide_eq_true (by first | (with_reducible assumption) | assumption); have q293 : x6_1 < (l0.length : Int) := of_decide_eq_true (by first | (with_reducible assumption) | assumption); obtain ⟨ad293, e293, hx293_0⟩ := Kd.at_int HR0.out x6_1 p293 q293; obtain rfl : ad289 = ad293 := (by injection e293); replace hx293_0 := (HB.out.cell (World.block_lt_of_cell? w _ hx293_0)).trans hx293_0; replace p293 := eq_true p293; replace q293 := eq_true q293; obtain ⟨Ao9, co9, eo9⟩ := Kd.R_slice HO292.out; subst eo9) | ((with_reducible refine gate_builtin (b := .append) (xs := #[.tmp 25, .tmp 27]) rfl ?_); at_builtin; refine Kd.S_append (Kd.slice 5 (Kd.int .u8)) (w0 := w) w.heap.size rfl (.tmp 25) (.tmp 27) 91 22 (.slice none 0 0) 24 rfl Tryd.underlying91 info22 rfl (by decide) (by omega) u4 x4_1 y290 [.slice Ao9 y290.length co9] (fun _ => True) (fun k_ => some k_ = (.slice Ao9 y290.length co9 : Value).ownBlock) rfl rfl ?aP (fun k_ hk_ => ((Kd.R_mono (ok' := fun k_ => ((fun _ => True)) k_ ∧ some k_ ≠ (u4 : Value).ownBlock) (Kd.R_apart' (HO292.out) (Kd.S_typed HO_4.out) (by decide)) (fun k_ hk => ⟨trivial, hk.2⟩))).1 k_ hk_.symm) ?aF ?aO ?aB ?aS ?aL ?_; (case aP => exact Kd.M_row (Kd.R_mono (Kd.R_tight rfl (Kd.R_mono (ok' := fun k_ => ((fun _ => True)) k_ ∧ some k_ ≠ (u4 : Value).ownBlock) (Kd.R_apart' (HO292.out) (Kd.S_typed HO_4.out) (by decide)) (fun k_ hk => ⟨trivial, hk.2⟩))) (fun _ h_ => h_))); (case aB => exact (by repeat (first | (with_reducible first | exact HB.out | apply below_alloc | apply pw_below_drewN | apply below_drew1) | exact HB.out))); (case aF => exact (fun _ _ => trivial)); (case aO => exact (by (with_reducible repeat (first | apply Kd.S_alloc | apply Kd.S_drewN | apply Kd.S_drew)); exact Kd.S_mono HO_4.out (fun k_ hk => ⟨trivial, fun e_ => hk.2 e_⟩))); (case aS => exact (below_size (by repeat (first | (with_reducible first | exact HB.out | apply below_alloc | apply pw_below_drewN | apply below_drew1) | exact HB.out)))); (case aL => have := LMc6.out; omega); intro v295 w8 ho hb hg hat; rw [← Ny294.out] at ho; have n0_ := Aside0.mk (hb); have n1_ := Aside0.mk (ho); clear HB; clear HO_4; clear HO292; have HB := n0_; have HO296 := n1_; clear n0_ n1_; clear ho hb hg hat))
                go_roundg k1
                case measure => have := HK1.out; omega
                case rel => exact ⟨(y294), (([] : List Int)), (wrap64 (x6_1 + 1)), (by first | rfl | (simp; done) | (simp [*]; done)), H', ⟨by have := HK1.out; omega⟩, ⟨by (with_reducible repeat (first | apply Kd.S_alloc | apply Kd.S_drewN | apply Kd.S_drew)); exact Kd.S_mono HO296.out (fun _ hk => (by simp [Value.ownBlock]))⟩, ⟨by first | exact Kd.R_nil _ _ _ _ _ | exact Kd.N_nil _ _ _ _ _ | exact Kd.V_nil _ _ _ _ _ | exact Kd.Q_nil _ _ _ _ _ | exact Kd.S_nil _ _ _ _ _⟩, ⟨by repeat (first | (with_reducible first | exact HB.out | apply below_alloc | apply pw_below_drewN | apply below_drew1) | exact HB.out)⟩⟩
              · rw [if_neg c6] at H
                exact absurd H (by simp)
            · rw [if_neg c5] at H
              have c5b0 : decide ((rd l0 x6_1) < 128) = false := decide_eq_false c5
              clear c5
              have H' := Aside0.mk H
              clear H
              have p289 : 0 ≤ (x6_1 : Int) := of_decide_eq_true (by first | (with_reducible assumption) | assumption)
              have q289 : x6_1 < (l0.length : Int) := of_decide_eq_true (by first | (with_reducible assumption) | assumption)
              obtain ⟨ad289, e289, hx289_0⟩ := Kd.at_int HR0.out x6_1 p289 q289
              cases e289
              replace hx289_0 := (HB.out.cell (World.block_lt_of_cell? w _ hx289_0)).trans hx289_0
              replace p289 := eq_true p289
              replace q289 := eq_true q289
              go_wp2_with (first | ((with_reducible refine gate_builtin (b := .append) (xs := #[.tmp 13, .tmp 18]) rfl ?_); at_builtin; refine Kd.R_append (Kd.int .u8) (w0 := w) w.heap.size rfl (.tmp 13) (.tmp 18) 22 5 (.int .u8 0) 1 rfl Tryd.underlying22 info5 rfl (by decide) (by omega) u5 x5_1 (rd l0 x6_1) [.int .u8 (rd l0 x6_1)] (fun _ => True) (fun _ => False) rfl rfl ?aP (fun _ hk => hk.elim) ?aF ?aO ?aB ?aS ?aL ?_; (case aP => exact rfl); (case aB => exact (by repeat (first | (with_reducible first | exact HB.out | apply below_alloc | apply pw_below_drewN | apply below_drew1) | exact HB.out))); (case aF => exact (fun _ _ => trivial)); (case aO => exact (by (with_reducible repeat (first | apply Kd.R_alloc | apply Kd.R_drewN | apply Kd.R_drew)); exact HO_5.out)); (case aS => exact (below_size (by repeat (first | (with_reducible first | exact HB.out | apply below_alloc | apply pw_below_drewN | apply below_drew1) | exact HB.out)))); (case aL => have := LMc4.out; omega); intro v291 w10 ho hb hg hat; rw [← Ny290.out] at ho; have n0_ := Aside0.mk (Kd.S_after (ok := (fun _ => True)) (by (with_reducible repeat (first | apply Kd.S_alloc | apply Kd.S_drewN | apply Kd.S_drew)); exact Kd.S_mono HO_4.out (fun _ hk => ⟨trivial, hk⟩)) hg hat); have n1_ := Aside0.mk (hb); have n2_ := Aside0.mk (ho); clear HO_4; clear HB; clear HO_5; have HO_4 := n0_; have HB := n1_; have HO292 := n2_; clear n0_ n1_ n2_; clear ho hb hg hat; have p293 : 0 ≤ (x6_1 : Int) := of_decide_eq_true (by first | (with_reducible assumption) | assumption); have q293 : x6_1 < (l0.length : Int) := of_decide_eq_true (by first | (with_reducible assumption) | assumption); obtain ⟨ad293, e293, hx293_0⟩ := Kd.at_int HR0.out x6_1 p293 q293; obtain rfl : ad289 = ad293 := (by injection e293); replace hx293_0 := (HB.out.cell (World.block_lt_of_cell? w _ hx293_0)).trans hx293_0; replace p293 := eq_true p293; replace q293 := eq_true q293))
              go_roundg k1
              case measure => have := HK1.out; omega
              case rel => exact ⟨(x4_1), (y290), (wrap64 (x6_1 + 1)), (by first | rfl | (simp; done) | (simp [*]; done)), H', ⟨by have := HK1.out; omega⟩, ⟨by (with_reducible repeat (first | apply Kd.S_alloc | apply Kd.S_drewN | apply Kd.S_drew)); exact Kd.S_mono HO_4.out (fun _ hk => hk.2)⟩, ⟨by (with_reducible repeat (first | apply Kd.R_alloc | apply Kd.R_drewN | apply Kd.R_drew)); exact HO292.out⟩, ⟨by repeat (first | (with_reducible first | exact HB.out | apply below_alloc | apply pw_below_drewN | apply below_drew1) | exact HB.out)⟩⟩
          · rw [if_neg c4] at H
            exact absurd H (by simp)
        · rw [if_neg c3] at H
          exact absurd H (by simp)
      · rw [if_neg c2] at H
        have c2b0 : decide (x6_1 < (l0.length : Int)) = false := decide_eq_false c2
        clear c2
        simp only [Option.some.injEq, Prod.mk.injEq] at H
        obtain ⟨rfl, rfl⟩ := H
        obtain ⟨Ao11, co11, eo11⟩ := Kd.R_slice HO_5.out
        subst eo11
        go_wp2
        go_ret2
        exact ⟨_, by first | rfl | (simp [errW_none, errW_some] <;> rfl) | (simp [*, errW_none, errW_some] <;> rfl), by (with_reducible repeat (first | apply Kd.S_alloc | apply Kd.S_drewN | apply Kd.S_drew)); exact Kd.S_mono HO_4.out (fun _ hk => trivial), by repeat (first | (with_reducible first | exact HB.out | apply below_alloc | apply pw_below_drewN | apply below_drew1) | exact HB.out)⟩

end Go.Proofs.YtjpjfkmnfppgkaaDoor.P

namespace Go.Proofs.YtjpjfkmnfppgkaaDoor.P
open Go.RowKit Go.Proofs.YtjpjfkmnfppgkaaDoorW.PrintWords Go.Proofs.YtjpjfkmnfppgkaaDoorW.PrintLast Go.Proofs.YtjpjfkmnfppgkaaDoorW.PrintMore
attribute [local go_sem] max2_int min2_int max_two min_two max_three min_three max_four min_four   -- for this text's walks alone
set_option linter.unusedVariables false
set_option linter.unusedSimpArgs false

/-! ### spec_l2value: function 54 -/
def spec_l2value.l0 : Nat → List Int → Int → Int → Option (Int × Bool)
  | 0, _, _, _ => none
  | k + 1, x0, x4, x5 => if x5 ≥ 0 then (if 0 ≤ x5 then (if x5 < (x0.length : Int) then (spec_l2value.l0 k x0 (IntKind.u64.wrap ((IntKind.u64.wrap (x4 * 128)) + (IntKind.u64.wrap (Int.tmod (rd x0 x5) 128)))) (wrap64 (x5 - 1))) else (none)) else (none)) else ((spec_l2var.f k x4).bind fun t310 => (if (strOfNums t310).toList = (strOfNums x0).toList then (some (x4, true)) else (some (0, false))))
def spec_l2value.f (k : Nat) (l0 : List Int) : Option (Int × Bool) := if (l0.length : Int) > 10 then (some (0, false)) else (spec_l2value.l0 k l0 0 (wrap64 ((l0.length : Int) - 1)))
set_option maxHeartbeats 8000000 in
set_option maxRecDepth 100000 in
theorem spec_l2value.calls (k : Nat) (A0 : Option Addr) (c0 : Nat) (l0 : List Int) (r1 : Int) (r2 : Bool) (w : World) (hr0 : Kd.C (Kd.int .u8) w A0 l0.length l0) (hc0 : l0.length ≤ c0) (h : spec_l2value.f k l0 = some (r1, r2)) :
    Calls Tryd.prog 54 #[.slice A0 l0.length c0] w fun e w' => e = .returned (.tuple #[.int .u64 r1, .bool r2]) ∧ Below w.heap.size w w' := by
  have HR0 := Aside0.mk hr0
  have HC0 := Aside0.mk hc0
  clear hr0 hc0
  have HB := Aside0.mk (Below.refl w.heap.size w)
  have H : (if (l0.length : Int) > 10 then (some (0, false)) else (spec_l2value.l0 k l0 0 (wrap64 ((l0.length : Int) - 1)))) = some (r1, r2) := h
  clear h
  by_cases c2 : (l0.length : Int) > 10
  · rw [if_pos c2] at H
    have c2b0 : decide (10 < (l0.length : Int)) = true := decide_eq_true c2
    have c2b1 : decide (10 < l0.length) = true := decide_eq_true (by omega)
    clear c2
    simp only [Option.some.injEq, Prod.mk.injEq] at H
    obtain ⟨rfl, rfl⟩ := H
    go_enter Tryd.func54, Tryd.ntmps54
    go_wp2
    go_ret2
    exact ⟨by first | rfl | (simp [errW_none, errW_some] <;> rfl) | (simp [*, errW_none, errW_some] <;> rfl), by repeat (first | (with_reducible first | exact HB.out | apply below_alloc | apply pw_below_drewN | apply below_drew1) | exact HB.out)⟩
  · rw [if_neg c2] at H
    have c2b0 : decide (10 < (l0.length : Int)) = false := decide_eq_false c2
    have c2b1 : decide (10 < l0.length) = false := decide_eq_false (by omega)
    clear c2
    have H' := Aside0.mk H
    clear H
    go_enter Tryd.func54, Tryd.ntmps54
    go_wp2
    go_loopg [4, 5] k (fun kq v4 v5 w' => ∃ (x4_1 : Int) (x5_1 : Int), v4 = .int .u64 x4_1 ∧ v5 = .int .i64 x5_1 ∧ Aside0 (spec_l2value.l0 kq l0 x4_1 x5_1 = some (r1, r2)) ∧ Aside0 (kq ≤ k) ∧ Aside0 (Below w.heap.size w w'))
    case atStart => exact ⟨(0), (wrap64 ((l0.length : Int) - 1)), (by first | rfl | (simp; done) | (simp [*]; done)), (by first | rfl | (simp; done) | (simp [*]; done)), H', ⟨Nat.le_refl _⟩, ⟨by repeat (first | (with_reducible first | exact HB.out | apply below_alloc | apply pw_below_drewN | apply below_drew1) | exact HB.out)⟩⟩
    case round =>
      clear H'
      try clear c2
      try clear c2b0
      try clear c2b1
      try clear p2
      obtain ⟨x4_1, x5_1, rfl, rfl, HA, HK1, HB⟩ := hrel
      cases gk with
      | zero => exact absurd HA.out (by simp [spec_l2value.l0])
      | succ k1 =>
        have H := HA.out
        clear HA
        simp only [spec_l2value.l0] at H
        by_cases c3 : x5_1 ≥ 0
        · rw [if_pos c3] at H
          have c3b0 : decide (0 ≤ x5_1) = true := decide_eq_true c3
          clear c3
          by_cases c4 : 0 ≤ x5_1
          · rw [if_pos c4] at H
            have c4b0 : decide (0 ≤ x5_1) = true := decide_eq_true c4
            clear c4
            by_cases c5 : x5_1 < (l0.length : Int)
            · rw [if_pos c5] at H
              have c5b0 : decide (x5_1 < (l0.length : Int)) = true := decide_eq_true c5
              clear c5
              have H' := Aside0.mk H
              clear H
              have p309 : 0 ≤ (x5_1 : Int) := of_decide_eq_true (by first | (with_reducible assumption) | assumption)
              have q309 : x5_1 < (l0.length : Int) := of_decide_eq_true (by first | (with_reducible assumption) | assumption)
              obtain ⟨ad309, e309, hx309_0⟩ := Kd.at_int HR0.out x5_1 p309 q309
              cases e309
              replace hx309_0 := (HB.out.cell (World.block_lt_of_cell? w _ hx309_0)).trans hx309_0
              replace p309 := eq_true p309
              replace q309 := eq_true q309
              go_wp2
              go_roundg k1
              case measure => have := HK1.out; omega
              case rel => exact ⟨(IntKind.u64.wrap ((IntKind.u64.wrap (x4_1 * 128)) + (IntKind.u64.wrap (Int.tmod (rd l0 x5_1) 128)))), (wrap64 (x5_1 - 1)), (by first | rfl | (simp; done) | (simp [*]; done)), (by first | rfl | (simp; done) | (simp [*]; done)), H', ⟨by have := HK1.out; omega⟩, ⟨by repeat (first | (with_reducible first | exact HB.out | apply below_alloc | apply pw_below_drewN | apply below_drew1) | exact HB.out)⟩⟩
            · rw [if_neg c5] at H
              exact absurd H (by simp)
          · rw [if_neg c4] at H
            exact absurd H (by simp)
        · rw [if_neg c3] at H
          have c3b0 : decide (0 ≤ x5_1) = false := decide_eq_false c3
          clear c3
          replace H := Option.bind_eq_some_iff.mp H
          obtain ⟨t310, A60, H⟩ := H
          replace H : (if (strOfNums t310).toList = (strOfNums l0).toList then (some (x4_1, true)) else (some (0, false))) = some (r1, r2) := H
          have A6 := Aside0.mk A60
          clear A60
          by_cases c7 : (strOfNums t310).toList = (strOfNums l0).toList
          · rw [if_pos c7] at H
            have c7b0 : ((strOfNums t310).toList == (strOfNums l0).toList) = true := beq_iff_eq.mpr c7
            have c7b1 : ((strOfNums t310).toList != (strOfNums l0).toList) = false := bne_eq_false_iff_eq.mpr c7
            clear c7
            simp only [Option.some.injEq, Prod.mk.injEq] at H
            obtain ⟨rfl, rfl⟩ := H
            go_wp2_with (first | ((with_reducible refine gate_callee (f := 58) rfl ?_); refine goesL_ (some 27) rfl rfl Tryd.func58 (by kernel_rfl) rfl #[.int .u64 x4_1] rfl (by (try simp only [List.map_toArray, List.map_cons, List.map_nil]); first | done | rfl | (simp only [List.length_drop, List.length_take]; rfl)) ?_; (with_reducible refine (spec_l2var.calls k1 x4_1 t310 _ A6.out).mono ?_); rintro e w8 ⟨v311, rfl, ho0, hb⟩; refine ⟨_, rfl, ?_⟩; have n0_ := Aside0.mk (Kd.R_lower ho0 (below_size (by repeat (first | (with_reducible first | exact HB.out | apply below_alloc | apply pw_below_drewN | apply below_drew1) | exact HB.out)))); have n1_ := Aside0.mk (below_step (by repeat (first | (with_reducible first | exact HB.out | apply below_alloc | apply pw_below_drewN | apply below_drew1) | exact HB.out)) hb); clear HB; have HO312 := n0_; have HB := n1_; clear n0_ n1_; (try clear hb); (try clear hb2); (try clear hk); (try clear hi); (try clear ho0); have hcv9 := own_string (P := Tryd.prog) Tryd.underlying22 Tryd.underlying5 Tryd.underlying9 (Kd.own_of_R HO312.out); have hcv10 := Kd.C_string (P := Tryd.prog) (A := A0) (c := c0) Tryd.underlying22 Tryd.underlying5 Tryd.underlying9 (Kd.C_below HR0.out HB.out)))
            go_ret2
            exact ⟨by first | rfl | (simp [errW_none, errW_some] <;> rfl) | (simp [*, errW_none, errW_some] <;> rfl), by repeat (first | (with_reducible first | exact HB.out | apply below_alloc | apply pw_below_drewN | apply below_drew1) | exact HB.out)⟩
          · rw [if_neg c7] at H
            have c7b0 : ((strOfNums t310).toList == (strOfNums l0).toList) = false := beq_eq_false_iff_ne.mpr c7
            have c7b1 : ((strOfNums t310).toList != (strOfNums l0).toList) = true := bne_iff_ne.mpr c7
            simp only [Option.some.injEq, Prod.mk.injEq] at H
            obtain ⟨rfl, rfl⟩ := H
            go_wp2_with (first | ((with_reducible refine gate_callee (f := 58) rfl ?_); refine goesL_ (some 27) rfl rfl Tryd.func58 (by kernel_rfl) rfl #[.int .u64 x4_1] rfl (by (try simp only [List.map_toArray, List.map_cons, List.map_nil]); first | done | rfl | (simp only [List.length_drop, List.length_take]; rfl)) ?_; (with_reducible refine (spec_l2var.calls k1 x4_1 t310 _ A6.out).mono ?_); rintro e w11 ⟨v311, rfl, ho0, hb⟩; refine ⟨_, rfl, ?_⟩; have n0_ := Aside0.mk (Kd.R_lower ho0 (below_size (by repeat (first | (with_reducible first | exact HB.out | apply below_alloc | apply pw_below_drewN | apply below_drew1) | exact HB.out)))); have n1_ := Aside0.mk (below_step (by repeat (first | (with_reducible first | exact HB.out | apply below_alloc | apply pw_below_drewN | apply below_drew1) | exact HB.out)) hb); clear HB; have HO312 := n0_; have HB := n1_; clear n0_ n1_; (try clear hb); (try clear hb2); (try clear hk); (try clear hi); (try clear ho0); have hcv12 := own_string (P := Tryd.prog) Tryd.underlying22 Tryd.underlying5 Tryd.underlying9 (Kd.own_of_R HO312.out); have hcv13 := Kd.C_string (P := Tryd.prog) (A := A0) (c := c0) Tryd.underlying22 Tryd.underlying5 Tryd.underlying9 (Kd.C_below HR0.out HB.out)))
            go_ret2
            exact ⟨by first | rfl | (simp [errW_none, errW_some] <;> rfl) | (simp [*, errW_none, errW_some] <;> rfl), by repeat (first | (with_reducible first | exact HB.out | apply below_alloc | apply pw_below_drewN | apply below_drew1) | exact HB.out)⟩

end Go.Proofs.YtjpjfkmnfppgkaaDoor.P
