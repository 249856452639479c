import Derived.Test.YtjpjfkmnfppgkaaDoorGFnExactDecodeLog9
import Derived.Test.YtjpjfkmnfppgkaaDoorGFnExactDecodeLog5
import Derived.Test.YtjpjfkmnfppgkaaDoorGFnExactDecodeLog6
namespace Go.Proofs.YtjpjfkmnfppgkaaDoor.P
open Go.RowKit Go.Proofs.YtjpjfkmnfppgkaaDoorW.PrintWords Go.Proofs.YtjpjfkmnfppgkaaDoorW.PrintLast Go.Proofs.YtjpjfkmnfppgkaaDoorW.PrintMore
set_option linter.unusedVariables false
set_option linter.unusedSimpArgs false
/-! One call off a body. -/
def callD (b : List Int) : Int × Int × List Int × Bool := callEnd (cofG 8 [] b)
theorem callEnd_rest (a r : List Int) (h : r ≠ []) : callEnd (some (a, r)) = (0, 0, [], false) := by
  cases r with
  | nil => exact absurd rfl h
  | cons x r =>
    have : (x :: r).length > 0 := by simp
    simp only [callEnd]
    rw [if_pos this]
theorem cofG_cut : ∀ (n : Nat) (all b : List Int), (∀ x ∈ b, 0 ≤ x ∧ x < 256) →
    (((cutP [] b).2 = true ∧ (cutP [] b).1.length = n ∧ ∀ p ∈ (cutP [] b).1, okP p) → cofG n all b = some (all ++ (cutP [] b).1.map valB, [])) ∧
    (¬ ((cutP [] b).2 = true ∧ (cutP [] b).1.length = n ∧ ∀ p ∈ (cutP [] b).1, okP p) → cofG n all b = none ∨ ∃ a r, cofG n all b = some (a, r) ∧ r ≠ [])
  | 0, all, b, hb => by
    cases b with
    | nil => exact ⟨fun _ => by simp [cutP, cofG], fun h => absurd (by simp [cutP]) h⟩
    | cons c r =>
      refine ⟨fun h => ?_, fun _ => Or.inr ⟨all, c :: r, rfl, by simp⟩⟩
      exfalso
      rw [cutP_first] at h
      cases hf : firstP [] (c :: r) with
      | none => rw [hf] at h; simp at h
      | some t => rw [hf] at h; simp at h
  | n + 1, all, b, hb => by
    have hn := numG_first b [] (by simp) (by simp) hb
    rw [cutP_first]
    unfold cofG
    cases hf : firstP [] b with
    | none =>
      rw [hf] at hn
      dsimp only at hn ⊢
      rw [if_neg (by rw [hn]; decide)]
      exact ⟨fun h => by simp at h, fun _ => Or.inl rfl⟩
    | some t =>
      rw [hf] at hn
      dsimp only at hn ⊢
      have ht : ∀ x ∈ t.2, 0 ≤ x ∧ x < 256 := fun x hx => hb x (firstP_mem b [] t hf x hx)
      by_cases q : okP t.1
      · rw [if_pos q] at hn
        have ih := cofG_cut n (all ++ [valB t.1]) t.2 ht
        rw [hn]
        dsimp only
        rw [if_pos rfl]
        have e : ((cutP [] t.2).2 = true ∧ (t.1 :: (cutP [] t.2).1).length = n + 1 ∧ ∀ p ∈ t.1 :: (cutP [] t.2).1, okP p) ↔ ((cutP [] t.2).2 = true ∧ (cutP [] t.2).1.length = n ∧ ∀ p ∈ (cutP [] t.2).1, okP p) := by
          rw [List.length_cons, List.forall_mem_cons]
          exact ⟨fun h => ⟨h.1, by omega, h.2.2.2⟩, fun h => ⟨h.1, by omega, q, h.2.2⟩⟩
        rw [e]
        refine ⟨fun h => ?_, fun h => ih.2 h⟩
        rw [ih.1 h, List.append_assoc]
        rfl
      · rw [if_neg q] at hn
        rw [if_neg (by rw [hn]; decide)]
        exact ⟨fun h => absurd (h.2.2 t.1 (List.mem_cons_self ..)) q, fun _ => Or.inl rfl⟩
def pieceE (ps : List (List Int)) : Int × Int × List Int × Bool := if ∀ p ∈ ps, okP p then callEnd (some (ps.map valB, [])) else (0, 0, [], false)
theorem callD_is (b : List Int) (hb : ∀ x ∈ b, 0 ≤ x ∧ x < 256) : callD b = if (cutP [] b).2 = true ∧ (cutP [] b).1.length = 8 then pieceE (cutP [] b).1 else (0, 0, [], false) := by
  have h := cofG_cut 8 [] b hb
  have hno : ¬ ((cutP [] b).2 = true ∧ (cutP [] b).1.length = 8 ∧ ∀ p ∈ (cutP [] b).1, okP p) → callD b = (0, 0, [], false) := by
    intro q
    unfold callD
    rcases h.2 q with e | ⟨a, r, e, hr⟩
    · rw [e]; rfl
    · rw [e, callEnd_rest a r hr]
  by_cases q : (cutP [] b).2 = true ∧ (cutP [] b).1.length = 8
  · rw [if_pos q]
    unfold pieceE
    by_cases g : ∀ p ∈ (cutP [] b).1, okP p
    · rw [if_pos g]
      unfold callD
      rw [h.1 ⟨q.1, q.2, g⟩]
      rfl
    · rw [if_neg g]
      exact hno fun e => g e.2.2
  · rw [if_neg q]
    exact hno fun e => q ⟨e.1, e.2.1⟩
theorem rdP_at (a : List (List Int)) (c : List Int) (r : List (List Int)) (i : Int) (hi : i = (a.length : Int)) : rd_L5 (a ++ c :: r) i = c := by
  subst hi
  simp [rd_L5, List.getD_eq_getElem?_getD]
theorem l2call_tail : ∀ (rem done : List (List Int)) (a b : Int) (c : List Int), done.length + rem.length = 8 → 2 ≤ done.length → c.length ≤ done.length → (∀ p ∈ rem, p.length ≤ 1000000 ∧ ∀ x ∈ p, 0 ≤ x ∧ x < 256) → Ev (fun k => spec_l2call.l0 k (done ++ rem) (done.length : Int) a b c) (if ∀ p ∈ rem, okP p then (a, b, c ++ rem.map valB, true) else (0, 0, [], false))
  | [], done, a, b, c, h8, h2, hc, hp => by
    refine ev_end fun k => ?_
    rw [List.length_nil] at h8
    simp only [spec_l2call.l0]
    rw [if_neg (by omega), if_pos (by simp)]
    simp
  | p :: r, done, a, b, c, h8, h2, hc, hp => by
    rw [List.length_cons] at h8
    have hpp := hp p (List.mem_cons_self ..)
    have hv := l2value_ev p hpp.2 hpp.1
    have hwi : wrap64 ((done.length : Int) + 1) = ((done.length + 1 : Nat) : Int) := by rw [wrap64_id (by omega) (by omega)]; omega
    refine ev_step (fun k => (spec_l2value.f k p).bind fun bt => if bt.2 = true then spec_l2call.j2 k (done ++ p :: r) (done.length : Int) bt.1 false a b c else spec_l2call.j2 k (done ++ p :: r) (done.length : Int) bt.1 true a b c) (fun k => ?_) (Ev.bind hv ?_)
    · simp only [spec_l2call.l0]
      rw [if_pos (by omega), if_pos (by omega), if_pos (by rw [List.length_append, List.length_cons]; omega), rdP_at done p r _ rfl]
      congr 1
      funext bt
      by_cases g : bt.2 = true
      · rw [if_pos g, if_pos g, if_neg (by omega)]
      · rw [if_neg g, if_neg g]
    · by_cases q : okP p
      · rw [if_pos q]
        have ih := l2call_tail r (done ++ [p]) a b (c ++ [valB p]) (by rw [List.length_append, List.length_singleton]; omega) (by rw [List.length_append]; omega) (by rw [List.length_append, List.length_append, List.length_singleton, List.length_singleton]; omega) (fun x hx => hp x (List.mem_cons_of_mem _ hx))
        rw [List.length_append, List.length_singleton, List.append_assoc, List.append_assoc] at ih
        have e : (if ∀ x ∈ p :: r, okP x then (a, b, c ++ (p :: r).map valB, true) else (0, 0, [], false)) = (if ∀ x ∈ r, okP x then (a, b, c ++ ([valB p] ++ r.map valB), true) else (0, 0, [], false)) := by
          by_cases g : ∀ x ∈ r, okP x
          · rw [if_pos g, if_pos (by rw [List.forall_mem_cons]; exact ⟨q, g⟩)]; rfl
          · rw [if_neg g, if_neg (fun h => g ((List.forall_mem_cons.1 h).2))]
        rw [e]
        refine Ev.congr (f := fun k => spec_l2call.j2 k (done ++ p :: r) (done.length : Int) (valB p) false a b c) (fun k => by dsimp only; rw [if_pos rfl]) ?_
        refine ev_step _ (fun k => ?_) ih
        simp only [spec_l2call.j2, Bool.false_eq_true, if_false]
        rw [if_neg (by omega), if_neg (by omega), if_pos (by omega), hwi]
        rfl
      · rw [if_neg q, if_neg (fun h => q (h p (List.mem_cons_self ..)))]
        refine Ev.congr (f := fun k => spec_l2call.j2 k (done ++ p :: r) (done.length : Int) 0 true a b c) (fun k => by dsimp only; rw [if_neg (by decide)]) ?_
        exact ev_end fun k => by simp only [spec_l2call.j2, if_true]
theorem valB_div (p : List Int) : valB p / 4294967296 > 0 ↔ valB p > 4294967295 := by
  have := (valB_range p).1
  omega
/-- The first two numbers, of the architecture and of the call. -/
theorem l2call_head (ps : List (List Int)) (p : List Int) (done r : List (List Int)) (hps : ps = done ++ p :: r) (hlt : done.length < 2) (h8 : ps.length = 8) (hp : p.length ≤ 1000000 ∧ ∀ x ∈ p, 0 ≤ x ∧ x < 256) (a b : Int) (c : List Int) (res : Int × Int × List Int × Bool)
    (hno : ¬ okP p → res = (0, 0, [], false)) (hbig : okP p → valB p > 4294967295 → res = (0, 0, [], false))
    (hgo : okP p → ¬ valB p > 4294967295 → Ev (fun k => spec_l2call.l0 k ps ((done.length + 1 : Nat) : Int) (if done.length = 0 then valB p % 4294967296 else a) (if done.length = 0 then b else valB p % 4294967296) c) res) :
    Ev (fun k => spec_l2call.l0 k ps (done.length : Int) a b c) res := by
  have hv := l2value_ev p hp.2 hp.1
  have hwi : wrap64 ((done.length : Int) + 1) = ((done.length + 1 : Nat) : Int) := by rw [wrap64_id (by omega) (by omega)]; omega
  refine ev_step (fun k => (spec_l2value.f k p).bind fun bt => if bt.2 = true then spec_l2call.j2 k ps (done.length : Int) bt.1 (decide (bt.1 > 4294967295)) a b c else spec_l2call.j2 k ps (done.length : Int) bt.1 true a b c) (fun k => ?_) (Ev.bind hv ?_)
  · simp only [spec_l2call.l0]
    rw [if_pos (by omega), if_pos (by omega), if_pos (by omega), hps, rdP_at done p r _ rfl]
    congr 1
    funext bt
    by_cases g : bt.2 = true
    · rw [if_pos g, if_pos g, if_pos (by omega)]
    · rw [if_neg g, if_neg g]
  · by_cases q : okP p
    · rw [if_pos q]
      refine Ev.congr (f := fun k => spec_l2call.j2 k ps (done.length : Int) (valB p) (decide (valB p > 4294967295)) a b c) (fun k => by dsimp only; rw [if_pos rfl]) ?_
      by_cases g : valB p > 4294967295
      · rw [hbig q g, decide_eq_true g]
        exact ev_end fun k => by simp only [spec_l2call.j2, if_true]
      · rw [decide_eq_false g]
        have h := hgo q g
        by_cases e : done.length = 0
        · rw [if_pos e, if_pos e] at h
          refine ev_step _ (fun k => ?_) h
          simp only [spec_l2call.j2, Bool.false_eq_true, if_false]
          rw [if_pos (by omega), hwi]
        · rw [if_neg e, if_neg e] at h
          refine ev_step _ (fun k => ?_) h
          simp only [spec_l2call.j2, Bool.false_eq_true, if_false]
          rw [if_neg (by omega), if_pos (by omega), hwi]
    · rw [if_neg q, hno q]
      refine Ev.congr (f := fun k => spec_l2call.j2 k ps (done.length : Int) 0 true a b c) (fun k => by dsimp only; rw [if_neg (by decide)]) ?_
      exact ev_end fun k => by simp only [spec_l2call.j2, if_true]
theorem l2call_loop (ps : List (List Int)) (h8 : ps.length = 8) (hp : ∀ p ∈ ps, p.length ≤ 1000000 ∧ ∀ x ∈ p, 0 ≤ x ∧ x < 256) : Ev (fun k => spec_l2call.l0 k ps 0 0 0 []) (pieceE ps) := by
  match ps, h8, hp with
  | p0 :: p1 :: r, h8, hp =>
    have hp0 := hp p0 (List.mem_cons_self ..)
    have hp1 := hp p1 (List.mem_cons_of_mem _ (List.mem_cons_self ..))
    have n0 : ¬ okP p0 → pieceE (p0 :: p1 :: r) = (0, 0, [], false) := fun q => by unfold pieceE; rw [if_neg (fun h => q (h p0 (List.mem_cons_self ..)))]
    have n1 : ¬ okP p1 → pieceE (p0 :: p1 :: r) = (0, 0, [], false) := fun q => by unfold pieceE; rw [if_neg (fun h => q (h p1 (List.mem_cons_of_mem _ (List.mem_cons_self ..))))]
    have r0 : rd (valB p0 :: valB p1 :: r.map valB) 0 = valB p0 := rfl
    have r1 : rd (valB p0 :: valB p1 :: r.map valB) 1 = valB p1 := rfl
    have b0 : valB p0 > 4294967295 → pieceE (p0 :: p1 :: r) = (0, 0, [], false) := fun g => by
      unfold pieceE
      split
      · simp only [callEnd, List.map_cons]
        rw [if_neg (by simp), r0, if_pos ((valB_div p0).2 g)]
      · rfl
    have b1 : valB p1 > 4294967295 → pieceE (p0 :: p1 :: r) = (0, 0, [], false) := fun g => by
      unfold pieceE
      split
      · simp only [callEnd, List.map_cons]
        rw [if_neg (by simp), r1, if_pos ((valB_div p1).2 g)]
        split <;> rfl
      · rfl
    refine l2call_head _ p0 [] (p1 :: r) rfl (by simp) h8 hp0 0 0 [] _ n0 (fun _ => b0) (fun q0 g0 => ?_)
    refine l2call_head _ p1 [p0] r rfl (by simp) h8 hp1 _ _ [] _ n1 (fun _ => b1) (fun q1 g1 => ?_)
    have h := l2call_tail r [p0, p1] (valB p0 % 4294967296) (valB p1 % 4294967296) [] (by simp only [List.length_cons, List.length_nil] at h8 ⊢; omega) (by simp) (by simp) (fun p h => hp p (List.mem_cons_of_mem _ (List.mem_cons_of_mem _ h)))
    have e : pieceE (p0 :: p1 :: r) = (if ∀ p ∈ r, okP p then (valB p0 % 4294967296, valB p1 % 4294967296, [] ++ r.map valB, true) else (0, 0, [], false)) := by
      unfold pieceE
      by_cases g : ∀ p ∈ r, okP p
      · rw [if_pos g, if_pos (by rw [List.forall_mem_cons, List.forall_mem_cons]; exact ⟨q0, q1, g⟩)]
        simp only [callEnd, List.map_cons]
        rw [if_neg (by simp), r0, r1, if_neg (fun h => g0 ((valB_div p0).1 h)), if_neg (fun h => g1 ((valB_div p1).1 h))]
        rfl
      · rw [if_neg g, if_neg (fun h => g fun p hp => h p (List.mem_cons_of_mem _ (List.mem_cons_of_mem _ hp)))]
    rw [e]
    exact h
theorem l2call_ev (b : List Int) (hl : b.length ≤ 1000000) (hb : ∀ x ∈ b, 0 ≤ x ∧ x < 256) : Ev (fun k => spec_l2call.f k b) (callD b) := by
  have hcut := l2cut_ev b hl
  have hmem := cutP_mem b [] hb (by simp)
  refine Ev.congr (f := fun k => (spec_l2cut.f k b).bind fun bt => if bt.2 = true then spec_l2call.j0 k bt.1 ((bt.1.length : Int) != 8) else spec_l2call.j0 k bt.1 true) (fun k => rfl) (Ev.bind hcut ?_)
  rw [callD_is b hb]
  by_cases c : (cutP [] b).2 = true
  · refine Ev.congr (f := fun k => spec_l2call.j0 k (cutP [] b).1 (((cutP [] b).1.length : Int) != 8)) (fun k => by rw [if_pos c]) ?_
    by_cases h8 : (cutP [] b).1.length = 8
    · rw [if_pos ⟨c, h8⟩]
      refine ev_step _ (fun k => ?_) (l2call_loop _ h8 fun p hp => ⟨?_, hmem p hp⟩)
      · simp only [spec_l2call.j0]
        rw [if_neg (by rw [h8]; decide)]
      · exact Nat.le_trans (cutP_piece b [] p hp) (by rw [List.length_nil]; omega)
    · rw [if_neg (fun h => h8 h.2)]
      refine ev_end fun k => ?_
      simp only [spec_l2call.j0]
      rw [if_pos (by rw [bne_iff_ne]; omega)]
  · refine Ev.congr (f := fun k => spec_l2call.j0 k (cutP [] b).1 true) (fun k => by rw [if_neg c]) ?_
    rw [if_neg (fun h => c h.1)]
    exact ev_end fun k => by simp only [spec_l2call.j0, if_true]
end Go.Proofs.YtjpjfkmnfppgkaaDoor.P

namespace Go.Proofs.YtjpjfkmnfppgkaaDoor.P
open Go.RowKit Go.Proofs.YtjpjfkmnfppgkaaDoorW.PrintWords Go.Proofs.YtjpjfkmnfppgkaaDoorW.PrintLast Go.Proofs.YtjpjfkmnfppgkaaDoorW.PrintMore
set_option linter.unusedVariables false
set_option linter.unusedSimpArgs false
/-! Bytes put together. -/
theorem or2_nat (b0 b1 : Nat) (h0 : b0 < 256) : b0 ||| b1 * 256 = b0 + 256 * b1 := by
  have : 256 * b1 + b0 = 256 * b1 ||| b0 := Nat.two_pow_add_eq_or_of_lt (i := 8) h0 b1
  rw [Nat.or_comm, Nat.mul_comm]
  omega
end Go.Proofs.YtjpjfkmnfppgkaaDoor.P

namespace Go.Proofs.YtjpjfkmnfppgkaaDoor.P
open Go.RowKit Go.Proofs.YtjpjfkmnfppgkaaDoorW.PrintWords Go.Proofs.YtjpjfkmnfppgkaaDoorW.PrintLast Go.Proofs.YtjpjfkmnfppgkaaDoorW.PrintMore
attribute [local go_sem] max2_int min2_int max_two min_two max_three min_three max_four min_four   -- for this text's walks alone
set_option linter.unusedVariables false
set_option linter.unusedSimpArgs false

/-! ### spec_l1number: function 30 -/
def spec_l1number.l0 : Nat → List Int → Int → Int → Option (Int)
  | 0, _, _, _ => none
  | k + 1, x0, x3, x4 => if x4 ≥ 0 then (if 0 ≤ x4 then (if x4 < (x0.length : Int) then (spec_l1number.l0 k x0 (IntKind.u64.wrap ((IntKind.u64.wrap (x3 * 256)) + (IntKind.u64.wrap (rd x0 x4)))) (wrap64 (x4 - 1))) else (none)) else (none)) else (some x3)
def spec_l1number.f (k : Nat) (l0 : List Int) : Option (Int) := spec_l1number.l0 k l0 0 (wrap64 ((l0.length : Int) - 1))
set_option maxHeartbeats 8000000 in
set_option maxRecDepth 100000 in
theorem spec_l1number.calls (k : Nat) (A0 : Option Addr) (c0 : Nat) (l0 : List Int) (r : Int) (w : World) (hr0 : Kd.C (Kd.int .u8) w A0 l0.length l0) (hc0 : l0.length ≤ c0) (h : spec_l1number.f k l0 = some r) :
    Calls Tryd.prog 30 #[.slice A0 l0.length c0] w fun e w' => e = .returned (.int .u64 r) ∧ Drawn0 w w' := by
  have HR0 := Aside0.mk hr0
  have HC0 := Aside0.mk hc0
  clear hr0 hc0
  have H : (spec_l1number.l0 k l0 0 (wrap64 ((l0.length : Int) - 1))) = some r := h
  clear h
  have H' := Aside0.mk H
  clear H
  go_enter Tryd.func30, Tryd.ntmps30
  go_wp2
  go_loopg [3, 4] k (fun kq v3 v4 w' => ∃ (x3_1 : Int) (x4_1 : Int), v3 = .int .u64 x3_1 ∧ v4 = .int .i64 x4_1 ∧ Aside0 (spec_l1number.l0 kq l0 x3_1 x4_1 = some r) ∧ Aside0 (kq ≤ k) ∧ Drawn0 w w')
  case atStart => exact ⟨(0), (wrap64 ((l0.length : Int) - 1)), (by first | rfl | (simp; done) | (simp [*]; done)), (by first | rfl | (simp; done) | (simp [*]; done)), H', ⟨Nat.le_refl _⟩, by repeat (first | exact Drawn0.refl _ | apply Drawn0.step)⟩
  case round =>
    clear H'
    obtain ⟨x3_1, x4_1, rfl, rfl, HA, HK1, ⟨m1, rfl⟩⟩ := hrel
    cases gk with
    | zero => exact absurd HA.out (by simp [spec_l1number.l0])
    | succ k1 =>
      have H := HA.out
      clear HA
      simp only [spec_l1number.l0] at H
      by_cases c2 : x4_1 ≥ 0
      · rw [if_pos c2] at H
        have c2b0 : decide (0 ≤ x4_1) = true := decide_eq_true c2
        clear c2
        by_cases c3 : 0 ≤ x4_1
        · rw [if_pos c3] at H
          have c3b0 : decide (0 ≤ x4_1) = true := decide_eq_true c3
          clear c3
          by_cases c4 : x4_1 < (l0.length : Int)
          · rw [if_pos c4] at H
            have c4b0 : decide (x4_1 < (l0.length : Int)) = true := decide_eq_true c4
            clear c4
            have H' := Aside0.mk H
            clear H
            have p283 : 0 ≤ (x4_1 : Int) := of_decide_eq_true (by first | (with_reducible assumption) | assumption)
            have q283 : x4_1 < (l0.length : Int) := of_decide_eq_true (by first | (with_reducible assumption) | assumption)
            obtain ⟨ad283, e283, hx283_0⟩ := Kd.at_int HR0.out x4_1 p283 q283
            cases e283
            replace p283 := eq_true p283
            replace q283 := eq_true q283
            go_wp2
            go_roundg k1
            case measure => have := HK1.out; omega
            case rel => exact ⟨(IntKind.u64.wrap ((IntKind.u64.wrap (x3_1 * 256)) + (IntKind.u64.wrap (rd l0 x4_1)))), (wrap64 (x4_1 - 1)), (by first | rfl | (simp; done) | (simp [*]; done)), (by first | rfl | (simp; done) | (simp [*]; done)), H', ⟨by have := HK1.out; omega⟩, by repeat (first | exact Drawn0.refl _ | apply Drawn0.step)⟩
          · rw [if_neg c4] at H
            exact absurd H (by simp)
        · rw [if_neg c3] at H
          exact absurd H (by simp)
      · rw [if_neg c2] at H
        have c2b0 : decide (0 ≤ x4_1) = false := decide_eq_false c2
        clear c2
        obtain rfl := Option.some.inj H
        go_wp2
        go_ret
        exact ⟨by first | rfl | (simp; done) | (simp [*]; done), by repeat (first | exact Drawn0.refl _ | apply Drawn0.step)⟩

end Go.Proofs.YtjpjfkmnfppgkaaDoor.P

namespace Go.Proofs.YtjpjfkmnfppgkaaDoor.P
open Go.RowKit Go.Proofs.YtjpjfkmnfppgkaaDoorW.PrintWords Go.Proofs.YtjpjfkmnfppgkaaDoorW.PrintLast Go.Proofs.YtjpjfkmnfppgkaaDoorW.PrintMore
set_option linter.unusedVariables false
set_option linter.unusedSimpArgs false
/-! A number of two bytes. -/
theorem number_step2 (k : Nat) (l : List Int) (v : Int) (i : Nat) (h : i < l.length) (hl : l.length ≤ 1000000) : spec_l1number.l0 (k + 1) l v (i : Int) = spec_l1number.l0 k l (IntKind.u64.wrap (IntKind.u64.wrap (v * 256) + IntKind.u64.wrap l[i])) ((i : Int) - 1) := by
  rw [spec_l1number.l0, if_pos (by omega), if_pos (by omega), if_pos (by omega), rd_eq l i h, wrap64_id (by omega) (by omega)]
theorem l1number2_ev (b0 b1 : Int) (h0 : 0 ≤ b0 ∧ b0 < 256) (h1 : 0 ≤ b1 ∧ b1 < 256) : Ev (fun k => spec_l1number.f k [b0, b1]) (b0 + 256 * b1) := by
  refine ev_mk 3 fun k hk => ?_
  obtain ⟨m, rfl⟩ : ∃ m, k = m + 3 := ⟨k - 3, by omega⟩
  unfold spec_l1number.f
  have e : wrap64 ((([b0, b1] : List Int).length : Int) - 1) = ((1 : Nat) : Int) := by show wrap64 ((2 : Int) - 1) = 1; rw [wrap64_id (by omega) (by omega)]; rfl
  rw [e, number_step2 (m + 2) [b0, b1] 0 1 (by simp) (by simp)]
  rw [show ((1 : Nat) : Int) - 1 = ((0 : Nat) : Int) from rfl, number_step2 (m + 1) [b0, b1] _ 0 (by simp) (by simp), show ((0 : Nat) : Int) - 1 = -1 from rfl, spec_l1number.l0, if_neg (by decide)]
  simp only [List.getElem_cons_zero, List.getElem_cons_succ]
  rw [wrap_u64_id (x := (0 : Int) * 256) (by decide) (by decide), wrap_u64_id (x := b1) (by omega) (by omega), wrap_u64_id (x := b0) (by omega) (by omega), wrap_u64_id (x := 0 * 256 + b1) (by omega) (by omega), wrap_u64_id (x := (0 * 256 + b1) * 256) (by omega) (by omega), wrap_u64_id (by omega) (by omega)]
  congr 1
  omega
theorem i64_of2 (x0 x1 : Int) (h0 : 0 ≤ x0 ∧ x0 < 256) (h1 : 0 ≤ x1 ∧ x1 < 256) : bits .or .i64 (wrap64 x0) (wrap64 (wrap64 x1 * 256)) = x0 + 256 * x1 := by
  obtain ⟨b0, rfl⟩ := Int.eq_ofNat_of_zero_le h0.1
  obtain ⟨b1, rfl⟩ := Int.eq_ofNat_of_zero_le h1.1
  rw [wrap64_id (i := (b0 : Int)) (by omega) (by omega), wrap64_id (i := (b1 : Int)) (by omega) (by omega), wrap64_id (by omega) (by omega), show (b1 : Int) * 256 = ((b1 * 256 : Nat) : Int) by omega]
  have hb : ∀ z : Nat, z < 65536 → z < 2 ^ IntKind.i64.bits := fun z h => Nat.lt_trans h (by decide)
  have ho := or2_nat b0 b1 (by omega)
  simp only [bits, BitVec.ofInt_natCast, BitVec.toNat_or, BitVec.toNat_ofNat, Nat.mod_eq_of_lt (hb b0 (by omega)), Nat.mod_eq_of_lt (hb (b1 * 256) (by omega)), ho]
  have hlt : b0 + 256 * b1 < 65536 := by omega
  generalize b0 + 256 * b1 = c at ho hlt
  have e : (b0 : Int) + 256 * (b1 : Int) = ((b0 ||| b1 * 256 : Nat) : Int) := by rw [or2_nat b0 b1 (by omega)]; omega
  rw [e, ho]
  simp only [IntKind.wrap, IntKind.bits, IntKind.signed]
  simp
  omega
end Go.Proofs.YtjpjfkmnfppgkaaDoor.P

namespace Go.Proofs.YtjpjfkmnfppgkaaDoor.P
open Go.RowKit Go.Proofs.YtjpjfkmnfppgkaaDoorW.PrintWords Go.Proofs.YtjpjfkmnfppgkaaDoorW.PrintLast Go.Proofs.YtjpjfkmnfppgkaaDoorW.PrintMore
attribute [local go_sem] max2_int min2_int max_two min_two max_three min_three max_four min_four   -- for this text's walks alone
set_option linter.unusedVariables false
set_option linter.unusedSimpArgs false

/-! ### slices_Equal_byte_byte: function 62 -/
def slices_Equal_byte_byte.l0 : Nat → List Int → List Int → Int → Int → Option (Bool)
  | 0, _, _, _, _ => none
  | k + 1, x0, x1, x12, x13 => if x13 < x12 then (if 0 ≤ x13 then (if x13 < (x0.length : Int) then (if x13 < (x1.length : Int) then (if (rd x0 x13) = (rd x1 x13) then (slices_Equal_byte_byte.l0 k x0 x1 x12 (wrap64 (x13 + 1))) else (some false)) else (none)) else (none)) else (none)) else (some true)
def slices_Equal_byte_byte.f (k : Nat) (l0 : List Int) (l1 : List Int) : Option (Bool) := if (l0.length : Int) = (l1.length : Int) then (slices_Equal_byte_byte.l0 k l0 l1 (l0.length : Int) 0) else (some false)
set_option maxHeartbeats 8000000 in
set_option maxRecDepth 100000 in
theorem slices_Equal_byte_byte.calls (k : Nat) (A0 : Option Addr) (c0 : Nat) (l0 : List Int) (A1 : Option Addr) (c1 : Nat) (l1 : List Int) (r : Bool) (w : World) (hr0 : Kd.C (Kd.int .u8) w A0 l0.length l0) (hc0 : l0.length ≤ c0) (hr1 : Kd.C (Kd.int .u8) w A1 l1.length l1) (hc1 : l1.length ≤ c1) (h : slices_Equal_byte_byte.f k l0 l1 = some r) :
    Calls Tryd.prog 62 #[.slice A0 l0.length c0, .slice A1 l1.length c1] w fun e w' => e = .returned (.bool r) ∧ Drawn0 w w' := by
  have HR0 := Aside0.mk hr0
  have HC0 := Aside0.mk hc0
  clear hr0 hc0
  have HR1 := Aside0.mk hr1
  have HC1 := Aside0.mk hc1
  clear hr1 hc1
  have H : (if (l0.length : Int) = (l1.length : Int) then (slices_Equal_byte_byte.l0 k l0 l1 (l0.length : Int) 0) else (some false)) = some r := h
  clear h
  by_cases c3 : (l0.length : Int) = (l1.length : Int)
  · rw [if_pos c3] at H
    have c3b0 : ((l0.length : Int) == (l1.length : Int)) = true := beq_iff_eq.mpr c3
    have c3b1 : ((l0.length : Int) != (l1.length : Int)) = false := bne_eq_false_iff_eq.mpr c3
    have c3b2 : (l0.length == l1.length) = true := by first | simpa using c3 | (simp at c3 ⊢; omega)
    clear c3
    have H' := Aside0.mk H
    clear H
    go_enter Tryd.func62, Tryd.ntmps62
    go_wp2
    repeat (go_quiet (fail); try go_wp2)
    go_loopg [13] k (fun kq v13 w' => ∃ (x13_1 : Int), v13 = .int .i64 x13_1 ∧ Aside0 (slices_Equal_byte_byte.l0 kq l0 l1 (l0.length : Int) x13_1 = some r) ∧ Aside0 (kq ≤ k) ∧ Drawn0 w w')
    case atStart => exact ⟨(0), (by first | rfl | (simp; done) | (simp [*]; done)), H', ⟨Nat.le_refl _⟩, by repeat (first | exact Drawn0.refl _ | apply Drawn0.step)⟩
    case round =>
      clear H'
      try clear c1
      try clear p2
      try clear c3
      try clear c3b0
      try clear c3b1
      try clear c3b2
      obtain ⟨x13_1, rfl, HA, HK1, ⟨m1, rfl⟩⟩ := hrel
      cases gk with
      | zero => exact absurd HA.out (by simp [slices_Equal_byte_byte.l0])
      | succ k1 =>
        have H := HA.out
        clear HA
        simp only [slices_Equal_byte_byte.l0] at H
        by_cases c4 : x13_1 < (l0.length : Int)
        · rw [if_pos c4] at H
          have c4b0 : decide (x13_1 < (l0.length : Int)) = true := decide_eq_true c4
          clear c4
          by_cases c5 : 0 ≤ x13_1
          · rw [if_pos c5] at H
            have c5b0 : decide (0 ≤ x13_1) = true := decide_eq_true c5
            clear c5
            by_cases c6 : x13_1 < (l0.length : Int)
            · rw [if_pos c6] at H
              have c6b0 : decide (x13_1 < (l0.length : Int)) = true := decide_eq_true c6
              clear c6
              by_cases c7 : x13_1 < (l1.length : Int)
              · rw [if_pos c7] at H
                have c7b0 : decide (x13_1 < (l1.length : Int)) = true := decide_eq_true c7
                clear c7
                by_cases c8 : (rd l0 x13_1) = (rd l1 x13_1)
                · rw [if_pos c8] at H
                  have c8b0 : ((rd l0 x13_1) == (rd l1 x13_1)) = true := beq_iff_eq.mpr c8
                  have c8b1 : ((rd l0 x13_1) != (rd l1 x13_1)) = false := bne_eq_false_iff_eq.mpr c8
                  clear c8
                  have H' := Aside0.mk H
                  clear H
                  have p271 : 0 ≤ (x13_1 : Int) := of_decide_eq_true (by first | (with_reducible assumption) | assumption)
                  have q271 : x13_1 < (l0.length : Int) := of_decide_eq_true (by first | (with_reducible assumption) | assumption)
                  obtain ⟨ad271, e271, hx271_0⟩ := Kd.at_int HR0.out x13_1 p271 q271
                  cases e271
                  replace p271 := eq_true p271
                  replace q271 := eq_true q271
                  have p272 : 0 ≤ (x13_1 : Int) := of_decide_eq_true (by first | (with_reducible assumption) | assumption)
                  have q272 : x13_1 < (l1.length : Int) := of_decide_eq_true (by first | (with_reducible assumption) | assumption)
                  obtain ⟨ad272, e272, hx272_0⟩ := Kd.at_int HR1.out x13_1 p272 q272
                  cases e272
                  replace p272 := eq_true p272
                  replace q272 := eq_true q272
                  go_wp2
                  repeat (go_quiet (fail); try go_wp2)
                  go_roundg k1
                  case measure => have := HK1.out; omega
                  case rel => exact ⟨(wrap64 (x13_1 + 1)), (by first | rfl | (simp; done) | (simp [*]; done)), H', ⟨by have := HK1.out; omega⟩, by repeat (first | exact Drawn0.refl _ | apply Drawn0.step)⟩
                · rw [if_neg c8] at H
                  have c8b0 : ((rd l0 x13_1) == (rd l1 x13_1)) = false := beq_eq_false_iff_ne.mpr c8
                  have c8b1 : ((rd l0 x13_1) != (rd l1 x13_1)) = true := bne_iff_ne.mpr c8
                  obtain rfl := Option.some.inj H
                  have p271 : 0 ≤ (x13_1 : Int) := of_decide_eq_true (by first | (with_reducible assumption) | assumption)
                  have q271 : x13_1 < (l0.length : Int) := of_decide_eq_true (by first | (with_reducible assumption) | assumption)
                  obtain ⟨ad271, e271, hx271_0⟩ := Kd.at_int HR0.out x13_1 p271 q271
                  cases e271
                  replace p271 := eq_true p271
                  replace q271 := eq_true q271
                  have p272 : 0 ≤ (x13_1 : Int) := of_decide_eq_true (by first | (with_reducible assumption) | assumption)
                  have q272 : x13_1 < (l1.length : Int) := of_decide_eq_true (by first | (with_reducible assumption) | assumption)
                  obtain ⟨ad272, e272, hx272_0⟩ := Kd.at_int HR1.out x13_1 p272 q272
                  cases e272
                  replace p272 := eq_true p272
                  replace q272 := eq_true q272
                  go_wp2
                  repeat (go_quiet (fail); try go_wp2)
                  go_ret
                  exact ⟨by first | rfl | (simp; done) | (simp [*]; done), by repeat (first | exact Drawn0.refl _ | apply Drawn0.step)⟩
              · rw [if_neg c7] at H
                exact absurd H (by simp)
            · rw [if_neg c6] at H
              exact absurd H (by simp)
          · rw [if_neg c5] at H
            exact absurd H (by simp)
        · rw [if_neg c4] at H
          have c4b0 : decide (x13_1 < (l0.length : Int)) = false := decide_eq_false c4
          clear c4
          obtain rfl := Option.some.inj H
          go_wp2
          repeat (go_quiet (fail); try go_wp2)
          go_ret
          exact ⟨by first | rfl | (simp; done) | (simp [*]; done), by repeat (first | exact Drawn0.refl _ | apply Drawn0.step)⟩
  · rw [if_neg c3] at H
    have c3b0 : ((l0.length : Int) == (l1.length : Int)) = false := beq_eq_false_iff_ne.mpr c3
    have c3b1 : ((l0.length : Int) != (l1.length : Int)) = true := bne_iff_ne.mpr c3
    have c3b2 : (l0.length == l1.length) = false := by first | simpa using c3 | (simp at c3 ⊢; omega)
    obtain rfl := Option.some.inj H
    go_enter Tryd.func62, Tryd.ntmps62
    go_wp2
    repeat (go_quiet (fail); try go_wp2)
    go_ret
    exact ⟨by first | rfl | (simp; done) | (simp [*]; done), by repeat (first | exact Drawn0.refl _ | apply Drawn0.step)⟩

end Go.Proofs.YtjpjfkmnfppgkaaDoor.P
