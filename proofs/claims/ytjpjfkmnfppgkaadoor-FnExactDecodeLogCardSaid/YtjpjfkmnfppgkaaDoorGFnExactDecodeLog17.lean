import Derived.Test.YtjpjfkmnfppgkaaDoorGFnExactDecodeLog5
import Derived.Test.YtjpjfkmnfppgkaaDoorGFnExactDecodeLog15
import Derived.Test.YtjpjfkmnfppgkaaDoorGFnExactDecodeLog7
import Derived.Test.YtjpjfkmnfppgkaaDoorGFnExactDecodeLog16
namespace Go.Proofs.YtjpjfkmnfppgkaaDoor.P
open Go.RowKit Go.Proofs.YtjpjfkmnfppgkaaDoorW.PrintWords Go.Proofs.YtjpjfkmnfppgkaaDoorW.PrintLast Go.Proofs.YtjpjfkmnfppgkaaDoorW.PrintMore
attribute [local go_sem] max2_int min2_int max_two min_two max_three min_three max_four min_four   -- for this text's walks alone
set_option linter.unusedVariables false
set_option linter.unusedSimpArgs false

def laws_markCallS.l0 : Nat → List (S28) → Int → Int → Option (Int × List (S28))
  | 0, _, _, _ => none
  | k + 1, x0, x1, x5 => if x5 < (x0.length : Int) then (if 0 ≤ x5 then ((laws_markUint64S.f k (rd_T28 x0 x5).f2 (wrap64 (wrap64 (x1 + 1) + 1))).bind fun bt => laws_markCallS.l0 k (x0.set (x5 : Int).toNat (⟨x1 % 4294967296, wrap64 (x1 + 1) % 4294967296, bt.2⟩ : S28)) bt.1 (wrap64 (x5 + 1))) else (none)) else (some (x1, x0))
def laws_markCallS.f (k : Nat) (l0 : List (S28)) (a1 : Int) : Option (Int × List (S28)) := laws_markCallS.l0 k l0 a1 0
end Go.Proofs.YtjpjfkmnfppgkaaDoor.P

namespace Go.Proofs.YtjpjfkmnfppgkaaDoor.P
open Go.RowKit Go.Proofs.YtjpjfkmnfppgkaaDoorW.PrintWords Go.Proofs.YtjpjfkmnfppgkaaDoorW.PrintLast Go.Proofs.YtjpjfkmnfppgkaaDoorW.PrintMore
set_option linter.unusedVariables false
set_option linter.unusedSimpArgs false
theorem eqCall_ev (a n : Int) (l : List Int) (hl : l.length ≤ 35184372088832) : Ev (fun k => laws_eqCall.f k a n l a n l) true := by
  obtain ⟨K, h⟩ := ev_get (eqUint64S_ev l l hl true (by simp))
  exact ev_mk K fun k hk => by unfold laws_eqCall.f; rw [if_pos rfl, if_pos rfl, h k hk, Option.bind_some, if_pos rfl]
theorem rdCallI_eq (l : List S28) (i : Nat) (h : i < l.length) : rd_T28 l (i : Int) = l[i] := by
  simp [rd_T28, List.getD_eq_getElem?_getD, List.getElem?_eq_getElem h]
def costI : List S28 → Nat
  | [] => 0
  | c :: l => c.f2.length + costI l
theorem eqCallS_ev (a : List S28) (hl : a.length ≤ 1048576) (hm : ∀ c ∈ a, c.f2.length ≤ 1048576) : Ev (fun k => laws_eqCallS.f k a a) true := by
  have key := ev_loop (fun k (s : Unit) i => laws_eqCallS.l0 k a a i) a.length (fun _ => ()) () () rfl rfl (fun i hi r hr => by
    have hml := hm _ (List.getElem_mem hi)
    refine ev_step (fun k => (laws_eqCall.f k a[i].f0 a[i].f1 a[i].f2 a[i].f0 a[i].f1 a[i].f2).bind fun t => if t = true then laws_eqCallS.l0 k a a ((i + 1 : Nat) : Int) else some false) (fun k => ?_) (Ev.bind (eqCall_ev a[i].f0 a[i].f1 a[i].f2 (by omega)) (Ev.congr (fun k => ?_) hr))
    · simp only [laws_eqCallS.l0]
      rw [if_pos (by omega), if_pos (by omega), if_pos (by omega), rdCallI_eq a i hi, wrap64_id (by omega) (by omega)]
      rfl
    · rw [if_pos rfl]) true (ev_end fun k => by simp only [laws_eqCallS.l0]; rw [if_neg (by omega)])
  refine Ev.congr (fun k => ?_) key
  unfold laws_eqCallS.f
  rw [if_pos rfl]
end Go.Proofs.YtjpjfkmnfppgkaaDoor.P

namespace Go.Proofs.YtjpjfkmnfppgkaaDoor.P
open Go.RowKit Go.Proofs.YtjpjfkmnfppgkaaDoorW.PrintWords Go.Proofs.YtjpjfkmnfppgkaaDoorW.PrintLast Go.Proofs.YtjpjfkmnfppgkaaDoorW.PrintMore
set_option linter.unusedVariables false
set_option linter.unusedSimpArgs false
/-! The reference's decoder, and the costs of what it gives. -/
def clog : ByteArray := ⟨#[67, 76, 79, 71]⟩
theorem clog_step (l : List Int) (i : Nat) (c : Int) (hi : i < 4) (h7 : 7 ≤ l.length) (hc : bt clog (i : Int) = c) (r : List S28 × Int × Int) (hno : rd l (i : Int) ≠ c → r = ([], 2, (i : Int))) (hgo : rd l (i : Int) = c → Ev (fun k => spec_DecodeLog.l0 k l (l.length : Int) clog ((i + 1 : Nat) : Int)) r) : Ev (fun k => spec_DecodeLog.l0 k l (l.length : Int) clog (i : Int)) r := by
  have hs : (clog.size : Int) = 4 := rfl
  have wi : wrap64 ((i : Int) + 1) = ((i + 1 : Nat) : Int) := by rw [wrap64_id (by omega) (by omega)]; omega
  have q1 : (i : Int) < 4 := by omega
  have q2 : (0 : Int) ≤ (i : Int) := by omega
  have q3 : (i : Int) < (l.length : Int) := by omega
  by_cases e : rd l (i : Int) = c
  · refine ev_step _ (fun k => ?_) (hgo e)
    simp only [spec_DecodeLog.l0]
    rw [hs, if_pos q1, if_pos q2, if_pos q3, if_pos q1, hc, if_pos e, wi]
  · rw [hno e]
    refine ev_end fun k => ?_
    simp only [spec_DecodeLog.l0]
    rw [hs, if_pos q1, if_pos q2, if_pos q3, if_pos q1, hc, if_neg e]
theorem take7 (l : List Int) (h7 : 7 ≤ l.length) : (l.take 7).drop 5 = [rd l 5, rd l 6] := by
  match l, h7 with
  | a :: b :: c :: d :: e :: f :: g :: r, _ => rfl
theorem specDecodeLog_ev (l : List Int) (hl : l.length ≤ 1048576) (hb : ∀ x ∈ l, 0 ≤ x ∧ x < 256) : Ev (fun k => spec_DecodeLog.f k l) (decR (allD l)) := by
  unfold spec_DecodeLog.f allD headD
  by_cases c : l.length < 7
  · rw [if_pos c]
    exact ev_is fun k => by rw [if_pos (by omega)]; rfl
  · have h7 : 7 ≤ l.length := by omega
    have hc : ¬ (l.length : Int) < 7 := by omega
    rw [if_neg c]
    refine Ev.congr (f := fun k => spec_DecodeLog.l0 k l (l.length : Int) clog ((0 : Nat) : Int)) (fun k => by rw [if_neg hc]; rfl) ?_
    refine clog_step l 0 67 (by decide) h7 rfl _ (fun e => by rw [if_pos (show rd l 0 ≠ 67 from e)]; rfl) (fun e0 => ?_)
    rw [if_neg (show ¬ rd l 0 ≠ 67 from fun h => h e0)]
    refine clog_step l 1 76 (by decide) h7 rfl _ (fun e => by rw [if_pos (show rd l 1 ≠ 76 from e)]; rfl) (fun e1 => ?_)
    rw [if_neg (show ¬ rd l 1 ≠ 76 from fun h => h e1)]
    refine clog_step l 2 79 (by decide) h7 rfl _ (fun e => by rw [if_pos (show rd l 2 ≠ 79 from e)]; rfl) (fun e2 => ?_)
    rw [if_neg (show ¬ rd l 2 ≠ 79 from fun h => h e2)]
    refine clog_step l 3 71 (by decide) h7 rfl _ (fun e => by rw [if_pos (show rd l 3 ≠ 71 from e)]; rfl) (fun e3 => ?_)
    rw [if_neg (show ¬ rd l 3 ≠ 71 from fun h => h e3)]
    have q0 : ¬ (((3 + 1 : Nat) : Int) < 4) := by decide
    have q4 : (4 : Int) < (l.length : Int) := by omega
    have q7 : (7 : Int) ≤ (l.length : Int) := by omega
    by_cases c4 : rd l 4 = 1
    · rw [if_neg (fun h => h c4)]
      have b5 : 0 ≤ rd l 5 ∧ rd l 5 < 256 := rd_byte l hb 5 (by omega)
      have b6 : 0 ≤ rd l 6 ∧ rd l 6 < 256 := rd_byte l hb 6 (by omega)
      have hn := l1number2_ev (rd l 5) (rd l 6) b5 b6
      have hw : wrap64 (rd l 5 + 256 * rd l 6) = rd l 5 + 256 * rd l 6 := wrap64_id (by omega) (by omega)
      refine ev_step (fun k => (spec_l1number.f k [rd l 5, rd l 6]).bind fun t => if wrap64 t > 1000 then some ([], 4, 5) else spec_DecodeLog.l1 k l (l.length : Int) (wrap64 t) [] 7 0) (fun k => ?_) (Ev.bind hn ?_)
      · simp only [spec_DecodeLog.l0]
        rw [if_neg q0, if_pos q4, if_pos c4, if_pos (by decide), if_pos q7, take7 l h7]
      · rw [hw]
        by_cases c5 : rd l 5 + 256 * rd l 6 > 1000
        · rw [if_pos c5]
          exact ev_is fun k => by rw [if_pos c5]; rfl
        · rw [if_neg c5]
          refine Ev.congr (f := fun k => spec_DecodeLog.l1 k l (l.length : Int) (rd l 5 + 256 * rd l 6) [] 7 0) (fun k => by rw [if_neg c5]) ?_
          obtain ⟨m, hm⟩ : ∃ m : Nat, rd l 5 + 256 * rd l 6 = (m : Int) := ⟨(rd l 5 + 256 * rd l 6).toNat, by clear hw hn; omega⟩
          have hm1 : m ≤ 1000 := by clear hw hn; omega
          rw [hm]
          exact specLog_key l hl h7 hb m hm1 m 0 7 [] (Nat.zero_add m) h7 (Nat.le_refl 0)
    · rw [if_pos (fun h => c4 h)]
      refine ev_end fun k => ?_
      simp only [spec_DecodeLog.l0]
      rw [if_neg q0, if_pos q4, if_neg c4]
      rfl
/-! What is decoded is small. -/
def small (c : S28) : Prop := c.f2.length ≤ 1000000
theorem cofG_len : ∀ (n : Nat) (all b a r : List Int), cofG n all b = some (a, r) → a.length = all.length + n
  | 0, all, b, a, r, h => by
    unfold cofG at h
    cases h
    rfl
  | n + 1, all, b, a, r, h => by
    unfold cofG at h
    split at h
    · have := cofG_len n _ _ a r h
      rw [List.length_append, List.length_singleton] at this
      omega
    · cases h
theorem callD_len (b : List Int) : (callD b).2.2.1.length ≤ 6 := by
  unfold callD
  cases h : cofG 8 [] b with
  | none => exact Nat.zero_le _
  | some t =>
    obtain ⟨a, r⟩ := t
    have := cofG_len 8 [] b a r h
    unfold callEnd
    dsimp only
    split
    · exact Nat.zero_le _
    · split
      · exact Nat.zero_le _
      · split
        · exact Nat.zero_le _
        · dsimp only
          rw [List.length_drop, this, List.length_nil]
          omega
theorem callAt_len (l : List Int) (o : Nat) (c : S28 × Nat) (h : callAt l o = .inr c) : c.1.f2.length ≤ 6 := by
  unfold callAt at h
  split at h
  · cases h
  · split at h
    · cases h
    · split at h
      · cases h
      · split at h
        · split at h
          · cases h
            exact callD_len _
          · cases h
        · cases h
theorem logD_len (l : List Int) : ∀ (n o : Nat) (cs r : List S28), logD l n o cs = .inr r → (∀ c ∈ cs, c.f2.length ≤ 6) → r.length = cs.length + n ∧ ∀ c ∈ r, c.f2.length ≤ 6
  | 0, o, cs, r, h, hc => by
    unfold logD at h
    split at h
    · cases h
    · cases h
      exact ⟨rfl, hc⟩
  | n + 1, o, cs, r, h, hc => by
    unfold logD at h
    cases e : callAt l o with
    | inl f => rw [e] at h; cases h
    | inr c =>
      rw [e] at h
      have ih := logD_len l n c.2 _ r h (fun x hx => by
        rcases List.mem_append.1 hx with g | g
        · exact hc x g
        · rw [List.mem_singleton] at g; subst g; exact callAt_len l o c e)
      rw [List.length_append, List.length_singleton] at ih
      exact ⟨by omega, ih.2⟩
theorem costI_le : ∀ (cs : List S28), (∀ c ∈ cs, c.f2.length ≤ 6) → costI cs ≤ 6 * cs.length
  | [], h => by simp [costI]
  | c :: r, h => by
    have h1 := h c (List.mem_cons_self ..)
    have h2 := costI_le r (fun x hx => h x (List.mem_cons_of_mem _ hx))
    rw [costI, List.length_cons]
    omega
theorem headD_small (l : List Int) (n : Int) (h : headD l = .inr n) : n ≤ 1000 := by
  unfold headD at h
  split at h
  · cases h
  · split at h
    · cases h
    · split at h
      · cases h
      · split at h
        · cases h
        · split at h
          · cases h
          · split at h
            · cases h
            · split at h
              · cases h
              · cases h
                omega
theorem allD_small (l : List Int) : (decR (allD l)).1.length ≤ 1000 ∧ ∀ c ∈ (decR (allD l)).1, c.f2.length ≤ 6 := by
  unfold allD
  cases hh : headD l with
  | inl f => exact ⟨Nat.zero_le _, fun c hc => by cases hc⟩
  | inr n =>
    have hn := headD_small l n hh
    dsimp only
    cases hg : logD l n.toNat 7 [] with
    | inl f => exact ⟨Nat.zero_le _, fun c hc => by cases hc⟩
    | inr r =>
      have := logD_len l n.toNat 7 [] r hg (fun c hc => by cases hc)
      rw [List.length_nil] at this
      refine ⟨?_, this.2⟩
      show r.length ≤ 1000
      omega
end Go.Proofs.YtjpjfkmnfppgkaaDoor.P

namespace Go.Proofs.YtjpjfkmnfppgkaaDoor.P
open Go.RowKit Go.Proofs.YtjpjfkmnfppgkaaDoorW.PrintWords Go.Proofs.YtjpjfkmnfppgkaaDoorW.PrintLast Go.Proofs.YtjpjfkmnfppgkaaDoorW.PrintMore
attribute [local go_sem] max2_int min2_int max_two min_two max_three min_three max_four min_four   -- for this text's walks alone
set_option linter.unusedVariables false
set_option linter.unusedSimpArgs false

/-! ### laws_heldUint64S: function 36 -/
def laws_heldUint64S.l0 : Nat → List Int → Int → Int → Option (Int)
  | 0, _, _, _ => none
  | k + 1, x0, x1, x5 => if x5 < (x0.length : Int) then (if 0 ≤ x5 then (if (rd x0 x5) = (IntKind.u64.wrap (x1)) then (laws_heldUint64S.l0 k x0 (wrap64 (x1 + 1)) (wrap64 (x5 + 1))) else (some (-1))) else (none)) else (some x1)
def laws_heldUint64S.f (k : Nat) (l0 : List Int) (a1 : Int) : Option (Int) := laws_heldUint64S.l0 k l0 a1 0
set_option maxHeartbeats 8000000 in
set_option maxRecDepth 100000 in
theorem laws_heldUint64S.calls (k : Nat) (A0 : Option Addr) (c0 : Nat) (l0 : List Int) (a1 : Int) (r : Int) (w : World) (hr0 : Kd.C (Kd.int .u64) w A0 l0.length l0) (hc0 : l0.length ≤ c0) (h : laws_heldUint64S.f k l0 a1 = some r) :
    Calls Tryd.prog 36 #[.slice A0 l0.length c0, .int .i64 a1] w fun e w' => e = .returned (.int .i64 r) ∧ Drawn0 w w' := by
  have HR0 := Aside0.mk hr0
  have HC0 := Aside0.mk hc0
  clear hr0 hc0
  have H : (laws_heldUint64S.l0 k l0 a1 0) = some r := h
  clear h
  have H' := Aside0.mk H
  clear H
  go_enter Tryd.func36, Tryd.ntmps36
  go_wp2
  go_loopg [1, 5] k (fun kq v1 v5 w' => ∃ (x1_1 : Int) (x5_1 : Int), v1 = .int .i64 x1_1 ∧ v5 = .int .i64 x5_1 ∧ Aside0 (laws_heldUint64S.l0 kq l0 x1_1 x5_1 = some r) ∧ Aside0 (kq ≤ k) ∧ Drawn0 w w')
  case atStart => exact ⟨(a1), (0), (by first | rfl | (simp; done) | (simp [*]; done)), (by first | rfl | (simp; done) | (simp [*]; done)), H', ⟨Nat.le_refl _⟩, by repeat (first | exact Drawn0.refl _ | apply Drawn0.step)⟩
  case round =>
    clear H'
    try clear p2
    obtain ⟨x1_1, x5_1, rfl, rfl, HA, HK1, ⟨m1, rfl⟩⟩ := hrel
    cases gk with
    | zero => exact absurd HA.out (by simp [laws_heldUint64S.l0])
    | succ k1 =>
      have H := HA.out
      clear HA
      simp only [laws_heldUint64S.l0] at H
      by_cases c3 : x5_1 < (l0.length : Int)
      · rw [if_pos c3] at H
        have c3b0 : decide (x5_1 < (l0.length : Int)) = true := decide_eq_true c3
        clear c3
        by_cases c4 : 0 ≤ x5_1
        · rw [if_pos c4] at H
          have c4b0 : decide (0 ≤ x5_1) = true := decide_eq_true c4
          clear c4
          by_cases c5 : (rd l0 x5_1) = (IntKind.u64.wrap (x1_1))
          · rw [if_pos c5] at H
            have c5b0 : ((rd l0 x5_1) == (IntKind.u64.wrap (x1_1))) = true := beq_iff_eq.mpr c5
            have c5b1 : ((rd l0 x5_1) != (IntKind.u64.wrap (x1_1))) = false := bne_eq_false_iff_eq.mpr c5
            clear c5
            have H' := Aside0.mk H
            clear H
            have p363 : 0 ≤ (x5_1 : Int) := of_decide_eq_true (by first | (with_reducible assumption) | assumption)
            have q363 : x5_1 < (l0.length : Int) := of_decide_eq_true (by first | (with_reducible assumption) | assumption)
            obtain ⟨ad363, e363, hx363_0⟩ := Kd.at_int HR0.out x5_1 p363 q363
            cases e363
            replace p363 := eq_true p363
            replace q363 := eq_true q363
            go_wp2
            go_roundg k1
            case measure => have := HK1.out; omega
            case rel => exact ⟨(wrap64 (x1_1 + 1)), (wrap64 (x5_1 + 1)), (by first | rfl | (simp; done) | (simp [*]; done)), (by first | rfl | (simp; done) | (simp [*]; done)), H', ⟨by have := HK1.out; omega⟩, by repeat (first | exact Drawn0.refl _ | apply Drawn0.step)⟩
          · rw [if_neg c5] at H
            have c5b0 : ((rd l0 x5_1) == (IntKind.u64.wrap (x1_1))) = false := beq_eq_false_iff_ne.mpr c5
            have c5b1 : ((rd l0 x5_1) != (IntKind.u64.wrap (x1_1))) = true := bne_iff_ne.mpr c5
            obtain rfl := Option.some.inj H
            have p363 : 0 ≤ (x5_1 : Int) := of_decide_eq_true (by first | (with_reducible assumption) | assumption)
            have q363 : x5_1 < (l0.length : Int) := of_decide_eq_true (by first | (with_reducible assumption) | assumption)
            obtain ⟨ad363, e363, hx363_0⟩ := Kd.at_int HR0.out x5_1 p363 q363
            cases e363
            replace p363 := eq_true p363
            replace q363 := eq_true q363
            go_wp2
            go_ret
            exact ⟨by first | rfl | (simp; done) | (simp [*]; done), by repeat (first | exact Drawn0.refl _ | apply Drawn0.step)⟩
        · rw [if_neg c4] at H
          exact absurd H (by simp)
      · rw [if_neg c3] at H
        have c3b0 : decide (x5_1 < (l0.length : Int)) = false := decide_eq_false c3
        clear c3
        obtain rfl := Option.some.inj H
        go_wp2
        go_ret
        exact ⟨by first | rfl | (simp; done) | (simp [*]; done), by repeat (first | exact Drawn0.refl _ | apply Drawn0.step)⟩

end Go.Proofs.YtjpjfkmnfppgkaaDoor.P

namespace Go.Proofs.YtjpjfkmnfppgkaaDoor.P
open Go.RowKit Go.Proofs.YtjpjfkmnfppgkaaDoorW.PrintWords Go.Proofs.YtjpjfkmnfppgkaaDoorW.PrintLast Go.Proofs.YtjpjfkmnfppgkaaDoorW.PrintMore
attribute [local go_sem] max2_int min2_int max_two min_two max_three min_three max_four min_four   -- for this text's walks alone
set_option linter.unusedVariables false
set_option linter.unusedSimpArgs false

/-! ### laws_heldCallS: function 16 -/
def laws_heldCallS.l0 : Nat → List (S28) → Int → Int → Option (Int)
  | 0, _, _, _ => none
  | k + 1, x0, x1, x5 => if x5 < (x0.length : Int) then (if 0 ≤ x5 then (if ((rd_T28 x0 x5).f0) = ((x1) % 4294967296) then (if ((rd_T28 x0 x5).f1) = ((wrap64 (x1 + 1)) % 4294967296) then ((laws_heldUint64S.f k ((rd_T28 x0 x5).f2) (wrap64 ((wrap64 (x1 + 1)) + 1))).bind fun t367 => (if t367 < 0 then (some (-1)) else (laws_heldCallS.l0 k x0 t367 (wrap64 (x5 + 1))))) else (some (-1))) else (some (-1))) else (none)) else (some x1)
def laws_heldCallS.f (k : Nat) (l0 : List (S28)) (a1 : Int) : Option (Int) := laws_heldCallS.l0 k l0 a1 0
set_option maxHeartbeats 8000000 in
set_option maxRecDepth 100000 in
theorem laws_heldCallS.calls (k : Nat) (A0 : Option Addr) (c0 : Nat) (l0 : List (S28)) (a1 : Int) (r : Int) (w : World) (hr0 : Kd.C k28 w A0 l0.length l0) (hc0 : l0.length ≤ c0) (h : laws_heldCallS.f k l0 a1 = some r) :
    Calls Tryd.prog 16 #[.slice A0 l0.length c0, .int .i64 a1] w fun e w' => e = .returned (.int .i64 r) ∧ Drawn0 w w' := by
  have HR0 := Aside0.mk hr0
  have HC0 := Aside0.mk hc0
  clear hr0 hc0
  have H : (laws_heldCallS.l0 k l0 a1 0) = some r := h
  clear h
  have H' := Aside0.mk H
  clear H
  go_enter Tryd.func16, Tryd.ntmps16
  go_wp2
  go_loopg [1, 5] k (fun kq v1 v5 w' => ∃ (x1_1 : Int) (x5_1 : Int), v1 = .int .i64 x1_1 ∧ v5 = .int .i64 x5_1 ∧ Aside0 (laws_heldCallS.l0 kq l0 x1_1 x5_1 = some r) ∧ Aside0 (kq ≤ k) ∧ Drawn0 w w')
  case atStart => exact ⟨(a1), (0), (by first | rfl | (simp; done) | (simp [*]; done)), (by first | rfl | (simp; done) | (simp [*]; done)), H', ⟨Nat.le_refl _⟩, by repeat (first | exact Drawn0.refl _ | apply Drawn0.step)⟩
  case round =>
    clear H'
    try clear c1
    try clear p2
    obtain ⟨x1_1, x5_1, rfl, rfl, HA, HK1, ⟨m1, rfl⟩⟩ := hrel
    cases gk with
    | zero => exact absurd HA.out (by simp [laws_heldCallS.l0])
    | succ k1 =>
      have H := HA.out
      clear HA
      simp only [laws_heldCallS.l0] at H
      by_cases c3 : x5_1 < (l0.length : Int)
      · rw [if_pos c3] at H
        have c3b0 : decide (x5_1 < (l0.length : Int)) = true := decide_eq_true c3
        clear c3
        by_cases c4 : 0 ≤ x5_1
        · rw [if_pos c4] at H
          have c4b0 : decide (0 ≤ x5_1) = true := decide_eq_true c4
          clear c4
          by_cases c5 : ((rd_T28 l0 x5_1).f0) = ((x1_1) % 4294967296)
          · rw [if_pos c5] at H
            have c5b0 : (((rd_T28 l0 x5_1).f0) == ((x1_1) % 4294967296)) = true := beq_iff_eq.mpr c5
            have c5b1 : (((rd_T28 l0 x5_1).f0) != ((x1_1) % 4294967296)) = false := bne_eq_false_iff_eq.mpr c5
            clear c5
            by_cases c6 : ((rd_T28 l0 x5_1).f1) = ((wrap64 (x1_1 + 1)) % 4294967296)
            · rw [if_pos c6] at H
              have c6b0 : (((rd_T28 l0 x5_1).f1) == ((wrap64 (x1_1 + 1)) % 4294967296)) = true := beq_iff_eq.mpr c6
              have c6b1 : (((rd_T28 l0 x5_1).f1) != ((wrap64 (x1_1 + 1)) % 4294967296)) = false := bne_eq_false_iff_eq.mpr c6
              clear c6
              replace H := Option.bind_eq_some_iff.mp H
              obtain ⟨t367, A70, H⟩ := H
              replace H : (if t367 < 0 then (some (-1)) else (laws_heldCallS.l0 k1 l0 t367 (wrap64 (x5_1 + 1)))) = some r := H
              have A7 := Aside0.mk A70
              clear A70
              by_cases c8 : t367 < 0
              · rw [if_pos c8] at H
                have c8b0 : decide (t367 < 0) = true := decide_eq_true c8
                clear c8
                obtain rfl := Option.some.inj H
                have p364 : 0 ≤ (x5_1 : Int) := of_decide_eq_true (by first | (with_reducible assumption) | assumption)
                have q364 : x5_1 < (l0.length : Int) := of_decide_eq_true (by first | (with_reducible assumption) | assumption)
                obtain ⟨ad364, A364_2, c364_2, e364, hx364_0, hx364_1, hx364_2, hl364_2, hi364_2⟩ := at_T28 HR0.out x5_1 p364 q364
                cases e364
                have HR364_2 := Aside0.mk hi364_2
                have HC364_2 := Aside0.mk hl364_2
                clear hi364_2 hl364_2
                replace p364 := eq_true p364
                replace q364 := eq_true q364
                have p365 : 0 ≤ (x5_1 : Int) := of_decide_eq_true (by first | (with_reducible assumption) | assumption)
                have q365 : x5_1 < (l0.length : Int) := of_decide_eq_true (by first | (with_reducible assumption) | assumption)
                obtain ⟨ad365, A365_2, c365_2, e365, hx365_0, hx365_1, hx365_2, hl365_2, hi365_2⟩ := at_T28 HR0.out x5_1 p365 q365
                obtain rfl : ad364 = ad365 := (by injection e365)
                have HR365_2 := Aside0.mk hi365_2
                have HC365_2 := Aside0.mk hl365_2
                clear hi365_2 hl365_2
                replace p365 := eq_true p365
                replace q365 := eq_true q365
                have ea_ := Option.some.inj (hx364_2.symm.trans hx365_2)
                injection ea_ with ea_ en_ ec_
                subst ea_
                subst ec_
                clear en_
                have p366 : 0 ≤ (x5_1 : Int) := of_decide_eq_true (by first | (with_reducible assumption) | assumption)
                have q366 : x5_1 < (l0.length : Int) := of_decide_eq_true (by first | (with_reducible assumption) | assumption)
                obtain ⟨ad366, A366_2, c366_2, e366, hx366_0, hx366_1, hx366_2, hl366_2, hi366_2⟩ := at_T28 HR0.out x5_1 p366 q366
                obtain rfl : ad364 = ad366 := (by injection e366)
                have HR366_2 := Aside0.mk hi366_2
                have HC366_2 := Aside0.mk hl366_2
                clear hi366_2 hl366_2
                replace p366 := eq_true p366
                replace q366 := eq_true q366
                have ea_ := Option.some.inj (hx364_2.symm.trans hx366_2)
                injection ea_ with ea_ en_ ec_
                subst ea_
                subst ec_
                clear en_
                go_wp2_with (first | ((with_reducible refine gate_callee (f := 36) rfl ?_); refine goesL_ (some 38) rfl rfl Tryd.func36 (by kernel_rfl) rfl #[.slice A364_2 ((rd_T28 l0 x5_1).f2).length c364_2, .int .i64 (wrap64 ((wrap64 (x1_1 + 1)) + 1))] rfl (by (try simp only [List.map_toArray, List.map_cons, List.map_nil]); first | done | rfl | (simp only [List.length_drop, List.length_take]; rfl)) ?_; (with_reducible refine (laws_heldUint64S.calls k1 _ _ ((rd_T28 l0 x5_1).f2) (wrap64 ((wrap64 (x1_1 + 1)) + 1)) t367 _ ?side1 ?side2 A7.out).mono ?_); (case side1 => repeat (first | exact HR366_2.out | (with_reducible refine Kd.C_alloc ?_ _) | (with_reducible refine Kd.C_drewN ?_ _) | (with_reducible refine Kd.C_drew ?_))); (case side2 => exact HC366_2.out); rintro e w' ⟨rfl, ⟨nd, rfl⟩⟩; refine ⟨_, rfl, ?_⟩))
                go_ret
                exact ⟨by first | rfl | (simp; done) | (simp [*]; done), by repeat (first | exact Drawn0.refl _ | apply Drawn0.step)⟩
              · rw [if_neg c8] at H
                have c8b0 : decide (t367 < 0) = false := decide_eq_false c8
                clear c8
                have H' := Aside0.mk H
                clear H
                have p364 : 0 ≤ (x5_1 : Int) := of_decide_eq_true (by first | (with_reducible assumption) | assumption)
                have q364 : x5_1 < (l0.length : Int) := of_decide_eq_true (by first | (with_reducible assumption) | assumption)
                obtain ⟨ad364, A364_2, c364_2, e364, hx364_0, hx364_1, hx364_2, hl364_2, hi364_2⟩ := at_T28 HR0.out x5_1 p364 q364
                cases e364
                have HR364_2 := Aside0.mk hi364_2
                have HC364_2 := Aside0.mk hl364_2
                clear hi364_2 hl364_2
                replace p364 := eq_true p364
                replace q364 := eq_true q364
                have p365 : 0 ≤ (x5_1 : Int) := of_decide_eq_true (by first | (with_reducible assumption) | assumption)
                have q365 : x5_1 < (l0.length : Int) := of_decide_eq_true (by first | (with_reducible assumption) | assumption)
                obtain ⟨ad365, A365_2, c365_2, e365, hx365_0, hx365_1, hx365_2, hl365_2, hi365_2⟩ := at_T28 HR0.out x5_1 p365 q365
                obtain rfl : ad364 = ad365 := (by injection e365)
                have HR365_2 := Aside0.mk hi365_2
                have HC365_2 := Aside0.mk hl365_2
                clear hi365_2 hl365_2
                replace p365 := eq_true p365
                replace q365 := eq_true q365
                have ea_ := Option.some.inj (hx364_2.symm.trans hx365_2)
                injection ea_ with ea_ en_ ec_
                subst ea_
                subst ec_
                clear en_
                have p366 : 0 ≤ (x5_1 : Int) := of_decide_eq_true (by first | (with_reducible assumption) | assumption)
                have q366 : x5_1 < (l0.length : Int) := of_decide_eq_true (by first | (with_reducible assumption) | assumption)
                obtain ⟨ad366, A366_2, c366_2, e366, hx366_0, hx366_1, hx366_2, hl366_2, hi366_2⟩ := at_T28 HR0.out x5_1 p366 q366
                obtain rfl : ad364 = ad366 := (by injection e366)
                have HR366_2 := Aside0.mk hi366_2
                have HC366_2 := Aside0.mk hl366_2
                clear hi366_2 hl366_2
                replace p366 := eq_true p366
                replace q366 := eq_true q366
                have ea_ := Option.some.inj (hx364_2.symm.trans hx366_2)
                injection ea_ with ea_ en_ ec_
                subst ea_
                subst ec_
                clear en_
                go_wp2_with (first | ((with_reducible refine gate_callee (f := 36) rfl ?_); refine goesL_ (some 38) rfl rfl Tryd.func36 (by kernel_rfl) rfl #[.slice A364_2 ((rd_T28 l0 x5_1).f2).length c364_2, .int .i64 (wrap64 ((wrap64 (x1_1 + 1)) + 1))] rfl (by (try simp only [List.map_toArray, List.map_cons, List.map_nil]); first | done | rfl | (simp only [List.length_drop, List.length_take]; rfl)) ?_; (with_reducible refine (laws_heldUint64S.calls k1 _ _ ((rd_T28 l0 x5_1).f2) (wrap64 ((wrap64 (x1_1 + 1)) + 1)) t367 _ ?side1 ?side2 A7.out).mono ?_); (case side1 => repeat (first | exact HR366_2.out | (with_reducible refine Kd.C_alloc ?_ _) | (with_reducible refine Kd.C_drewN ?_ _) | (with_reducible refine Kd.C_drew ?_))); (case side2 => exact HC366_2.out); rintro e w' ⟨rfl, ⟨nd, rfl⟩⟩; refine ⟨_, rfl, ?_⟩))
                go_roundg k1
                case measure => have := HK1.out; omega
                case rel => exact ⟨(t367), (wrap64 (x5_1 + 1)), (by first | rfl | (simp; done) | (simp [*]; done)), (by first | rfl | (simp; done) | (simp [*]; done)), H', ⟨by have := HK1.out; omega⟩, by repeat (first | exact Drawn0.refl _ | apply Drawn0.step)⟩
            · rw [if_neg c6] at H
              have c6b0 : (((rd_T28 l0 x5_1).f1) == ((wrap64 (x1_1 + 1)) % 4294967296)) = false := beq_eq_false_iff_ne.mpr c6
              have c6b1 : (((rd_T28 l0 x5_1).f1) != ((wrap64 (x1_1 + 1)) % 4294967296)) = true := bne_iff_ne.mpr c6
              obtain rfl := Option.some.inj H
              have p364 : 0 ≤ (x5_1 : Int) := of_decide_eq_true (by first | (with_reducible assumption) | assumption)
              have q364 : x5_1 < (l0.length : Int) := of_decide_eq_true (by first | (with_reducible assumption) | assumption)
              obtain ⟨ad364, A364_2, c364_2, e364, hx364_0, hx364_1, hx364_2, hl364_2, hi364_2⟩ := at_T28 HR0.out x5_1 p364 q364
              cases e364
              have HR364_2 := Aside0.mk hi364_2
              have HC364_2 := Aside0.mk hl364_2
              clear hi364_2 hl364_2
              replace p364 := eq_true p364
              replace q364 := eq_true q364
              have p365 : 0 ≤ (x5_1 : Int) := of_decide_eq_true (by first | (with_reducible assumption) | assumption)
              have q365 : x5_1 < (l0.length : Int) := of_decide_eq_true (by first | (with_reducible assumption) | assumption)
              obtain ⟨ad365, A365_2, c365_2, e365, hx365_0, hx365_1, hx365_2, hl365_2, hi365_2⟩ := at_T28 HR0.out x5_1 p365 q365
              obtain rfl : ad364 = ad365 := (by injection e365)
              have HR365_2 := Aside0.mk hi365_2
              have HC365_2 := Aside0.mk hl365_2
              clear hi365_2 hl365_2
              replace p365 := eq_true p365
              replace q365 := eq_true q365
              have ea_ := Option.some.inj (hx364_2.symm.trans hx365_2)
              injection ea_ with ea_ en_ ec_
              subst ea_
              subst ec_
              clear en_
              go_wp2
              go_ret
              exact ⟨by first | rfl | (simp; done) | (simp [*]; done), by repeat (first | exact Drawn0.refl _ | apply Drawn0.step)⟩
          · rw [if_neg c5] at H
            have c5b0 : (((rd_T28 l0 x5_1).f0) == ((x1_1) % 4294967296)) = false := beq_eq_false_iff_ne.mpr c5
            have c5b1 : (((rd_T28 l0 x5_1).f0) != ((x1_1) % 4294967296)) = true := bne_iff_ne.mpr c5
            obtain rfl := Option.some.inj H
            have p364 : 0 ≤ (x5_1 : Int) := of_decide_eq_true (by first | (with_reducible assumption) | assumption)
            have q364 : x5_1 < (l0.length : Int) := of_decide_eq_true (by first | (with_reducible assumption) | assumption)
            obtain ⟨ad364, A364_2, c364_2, e364, hx364_0, hx364_1, hx364_2, hl364_2, hi364_2⟩ := at_T28 HR0.out x5_1 p364 q364
            cases e364
            have HR364_2 := Aside0.mk hi364_2
            have HC364_2 := Aside0.mk hl364_2
            clear hi364_2 hl364_2
            replace p364 := eq_true p364
            replace q364 := eq_true q364
            go_wp2
            go_ret
            exact ⟨by first | rfl | (simp; done) | (simp [*]; done), by repeat (first | exact Drawn0.refl _ | apply Drawn0.step)⟩
        · rw [if_neg c4] at H
          exact absurd H (by simp)
      · rw [if_neg c3] at H
        have c3b0 : decide (x5_1 < (l0.length : Int)) = false := decide_eq_false c3
        clear c3
        obtain rfl := Option.some.inj H
        go_wp2
        go_ret
        exact ⟨by first | rfl | (simp; done) | (simp [*]; done), by repeat (first | exact Drawn0.refl _ | apply Drawn0.step)⟩

end Go.Proofs.YtjpjfkmnfppgkaaDoor.P
