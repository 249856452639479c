import Derived.Test.YtjpjfkmnfppgkaaDoorGFnCalls10
import Derived.Test.YtjpjfkmnfppgkaaDoorGFnCalls5
import Derived.Test.YtjpjfkmnfppgkaaDoorGFnCalls3
import Derived.StillTailTactics
import Derived.Test.YtjpjfkmnfppgkaaDoorGFnCalls7
import Derived.Test.YtjpjfkmnfppgkaaDoorGFnCalls4
namespace Go.Proofs.YtjpjfkmnfppgkaaDoor.P
open Go.RowKit Go.Proofs.YtjpjfkmnfppgkaaDoorW.PrintWords Go.Proofs.YtjpjfkmnfppgkaaDoorW.PrintLast Go.Proofs.YtjpjfkmnfppgkaaDoorW.PrintMore
set_option linter.unusedVariables false
set_option linter.unusedSimpArgs false
/-! The drawn calls to be encoded: words of 64 bits, of any number a call. -/
theorem okc_set {cs : List S28} (h : ∀ c ∈ cs, okC c) (q : Nat) {y : S28} (hy : okC y) : ∀ c ∈ cs.set q y, okC c := fun c hc => by
  rcases List.mem_or_eq_of_mem_set hc with h1 | h1
  · exact h c h1
  · rw [h1]; exact hy
theorem drawCut_t (cs : List S28) (hl : 0 < cs.length) (h6 : ∀ c ∈ cs, ok6 c) (i : Int) (hi : 0 ≤ i) : EvT (fun _ => spec_DrawEncodeLog.cut cs (Int.tmod i (cs.length : Int))) (fun r => ∀ c ∈ r, okC c) := by
  have hb := tmod_bd (x := i) (m := (cs.length : Int)) hi (by omega)
  obtain ⟨q, hq⟩ : ∃ q : Nat, Int.tmod i (cs.length : Int) = (q : Int) := ⟨(Int.tmod i (cs.length : Int)).toNat, by omega⟩
  rw [hq] at hb ⊢
  have h := rd_6 h6 q (by omega)
  have hself : ∀ c ∈ cs, okC c := fun c hc => (h6 c hc).1
  obtain ⟨⟨a1, a2, a3, a4⟩, a5⟩ := h
  unfold spec_DrawEncodeLog.cut
  refine evt_ite (fun _ => evt_ite (fun _ => evt_ite (fun _ => ?_) fun g => absurd (show (5 : Int) ≤ _ by omega) g) fun g => absurd hb.2 g) fun g => absurd hb.1 g
  exact evt_some (okc_set hself _ ⟨a1, a2, fun x hx => a3 x (List.mem_of_mem_take hx), Nat.le_trans (List.length_take_le' _ _) a4⟩)
theorem drawMore_t (cs : List S28) (hl : 0 < cs.length) (h6 : ∀ c ∈ cs, ok6 c) (i : Int) (hi : 0 ≤ i) : EvT (fun _ => spec_DrawEncodeLog.more cs (Int.tmod i (cs.length : Int))) (fun r => ∀ c ∈ r, okC c) := by
  have hb := tmod_bd (x := i) (m := (cs.length : Int)) hi (by omega)
  obtain ⟨q, hq⟩ : ∃ q : Nat, Int.tmod i (cs.length : Int) = (q : Int) := ⟨(Int.tmod i (cs.length : Int)).toNat, by omega⟩
  rw [hq] at hb ⊢
  have h := rd_6 h6 q (by omega)
  have hself : ∀ c ∈ cs, okC c := fun c hc => (h6 c hc).1
  obtain ⟨⟨a1, a2, a3, a4⟩, a5⟩ := h
  unfold spec_DrawEncodeLog.more
  refine evt_ite (fun _ => evt_ite (fun _ => evt_ite (fun _ => ?_) fun g => absurd (show _ < 17592186044415 by omega) g) fun g => absurd hb.2 g) fun g => absurd hb.1 g
  refine evt_some (okc_set hself _ ⟨a1, a2, fun x hx => ?_, ?_⟩)
  · rcases List.mem_append.1 hx with h1 | h1
    · exact a3 x h1
    · rw [List.mem_singleton] at h1; subst h1; decide
  · show ((rd_T28 cs (q : Int)).f2 ++ [0]).length ≤ 1048576
    rw [List.length_append, List.length_singleton, a5]; decide
theorem drawEnc_t (l : List Int) (h : ∀ x ∈ l, (Lit.int .u8 x).wf = true) : EvT (fun k => spec_DrawEncodeLog.f k l) (fun r => ∀ c ∈ r, okC c) := by
  unfold spec_DrawEncodeLog.f
  refine evt_bind (open_t l h) ?_
  rintro ⟨L, p⟩ hp
  dsimp only at hp ⊢
  refine evt_bind (next_t L p hp) ?_
  rintro ⟨v, j⟩ ⟨v1, v2, hj⟩
  dsimp only at *
  refine evt_ite (fun _ => ?_) fun _ => ?_
  · refine evt_bind (next_t L j hj) ?_
    rintro ⟨d, j2⟩ ⟨d1, d2, hj2⟩
    dsimp only at *
    have hm := tmod_bd (x := d) (m := 3) d1 (by decide)
    rw [wrap64_id (by omega) (by omega), show 999 + Int.tmod d 3 = (((999 + Int.tmod d 3).toNat : Nat) : Int) from by omega]
    exact evt_mono (many_t _ (by omega) 9 (by decide)) (fun r hr c hc => (hr.2 c hc).1)
  · refine evt_bind (calls_t L j hj) ?_
    rintro ⟨cs, j2⟩ ⟨⟨c1, c2⟩, hj2⟩
    dsimp only at *
    have hself : ∀ c ∈ cs, okC c := fun c hc => (c2 c hc).1
    refine evt_ite (fun _ => evt_ite (fun g => ?_) fun _ => evt_some hself) fun _ => evt_ite (fun _ => evt_ite (fun g => ?_) fun _ => evt_some hself) fun _ => evt_some hself
    · refine evt_bind (next_t L j2 hj2) ?_
      rintro ⟨i, j3⟩ ⟨i1, i2, hj3⟩
      exact drawCut_t cs g c2 i i1
    · refine evt_bind (next_t L j2 hj2) ?_
      rintro ⟨i, j3⟩ ⟨i1, i2, hj3⟩
      exact drawMore_t cs g c2 i i1
end Go.Proofs.YtjpjfkmnfppgkaaDoor.P

namespace Go.Proofs.YtjpjfkmnfppgkaaDoor.P
open Go.RowKit Go.Proofs.YtjpjfkmnfppgkaaDoorW.PrintWords Go.Proofs.YtjpjfkmnfppgkaaDoorW.PrintLast Go.Proofs.YtjpjfkmnfppgkaaDoorW.PrintMore
set_option linter.unusedVariables false
set_option linter.unusedSimpArgs false

/-- Behind a call that began at a later world. -/
theorem below_call {B : Nat} {w W w1 : World} (h : Below B w W) (hb : Below W.heap.size W w1) (hB : B ≤ W.heap.size) : Below B w w1 := h.trans (hb.mono hB)
theorem below_set1 {B : Nat} {w W : World} (h : Below B w W) {p : Addr} (hp : B ≤ p.block) (v : Value) : Below B w (W.setCell p v) := h.setCell hp v
/-- A struct of three fields, stored field by field. -/
theorem blk_put3 {w : World} {g : Nat} {t : TypeId} {x0 x1 x2 : Value} (h : w.heap[g]? = some (.cells #[x0, x1, x2] t (0, 0))) (y0 y1 y2 : Value) :
    (((w.setCell ⟨g, 0, none⟩ y0).setCell ⟨g, 1, none⟩ y1).setCell ⟨g, 2, none⟩ y2).heap[g]? = some (.cells #[y0, y1, y2] t (0, 0)) :=
  blk_put (cs := #[y0, y1, x2]) (blk_put (cs := #[y0, x1, x2]) (blk_put h 0 y0 rfl) 1 y1 rfl) 2 y2 rfl
end Go.Proofs.YtjpjfkmnfppgkaaDoor.P

namespace Go.Proofs.YtjpjfkmnfppgkaaDoor.P
open Go.RowKit Go.Proofs.YtjpjfkmnfppgkaaDoorW.PrintWords Go.Proofs.YtjpjfkmnfppgkaaDoorW.PrintLast Go.Proofs.YtjpjfkmnfppgkaaDoorW.PrintMore
attribute [local go_sem] max2_int min2_int max_two min_two max_three min_three max_four min_four   -- for this text's walks alone
set_option linter.unusedVariables false
set_option linter.unusedSimpArgs false

mutual
def impl_number.l0 : Nat → List Int → Int → List Int → Int → Int → Option (Int × List Int × Bool)
  | 0, _, _, _, _, _ => none
  | k + 1, x0, x5, x8, x9, x10 => if x10 < x9 then (if 0 ≤ x10 then (if x10 < (x8.length : Int) then (if x10 = 9 then (impl_number.j1 k x0 x5 x10 (rd x8 x10) x8 x9 x10 (decide ((rd x8 x10) > 1))) else (impl_number.j1 k x0 x5 x10 (rd x8 x10) x8 x9 x10 false)) else (none)) else (none)) else (some (0, ([] : List Int), false))
def impl_number.j1 : Nat → List Int → Int → Int → Int → List Int → Int → Int → Bool → Option (Int × List Int × Bool)
  | 0, _, _, _, _, _, _, _, _ => none
  | k + 1, x0, x5, x6, x7, x8, x9, x10, x20 => if x20 = true then (some (0, ([] : List Int), false)) else (if 0 ≤ (wrap64 (7 * x6)) then (if x7 < 128 then (if 0 ≤ (wrap64 (x6 + 1)) then (if (wrap64 (x6 + 1)) ≤ (x0.length : Int) then ((some (x0.drop ((wrap64 (x6 + 1)) : Int).toNat : List Int)).bind fun y108 => (if x7 = 0 then (some (Go.bits .or .u64 x5 (shl .u64 (IntKind.u64.wrap (Go.bits .and .u8 x7 127)) (wrap64 (7 * x6))), y108, (x6 == 0))) else (some (Go.bits .or .u64 x5 (shl .u64 (IntKind.u64.wrap (Go.bits .and .u8 x7 127)) (wrap64 (7 * x6))), y108, true)))) else (none)) else (none)) else (impl_number.l0 k x0 (Go.bits .or .u64 x5 (shl .u64 (IntKind.u64.wrap (Go.bits .and .u8 x7 127)) (wrap64 (7 * x6)))) x8 x9 (wrap64 (x10 + 1)))) else (none))
end
def impl_number.f (k : Nat) (l0 : List Int) : Option (Int × List Int × Bool) := impl_number.l0 k l0 0 l0 (l0.length : Int) 0
set_option maxHeartbeats 8000000 in
set_option maxRecDepth 100000 in
theorem impl_number.calls (k : Nat) (A0 : Option Addr) (c0 : Nat) (l0 : List Int) (r1 : Int) (r2 : List Int) (r3 : Bool) (w : World) (hr0 : Kd.C (Kd.int .u8) w A0 l0.length l0) (hc0 : l0.length ≤ c0) (h : impl_number.f k l0 = some (r1, r2, r3)) :
    Calls Tryd.prog 67 #[.slice A0 l0.length c0] w fun e w' => ∃ (A1 : Option Addr) (c1 : Nat), e = .returned (.tuple #[.int .u64 r1, .slice A1 r2.length c1, .bool r3]) ∧ r2.length ≤ c1 ∧ (∀ W_ : World, Kd.C (Kd.int .u8) W_ A0 l0.length l0 → Kd.C (Kd.int .u8) W_ A1 r2.length r2) ∧ Drawn0 w w' := by
  have HR0 := Aside0.mk hr0
  have HC0 := Aside0.mk hc0
  clear hr0 hc0
  have H : (impl_number.l0 k l0 0 l0 (l0.length : Int) 0) = some (r1, r2, r3) := h
  clear h
  have H' := Aside0.mk H
  clear H
  go_enter Tryd.func67, Tryd.ntmps67
  go_wp2
  repeat (go_quiet (fail); try go_wp2)
  go_loopg [5, 10] k (fun kq v5 v10 w' => ∃ (x5_1 : Int) (x10_1 : Int), v5 = .int .u64 x5_1 ∧ v10 = .int .i64 x10_1 ∧ Aside0 (impl_number.l0 kq l0 x5_1 l0 (l0.length : Int) x10_1 = some (r1, r2, r3)) ∧ Aside0 (kq ≤ k) ∧ Drawn0 w w')
  case atStart => exact ⟨(0), (0), (by first | rfl | (simp; done) | (simp [*]; done)), (by first | rfl | (simp; done) | (simp [*]; done)), H', ⟨Nat.le_refl _⟩, by repeat (first | exact Drawn0.refl _ | apply Drawn0.step)⟩
  case round =>
    clear H'
    try clear p2
    obtain ⟨x5_1, x10_1, rfl, rfl, HA, HK1, ⟨m1, rfl⟩⟩ := hrel
    cases gk with
    | zero => exact absurd HA.out (by simp [impl_number.l0])
    | succ k1 =>
      have H := HA.out
      clear HA
      simp only [impl_number.l0] at H
      by_cases c3 : x10_1 < (l0.length : Int)
      · rw [if_pos c3] at H
        have c3b0 : decide (x10_1 < (l0.length : Int)) = true := decide_eq_true c3
        clear c3
        by_cases c4 : 0 ≤ x10_1
        · rw [if_pos c4] at H
          have c4b0 : decide (0 ≤ x10_1) = true := decide_eq_true c4
          clear c4
          by_cases c5 : x10_1 < (l0.length : Int)
          · rw [if_pos c5] at H
            have c5b0 : decide (x10_1 < (l0.length : Int)) = true := decide_eq_true c5
            clear c5
            have HC6 := Aside0.mk H
            clear H
            have p107 : 0 ≤ (x10_1 : Int) := of_decide_eq_true (by first | (with_reducible assumption) | assumption)
            have q107 : x10_1 < (l0.length : Int) := of_decide_eq_true (by first | (with_reducible assumption) | assumption)
            obtain ⟨ad107, e107, hx107_0⟩ := Kd.at_int HR0.out x10_1 p107 q107
            cases e107
            replace p107 := eq_true p107
            replace q107 := eq_true q107
            go_upto_region 5 with (fail)
            repeat (go_quiet (fail); go_upto_region 5 with (fail))
            go_cut [20] (fun v20 wc => ∃ (kq : Nat) (x20_5 : Bool), v20 = .bool x20_5 ∧ Aside0 (impl_number.j1 kq l0 x5_1 x10_1 (rd l0 x10_1) l0 (l0.length : Int) x10_1 x20_5 = some (r1, r2, r3)) ∧ Aside0 (kq ≤ k1) ∧ Drawn0 w wc)
            case first =>
              have H := HC6.out
              clear HC6
              by_cases c7 : x10_1 = 9
              · rw [if_pos c7] at H
                have c7b0 : (x10_1 == 9) = true := beq_iff_eq.mpr c7
                have c7b1 : (x10_1 != 9) = false := bne_eq_false_iff_eq.mpr c7
                clear c7
                (first | rw [c7b0] | (simp only [i64_w, i32_w]; rw [c7b0]) | skip)
                have H' := Aside0.mk H
                clear H
                go_wp2
                repeat (go_quiet (fail); try go_wp2)
                go_meet
                case rel => exact ⟨_, (decide ((rd l0 x10_1) > 1)), (by first | rfl | (simp; done) | (simp [*]; done)), H', ⟨by have := HK1.out; first | omega | exact Nat.le_refl _⟩, by repeat (first | exact Drawn0.refl _ | apply Drawn0.step)⟩
              · rw [if_neg c7] at H
                have c7b0 : (x10_1 == 9) = false := beq_eq_false_iff_ne.mpr c7
                have c7b1 : (x10_1 != 9) = true := bne_iff_ne.mpr c7
                (first | rw [c7b0] | (simp only [i64_w, i32_w]; rw [c7b0]) | skip)
                have H' := Aside0.mk H
                clear H
                go_wp2
                repeat (go_quiet (fail); try go_wp2)
                go_meet
                case rel => exact ⟨_, (false), (by first | rfl | (simp; done) | (simp [*]; done)), H', ⟨by have := HK1.out; first | omega | exact Nat.le_refl _⟩, by repeat (first | exact Drawn0.refl _ | apply Drawn0.step)⟩
            case rest =>
              clear HC6
              try clear p1
              try clear q1
              try clear hx1
              try clear p2
              try clear c3
              try clear c3b0
              try clear c4
              try clear c4b0
              try clear c5
              try clear c5b0
              try clear c6
              try clear c7
              try clear c7b0
              try clear c7b1
              try clear hx107_0
              try clear p107
              try clear p2
              try clear q107
              obtain ⟨kq, x20_5, rfl, HA, HJ5, ⟨m2, rfl⟩⟩ := hcut
              cases kq with
              | zero => exact absurd HA.out (by simp [impl_number.j1])
              | succ kj5 =>
                have H := HA.out
                clear HA
                simp only [impl_number.j1] at H
                by_cases c8 : x20_5 = true
                · subst c8
                  have H1 : (some (0, ([] : List Int), false)) = some (r1, r2, r3) := by rw [if_pos rfl] at H; exact H
                  clear H
                  have H := H1
                  clear H1
                  simp only [Option.some.injEq, Prod.mk.injEq] at H
                  obtain ⟨rfl, rfl, rfl⟩ := H
                  go_wp2
                  repeat (go_quiet (fail); try go_wp2)
                  go_ret3
                  exact ⟨none, 0, rfl, Nat.le_refl _, fun W_ _ => (Kd.R_reads' (Kd.R_nil (Kd.int .u8) 5 W_ 0 (fun _ => True))).2.2, by repeat (first | exact Drawn0.refl _ | apply Drawn0.step)⟩
                · replace c8 := Bool.eq_false_iff.mpr c8
                  subst c8
                  have H1 : (if 0 ≤ (wrap64 (7 * x10_1)) then (if (rd l0 x10_1) < 128 then (if 0 ≤ (wrap64 (x10_1 + 1)) then (if (wrap64 (x10_1 + 1)) ≤ (l0.length : Int) then ((some (l0.drop ((wrap64 (x10_1 + 1)) : Int).toNat : List Int)).bind fun y108 => (if (rd l0 x10_1) = 0 then (some (Go.bits .or .u64 x5_1 (shl .u64 (IntKind.u64.wrap (Go.bits .and .u8 (rd l0 x10_1) 127)) (wrap64 (7 * x10_1))), y108, (x10_1 == 0))) else (some (Go.bits .or .u64 x5_1 (shl .u64 (IntKind.u64.wrap (Go.bits .and .u8 (rd l0 x10_1) 127)) (wrap64 (7 * x10_1))), y108, true)))) else (none)) else (none)) else (impl_number.l0 kj5 l0 (Go.bits .or .u64 x5_1 (shl .u64 (IntKind.u64.wrap (Go.bits .and .u8 (rd l0 x10_1) 127)) (wrap64 (7 * x10_1)))) l0 (l0.length : Int) (wrap64 (x10_1 + 1)))) else (none)) = some (r1, r2, r3) := by rw [if_neg (show ¬ (false = true) by decide)] at H; exact H
                  clear H
                  have H := H1
                  clear H1
                  obtain ⟨ji9, hji9⟩ : ∃ j_ : Int, (wrap64 (7 * x10_1)) = j_ := ⟨_, rfl⟩
                  replace H : (if 0 ≤ (ji9) then (if (rd l0 x10_1) < 128 then (if 0 ≤ (wrap64 (x10_1 + 1)) then (if (wrap64 (x10_1 + 1)) ≤ (l0.length : Int) then ((some (l0.drop ((wrap64 (x10_1 + 1)) : Int).toNat : List Int)).bind fun y108 => (if (rd l0 x10_1) = 0 then (some (Go.bits .or .u64 x5_1 (shl .u64 (IntKind.u64.wrap (Go.bits .and .u8 (rd l0 x10_1) 127)) (ji9)), y108, (x10_1 == 0))) else (some (Go.bits .or .u64 x5_1 (shl .u64 (IntKind.u64.wrap (Go.bits .and .u8 (rd l0 x10_1) 127)) (ji9)), y108, true)))) else (none)) else (none)) else (impl_number.l0 kj5 l0 (Go.bits .or .u64 x5_1 (shl .u64 (IntKind.u64.wrap (Go.bits .and .u8 (rd l0 x10_1) 127)) (ji9))) l0 (l0.length : Int) (wrap64 (x10_1 + 1)))) else (none)) = some (r1, r2, r3) := by first | (rw [hji9] at H; exact H) | (simp only [hji9] at H ⊢; exact H)
                  have hji9w : (IntKind.i64.wrap (7 * x10_1)) = ji9 := (i64_w _).trans hji9
                  by_cases c10 : 0 ≤ (ji9)
                  · rw [if_pos c10] at H
                    have c10b0 := eq_true c10
                    have c10b1 : decide (0 ≤ (ji9)) = true := decide_eq_true c10
                    clear c10
                    obtain ⟨ji11, hji11⟩ : ∃ j_ : Int, (shl .u64 (IntKind.u64.wrap (Go.bits .and .u8 (rd l0 x10_1) 127)) (ji9)) = j_ := ⟨_, rfl⟩
                    replace H : (if (rd l0 x10_1) < 128 then (if 0 ≤ (wrap64 (x10_1 + 1)) then (if (wrap64 (x10_1 + 1)) ≤ (l0.length : Int) then ((some (l0.drop ((wrap64 (x10_1 + 1)) : Int).toNat : List Int)).bind fun y108 => (if (rd l0 x10_1) = 0 then (some (Go.bits .or .u64 x5_1 (ji11), y108, (x10_1 == 0))) else (some (Go.bits .or .u64 x5_1 (ji11), y108, true)))) else (none)) else (none)) else (impl_number.l0 kj5 l0 (Go.bits .or .u64 x5_1 (ji11)) l0 (l0.length : Int) (wrap64 (x10_1 + 1)))) = some (r1, r2, r3) := by first | (rw [hji11] at H; exact H) | (simp only [hji11] at H ⊢; exact H)
                    have hji11_ : (IntKind.u64.wrap ((IntKind.u64.wrap (Go.bits .and .u8 (rd l0 x10_1) 127)) * 2 ^ min (ji9).toNat 64)) = ji11 := hji11
                    try have hji11n : 0 ≤ (ji9) := by omega
                    have hji11z : (ji9) ≤ 64 → (IntKind.u64.wrap ((IntKind.u64.wrap (Go.bits .and .u8 (rd l0 x10_1) 127)) * 2 ^ (ji9).toNat)) = ji11 := shl_small hji11
                    by_cases c12 : (rd l0 x10_1) < 128
                    · rw [if_pos c12] at H
                      have c12b0 : decide ((rd l0 x10_1) < 128) = true := decide_eq_true c12
                      clear c12
                      obtain ⟨ji13, hji13⟩ : ∃ j_ : Int, (wrap64 (x10_1 + 1)) = j_ := ⟨_, rfl⟩
                      replace H : (if 0 ≤ (ji13) then (if (ji13) ≤ (l0.length : Int) then ((some (l0.drop ((ji13) : Int).toNat : List Int)).bind fun y108 => (if (rd l0 x10_1) = 0 then (some (Go.bits .or .u64 x5_1 (ji11), y108, (x10_1 == 0))) else (some (Go.bits .or .u64 x5_1 (ji11), y108, true)))) else (none)) else (none)) = some (r1, r2, r3) := by first | (rw [hji13] at H; exact H) | (simp only [hji13] at H ⊢; exact H)
                      have hji13w : (IntKind.i64.wrap (x10_1 + 1)) = ji13 := (i64_w _).trans hji13
                      by_cases c14 : 0 ≤ (ji13)
                      · rw [if_pos c14] at H
                        have c14b0 := eq_true c14
                        have c14b1 : decide (0 ≤ (ji13)) = true := decide_eq_true c14
                        clear c14
                        by_cases c15 : (ji13) ≤ (l0.length : Int)
                        · rw [if_pos c15] at H
                          have c15b0 := eq_true c15
                          have c15b1 : decide ((ji13) ≤ (l0.length : Int)) = true := decide_eq_true c15
                          clear c15
                          obtain ⟨y108, hy108⟩ : ∃ y_ : List Int, y_ = (l0.drop ((ji13) : Int).toNat) := ⟨_, rfl⟩
                          replace H : (if (rd l0 x10_1) = 0 then (some (Go.bits .or .u64 x5_1 (ji11), y108, (x10_1 == 0))) else (some (Go.bits .or .u64 x5_1 (ji11), y108, true))) = some (r1, r2, r3) := by first | (rw [hy108]; with_reducible exact H) | (have H2_ := (Option.bind_some _ _).symm.trans H; rw [hy108]; with_reducible exact H2_) | (have H2_ := (Option.bind_some _ _).symm.trans H; with_reducible exact H2_) | with_reducible exact H | (rw [hy108]; exact H) | exact H
                          have Ny108 := Aside0.mk hy108
                          clear hy108
                          by_cases c16 : (rd l0 x10_1) = 0
                          · rw [if_pos c16] at H
                            have c16b0 : ((rd l0 x10_1) == 0) = true := beq_iff_eq.mpr c16
                            have c16b1 : ((rd l0 x10_1) != 0) = false := bne_eq_false_iff_eq.mpr c16
                            clear c16
                            simp only [Option.some.injEq, Prod.mk.injEq] at H
                            obtain ⟨rfl, rfl, rfl⟩ := H
                            have q17 : ((ji13) : Int) ≤ ((l0.length : Int) : Int) := of_decide_eq_true (by first | (with_reducible assumption) | assumption)
                            obtain ⟨i017, hi017, _, hsz17, _⟩ := info_parts info5
                            have hcut17 := cut_from (P := Tryd.prog) 22 5 .i64 Tryd.underlying22 hi017 1 hsz17 (some ad107) l0.length c0 (ji13) (of_decide_eq_true (by first | (with_reducible assumption) | assumption)) q17
                            have hr17 := fun (W_ : World) (hW_ : Kd.C (Kd.int .u8) W_ (some ad107) l0.length l0) => Kd.C_drop (m := ((ji13) : Int).toNat) (c := c0) hW_ (by omega) HC0.out
                            obtain ⟨A17, hA17⟩ : ∃ A1, A1 = (if c0 = ((ji13) : Int).toNat then (some ad107) else ((some ad107) : Option Addr).map (·.add (((ji13) : Int).toNat * 1))) := ⟨_, rfl⟩
                            obtain ⟨c17, hc17⟩ : ∃ c1, c1 = c0 - ((ji13) : Int).toNat := ⟨_, rfl⟩
                            have hy17 : y108.length = l0.length - ((ji13) : Int).toNat := (by rw [Ny108.out, List.length_drop])
                            rw [← Ny108.out] at hr17
                            rw [← hy17, ← hA17, ← hc17] at hcut17
                            replace hr17 : ∀ W_ : World, Kd.C (Kd.int .u8) W_ (some ad107) l0.length l0 → Kd.C (Kd.int .u8) W_ A17 y108.length y108 := (by rw [hA17]; exact hr17)
                            have hcc17 : y108.length ≤ c17 := (by rw [hc17, hy17]; have := HC0.out; omega)
                            clear hy17 hi017 hsz17 hA17 hc17
                            have HO110 := Aside0.mk hr17
                            have HQ110 := Aside0.mk hcc17
                            clear hr17 hcc17
                            replace q17 := eq_true q17
                            go_wp2
                            repeat (go_quiet (fail); try go_wp2)
                            go_ret3
                            exact ⟨_, _, rfl, HQ110.out, HO110.out, by repeat (first | exact Drawn0.refl _ | apply Drawn0.step)⟩
                          · rw [if_neg c16] at H
                            have c16b0 : ((rd l0 x10_1) == 0) = false := beq_eq_false_iff_ne.mpr c16
                            have c16b1 : ((rd l0 x10_1) != 0) = true := bne_iff_ne.mpr c16
                            simp only [Option.some.injEq, Prod.mk.injEq] at H
                            obtain ⟨rfl, rfl, rfl⟩ := H
                            have q18 : ((ji13) : Int) ≤ ((l0.length : Int) : Int) := of_decide_eq_true (by first | (with_reducible assumption) | assumption)
                            obtain ⟨i018, hi018, _, hsz18, _⟩ := info_parts info5
                            have hcut18 := cut_from (P := Tryd.prog) 22 5 .i64 Tryd.underlying22 hi018 1 hsz18 (some ad107) l0.length c0 (ji13) (of_decide_eq_true (by first | (with_reducible assumption) | assumption)) q18
                            have hr18 := fun (W_ : World) (hW_ : Kd.C (Kd.int .u8) W_ (some ad107) l0.length l0) => Kd.C_drop (m := ((ji13) : Int).toNat) (c := c0) hW_ (by omega) HC0.out
                            obtain ⟨A18, hA18⟩ : ∃ A1, A1 = (if c0 = ((ji13) : Int).toNat then (some ad107) else ((some ad107) : Option Addr).map (·.add (((ji13) : Int).toNat * 1))) := ⟨_, rfl⟩
                            obtain ⟨c18, hc18⟩ : ∃ c1, c1 = c0 - ((ji13) : Int).toNat := ⟨_, rfl⟩
                            have hy18 : y108.length = l0.length - ((ji13) : Int).toNat := (by rw [Ny108.out, List.length_drop])
                            rw [← Ny108.out] at hr18
                            rw [← hy18, ← hA18, ← hc18] at hcut18
                            replace hr18 : ∀ W_ : World, Kd.C (Kd.int .u8) W_ (some ad107) l0.length l0 → Kd.C (Kd.int .u8) W_ A18 y108.length y108 := (by rw [hA18]; exact hr18)
                            have hcc18 : y108.length ≤ c18 := (by rw [hc18, hy18]; have := HC0.out; omega)
                            clear hy18 hi018 hsz18 hA18 hc18
                            have HO110 := Aside0.mk hr18
                            have HQ110 := Aside0.mk hcc18
                            clear hr18 hcc18
                            replace q18 := eq_true q18
                            go_wp2
                            repeat (go_quiet (fail); try go_wp2)
                            go_ret3
                            exact ⟨_, _, rfl, HQ110.out, HO110.out, by repeat (first | exact Drawn0.refl _ | apply Drawn0.step)⟩
                        · rw [if_neg c15] at H
                          exact absurd H (by simp)
                      · rw [if_neg c14] at H
                        exact absurd H (by simp)
                    · rw [if_neg c12] at H
                      have c12b0 : decide ((rd l0 x10_1) < 128) = false := decide_eq_false c12
                      clear c12
                      have H' := Aside0.mk H
                      clear H
                      go_wp2
                      repeat (go_quiet (fail); try go_wp2)
                      go_roundg kj5
                      case measure => have := HK1.out; have := HJ5.out; omega
                      case rel => exact ⟨(Go.bits .or .u64 x5_1 (ji11)), (wrap64 (x10_1 + 1)), (by first | rfl | (simp; done) | (simp only [hji11v (by first | omega | (simp only [decide_eq_true_eq] at *; omega))]; done) | (simp only [← hji11] <;> (first | rfl | simp)) | (simp [*]; done)), (by first | rfl | (simp; done) | (simp [*]; done)), H', ⟨by have := HK1.out; have := HJ5.out; omega⟩, by repeat (first | exact Drawn0.refl _ | apply Drawn0.step)⟩
                  · rw [if_neg c10] at H
                    exact absurd H (by simp)
          · rw [if_neg c5] at H
            exact absurd H (by simp)
        · rw [if_neg c4] at H
          exact absurd H (by simp)
      · rw [if_neg c3] at H
        have c3b0 : decide (x10_1 < (l0.length : Int)) = false := decide_eq_false c3
        clear c3
        simp only [Option.some.injEq, Prod.mk.injEq] at H
        obtain ⟨rfl, rfl, rfl⟩ := H
        go_wp2
        repeat (go_quiet (fail); try go_wp2)
        go_ret3
        exact ⟨none, 0, rfl, Nat.le_refl _, fun W_ _ => (Kd.R_reads' (Kd.R_nil (Kd.int .u8) 5 W_ 0 (fun _ => True))).2.2, by repeat (first | exact Drawn0.refl _ | apply Drawn0.step)⟩


end Go.Proofs.YtjpjfkmnfppgkaaDoor.P

namespace Go.Proofs.YtjpjfkmnfppgkaaDoor.P
open Go.RowKit Go.Proofs.YtjpjfkmnfppgkaaDoorW.PrintWords Go.Proofs.YtjpjfkmnfppgkaaDoorW.PrintLast Go.Proofs.YtjpjfkmnfppgkaaDoorW.PrintMore
attribute [local go_sem] max2_int min2_int max_two min_two max_three min_three max_four min_four   -- for this text's walks alone
set_option linter.unusedVariables false
set_option linter.unusedSimpArgs false

/-- Numbers off a body, one behind the other. -/
def cofL (k : Nat) : Nat → List Int → List Int → Option (Option (List Int × List Int))
  | 0, all, b => some (some (all, b))
  | n + 1, all, b => (impl_number.f k b).bind fun t => if t.2.2 = true then cofL k n (all ++ [t.1]) t.2.1 else some none
def callEnd (r : Option (List Int × List Int)) : Int × Int × List Int × Bool := match r with
  | none => (0, 0, [], false)
  | some (all, b) => if b.length > 0 then (0, 0, [], false) else if rd all 0 / 4294967296 > 0 then (0, 0, [], false) else if rd all 1 / 4294967296 > 0 then (0, 0, [], false) else (rd all 0 % 4294967296, rd all 1 % 4294967296, all.drop 2, true)
def impl_callOf.f (k : Nat) (l0 : List Int) : Option (Int × Int × List Int × Bool) := (cofL k 8 [] l0).map callEnd
theorem own_empty {W : World} {g base : Nat} {t : TypeId} {d : Kd Int} {ok : Nat → Prop} (h : W.heap[g]? = some (.cells #[] t (0, 0))) (hb : base ≤ g) (hok : ok g) : d.R t W base ok (.slice (some ⟨g, 0, none⟩) 0 0) [] := by
  refine ⟨fun k hk => ?_, [], ⟨by simp, .inr ⟨g, 0, #[], rfl, hb, h, Nat.le_refl _, by simp, by simp, by simp⟩⟩, Reps.none _ _⟩
  have : g = k := by simpa [Value.ownBlock] using hk
  exact this ▸ hok
set_option maxHeartbeats 8000000 in
set_option maxRecDepth 100000 in
theorem impl_callOf.calls (k : Nat) (A0 : Option Addr) (c0 : Nat) (l0 : List Int) (r1 r2 : Int) (r3 : List Int) (r4 : Bool) (w : World) (hr0 : Kd.C (Kd.int .u8) w A0 l0.length l0) (hc0 : l0.length ≤ c0) (h : impl_callOf.f k l0 = some (r1, r2, r3, r4)) :
    Calls Tryd.prog 63 #[.slice A0 l0.length c0] w fun e w' => ∃ v : Value, e = .returned (.tuple #[.agg #[.int .u32 r1, .int .u32 r2, v], .bool r4]) ∧ Kd.Q (Kd.int .u64) 43 w' w.heap.size (fun _ => True) v r3 ∧ Below w.heap.size w w' := by
  obtain ⟨r, hr, hre⟩ := Option.map_eq_some_iff.1 h
  have H' := Aside0.mk hr
  have HE := Aside0.mk hre
  have HR0 := Aside0.mk hr0
  have HC0 := Aside0.mk hc0
  clear h hr0 hc0 hr hre
  go_enter Tryd.func63, Tryd.ntmps63
  go_wp2
  go_loopg [0, 4, 9] 8 (fun kq v0 v4 v9 w' => ∃ (all body : List Int) (A : Option Addr) (c : Nat) (i : Int), v0 = .slice A body.length c ∧ v9 = .int .i64 i ∧ Aside0 (cofL k kq all body = some r) ∧ Aside0 (i + kq = 8 ∧ 0 ≤ i ∧ all.length = i) ∧ Aside0 (body.length ≤ c) ∧ Aside0 (Kd.C (Kd.int .u8) w A body.length body) ∧ Aside0 (Kd.R (Kd.int .u64) 43 w' w.heap.size (fun _ => True) v4 all) ∧ Aside0 (w'.heap[w.heap.size]? = some (.cells #[.int .u32 0, .int .u32 0, .slice none 0 0] 28 (0, 0))) ∧ Aside0 (Below w.heap.size w w'))
  case atStart =>
    refine ⟨[], l0, A0, c0, 0, rfl, rfl, H', ⟨by decide, by decide, rfl⟩, HC0, HR0, ⟨?_⟩, ⟨blk_alloc (blk_new w _) _⟩, ⟨below_alloc (below_alloc (Below.refl _ _) _) _⟩⟩
    exact own_empty (by have := blk_new (w.alloc (.cells #[.int .u32 0, .int .u32 0, .slice none 0 0] 28)) (.cells #[] 43); rw [World.size_alloc] at this; exact this) (by omega) trivial
  case round =>
    clear H' HR0 HC0
    obtain ⟨all, body, A, c, i, rfl, rfl, HA, HI, HC, HR, HO, BK, HB⟩ := hrel
    have gc0 : wr.cell? ⟨w.heap.size, 0, none⟩ = some (.int .u32 0) := blk_cell BK.out 0
    have gc1 : wr.cell? ⟨w.heap.size, 1, none⟩ = some (.int .u32 0) := blk_cell BK.out 1
    have gc2 : wr.cell? ⟨w.heap.size, 2, none⟩ = some (.slice none 0 0) := blk_cell BK.out 2
    have gf0 := blk_frozen BK.out 0
    have gf1 := blk_frozen BK.out 1
    have gf2 := blk_frozen BK.out 2
    cases gk with
    | succ n =>
      have hi := HI.out
      have c1 : decide (i < 8) = true := decide_eq_true (by omega)
      have hA := HA.out
      simp only [cofL] at hA
      obtain ⟨⟨t1, t2, t3⟩, hm, hA⟩ := Option.bind_eq_some_iff.1 hA
      dsimp only at hA
      have HM := Aside0.mk hm
      clear hi hm HA
      cases t3 with
      | false =>
        rw [if_neg (by decide)] at hA
        obtain rfl := Option.some.inj hA
        have he := HE.out
        simp only [callEnd, Prod.mk.injEq] at he
        obtain ⟨rfl, rfl, rfl, rfl⟩ := he
        clear HE hA
        go_wp2_with (go_at_call 67; refine (impl_number.calls k A c body t1 t2 false _ (Kd.C_below HR.out HB.out) HC.out HM.out).mono ?_; rintro e w1 ⟨A1, c1, rfl, hc1, hr1, ⟨⟨nd, rfl⟩⟩⟩; clear hc1 hr1)
        refine bodyPost_ret (v := .tuple #[.agg #[.int .u32 0, .int .u32 0, .slice none 0 0], .bool false]) (by simp [results, Tryd.results63, go_sem, gc0, gc1, gc2]) rfl ⟨_, rfl, Kd.Q_nil _ _ _ _ _, below_set1 (below_set1 (below_set1 (pw_below_drewN HB.out _) (Nat.le_refl _) _) (Nat.le_refl _) _) (Nat.le_refl _) _⟩
      | true =>
        rw [if_pos rfl] at hA
        have HA2 := Aside0.mk hA
        clear hA
        obtain ⟨Ao, co, eo⟩ := Kd.R_slice HO.out
        subst eo
        go_wp2_with (first | (go_at_call 67; refine (impl_number.calls k A c body t1 t2 true _ (Kd.C_below HR.out HB.out) HC.out HM.out).mono ?_; rintro e w1 ⟨A1, c1, rfl, hc1, hr1, ⟨⟨nd, rfl⟩⟩⟩; have HC1 := Aside0.mk hc1; have HR1 := Aside0.mk hr1; clear hc1 hr1) | ((with_reducible refine gate_builtin (b := .append) (xs := #[.tmp 20, .tmp 22]) rfl ?_); at_builtin; refine Kd.R_append (Kd.int .u64) (w0 := w) w.heap.size rfl (.tmp 20) (.tmp 22) 26 43 (.int .u64 0) 8 rfl Tryd.underlying26 info43 rfl (by decide) (by omega) (.slice Ao all.length co) all t1 [.int .u64 t1] (fun _ => True) (fun _ => False) rfl rfl ?aP (fun _ hk => hk.elim) ?aF ?aO ?aB ?aS ?aL ?_; (case aP => exact rfl); (case aB => exact pw_below_drewN HB.out _); (case aF => exact (fun _ _ => trivial)); (case aO => exact Kd.R_drewN HO.out _); (case aS => exact below_size (pw_below_drewN HB.out _)); (case aL => have := HI.out; omega); intro v2 w2 ho hb hg hat; have HO2 := Aside0.mk ho; have HB2 := Aside0.mk hb; have BK2 := Aside0.mk (blk_grown (blk_drewN BK.out nd) hg (Kd.R_ne HO.out BK.out (by decide))); have HG2 := Aside0.mk hg; clear ho hb hg hat))
        go_roundg n
        case measure => have := HI.out; omega
        case rel =>
          have hi := HI.out
          exact ⟨all ++ [t1], t2, A1, c1, i + 1, rfl, by rw [show wrap64 (i + 1) = i + 1 from by unfold wrap64; omega], HA2, ⟨by omega, by omega, by rw [List.length_append, List.length_singleton]; omega⟩, HC1, ⟨HR1.out w HR.out⟩, HO2, BK2, HB2⟩
    | zero =>
      have hi := HI.out
      have c1 : decide (i < 8) = false := decide_eq_false (by omega)
      have hA := HA.out
      simp only [cofL, Option.some.injEq] at hA
      subst hA
      have he := HE.out
      simp only [callEnd] at he
      obtain ⟨A8, co, rfl⟩ := Kd.R_slice HO.out
      obtain ⟨_, hco, hC⟩ := Kd.R_reads' HO.out
      have h8 : all.length = 8 := by omega
      obtain ⟨ad, rfl, hx0⟩ := Kd.at_int hC 0 (by omega) (by omega)
      obtain ⟨ad1, e1, hx1⟩ := Kd.at_int hC 1 (by omega) (by omega)
      obtain rfl := Option.some.inj e1
      obtain ⟨g, rfl⟩ := Kd.R_head HO.out
      simp [Addr.add] at hx0 hx1
      rw [h8] at HO ⊢
      have h80 : 0 < 8 := by omega
      have HC8 := Aside0.mk hco
      clear hi HA HE e1 hC hco HI HC HR
      by_cases b1 : body.length > 0
      · have g1 : decide ((body.length : Int) > 0) = true := decide_eq_true (by omega)
        have g1' : decide (0 < body.length) = true := decide_eq_true (by omega)
        rw [if_pos b1] at he
        simp only [Prod.mk.injEq] at he
        obtain ⟨rfl, rfl, rfl, rfl⟩ := he
        go_wp2
        refine bodyPost_ret (v := .tuple #[.agg #[.int .u32 0, .int .u32 0, .slice none 0 0], .bool false]) (by simp [results, Tryd.results63, go_sem, gc0, gc1, gc2]) rfl ⟨_, rfl, Kd.Q_nil _ _ _ _ _, below_set1 (below_set1 (below_set1 HB.out (Nat.le_refl _) _) (Nat.le_refl _) _) (Nat.le_refl _) _⟩
      · have g1 : decide ((body.length : Int) > 0) = false := decide_eq_false (by omega)
        have g1' : decide (0 < body.length) = false := decide_eq_false (by omega)
        rw [if_neg b1] at he
        by_cases b2 : rd all 0 / 4294967296 > 0
        · have g2 : decide (rd all 0 / 4294967296 > 0) = true := decide_eq_true b2
          rw [if_pos b2] at he
          simp only [Prod.mk.injEq] at he
          obtain ⟨rfl, rfl, rfl, rfl⟩ := he
          go_wp2
          refine bodyPost_ret (v := .tuple #[.agg #[.int .u32 0, .int .u32 0, .slice none 0 0], .bool false]) (by simp [results, Tryd.results63, go_sem, gc0, gc1, gc2]) rfl ⟨_, rfl, Kd.Q_nil _ _ _ _ _, below_set1 (below_set1 (below_set1 HB.out (Nat.le_refl _) _) (Nat.le_refl _) _) (Nat.le_refl _) _⟩
        · have g2 : decide (rd all 0 / 4294967296 > 0) = false := decide_eq_false b2
          rw [if_neg b2] at he
          by_cases b3 : rd all 1 / 4294967296 > 0
          · have g3 : decide (rd all 1 / 4294967296 > 0) = true := decide_eq_true b3
            rw [if_pos b3] at he
            simp only [Prod.mk.injEq] at he
            obtain ⟨rfl, rfl, rfl, rfl⟩ := he
            go_wp2
            refine bodyPost_ret (v := .tuple #[.agg #[.int .u32 0, .int .u32 0, .slice none 0 0], .bool false]) (by simp [results, Tryd.results63, go_sem, gc0, gc1, gc2]) rfl ⟨_, rfl, Kd.Q_nil _ _ _ _ _, below_set1 (below_set1 (below_set1 HB.out (Nat.le_refl _) _) (Nat.le_refl _) _) (Nat.le_refl _) _⟩
          · have g3 : decide (rd all 1 / 4294967296 > 0) = false := decide_eq_false b3
            rw [if_neg b3] at he
            simp only [Prod.mk.injEq] at he
            obtain ⟨rfl, rfl, rfl, rfl⟩ := he
            go_wp2
            have hco2 : ¬ (co = 2) := by have := HC8.out; omega
            have hQ := Kd.Q_drop (Kd.Q_of_R HO.out) (k := 2) (by omega)
            rw [if_neg hco2] at hQ
            simp only [Option.map_some, Nat.reduceSub] at hQ
            have eA : (⟨g, 0, none⟩ : Addr).add (2 * (Kd.int .u64).sz) = ⟨g, 2, none⟩ := rfl
            rw [eA] at hQ
            have hb1 := blk_put BK.out 0 (.int .u32 (rd all 0 % 4294967296)) rfl
            have hb2 := blk_put hb1 1 (.int .u32 (rd all 1 % 4294967296)) rfl
            have hQ' := Kd.Q_drew (Kd.Q_set (Kd.Q_set (Kd.Q_set hQ BK.out (by decide) 0 (.int .u32 (rd all 0 % 4294967296))) hb1 (by decide) 1 (.int .u32 (rd all 1 % 4294967296))) hb2 (by decide) 2 (.slice (some ⟨g, 2, none⟩) 6 (co - 2)))
            have HQ := Aside0.mk hQ'
            clear hQ eA hb1 hb2 hQ'
            go_still_tail 11, (by kernel_rfl)
            change wpList _ _ _ _ _ wr.drew
            go_wp2
            refine bodyPost_ret (v := .tuple #[.agg #[.int .u32 (rd all 0 % 4294967296), .int .u32 (rd all 1 % 4294967296), .slice (some ⟨g, 2, none⟩) 6 (co - 2)], .bool true]) (by simp [results, Tryd.results63, go_sem, gc0, gc1, gc2]) rfl ⟨_, rfl, HQ.out, below_drew1 (below_set1 (below_set1 (below_set1 HB.out (Nat.le_refl _) _) (Nat.le_refl _) _) (Nat.le_refl _) _)⟩

end Go.Proofs.YtjpjfkmnfppgkaaDoor.P

namespace Go.Proofs.YtjpjfkmnfppgkaaDoor.P
open Go.RowKit Go.Proofs.YtjpjfkmnfppgkaaDoorW.PrintWords Go.Proofs.YtjpjfkmnfppgkaaDoorW.PrintLast Go.Proofs.YtjpjfkmnfppgkaaDoorW.PrintMore
set_option linter.unusedVariables false
set_option linter.unusedSimpArgs false
/-! A number off a body. -/
def valB : List Int → Int
  | [] => 0
  | b :: r => b % 128 + 128 * valB r
theorem valB_range : ∀ l : List Int, 0 ≤ valB l ∧ valB l < 128 ^ l.length
  | [] => by simp [valB]
  | b :: r => by
    have := valB_range r
    simp only [valB, List.length_cons, Int.pow_succ]
    omega
theorem valB_snoc (c : Int) : ∀ l : List Int, valB (l ++ [c]) = valB l + 128 ^ l.length * (c % 128)
  | [] => by simp [valB]
  | b :: r => by
    have := valB_snoc c r
    simp only [List.cons_append, valB, List.length_cons, Int.pow_succ, this]
    rw [Int.mul_add, Int.add_assoc]
    congr 2
    rw [Int.mul_comm (128 ^ r.length) 128, Int.mul_assoc]
theorem lt64 {z : Nat} (h : z < 18446744073709551616) : z < 2 ^ IntKind.u64.bits := h
theorem and127 : ∀ b : Fin 256, b.val &&& 127 = b.val % 128 := by decide +kernel
theorem or_shift (v c : Int) (i : Nat) (hi : i ≤ 9) (h0 : 0 ≤ v) (hv : v < 128 ^ i) (hc0 : 0 ≤ c) (hc1 : c < 256) (h9 : i = 9 → c ≤ 1) :
    bits .or .u64 v (shl .u64 (IntKind.u64.wrap (bits .and .u8 c 127)) (wrap64 (7 * (i : Int)))) = v + 128 ^ i * (c % 128) := by
  obtain ⟨a, rfl⟩ := Int.eq_ofNat_of_zero_le hc0
  obtain ⟨n, rfl⟩ := Int.eq_ofNat_of_zero_le h0
  have ha : a < 256 := by omega
  have e1 : bits .and .u8 (a : Int) 127 = ((a % 128 : Nat) : Int) := by
    rw [show (127 : Int) = ((127 : Nat) : Int) from rfl, bits_and_nat .u8 rfl a 127 (by simpa [IntKind.bits] using ha) (by decide)]
    have := and127 ⟨a, ha⟩
    dsimp only at this
    rw [this]
  have hp : (2 : Nat) ^ (7 * i) = 128 ^ i := by rw [Nat.pow_mul]
  have hpi : (128 : Int) ^ i = ((128 ^ i : Nat) : Int) := by simp
  have hb : a % 128 * 128 ^ i < 18446744073709551616 := by
    rcases Nat.lt_or_ge i 9 with h | h
    · have h1 : (128 : Nat) ^ i ≤ 128 ^ 8 := Nat.pow_le_pow_right (by decide) (by omega)
      have h2 : a % 128 < 128 := Nat.mod_lt _ (by decide)
      exact Nat.lt_of_le_of_lt (Nat.mul_le_mul (show a % 128 ≤ 127 by omega) h1) (by decide)
    · have e : i = 9 := by omega
      subst e
      have := h9 rfl
      have h2 : a % 128 ≤ 1 := by omega
      exact Nat.lt_of_le_of_lt (Nat.mul_le_mul h2 (Nat.le_refl (128 ^ 9))) (by decide)
  have hvn : n < 128 ^ i := by rw [hpi] at hv; exact_mod_cast hv
  have hn64 : n < 18446744073709551616 := by
    have h1 : (128 : Nat) ^ i ≤ 128 ^ 9 := Nat.pow_le_pow_right (by decide) hi
    have h2 : (128 : Nat) ^ 9 < 18446744073709551616 := by decide
    omega
  have e2 : IntKind.u64.wrap ((a % 128 : Nat) : Int) = ((a % 128 : Nat) : Int) := wrap_u64_id (by omega) (by omega)
  have e3 : shl .u64 ((a % 128 : Nat) : Int) (wrap64 (7 * (i : Int))) = ((a % 128 * 128 ^ i : Nat) : Int) := by
    unfold shl
    rw [wrap64_id (by omega) (by omega), show (7 * (i : Int)).toNat = 7 * i by omega, Nat.min_eq_left (by simp [IntKind.bits]; omega)]
    have e4 : ((a % 128 : Nat) : Int) * 2 ^ (7 * i) = ((a % 128 * 128 ^ i : Nat) : Int) := by
      rw [← hp]; push_cast; rfl
    rw [e4]
    clear e4
    generalize a % 128 * 128 ^ i = z at hb ⊢
    exact wrap_u64_id (by omega) (by omega)
  rw [e1, e2, e3, bits_or_nat .u64 rfl n (a % 128 * 128 ^ i) (lt64 hn64) (lt64 hb)]
  have h3 : 2 ^ (7 * i) * (a % 128) + n = 2 ^ (7 * i) * (a % 128) ||| n := Nat.two_pow_add_eq_or_of_lt (i := 7 * i) (by rw [hp]; exact hvn) _
  rw [Nat.or_comm, Nat.mul_comm (a % 128), ← hp, ← h3, hpi, ← hp]
  push_cast
  omega
def numG : List Int → List Int → Int × List Int × Bool
  | _, [] => (0, [], false)
  | one, c :: r => if one.length = 9 ∧ c > 1 then (0, [], false) else if c < 128 then (valB (one ++ [c]), r, decide (c ≠ 0 ∨ one.length = 0)) else numG (one ++ [c]) r
theorem numB0 (c : Int) (n : Nat) (h : c = 0) : ((n : Int) == 0) = decide (c ≠ 0 ∨ n = 0) := by
  rw [Bool.eq_iff_iff, beq_iff_eq, decide_eq_true_eq]
  omega
theorem numB1 (c : Int) (n : Nat) (h : c ≠ 0) : decide (c ≠ 0 ∨ n = 0) = true := by
  rw [decide_eq_true_eq]
  exact Or.inl h
theorem numV (c : Int) (i : Nat) (h : i = 9 → c ≤ 1) (e : (i : Int) = 9) : decide (c > 1) = false := by
  have := h (by omega)
  exact decide_eq_false (by omega)
theorem numX (one : List Int) (c : Int) (h : one.length ≤ 9) (h9 : one.length = 9 → c ≤ 1) (c1 : ¬ c < 128) : (one ++ [c]).length ≤ 9 := by
  rw [List.length_append, List.length_singleton]
  by_cases e : one.length = 9
  · have := h9 e; omega
  · omega
theorem numW (i n : Nat) (h : i ≤ 9) (hi : i < n) : 0 ≤ wrap64 (7 * (i : Int)) ∧ wrap64 ((i : Int) + 1) = ((i + 1 : Nat) : Int) ∧ 0 ≤ wrap64 ((i : Int) + 1) ∧ wrap64 ((i : Int) + 1) ≤ (n : Int) := by
  have w7 : wrap64 (7 * (i : Int)) = 7 * (i : Int) := wrap64_id (by omega) (by omega)
  have w1 : wrap64 ((i : Int) + 1) = ((i + 1 : Nat) : Int) := by rw [wrap64_id (by omega) (by omega)]; omega
  rw [w7, w1]
  exact ⟨by omega, rfl, by omega, by omega⟩
theorem number_ev : ∀ (rem one l : List Int), l = one ++ rem → one.length ≤ 9 → l.length ≤ 1000000 → (∀ x ∈ l, 0 ≤ x ∧ x < 256) → Ev (fun k => impl_number.l0 k l (valB one) l (l.length : Int) (one.length : Int)) (numG one rem)
  | [], one, l, e, h9, hl, hb => by
    subst e
    refine ev_end fun k => ?_
    simp only [impl_number.l0, List.append_nil]
    rw [if_neg (by omega)]
    rfl
  | c :: r, one, l, e, h9, hl, hb => by
    have hlen : l.length = one.length + r.length + 1 := by rw [e, List.length_append, List.length_cons]; omega
    have hi : one.length < l.length := by omega
    have hc : rd l (one.length : Int) = c := by rw [rd_eq l one.length hi]; simp [e]
    have hcb := hb c (by rw [e]; simp)
    have hv := valB_range one
    have hdrop : l.drop (one.length + 1) = r := by rw [e]; simp
    have he2 : l = (one ++ [c]) ++ r := by rw [e, List.append_assoc]; rfl
    by_cases c9 : one.length = 9 ∧ c > 1
    · refine ev_step (fun k => impl_number.j1 k l (valB one) (one.length : Int) c l (l.length : Int) (one.length : Int) true) (fun k => ?_) (ev_end fun k => ?_)
      · simp only [impl_number.l0]
        rw [if_pos (by omega), if_pos (by omega), if_pos (by omega), if_pos (by omega), hc, decide_eq_true c9.2]
      · simp only [impl_number.j1, if_true]
        rw [numG, if_pos c9]
    · have h9c : one.length = 9 → c ≤ 1 := fun h => by omega
      have hor := or_shift (valB one) c one.length h9 hv.1 hv.2 hcb.1 hcb.2 h9c
      rw [← valB_snoc] at hor
      refine ev_step (fun k => impl_number.j1 k l (valB one) (one.length : Int) c l (l.length : Int) (one.length : Int) false) (fun k => ?_) ?_
      · simp only [impl_number.l0]
        rw [if_pos (by omega), if_pos (by omega), if_pos (by omega), hc]
        by_cases e9 : (one.length : Int) = 9
        · rw [if_pos e9, numV c one.length h9c e9]
        · rw [if_neg e9]
      · obtain ⟨w7, w1, w2, w3⟩ := numW one.length l.length h9 hi
        by_cases c1 : c < 128
        · refine ev_end fun k => ?_
          simp only [impl_number.j1, Bool.false_eq_true, if_false]
          rw [if_pos w7, if_pos c1, if_pos w2, if_pos w3, Option.bind_some, w1, Int.toNat_natCast, hdrop, hor, numG, if_neg c9, if_pos c1]
          by_cases c0 : c = 0
          · rw [if_pos c0, numB0 c one.length c0]
          · rw [if_neg c0, numB1 c one.length c0]
        · have hrec := number_ev r (one ++ [c]) l he2 (numX one c h9 h9c c1) hl hb
          rw [List.length_append, List.length_singleton] at hrec
          rw [numG, if_neg c9, if_neg c1]
          refine ev_step (fun k => impl_number.l0 k l (valB (one ++ [c])) l (l.length : Int) ((one.length + 1 : Nat) : Int)) (fun k => ?_) hrec
          simp only [impl_number.j1, Bool.false_eq_true, if_false]
          rw [if_pos w7, if_neg c1, hor, w1]
theorem numberF_ev (l : List Int) (hl : l.length ≤ 1000000) (hb : ∀ x ∈ l, 0 ≤ x ∧ x < 256) : Ev (fun k => impl_number.f k l) (numG [] l) := number_ev l [] l rfl (by simp) hl hb
theorem numG_mem : ∀ (rem one : List Int), ∀ x ∈ (numG one rem).2.1, x ∈ rem
  | [], one, x, hx => by simp [numG] at hx
  | c :: r, one, x, hx => by
    unfold numG at hx
    split at hx
    · simp at hx
    · split at hx
      · exact List.mem_cons_of_mem _ hx
      · exact List.mem_cons_of_mem _ (numG_mem r _ x hx)
theorem numG_len : ∀ (rem one : List Int), (numG one rem).2.1.length ≤ rem.length
  | [], one => by simp [numG]
  | c :: r, one => by
    unfold numG
    split
    · simp
    · split
      · simp
      · have := numG_len r (one ++ [c]); rw [List.length_cons]; omega
/-- The numbers that a body begins with. -/
def cofG : Nat → List Int → List Int → Option (List Int × List Int)
  | 0, all, b => some (all, b)
  | n + 1, all, b => if (numG [] b).2.2 = true then cofG n (all ++ [(numG [] b).1]) (numG [] b).2.1 else none
theorem cofL_ev : ∀ (n : Nat) (all b : List Int), b.length ≤ 1000000 → (∀ x ∈ b, 0 ≤ x ∧ x < 256) → Ev (fun k => cofL k n all b) (cofG n all b)
  | 0, all, b, hl, hb => ⟨0, fun k _ => rfl⟩
  | n + 1, all, b, hl, hb => by
    refine Ev.congr (f := fun k => (impl_number.f k b).bind fun t => if t.2.2 = true then cofL k n (all ++ [t.1]) t.2.1 else some none) (fun k => rfl) (Ev.bind (f := fun k t => if t.2.2 = true then cofL k n (all ++ [t.1]) t.2.1 else some none) (numberF_ev b hl hb) ?_)
    unfold cofG
    by_cases c : (numG [] b).2.2 = true
    · rw [if_pos c]
      refine Ev.congr (fun k => by rw [if_pos c]) (cofL_ev n _ _ (Nat.le_trans (numG_len b []) hl) (fun x hx => hb x (numG_mem b [] x hx)))
    · rw [if_neg c]
      exact Ev.congr (fun k => by rw [if_neg c]) (Ev.now _)
theorem implCallOf_ev (b : List Int) (hl : b.length ≤ 1000000) (hb : ∀ x ∈ b, 0 ≤ x ∧ x < 256) : Ev (fun k => impl_callOf.f k b) (callEnd (cofG 8 [] b)) := by
  obtain ⟨K, hK⟩ := ev_get (cofL_ev 8 [] b hl hb)
  exact ev_mk K fun k hk => by unfold impl_callOf.f; rw [hK k hk]; rfl
end Go.Proofs.YtjpjfkmnfppgkaaDoor.P
