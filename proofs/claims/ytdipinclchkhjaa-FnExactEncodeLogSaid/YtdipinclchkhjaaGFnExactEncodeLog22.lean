import Derived.Test.YtdipinclchkhjaaGFnExactEncodeLog1
import Derived.Test.YtdipinclchkhjaaGFnExactEncodeLog2
import Derived.Test.YtdipinclchkhjaaGFnExactEncodeLog21
import Derived.Test.YtdipinclchkhjaaGFnExactEncodeLog19
import Derived.Test.YtdipinclchkhjaaGFnExactEncodeLog9
import Derived.Test.YtdipinclchkhjaaGFnExactEncodeLog17
import Derived.Test.YtdipinclchkhjaaGFnExactEncodeLog11
import Derived.Test.YtdipinclchkhjaaGFnExactEncodeLog18
import Derived.Test.YtdipinclchkhjaaGFnExactEncodeLog5
namespace Go.Proofs.Ytdipinclchkhjaa.P
open Go.RowKit Go.Proofs.YtdipinclchkhjaaW.PrintWords Go.Proofs.YtdipinclchkhjaaW.PrintLast Go.Proofs.YtdipinclchkhjaaW.PrintMore
attribute [local go_sem] max2_int min2_int max_two min_two max_three min_three max_four min_four   -- for this text's walks alone
set_option linter.unusedVariables false
set_option linter.unusedSimpArgs false

/-! ### laws_heldByteS: function 34 -/
def laws_heldByteS.l0 : Nat → List Int → Int → Int → Option (Int)
  | 0, _, _, _ => none
  | k + 1, x0, x1, x5 => if x5 < (x0.length : Int) then (if 0 ≤ x5 then (if (rd x0 x5) = ((x1) % 256) then (laws_heldByteS.l0 k x0 (wrap64 (x1 + 1)) (wrap64 (x5 + 1))) else (some (-1))) else (none)) else (some x1)
def laws_heldByteS.f (k : Nat) (l0 : List Int) (a1 : Int) : Option (Int) := laws_heldByteS.l0 k l0 a1 0
theorem laws_heldByteS.mono_l : ∀ k, (∀ y0 y1 y2, LeO (laws_heldByteS.l0 k y0 y1 y2) (laws_heldByteS.l0 (k + 1) y0 y1 y2))
  | 0 => fun _ _ _ r h => by simp [laws_heldByteS.l0] at h
  | k + 1 => by
    have ih0 := laws_heldByteS.mono_l k
    · intro y0 y1 y2
      unfold laws_heldByteS.l0
      repeat' first
      | (with_reducible exact ih0 _ _ _)
      | (with_reducible exact LeO.refl _)
      | (with_reducible exact LeO.none _)
      | (with_reducible refine LeO.ite ?_ ?_)
      | (with_reducible refine LeO.bind ?_ (fun _ => ?_))
      | exact ih0 _ _ _
      | exact LeO.none _
      | refine LeO.ite ?_ ?_
      | refine LeO.bind ?_ (fun _ => ?_)
theorem laws_heldByteS.mono : ∀ a0 a1 k, LeO (laws_heldByteS.f k a0 a1) (laws_heldByteS.f (k + 1) a0 a1) := by
  intro a0 a1 k
  have ih0 := laws_heldByteS.mono_l k
  unfold laws_heldByteS.f
  repeat' first
      | (with_reducible exact ih0 _ _ _)
      | (with_reducible exact LeO.refl _)
      | (with_reducible exact LeO.none _)
      | (with_reducible refine LeO.ite ?_ ?_)
      | (with_reducible refine LeO.bind ?_ (fun _ => ?_))
      | exact ih0 _ _ _
      | exact LeO.none _
      | refine LeO.ite ?_ ?_
      | refine LeO.bind ?_ (fun _ => ?_)
set_option maxHeartbeats 8000000 in
set_option maxRecDepth 100000 in
theorem laws_heldByteS.calls (k : Nat) (A0 : Option Addr) (c0 : Nat) (l0 : List Int) (a1 : Int) (r : Int) (w : World) (hr0 : Kd.C (Kd.int .u8) w A0 l0.length l0) (hc0 : l0.length ≤ c0) (h : laws_heldByteS.f k l0 a1 = some r) :
    Calls Try.prog 34 #[.slice A0 l0.length c0, .int .i64 a1] w fun e w' => e = .returned (.int .i64 r) ∧ Drawn0 w w' := by
  have HR0 := Aside0.mk hr0
  have HC0 := Aside0.mk hc0
  clear hr0 hc0
  have H : (laws_heldByteS.l0 k l0 a1 0) = some r := h
  clear h
  have H' := Aside0.mk H
  clear H
  go_enter Try.func34, Try.ntmps34
  go_wp2
  go_loopg [1, 5] k (fun kq v1 v5 w' => ∃ (x1_1 : Int) (x5_1 : Int), v1 = .int .i64 x1_1 ∧ v5 = .int .i64 x5_1 ∧ Aside0 (laws_heldByteS.l0 kq l0 x1_1 x5_1 = some r) ∧ Aside0 (kq ≤ k) ∧ Drawn0 w w')
  case atStart => exact ⟨(a1), (0), (by first | rfl | (simp; done) | (simp [*]; done)), (by first | rfl | (simp; done) | (simp [*]; done)), H', ⟨Nat.le_refl _⟩, by repeat (first | exact Drawn0.refl _ | apply Drawn0.step)⟩
  case round =>
    clear H'
    try clear p2
    obtain ⟨x1_1, x5_1, rfl, rfl, HA, HK1, ⟨m1, rfl⟩⟩ := hrel
    cases gk with
    | zero => exact absurd HA.out (by simp [laws_heldByteS.l0])
    | succ k1 =>
      have H := HA.out
      clear HA
      simp only [laws_heldByteS.l0] at H
      by_cases c3 : x5_1 < (l0.length : Int)
      · rw [if_pos c3] at H
        have c3b0 : decide (x5_1 < (l0.length : Int)) = true := decide_eq_true c3
        clear c3
        by_cases c4 : 0 ≤ x5_1
        · rw [if_pos c4] at H
          have c4b0 : decide (0 ≤ x5_1) = true := decide_eq_true c4
          clear c4
          by_cases c5 : (rd l0 x5_1) = ((x1_1) % 256)
          · rw [if_pos c5] at H
            have c5b0 : ((rd l0 x5_1) == ((x1_1) % 256)) = true := beq_iff_eq.mpr c5
            have c5b1 : ((rd l0 x5_1) != ((x1_1) % 256)) = false := bne_eq_false_iff_eq.mpr c5
            clear c5
            have H' := Aside0.mk H
            clear H
            have p422 : 0 ≤ (x5_1 : Int) := of_decide_eq_true (by first | (with_reducible assumption) | assumption)
            have q422 : x5_1 < (l0.length : Int) := of_decide_eq_true (by first | (with_reducible assumption) | assumption)
            obtain ⟨ad422, e422, hx422_0⟩ := Kd.at_int HR0.out x5_1 p422 q422
            cases e422
            replace p422 := eq_true p422
            replace q422 := eq_true q422
            go_wp2
            go_roundg k1
            case measure => have := HK1.out; omega
            case rel => exact ⟨(wrap64 (x1_1 + 1)), (wrap64 (x5_1 + 1)), (by first | rfl | (simp; done) | (simp [*]; done)), (by first | rfl | (simp; done) | (simp [*]; done)), H', ⟨by have := HK1.out; omega⟩, by repeat (first | exact Drawn0.refl _ | apply Drawn0.step)⟩
          · rw [if_neg c5] at H
            have c5b0 : ((rd l0 x5_1) == ((x1_1) % 256)) = false := beq_eq_false_iff_ne.mpr c5
            have c5b1 : ((rd l0 x5_1) != ((x1_1) % 256)) = true := bne_iff_ne.mpr c5
            obtain rfl := Option.some.inj H
            have p422 : 0 ≤ (x5_1 : Int) := of_decide_eq_true (by first | (with_reducible assumption) | assumption)
            have q422 : x5_1 < (l0.length : Int) := of_decide_eq_true (by first | (with_reducible assumption) | assumption)
            obtain ⟨ad422, e422, hx422_0⟩ := Kd.at_int HR0.out x5_1 p422 q422
            cases e422
            replace p422 := eq_true p422
            replace q422 := eq_true q422
            go_wp2
            go_ret
            exact ⟨by first | rfl | (simp; done) | (simp [*]; done), by repeat (first | exact Drawn0.refl _ | apply Drawn0.step)⟩
        · rw [if_neg c4] at H
          exact absurd H (by simp)
      · rw [if_neg c3] at H
        have c3b0 : decide (x5_1 < (l0.length : Int)) = false := decide_eq_false c3
        clear c3
        obtain rfl := Option.some.inj H
        go_wp2
        go_ret
        exact ⟨by first | rfl | (simp; done) | (simp [*]; done), by repeat (first | exact Drawn0.refl _ | apply Drawn0.step)⟩

end Go.Proofs.Ytdipinclchkhjaa.P

namespace Go.Proofs.Ytdipinclchkhjaa.P
open Go.RowKit Go.Proofs.YtdipinclchkhjaaW.PrintWords Go.Proofs.YtdipinclchkhjaaW.PrintLast Go.Proofs.YtdipinclchkhjaaW.PrintMore
set_option linter.unusedVariables false
set_option linter.unusedSimpArgs false

/-- Marks, one after another. -/
def marks (n : Nat) (k0 : Int) : List Int := (List.range n).map fun i : Nat => (k0 + (i : Int)) % 256
theorem marks_length (n : Nat) (k0 : Int) : (marks n k0).length = n := by simp [marks]
theorem marks_get (n : Nat) (k0 : Int) (i : Nat) (h : i < n) : rd (marks n k0) (i : Int) = (k0 + i) % 256 := by
  rw [rd_eq _ i (by rw [marks_length]; exact h)]
  simp [marks]
theorem markByteS_ev (l : List Int) (k0 : Int) (h0 : 0 ≤ k0) (h1 : k0 ≤ 1000000) (hl : l.length ≤ 140737488355328) : Ev (fun k => laws_markByteS.f k l k0) (k0 + (l.length : Int), marks l.length k0) := by
  have key := ev_loop (fun k (s : Int × List Int) i => laws_markByteS.l0 k s.2 s.1 i) l.length (fun i => (k0 + (i : Int), (marks i k0) ++ l.drop i)) (k0, l) (k0 + (l.length : Int), marks l.length k0) (by simp [marks]) (by simp) (fun i hi r hr => by
    have hlen : ((marks i k0) ++ l.drop i).length = l.length := by rw [List.length_append, marks_length, List.length_drop]; omega
    refine ev_step _ (fun k => ?_) hr
    simp only [laws_markByteS.l0]
    rw [hlen, if_pos (by omega), if_pos (by omega), wrap64_id (by omega) (by omega), wrap64_id (by omega) (by omega), Int.toNat_natCast]
    have e : ((marks i k0) ++ l.drop i).set i ((k0 + (i : Int)) % 256) = marks (i + 1) k0 ++ l.drop (i + 1) := by
      rw [List.set_append_right i _ (by rw [marks_length]; omega), marks_length, Nat.sub_self, List.drop_eq_getElem_cons hi, List.set_cons_zero]
      unfold marks
      rw [List.range_succ, List.map_append, List.append_assoc]
      rfl
    rw [e, show k0 + (i : Int) + 1 = k0 + ((i + 1 : Nat) : Int) by omega]
    rfl) (k0 + (l.length : Int), marks l.length k0)
  refine Ev.congr (fun k => rfl) (key (ev_end fun k => ?_))
  simp only [laws_markByteS.l0]
  rw [marks_length, if_neg (by omega)]
theorem heldByteS_ev (n : Nat) (k0 : Int) (h0 : 0 ≤ k0) (h1 : k0 ≤ 1000000) (hl : n ≤ 140737488355328) : Ev (fun k => laws_heldByteS.f k (marks n k0) k0) (k0 + (n : Int)) := by
  have key := ev_loop (fun k s i => laws_heldByteS.l0 k (marks n k0) s i) n (fun i => k0 + (i : Int)) k0 (k0 + (n : Int)) (by simp) rfl (fun i hi r hr => by
    refine ev_step _ (fun k => ?_) hr
    simp only [laws_heldByteS.l0]
    rw [marks_length, if_pos (by omega), if_pos (by omega), marks_get n k0 i hi, if_pos rfl, wrap64_id (by omega) (by omega), wrap64_id (by omega) (by omega), show k0 + (i : Int) + 1 = k0 + ((i + 1 : Nat) : Int) by omega]
    rfl) (k0 + (n : Int))
  refine Ev.congr (fun k => rfl) (key (ev_end fun k => ?_))
  simp only [laws_heldByteS.l0]
  rw [marks_length, if_neg (by omega)]
end Go.Proofs.Ytdipinclchkhjaa.P

namespace Go.Proofs.Ytdipinclchkhjaa.P
open Go.RowKit Go.Proofs.YtdipinclchkhjaaW.PrintWords Go.Proofs.YtdipinclchkhjaaW.PrintLast Go.Proofs.YtdipinclchkhjaaW.PrintMore
attribute [local go_sem] max2_int min2_int max_two min_two max_three min_three max_four min_four   -- for this text's walks alone
set_option linter.unusedVariables false
set_option linter.unusedSimpArgs false

-- HAND 6
-- IMPORT Derived.Test.YtdipinclchkhjaaHBase
def laws_FnExactEncodeLog.f (k : Nat) (l0 : List (S82)) : Option Bool :=
  (laws_szCallS.f k l0 1048576).bind fun t => if t < 0 then some true else
  (laws_toCallS.f k l0).bind fun a => (spec_EncodeLog.f k a).bind fun b => (laws_toCallS.f k l0).bind fun x => (impl_EncodeLog.f k x).bind fun g =>
  (laws_eqByteS.f k g b).bind fun e1 => if e1 = true then
  (laws_toCallS.f k l0).bind fun y => (laws_eqCallS.f k x y).bind fun e2 => if e2 = true then
  (laws_markCallS.f k x 1).bind fun km => if km.1 < 0 then none else
  (laws_markByteS.f k g 1).bind fun mm => (laws_heldByteS.f k mm.2 1).bind fun q => if q < 0 then none else if q = mm.1 then
  (laws_toCallS.f k l0).bind fun z => (impl_EncodeLog.f k z).bind fun h => (laws_eqByteS.f k h b).bind fun e4 => if e4 = true then some true else none else none else none else none
set_option maxHeartbeats 8000000 in
set_option maxRecDepth 100000 in
theorem laws_FnExactEncodeLog.calls (k : Nat) (A0 : Option Addr) (c0 : Nat) (l0 : List (S82)) (r : Bool) (w : World) (hr0 : Kd.C k82 w A0 l0.length l0) (hc0 : l0.length ≤ c0) (h : laws_FnExactEncodeLog.f k l0 = some r) :
    Calls Try.prog 6 #[.slice A0 l0.length c0] w fun e w' => e = .returned (.bool r) ∧ Below w.heap.size w w' := by
  unfold laws_FnExactEncodeLog.f at h
  replace h := Option.bind_eq_some_iff.1 h
  obtain ⟨t, h1, h⟩ := h
  have HR0 := Aside0.mk hr0
  have HC0 := Aside0.mk hc0
  have H1 := Aside0.mk h1
  clear hr0 hc0 h1
  by_cases ct : t < 0
  · rw [if_pos ct] at h
    obtain rfl := Option.some.inj h
    have ctb : decide (t < 0) = true := decide_eq_true ct
    clear h ct
    go_enter Try.func6, Try.ntmps6
    go_wp2_with (go_at_call 26; refine (laws_szCallS.calls k A0 c0 l0 _ t _ HR0.out HC0.out H1.out).mono ?_; rintro e w1 ⟨rfl, hb⟩; have HB1 := Aside0.mk hb; clear hb)
    go_ret
    exact ⟨rfl, HB1.out⟩
  · rw [if_neg ct] at h
    have ctb : decide (t < 0) = false := decide_eq_false ct
    replace h := Option.bind_eq_some_iff.1 h
    obtain ⟨a, h2, h⟩ := h
    replace h := Option.bind_eq_some_iff.1 h
    obtain ⟨b, h3, h⟩ := h
    replace h := Option.bind_eq_some_iff.1 h
    obtain ⟨x, h4, h⟩ := h
    replace h := Option.bind_eq_some_iff.1 h
    obtain ⟨g, h5, h⟩ := h
    replace h := Option.bind_eq_some_iff.1 h
    obtain ⟨e1, h6, h⟩ := h
    by_cases ee : e1 = true
    case neg => rw [if_neg ee] at h; exact absurd h (by simp)
    rw [if_pos ee] at h
    subst ee
    replace h := Option.bind_eq_some_iff.1 h
    obtain ⟨y, h7, h⟩ := h
    replace h := Option.bind_eq_some_iff.1 h
    obtain ⟨e2, h8, h⟩ := h
    by_cases ee : e2 = true
    case neg => rw [if_neg ee] at h; exact absurd h (by simp)
    rw [if_pos ee] at h
    subst ee
    replace h := Option.bind_eq_some_iff.1 h
    obtain ⟨⟨km, xm⟩, h9, h⟩ := h
    dsimp only at h
    by_cases ck : km < 0
    case pos => rw [if_pos ck] at h; exact absurd h (by simp)
    rw [if_neg ck] at h
    have ckb : decide (km < 0) = false := decide_eq_false ck
    replace h := Option.bind_eq_some_iff.1 h
    obtain ⟨⟨m, gm⟩, h10, h⟩ := h
    replace h := Option.bind_eq_some_iff.1 h
    obtain ⟨q, h11, h⟩ := h
    dsimp only at h h11
    by_cases cq : q < 0
    case pos => rw [if_pos cq] at h; exact absurd h (by simp)
    rw [if_neg cq] at h
    by_cases ee : q = m
    case neg => rw [if_neg ee] at h; exact absurd h (by simp)
    rw [if_pos ee] at h
    subst ee
    have cqb : decide (q < 0) = false := decide_eq_false cq
    replace h := Option.bind_eq_some_iff.1 h
    obtain ⟨z, h12, h⟩ := h
    replace h := Option.bind_eq_some_iff.1 h
    obtain ⟨v, h13, h⟩ := h
    replace h := Option.bind_eq_some_iff.1 h
    obtain ⟨e4, h14, h⟩ := h
    by_cases ee : e4 = true
    case neg => rw [if_neg ee] at h; exact absurd h (by simp)
    rw [if_pos ee] at h
    subst ee
    obtain rfl := Option.some.inj h
    have H2 := Aside0.mk h2; have H3 := Aside0.mk h3; have H4 := Aside0.mk h4; have H5 := Aside0.mk h5; have H6 := Aside0.mk h6; have H7 := Aside0.mk h7; have H8 := Aside0.mk h8
    have H9 := Aside0.mk h9; have H10 := Aside0.mk h10; have H11 := Aside0.mk h11; have H12 := Aside0.mk h12; have H13 := Aside0.mk h13; have H14 := Aside0.mk h14
    clear h2 h3 h4 h5 h6 h7 h8 h9 h10 h11 h12 h13 h14 h ct ck cq
    go_enter Try.func6, Try.ntmps6
    go_wp2_with (go_at_call 26; refine (laws_szCallS.calls k A0 c0 l0 _ t _ HR0.out HC0.out H1.out).mono ?_; clear H1; rintro e w1 ⟨rfl, hb⟩; have HB1 := Aside0.mk hb; clear hb)
    go_wp2_with (go_at_call 28; refine (laws_toCallS.calls k A0 c0 l0 a _ (Kd.C_below HR0.out HB1.out) HC0.out H2.out).mono ?_; clear H2; rintro e w2 ⟨va, rfl, hs, hb⟩; have HB2 := Aside0.mk (below_call HB1.out hb HB1.out.size); obtain ⟨Aa, ca, rfl⟩ := Kd.S_slice hs; have HSa := Aside0.mk hs; clear hb hs)
    go_wp2_with (go_at_call 27; refine (spec_EncodeLog.calls k Aa ca a b _ (Kd.S_reads' HSa.out).2.2 (Kd.S_reads' HSa.out).2.1 H3.out).mono ?_; clear H3; rintro e w3 ⟨vb, rfl, hr, hb⟩; have HB3 := Aside0.mk (below_call HB2.out hb HB2.out.size); obtain ⟨Ab, cb, rfl⟩ := Kd.R_slice hr; have HRb := Aside0.mk hr; clear hb hr HSa)
    go_wp2_with (go_at_call 28; refine (laws_toCallS.calls k A0 c0 l0 x _ (Kd.C_below HR0.out HB3.out) HC0.out H4.out).mono ?_; clear H4; rintro e w4 ⟨vx, rfl, hs, hb⟩; have HB4 := Aside0.mk (below_call HB3.out hb HB3.out.size); have HD4 := Aside0.mk hb; obtain ⟨Ax, cx, rfl⟩ := Kd.S_slice hs; have HSx := Aside0.mk hs; clear hb hs)
    go_wp2_with (go_at_call 29; refine (impl_EncodeLog.calls k Ax cx x g _ (Kd.S_reads' HSx.out).2.2 (Kd.S_reads' HSx.out).2.1 H5.out).mono ?_; clear H5; rintro e w5 ⟨vg, rfl, hr, hb⟩; have HB5 := Aside0.mk (below_call HB4.out hb HB4.out.size); have HD5 := Aside0.mk (below_call HD4.out hb HD4.out.size); have HE5 := Aside0.mk hb; obtain ⟨Ag, cg, rfl⟩ := Kd.R_slice hr; have HRg := Aside0.mk hr; clear hb hr)
    go_wp2_with (go_at_call 30; refine (laws_eqByteS.calls k Ag cg g Ab cb b true _ (Kd.R_reads' HRg.out).2.2 (Kd.R_reads' HRg.out).2.1 (Kd.C_below (Kd.R_reads' HRb.out).2.2 HD5.out) (Kd.R_reads' HRb.out).2.1 H6.out).mono ?_; clear HB4; rintro e w6 ⟨rfl, ⟨n, hn⟩⟩; have hb : Below w5.heap.size w5 w6 := (by rw [hn]; exact pw_below_drewN (Below.refl _ _) n); clear hn; have HB6 := Aside0.mk (below_call HB5.out hb HB5.out.size); have HD6 := Aside0.mk (below_call HD5.out hb HD5.out.size); have HE6 := Aside0.mk (below_call HE5.out hb HE5.out.size); have HF6 := Aside0.mk hb; clear hb)
    go_wp2_with (go_at_call 28; refine (laws_toCallS.calls k A0 c0 l0 y _ (Kd.C_below HR0.out HB6.out) HC0.out H7.out).mono ?_; clear H7; rintro e w7 ⟨vy, rfl, hs, hb⟩; have HB7 := Aside0.mk (below_call HB6.out hb HB6.out.size); have HD7 := Aside0.mk (below_call HD6.out hb HD6.out.size); have HE7 := Aside0.mk (below_call HE6.out hb HE6.out.size); have HF7 := Aside0.mk (below_call HF6.out hb HF6.out.size); obtain ⟨Ay, cy, rfl⟩ := Kd.S_slice hs; have HSy := Aside0.mk hs; clear hb hs)
    go_wp2_with (go_at_call 31; refine (laws_eqCallS.calls k Ax cx x Ay cy y true _ (Kd.C_below (Kd.S_reads' HSx.out).2.2 HE7.out) (Kd.S_reads' HSx.out).2.1 (Kd.S_reads' HSy.out).2.2 (Kd.S_reads' HSy.out).2.1 H8.out).mono ?_; clear H8 HSy; rintro e w8 ⟨rfl, hb⟩; have HD8 := Aside0.mk (below_call HD7.out hb HD7.out.size); have HE8 := Aside0.mk (below_call HE7.out hb HE7.out.size); have HF8 := Aside0.mk (below_call HF7.out hb HF7.out.size); clear hb)
    go_wp2_with (go_at_call 32; refine (laws_markCallS.calls k (fun k_ => k_ < w4.heap.size) _ x 1 km xm w3 _ HD8.out (Kd.S_below (Kd.S_mono (Kd.S_bound HSx.out) (fun _ hk => hk.2.2.1)) HE8.out) H9.out).mono ?_; clear H9; rintro e w9 ⟨rfl, _, hd, hk⟩; have HD9 := Aside0.mk hd; have HRg9 := Aside0.mk (Kd.R_lower (Kd.R_step (w1 := w9) (Kd.R_below (Kd.R_mono (Kd.R_bound HRg.out) (fun k_ hk_ => hk_.2.1)) HF8.out) (fun k_ h1_ h2_ => hk.2 k_ h2_ (Nat.not_lt.2 h1_))) HD4.out.size); clear hd hk HRg HSx HB5 HB6 HB7 HD5 HD6 HD7 HD8 HE5 HE6 HE7 HE8 HF6 HF7 HF8)
    go_wp2_with (go_at_call 30; refine (laws_eqByteS.calls k Ag cg g Ab cb b true _ (Kd.R_reads' HRg9.out).2.2 (Kd.R_reads' HRg9.out).2.1 (Kd.C_below (Kd.R_reads' HRb.out).2.2 HD9.out) (Kd.R_reads' HRb.out).2.1 H6.out).mono ?_; clear H6; rintro e w10 ⟨rfl, ⟨n, hn⟩⟩; have hb : Below w9.heap.size w9 w10 := (by rw [hn]; exact pw_below_drewN (Below.refl _ _) n); clear hn; have HD10 := Aside0.mk (below_call HD9.out hb HD9.out.size); have HRg10 := Aside0.mk (Kd.R_below HRg9.out hb); clear hb HRg9 HD9)
    go_wp2_with (go_at_call 33; refine (laws_markByteS.calls k _ _ g 1 q gm w3 _ HD10.out HRg10.out H10.out).mono ?_; clear H10; rintro e w11 ⟨rfl, hr, hd, _⟩; have HD11 := Aside0.mk hd; have HRm := Aside0.mk hr; have HL := Aside0.mk (Kd.R_reads' hr).1; clear hd hr HRg10 HD10)
    go_wp2_with (go_at_call 34; refine (calls_of_args (args' := #[.slice Ag gm.length cg, .int .i64 1]) (by rw [HL.out]) (laws_heldByteS.calls k Ag cg gm 1 q _ (Kd.R_reads' HRm.out).2.2 (HL.out ▸ (Kd.R_reads' HRm.out).2.1) H11.out)).mono ?_; rintro e w12 ⟨rfl, ⟨n, hn⟩⟩; have hb : Below w11.heap.size w11 w12 := (by rw [hn]; exact pw_below_drewN (Below.refl _ _) n); clear hn; have HD12 := Aside0.mk (below_call HD11.out hb HD11.out.size); have HM12 := Aside0.mk hb; clear hb)
    go_wp2_with (go_at_call 28; refine (laws_toCallS.calls k A0 c0 l0 z _ (Kd.C_below HR0.out (below_call HB3.out HD12.out HB3.out.size)) HC0.out H12.out).mono ?_; clear H12; rintro e w13 ⟨vz, rfl, hs, hb⟩; have HD13 := Aside0.mk (below_call HD12.out hb HD12.out.size); have HM13 := Aside0.mk (below_call HM12.out hb HM12.out.size); obtain ⟨Az, cz, rfl⟩ := Kd.S_slice hs; have HSz := Aside0.mk hs; clear hb hs)
    go_wp2_with (go_at_call 29; refine (impl_EncodeLog.calls k Az cz z v _ (Kd.S_reads' HSz.out).2.2 (Kd.S_reads' HSz.out).2.1 H13.out).mono ?_; clear H13; rintro e w14 ⟨vv, rfl, hr, hb⟩; have HD14 := Aside0.mk (below_call HD13.out hb HD13.out.size); have HM14 := Aside0.mk (below_call HM13.out hb HM13.out.size); obtain ⟨Av, cv, rfl⟩ := Kd.R_slice hr; have HRv := Aside0.mk hr; clear hb hr HSz HD12 HM12)
    go_wp2_with (go_at_call 30; refine (laws_eqByteS.calls k Av cv v Ab cb b true _ (Kd.R_reads' HRv.out).2.2 (Kd.R_reads' HRv.out).2.1 (Kd.C_below (Kd.R_reads' HRb.out).2.2 HD14.out) (Kd.R_reads' HRb.out).2.1 H14.out).mono ?_; clear H14; rintro e w15 ⟨rfl, ⟨n, hn⟩⟩; have hb : Below w14.heap.size w14 w15 := (by rw [hn]; exact pw_below_drewN (Below.refl _ _) n); clear hn; have HD15 := Aside0.mk (below_call HD14.out hb HD14.out.size); have HM15 := Aside0.mk (below_call HM14.out hb HM14.out.size); clear hb HD13 HM13)
    go_wp2_with (go_at_call 34; refine (calls_of_args (args' := #[.slice Ag gm.length cg, .int .i64 1]) (by rw [HL.out]) (laws_heldByteS.calls k Ag cg gm 1 q _ (Kd.C_below (Kd.R_reads' HRm.out).2.2 HM15.out) (HL.out ▸ (Kd.R_reads' HRm.out).2.1) H11.out)).mono ?_; rintro e w16 ⟨rfl, ⟨n, hn⟩⟩; have hb : Below w15.heap.size w15 w16 := (by rw [hn]; exact pw_below_drewN (Below.refl _ _) n); clear hn; have HD16 := Aside0.mk (below_call HD15.out hb HD15.out.size); clear hb)
    go_ret
    exact ⟨rfl, below_call HB3.out HD16.out HB3.out.size⟩

end Go.Proofs.Ytdipinclchkhjaa.P
