import Derived.Test.YtgmbahldjiiajaaGFnExactCompile4
import Derived.Test.YtgmbahldjiiajaaGFnExactCompile12
import Derived.Sort.AtCall
namespace Go.Proofs.Ytgmbahldjiiajaa.P
open Go.RowKit Go.Proofs.YtgmbahldjiiajaaW.PrintWords Go.Proofs.YtgmbahldjiiajaaW.PrintLast Go.Proofs.YtgmbahldjiiajaaW.PrintMore
set_option linter.unusedVariables false
set_option linter.unusedSimpArgs false

def wLow (a low far p : Int) : List S69 := [wLoad (wrap64 (low + 4)), wBranch 1 37 (a / 4294967296 % 4294967296) p, wBranch 2 21 (a / 4294967296 % 4294967296) far, wLoad low, wBranch 2 53 (a % 4294967296) far, wHere p]
def wHigh (b low far p : Int) : List S69 := [wLoad (wrap64 (low + 4)), wBranch 1 37 (b / 4294967296 % 4294967296) far, wBranch 2 21 (b / 4294967296 % 4294967296) p, wLoad low, wBranch 1 37 (b % 4294967296) far, wHere p]
def wBetL (a b lab : Int) : Int := if b = 18446744073709551615 then (if a = 0 then lab else wrap64 (lab + 1)) else wrap64 ((if a = 0 then lab else wrap64 (lab + 1)) + 1)
def wBet (a b low far lab : Int) : List S69 := (if a = 0 then [] else wLow a low far (wrap64 (lab + 1))) ++ (if b = 18446744073709551615 then [] else wHigh b low far (wBetL a b lab))
theorem wBet_length (a b low far lab : Int) : (wBet a b low far lab).length ≤ 12 := by
 unfold wBet
 rw [List.length_append]
 split <;> split <;> simp [wLow, wHigh]
set_option maxHeartbeats 8000000 in
set_option maxRecDepth 100000 in
theorem writer_between.does {w0 w : World} {g : Nat} {v : Value} {items : List S69} {lab : Int} (h : IsW w0 w g v items lab) (a b low far : Int) (hl : items.length + 16 < 1073741824) : Calls Try.prog 70 #[.pointer (some ⟨g, 0, none⟩), .int .u64 a, .int .u64 b, .int .i64 low, .int .i64 far] w (Wrote w0 w g v (items ++ wBet a b low far lab) (wBetL a b lab)) := by
 have HW := Za.mk h
 have HK := Za.mk (KeepW.refl w g v)
 have HL := Za.mk hl
 clear h hl
 by_cases ha : a = 0 <;> by_cases hb : b = 18446744073709551615
 all_goals
  first
  | (have ha0 : (a != 0) = false := by simp [ha])
  | (have ha0 : (a != 0) = true := by simp [ha])
  first
  | (have hb0 : (b != 18446744073709551615) = false := by simp [hb])
  | (have hb0 : (b != 18446744073709551615) = true := by simp [hb])
  have HA := Za.mk ha
  have HB := Za.mk hb
  clear ha hb
  go_enter Try.func70, Try.ntmps70
  go_wp2_with (first | (go_at_call 41; refine (writer_label.does HW.out).mono ?_; rintro e w5 ⟨rfl, hW5, hK5⟩; have nW := Za.mk hW5; have nK := Za.mk (HK.out.trans hK5); clear HW HK hW5 hK5; have HW := nW; have HK := nK; clear nW nK) | (go_at_call 40; refine (writer_load.does HW.out _ (by (try simp only [List.length_append, List.length_cons, List.length_nil]); have := HL.out; omega)).mono ?_; rintro e w5 ⟨rfl, v5, hW5, hK5⟩; have nW := Za.mk hW5; have nK := Za.mk (HK.out.trans hK5); clear HW HK hW5 hK5; have HW := nW; have HK := nK; clear nW nK) | (go_at_call 42; refine (writer_branch.does HW.out _ _ _ _ (by (try simp only [List.length_append, List.length_cons, List.length_nil]); have := HL.out; omega)).mono ?_; rintro e w5 ⟨rfl, v5, hW5, hK5⟩; have nW := Za.mk hW5; have nK := Za.mk (HK.out.trans hK5); clear HW HK hW5 hK5; have HW := nW; have HK := nK; clear nW nK) | (go_at_call 44; refine (writer_here.does HW.out _ (by (try simp only [List.length_append, List.length_cons, List.length_nil]); have := HL.out; omega)).mono ?_; rintro e w5 ⟨rfl, v5, hW5, hK5⟩; have nW := Za.mk hW5; have nK := Za.mk (HK.out.trans hK5); clear HW HK hW5 hK5; have HW := nW; have HK := nK; clear nW nK))
  go_end0
  have hW := HW.out
  (try simp only [List.append_assoc, List.singleton_append, List.cons_append, List.nil_append] at hW)
  refine ⟨rfl, _, ?_, HK.out⟩
  have hA := HA.out
  have hB := HB.out
  unfold wBet wBetL
  first | rw [if_pos hA, if_pos hB] | rw [if_pos hA, if_neg hB] | rw [if_neg hA, if_pos hB] | rw [if_neg hA, if_neg hB]
  first | exact hW | simpa [wLow, wHigh, hA, hB] using hW
def wLowOf (k : Int) : Int := 16 + 8 * k
def wCon (c : S95) (k far lab : Int) : List S69 × Int := if c.f0 = 1 then (wMask c.f1 c.f2 (wLowOf k) far, lab) else if c.f0 = 2 then (wBet c.f1 c.f2 (wLowOf k) far lab, wBetL c.f1 c.f2 lab) else ([], lab)
def wCons (far : Int) : List S95 → Int → Int → List S69 × Int
 | [], _, lab => ([], lab)
 | c :: cs, k, lab => ((wCon c k far lab).1 ++ (wCons far cs (k + 1) (wCon c k far lab).2).1, (wCons far cs (k + 1) (wCon c k far lab).2).2)
def wBody : List S65 → Int → List S69 × Int
 | [], lab => ([], lab)
 | [r], lab => ((wCons 0 r.f0 0 lab).1 ++ [wIns 6 2147418112], (wCons 0 r.f0 0 lab).2)
 | r :: r2 :: rs, lab => ((wCons (wrap64 (lab + 1)) r.f0 0 (wrap64 (lab + 1))).1 ++ ([wIns 6 2147418112, wHere (wrap64 (lab + 1))] ++ (wBody (r2 :: rs) (wCons (wrap64 (lab + 1)) r.f0 0 (wrap64 (lab + 1))).2).1), (wBody (r2 :: rs) (wCons (wrap64 (lab + 1)) r.f0 0 (wrap64 (lab + 1))).2).2)
theorem wCon_length (c : S95) (k far lab : Int) : (wCon c k far lab).1.length ≤ 12 := by
 unfold wCon
 split
 ·exact Nat.le_trans (wMaskTo_length _ _ _ _ _) (by omega)
 ·split
  ·exact wBet_length _ _ _ _ _
  ·simp
theorem drop_at {α : Type} (l : List α) (i : Nat) (h : i < l.length) : l.drop i = l[i] :: l.drop (i + 1) := by rw [List.drop_eq_getElem_cons h]
theorem wCons_drop (far : Int) (l : List S95) (j : Nat) (lab : Int) (h : j < l.length) : wCons far (l.drop j) (j : Int) lab = ((wCon (Zx l (j : Int)) (j : Int) far lab).1 ++ (wCons far (l.drop (j + 1)) ((j + 1 : Nat) : Int) (wCon (Zx l (j : Int)) (j : Int) far lab).2).1, (wCons far (l.drop (j + 1)) ((j + 1 : Nat) : Int) (wCon (Zx l (j : Int)) (j : Int) far lab).2).2) := by
 have he : Zx l (j : Int) = l[j] := by simp [Zx, List.getD_eq_getElem?_getD, List.getElem?_eq_getElem h]
 rw [drop_at l j h, he]
 rfl
theorem wBody_last (l : List S65) (i : Nat) (lab : Int) (h : i + 1 = l.length) : wBody (l.drop i) lab = ((wCons 0 (Zao l (i : Int)).f0 0 lab).1 ++ [wIns 6 2147418112], (wCons 0 (Zao l (i : Int)).f0 0 lab).2) := by
 have h2 : i < l.length := by omega
 have he : Zao l (i : Int) = l[i] := by simp [Zao, List.getD_eq_getElem?_getD, List.getElem?_eq_getElem h2]
 rw [drop_at l i h2, he, List.drop_of_length_le (show l.length ≤ i + 1 by omega)]
 rfl
theorem wBody_more (l : List S65) (i : Nat) (lab : Int) (h : i + 1 < l.length) : wBody (l.drop i) lab = ((wCons (wrap64 (lab + 1)) (Zao l (i : Int)).f0 0 (wrap64 (lab + 1))).1 ++ ([wIns 6 2147418112, wHere (wrap64 (lab + 1))] ++ (wBody (l.drop (i + 1)) (wCons (wrap64 (lab + 1)) (Zao l (i : Int)).f0 0 (wrap64 (lab + 1))).2).1), (wBody (l.drop (i + 1)) (wCons (wrap64 (lab + 1)) (Zao l (i : Int)).f0 0 (wrap64 (lab + 1))).2).2) := by
 have h2 : i < l.length := by omega
 have he : Zao l (i : Int) = l[i] := by simp [Zao, List.getD_eq_getElem?_getD, List.getElem?_eq_getElem h2]
 rw [drop_at l i h2, he, drop_at l (i + 1) h]
 rfl
set_option maxHeartbeats 16000000 in
set_option maxRecDepth 100000 in
theorem writer_body.does {w0 w : World} {g : Nat} {v : Value} {items : List S69} {lab : Int} (h : IsW w0 w g v items lab) (arch nr : Int) (A0 : Option Addr) (c0 : Nat) (l : List S65) (hr0 : Kd.C k65 w0 A0 l.length l) (hfit : l.length ≤ 1000000 ∧ ∀ r ∈ l, r.f0.length ≤ 1000000) (hl : items.length + (wBody l lab).1.length + 32 < 1073741824) : Calls Try.prog 60 #[.pointer (some ⟨g, 0, none⟩), .agg #[.int .u32 arch, .int .u32 nr, .slice A0 l.length c0]] w (Wrote w0 w g v (items ++ (wBody l lab).1) (wBody l lab).2) := by
 have HR0 := Za.mk hr0
 have HF := Za.mk hfit
 have HT := Za.mk hl
 have hb0 : Below w.heap.size w (w.alloc (.cells #[.int .u32 arch, .int .u32 nr, .slice A0 l.length c0] 61)) := Zc (Below.refl _ _) _
 have HK0 := Za.mk ((KeepW.refl w g v).below hb0)
 have HN0 := Za.mk (h.ne_new (Nat.le_refl _))
 have HW0 := Za.mk (h.to hb0)
 have HLT := Za.mk h.lt
 clear h hb0 hr0 hfit hl
 go_enter Try.func60, Try.ntmps60
 go_wp2
 go_loopg [14] l.length (fun kq v14 w' => ∃ (i : Nat) (v' : Value) (its : List S69) (lb : Int), v14 = .int .i64 (i : Int) ∧ Za (kq + i = l.length) ∧ Za (IsW w0 w' g v' its lb) ∧ Za (KeepW w w' g v v') ∧ Za (its ++ (wBody (l.drop i) lb).1 = items ++ (wBody l lab).1 ∧ (wBody (l.drop i) lb).2 = (wBody l lab).2) ∧ Za (w'.heap[w.heap.size]? = some (.cells #[.int .u32 arch, .int .u32 nr, .slice A0 l.length c0] 61 (0, 0)) ∧ some w.heap.size ≠ v'.ownBlock))
 case atStart => exact ⟨0, v, items, lab, rfl, ⟨rfl⟩, HW0, HK0, ⟨rfl, rfl⟩, ⟨blk_new _ _, HN0.out.2⟩⟩
 case round =>
  clear HW0 HK0
  obtain ⟨i, v1, its, lb, rfl, HI, HW, HK, HE, HB⟩ := hrel
  by_cases hi : i < l.length
  case neg =>
   have hib : decide ((i : Int) < (l.length : Int)) = false := decide_eq_false (by omega)
   have hibn : decide (i < l.length) = false := decide_eq_false hi
   go_wp2
   go_end0
   have hE := HE.out
   rw [List.drop_of_length_le (by omega)] at hE
   simp only [wBody, List.append_nil] at hE
   exact ⟨rfl, v1, by rw [← hE.1, ← hE.2]; exact HW.out, HK.out⟩
  obtain ⟨k1, rfl⟩ : ∃ m, gk = m + 1 := ⟨gk - 1, by have := HI.out; omega⟩
  have hlen := HF.out.1
  have hib : decide ((i : Int) < (l.length : Int)) = true := decide_eq_true (by omega)
  have hibn : decide (i < l.length) = true := decide_eq_true hi
  obtain ⟨ad, A2, c2, rfl, g0, g1, g2⟩ := at_T65 HR0.out (i : Int) (by omega) (by omega)
  simp only [Int.toNat_natCast] at g0
  replace g0 := (HW.out.bel.cell (World.block_lt_of_cell? w0 _ g0)).trans g0
  have hrl : (Zao l (i : Int)).f0.length ≤ 1000000 := by
   have he : Zao l (i : Int) = l[i] := by simp [Zao, List.getD_eq_getElem?_getD, List.getElem?_eq_getElem hi]
   rw [he]
   exact HF.out.2 _ (List.getElem_mem hi)
  have hw1 : wrap64 ((l.length : Int) - 1) = (l.length : Int) - 1 := by unfold wrap64; omega
  have hwi : wrap64 ((i : Int) + 1) = ((i + 1 : Nat) : Int) := by unfold wrap64; omega
  have q2 : wr.cell? ⟨w.heap.size, 2, none⟩ = some (.slice (some ad) l.length c0) := (Zb HB.out.1 2).trans rfl
  have hql : w.heap.size < wr.heap.size := Zs HB.out.1
  have HBL := Za.mk (wBody_last l i lb)
  have HBM := Za.mk (wBody_more l i lb)
  obtain ⟨rule, hrule⟩ : ∃ rule, Zao l (i : Int) = rule := ⟨_, rfl⟩
  rw [hrule] at g0 g1 g2 hrl HBL HBM
  clear hrule
  have G2 := Za.mk g2
  have HRL := Za.mk hrl
  have hb1 : Below wr.heap.size wr (wr.alloc (.cells #[.slice A2 rule.f0.length c2] 65)) := Zc (Below.refl _ _) _
  have HW1 := Za.mk (HW.out.to hb1)
  have HK1 := Za.mk (HK.out.below hb1)
  have HB1 := Za.mk (Zp HB.out.1 hb1)
  have HBv := Za.mk HB.out.2
  have HZ := Za.mk (HW.out.ne_new (Nat.le_refl _))
  clear HW HK HB g1 g2 hrl hb1
  have HW := HW1
  have HK := HK1
  clear HW1 HK1
  have HIL := Za.mk hi
  have HWI := Za.mk hwi
  by_cases hla : i + 1 = l.length
  ·have hlb : ((i : Int) == (l.length : Int) - 1) = true := beq_iff_eq.2 (by omega)
   have HSt := Za.mk (HBL.out hla)
   have HLA := Za.mk hla
   clear HBL HBM hla hwi
   go_wp2_with fail
   generalize (wr.alloc (.cells #[.slice A2 rule.f0.length c2] 65)) = W2 at HW HK HB1 ⊢
   have HS0 := Za.mk (show its ++ (wCons 0 (rule.f0.drop 0) ((0 : Nat) : Int) lb).1 = its ++ (wCons 0 rule.f0 0 lb).1 ∧ (wCons 0 (rule.f0.drop 0) ((0 : Nat) : Int) lb).2 = (wCons 0 rule.f0 0 lb).2 from ⟨rfl, rfl⟩)
   clear g0 hib hibn q2 hql hi
   go_loopg [32] rule.f0.length (fun kq v32 w' => ∃ (j : Nat) (v' : Value) (it2 : List S69) (lb2 : Int), v32 = .int .i64 (j : Int) ∧ Za (kq + j = rule.f0.length) ∧ Za (IsW w0 w' g v' it2 lb2) ∧ Za (KeepW w w' g v v') ∧ Za (it2 ++ (wCons 0 (rule.f0.drop j) (j : Int) lb2).1 = its ++ (wCons 0 rule.f0 0 lb).1 ∧ (wCons 0 (rule.f0.drop j) (j : Int) lb2).2 = (wCons 0 rule.f0 0 lb).2) ∧ Za (w'.heap[w.heap.size]? = some (.cells #[.int .u32 arch, .int .u32 nr, .slice (some ad) l.length c0] 61 (0, 0)) ∧ some w.heap.size ≠ v'.ownBlock))
   case atStart => exact ⟨0, _, its, lb, rfl, ⟨rfl⟩, HW, HK, HS0, ⟨HB1.out, HBv.out⟩⟩
   case round =>
    clear HS0 HW HK HB1 HBv
    obtain ⟨j, v2, it2, lb2, rfl, HJ, HW, HK, HS, HB⟩ := hrel
    have HLT2 := Za.mk (show its.length + (wCons 0 rule.f0 0 lb).1.length + 32 < 1073741824 by
     have h1 := congrArg List.length HE.out.1
     have h2 := HT.out
     rw [HSt.out] at h1
     simp only [List.length_append] at h1
     omega)
    by_cases hj : j < rule.f0.length
    case neg =>
     have hjb : decide ((j : Int) < (rule.f0.length : Int)) = false := decide_eq_false (by omega)
     have hjbn : decide (j < rule.f0.length) = false := decide_eq_false hj
     have hS := HS.out
     rw [List.drop_of_length_le (by omega)] at hS
     simp only [wCons, List.append_nil] at hS
     have HSS := Za.mk hS
     have HL := Za.mk (show it2.length + 32 < 1073741824 by rw [hS.1, List.length_append]; exact HLT2.out)
     clear hS hj HS
     go_wp2_with (first | (go_at_call 45; refine (writer_ins.does HW.out 6 2147418112 (by (try simp only [List.length_append, List.length_cons, List.length_nil]); have := HL.out; omega)).mono ?_; rintro e w5 ⟨rfl, v5, hW5, hK5⟩; have HBB := Za.mk (hK5.box HB.out.1 HN0.out.1 HB.out.2); have nW := Za.mk hW5; have nK := Za.mk (HK.out.trans hK5); clear HW HK hW5 hK5; have HW := nW; have HK := nK; clear nW nK))
     go_roundg k1
     case measure => omega
     case rel =>
      have hSS := HSS.out
      have hE := HE.out
      rw [HSt.out] at hE
      refine ⟨i + 1, _, _, _, by (have := HWI.out; first | rfl | (simp [this]; done)), ⟨by have := HI.out; omega⟩, HW, HK, ⟨?_, ?_⟩, HBB⟩
      ·rw [hSS.1, ← hE.1, hSS.2]
       rw [List.drop_of_length_le (by have := HLA.out; omega)]; simp [wBody]
      ·rw [← hE.2, hSS.2]
       rw [List.drop_of_length_le (by have := HLA.out; omega)]; simp [wBody]
    obtain ⟨k2, rfl⟩ : ∃ m, gk = m + 1 := ⟨gk - 1, by have := HJ.out; omega⟩
    have hrl := HRL.out
    have hjb : decide ((j : Int) < (rule.f0.length : Int)) = true := decide_eq_true (by omega)
    have hjbn : decide (j < rule.f0.length) = true := decide_eq_true hj
    obtain ⟨ad3, rfl, g0, g1, g2⟩ := at_T95 G2.out (j : Int) (by omega) (by omega)
    simp only [Int.toNat_natCast] at g0 g1 g2
    replace g0 := (HW.out.bel.cell (World.block_lt_of_cell? w0 _ g0)).trans g0
    replace g1 := (HW.out.bel.cell (World.block_lt_of_cell? w0 _ g1)).trans g1
    replace g2 := (HW.out.bel.cell (World.block_lt_of_cell? w0 _ g2)).trans g2
    have hwj : wrap64 ((j : Int) + 1) = ((j + 1 : Nat) : Int) := by unfold wrap64; omega
    have HWJ := Za.mk hwj
    have HSd := Za.mk (wCons_drop 0 rule.f0 j lb2 hj)
    have HL := Za.mk (show it2.length + 32 < 1073741824 by
     have h1 := congrArg List.length HS.out.1
     have h2 := HLT2.out
     simp only [List.length_append] at h1
     omega)
    obtain ⟨con, hcon⟩ : ∃ con, Zx rule.f0 (j : Int) = con := ⟨_, rfl⟩
    rw [hcon] at g0 g1 g2 HSd
    have HEl := Za.mk (wCon_length con (j : Int) 0 lb2)
    clear hcon hwj
    have hb1 : Below wr.heap.size wr (wr.alloc (.cells #[.int .i64 con.f0, .int .u64 con.f1, .int .u64 con.f2] 95)) := Zc (Below.refl _ _) _
    have HW1 := Za.mk (HW.out.to hb1)
    have HK1 := Za.mk (HK.out.below hb1)
    have HB1 := Za.mk (Zp HB.out.1 hb1)
    have HBv := Za.mk HB.out.2
    clear HW HK HB hb1
    have HW := HW1
    have HK := HK1
    clear HW1 HK1
    by_cases k1c : con.f0 = 1
    ·have kb1 : (con.f0 == 1) = true := beq_iff_eq.2 k1c
     have HC := Za.mk (show wCon con (j : Int) 0 lb2 = (wMask con.f1 con.f2 (wLowOf (j : Int)) 0, lb2) from if_pos k1c)
     clear k1c
     go_wp2_with (first | (go_at_call 69; refine (writer_mask.does HW.out con.f1 con.f2 (wLowOf (j : Int)) 0 (by (try simp only [List.length_append, List.length_cons, List.length_nil]); have := HL.out; omega)).mono ?_; rintro e w5 ⟨rfl, v5, hW5, hK5⟩; have HBB := Za.mk (hK5.box HB1.out HN0.out.1 HBv.out); have nW := Za.mk hW5; have nK := Za.mk (HK.out.trans hK5); clear HW HK hW5 hK5; have HW := nW; have HK := nK; clear nW nK))
     go_roundg k2
     case measure => omega
     case rel =>
      have hS := HS.out
      rw [HSd.out, HC.out] at hS
      refine ⟨j + 1, _, _, _, by (have := HWJ.out; first | rfl | (simp [this]; done)), ⟨by have := HJ.out; omega⟩, HW, HK, ⟨?_, hS.2⟩, HBB⟩
      rw [← hS.1]
      simp
    by_cases k2c : con.f0 = 2
    ·have kb1 : (con.f0 == 1) = false := beq_eq_false_iff_ne.2 k1c
     have kb2 : (con.f0 == 2) = true := beq_iff_eq.2 k2c
     have HC := Za.mk (show wCon con (j : Int) 0 lb2 = (wBet con.f1 con.f2 (wLowOf (j : Int)) 0 lb2, wBetL con.f1 con.f2 lb2) from (if_neg k1c).trans (if_pos k2c))
     clear k1c k2c
     go_wp2_with (first | (go_at_call 70; refine (writer_between.does HW.out con.f1 con.f2 (wLowOf (j : Int)) 0 (by (try simp only [List.length_append, List.length_cons, List.length_nil]); have := HL.out; omega)).mono ?_; rintro e w5 ⟨rfl, v5, hW5, hK5⟩; have HBB := Za.mk (hK5.box HB1.out HN0.out.1 HBv.out); have nW := Za.mk hW5; have nK := Za.mk (HK.out.trans hK5); clear HW HK hW5 hK5; have HW := nW; have HK := nK; clear nW nK))
     go_roundg k2
     case measure => omega
     case rel =>
      have hS := HS.out
      rw [HSd.out, HC.out] at hS
      refine ⟨j + 1, _, _, _, by (have := HWJ.out; first | rfl | (simp [this]; done)), ⟨by have := HJ.out; omega⟩, HW, HK, ⟨?_, hS.2⟩, HBB⟩
      rw [← hS.1]
      simp
    ·have kb1 : (con.f0 == 1) = false := beq_eq_false_iff_ne.2 k1c
     have kb2 : (con.f0 == 2) = false := beq_eq_false_iff_ne.2 k2c
     have HC := Za.mk (show wCon con (j : Int) 0 lb2 = ([], lb2) from (if_neg k1c).trans (if_neg k2c))
     clear k1c k2c
     have HBB := Za.mk (And.intro HB1.out HBv.out)
     go_wp2_with fail
     go_roundg k2
     case measure => omega
     case rel =>
      have hS := HS.out
      rw [HSd.out, HC.out] at hS
      refine ⟨j + 1, _, _, _, by (have := HWJ.out; first | rfl | (simp [this]; done)), ⟨by have := HJ.out; omega⟩, HW, HK, ⟨?_, hS.2⟩, HBB⟩
      rw [← hS.1]
      simp
  ·have hlb : ((i : Int) == (l.length : Int) - 1) = false := beq_eq_false_iff_ne.2 (by omega)
   have HSt := Za.mk (HBM.out (by omega))
   have HLA := Za.mk hla
   clear HBL HBM hla hwi
   go_wp2_with (first | (go_at_call 41; refine (writer_label.does HW.out).mono ?_; rintro e w5 ⟨rfl, hW5, hK5⟩; have nB := Za.mk (hK5.box HB1.out HN0.out.1 HBv.out); clear HB1 HBv; have HB1 := Za.mk nB.out.1; have HBv := Za.mk nB.out.2; clear nB; have z0 := (Zb (hK5.box (blk_new wr (.cells #[.slice A2 rule.f0.length c2] 65)) (HZ.out).1 (HZ.out).2).1 0).trans rfl; have nW := Za.mk hW5; have nK := Za.mk (HK.out.trans hK5); clear HW HK hW5 hK5; have HW := nW; have HK := nK; clear nW nK))
   obtain ⟨W2, hW2⟩ : ∃ W2, w5 = W2 := ⟨_, rfl⟩
   subst hW2
   have HS0 := Za.mk (show its ++ (wCons (wrap64 (lb + 1)) (rule.f0.drop 0) ((0 : Nat) : Int) (wrap64 (lb + 1))).1 = its ++ (wCons (wrap64 (lb + 1)) rule.f0 0 (wrap64 (lb + 1))).1 ∧ (wCons (wrap64 (lb + 1)) (rule.f0.drop 0) ((0 : Nat) : Int) (wrap64 (lb + 1))).2 = (wCons (wrap64 (lb + 1)) rule.f0 0 (wrap64 (lb + 1))).2 from ⟨rfl, rfl⟩)
   clear g0 hib hibn q2 hql hi
   go_loopg [32] rule.f0.length (fun kq v32 w' => ∃ (j : Nat) (v' : Value) (it2 : List S69) (lb2 : Int), v32 = .int .i64 (j : Int) ∧ Za (kq + j = rule.f0.length) ∧ Za (IsW w0 w' g v' it2 lb2) ∧ Za (KeepW w w' g v v') ∧ Za (it2 ++ (wCons (wrap64 (lb + 1)) (rule.f0.drop j) (j : Int) lb2).1 = its ++ (wCons (wrap64 (lb + 1)) rule.f0 0 (wrap64 (lb + 1))).1 ∧ (wCons (wrap64 (lb + 1)) (rule.f0.drop j) (j : Int) lb2).2 = (wCons (wrap64 (lb + 1)) rule.f0 0 (wrap64 (lb + 1))).2) ∧ Za (w'.heap[w.heap.size]? = some (.cells #[.int .u32 arch, .int .u32 nr, .slice (some ad) l.length c0] 61 (0, 0)) ∧ some w.heap.size ≠ v'.ownBlock))
   case atStart => exact ⟨0, _, its, (wrap64 (lb + 1)), rfl, ⟨rfl⟩, HW, HK, HS0, ⟨HB1.out, HBv.out⟩⟩
   case round =>
    clear HS0 HW HK HB1 HBv
    obtain ⟨j, v2, it2, lb2, rfl, HJ, HW, HK, HS, HB⟩ := hrel
    have HLT2 := Za.mk (show its.length + (wCons (wrap64 (lb + 1)) rule.f0 0 (wrap64 (lb + 1))).1.length + 32 < 1073741824 by
     have h1 := congrArg List.length HE.out.1
     have h2 := HT.out
     rw [HSt.out] at h1
     simp only [List.length_append] at h1
     omega)
    by_cases hj : j < rule.f0.length
    case neg =>
     have hjb : decide ((j : Int) < (rule.f0.length : Int)) = false := decide_eq_false (by omega)
     have hjbn : decide (j < rule.f0.length) = false := decide_eq_false hj
     have hS := HS.out
     rw [List.drop_of_length_le (by omega)] at hS
     simp only [wCons, List.append_nil] at hS
     have HSS := Za.mk hS
     have HL := Za.mk (show it2.length + 32 < 1073741824 by rw [hS.1, List.length_append]; exact HLT2.out)
     clear hS hj HS
     go_wp2_with (first | (go_at_call 45; refine (writer_ins.does HW.out 6 2147418112 (by (try simp only [List.length_append, List.length_cons, List.length_nil]); have := HL.out; omega)).mono ?_; rintro e w5 ⟨rfl, v5, hW5, hK5⟩; have HBB := Za.mk (hK5.box HB.out.1 HN0.out.1 HB.out.2); have nW := Za.mk hW5; have nK := Za.mk (HK.out.trans hK5); clear HW HK hW5 hK5; have HW := nW; have HK := nK; clear nW nK) | (go_at_call 44; refine (writer_here.does HW.out (wrap64 (lb + 1)) (by (try simp only [List.length_append, List.length_cons, List.length_nil]); have := HL.out; omega)).mono ?_; rintro e w5 ⟨rfl, v5, hW5, hK5⟩; have nBB := Za.mk (hK5.box HBB.out.1 HN0.out.1 HBB.out.2); clear HBB; have HBB := nBB; clear nBB; have nW := Za.mk hW5; have nK := Za.mk (HK.out.trans hK5); clear HW HK hW5 hK5; have HW := nW; have HK := nK; clear nW nK))
     go_roundg k1
     case measure => omega
     case rel =>
      have hSS := HSS.out
      have hE := HE.out
      rw [HSt.out] at hE
      refine ⟨i + 1, _, _, _, by (have := HWI.out; first | rfl | (simp [this]; done)), ⟨by have := HI.out; omega⟩, HW, HK, ⟨?_, ?_⟩, HBB⟩
      ·rw [hSS.1, ← hE.1, hSS.2]
       simp
      ·rw [← hE.2, hSS.2]
    obtain ⟨k2, rfl⟩ : ∃ m, gk = m + 1 := ⟨gk - 1, by have := HJ.out; omega⟩
    have hrl := HRL.out
    have hjb : decide ((j : Int) < (rule.f0.length : Int)) = true := decide_eq_true (by omega)
    have hjbn : decide (j < rule.f0.length) = true := decide_eq_true hj
    obtain ⟨ad3, rfl, g0, g1, g2⟩ := at_T95 G2.out (j : Int) (by omega) (by omega)
    simp only [Int.toNat_natCast] at g0 g1 g2
    replace g0 := (HW.out.bel.cell (World.block_lt_of_cell? w0 _ g0)).trans g0
    replace g1 := (HW.out.bel.cell (World.block_lt_of_cell? w0 _ g1)).trans g1
    replace g2 := (HW.out.bel.cell (World.block_lt_of_cell? w0 _ g2)).trans g2
    have hwj : wrap64 ((j : Int) + 1) = ((j + 1 : Nat) : Int) := by unfold wrap64; omega
    have HWJ := Za.mk hwj
    have HSd := Za.mk (wCons_drop (wrap64 (lb + 1)) rule.f0 j lb2 hj)
    have HL := Za.mk (show it2.length + 32 < 1073741824 by
     have h1 := congrArg List.length HS.out.1
     have h2 := HLT2.out
     simp only [List.length_append] at h1
     omega)
    obtain ⟨con, hcon⟩ : ∃ con, Zx rule.f0 (j : Int) = con := ⟨_, rfl⟩
    rw [hcon] at g0 g1 g2 HSd
    have HEl := Za.mk (wCon_length con (j : Int) (wrap64 (lb + 1)) lb2)
    clear hcon hwj
    have hb1 : Below wr.heap.size wr (wr.alloc (.cells #[.int .i64 con.f0, .int .u64 con.f1, .int .u64 con.f2] 95)) := Zc (Below.refl _ _) _
    have HW1 := Za.mk (HW.out.to hb1)
    have HK1 := Za.mk (HK.out.below hb1)
    have HB1 := Za.mk (Zp HB.out.1 hb1)
    have HBv := Za.mk HB.out.2
    clear HW HK HB hb1
    have HW := HW1
    have HK := HK1
    clear HW1 HK1
    by_cases k1c : con.f0 = 1
    ·have kb1 : (con.f0 == 1) = true := beq_iff_eq.2 k1c
     have HC := Za.mk (show wCon con (j : Int) (wrap64 (lb + 1)) lb2 = (wMask con.f1 con.f2 (wLowOf (j : Int)) (wrap64 (lb + 1)), lb2) from if_pos k1c)
     clear k1c
     go_wp2_with (first | (go_at_call 69; refine (writer_mask.does HW.out con.f1 con.f2 (wLowOf (j : Int)) (wrap64 (lb + 1)) (by (try simp only [List.length_append, List.length_cons, List.length_nil]); have := HL.out; omega)).mono ?_; rintro e w5 ⟨rfl, v5, hW5, hK5⟩; have HBB := Za.mk (hK5.box HB1.out HN0.out.1 HBv.out); have nW := Za.mk hW5; have nK := Za.mk (HK.out.trans hK5); clear HW HK hW5 hK5; have HW := nW; have HK := nK; clear nW nK))
     go_roundg k2
     case measure => omega
     case rel =>
      have hS := HS.out
      rw [HSd.out, HC.out] at hS
      refine ⟨j + 1, _, _, _, by (have := HWJ.out; first | rfl | (simp [this]; done)), ⟨by have := HJ.out; omega⟩, HW, HK, ⟨?_, hS.2⟩, HBB⟩
      rw [← hS.1]
      simp
    by_cases k2c : con.f0 = 2
    ·have kb1 : (con.f0 == 1) = false := beq_eq_false_iff_ne.2 k1c
     have kb2 : (con.f0 == 2) = true := beq_iff_eq.2 k2c
     have HC := Za.mk (show wCon con (j : Int) (wrap64 (lb + 1)) lb2 = (wBet con.f1 con.f2 (wLowOf (j : Int)) (wrap64 (lb + 1)) lb2, wBetL con.f1 con.f2 lb2) from (if_neg k1c).trans (if_pos k2c))
     clear k1c k2c
     go_wp2_with (first | (go_at_call 70; refine (writer_between.does HW.out con.f1 con.f2 (wLowOf (j : Int)) (wrap64 (lb + 1)) (by (try simp only [List.length_append, List.length_cons, List.length_nil]); have := HL.out; omega)).mono ?_; rintro e w5 ⟨rfl, v5, hW5, hK5⟩; have HBB := Za.mk (hK5.box HB1.out HN0.out.1 HBv.out); have nW := Za.mk hW5; have nK := Za.mk (HK.out.trans hK5); clear HW HK hW5 hK5; have HW := nW; have HK := nK; clear nW nK))
     go_roundg k2
     case measure => omega
     case rel =>
      have hS := HS.out
      rw [HSd.out, HC.out] at hS
      refine ⟨j + 1, _, _, _, by (have := HWJ.out; first | rfl | (simp [this]; done)), ⟨by have := HJ.out; omega⟩, HW, HK, ⟨?_, hS.2⟩, HBB⟩
      rw [← hS.1]
      simp
    ·have kb1 : (con.f0 == 1) = false := beq_eq_false_iff_ne.2 k1c
     have kb2 : (con.f0 == 2) = false := beq_eq_false_iff_ne.2 k2c
     have HC := Za.mk (show wCon con (j : Int) (wrap64 (lb + 1)) lb2 = ([], lb2) from (if_neg k1c).trans (if_neg k2c))
     clear k1c k2c
     have HBB := Za.mk (And.intro HB1.out HBv.out)
     go_wp2_with fail
     go_roundg k2
     case measure => omega
     case rel =>
      have hS := HS.out
      rw [HSd.out, HC.out] at hS
      refine ⟨j + 1, _, _, _, by (have := HWJ.out; first | rfl | (simp [this]; done)), ⟨by have := HJ.out; omega⟩, HW, HK, ⟨?_, hS.2⟩, HBB⟩
      rw [← hS.1]
      simp
def wTree : Nat → List S61 → Int → List S69 × Int
 | 0, _, lab => ([], lab)
 | n + 1, l, lab => if l.length = 1 then (wBranch 2 21 (Zi l 0).f1 0 :: (wBody (Zi l 0).f2 lab).1, (wBody (Zi l 0).f2 lab).2)
  else (wBranch 1 53 (Zi l ((l.length / 2 : Nat) : Int)).f1 (wrap64 (lab + 1)) :: ((wTree n (l.take (l.length / 2)) (wrap64 (lab + 1))).1 ++ (wHere (wrap64 (lab + 1)) :: (wTree n (l.drop (l.length / 2)) (wTree n (l.take (l.length / 2)) (wrap64 (lab + 1))).2).1)), (wTree n (l.drop (l.length / 2)) (wTree n (l.take (l.length / 2)) (wrap64 (lab + 1))).2).2)
def EntFit (l : List S61) : Prop := l.length ≤ 1000000 ∧ ∀ e ∈ l, e.f2.length ≤ 1000000 ∧ ∀ r ∈ e.f2, r.f0.length ≤ 1000000
theorem EntFit.take {l : List S61} (h : EntFit l) (n : Nat) : EntFit (l.take n) := ⟨by rw [List.length_take]; have := h.1; omega, fun e he => h.2 e (List.mem_of_mem_take he)⟩
theorem EntFit.drop {l : List S61} (h : EntFit l) (n : Nat) : EntFit (l.drop n) := ⟨by rw [List.length_drop]; have := h.1; omega, fun e he => h.2 e (List.mem_of_mem_drop he)⟩
set_option maxHeartbeats 16000000 in
set_option maxRecDepth 100000 in
theorem writer_tree.does (n : Nat) : ∀ {w0 w : World} {g : Nat} {v : Value} {items : List S69} {lab : Int} (h : IsW w0 w g v items lab) (A0 : Option Addr) (c0 : Nat) (l : List S61) (hr0 : Kd.C k61 w0 A0 l.length l) (hc0 : l.length ≤ c0) (h1 : 0 < l.length) (hn : l.length ≤ n) (hfit : EntFit l) (hl : items.length + (wTree n l lab).1.length + 64 < 1073741824), Calls Try.prog 43 #[.pointer (some ⟨g, 0, none⟩), .slice A0 l.length c0] w (Wrote w0 w g v (items ++ (wTree n l lab).1) (wTree n l lab).2) := by
 induction n with
 | zero => intro w0 w g v items lab h A0 c0 l hr0 hc0 h1 hn; omega
 | succ n ih =>
 intro w0 w g v items lab h A0 c0 l hr0 hc0 h1 hn hfit hl
 have HR0 := Za.mk hr0
 have HF := Za.mk hfit
 have HW := Za.mk h
 have HK := Za.mk (KeepW.refl w g v)
 have HC0 := Za.mk hc0
 have hlen := hfit.1
 have IH := Za.mk @ih
 by_cases h2 : l.length = 1
 ·have h2b : ((l.length : Int) == 1) = true := beq_iff_eq.2 (by omega)
  have hT : wTree (n + 1) l lab = (wBranch 2 21 (Zi l 0).f1 0 :: (wBody (Zi l 0).f2 lab).1, (wBody (Zi l 0).f2 lab).2) := by rw [wTree, if_pos h2]
  rw [hT] at hl ⊢
  obtain ⟨ad, A2, c2, rfl, g0, g1, g2, g3, g4⟩ := at_T61 HR0.out 0 (by omega) (by omega)
  simp only [Int.toNat_zero, Nat.zero_mul, Addr.add_zero'] at g0 g1 g2
  have he : Zi l 0 = l[0] := by simp [Zi, List.getD_eq_getElem?_getD, List.getElem?_eq_getElem h1]
  have HEF := Za.mk (show (Zi l 0).f2.length ≤ 1000000 ∧ ∀ r ∈ (Zi l 0).f2, r.f0.length ≤ 1000000 by rw [he]; exact hfit.2 _ (List.getElem_mem h1))
  have HE0 := Za.mk (And.intro g0 (And.intro g1 g2))
  have z1 := (HW.out.bel.cell (World.block_lt_of_cell? w0 _ g1)).trans g1
  have G4 := Za.mk g4
  have HL := Za.mk (show items.length + 4 + (wBody (Zi l 0).f2 lab).1.length + 32 < 1073741824 by simp only [List.length_cons] at hl; omega)
  have hqa : (0 < l.length) = True := eq_true h1
  clear h he g0 g1 g2 g3 g4 hr0 hfit hl ih hT hn h2 hc0
  generalize Zi l 0 = ent at *
  go_enter Try.func43, Try.ntmps43
  go_wp2_with (first | (go_at_call 42; refine (writer_branch.does HW.out 2 21 ent.f1 0 (by (try simp only [List.length_append, List.length_cons, List.length_nil]); have := HL.out; omega)).mono ?_; rintro e w5 ⟨rfl, v5, hW5, hK5⟩; have z2 := (hW5.bel.cell (World.block_lt_of_cell? w0 _ HE0.out.1)).trans HE0.out.1; have z3 := (hW5.bel.cell (World.block_lt_of_cell? w0 _ HE0.out.2.1)).trans HE0.out.2.1; have z4 := (hW5.bel.cell (World.block_lt_of_cell? w0 _ HE0.out.2.2)).trans HE0.out.2.2; have nW := Za.mk hW5; have nK := Za.mk (HK.out.trans hK5); clear HW HK hW5 hK5; have HW := nW; have HK := nK; clear nW nK) | (go_at_call 60; refine (writer_body.does HW.out ent.f0 ent.f1 A2 c2 ent.f2 G4.out HEF.out (by (try simp only [List.length_append, List.length_cons, List.length_nil]); have := HL.out; omega)).mono ?_; rintro e w5 ⟨rfl, v5, hW5, hK5⟩; have nW := Za.mk hW5; have nK := Za.mk (HK.out.trans hK5); clear HW HK hW5 hK5; have HW := nW; have HK := nK; clear nW nK))
  go_end0
  refine ⟨rfl, _, ?_, HK.out⟩
  simpa using HW.out
 ·have h2b : ((l.length : Int) == 1) = false := beq_eq_false_iff_ne.2 (by omega)
  have hT : wTree (n + 1) l lab = (wBranch 1 53 (Zi l ((l.length / 2 : Nat) : Int)).f1 (wrap64 (lab + 1)) :: ((wTree n (l.take (l.length / 2)) (wrap64 (lab + 1))).1 ++ (wHere (wrap64 (lab + 1)) :: (wTree n (l.drop (l.length / 2)) (wTree n (l.take (l.length / 2)) (wrap64 (lab + 1))).2).1)), (wTree n (l.drop (l.length / 2)) (wTree n (l.take (l.length / 2)) (wrap64 (lab + 1))).2).2) := by rw [wTree, if_neg h2]
  rw [hT] at hl ⊢
  clear hT
  obtain ⟨hh, hhe⟩ : ∃ hh : Nat, l.length / 2 = hh := ⟨_, rfl⟩
  rw [hhe] at hl ⊢
  have hh0 : 0 < hh := by omega
  have hh1 : hh < l.length := by omega
  have hq : wrap64 ((l.length : Int) / 2) = (hh : Int) := by rw [← hhe]; unfold wrap64; omega
  have hq2 : (l.length : Int) / 2 = (hh : Int) := by omega
  obtain ⟨ad, A2, c2, rfl, g0, g1, g2, g3, g4⟩ := at_T61 HR0.out (hh : Int) (by omega) (by omega)
  simp only [Int.toNat_natCast] at g0 g1 g2
  have HZ1 := Za.mk g1
  generalize Zi l (hh : Int) = ent at *
  obtain ⟨i1, hi1, _, hsz1, _⟩ := info_parts info61
  have ht1 : (l.take hh).length = hh := by rw [List.length_take]; omega
  have ht2 : (l.drop hh).length = l.length - hh := List.length_drop
  have hcutT := cut_to (P := Try.prog) 29 61 .i64 Try.underlying29 hi1 (some ad) l.length c0 (hh : Int) (by omega) (by omega) hc0
  have hcutF := cut_from (P := Try.prog) 29 61 .i64 Try.underlying29 hi1 3 hsz1 (some ad) l.length c0 (hh : Int) (by omega) (by omega)
  have HCT := Za.mk (Kd.C_take (m := hh) HR0.out (by omega))
  have HCD := Za.mk (Kd.C_drop (m := hh) (c := c0) HR0.out (by omega) hc0)
  rw [Int.toNat_natCast] at hcutT hcutF
  rw [← ht2] at hcutF
  rw [if_neg (show ¬ c0 = hh by omega)] at hcutF
  rw [show k61.sz = 3 from rfl, if_neg (show ¬ c0 = hh by omega)] at HCD
  have HT1 := Za.mk ht1
  have HT2 := Za.mk ht2
  have HHH := Za.mk (And.intro hh0 hh1)
  simp only [List.length_append, List.length_cons] at hl
  have HL := Za.mk hl
  have HN := Za.mk hn
  have hqa : (hh < l.length) = True := eq_true hh1
  have hqb : decide (hh < l.length) = true := decide_eq_true hh1
  clear h g0 g1 g2 g3 g4 hr0 hfit hl ih hn h2 hhe hi1 hsz1 hc0 h1 ht1 ht2 hh0
  go_enter Try.func43, Try.ntmps43
  go_wp2_with (first | (go_at_call 41; refine (writer_label.does HW.out).mono ?_; rintro e w5 ⟨rfl, hW5, hK5⟩; have z1 := (hW5.bel.cell (World.block_lt_of_cell? w0 _ HZ1.out)).trans HZ1.out; have nW := Za.mk hW5; have nK := Za.mk (HK.out.trans hK5); clear HW HK hW5 hK5; have HW := nW; have HK := nK; clear nW nK) | (go_at_call 42; refine (writer_branch.does HW.out 1 53 ent.f1 (wrap64 (lab + 1)) (by (try simp only [List.length_append, List.length_cons, List.length_nil]); have := HL.out; omega)).mono ?_; rintro e w5 ⟨rfl, v5, hW5, hK5⟩; have nW := Za.mk hW5; have nK := Za.mk (HK.out.trans hK5); clear HW HK hW5 hK5; have HW := nW; have HK := nK; clear nW nK))
  have ih1 := IH.out HW.out (some ad) c0 (l.take hh) HCT.out (by rw [HT1.out]; have := HC0.out; omega) (by rw [HT1.out]; exact HHH.out.1) (by rw [HT1.out]; have := HN.out; omega) (HF.out.take hh) (by have := HL.out; simp only [List.length_append, List.length_cons, List.length_nil] at this ⊢; omega)
  rw [HT1.out] at ih1
  refine ih1.mono ?_
  clear ih1
  rintro e w5 ⟨rfl, v5, hW5, hK5⟩; have nW := Za.mk hW5; have nK := Za.mk (HK.out.trans hK5); clear HW HK hW5 hK5; have HW := nW; have HK := nK; clear nW nK
  go_wp2_with (first | (go_at_call 44; refine (writer_here.does HW.out (wrap64 (lab + 1)) (by (try simp only [List.length_append, List.length_cons, List.length_nil]); have := HL.out; omega)).mono ?_; rintro e w5 ⟨rfl, v5, hW5, hK5⟩; have nW := Za.mk hW5; have nK := Za.mk (HK.out.trans hK5); clear HW HK hW5 hK5; have HW := nW; have HK := nK; clear nW nK))
  have ih1 := IH.out HW.out _ (c0 - hh) (l.drop hh) HCD.out (by rw [HT2.out]; have := HC0.out; omega) (by rw [HT2.out]; have := HHH.out.2; omega) (by rw [HT2.out]; have := HN.out; have := HHH.out.1; omega) (HF.out.drop hh) (by have := HL.out; simp only [List.length_append, List.length_cons, List.length_nil] at this ⊢; omega)
  rw [HT2.out, Option.map_some] at ih1
  refine ih1.mono ?_
  clear ih1
  rintro e w5 ⟨rfl, v5, hW5, hK5⟩; have nW := Za.mk hW5; have nK := Za.mk (HK.out.trans hK5); clear HW HK hW5 hK5; have HW := nW; have HK := nK; clear nW nK
  go_wp2_with fail
  go_end0
  refine ⟨rfl, _, ?_, HK.out⟩
  simpa using HW.out
def scanN (l : List S61) (a : Int) : Nat → Nat → Nat
 | 0, m => m
 | k + 1, m => if m < l.length then (if (Zi l (m : Int)).f0 = a then scanN l a k (m + 1) else m) else m
theorem scanN_ge (l : List S61) (a : Int) : ∀ k m, m ≤ scanN l a k m
 | 0, _ => Nat.le_refl _
 | k + 1, m => by
  rw [scanN]
  split
  ·split
   ·exact Nat.le_trans (Nat.le_succ m) (scanN_ge l a k (m + 1))
   ·exact Nat.le_refl _
  ·exact Nat.le_refl _
theorem scanN_le (l : List S61) (a : Int) : ∀ k m, m ≤ l.length → scanN l a k m ≤ l.length
 | 0, _, h => h
 | k + 1, m, h => by
  rw [scanN]
  split
  ·split
   ·exact scanN_le l a k (m + 1) (by omega)
   ·exact h
  ·exact h
def runN (l : List S61) : Nat := scanN l (Zi l 0).f0 (l.length - 1) 1
def wPol : Nat → List S61 → Int → List S69 × Int
 | 0, _, lab => ([], lab)
 | n + 1, l, lab => if l.length = 0 then ([], lab) else
  ([wBranch 2 21 (Zi l 0).f0 (wrap64 (lab + 1)), wLoad 0] ++ ((wTree (runN l) (l.take (runN l)) (wrap64 (lab + 1))).1 ++ (wHere (wrap64 (lab + 1)) :: (wPol n (l.drop (runN l)) (wTree (runN l) (l.take (runN l)) (wrap64 (lab + 1))).2).1)), (wPol n (l.drop (runN l)) (wTree (runN l) (l.take (runN l)) (wrap64 (lab + 1))).2).2)
def wPolicy (l : List S61) (lab : Int) : List S69 := (if l.length = 0 then [] else [wLoad 4]) ++ ((wPol l.length l lab).1 ++ [wHere 0, wIns 6 2147483648])
set_option maxHeartbeats 16000000 in
set_option maxRecDepth 100000 in
theorem writer_policy.does {w0 w : World} {g : Nat} {v : Value} {items : List S69} {lab : Int} (h : IsW w0 w g v items lab) (A0 : Option Addr) (c0 : Nat) (l : List S61) (hr0 : Kd.C k61 w0 A0 l.length l) (hc0 : l.length ≤ c0) (hfit : EntFit l) (hl : items.length + (wPolicy l lab).length + 64 < 1073741824) : Calls Try.prog 19 #[.pointer (some ⟨g, 0, none⟩), .agg #[.slice A0 l.length c0]] w (Wrote w0 w g v (items ++ wPolicy l lab) (wPol l.length l lab).2) := by
  have hb0 : Below w.heap.size w (w.alloc (.cells #[.slice A0 l.length c0] 31)) := Zc (Below.refl _ _) _
  have HK := Za.mk ((KeepW.refl w g v).below hb0)
  have HN0 := Za.mk (h.ne_new (Nat.le_refl _))
  have HW := Za.mk (h.to hb0)
  have HLT := Za.mk h.lt
  have HB1 := Za.mk (blk_new w (.cells #[.slice A0 l.length c0] 31))
  have HR := Za.mk (And.intro hr0 (And.intro hc0 hfit))
  have HT := Za.mk hl
  have HL := Za.mk (show items.length + 8 < 1073741824 by omega)
  clear h hb0 hr0 hc0 hfit hl
  -- the beginning: with entries, one load
  have key : ∀ (its : List S69) (lb : Int), its = items ++ (if l.length = 0 then [] else [wLoad 4]) → lb = lab → its ++ (wPol l.length l lb).1 = items ++ (if l.length = 0 then [] else [wLoad 4]) ++ (wPol l.length l lab).1 ∧ (wPol l.length l lb).2 = (wPol l.length l lab).2 := fun its lb h1 h2 => by subst h1; subst h2; exact ⟨rfl, rfl⟩
  have HKey := Za.mk key
  clear key
  go_enter Try.func19, Try.ntmps19
  by_cases he : l.length = 0
  all_goals
    first
    | (have heb : decide (0 < l.length) = false := decide_eq_false (by omega)
       have heb2 : decide ((l.length : Int) > 0) = false := decide_eq_false (by omega)
       have heb3 : decide ((0 : Int) < (l.length : Int)) = false := decide_eq_false (by omega)
       have HE := Za.mk (show items = items ++ (if l.length = 0 then [] else [wLoad 4]) by rw [if_pos he, List.append_nil])
       clear he
       go_wp2_with fail)
    | (have heb : decide (0 < l.length) = true := decide_eq_true (by omega)
       have heb2 : decide ((l.length : Int) > 0) = true := decide_eq_true (by omega)
       have heb3 : decide ((0 : Int) < (l.length : Int)) = true := decide_eq_true (by omega)
       have HE := Za.mk (show items ++ [wLoad 4] = items ++ (if l.length = 0 then [] else [wLoad 4]) by rw [if_neg he])
       clear he
       go_wp2_with (first | (go_at_call 40; refine (writer_load.does HW.out 4 (by (try simp only [List.length_append, List.length_cons, List.length_nil]); have := HL.out; omega)).mono ?_; rintro e w5 ⟨rfl, v5, hW5, hK5⟩; have c9 : w5.cell? ⟨w.heap.size, 0, none⟩ = some (.slice A0 l.length c0) := (Zb (hK5.box HB1.out HN0.out.1 HN0.out.2).1 0).trans rfl; have nW := Za.mk hW5; have nK := Za.mk (HK.out.trans hK5); clear HW HK hW5 hK5; have HW := nW; have HK := nK; clear nW nK)))
    clear heb heb2 heb3
    go_loopg [4] l.length (fun kq v4 w' => ∃ (cur : List S61) (Ac : Option Addr) (cc : Nat) (v' : Value) (its : List S69) (lb : Int), v4 = .slice Ac cur.length cc ∧ Za (cur.length ≤ kq) ∧ Za (Kd.C k61 w0 Ac cur.length cur ∧ cur.length ≤ cc ∧ EntFit cur) ∧ Za (IsW w0 w' g v' its lb) ∧ Za (KeepW w w' g v v') ∧ Za (its ++ (wPol kq cur lb).1 = items ++ (if l.length = 0 then [] else [wLoad 4]) ++ (wPol l.length l lab).1 ∧ (wPol kq cur lb).2 = (wPol l.length l lab).2))
    case atStart => exact ⟨l, A0, c0, _, _, _, rfl, ⟨Nat.le_refl _⟩, HR, HW, HK, ⟨HKey.out _ _ HE.out rfl⟩⟩
    case round =>
      clear HW HK HB1 HE HKey HL HR HN0 HLT
      obtain ⟨cur, Ac, cc, v1, its, lb, rfl, HC, HR, HW, HK, HE⟩ := hrel
      by_cases hi : cur.length = 0
      · have hib : decide ((cur.length : Int) > 0) = false := decide_eq_false (by omega)
        have hibn : decide (0 < cur.length) = false := decide_eq_false (by omega)
        have hE := HE.out
        have hz : wPol gk cur lb = ([], lb) := by
          cases gk with
          | zero => rfl
          | succ n => rw [wPol, if_pos hi]
        rw [hz, List.append_nil] at hE
        have HE2 := Za.mk hE
        have HL := Za.mk (show its.length + 32 < 1073741824 by
          have h1 := congrArg List.length hE.1
          have h2 := HT.out
          simp only [wPolicy, List.length_append, List.length_cons, List.length_nil] at h1 h2
          omega)
        clear hE hz hi HE
        go_wp2_with (first | (go_at_call 44; refine (writer_here.does HW.out 0 (by (try simp only [List.length_append, List.length_cons, List.length_nil]); have := HL.out; omega)).mono ?_; rintro e w5 ⟨rfl, v5, hW5, hK5⟩; have nW := Za.mk hW5; have nK := Za.mk (HK.out.trans hK5); clear HW HK hW5 hK5; have HW := nW; have HK := nK; clear nW nK) | (go_at_call 45; refine (writer_ins.does HW.out 6 2147483648 (by (try simp only [List.length_append, List.length_cons, List.length_nil]); have := HL.out; omega)).mono ?_; rintro e w5 ⟨rfl, v5, hW5, hK5⟩; have nW := Za.mk hW5; have nK := Za.mk (HK.out.trans hK5); clear HW HK hW5 hK5; have HW := nW; have HK := nK; clear nW nK))
        go_end0
        have hE := HE2.out
        refine ⟨rfl, _, ?_, HK.out⟩
        have hW := HW.out
        rw [hE.1] at hW
        rw [← hE.2]
        unfold wPolicy
        simpa using hW
      obtain ⟨k1, rfl⟩ : ∃ m, gk = m + 1 := ⟨gk - 1, by have := HC.out; omega⟩
      have hib : decide ((cur.length : Int) > 0) = true := decide_eq_true (by omega)
      have hibn : decide (0 < cur.length) = true := decide_eq_true (by omega)
      have hi0 : 0 < cur.length := by omega
      have hlen := HR.out.2.2.1
      have hcc := HR.out.2.1
      obtain ⟨ad, A2, c2, rfl, g0, g1, g2, g3, g4⟩ := at_T61 HR.out.1 0 (by omega) (by omega)
      simp only [Int.toNat_zero, Nat.zero_mul, Addr.add_zero'] at g0
      have HG := Za.mk g0
      obtain ⟨M, hM⟩ : ∃ M, runN cur = M := ⟨_, rfl⟩
      have hM1 : 1 ≤ M := by rw [← hM]; exact scanN_ge _ _ _ _
      have hM2 : M ≤ cur.length := by rw [← hM]; exact scanN_le _ _ _ _ (by omega)
      have HSt := Za.mk (show wPol (k1 + 1) cur lb = ([wBranch 2 21 (Zi cur 0).f0 (wrap64 (lb + 1)), wLoad 0] ++ ((wTree M (cur.take M) (wrap64 (lb + 1))).1 ++ (wHere (wrap64 (lb + 1)) :: (wPol k1 (cur.drop M) (wTree M (cur.take M) (wrap64 (lb + 1))).2).1)), (wPol k1 (cur.drop M) (wTree M (cur.take M) (wrap64 (lb + 1))).2).2) by rw [wPol, if_neg hi, hM])
      have HS0 := Za.mk (show scanN cur (Zi cur 0).f0 (cur.length - 1) 1 = M from hM)
      obtain ⟨a0, ha0⟩ : ∃ a0, (Zi cur 0).f0 = a0 := ⟨_, rfl⟩
      rw [ha0] at HG HSt HS0
      have HMM := Za.mk (And.intro hM1 hM2)
      clear g0 g1 g2 g3 g4 hi ha0 hM hM1 hM2
      obtain ⟨wo, hwo⟩ : ∃ wo : World, wo = wr := ⟨_, rfl⟩
      subst hwo
      go_wp2_with fail
      clear hib hibn
      go_loopg [5] (cur.length - 1) (fun kq v5 w' => ∃ m : Nat, v5 = .int .i64 (m : Int) ∧ Za (kq + m = cur.length ∧ 1 ≤ m) ∧ Za (scanN cur a0 kq m = M) ∧ Za (Below wo.heap.size wo w'))
      case atStart => exact ⟨1, rfl, ⟨by omega, Nat.le_refl _⟩, HS0, ⟨Below.refl _ _⟩⟩
      case round =>
        clear HS0
        obtain ⟨m, rfl, HM, HS, HB⟩ := hrel
        by_cases hm : m < cur.length
        · obtain ⟨k2, rfl⟩ : ∃ m, gk = m + 1 := ⟨gk - 1, by have := HM.out; omega⟩
          have hmb : decide ((m : Int) < (cur.length : Int)) = true := decide_eq_true (by omega)
          have hmbn : decide (m < cur.length) = true := decide_eq_true hm
          have hwm : wrap64 ((m : Int) + 1) = ((m + 1 : Nat) : Int) := by unfold wrap64; omega
          have hS := HS.out
          rw [scanN, if_pos hm] at hS
          obtain ⟨ad2, A3, c3, e3, g0, g1, g2, g3, g4⟩ := at_T61 HR.out.1 (m : Int) (by omega) (by omega)
          obtain rfl : ad = ad2 := by injection e3
          simp only [Int.toNat_natCast] at g0
          replace g0 := (HW.out.bel.cell (World.block_lt_of_cell? w0 _ g0)).trans g0
          replace g0 := (HB.out.cell (World.block_lt_of_cell? wo _ g0)).trans g0
          have z0 := (HW.out.bel.cell (World.block_lt_of_cell? w0 _ HG.out)).trans HG.out
          replace z0 := (HB.out.cell (World.block_lt_of_cell? wo _ z0)).trans z0
          obtain ⟨am, ham⟩ : ∃ am, (Zi cur (m : Int)).f0 = am := ⟨_, rfl⟩
          rw [ham] at g0 hS
          clear g1 g2 g3 g4 e3 ham
          by_cases hc : am = a0
          · have hcb : (am == a0) = true := beq_iff_eq.2 hc
            rw [if_pos hc] at hS
            have HSn := Za.mk hS
            clear hS hc
            go_wp2
            repeat (go_quiet (fail); try go_wp2)
            go_roundg k2
            case measure => omega
            case rel => exact ⟨m + 1, by first | rfl | (rw [← hwm]; done) | (simp [hwm]; done), ⟨by have := HM.out; omega⟩, HSn, ⟨by with_reducible repeat first | exact HB.out | apply Zc | apply Ze | apply Zd⟩⟩
          · have hcb : (am == a0) = false := beq_eq_false_iff_ne.2 hc
            rw [if_neg hc] at hS
            subst hS
            clear hc HS
            go_wp2
            go_quiet (fail)
            have hb1 : Below wo.heap.size wo (wr.drewN nq) := by with_reducible repeat first | exact HB.out | apply Zc | apply Ze | apply Zd
            have HW2 := Za.mk (HW.out.to hb1)
            have HK2 := Za.mk (HK.out.below hb1)
            have z1 := (HW2.out.bel.cell (World.block_lt_of_cell? w0 _ HG.out)).trans HG.out
            obtain ⟨i1, hi1, _, hsz1, _⟩ := info_parts info61
            have ht1 : (cur.take m).length = m := by rw [List.length_take]; have := HMM.out.2; omega
            have hcutT := cut_to (P := Try.prog) 29 61 .i64 Try.underlying29 hi1 (some ad) cur.length cc (m : Int) (by omega) (by have := HMM.out.2; omega) hcc
            have hcutF := cut_from (P := Try.prog) 29 61 .i64 Try.underlying29 hi1 3 hsz1 (some ad) cur.length cc (m : Int) (by omega) (by have := HMM.out.2; omega)
            have HCT := Za.mk (Kd.C_take (m := m) HR.out.1 HMM.out.2)
            have HCD := Za.mk (Kd.C_drop (m := m) (c := cc) HR.out.1 HMM.out.2 hcc)
            have hef := HR.out.2.2
            have HFT := Za.mk (hef.take m)
            have HFD := Za.mk (hef.drop m)
            have HT1 := Za.mk ht1
            rw [Int.toNat_natCast] at hcutT hcutF
            rw [show k61.sz = 3 from rfl] at HCD
            obtain ⟨A9, hA9⟩ : ∃ A9, (if cc = m then (some ad : Option Addr) else (some ad : Option Addr).map (·.add (m * 3))) = A9 := ⟨_, rfl⟩
            rw [hA9] at hcutF HCD
            have ht2 : cur.length - m = (cur.drop m).length := List.length_drop.symm
            have HD := Za.mk (show (cur.drop m).length ≤ k1 ∧ (cur.drop m).length ≤ cc - m by rw [List.length_drop]; have := HC.out; have := HMM.out; omega)
            rw [ht2] at hcutF
            have hE := HE.out
            rw [HSt.out] at hE
            simp only at hE
            have HE2 := Za.mk hE
            have HL := Za.mk (show its.length + (wTree m (cur.take m) (wrap64 (lb + 1))).1.length + 68 < 1073741824 by
              have h1 := congrArg List.length hE.1
              have h2 := HT.out
              simp only [wPolicy, List.length_append, List.length_cons, List.length_nil] at h1 h2
              omega)
            clear HW HK HB hb1 hi1 hsz1 ht1 ht2 hA9 hE HE HSt hef
            obtain ⟨cur2, hcur2⟩ : ∃ cur2, cur.drop m = cur2 := ⟨_, rfl⟩
            rw [hcur2] at hcutF HCD HD HE2 HFD
            have HW := HW2
            have HK := HK2
            clear HW2 HK2 hcur2 hcc hlen
            go_wp2_with (first | (go_at_call 41; refine (writer_label.does HW.out).mono ?_; rintro e w5 ⟨rfl, hW5, hK5⟩; have z1 := (hW5.bel.cell (World.block_lt_of_cell? w0 _ HG.out)).trans HG.out; have nW := Za.mk hW5; have nK := Za.mk (HK.out.trans hK5); clear HW HK hW5 hK5; have HW := nW; have HK := nK; clear nW nK) | (go_at_call 42; refine (writer_branch.does HW.out 2 21 a0 (wrap64 (lb + 1)) (by (try simp only [List.length_append, List.length_cons, List.length_nil]); have := HL.out; omega)).mono ?_; rintro e w5 ⟨rfl, v5, hW5, hK5⟩; have nW := Za.mk hW5; have nK := Za.mk (HK.out.trans hK5); clear HW HK hW5 hK5; have HW := nW; have HK := nK; clear nW nK) | (go_at_call 40; refine (writer_load.does HW.out 0 (by (try simp only [List.length_append, List.length_cons, List.length_nil]); have := HL.out; omega)).mono ?_; rintro e w5 ⟨rfl, v5, hW5, hK5⟩; have nW := Za.mk hW5; have nK := Za.mk (HK.out.trans hK5); clear HW HK hW5 hK5; have HW := nW; have HK := nK; clear nW nK) | (go_at_call 43; have ih1 := writer_tree.does m HW.out (some ad) cc (cur.take m) HCT.out (by rw [HT1.out]; have := HMM.out.2; have := HR.out.2.1; omega) (by rw [HT1.out]; exact HMM.out.1) (by rw [HT1.out]; exact Nat.le_refl _) HFT.out (by have := HL.out; simp only [List.length_append, List.length_cons, List.length_nil]; omega); rw [HT1.out] at ih1; refine ih1.mono ?_; clear ih1; rintro e w5 ⟨rfl, v5, hW5, hK5⟩; have nW := Za.mk hW5; have nK := Za.mk (HK.out.trans hK5); clear HW HK hW5 hK5; have HW := nW; have HK := nK; clear nW nK) | (go_at_call 44; refine (writer_here.does HW.out (wrap64 (lb + 1)) (by (try simp only [List.length_append, List.length_cons, List.length_nil]); have := HL.out; omega)).mono ?_; rintro e w5 ⟨rfl, v5, hW5, hK5⟩; have nW := Za.mk hW5; have nK := Za.mk (HK.out.trans hK5); clear HW HK hW5 hK5; have HW := nW; have HK := nK; clear nW nK))
            go_roundg k1
            case measure => omega
            case rel =>
              have hE := HE2.out
              refine ⟨cur2, A9, cc - m, _, _, _, by first | rfl | (simp; done), ⟨HD.out.1⟩, ⟨HCD.out, HD.out.2, HFD.out⟩, HW, HK, ⟨?_, hE.2⟩⟩
              rw [← hE.1]
              simp
        · have hmb : decide ((m : Int) < (cur.length : Int)) = false := decide_eq_false (by omega)
          have hmbn : decide (m < cur.length) = false := decide_eq_false hm
          obtain rfl : m = M := by
            have hS := HS.out
            cases gk with
            | zero => exact hS
            | succ n => have := HM.out; omega
          go_wp2
          go_quiet (fail)
          have hb1 : Below wo.heap.size wo (wr.drewN nq) := by with_reducible repeat first | exact HB.out | apply Zc | apply Ze | apply Zd
          have HW2 := Za.mk (HW.out.to hb1)
          have HK2 := Za.mk (HK.out.below hb1)
          have z1 := (HW2.out.bel.cell (World.block_lt_of_cell? w0 _ HG.out)).trans HG.out
          obtain ⟨i1, hi1, _, hsz1, _⟩ := info_parts info61
          have ht1 : (cur.take m).length = m := by rw [List.length_take]; have := HMM.out.2; omega
          have hcutT := cut_to (P := Try.prog) 29 61 .i64 Try.underlying29 hi1 (some ad) cur.length cc (m : Int) (by omega) (by have := HMM.out.2; omega) hcc
          have hcutF := cut_from (P := Try.prog) 29 61 .i64 Try.underlying29 hi1 3 hsz1 (some ad) cur.length cc (m : Int) (by omega) (by have := HMM.out.2; omega)
          have HCT := Za.mk (Kd.C_take (m := m) HR.out.1 HMM.out.2)
          have HCD := Za.mk (Kd.C_drop (m := m) (c := cc) HR.out.1 HMM.out.2 hcc)
          have hef := HR.out.2.2
          have HFT := Za.mk (hef.take m)
          have HFD := Za.mk (hef.drop m)
          have HT1 := Za.mk ht1
          rw [Int.toNat_natCast] at hcutT hcutF
          rw [show k61.sz = 3 from rfl] at HCD
          obtain ⟨A9, hA9⟩ : ∃ A9, (if cc = m then (some ad : Option Addr) else (some ad : Option Addr).map (·.add (m * 3))) = A9 := ⟨_, rfl⟩
          rw [hA9] at hcutF HCD
          have ht2 : cur.length - m = (cur.drop m).length := List.length_drop.symm
          have HD := Za.mk (show (cur.drop m).length ≤ k1 ∧ (cur.drop m).length ≤ cc - m by rw [List.length_drop]; have := HC.out; have := HMM.out; omega)
          rw [ht2] at hcutF
          have hE := HE.out
          rw [HSt.out] at hE
          simp only at hE
          have HE2 := Za.mk hE
          have HL := Za.mk (show its.length + (wTree m (cur.take m) (wrap64 (lb + 1))).1.length + 68 < 1073741824 by
            have h1 := congrArg List.length hE.1
            have h2 := HT.out
            simp only [wPolicy, List.length_append, List.length_cons, List.length_nil] at h1 h2
            omega)
          clear HW HK HB hb1 hi1 hsz1 ht1 ht2 hA9 hE HE HSt hef
          obtain ⟨cur2, hcur2⟩ : ∃ cur2, cur.drop m = cur2 := ⟨_, rfl⟩
          rw [hcur2] at hcutF HCD HD HE2 HFD
          have HW := HW2
          have HK := HK2
          clear HW2 HK2 hcur2 hcc hlen
          go_wp2_with (first | (go_at_call 41; refine (writer_label.does HW.out).mono ?_; rintro e w5 ⟨rfl, hW5, hK5⟩; have z1 := (hW5.bel.cell (World.block_lt_of_cell? w0 _ HG.out)).trans HG.out; have nW := Za.mk hW5; have nK := Za.mk (HK.out.trans hK5); clear HW HK hW5 hK5; have HW := nW; have HK := nK; clear nW nK) | (go_at_call 42; refine (writer_branch.does HW.out 2 21 a0 (wrap64 (lb + 1)) (by (try simp only [List.length_append, List.length_cons, List.length_nil]); have := HL.out; omega)).mono ?_; rintro e w5 ⟨rfl, v5, hW5, hK5⟩; have nW := Za.mk hW5; have nK := Za.mk (HK.out.trans hK5); clear HW HK hW5 hK5; have HW := nW; have HK := nK; clear nW nK) | (go_at_call 40; refine (writer_load.does HW.out 0 (by (try simp only [List.length_append, List.length_cons, List.length_nil]); have := HL.out; omega)).mono ?_; rintro e w5 ⟨rfl, v5, hW5, hK5⟩; have nW := Za.mk hW5; have nK := Za.mk (HK.out.trans hK5); clear HW HK hW5 hK5; have HW := nW; have HK := nK; clear nW nK) | (go_at_call 43; have ih1 := writer_tree.does m HW.out (some ad) cc (cur.take m) HCT.out (by rw [HT1.out]; have := HMM.out.2; have := HR.out.2.1; omega) (by rw [HT1.out]; exact HMM.out.1) (by rw [HT1.out]; exact Nat.le_refl _) HFT.out (by have := HL.out; simp only [List.length_append, List.length_cons, List.length_nil]; omega); rw [HT1.out] at ih1; refine ih1.mono ?_; clear ih1; rintro e w5 ⟨rfl, v5, hW5, hK5⟩; have nW := Za.mk hW5; have nK := Za.mk (HK.out.trans hK5); clear HW HK hW5 hK5; have HW := nW; have HK := nK; clear nW nK) | (go_at_call 44; refine (writer_here.does HW.out (wrap64 (lb + 1)) (by (try simp only [List.length_append, List.length_cons, List.length_nil]); have := HL.out; omega)).mono ?_; rintro e w5 ⟨rfl, v5, hW5, hK5⟩; have nW := Za.mk hW5; have nK := Za.mk (HK.out.trans hK5); clear HW HK hW5 hK5; have HW := nW; have HK := nK; clear nW nK))
          go_roundg k1
          case measure => omega
          case rel =>
            have hE := HE2.out
            refine ⟨cur2, A9, cc - m, _, _, _, by first | rfl | (simp; done), ⟨HD.out.1⟩, ⟨HCD.out, HD.out.2, HFD.out⟩, HW, HK, ⟨?_, hE.2⟩⟩
            rw [← hE.1]
            simp


end Go.Proofs.Ytgmbahldjiiajaa.P
