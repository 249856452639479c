/- The program's Compile gives what the reference's Compile gives, for every policy (of policies with more than 2^20 entries, rules and conditions in all nothing is asked); its answer owns its memory. -/
import Derived.Test.YtgmbahldjiiajaaGFnExactCompile4
import Derived.Test.YtgmbahldjiiajaaGFnExactCompile15
import Derived.Test.YtgmbahldjiiajaaGFnExactCompile22
import Derived.Test.YtgmbahldjiiajaaGFnExactCompile13
import Derived.Test.YtgmbahldjiiajaaGFnExactCompile23
import Derived.Test.YtgmbahldjiiajaaGFnExactCompile8
import Derived.Test.YtgmbahldjiiajaaGFnExactCompile19
import Derived.Test.YtgmbahldjiiajaaGFnExactCompile10
import Derived.Test.YtgmbahldjiiajaaGFnExactCompile5
import Derived.Test.YtgmbahldjiiajaaGFnExactCompile12
import Derived.Test.YtgmbahldjiiajaaGFnExactCompile20
import Derived.Test.YtgmbahldjiiajaaGFnExactCompile21
import Derived.Test.YtgmbahldjiiajaaRows
import Derived.WalkKit
import Derived.ProofKit
import Derived.OpenShut
import Derived.ShutString
import Derived.ChangeOld
import Derived.Below
import Derived.SizedLaws
namespace Go.Proofs.Ytgmbahldjiiajaa.P
open Go.RowKit Go.Proofs.YtgmbahldjiiajaaW.PrintWords Go.Proofs.YtgmbahldjiiajaaW.PrintLast Go.Proofs.YtgmbahldjiiajaaW.PrintMore
attribute [local go_sem] max2_int min2_int max_two min_two max_three min_three max_four min_four
set_option linter.unusedVariables false
set_option linter.unusedSimpArgs false

def entFitB (l : List S61) : Bool := decide (l.length ≤ 1000000) && l.all fun e => decide (e.f2.length ≤ 1000000) && e.f2.all fun r => decide (r.f0.length ≤ 1000000)
theorem entFit_of {l : List S61} (h : entFitB l = true) : EntFit l := by
 unfold entFitB at h
 rw [Bool.and_eq_true, decide_eq_true_eq] at h
 refine ⟨h.1, fun e he => ?_⟩
 have h2 := List.all_eq_true.1 h.2 e he
 rw [Bool.and_eq_true, decide_eq_true_eq] at h2
 exact ⟨h2.1, fun r hr => of_decide_eq_true (List.all_eq_true.1 h2.2 r hr)⟩
def impl_Compile.f (k : Nat) (l0_0 : List S61) : Option (List S52 × Int) :=
 (Zaq.f k l0_0).bind fun v => if v = true then (if entFitB l0_0 = true then (if (wPolicy l0_0 0).length + 64 < 1073741824 then impl_layout.f k (wPolicy l0_0 0) else none) else none) else some ([], 1)
set_option maxHeartbeats 16000000 in
set_option maxRecDepth 100000 in
theorem impl_Compile.calls (k : Nat) (A0_0 : Option Addr) (c0_0 : Nat) (l0_0 : List S61) (r1 : List S52) (r2 : Int) (w : World) (hr0_0 : Kd.C k61 w A0_0 l0_0.length l0_0) (hc0_0 : l0_0.length ≤ c0_0) (h : impl_Compile.f k l0_0 = some (r1, r2)) :
  Calls Try.prog 7 #[.agg #[.slice A0_0 l0_0.length c0_0]] w fun e w' => ∃ v0_ : Value, e = .returned (.tuple #[v0_, .int .i64 r2]) ∧ Kd.R k52 52 w' w.heap.size (fun _ => True) v0_ r1 ∧ Below w.heap.size w w' := by
 unfold impl_Compile.f at h
 replace h := Option.bind_eq_some_iff.1 h
 obtain ⟨v, hv, h⟩ := h
 have HV := Za.mk hv
 have HR := Za.mk (And.intro hr0_0 hc0_0)
 clear hv hr0_0 hc0_0
 have HX := Za.mk (fun (W : World) => Zaq.calls k A0_0 c0_0 l0_0 v W)
 cases v with
 | false =>
  rw [if_neg (by simp)] at h
  simp only [Option.some.injEq, Prod.mk.injEq] at h
  obtain ⟨rfl, rfl⟩ := h
  go_enter Try.func7, Try.ntmps7
  go_wp2_with (go_at_call 18; refine (HX.out _ (Kd.Zan HR.out.1 (Zc (Below.refl _ _) _)) HR.out.2 HV.out).mono ?_; rintro e w1 ⟨rfl, hb⟩; have HB := Za.mk (Zbp (Zc (Below.refl _ _) _) hb (by simp)); clear hb)
  go_returns
  exact ⟨_, rfl, Kd.R_nil _ _ _ _ _, HB.out⟩
 | true =>
  rw [if_pos rfl] at h
  by_cases hf : entFitB l0_0 = true
  case neg => rw [if_neg hf] at h; exact absurd h (by simp)
  rw [if_pos hf] at h
  by_cases hl : (wPolicy l0_0 0).length + 64 < 1073741824
  case neg => rw [if_neg hl] at h; exact absurd h (by simp)
  rw [if_pos hl] at h
  have HF := Za.mk (entFit_of hf)
  have HL := Za.mk hl
  have HLay := Za.mk h
  clear hf hl h
  go_enter Try.func7, Try.ntmps7
  go_wp2_with (first | (go_at_call 18; refine (HX.out _ (Kd.Zan HR.out.1 (Zc (Below.refl _ _) _)) HR.out.2 HV.out).mono ?_; rintro e w1 ⟨rfl, hb⟩; have HB := Za.mk (Zbp (Zc (Below.refl _ _) _) hb (by simp)); have hbl := Zp (blk_new w (.cells #[.slice A0_0 l0_0.length c0_0] 31)) hb; have c9 : w1.cell? ⟨w.heap.size, 0, none⟩ = some (.slice A0_0 l0_0.length c0_0) := (Zb hbl 0).trans rfl; have hsz : w.heap.size < w1.heap.size := Zs hbl; clear hbl; have HSZ := Za.mk hsz; clear hb) | (go_at_call 19; refine (writer_policy.does (w0 := w) (v := .slice none 0 0) (items := []) (lab := 0) ⟨blk_new w1 (.cells #[.slice none 0 0, .int .i64 0] 46), Kd.R_nil _ _ _ _ _, Nat.le_of_lt HSZ.out, Zc HB.out _⟩ A0_0 c0_0 l0_0 HR.out.1 HR.out.2 HF.out (by simpa using HL.out)).mono ?_; rintro e w5 ⟨rfl, v5, hW5, hK5⟩; have HW := Za.mk hW5; clear hW5 hK5; obtain ⟨A5, n5, e5, hl5, hr5⟩ := Kd.R_reads HW.out.row; subst e5; have c8 : w5.cell? ⟨w1.heap.size, 0, none⟩ = some (.slice A5 ([] ++ wPolicy l0_0 0).length n5) := (Zb HW.out.blk 0).trans rfl; have HR5 := Za.mk (And.intro hr5 hl5); clear hr5 hl5) | (go_at_call 20; refine (impl_layout.calls k A5 n5 (wPolicy l0_0 0) r1 r2 _ HR5.out.1 HR5.out.2 HLay.out).mono ?_; rintro e w6 ⟨v6, rfl, hR6, hb6⟩; have HR6 := Za.mk (Kd.Zbk hR6 HW.out.bel.size); have HB6 := Za.mk (Zbp HW.out.bel hb6 HW.out.bel.size); clear hR6 hb6))
  go_returns
  exact ⟨_, rfl, HR6.out, HB6.out⟩
/-! Compile, on both sides. -/
theorem lay_both (L : List PIt) (hW : WFC [] L) (ht : ∀ p ∈ L, 0 ≤ p.t.1 ∧ p.t.1 ≤ 14000) (hl : L.length ≤ 1000000) : ∃ r : List S52 × Int, r.1.length ≤ 4096 ∧ Ev (fun k => Zbq.f k (twos L)) r ∧ Ev (fun k => impl_layout.f k (ones L)) r ∧ ∃ n ps, layM (twos L) (twos L).length [] 0 [] = some (n, ps) ∧ r = if n > 4096 then ([], 10) else (ps.flatten, 0) := by
 have hl1 : (ones L).length = L.length := List.length_map _
 have hl2 : (twos L).length = L.length := List.length_map _
 obtain ⟨⟨n, ps⟩, e1, e2⟩ := layN_both L hW L.length (Nat.le_refl _) [] 0 [] (by rw [List.drop_of_length_le (Nat.le_refl _)]; rfl)
 have e1' : layN (ones L) (ones L).length [] 0 [] = some (n, ps) := by rw [hl1]; exact e1
 have e2' : layM (twos L) (twos L).length [] 0 [] = some (n, ps) := by rw [hl2]; exact e2
 have hF := layF_ev (ones L) (fun x hx => by
  obtain ⟨p, hp, rfl⟩ := List.mem_map.1 hx
  have := ht p hp
  unfold ItT PIt.one
  dsimp only
  omega) (ones L).length [] 0 [] (Nat.le_refl _) (by decide) (by omega) (by simp)
 rw [e1'] at hF
 obtain ⟨hn, hn0⟩ := layM_len (twos L) (twos L).length [] 0 [] n ps e2' (by simp)
 obtain ⟨out, o1, o2, o3⟩ := laid_ev (twos L) (by omega) (twos L).length [] 0 [] n ps (Nat.le_refl _) (by simp) (by simp) (by simp) e2'
 have hw : wrap64 (((twos L).length : Int) - 1) = ((twos L).length : Int) - 1 := Zae (by omega) (by omega)
 have hL : Ev (fun k => Zbc.f k (twos L)) out := by
  refine Ev.congr (fun k => ?_) o1
  unfold Zbc.f
  rw [hw]
  rfl
 have hb1 : (ones L).length ≤ 1073741824 := by omega
 by_cases hbig : n > 4096
 ·have h3 := o3 hbig
  refine ⟨([], 10), by simp, ?_, ?_, n, ps, e2', by rw [if_pos hbig]⟩
  ·unfold Zbq.f
   exact ev_bindl hL (ev_is fun k => by rw [if_pos h3])
  ·unfold impl_layout.f
   refine Ev.congr (fun k => by rw [if_pos hb1]) ?_
   exact ev_bindl hF (ev_is fun k => if_pos hbig)
 ·have h2 := o2 (by omega)
  subst h2
  have hfl : ps.flatten.length ≤ 4096 := by omega
  refine ⟨(ps.flatten, 0), hfl, ?_, ?_, n, ps, e2', by rw [if_neg hbig]⟩
  ·have hc := lay_copy ps.flatten.reverse (by rw [List.length_reverse]; omega)
   rw [List.reverse_reverse] at hc
   have q1 : ¬ ((ps.flatten.reverse.length : Int) > 4096) := by rw [List.length_reverse]; omega
   have q2 : wrap64 ((ps.flatten.reverse.length : Int) - 1) = (ps.flatten.reverse.length : Int) - 1 := Zae (by rw [List.length_reverse]; omega) (by rw [List.length_reverse]; omega)
   unfold Zbq.f
   refine ev_bindl hL (Ev.congr (fun k => ?_) hc)
   rw [if_neg q1, q2]
  ·have hb2 : ps.flatten.length ≤ 4294967296 := by omega
   unfold impl_layout.f
   refine Ev.congr (fun k => by rw [if_pos hb1]) ?_
   exact ev_bindl hF (ev_is fun k => by dsimp only; rw [if_neg hbig, if_pos hb2])
theorem items_len (l : List S61) (h : sixE l) (hn : Zad l ≤ 14000) : (gItems l).length ≤ 200000 := by
 have := gPol_len l.length l 0 1 h
 unfold gItems
 simp only [List.length_cons, List.length_append, List.length_nil]
 omega
theorem totL_sum : ∀ l : List S61, totL l = sumN l
 | [] => rfl
 | e :: l => by rw [totL, sumN, totL_sum l]
theorem valid_ok (p : List S61) (hu : polU p) (hv : (∀ i, entP p i) ∧ totL p ≤ 1000) : okE p ∧ Zad p ≤ 14000 ∧ entFitB p = true := by
 obtain ⟨he, ht⟩ := hv
 have each : ∀ e ∈ p, 1 ≤ e.f2.length ∧ e.f2.length ≤ 200 ∧ ∀ r ∈ e.f2, ruleOKr r = true := fun e hm => by
  obtain ⟨i, hi, rfl⟩ := List.getElem_of_mem hm
  obtain ⟨h1, h2, _, h4⟩ := he i hi
  exact ⟨h1, h2, h4⟩
 have hok : okE p := fun e hm r hr => by
  obtain ⟨h6, hc⟩ := (ruleOK_iff r).1 ((each e hm).2.2 r hr)
  refine ⟨h6, fun c hcm => ⟨hu e hm r hr c hcm, ?_⟩⟩
  have h := hc c hcm
  unfold conOKr normRaw at h
  by_cases c0 : c.f0 = 0
  ·exact .inl c0
  ·by_cases c1 : c.f0 = 1
   ·exact .inr (.inl c1)
   ·by_cases c2 : c.f0 = 2
    ·exact .inr (.inr c2)
    ·rw [if_neg c0, if_neg c1, if_neg c2] at h
     exact absurd h (by simp)
 have len : ∀ l : List S61, (∀ e ∈ l, 1 ≤ e.f2.length) → l.length ≤ totL l := by
  intro l
  induction l with
  | nil => intro _; exact Nat.le_refl _
  | cons e l ih =>
   intro h
   have h1 := h e (by simp)
   have h2 := ih (fun x hx => h x (by simp [hx]))
   rw [totL, List.length_cons]
   omega
 have hl := len p (fun e hm => (each e hm).1)
 have hn := needN_sum p
 rw [← totL_sum] at hn
 refine ⟨hok, by omega, ?_⟩
 unfold entFitB
 rw [Bool.and_eq_true]
 refine ⟨decide_eq_true (by omega), List.all_eq_true.2 fun e hm => ?_⟩
 rw [Bool.and_eq_true]
 refine ⟨decide_eq_true (by have := (each e hm).2.1; omega), List.all_eq_true.2 fun r hr => decide_eq_true ?_⟩
 rw [(hok e hm r hr).1]
 decide
theorem lay_deny1 : Ev (fun k => impl_layout.f k (wPolicy [] 0)) (([⟨6, 0, 0, 2147483648⟩] : List S52), (0 : Int)) := by
 have e : layN (wPolicy [] 0) 2 [] 0 [] = some (1, [[], [⟨6, 0, 0, 2147483648⟩]]) := rfl
 have hF := layF_ev (wPolicy [] 0) (fun x hx => by
  have hx' : x ∈ [wHere 0, wIns 6 2147483648] := hx
  simp only [List.mem_cons, List.not_mem_nil, or_false] at hx'
  rcases hx' with rfl | rfl <;> exact ⟨(by decide : (-9223372036854775808 : Int) ≤ 0), (by decide : (0 : Int) < 9223372036854775808)⟩) 2 [] 0 [] (Nat.le_refl _) (by decide) (by decide) (by simp)
 rw [e] at hF
 unfold impl_layout.f
 refine Ev.congr (fun k => by rw [if_pos (by decide)]) ?_
 exact ev_bindl hF (ev_is fun k => rfl)
theorem lay_deny2 : Ev (fun k => Zbq.f k [⟨0, ⟨6, 0, 0, 2147483648⟩, 0⟩]) (([⟨6, 0, 0, 2147483648⟩] : List S52), (0 : Int)) := by
 obtain ⟨r, hr, s1, _, n, ps, e, er⟩ := lay_both [gIns 6 2147483648] (wf_ret _ trivial) (fun p hp => by obtain rfl := List.mem_singleton.1 hp; exact ⟨by decide, by decide⟩) (by decide)
 have s2 : Ev (fun k => Zbq.f k [⟨0, ⟨6, 0, 0, 2147483648⟩, 0⟩]) r := s1
 have e2 : layM (twos [gIns 6 2147483648]) (twos [gIns 6 2147483648]).length [] 0 [] = some (1, [[⟨6, 0, 0, 2147483648⟩]]) := rfl
 rw [e2] at e
 simp only [Option.some.injEq, Prod.mk.injEq] at e
 obtain ⟨rfl, rfl⟩ := e
 rw [if_neg (by decide)] at er
 rw [er] at s2
 exact s2
theorem compile_ev (p : List S61) (hs : SmallEI p) (hu : polU p) : ∃ r : List S52 × Int, r.1.length ≤ 4096 ∧ Ev (fun k => spec_Compile.f k p) r ∧ Ev (fun k => impl_Compile.f k p) r := by
 obtain ⟨b1, hb1, i1⟩ := specValid_ev p hs hu
 obtain ⟨b2, hb2, i2⟩ := implValid_ev p hs
 have e : b2 = b1 := by rw [Bool.eq_iff_iff, i1, i2]
 subst e
 cases b2 with
 | false =>
  refine ⟨([], 1), by simp, ?_, ?_⟩
  ·unfold spec_Compile.f
   exact ev_bindl hb1 (ev_is fun k => rfl)
  ·unfold impl_Compile.f
   exact ev_bindl hb2 (ev_is fun k => rfl)
 | true =>
  obtain ⟨hok, hnd, hfit⟩ := valid_ok p hu (i1.1 rfl)
  have h6 := okE_six hok
  by_cases h0 : p.length = 0
  ·obtain rfl := List.length_eq_zero_iff.1 h0
   have hI : Ev (fun k => impl_layout.f k (wPolicy [] 0)) (([⟨6, 0, 0, 2147483648⟩] : List S52), (0 : Int)) := lay_deny1
   have hS : Ev (fun k => Zbq.f k [⟨0, ⟨6, 0, 0, 2147483648⟩, 0⟩]) (([⟨6, 0, 0, 2147483648⟩] : List S52), (0 : Int)) := lay_deny2
   refine ⟨(([⟨6, 0, 0, 2147483648⟩] : List S52), (0 : Int)), by rw [List.length_singleton]; decide, ?_, ?_⟩
   rotate_left
   ·unfold impl_Compile.f
    refine ev_bindl hb2 (Ev.congr (fun k => ?_) hI)
    rw [if_pos rfl, if_pos hfit, if_pos (by decide)]
   ·unfold spec_Compile.f
    refine ev_bindl hb1 ?_
    refine Ev.congr (fun k => by rw [if_pos rfl]) ?_
    refine ev_bindl (x := [⟨0, ⟨6, 0, 0, 2147483648⟩, 0⟩]) (ev_is fun k => ?_) (ev_bindl hS (ev_is fun k => rfl))
    simp only [Zbd.f, Zbs.f, Option.bind_some]
    rfl
  ·have hlen := items_len p h6 hnd
   obtain ⟨r, hr, s1, s2, _⟩ := lay_both (gItems p) (items_wf p h6) (items_tgt p h6 hnd) (by omega)
   refine ⟨r, hr, ?_, ?_⟩
   ·unfold spec_Compile.f
    refine ev_bindl hb1 ?_
    refine Ev.congr (fun k => by rw [if_pos rfl]) ?_
    exact ev_bindl (items_two p hok hnd h0) (ev_bindl s1 (ev_is fun k => rfl))
   ·have ei := items_one p h6 h0 (by omega)
    have hwl : (wPolicy p 0).length + 64 < 1073741824 := by
     rw [ei]
     unfold ones
     rw [List.length_map]
     omega
    unfold impl_Compile.f
    refine ev_bindl hb2 (Ev.congr (fun k => ?_) s2)
    rw [if_pos rfl, if_pos hfit, if_pos hwl, ei]
def Zco.f (k : Nat) (l0_0 : List S58) : Option Bool :=
 (laws_szPolicy.f k l0_0 1048576).bind fun t => if t < 0 then some true else
 (Zcl.f k l0_0).bind fun a => (spec_Compile.f k a).bind fun b_ => (Zcl.f k l0_0).bind fun x => (impl_Compile.f k x).bind fun g_ => (Zbj.f k g_.1 b_.1).bind fun e_ => if e_ = true then if g_.2 = b_.2 then (Zcl.f k l0_0).bind fun y => (laws_eqPolicy.f k x y).bind fun e_ => if e_ = true then (laws_markPolicy.f k x 1).bind fun km_ => if km_.1 < 0 then none else (Zbj.f k g_.1 b_.1).bind fun e_ => if e_ = true then (Zcb.f k g_.1 1).bind fun m_ => (Zch.f k m_.2 1).bind fun q_ => if q_ = m_.1 then if m_.1 < 0 then none else (Zcl.f k l0_0).bind fun z => (impl_Compile.f k z).bind fun v_ => (Zbj.f k v_.1 b_.1).bind fun e_ => if e_ = true then if v_.2 = b_.2 then some true else none else none else none else none else none else none else none
set_option maxHeartbeats 8000000 in
set_option maxRecDepth 100000 in
theorem Zco.calls (k : Nat) (A0_0 : Option Addr) (c0_0 : Nat) (l0_0 : List S58) (r : Bool) (w : World) (hr0_0 : Kd.C k58 w A0_0 l0_0.length l0_0) (hc0_0 : l0_0.length ≤ c0_0) (h : Zco.f k l0_0 = some r) :
  Calls Try.prog 3 #[.agg #[.slice A0_0 l0_0.length c0_0]] w fun e w' => e = .returned (.bool r) ∧ Below w.heap.size w w' := by
 unfold Zco.f at h
 have HR0 := Za.mk hr0_0
 have HC0 := Za.mk hc0_0
 clear hr0_0 hc0_0
 replace h := Option.bind_eq_some_iff.1 h
 obtain ⟨t, h1, h⟩ := h
 have H1 := Za.mk h1
 clear h1
 by_cases ct : t < 0
 ·rw [if_pos ct] at h
  obtain rfl := Option.some.inj h
  have ctb : decide (t < 0) = true := decide_eq_true ct
  clear h ct
  obtain ⟨n0, hn0⟩ : ∃ n, w.heap.size = n := ⟨_, rfl⟩
  have HN0 := Za.mk hn0
  clear hn0
  go_enter Try.func3, Try.ntmps3
  go_wp2_with fail
  have hb := Zc (Below.refl w.heap.size w) (.cells #[.slice A0_0 l0_0.length c0_0] 24)
  have hbk := blk_new w (.cells #[.slice A0_0 l0_0.length c0_0] 24)
  have hsz := alloc_size w (.cells #[.slice A0_0 l0_0.length c0_0] 24)
  generalize w.alloc (.cells #[.slice A0_0 l0_0.length c0_0] 24) = w1 at hb hbk hsz ⊢
  obtain ⟨gp, hgp⟩ : ∃ g, w.heap.size = g := ⟨_, rfl⟩
  rw [hgp] at hbk ⊢
  have HB1 := Za.mk hb
  have BK_p := Za.mk hbk
  have HG_p := Za.mk (show gp = n0 from by rw [← hgp, HN0.out])
  obtain ⟨n1, hn1⟩ : ∃ n, w1.heap.size = n := ⟨_, rfl⟩
  have HN1 := Za.mk hn1
  have HL1 := Za.mk (show n0 + 1 ≤ n1 from by rw [← hn1, hsz, HN0.out]; exact Nat.le_refl _)
  clear hb hbk hsz hn1 hgp
  go_wp2_with (go_at_call 4; refine (laws_szPolicy.calls k A0_0 c0_0 l0_0 _ t _ (Kd.Zan HR0.out HB1.out) HC0.out H1.out).mono ?_; clear H1; rintro e w2 ⟨rfl, hb⟩; have HB2 := Za.mk (Zbp HB1.out hb HB1.out.size); have BK_p' := Za.mk (Zp BK_p.out hb); clear BK_p; have BK_p := BK_p'; clear BK_p'; have q_p : w2.cell? ⟨gp, 0, none⟩ = some (.slice A0_0 l0_0.length c0_0) := (Zb BK_p.out 0).trans rfl; obtain ⟨n2, hn2⟩ : ∃ n, w2.heap.size = n := ⟨_, rfl⟩; have HN2 := Za.mk hn2; have HL2 := Za.mk (show n1 ≤ n2 from by rw [← hn2, ← HN1.out]; exact hb.size); clear hb hn2)
  go_ret
  exact ⟨rfl, HB2.out⟩
 rw [if_neg ct] at h
 have ctb : decide (t < 0) = false := decide_eq_false ct
 clear ct
 replace h := Option.bind_eq_some_iff.1 h
 obtain ⟨a, h2, h⟩ := h
 replace h := Option.bind_eq_some_iff.1 h
 obtain ⟨⟨b, b2⟩, h3, h⟩ := h
 dsimp only at h
 replace h := Option.bind_eq_some_iff.1 h
 obtain ⟨x, h4, h⟩ := h
 replace h := Option.bind_eq_some_iff.1 h
 obtain ⟨⟨g, g2⟩, h5, h⟩ := h
 dsimp only at h
 replace h := Option.bind_eq_some_iff.1 h
 obtain ⟨e6, h6, h⟩ := h
 by_cases ee : e6 = true
 case neg => rw [if_neg ee] at h; exact absurd h (by simp)
 rw [if_pos ee] at h
 subst ee
 by_cases ee : g2 = b2
 case neg => rw [if_neg ee] at h; exact absurd h (by simp)
 rw [if_pos ee] at h
 subst ee
 replace h := Option.bind_eq_some_iff.1 h
 obtain ⟨y, h7, h⟩ := h
 replace h := Option.bind_eq_some_iff.1 h
 obtain ⟨e8, h8, h⟩ := h
 by_cases ee : e8 = true
 case neg => rw [if_neg ee] at h; exact absurd h (by simp)
 rw [if_pos ee] at h
 subst ee
 replace h := Option.bind_eq_some_iff.1 h
 obtain ⟨⟨km, xm⟩, h9, h⟩ := h
 dsimp only at h
 by_cases ckm : km < 0
 case pos => rw [if_pos ckm] at h; exact absurd h (by simp)
 rw [if_neg ckm] at h
 have ckmb : decide (km < 0) = false := decide_eq_false ckm
 clear ckm
 replace h := Option.bind_eq_some_iff.1 h
 obtain ⟨e10, h10, h⟩ := h
 by_cases ee : e10 = true
 case neg => rw [if_neg ee] at h; exact absurd h (by simp)
 rw [if_pos ee] at h
 subst ee
 replace h := Option.bind_eq_some_iff.1 h
 obtain ⟨⟨m, gm⟩, h11, h⟩ := h
 dsimp only at h
 replace h := Option.bind_eq_some_iff.1 h
 obtain ⟨q, h12, h⟩ := h
 by_cases ee : q = m
 case neg => rw [if_neg ee] at h; exact absurd h (by simp)
 rw [if_pos ee] at h
 subst ee
 by_cases cm : q < 0
 case pos => rw [if_pos cm] at h; exact absurd h (by simp)
 rw [if_neg cm] at h
 have cmb : decide (q < 0) = false := decide_eq_false cm
 clear cm
 replace h := Option.bind_eq_some_iff.1 h
 obtain ⟨z, h13, h⟩ := h
 replace h := Option.bind_eq_some_iff.1 h
 obtain ⟨⟨v, v2⟩, h14, h⟩ := h
 dsimp only at h
 replace h := Option.bind_eq_some_iff.1 h
 obtain ⟨e15, h15, h⟩ := h
 by_cases ee : e15 = true
 case neg => rw [if_neg ee] at h; exact absurd h (by simp)
 rw [if_pos ee] at h
 subst ee
 by_cases ee : v2 = g2
 case neg => rw [if_neg ee] at h; exact absurd h (by simp)
 rw [if_pos ee] at h
 subst ee
 obtain rfl := Option.some.inj h
 have H2 := Za.mk h2
 have H3 := Za.mk h3
 have H4 := Za.mk h4
 have H5 := Za.mk h5
 have H6 := Za.mk h6
 have H7 := Za.mk h7
 have H8 := Za.mk h8
 have H9 := Za.mk h9
 have H10 := Za.mk h10
 have H11 := Za.mk h11
 have H12 := Za.mk h12
 have H13 := Za.mk h13
 have H14 := Za.mk h14
 have H15 := Za.mk h15
 clear h h2 h3 h4 h5 h6 h7 h8 h9 h10 h11 h12 h13 h14 h15
 obtain ⟨n0, hn0⟩ : ∃ n, w.heap.size = n := ⟨_, rfl⟩
 have HN0 := Za.mk hn0
 clear hn0
 go_enter Try.func3, Try.ntmps3
 go_wp2_with fail
 have hb := Zc (Below.refl w.heap.size w) (.cells #[.slice A0_0 l0_0.length c0_0] 24)
 have hbk := blk_new w (.cells #[.slice A0_0 l0_0.length c0_0] 24)
 have hsz := alloc_size w (.cells #[.slice A0_0 l0_0.length c0_0] 24)
 generalize w.alloc (.cells #[.slice A0_0 l0_0.length c0_0] 24) = w1 at hb hbk hsz ⊢
 obtain ⟨gp, hgp⟩ : ∃ g, w.heap.size = g := ⟨_, rfl⟩
 rw [hgp] at hbk ⊢
 have HB1 := Za.mk hb
 have BK_p := Za.mk hbk
 have HG_p := Za.mk (show gp = n0 from by rw [← hgp, HN0.out])
 obtain ⟨n1, hn1⟩ : ∃ n, w1.heap.size = n := ⟨_, rfl⟩
 have HN1 := Za.mk hn1
 have HL1 := Za.mk (show n0 + 1 ≤ n1 from by rw [← hn1, hsz, HN0.out]; exact Nat.le_refl _)
 clear hb hbk hsz hn1 hgp
 go_wp2_with (go_at_call 4; refine (laws_szPolicy.calls k A0_0 c0_0 l0_0 _ t _ (Kd.Zan HR0.out HB1.out) HC0.out H1.out).mono ?_; clear H1; rintro e w2 ⟨rfl, hb⟩; have HB2 := Za.mk (Zbp HB1.out hb HB1.out.size); have BK_p' := Za.mk (Zp BK_p.out hb); clear BK_p; have BK_p := BK_p'; clear BK_p'; have q_p : w2.cell? ⟨gp, 0, none⟩ = some (.slice A0_0 l0_0.length c0_0) := (Zb BK_p.out 0).trans rfl; obtain ⟨n2, hn2⟩ : ∃ n, w2.heap.size = n := ⟨_, rfl⟩; have HN2 := Za.mk hn2; have HL2 := Za.mk (show n1 ≤ n2 from by rw [← hn2, ← HN1.out]; exact hb.size); clear hb hn2)
 go_wp2_with (go_at_call 6; refine (Zcl.deep k A0_0 c0_0 l0_0 a _ (Kd.Zan HR0.out HB2.out) HC0.out H2.out).mono ?_; clear H2; rintro e w3 ⟨v_a, rfl, ho, hb⟩; have HB3 := Za.mk (Zbp HB2.out hb HB2.out.size); obtain ⟨n3, hn3⟩ : ∃ n, w3.heap.size = n := ⟨_, rfl⟩; have HN3 := Za.mk hn3; have HL3 := Za.mk (show n2 ≤ n3 from by rw [← hn3, ← HN2.out]; exact hb.size); have BK_p' := Za.mk (Zp BK_p.out hb); clear BK_p; have BK_p := BK_p'; clear BK_p'; obtain ⟨A_a, c_a, e_a⟩ := Kd.S_slice ho; subst e_a; have HO_a := Za.mk (S_span ho HN2.out hn3 (HB2.out.size)); (try clear q_p); have q_p : w3.cell? ⟨gp, 0, none⟩ = some (.slice A0_0 l0_0.length c0_0) := (Zb BK_p.out 0).trans rfl; clear ho hb hn3)
 go_wp2_with (go_at_call 5; refine (spec_Compile.calls k A_a c_a a b v2 _ (Kd.S_reads' HO_a.out).2.2 (Kd.S_reads' HO_a.out).2.1 H3.out).mono ?_; clear H3; rintro e w4 ⟨v_b, rfl, ho, hb⟩; have HB4 := Za.mk (Zbp HB3.out hb HB3.out.size); obtain ⟨n4, hn4⟩ : ∃ n, w4.heap.size = n := ⟨_, rfl⟩; have HN4 := Za.mk hn4; have HL4 := Za.mk (show n3 ≤ n4 from by rw [← hn4, ← HN3.out]; exact hb.size); have HO_a' := Za.mk (Kd.S_below HO_a.out hb); clear HO_a; have HO_a := HO_a'; clear HO_a'; have BK_p' := Za.mk (Zp BK_p.out hb); clear BK_p; have BK_p := BK_p'; clear BK_p'; obtain ⟨A_b, c_b, e_b⟩ := Kd.Zay ho; subst e_b; have HO_b := Za.mk (R_span ho HN3.out hn4 (HB3.out.size)); (try clear q_p); have q_p : w4.cell? ⟨gp, 0, none⟩ = some (.slice A0_0 l0_0.length c0_0) := (Zb BK_p.out 0).trans rfl; clear ho hb hn4)
 clear HO_a
 go_wp2_with (go_at_call 6; refine (Zcl.deep k A0_0 c0_0 l0_0 x _ (Kd.Zan HR0.out HB4.out) HC0.out H4.out).mono ?_; clear H4; rintro e w5 ⟨v_x, rfl, ho, hb⟩; have HB5 := Za.mk (Zbp HB4.out hb HB4.out.size); obtain ⟨n5, hn5⟩ : ∃ n, w5.heap.size = n := ⟨_, rfl⟩; have HN5 := Za.mk hn5; have HL5 := Za.mk (show n4 ≤ n5 from by rw [← hn5, ← HN4.out]; exact hb.size); have HO_b' := Za.mk (Kd.Zam HO_b.out hb); clear HO_b; have HO_b := HO_b'; clear HO_b'; have BK_p' := Za.mk (Zp BK_p.out hb); clear BK_p; have BK_p := BK_p'; clear BK_p'; obtain ⟨A_x, c_x, e_x⟩ := Kd.S_slice ho; subst e_x; have HO_x := Za.mk (S_span ho HN4.out hn5 (HB4.out.size)); (try clear q_p); have q_p : w5.cell? ⟨gp, 0, none⟩ = some (.slice A0_0 l0_0.length c0_0) := (Zb BK_p.out 0).trans rfl; clear ho hb hn5)
 have hb := Zc (Below.refl w5.heap.size w5) (.cells #[.slice A_x x.length c_x] 31)
 have hbk := blk_new w5 (.cells #[.slice A_x x.length c_x] 31)
 have hsz := alloc_size w5 (.cells #[.slice A_x x.length c_x] 31)
 generalize w5.alloc (.cells #[.slice A_x x.length c_x] 31) = w6 at hb hbk hsz ⊢
 obtain ⟨gx, hgx⟩ : ∃ g, w5.heap.size = g := ⟨_, rfl⟩
 rw [hgx] at hbk ⊢
 have HB6 := Za.mk (Zbp HB5.out hb HB5.out.size)
 obtain ⟨n6, hn6⟩ : ∃ n, w6.heap.size = n := ⟨_, rfl⟩; have HN6 := Za.mk hn6; have HL6 := Za.mk (show n5 + 1 ≤ n6 from by rw [← hn6, hsz, HN5.out]; exact Nat.le_refl _); have HO_b' := Za.mk (Kd.Zam HO_b.out hb); clear HO_b; have HO_b := HO_b'; clear HO_b'; have HO_x' := Za.mk (Kd.S_below HO_x.out hb); clear HO_x; have HO_x := HO_x'; clear HO_x'; have BK_p' := Za.mk (Zp BK_p.out hb); clear BK_p; have BK_p := BK_p'; clear BK_p'; (try clear q_p)
 have BK_x := Za.mk hbk
 have HG_x := Za.mk (show gx = n5 from by rw [← hgx, HN5.out])
 have q_p : w6.cell? ⟨gp, 0, none⟩ = some (.slice A0_0 l0_0.length c0_0) := (Zb BK_p.out 0).trans rfl; have q_x : w6.cell? ⟨gx, 0, none⟩ = some (.slice A_x x.length c_x) := (Zb BK_x.out 0).trans rfl
 clear hb hbk hsz hn6 hgx
 go_wp2_with (go_at_call 7; refine (impl_Compile.calls k A_x c_x x g v2 _ (Kd.S_reads' HO_x.out).2.2 (Kd.S_reads' HO_x.out).2.1 H5.out).mono ?_; clear H5; rintro e w7 ⟨v_g, rfl, ho, hb⟩; have HB7 := Za.mk (Zbp HB6.out hb HB6.out.size); obtain ⟨n7, hn7⟩ : ∃ n, w7.heap.size = n := ⟨_, rfl⟩; have HN7 := Za.mk hn7; have HL7 := Za.mk (show n6 ≤ n7 from by rw [← hn7, ← HN6.out]; exact hb.size); have HO_b' := Za.mk (Kd.Zam HO_b.out hb); clear HO_b; have HO_b := HO_b'; clear HO_b'; have HO_x' := Za.mk (Kd.S_below HO_x.out hb); clear HO_x; have HO_x := HO_x'; clear HO_x'; have BK_p' := Za.mk (Zp BK_p.out hb); clear BK_p; have BK_p := BK_p'; clear BK_p'; have BK_x' := Za.mk (Zp BK_x.out hb); clear BK_x; have BK_x := BK_x'; clear BK_x'; obtain ⟨A_g, c_g, e_g⟩ := Kd.Zay ho; subst e_g; have HO_g := Za.mk (R_span ho HN6.out hn7 (HB6.out.size)); (try clear q_p); (try clear q_x); have q_p : w7.cell? ⟨gp, 0, none⟩ = some (.slice A0_0 l0_0.length c0_0) := (Zb BK_p.out 0).trans rfl; have q_x : w7.cell? ⟨gx, 0, none⟩ = some (.slice A_x x.length c_x) := (Zb BK_x.out 0).trans rfl; clear ho hb hn7)
 go_wp2_with (go_at_call 8; refine (Zbj.calls k A_g c_g g A_b c_b b true _ (Kd.Zat HO_g.out).2.2 (Kd.Zat HO_g.out).2.1 (Kd.Zat HO_b.out).2.2 (Kd.Zat HO_b.out).2.1 H6.out).mono ?_; clear H6; rintro e w8 ⟨rfl, hb⟩; have HB8 := Za.mk (Zbp HB7.out hb HB7.out.size); obtain ⟨n8, hn8⟩ : ∃ n, w8.heap.size = n := ⟨_, rfl⟩; have HN8 := Za.mk hn8; have HL8 := Za.mk (show n7 ≤ n8 from by rw [← hn8, ← HN7.out]; exact hb.size); have HO_b' := Za.mk (Kd.Zam HO_b.out hb); clear HO_b; have HO_b := HO_b'; clear HO_b'; have HO_x' := Za.mk (Kd.S_below HO_x.out hb); clear HO_x; have HO_x := HO_x'; clear HO_x'; have HO_g' := Za.mk (Kd.Zam HO_g.out hb); clear HO_g; have HO_g := HO_g'; clear HO_g'; have BK_p' := Za.mk (Zp BK_p.out hb); clear BK_p; have BK_p := BK_p'; clear BK_p'; have BK_x' := Za.mk (Zp BK_x.out hb); clear BK_x; have BK_x := BK_x'; clear BK_x'; (try clear q_p); (try clear q_x); have q_p : w8.cell? ⟨gp, 0, none⟩ = some (.slice A0_0 l0_0.length c0_0) := (Zb BK_p.out 0).trans rfl; have q_x : w8.cell? ⟨gx, 0, none⟩ = some (.slice A_x x.length c_x) := (Zb BK_x.out 0).trans rfl; clear hb hn8)
 have hbd := below_drew (Below.refl w8.heap.size w8)
 refine start_ (n := 5) (S := fun w' => w'.cell? ⟨gx, 0, none⟩ = some (.slice A_x x.length c_x) ∧ w'.cell? ⟨gp, 0, none⟩ = some (.slice A0_0 l0_0.length c0_0)) (ds := []) #[false, false, false, false, false] (by kernel_rfl) rfl rfl ⟨(Zb BK_x.out 0).trans rfl, (Zb BK_p.out 0).trans rfl⟩ (fun hHeld => ?_)
 have hb := hbd; clear hbd; have HO_b' := Za.mk (Kd.Zam HO_b.out hb); clear HO_b; have HO_b := HO_b'; clear HO_b'; have HO_x' := Za.mk (Kd.S_below HO_x.out hb); clear HO_x; have HO_x := HO_x'; clear HO_x'; have HO_g' := Za.mk (Kd.Zam HO_g.out hb); clear HO_g; have HO_g := HO_g'; clear HO_g'; have BK_p' := Za.mk (Zp BK_p.out hb); clear BK_p; have BK_p := BK_p'; clear BK_p'; have BK_x' := Za.mk (Zp BK_x.out hb); clear BK_x; have BK_x := BK_x'; clear BK_x'
 have HB9 := Za.mk (Zbp HB8.out hb HB8.out.size)
 generalize w8.drew = w9 at HB9 HO_b HO_x HO_g BK_p BK_x hHeld hb ⊢
 obtain ⟨n9, hn9⟩ : ∃ n, w9.heap.size = n := ⟨_, rfl⟩; have HN9 := Za.mk hn9; have HL9 := Za.mk (show n8 ≤ n9 from by rw [← hn9, ← HN8.out]; exact hb.size); (try clear q_p); (try clear q_x); clear hb hn9
 refine take_ (i := 0) (N := some 41) (v := ?_) (a' := ?_) #[true, false, false, false, false] rfl rfl (by kernel_rfl) (fun _ _ _ h => h) (Or.inl ⟨by rfl, ?_⟩) hHeld ?_ ?_
 rotate_left
 ·rintro w' ⟨s0, s1⟩
  go_simp
  with_reducible rfl
 rotate_left
 ·simp only [Act.put, ZD, ZE, ZF, Zu, Zv]
  rfl
 refine take_ (i := 1) (N := some 42) (v := ?_) (a' := ?_) #[true, true, false, false, false] rfl rfl (by kernel_rfl) (fun _ _ _ h => h) (Or.inl ⟨by rfl, ?_⟩) hHeld ?_ ?_
 rotate_left
 ·rintro w' ⟨s0, s1⟩
  go_simp
  with_reducible rfl
 rotate_left
 ·simp only [Act.put, ZD, ZE, ZF, Zu, Zv]
  rfl
 refine one_ (i := 2) (N := some 43) #[true, true, true, false, false] rfl rfl (by kernel_rfl) (by decide) (fun K hK => ?_)
 refine goes_ Try.func6 (by kernel_rfl) rfl #[.agg #[.slice A0_0 l0_0.length c0_0]] (by rfl) rfl rfl (by (try simp only [List.map_toArray, List.map_cons, List.map_nil]); first | done | rfl) ?_
 refine (Zcl.deep k A0_0 c0_0 l0_0 y _ (Kd.Zan HR0.out HB9.out) HC0.out H7.out).mono ?_
 rintro e w10 ⟨v_y, rfl, ho, hb⟩
 refine ⟨_, rfl, ?_⟩
 have HB10 := Za.mk (Zbp HB9.out hb HB9.out.size)
 obtain ⟨n10, hn10⟩ : ∃ n, w10.heap.size = n := ⟨_, rfl⟩; have HN10 := Za.mk hn10; have HL10 := Za.mk (show n9 ≤ n10 from by rw [← hn10, ← HN9.out]; exact hb.size); have HO_b' := Za.mk (Kd.Zam HO_b.out hb); clear HO_b; have HO_b := HO_b'; clear HO_b'; have HO_x' := Za.mk (Kd.S_below HO_x.out hb); clear HO_x; have HO_x := HO_x'; clear HO_x'; have HO_g' := Za.mk (Kd.Zam HO_g.out hb); clear HO_g; have HO_g := HO_g'; clear HO_g'; have BK_p' := Za.mk (Zp BK_p.out hb); clear BK_p; have BK_p := BK_p'; clear BK_p'; have BK_x' := Za.mk (Zp BK_x.out hb); clear BK_x; have BK_x := BK_x'; clear BK_x'
 obtain ⟨A_y, c_y, e_y⟩ := Kd.S_slice ho
 subst e_y
 have HO_y := Za.mk ho
 clear ho hb hn10
 refine hK.out _ _ ⟨(Zb BK_x.out 0).trans rfl, (Zb BK_p.out 0).trans rfl⟩ (fun hHeld => ?_)
 clear hK K
 refine norm_ (a' := ?_) ?_ ?_
 rotate_left
 ·show Act.put _ (some 43) _ = _
  simp only [Act.put, ZD, ZE, ZF, Zu, Zv]
  rfl
 refine one_ (i := 3) (N := some 44) #[true, true, true, true, false] rfl rfl (by kernel_rfl) (by decide) (fun K hK => ?_)
 refine goes_ Try.func9 (by kernel_rfl) rfl #[.agg #[.slice A_x x.length c_x], .agg #[.slice A_y y.length c_y]] (by rfl) rfl rfl (by (try simp only [List.map_toArray, List.map_cons, List.map_nil]); first | done | rfl) ?_
 refine (laws_eqPolicy.calls k A_x c_x x A_y c_y y true _ (Kd.S_reads' HO_x.out).2.2 (Kd.S_reads' HO_x.out).2.1 (Kd.S_reads' HO_y.out).2.2 (Kd.S_reads' HO_y.out).2.1 H8.out).mono ?_
 rintro e w11 ⟨rfl, hb⟩
 refine ⟨_, rfl, ?_⟩
 have HB11 := Za.mk (Zbp HB10.out hb HB10.out.size)
 obtain ⟨n11, hn11⟩ : ∃ n, w11.heap.size = n := ⟨_, rfl⟩; have HN11 := Za.mk hn11; have HL11 := Za.mk (show n10 ≤ n11 from by rw [← hn11, ← HN10.out]; exact hb.size); have HO_b' := Za.mk (Kd.Zam HO_b.out hb); clear HO_b; have HO_b := HO_b'; clear HO_b'; have HO_x' := Za.mk (Kd.S_below HO_x.out hb); clear HO_x; have HO_x := HO_x'; clear HO_x'; have HO_g' := Za.mk (Kd.Zam HO_g.out hb); clear HO_g; have HO_g := HO_g'; clear HO_g'; have HO_y' := Za.mk (Kd.S_below HO_y.out hb); clear HO_y; have HO_y := HO_y'; clear HO_y'; have BK_p' := Za.mk (Zp BK_p.out hb); clear BK_p; have BK_p := BK_p'; clear BK_p'; have BK_x' := Za.mk (Zp BK_x.out hb); clear BK_x; have BK_x := BK_x'; clear BK_x'
 clear hb hn11 HO_y
 refine hK.out _ _ ⟨(Zb BK_x.out 0).trans rfl, (Zb BK_p.out 0).trans rfl⟩ (fun hHeld => ?_)
 clear hK K
 refine norm_ (a' := ?_) ?_ ?_
 rotate_left
 ·show Act.put _ (some 44) _ = _
  simp only [Act.put, ZD, ZE, ZF, Zu, Zv]
  rfl
 refine Zaf (i := 4) (N := some 45) (v := ?_) (a' := ?_) #[true, true, true, true, true] rfl rfl (by kernel_rfl) (fun _ _ _ h => h) (Or.inl ⟨by rfl, ?_⟩) ?_ ?_
 rotate_left
 ·intro w'
  go_simp
  with_reducible rfl
 rotate_left
 ·simp only [Act.put, ZD, ZE, ZF, Zu, Zv]
  rfl
 refine done_ (by kernel_rfl) ?_
 have q_p : w11.cell? ⟨gp, 0, none⟩ = some (.slice A0_0 l0_0.length c0_0) := (Zb BK_p.out 0).trans rfl; have q_x : w11.cell? ⟨gx, 0, none⟩ = some (.slice A_x x.length c_x) := (Zb BK_x.out 0).trans rfl
 go_wp2_with (go_at_call 10; refine (laws_markPolicy.calls k (Span n4 n5) _ x 1 km xm w _ HB11.out HO_x.out H9.out).mono ?_; clear H9; rintro e w12 ⟨rfl, ho, hb, hk⟩; have HB12 := Za.mk hb; obtain ⟨n12, hn12⟩ : ∃ n, w12.heap.size = n := ⟨_, rfl⟩; have HN12 := Za.mk hn12; have HL12 := Za.mk (show n11 ≤ n12 from by rw [← hn12, ← HN11.out]; exact hk.1); have HO_b' := Za.mk (R_beside HO_b.out hk (by have := HL1.out; have := HL2.out; have := HL3.out; have := HL4.out; have := HL5.out; have := HL6.out; have := HL7.out; have := HL8.out; have := HL9.out; have := HL10.out; have := HL11.out; have := HL12.out; omega)); clear HO_b; have HO_b := HO_b'; clear HO_b'; have HO_g' := Za.mk (R_beside HO_g.out hk (by have := HL1.out; have := HL2.out; have := HL3.out; have := HL4.out; have := HL5.out; have := HL6.out; have := HL7.out; have := HL8.out; have := HL9.out; have := HL10.out; have := HL11.out; have := HL12.out; omega)); clear HO_g; have HO_g := HO_g'; clear HO_g'; have BK_p' := Za.mk ((hk.2 gp (Zs BK_p.out) (fun h_ => by have h2_ := h_.1; have h3_ := h_.2; have := HL1.out; have := HL2.out; have := HL3.out; have := HL4.out; have := HL5.out; have := HL6.out; have := HL7.out; have := HL8.out; have := HL9.out; have := HL10.out; have := HL11.out; have := HL12.out; have := HG_p.out; have := HG_x.out; omega)).trans BK_p.out); clear BK_p; have BK_p := BK_p'; clear BK_p'; have BK_x' := Za.mk ((hk.2 gx (Zs BK_x.out) (fun h_ => by have h2_ := h_.1; have h3_ := h_.2; have := HL1.out; have := HL2.out; have := HL3.out; have := HL4.out; have := HL5.out; have := HL6.out; have := HL7.out; have := HL8.out; have := HL9.out; have := HL10.out; have := HL11.out; have := HL12.out; have := HG_p.out; have := HG_x.out; omega)).trans BK_x.out); clear BK_x; have BK_x := BK_x'; clear BK_x'; (try clear q_p); (try clear q_x); have q_p : w12.cell? ⟨gp, 0, none⟩ = some (.slice A0_0 l0_0.length c0_0) := (Zb BK_p.out 0).trans rfl; have q_x : w12.cell? ⟨gx, 0, none⟩ = some (.slice A_x x.length c_x) := (Zb BK_x.out 0).trans rfl; clear HO_x; have HO_x := Za.mk ho; have HGL_x := Za.mk (Kd.S_reads' ho).1; clear ho hb hk hn12)
 clear HO_x
 clear BK_x HG_x
 try clear q_x
 go_wp2_with (go_at_call 8; refine (Zbj.calls k A_g c_g g A_b c_b b true _ (Kd.Zat HO_g.out).2.2 (Kd.Zat HO_g.out).2.1 (Kd.Zat HO_b.out).2.2 (Kd.Zat HO_b.out).2.1 H10.out).mono ?_; clear H10; rintro e w13 ⟨rfl, hb⟩; have HB13 := Za.mk (Zbp HB12.out hb HB12.out.size); obtain ⟨n13, hn13⟩ : ∃ n, w13.heap.size = n := ⟨_, rfl⟩; have HN13 := Za.mk hn13; have HL13 := Za.mk (show n12 ≤ n13 from by rw [← hn13, ← HN12.out]; exact hb.size); have HO_b' := Za.mk (Kd.Zam HO_b.out hb); clear HO_b; have HO_b := HO_b'; clear HO_b'; have HO_g' := Za.mk (Kd.Zam HO_g.out hb); clear HO_g; have HO_g := HO_g'; clear HO_g'; have BK_p' := Za.mk (Zp BK_p.out hb); clear BK_p; have BK_p := BK_p'; clear BK_p'; (try clear q_p); have q_p : w13.cell? ⟨gp, 0, none⟩ = some (.slice A0_0 l0_0.length c0_0) := (Zb BK_p.out 0).trans rfl; clear hb hn13)
 go_wp2_with (go_at_call 11; refine (Zcb.calls k (Span n6 n7) _ g 1 q gm w _ HB13.out HO_g.out H11.out).mono ?_; clear H11; rintro e w14 ⟨rfl, ho, hb, hk⟩; have HB14 := Za.mk hb; obtain ⟨n14, hn14⟩ : ∃ n, w14.heap.size = n := ⟨_, rfl⟩; have HN14 := Za.mk hn14; have HL14 := Za.mk (show n13 ≤ n14 from by rw [← hn14, ← HN13.out]; exact hk.1); have HO_b' := Za.mk (R_beside HO_b.out hk (by have := HL1.out; have := HL2.out; have := HL3.out; have := HL4.out; have := HL5.out; have := HL6.out; have := HL7.out; have := HL8.out; have := HL9.out; have := HL10.out; have := HL11.out; have := HL12.out; have := HL13.out; have := HL14.out; omega)); clear HO_b; have HO_b := HO_b'; clear HO_b'; have BK_p' := Za.mk ((hk.2 gp (Zs BK_p.out) (fun h_ => by have h2_ := h_.1; have h3_ := h_.2; have := HL1.out; have := HL2.out; have := HL3.out; have := HL4.out; have := HL5.out; have := HL6.out; have := HL7.out; have := HL8.out; have := HL9.out; have := HL10.out; have := HL11.out; have := HL12.out; have := HL13.out; have := HL14.out; have := HG_p.out; omega)).trans BK_p.out); clear BK_p; have BK_p := BK_p'; clear BK_p'; (try clear q_p); have q_p : w14.cell? ⟨gp, 0, none⟩ = some (.slice A0_0 l0_0.length c0_0) := (Zb BK_p.out 0).trans rfl; clear HO_g; have HO_g := Za.mk ho; have HGL_g := Za.mk (Kd.Zat ho).1; clear ho hb hk hn14)
 go_wp2_with (go_at_call 12; refine (calls_of_args (args' := #[.slice A_g gm.length c_g, .int .i64 1]) (by rw [HGL_g.out]) (Zch.calls k A_g c_g gm 1 q _ (HGL_g.out ▸ (Kd.Zat HO_g.out).2.2) (HGL_g.out ▸ (Kd.Zat HO_g.out).2.1) H12.out)).mono ?_; rintro e w15 ⟨rfl, hd⟩; have hb := below_of_drawn hd; clear hd; have HB15 := Za.mk (Zbp HB14.out hb HB14.out.size); obtain ⟨n15, hn15⟩ : ∃ n, w15.heap.size = n := ⟨_, rfl⟩; have HN15 := Za.mk hn15; have HL15 := Za.mk (show n14 ≤ n15 from by rw [← hn15, ← HN14.out]; exact hb.size); have HO_b' := Za.mk (Kd.Zam HO_b.out hb); clear HO_b; have HO_b := HO_b'; clear HO_b'; have HO_g' := Za.mk (Kd.Zam HO_g.out hb); clear HO_g; have HO_g := HO_g'; clear HO_g'; have BK_p' := Za.mk (Zp BK_p.out hb); clear BK_p; have BK_p := BK_p'; clear BK_p'; (try clear q_p); have q_p : w15.cell? ⟨gp, 0, none⟩ = some (.slice A0_0 l0_0.length c0_0) := (Zb BK_p.out 0).trans rfl; clear hb hn15)
 go_wp2_with (go_at_call 6; refine (Zcl.deep k A0_0 c0_0 l0_0 z _ (Kd.Zan HR0.out HB15.out) HC0.out H13.out).mono ?_; clear H13; rintro e w16 ⟨v_z, rfl, ho, hb⟩; have HB16 := Za.mk (Zbp HB15.out hb HB15.out.size); obtain ⟨n16, hn16⟩ : ∃ n, w16.heap.size = n := ⟨_, rfl⟩; have HN16 := Za.mk hn16; have HL16 := Za.mk (show n15 ≤ n16 from by rw [← hn16, ← HN15.out]; exact hb.size); have HO_b' := Za.mk (Kd.Zam HO_b.out hb); clear HO_b; have HO_b := HO_b'; clear HO_b'; have HO_g' := Za.mk (Kd.Zam HO_g.out hb); clear HO_g; have HO_g := HO_g'; clear HO_g'; have BK_p' := Za.mk (Zp BK_p.out hb); clear BK_p; have BK_p := BK_p'; clear BK_p'; obtain ⟨A_z, c_z, e_z⟩ := Kd.S_slice ho; subst e_z; have HO_z := Za.mk (S_span ho HN15.out hn16 (HB15.out.size)); (try clear q_p); have q_p : w16.cell? ⟨gp, 0, none⟩ = some (.slice A0_0 l0_0.length c0_0) := (Zb BK_p.out 0).trans rfl; clear ho hb hn16)
 go_wp2_with (go_at_call 7; refine (impl_Compile.calls k A_z c_z z v v2 _ (Kd.S_reads' HO_z.out).2.2 (Kd.S_reads' HO_z.out).2.1 H14.out).mono ?_; clear H14; rintro e w17 ⟨v_v, rfl, ho, hb⟩; have HB17 := Za.mk (Zbp HB16.out hb HB16.out.size); obtain ⟨n17, hn17⟩ : ∃ n, w17.heap.size = n := ⟨_, rfl⟩; have HN17 := Za.mk hn17; have HL17 := Za.mk (show n16 ≤ n17 from by rw [← hn17, ← HN16.out]; exact hb.size); have HO_b' := Za.mk (Kd.Zam HO_b.out hb); clear HO_b; have HO_b := HO_b'; clear HO_b'; have HO_g' := Za.mk (Kd.Zam HO_g.out hb); clear HO_g; have HO_g := HO_g'; clear HO_g'; have HO_z' := Za.mk (Kd.S_below HO_z.out hb); clear HO_z; have HO_z := HO_z'; clear HO_z'; have BK_p' := Za.mk (Zp BK_p.out hb); clear BK_p; have BK_p := BK_p'; clear BK_p'; obtain ⟨A_v, c_v, e_v⟩ := Kd.Zay ho; subst e_v; have HO_v := Za.mk (R_span ho HN16.out hn17 (HB16.out.size)); (try clear q_p); have q_p : w17.cell? ⟨gp, 0, none⟩ = some (.slice A0_0 l0_0.length c0_0) := (Zb BK_p.out 0).trans rfl; clear ho hb hn17)
 clear HO_z
 go_wp2_with (go_at_call 8; refine (Zbj.calls k A_v c_v v A_b c_b b true _ (Kd.Zat HO_v.out).2.2 (Kd.Zat HO_v.out).2.1 (Kd.Zat HO_b.out).2.2 (Kd.Zat HO_b.out).2.1 H15.out).mono ?_; clear H15; rintro e w18 ⟨rfl, hb⟩; have HB18 := Za.mk (Zbp HB17.out hb HB17.out.size); obtain ⟨n18, hn18⟩ : ∃ n, w18.heap.size = n := ⟨_, rfl⟩; have HN18 := Za.mk hn18; have HL18 := Za.mk (show n17 ≤ n18 from by rw [← hn18, ← HN17.out]; exact hb.size); have HO_b' := Za.mk (Kd.Zam HO_b.out hb); clear HO_b; have HO_b := HO_b'; clear HO_b'; have HO_g' := Za.mk (Kd.Zam HO_g.out hb); clear HO_g; have HO_g := HO_g'; clear HO_g'; have HO_v' := Za.mk (Kd.Zam HO_v.out hb); clear HO_v; have HO_v := HO_v'; clear HO_v'; have BK_p' := Za.mk (Zp BK_p.out hb); clear BK_p; have BK_p := BK_p'; clear BK_p'; (try clear q_p); have q_p : w18.cell? ⟨gp, 0, none⟩ = some (.slice A0_0 l0_0.length c0_0) := (Zb BK_p.out 0).trans rfl; clear hb hn18)
 go_wp2_with (go_at_call 12; refine (calls_of_args (args' := #[.slice A_g gm.length c_g, .int .i64 1]) (by rw [HGL_g.out]) (Zch.calls k A_g c_g gm 1 q _ (HGL_g.out ▸ (Kd.Zat HO_g.out).2.2) (HGL_g.out ▸ (Kd.Zat HO_g.out).2.1) H12.out)).mono ?_; rintro e w19 ⟨rfl, hd⟩; have hb := below_of_drawn hd; clear hd; have HB19 := Za.mk (Zbp HB18.out hb HB18.out.size); obtain ⟨n19, hn19⟩ : ∃ n, w19.heap.size = n := ⟨_, rfl⟩; have HN19 := Za.mk hn19; have HL19 := Za.mk (show n18 ≤ n19 from by rw [← hn19, ← HN18.out]; exact hb.size); have HO_b' := Za.mk (Kd.Zam HO_b.out hb); clear HO_b; have HO_b := HO_b'; clear HO_b'; have HO_g' := Za.mk (Kd.Zam HO_g.out hb); clear HO_g; have HO_g := HO_g'; clear HO_g'; have HO_v' := Za.mk (Kd.Zam HO_v.out hb); clear HO_v; have HO_v := HO_v'; clear HO_v'; have BK_p' := Za.mk (Zp BK_p.out hb); clear BK_p; have BK_p := BK_p'; clear BK_p'; (try clear q_p); have q_p : w19.cell? ⟨gp, 0, none⟩ = some (.slice A0_0 l0_0.length c0_0) := (Zb BK_p.out 0).trans rfl; clear hb hn19)
 go_ret
 exact ⟨rfl, HB19.out⟩
def Zco.Pure : Prop := ∀ (l0_0 : List (S58)), l0_0.length ≤ maxLen → (∀ x ∈ l0_0, wf58 x) → ∃ k, Zco.f k l0_0 = some true
end Go.Proofs.Ytgmbahldjiiajaa.P

namespace Go.Proofs.Ytgmbahldjiiajaa.Pure
open Go.RowKit Go.Proofs.Ytgmbahldjiiajaa.P Go.Proofs.YtgmbahldjiiajaaW.PrintWords Go.Proofs.YtgmbahldjiiajaaW.PrintLast
set_option linter.unusedVariables false
set_option linter.unusedSimpArgs false
theorem FnExactCompile : Zco.Pure := by
 intro l hl hw
 obtain ⟨t, hsz, ht⟩ := szPolicy_t l 1048576 hl (pol_lens l hw) (by decide) (by decide)
 obtain ⟨K0, h0⟩ := ev_get hsz
 rcases ht with rfl | ⟨t0, t1, hsmall⟩
 ·refine ⟨K0, ?_⟩
  unfold Zco.f
  refine bo (h0 K0 (Nat.le_refl _)) ?_
  rw [if_pos (by decide)]
 ·have hsm := small_map l hsmall
  obtain ⟨⟨p, c⟩, hpl, e1, e2⟩ := compile_ev (l.map eOf) hsm (pol_u l hw)
  dsimp only at hpl
  obtain ⟨K1, h1⟩ := ev_get (toPolicy_ev l hsmall)
  obtain ⟨K2, h2⟩ := ev_get e1
  obtain ⟨K3, h3⟩ := ev_get e2
  obtain ⟨K4, h4⟩ := ev_get (eqPolicy_ev (l.map eOf) hsm)
  obtain ⟨K5, h5⟩ := ev_get (eqInsS_ev p p (by omega) true (by simp))
  obtain ⟨K6, h6⟩ := ev_get (markPolicy_ev (l.map eOf) 1 hsm (by decide) (by decide))
  obtain ⟨K7, h7⟩ := ev_get (markInsS_ev p 1 (by decide) (by decide) (by omega))
  obtain ⟨K8, h8⟩ := ev_get (heldInsS_ev p.length 1 (by decide) (by decide) (by omega))
  have hend := endE_le 1 (l.map eOf) hsm.2
  have g0 : ¬ t < 0 := by omega
  have g1 : ¬ endE 1 (l.map eOf) < 0 := by omega
  have g2 : ¬ (1 + 4 * (p.length : Int) < 0) := by omega
  refine ⟨K0 + K1 + K2 + K3 + K4 + K5 + K6 + K7 + K8, ?_⟩
  generalize hK : K0 + K1 + K2 + K3 + K4 + K5 + K6 + K7 + K8 = K
  have p0 := h0 K (by omega)
  have p1 := h1 K (by omega)
  have p2 := h2 K (by omega)
  have p3 := h3 K (by omega)
  have p4 := h4 K (by omega)
  have p5 := h5 K (by omega)
  have p6 := h6 K (by omega)
  have p7 := h7 K (by omega)
  have p8 := h8 K (by omega)
  unfold Zco.f
  refine bo p0 ?_
  rw [if_neg g0]
  refine bo p1 (bo p2 (bo p1 (bo p3 (bo p5 ?_))))
  rw [if_pos rfl, if_pos rfl]
  refine bo p1 (bo p4 ?_)
  rw [if_pos rfl]
  refine bo p6 ?_
  rw [if_neg g1]
  refine bo p5 ?_
  rw [if_pos rfl]
  refine bo p7 (bo p8 ?_)
  rw [if_pos rfl, if_neg g2]
  refine bo p1 (bo p3 (bo p5 ?_))
  rw [if_pos rfl, if_pos rfl]
end Go.Proofs.Ytgmbahldjiiajaa.Pure

namespace Go.Proofs.Ytgmbahldjiiajaa.fnExactCompile
open Go.ChangeShapes Go.WideShapes Go.ChangeAt Go.RowKit Go.Proofs.Ytgmbahldjiiajaa.P Go.Proofs.YtgmbahldjiiajaaW.PrintWords Go.Proofs.YtgmbahldjiiajaaW.PrintLast Go.Proofs.YtgmbahldjiiajaaW.PrintMore
set_option linter.unusedVariables false
set_option linter.unusedSimpArgs false
theorem own : ownKnob Try.prog.godebug = none := by kernel_rfl
theorem laidOut : laidOutB Try.prog = true := by kernel_rfl
set_option maxRecDepth 100000 in
theorem lifted (os : Os) (started : os.Started) (H : Type) (enc : TypeId × Value → H) :
  ReturnsInHanded {} Try.checked os 3 .any (Rows.fnExactCompileSpec.pre6 enc Try.prog Try.f3 Rows.fnExactCompileRow.domain false) (Rows.fnExactCompileSpec.post enc Try.prog Try.f3 false true false false) := by
 refine returnsInHanded_of_change_sized (C := Try.checked) own started (by kernel_rfl) Try.func3
  (ChangeSpec.witness6 (enc := enc) (C := Try.checked) false ⟨#[], #[.agg #[.slice none 0 0]], []⟩ 8 (by kernel_rfl) (by kernel_rfl) (by kernel_rfl) (by kernel_rfl)) ?_
 intro W base args ds gs before hval0 hW hcnd hsz0 _
 have hval : ∀ (j : Nat) t v, Try.f3.params[j]? = some t → args[j]? = some v → Value.okWide Try.prog W .any base t v := hval0
 have hW' := hW
 obtain ⟨p, q, hA0, hV, rfl, hfz, hnd⟩ := hW
 have hA : DataW.TrodAll enc Try.prog W 0 (fun _ => true) true Try.f3.params.toList args.toList ds p := hA0
 rw [Try.params3] at hA hval
 obtain ⟨v0, vs0, d0, ds0, p0, q0, hargs, rfl, rfl, h0, r0⟩ := trodAll_cons hA
 obtain ⟨rfl, rfl, rfl⟩ := trodAll_nil r0
 obtain rfl : args = #[v0] := by cases args; simp_all
 obtain ⟨rfl, rfl⟩ := trodVars_none hV
 have k0 := h0
 have lt0 : ∀ x ∈ p0, x.block < W.heap.size := by obtain ⟨m, hm⟩ := k0; exact DataW.trod_lt m _ _ _ hm
 obtain ⟨fu0, fh0⟩ := h0
 obtain ⟨x0, hK0, ⟨hm0_0, hw0_0⟩⟩ := op24.opens enc W 0 _ true fu0 _ _ fh0
 obtain ⟨cs0, rfl, hsz0, _⟩ : ∃ cs, v0 = .agg cs ∧ cs.size = Try.prog.cellsOf 24 ∧ Row.okWide Try.prog W .any base 24 cs := by
  have z := (hval 0 24 v0 rfl rfl)
  unfold Value.okWide at z
  rw [Try.underlying24] at z
  exact z
 obtain ⟨xs0⟩ := cs0
 have hK0' : k24.K W x0 xs0 := by simpa [Value.cells] using hK0
 obtain ⟨A0_0, c0_0, rfl, hc0_0, hr0_0⟩ := hK0'
 obtain ⟨k, hk⟩ := Pure.FnExactCompile _ hm0_0 hw0_0
 refine (P.Zco.calls k _ _ x0.f0 true W hr0_0 hc0_0 hk).mono fun e W' ⟨he, bel0⟩ => ?_
 have bel : Below W.heap.size W W' := bel0
 subst he
 exact ⟨_, rfl, _, _, _, [], _, [], hW', trodAll_mk1 (shut_bool Try.underlying4 _), (trodAll_cons_mk (Below.trod laidOut (by kernel_rfl) (of_decide_eq_true (by kernel_rfl)) k0 bel lt0) trodAll_mk0), rfl, bel.frame _, fun h => by cases h⟩
theorem over : Rows.fnExactCompileRow.holds Try.pinned (OpenSpec.ofChange Rows.fnExactCompileSpec) :=
 OpenClaim.holds_of_wide 3 Try.f3 rfl rfl rfl rfl rfl rfl rfl ⟨rfl, rfl, rfl, rfl, rfl⟩ rfl rfl rfl rfl rfl (by kernel_rfl) Try.func3 (by kernel_rfl)
  (of_decide_eq_true (by kernel_rfl)) (by unfold Func.isWrapper; first | (rw [if_pos (by decide +kernel)]; kernel_rfl) | (rw [if_neg (by decide +kernel)]; exact ⟨rfl, rfl⟩))
  (fun os started H enc _ => lifted os started H enc)
theorem proved : Rows.FnExactCompileSaid := over
#print axioms proved
end Go.Proofs.Ytgmbahldjiiajaa.fnExactCompile
namespace Go.Proofs.Ytgmbahldjiiajaa
theorem fnExactCompile_holds : Rows.FnExactCompileSaid := fnExactCompile.proved
end Go.Proofs.Ytgmbahldjiiajaa
