/- The program's Allows gives what the reference's Allows gives, for every policy and every call (of policies and calls of more than 2^20 parts nothing is asked); it writes into no argument. -/
import Derived.Test.YtdipinclchkhjaaGFnExactAllows4
import Derived.Test.YtdipinclchkhjaaGFnExactAllows19
import Derived.Test.YtdipinclchkhjaaGFnExactAllows17
import Derived.Test.YtdipinclchkhjaaGFnExactAllows18
import Derived.Test.YtdipinclchkhjaaRows
import Derived.WalkKit
import Derived.ProofKit
import Derived.OpenShut
import Derived.ShutString
import Derived.ChangeOld
import Derived.Below
import Derived.SizedLaws
namespace Go.Proofs.Ytdipinclchkhjaa.P
open Go.RowKit Go.Proofs.YtdipinclchkhjaaW.PrintWords Go.Proofs.YtdipinclchkhjaaW.PrintLast Go.Proofs.YtdipinclchkhjaaW.PrintMore
set_option linter.unusedVariables false
/-- THE ONE PURE STATEMENT of laws_FnExactAllows. -/
def laws_FnExactAllows.Pure : Prop := ∀ (l0_0 : List (S180)) (a1_0 : Int) (a1_1 : Int) (l1_2 : List Int), l0_0.length ≤ maxLen → (∀ x ∈ l0_0, wf180 x) → (Lit.int .u32 a1_0).wf = true → (Lit.int .u32 a1_1).wf = true → l1_2.length ≤ maxLen → (∀ x ∈ l1_2, wf22 x) → ∃ k, laws_FnExactAllows.f k l0_0 a1_0 a1_1 l1_2 = some true
end Go.Proofs.Ytdipinclchkhjaa.P

namespace Go.Proofs.Ytdipinclchkhjaa.Pure
open Go.RowKit Go.Proofs.Ytdipinclchkhjaa.P Go.Proofs.YtdipinclchkhjaaW.PrintWords Go.Proofs.YtdipinclchkhjaaW.PrintLast
set_option linter.unusedVariables false
set_option linter.unusedSimpArgs false
theorem apol_lens (l : List S180) (hw : ∀ x ∈ l, wf180 x) : ∀ x ∈ l, x.f2.length ≤ maxLen ∧ ∀ y ∈ x.f2, y.f0.length ≤ maxLen := by
  intro x hx
  obtain ⟨_, _, h1, h2⟩ := hw x hx
  exact ⟨h1, fun y hy => (h2 y hy).1⟩
theorem apol_u (l : List S180) (hw : ∀ x ∈ l, wf180 x) : polU (l.map eOf) := by
  intro e he r hr c hc
  obtain ⟨x, hx, rfl⟩ := List.mem_map.1 he
  obtain ⟨y, hy, rfl⟩ := List.mem_map.1 (show r ∈ x.f2.map rOf from hr)
  obtain ⟨z, hz, rfl⟩ := List.mem_map.1 (show c ∈ y.f0.map cOf from hc)
  obtain ⟨_, _, _, h2⟩ := hw x hx
  obtain ⟨_, h3⟩ := h2 y hy
  obtain ⟨_, h4, h5⟩ := h3 z hz
  exact ⟨wf_u64 h4, wf_u64 h5⟩
theorem FnExactAllows : laws_FnExactAllows.Pure := by
  intro l a n args hl hw ha hn hal haw
  obtain ⟨t, hsz, ht⟩ := szPolicy_t l 1048576 hl (apol_lens l hw) (by decide) (by decide)
  obtain ⟨K0, h0⟩ := ev_get hsz
  rcases ht with rfl | ⟨t0, t1, hsmall⟩
  · refine ⟨K0, ?_⟩
    unfold laws_FnExactAllows.f
    refine bo (h0 K0 (Nat.le_refl _)) ?_
    rw [if_pos (by decide)]
  · have hcs := szCall_is a n args t hal t0 t1
    by_cases hc : t - (args.length : Int) < 0
    · rw [if_pos hc] at hcs
      refine ⟨K0, ?_⟩
      unfold laws_FnExactAllows.f
      refine bo (h0 K0 (Nat.le_refl _)) ?_
      rw [if_neg (by omega)]
      refine bo hcs ?_
      rw [if_pos (by decide)]
    rw [if_neg hc] at hcs
    have hargs : argU args := fun x hx => wf_u64 (haw x hx)
    have hsm := small_map l hsmall
    obtain ⟨b, hb1, hb2⟩ := allows_both (l.map eOf) hsm (apol_u l hw) a n args hargs
    obtain ⟨K1, h1⟩ := ev_get (toPolicy_ev l hsmall)
    obtain ⟨K2, h2⟩ := ev_get (toCall_ev a n args (by omega))
    obtain ⟨K3, h3⟩ := ev_get hb1
    obtain ⟨K4, h4⟩ := ev_get hb2
    obtain ⟨K5, h5⟩ := ev_get (eqPolicy_ev (l.map eOf) hsm)
    obtain ⟨K6, h6⟩ := ev_get (eqCall_ev a n args (by omega))
    refine ⟨K0 + K1 + K2 + K3 + K4 + K5 + K6, ?_⟩
    unfold laws_FnExactAllows.f
    refine bo (h0 _ (by omega)) ?_
    rw [if_neg (by omega)]
    refine bo hcs ?_
    rw [if_neg hc]
    refine bo (h1 _ (by omega)) (bo (h2 _ (by omega)) (bo (h3 _ (by omega)) (bo (h1 _ (by omega)) (bo (h2 _ (by omega)) (bo (h4 _ (by omega)) ?_)))))
    rw [if_neg (by cases b <;> decide)]
    refine bo (h1 _ (by omega)) (bo (h5 _ (by omega)) ?_)
    rw [if_pos rfl]
    refine bo (h2 _ (by omega)) (bo (h6 _ (by omega)) ?_)
    rw [if_pos rfl]
end Go.Proofs.Ytdipinclchkhjaa.Pure

namespace Go.Proofs.Ytdipinclchkhjaa.fnExactAllows
open Go.ChangeShapes Go.WideShapes Go.ChangeAt Go.RowKit Go.Proofs.Ytdipinclchkhjaa.P Go.Proofs.YtdipinclchkhjaaW.PrintWords Go.Proofs.YtdipinclchkhjaaW.PrintLast Go.Proofs.YtdipinclchkhjaaW.PrintMore
set_option linter.unusedVariables false
set_option linter.unusedSimpArgs false
theorem own : ownKnob Try.prog.godebug = none := by kernel_rfl
theorem laidOut : laidOutB Try.prog = true := by kernel_rfl
set_option maxRecDepth 100000 in
theorem lifted (os : Os) (started : os.Started) (H : Type) (enc : TypeId × Value → H) :
    ReturnsInHanded {} Try.checked os 11 .any (Rows.fnExactAllowsSpec.pre6 enc Try.prog Try.f11 Rows.fnExactAllowsRow.domain false) (Rows.fnExactAllowsSpec.post enc Try.prog Try.f11 false true false false) := by
  refine returnsInHanded_of_change_sized (C := Try.checked) own started (by kernel_rfl) Try.func11
    (ChangeSpec.witness6 (enc := enc) (C := Try.checked) false ⟨#[], #[.agg #[.slice none 0 0], .agg #[.int .u32 0, .int .u32 0, .slice none 0 0]], []⟩ 8 (by kernel_rfl) (by kernel_rfl) (by kernel_rfl) (by kernel_rfl)) ?_
  intro W base args ds gs before hval0 hW hcnd hsz0 _
  have hval : ∀ (j : Nat) t v, Try.f11.params[j]? = some t → args[j]? = some v → Value.okWide Try.prog W .any base t v := hval0
  have hW' := hW
  obtain ⟨p, q, hA0, hV, rfl, hfz, hnd⟩ := hW
  have hA : DataW.TrodAll enc Try.prog W 0 (fun _ => true) true Try.f11.params.toList args.toList ds p := hA0
  rw [Try.params11] at hA hval
  obtain ⟨v0, vs0, d0, ds0, p0, q0, hargs, rfl, rfl, h0, r0⟩ := trodAll_cons hA
  obtain ⟨v1, vs1, d1, ds1, p1, q1, rfl, rfl, rfl, h1, r1⟩ := trodAll_cons r0
  obtain ⟨rfl, rfl, rfl⟩ := trodAll_nil r1
  obtain rfl : args = #[v0, v1] := by cases args; simp_all
  obtain ⟨rfl, rfl⟩ := trodVars_none hV
  have k0 := h0
  have lt0 : ∀ x ∈ p0, x.block < W.heap.size := by obtain ⟨m, hm⟩ := k0; exact DataW.trod_lt m _ _ _ hm
  obtain ⟨fu0, fh0⟩ := h0
  obtain ⟨x0, hK0, ⟨hm0_0, hw0_0⟩⟩ := op59.opens enc W 0 _ true fu0 _ _ fh0
  obtain ⟨cs0, rfl, hsz0, _⟩ : ∃ cs, v0 = .agg cs ∧ cs.size = Try.prog.cellsOf 59 ∧ Row.okWide Try.prog W .any base 59 cs := by
    have z := (hval 0 59 v0 rfl rfl)
    unfold Value.okWide at z
    rw [Try.underlying59] at z
    exact z
  obtain ⟨xs0⟩ := cs0
  have hK0' : k59.K W x0 xs0 := by simpa [Value.cells] using hK0
  obtain ⟨A0_0, c0_0, rfl, hc0_0, hr0_0⟩ := hK0'
  have k1 := h1
  have lt1 : ∀ x ∈ p1, x.block < W.heap.size := by obtain ⟨m, hm⟩ := k1; exact DataW.trod_lt m _ _ _ hm
  obtain ⟨fu1, fh1⟩ := h1
  obtain ⟨x1, hK1, ⟨w1_0, w1_1, ⟨hm1_2, hw1_2⟩⟩⟩ := op82.opens enc W 0 _ true fu1 _ _ fh1
  obtain ⟨cs1, rfl, hsz1, _⟩ : ∃ cs, v1 = .agg cs ∧ cs.size = Try.prog.cellsOf 82 ∧ Row.okWide Try.prog W .any base 82 cs := by
    have z := (hval 1 82 v1 rfl rfl)
    unfold Value.okWide at z
    rw [Try.underlying82] at z
    exact z
  obtain ⟨xs1⟩ := cs1
  have hK1' : k82.K W x1 xs1 := by simpa [Value.cells] using hK1
  obtain ⟨_, _, rfl, rfl, ⟨_, _, rfl, rfl, ⟨A1_2, c1_2, rfl, hc1_2, hr1_2⟩⟩⟩ := hK1'
  obtain ⟨k, hk⟩ := Pure.FnExactAllows _ _ _ _ hm0_0 hw0_0 w1_0 w1_1 hm1_2 hw1_2
  refine (P.laws_FnExactAllows.calls k _ _ x0.f0 x1.f0 x1.f1 _ _ x1.f2 true W hr0_0 hc0_0 hr1_2 hc1_2 hk).mono fun e W' ⟨he, bel0⟩ => ?_
  have bel : Below W.heap.size W W' := bel0
  subst he
  exact ⟨_, rfl, _, _, _, [], _, [], hW', trodAll_mk1 (shut_bool Try.underlying4 _), (trodAll_cons_mk (Below.trod laidOut (by kernel_rfl) (of_decide_eq_true (by kernel_rfl)) k0 bel lt0) (trodAll_cons_mk (Below.trod laidOut (by kernel_rfl) (of_decide_eq_true (by kernel_rfl)) k1 bel lt1) trodAll_mk0)), rfl, bel.frame _, fun h => by cases h⟩
theorem over : Rows.fnExactAllowsRow.holds Try.pinned (OpenSpec.ofChange Rows.fnExactAllowsSpec) :=
  OpenClaim.holds_of_wide 11 Try.f11 rfl rfl rfl rfl rfl rfl rfl ⟨rfl, rfl, rfl, rfl, rfl⟩ rfl rfl rfl rfl rfl (by kernel_rfl) Try.func11 (by kernel_rfl)
    (of_decide_eq_true (by kernel_rfl)) (by unfold Func.isWrapper; first | (rw [if_pos (by decide +kernel)]; kernel_rfl) | (rw [if_neg (by decide +kernel)]; exact ⟨rfl, rfl⟩))
    (fun os started H enc _ => lifted os started H enc)
theorem proved : Rows.FnExactAllowsSaid := over
#print axioms proved
end Go.Proofs.Ytdipinclchkhjaa.fnExactAllows
namespace Go.Proofs.Ytdipinclchkhjaa
/-- The row, under a short name, for the claim. -/
theorem fnExactAllows_holds : Rows.FnExactAllowsSaid := fnExactAllows.proved
end Go.Proofs.Ytdipinclchkhjaa
