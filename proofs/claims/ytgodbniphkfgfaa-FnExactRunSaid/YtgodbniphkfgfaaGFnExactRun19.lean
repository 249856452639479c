/- The program's Run gives what the reference's Run gives, for every list of instructions and every record (a list of more than 2^20, a record of more than 2^20 bytes is not asked), and leaves both as they were. -/
import Derived.Test.YtgodbniphkfgfaaGFnExactRun5
import Derived.Test.YtgodbniphkfgfaaGFnExactRun18
import Derived.Test.YtgodbniphkfgfaaGFnExactRun17
import Derived.Test.YtgodbniphkfgfaaRows
import Derived.WalkKit
import Derived.ProofKit
import Derived.OpenShut
import Derived.ShutString
import Derived.ChangeOld
import Derived.Below
import Derived.SizedLaws
namespace Go.Proofs.Ytgodbniphkfgfaa.P
open Go.RowKit Go.Proofs.YtgodbniphkfgfaaW.PrintWords Go.Proofs.YtgodbniphkfgfaaW.PrintLast Go.Proofs.YtgodbniphkfgfaaW.PrintMore
set_option linter.unusedVariables false
/-- THE ONE PURE STATEMENT of laws_FnExactRun. -/
def laws_FnExactRun.Pure : Prop := ∀ (l0 : List (S66)) (l1 : List Int), l0.length ≤ maxLen → (∀ x ∈ l0, wf66 x) → l1.length ≤ maxLen → (∀ x ∈ l1, wf5 x) → ∃ k, laws_FnExactRun.f k l0 l1 = some true
end Go.Proofs.Ytgodbniphkfgfaa.P

namespace Go.Proofs.Ytgodbniphkfgfaa.Pure
open Go.RowKit Go.Proofs.Ytgodbniphkfgfaa.P Go.Proofs.YtgodbniphkfgfaaW.PrintWords Go.Proofs.YtgodbniphkfgfaaW.PrintLast
set_option linter.unusedVariables false
set_option linter.unusedSimpArgs false
theorem insR_of {x : S66} (h : wf66 x) : InsR (insOf x) := by
  obtain ⟨h0, h1, h2, h3⟩ := h
  simp only [wf52, wf5, wf42, Lit.wf, IntKind.min, IntKind.max, IntKind.signed, IntKind.bits, Bool.and_eq_true] at h0 h1 h2 h3
  simp at h0 h1 h2 h3
  unfold InsR insOf
  dsimp only
  omega
theorem FnExactRun : laws_FnExactRun.Pure := by
  intro l b hl hw hb hwb
  by_cases hb1 : (b.length : Int) > 1048576
  · exact ⟨0, by unfold laws_FnExactRun.f; rw [if_pos hb1]⟩
  have hsz := szInsS_is l 1048576 hl (by decide) (by decide)
  by_cases hbig : (1048576 : Int) - (l.length : Int) < 0
  · rw [if_pos hbig] at hsz
    exact ⟨0, by unfold laws_FnExactRun.f; rw [if_neg hb1, hsz]; rfl⟩
  rw [if_neg hbig] at hsz
  obtain ⟨m, hm⟩ : ∃ m, m = l.map insOf := ⟨_, rfl⟩
  have hml : m.length = l.length := by rw [hm, List.length_map]
  have hmr : ∀ x ∈ m, InsR x := by
    intro x hx
    rw [hm] at hx
    obtain ⟨y, hy, rfl⟩ := List.mem_map.1 hx
    exact insR_of (hw y hy)
  have hbr : ∀ x ∈ b, 0 ≤ x ∧ x < 256 := mem_u8 hwb
  obtain ⟨⟨r1, r2, r3⟩, e1, e2⟩ := runs_ev m b hmr hbr
  obtain ⟨K1, h1⟩ := ev_get e1
  obtain ⟨K2, h2⟩ := ev_get e2
  obtain ⟨K3, h3⟩ := ev_get (toInsS_ev l (by omega))
  obtain ⟨K4, h4⟩ := ev_get (toByteS_ev b (by omega))
  obtain ⟨K5, h5⟩ := ev_get (eqInsS_ev m m (by omega) true (by simp))
  obtain ⟨K6, h6⟩ := ev_get (eqByteS_ev b b (by omega) true (by simp))
  rw [← hm] at h3
  refine ⟨K1 + K2 + K3 + K4 + K5 + K6 + 1, ?_⟩
  generalize hK : K1 + K2 + K3 + K4 + K5 + K6 = K
  unfold laws_FnExactRun.f
  rw [if_neg hb1]
  refine bo hsz ?_
  rw [if_neg hbig]
  refine bo (h3 _ (by omega)) (bo (h4 _ (by omega)) (bo (h1 _ (by omega)) (bo (h3 _ (by omega)) (bo (h4 _ (by omega)) (bo (h2 _ (by omega)) ?_)))))
  rw [if_pos rfl, if_pos rfl, laws_FnExactRun.j0, if_neg (by simp)]
  refine bo (h3 _ (by omega)) (bo (h5 _ (by omega)) ?_)
  rw [if_pos rfl]
  refine bo (h4 _ (by omega)) (bo (h6 _ (by omega)) ?_)
  rw [if_pos rfl]
end Go.Proofs.Ytgodbniphkfgfaa.Pure

namespace Go.Proofs.Ytgodbniphkfgfaa.fnExactRun
open Go.ChangeShapes Go.WideShapes Go.ChangeAt Go.RowKit Go.Proofs.Ytgodbniphkfgfaa.P Go.Proofs.YtgodbniphkfgfaaW.PrintWords Go.Proofs.YtgodbniphkfgfaaW.PrintLast Go.Proofs.YtgodbniphkfgfaaW.PrintMore
set_option linter.unusedVariables false
set_option linter.unusedSimpArgs false
theorem own : ownKnob Try.prog.godebug = none := by kernel_rfl
theorem laidOut : laidOutB Try.prog = true := by kernel_rfl
set_option maxRecDepth 100000 in
theorem lifted (os : Os) (started : os.Started) (H : Type) (enc : TypeId × Value → H) :
    ReturnsInHanded {} Try.checked os 5 .any (Rows.fnExactRunSpec.pre6 enc Try.prog Try.f5 Rows.fnExactRunRow.domain false) (Rows.fnExactRunSpec.post enc Try.prog Try.f5 false true false false) := by
  refine returnsInHanded_of_change_sized (C := Try.checked) own started (by kernel_rfl) Try.func5
    (ChangeSpec.witness6 (enc := enc) (C := Try.checked) false ⟨#[], #[.slice none 0 0, .slice none 0 0], []⟩ 8 (by kernel_rfl) (by kernel_rfl) (by kernel_rfl) (by kernel_rfl)) ?_
  intro W base args ds gs before hval0 hW hcnd hsz0 _
  have hval : ∀ (j : Nat) t v, Try.f5.params[j]? = some t → args[j]? = some v → Value.okWide Try.prog W .any base t v := hval0
  have hW' := hW
  obtain ⟨p, q, hA0, hV, rfl, hfz, hnd⟩ := hW
  have hA : DataW.TrodAll enc Try.prog W 0 (fun _ => true) true Try.f5.params.toList args.toList ds p := hA0
  rw [Try.params5] at hA hval
  obtain ⟨v0, vs0, d0, ds0, p0, q0, hargs, rfl, rfl, h0, r0⟩ := trodAll_cons hA
  obtain ⟨v1, vs1, d1, ds1, p1, q1, rfl, rfl, rfl, h1, r1⟩ := trodAll_cons r0
  obtain ⟨rfl, rfl, rfl⟩ := trodAll_nil r1
  obtain rfl : args = #[v0, v1] := by cases args; simp_all
  obtain ⟨rfl, rfl⟩ := trodVars_none hV
  have k0 := h0
  have lt0 : ∀ x ∈ p0, x.block < W.heap.size := by obtain ⟨m, hm⟩ := k0; exact DataW.trod_lt m _ _ _ hm
  obtain ⟨b0, len0, cap0, rfl⟩ := okWide_slice Try.underlying40 (hval 0 40 v0 rfl rfl)
  obtain ⟨fu0, fh0⟩ := h0
  obtain ⟨l0, ⟨A0, c0, e0, hc0, hr0⟩, hm0, hw0⟩ := op40.opens enc W 0 _ true fu0 _ _ fh0
  simp only [Value.cells, List.cons.injEq, Value.slice.injEq, and_true] at e0
  obtain ⟨rfl, rfl, rfl⟩ := e0
  have k1 := h1
  have lt1 : ∀ x ∈ p1, x.block < W.heap.size := by obtain ⟨m, hm⟩ := k1; exact DataW.trod_lt m _ _ _ hm
  obtain ⟨b1, len1, cap1, rfl⟩ := okWide_slice Try.underlying22 (hval 1 22 v1 rfl rfl)
  obtain ⟨fu1, fh1⟩ := h1
  obtain ⟨l1, ⟨A1, c1, e1, hc1, hr1⟩, hm1, hw1⟩ := op22.opens enc W 0 _ true fu1 _ _ fh1
  simp only [Value.cells, List.cons.injEq, Value.slice.injEq, and_true] at e1
  obtain ⟨rfl, rfl, rfl⟩ := e1
  obtain ⟨k, hk⟩ := Pure.FnExactRun _ _ hm0 hw0 hm1 hw1
  refine (P.laws_FnExactRun.calls k _ _ l0 _ _ l1 true W hr0 hc0 hr1 hc1 hk).mono fun e W' ⟨he, bel0⟩ => ?_
  have bel : Below W.heap.size W W' := bel0
  subst he
  exact ⟨_, rfl, _, _, _, [], _, [], hW', trodAll_mk1 (shut_bool Try.underlying4 _), (trodAll_cons_mk (Below.trod laidOut (by kernel_rfl) (of_decide_eq_true (by kernel_rfl)) k0 bel lt0) (trodAll_cons_mk (Below.trod laidOut (by kernel_rfl) (of_decide_eq_true (by kernel_rfl)) k1 bel lt1) trodAll_mk0)), rfl, bel.frame _, fun h => by cases h⟩
theorem over : Rows.fnExactRunRow.holds Try.pinned (OpenSpec.ofChange Rows.fnExactRunSpec) :=
  OpenClaim.holds_of_wide 5 Try.f5 rfl rfl rfl rfl rfl rfl rfl ⟨rfl, rfl, rfl, rfl, rfl⟩ rfl rfl rfl rfl rfl (by kernel_rfl) Try.func5 (by kernel_rfl)
    (of_decide_eq_true (by kernel_rfl)) (by unfold Func.isWrapper; first | (rw [if_pos (by decide +kernel)]; kernel_rfl) | (rw [if_neg (by decide +kernel)]; exact ⟨rfl, rfl⟩))
    (fun os started H enc _ => lifted os started H enc)
theorem proved : Rows.FnExactRunSaid := over
#print axioms proved
end Go.Proofs.Ytgodbniphkfgfaa.fnExactRun
namespace Go.Proofs.Ytgodbniphkfgfaa
/-- The row, under a short name, for the claim. -/
theorem fnExactRun_holds : Rows.FnExactRunSaid := fnExactRun.proved
end Go.Proofs.Ytgodbniphkfgfaa
