/- The program's Assemble gives what the reference's Assemble gives, for every list of items (one of more than 2^20 is not asked); its answer owns its memory. -/
import Derived.Test.YtgodbniphkfgfaaGFnExactAssemble4
import Derived.Test.YtgodbniphkfgfaaGFnExactAssemble16
import Derived.Test.YtgodbniphkfgfaaGFnExactAssemble15
import Derived.Test.YtgodbniphkfgfaaRows
import Derived.WalkKit
import Derived.ProofKit
import Derived.OpenShut
import Derived.ShutString
import Derived.ChangeOld
import Derived.Below
import Derived.SizedLaws
namespace Go.Proofs.Ytgodbniphkfgfaa.P
open Go.RowKit Go.Proofs.YtgodbniphkfgfaaW.PrintWords Go.Proofs.YtgodbniphkfgfaaW.PrintLast Go.Proofs.YtgodbniphkfgfaaW.PrintMore
set_option linter.unusedVariables false
/-- THE ONE PURE STATEMENT of laws_FnExactAssemble. -/
def laws_FnExactAssemble.Pure : Prop := ∀ (l0 : List (S68)), l0.length ≤ maxLen → (∀ x ∈ l0, wf68 x) → ∃ k, laws_FnExactAssemble.f k l0 = some true
end Go.Proofs.Ytgodbniphkfgfaa.P

namespace Go.Proofs.Ytgodbniphkfgfaa.Pure
open Go.RowKit Go.Proofs.Ytgodbniphkfgfaa.P Go.Proofs.YtgodbniphkfgfaaW.PrintWords Go.Proofs.YtgodbniphkfgfaaW.PrintLast
set_option linter.unusedVariables false
set_option linter.unusedSimpArgs false
theorem insR_of {x : S66} (h : wf66 x) : InsR (insOf x) := by
  obtain ⟨h0, h1, h2, h3⟩ := h
  simp only [wf52, wf5, wf42, Lit.wf, IntKind.min, IntKind.max, IntKind.signed, IntKind.bits, Bool.and_eq_true] at h0 h1 h2 h3
  simp at h0 h1 h2 h3
  unfold InsR insOf
  dsimp only
  omega
theorem itR_of {x : S68} (h : wf68 x) : ItR (itemOf x) := by
  obtain ⟨h0, h1, h2⟩ := h
  simp only [wf3, Lit.wf, IntKind.min, IntKind.max, IntKind.signed, IntKind.bits, Bool.and_eq_true] at h0 h2
  simp at h0 h2
  refine ⟨?_, insR_of h1, ?_⟩
  · unfold itemOf; dsimp only; omega
  · unfold itemOf; dsimp only; omega
theorem FnExactAssemble : laws_FnExactAssemble.Pure := by
  intro l hl hw
  have hsz := szItemS_is l 1048576 hl (by decide) (by decide)
  by_cases hb : (1048576 : Int) - (l.length : Int) < 0
  · rw [if_pos hb] at hsz
    exact ⟨0, by unfold laws_FnExactAssemble.f; rw [hsz]; rfl⟩
  rw [if_neg hb] at hsz
  obtain ⟨m, hm⟩ : ∃ m, m = l.map itemOf := ⟨_, rfl⟩
  have hml : m.length = l.length := by rw [hm, List.length_map]
  have hmr : ∀ x ∈ m, ItR x := by
    intro x hx
    rw [hm] at hx
    obtain ⟨y, hy, rfl⟩ := List.mem_map.1 hx
    exact itR_of (hw y hy)
  obtain ⟨⟨p, c⟩, hpl, e1, e2⟩ := assemble_ev m hmr (by omega)
  dsimp only at hpl
  obtain ⟨m2, e5⟩ := markItemS_ev m (by omega)
  obtain ⟨K1, h1⟩ := ev_get e1
  obtain ⟨K2, h2⟩ := ev_get e2
  obtain ⟨K3, h3⟩ := ev_get (toItemS_ev l (by omega))
  obtain ⟨K4, h4⟩ := ev_get (eqInsS_ev p p (by omega) true (by simp))
  obtain ⟨K5, h5⟩ := ev_get e5
  obtain ⟨K6, h6⟩ := ev_get (eqItemS_ev m (by omega))
  obtain ⟨K7, h7⟩ := ev_get (markInsS_ev p 1 (by decide) (by decide) (by omega))
  obtain ⟨K8, h8⟩ := ev_get (heldInsS_ev p.length 1 (by decide) (by decide) (by omega))
  rw [← hm] at h3
  have g1 : ¬ (1 + 6 * (m.length : Int) < 0) := by omega
  have g2 : ¬ (1 + 4 * (p.length : Int) < 0) := by omega
  refine ⟨K1 + K2 + K3 + K4 + K5 + K6 + K7 + K8 + 3, ?_⟩
  generalize hK : K1 + K2 + K3 + K4 + K5 + K6 + K7 + K8 = K
  unfold laws_FnExactAssemble.f
  refine bo hsz ?_
  rw [if_neg hb]
  refine bo (h3 _ (by omega)) (bo (h1 _ (by omega)) (bo (h3 _ (by omega)) (bo (h2 _ (by omega)) (bo (h4 _ (by omega)) ?_))))
  rw [if_pos rfl, laws_FnExactAssemble.j0, if_neg (by simp)]
  refine bo (h3 _ (by omega)) (bo (h6 _ (by omega)) ?_)
  rw [if_pos rfl]
  refine bo (h5 _ (by omega)) ?_
  rw [if_neg g1]
  refine bo (h4 _ (by omega)) ?_
  rw [if_pos rfl, laws_FnExactAssemble.j1, if_neg (by simp)]
  refine bo (h7 _ (by omega)) (bo (h8 _ (by omega)) ?_)
  rw [if_neg g2, if_pos rfl]
  refine bo (h3 _ (by omega)) (bo (h2 _ (by omega)) (bo (h4 _ (by omega)) ?_))
  rw [if_pos rfl, laws_FnExactAssemble.j2, if_neg (by simp)]
  refine bo (h8 _ (by omega)) ?_
  rw [if_neg g2, if_pos rfl]
end Go.Proofs.Ytgodbniphkfgfaa.Pure

namespace Go.Proofs.Ytgodbniphkfgfaa.fnExactAssemble
open Go.ChangeShapes Go.WideShapes Go.ChangeAt Go.RowKit Go.Proofs.Ytgodbniphkfgfaa.P Go.Proofs.YtgodbniphkfgfaaW.PrintWords Go.Proofs.YtgodbniphkfgfaaW.PrintLast Go.Proofs.YtgodbniphkfgfaaW.PrintMore
set_option linter.unusedVariables false
set_option linter.unusedSimpArgs false
theorem own : ownKnob Try.prog.godebug = none := by kernel_rfl
theorem laidOut : laidOutB Try.prog = true := by kernel_rfl
set_option maxRecDepth 100000 in
theorem lifted (os : Os) (started : os.Started) (H : Type) (enc : TypeId × Value → H) :
    ReturnsInHanded {} Try.checked os 4 .any (Rows.fnExactAssembleSpec.pre6 enc Try.prog Try.f4 Rows.fnExactAssembleRow.domain false) (Rows.fnExactAssembleSpec.post enc Try.prog Try.f4 false true false false) := by
  refine returnsInHanded_of_change_sized (C := Try.checked) own started (by kernel_rfl) Try.func4
    (ChangeSpec.witness6 (enc := enc) (C := Try.checked) false ⟨#[], #[.slice none 0 0], []⟩ 8 (by kernel_rfl) (by kernel_rfl) (by kernel_rfl) (by kernel_rfl)) ?_
  intro W base args ds gs before hval0 hW hcnd hsz0 _
  have hval : ∀ (j : Nat) t v, Try.f4.params[j]? = some t → args[j]? = some v → Value.okWide Try.prog W .any base t v := hval0
  have hW' := hW
  obtain ⟨p, q, hA0, hV, rfl, hfz, hnd⟩ := hW
  have hA : DataW.TrodAll enc Try.prog W 0 (fun _ => true) true Try.f4.params.toList args.toList ds p := hA0
  rw [Try.params4] at hA hval
  obtain ⟨v0, vs0, d0, ds0, p0, q0, hargs, rfl, rfl, h0, r0⟩ := trodAll_cons hA
  obtain ⟨rfl, rfl, rfl⟩ := trodAll_nil r0
  obtain rfl : args = #[v0] := by cases args; simp_all
  obtain ⟨rfl, rfl⟩ := trodVars_none hV
  have k0 := h0
  have lt0 : ∀ x ∈ p0, x.block < W.heap.size := by obtain ⟨m, hm⟩ := k0; exact DataW.trod_lt m _ _ _ hm
  obtain ⟨b0, len0, cap0, rfl⟩ := okWide_slice Try.underlying32 (hval 0 32 v0 rfl rfl)
  obtain ⟨fu0, fh0⟩ := h0
  obtain ⟨l0, ⟨A0, c0, e0, hc0, hr0⟩, hm0, hw0⟩ := op32.opens enc W 0 _ true fu0 _ _ fh0
  simp only [Value.cells, List.cons.injEq, Value.slice.injEq, and_true] at e0
  obtain ⟨rfl, rfl, rfl⟩ := e0
  obtain ⟨k, hk⟩ := Pure.FnExactAssemble _ hm0 hw0
  refine (P.laws_FnExactAssemble.calls k _ _ l0 true W hr0 hc0 hk).mono fun e W' ⟨he, bel0⟩ => ?_
  have bel : Below W.heap.size W W' := bel0
  subst he
  exact ⟨_, rfl, _, _, _, [], _, [], hW', trodAll_mk1 (shut_bool Try.underlying4 _), (trodAll_cons_mk (Below.trod laidOut (by kernel_rfl) (of_decide_eq_true (by kernel_rfl)) k0 bel lt0) trodAll_mk0), rfl, bel.frame _, fun h => by cases h⟩
theorem over : Rows.fnExactAssembleRow.holds Try.pinned (OpenSpec.ofChange Rows.fnExactAssembleSpec) :=
  OpenClaim.holds_of_wide 4 Try.f4 rfl rfl rfl rfl rfl rfl rfl ⟨rfl, rfl, rfl, rfl, rfl⟩ rfl rfl rfl rfl rfl (by kernel_rfl) Try.func4 (by kernel_rfl)
    (of_decide_eq_true (by kernel_rfl)) (by unfold Func.isWrapper; first | (rw [if_pos (by decide +kernel)]; kernel_rfl) | (rw [if_neg (by decide +kernel)]; exact ⟨rfl, rfl⟩))
    (fun os started H enc _ => lifted os started H enc)
theorem proved : Rows.FnExactAssembleSaid := over
#print axioms proved
end Go.Proofs.Ytgodbniphkfgfaa.fnExactAssemble
namespace Go.Proofs.Ytgodbniphkfgfaa
/-- The row, under a short name, for the claim. -/
theorem fnExactAssemble_holds : Rows.FnExactAssembleSaid := fnExactAssemble.proved
end Go.Proofs.Ytgodbniphkfgfaa
