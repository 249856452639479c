/- The program's EncodeProgram gives what the reference's EncodeProgram gives, for every list of instructions (one of more than 2^20 is not asked); its answer owns its memory. -/
import Derived.Test.YtbeegojdcgliiaaGFnExactEncodeProgram2
import Derived.Test.YtbeegojdcgliiaaGFnExactEncodeProgram13
import Derived.Test.YtbeegojdcgliiaaGFnExactEncodeProgram4
import Derived.Test.YtbeegojdcgliiaaGFnExactEncodeProgram5
import Derived.Test.YtbeegojdcgliiaaGFnExactEncodeProgram10
import Derived.Test.YtbeegojdcgliiaaRows
import Derived.WalkKit
import Derived.ProofKit
import Derived.OpenShut
import Derived.ShutString
import Derived.ChangeOld
import Derived.Below
import Derived.SizedLaws
namespace Go.Proofs.Ytbeegojdcgliiaa.P
open Go.RowKit Go.Proofs.YtbeegojdcgliiaaW.PrintWords Go.Proofs.YtbeegojdcgliiaaW.PrintLast Go.Proofs.YtbeegojdcgliiaaW.PrintMore
set_option linter.unusedVariables false
/-- THE ONE PURE STATEMENT of laws_FnExactEncodeProgram. -/
def laws_FnExactEncodeProgram.Pure : Prop := ∀ (l0 : List (S71)), l0.length ≤ maxLen → (∀ x ∈ l0, wf71 x) → ∃ k, laws_FnExactEncodeProgram.f k l0 = some true
end Go.Proofs.Ytbeegojdcgliiaa.P

namespace Go.Proofs.Ytbeegojdcgliiaa.Pure
open Go.RowKit Go.Proofs.Ytbeegojdcgliiaa.P Go.Proofs.YtbeegojdcgliiaaW.PrintWords Go.Proofs.YtbeegojdcgliiaaW.PrintLast
set_option linter.unusedVariables false
set_option linter.unusedSimpArgs false
theorem insR_of {x : S71} (h : wf71 x) : InsR (insOf x) := by
  obtain ⟨h0, h1, h2, h3⟩ := h
  simp only [wf67, wf5, wf24, Lit.wf, IntKind.min, IntKind.max, IntKind.signed, IntKind.bits, Bool.and_eq_true] at h0 h1 h2 h3
  simp at h0 h1 h2 h3
  unfold InsR insOf
  dsimp only
  omega
theorem FnExactEncodeProgram : laws_FnExactEncodeProgram.Pure := by
  intro l hl hw
  have hsz := szInsS_is l 1048576 hl (by decide) (by decide)
  by_cases hb : (1048576 : Int) - (l.length : Int) < 0
  · rw [if_pos hb] at hsz
    exact ⟨0, by unfold laws_FnExactEncodeProgram.f; rw [hsz]; rfl⟩
  rw [if_neg hb] at hsz
  obtain ⟨m, hm⟩ : ∃ m, m = l.map insOf := ⟨_, rfl⟩
  have hml : m.length = l.length := by rw [hm, List.length_map]
  have hmr : ∀ x ∈ m, InsR x := by
    intro x hx
    rw [hm] at hx
    obtain ⟨y, hy, rfl⟩ := List.mem_map.1 hx
    exact insR_of (hw y hy)
  obtain ⟨r, hr⟩ : ∃ r, r = progB m := ⟨_, rfl⟩
  have hrl : r.length = 8 * l.length := by rw [hr, progB_length, hml]
  obtain ⟨K1, h1⟩ := ev_get (specEncProg_ev m (by omega) hmr)
  obtain ⟨K2, h2⟩ := ev_get (implEncProg_ev m (by omega))
  obtain ⟨K3, h3⟩ := ev_get (toInsS_ev l (by omega))
  obtain ⟨K4, h4⟩ := ev_get (eqByteS_ev r r (by omega) true (by simp))
  obtain ⟨K5, h5⟩ := ev_get (eqInsS_ev m m (by omega) true (by simp))
  obtain ⟨K6, h6⟩ := ev_get (markInsS_ev m 1 (by decide) (by decide) (by omega))
  obtain ⟨K7, h7⟩ := ev_get (markByteS_ev r 1 (by decide) (by decide) (by omega))
  obtain ⟨K8, h8⟩ := ev_get (heldByteS_ev r.length 1 (by decide) (by decide) (by omega))
  rw [← hm] at h3
  rw [← hr] at h1 h2
  have e1 : ¬ (1 + 4 * (m.length : Int) < 0) := by omega
  have e2 : ¬ (1 + (r.length : Int) < 0) := by omega
  have g : ∀ k, K1 + K2 + K3 + K4 + K5 + K6 + K7 + K8 ≤ k → spec_EncodeProgram.f k m = some r ∧ impl_EncodeProgram.f k m = some r ∧ laws_toInsS.f k l = some m ∧ laws_eqByteS.f k r r = some true ∧ laws_eqInsS.f k m m = some true ∧ laws_markInsS.f k m 1 = some (1 + 4 * (m.length : Int), marksI m.length 1) ∧ laws_markByteS.f k r 1 = some (1 + (r.length : Int), marks r.length 1) ∧ laws_heldByteS.f k (marks r.length 1) 1 = some (1 + (r.length : Int)) := fun k hk => ⟨h1 k (by omega), h2 k (by omega), h3 k (by omega), h4 k (by omega), h5 k (by omega), h6 k (by omega), h7 k (by omega), h8 k (by omega)⟩
  refine ⟨K1 + K2 + K3 + K4 + K5 + K6 + K7 + K8 + 1, ?_⟩
  generalize K1 + K2 + K3 + K4 + K5 + K6 + K7 + K8 = K at g ⊢
  obtain ⟨g1, g2, g3, g4, g5, g6, g7, g8⟩ := g (K + 1) (by omega)
  obtain ⟨f1, f2, f3, f4, f5, f6, f7, f8⟩ := g K (Nat.le_refl _)
  unfold laws_FnExactEncodeProgram.f
  refine bo hsz ?_
  rw [if_neg hb]
  refine bo g3 (bo g1 (bo g3 (bo g2 (bo g4 ?_))))
  rw [if_pos rfl]
  refine bo g3 (bo g5 ?_)
  rw [if_pos rfl]
  refine bo g6 ?_
  rw [if_neg e1]
  refine bo g4 ?_
  rw [laws_FnExactEncodeProgram.j0]
  rw [if_neg (by decide)]
  refine bo f7 (bo f8 ?_)
  rw [if_neg e2, if_pos rfl]
  refine bo f3 (bo f2 (bo f4 ?_))
  rw [if_pos rfl]
  refine bo f8 ?_
  rw [if_neg e2, if_pos rfl]
end Go.Proofs.Ytbeegojdcgliiaa.Pure

namespace Go.Proofs.Ytbeegojdcgliiaa.fnExactEncodeProgram
open Go.ChangeShapes Go.WideShapes Go.ChangeAt Go.RowKit Go.Proofs.Ytbeegojdcgliiaa.P Go.Proofs.YtbeegojdcgliiaaW.PrintWords Go.Proofs.YtbeegojdcgliiaaW.PrintLast Go.Proofs.YtbeegojdcgliiaaW.PrintMore
set_option linter.unusedVariables false
set_option linter.unusedSimpArgs false
theorem own : ownKnob Try.prog.godebug = none := by kernel_rfl
theorem laidOut : laidOutB Try.prog = true := by kernel_rfl
set_option maxRecDepth 100000 in
theorem lifted (os : Os) (started : os.Started) (H : Type) (enc : TypeId × Value → H) :
    ReturnsInHanded {} Try.checked os 6 .any (Rows.fnExactEncodeProgramSpec.pre6 enc Try.prog Try.f6 Rows.fnExactEncodeProgramRow.domain false) (Rows.fnExactEncodeProgramSpec.post enc Try.prog Try.f6 false true false false) := by
  refine returnsInHanded_of_change_sized (C := Try.checked) own started (by kernel_rfl) Try.func6
    (ChangeSpec.witness6 (enc := enc) (C := Try.checked) false ⟨#[], #[.slice none 0 0], []⟩ 8 (by kernel_rfl) (by kernel_rfl) (by kernel_rfl) (by kernel_rfl)) ?_
  intro W base args ds gs before hval0 hW hcnd hsz0 _
  have hval : ∀ (j : Nat) t v, Try.f6.params[j]? = some t → args[j]? = some v → Value.okWide Try.prog W .any base t v := hval0
  have hW' := hW
  obtain ⟨p, q, hA0, hV, rfl, hfz, hnd⟩ := hW
  have hA : DataW.TrodAll enc Try.prog W 0 (fun _ => true) true Try.f6.params.toList args.toList ds p := hA0
  rw [Try.params6] at hA hval
  obtain ⟨v0, vs0, d0, ds0, p0, q0, hargs, rfl, rfl, h0, r0⟩ := trodAll_cons hA
  obtain ⟨rfl, rfl, rfl⟩ := trodAll_nil r0
  obtain rfl : args = #[v0] := by cases args; simp_all
  obtain ⟨rfl, rfl⟩ := trodVars_none hV
  have k0 := h0
  have lt0 : ∀ x ∈ p0, x.block < W.heap.size := by obtain ⟨m, hm⟩ := k0; exact DataW.trod_lt m _ _ _ hm
  obtain ⟨b0, len0, cap0, rfl⟩ := okWide_slice Try.underlying37 (hval 0 37 v0 rfl rfl)
  obtain ⟨fu0, fh0⟩ := h0
  obtain ⟨l0, ⟨A0, c0, e0, hc0, hr0⟩, hm0, hw0⟩ := op37.opens enc W 0 _ true fu0 _ _ fh0
  simp only [Value.cells, List.cons.injEq, Value.slice.injEq, and_true] at e0
  obtain ⟨rfl, rfl, rfl⟩ := e0
  obtain ⟨k, hk⟩ := Pure.FnExactEncodeProgram _ hm0 hw0
  refine (P.laws_FnExactEncodeProgram.calls k _ _ l0 true W hr0 hc0 hk).mono fun e W' ⟨he, bel0⟩ => ?_
  have bel : Below W.heap.size W W' := bel0
  subst he
  exact ⟨_, rfl, _, _, _, [], _, [], hW', trodAll_mk1 (shut_bool Try.underlying4 _), (trodAll_cons_mk (Below.trod laidOut (by kernel_rfl) (of_decide_eq_true (by kernel_rfl)) k0 bel lt0) trodAll_mk0), rfl, bel.frame _, fun h => by cases h⟩
theorem over : Rows.fnExactEncodeProgramRow.holds Try.pinned (OpenSpec.ofChange Rows.fnExactEncodeProgramSpec) :=
  OpenClaim.holds_of_wide 6 Try.f6 rfl rfl rfl rfl rfl rfl rfl ⟨rfl, rfl, rfl, rfl, rfl⟩ rfl rfl rfl rfl rfl (by kernel_rfl) Try.func6 (by kernel_rfl)
    (of_decide_eq_true (by kernel_rfl)) (by unfold Func.isWrapper; first | (rw [if_pos (by decide +kernel)]; kernel_rfl) | (rw [if_neg (by decide +kernel)]; exact ⟨rfl, rfl⟩))
    (fun os started H enc _ => lifted os started H enc)
theorem proved : Rows.FnExactEncodeProgramSaid := over
#print axioms proved
end Go.Proofs.Ytbeegojdcgliiaa.fnExactEncodeProgram
namespace Go.Proofs.Ytbeegojdcgliiaa
/-- The row, under a short name, for the claim. -/
theorem fnExactEncodeProgram_holds : Rows.FnExactEncodeProgramSaid := fnExactEncodeProgram.proved
end Go.Proofs.Ytbeegojdcgliiaa
