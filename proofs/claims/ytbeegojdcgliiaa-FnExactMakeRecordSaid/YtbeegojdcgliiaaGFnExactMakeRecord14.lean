/- The program's MakeRecord gives what the reference's MakeRecord gives, for every call and ip (a call with more than 2^20 arguments is not asked); its answer owns its memory. -/
import Derived.Test.YtbeegojdcgliiaaGFnExactMakeRecord2
import Derived.Test.YtbeegojdcgliiaaGFnExactMakeRecord13
import Derived.Test.YtbeegojdcgliiaaGFnExactMakeRecord4
import Derived.Test.YtbeegojdcgliiaaGFnExactMakeRecord5
import Derived.Test.YtbeegojdcgliiaaGFnExactMakeRecord9
import Derived.Test.YtbeegojdcgliiaaGFnExactMakeRecord12
import Derived.Test.YtbeegojdcgliiaaRows
import Derived.WalkKit
import Derived.ProofKit
import Derived.OpenShut
import Derived.ShutString
import Derived.ChangeOld
import Derived.Below
import Derived.SizedLaws
namespace Go.Proofs.Ytbeegojdcgliiaa.P
open Go.RowKit Go.Proofs.YtbeegojdcgliiaaW.PrintWords Go.Proofs.YtbeegojdcgliiaaW.PrintLast Go.Proofs.YtbeegojdcgliiaaW.PrintMore
set_option linter.unusedVariables false
/-- THE ONE PURE STATEMENT of laws_FnExactMakeRecord. -/
def laws_FnExactMakeRecord.Pure : Prop := ∀ (a0_0 : Int) (a0_1 : Int) (l0_2 : List Int) (a1 : Int), (Lit.int .u32 a0_0).wf = true → (Lit.int .u32 a0_1).wf = true → l0_2.length ≤ maxLen → (∀ x ∈ l0_2, wf29 x) → (Lit.int .u64 a1).wf = true → ∃ k, laws_FnExactMakeRecord.f k a0_0 a0_1 l0_2 a1 = some true
end Go.Proofs.Ytbeegojdcgliiaa.P

namespace Go.Proofs.Ytbeegojdcgliiaa.Pure
open Go.RowKit Go.Proofs.Ytbeegojdcgliiaa.P Go.Proofs.YtbeegojdcgliiaaW.PrintWords Go.Proofs.YtbeegojdcgliiaaW.PrintLast
set_option linter.unusedVariables false
set_option linter.unusedSimpArgs false

theorem FnExactMakeRecord : laws_FnExactMakeRecord.Pure := by
  intro arch nr l ip ha hn hl hw hi
  have ha := wf_u32 ha
  have hn := wf_u32 hn
  have hi := wf_u64 hi
  have hx : ∀ x ∈ l, 0 ≤ x ∧ x < 18446744073709551616 := fun x hx => wf_u64 (hw x hx)
  have hsz := szCall_is arch nr l 1048576 hl (by decide) (by decide)
  by_cases hb : (1048576 : Int) - (l.length : Int) < 0
  · rw [if_pos hb] at hsz
    exact ⟨0, by unfold laws_FnExactMakeRecord.f; rw [hsz]; rfl⟩
  rw [if_neg hb] at hsz
  obtain ⟨r, hr, hs, him⟩ : ∃ r : List Int, r.length ≤ 64 ∧ Ev (fun k => spec_MakeRecord.f k arch nr l ip) r ∧ Ev (fun k => impl_MakeRecord.f k arch nr l ip) r := by
    by_cases h6 : l.length = 6
    · exact ⟨recB arch nr l ip, by rw [recB_length]; omega, specRecord_ev arch nr l ip h6 ha hn hi hx, implRecord_ev arch nr l ip h6 ha hn⟩
    · exact ⟨[], by simp, specRecord_bad arch nr l ip h6, implRecord_bad arch nr l ip h6⟩
  obtain ⟨K1, h1⟩ := ev_get (hs)
  obtain ⟨K2, h2⟩ := ev_get (him)
  obtain ⟨K3, h3⟩ := ev_get (toCall_ev arch nr l (by omega))
  obtain ⟨K4, h4⟩ := ev_get (eqByteS_ev r r (by omega) true (by simp))
  obtain ⟨K5, h5⟩ := ev_get (eqCall_ev arch nr l (by omega))
  obtain ⟨K6, h6⟩ := ev_get (markUint64S_ev l 1 (by decide) (by decide) (by omega))
  obtain ⟨K7, h7⟩ := ev_get (markByteS_ev r 1 (by decide) (by decide) (by omega))
  obtain ⟨K8, h8⟩ := ev_get (heldByteS_ev r.length 1 (by decide) (by decide) (by omega))
  have e1 : ¬ (1 + (l.length : Int) < 0) := by omega
  have e2 : ¬ (1 + (r.length : Int) < 0) := by omega
  refine ⟨K1 + K2 + K3 + K4 + K5 + K6 + K7 + K8 + 1, ?_⟩
  have g : ∀ k, K1 + K2 + K3 + K4 + K5 + K6 + K7 + K8 ≤ k → spec_MakeRecord.f k arch nr l ip = some r ∧ impl_MakeRecord.f k arch nr l ip = some r ∧ laws_toCall.f k arch nr l = some (arch, nr, l) ∧ laws_eqByteS.f k r r = some true ∧ laws_eqCall.f k arch nr l arch nr l = some true ∧ laws_markUint64S.f k l 1 = some (1 + (l.length : Int), marks64 l.length 1) ∧ laws_markByteS.f k r 1 = some (1 + (r.length : Int), marks r.length 1) ∧ laws_heldByteS.f k (marks r.length 1) 1 = some (1 + (r.length : Int)) := fun k hk => ⟨h1 k (by omega), h2 k (by omega), h3 k (by omega), h4 k (by omega), h5 k (by omega), h6 k (by omega), h7 k (by omega), h8 k (by omega)⟩
  generalize K1 + K2 + K3 + K4 + K5 + K6 + K7 + K8 = K at g ⊢
  obtain ⟨g1, g2, g3, g4, g5, g6, g7, g8⟩ := g (K + 1) (by omega)
  obtain ⟨f1, f2, f3, f4, f5, f6, f7, f8⟩ := g K (Nat.le_refl _)
  unfold laws_FnExactMakeRecord.f
  simp only [hsz, g1, g2, g3, g4, g5, g6, laws_markCall.f, Option.bind_some, if_true, if_neg hb, if_neg e1, laws_FnExactMakeRecord.j0, f1, f2, f3, f4, f7, f8, if_neg e2, Bool.not_true, Bool.false_eq_true, if_false]
end Go.Proofs.Ytbeegojdcgliiaa.Pure

namespace Go.Proofs.Ytbeegojdcgliiaa.fnExactMakeRecord
open Go.ChangeShapes Go.WideShapes Go.ChangeAt Go.RowKit Go.Proofs.Ytbeegojdcgliiaa.P Go.Proofs.YtbeegojdcgliiaaW.PrintWords Go.Proofs.YtbeegojdcgliiaaW.PrintLast Go.Proofs.YtbeegojdcgliiaaW.PrintMore
set_option linter.unusedVariables false
set_option linter.unusedSimpArgs false
theorem own : ownKnob Try.prog.godebug = none := by kernel_rfl
theorem laidOut : laidOutB Try.prog = true := by kernel_rfl
set_option maxRecDepth 100000 in
theorem lifted (os : Os) (started : os.Started) (H : Type) (enc : TypeId × Value → H) :
    ReturnsInHanded {} Try.checked os 7 .any (Rows.fnExactMakeRecordSpec.pre6 enc Try.prog Try.f7 Rows.fnExactMakeRecordRow.domain false) (Rows.fnExactMakeRecordSpec.post enc Try.prog Try.f7 false true false false) := by
  refine returnsInHanded_of_change_sized (C := Try.checked) own started (by kernel_rfl) Try.func7
    (ChangeSpec.witness6 (enc := enc) (C := Try.checked) false ⟨#[], #[.agg #[.int .u32 0, .int .u32 0, .slice none 0 0], .int .u64 0], []⟩ 8 (by kernel_rfl) (by kernel_rfl) (by kernel_rfl) (by kernel_rfl)) ?_
  intro W base args ds gs before hval0 hW hcnd hsz0 _
  have hval : ∀ (j : Nat) t v, Try.f7.params[j]? = some t → args[j]? = some v → Value.okWide Try.prog W .any base t v := hval0
  have hW' := hW
  obtain ⟨p, q, hA0, hV, rfl, hfz, hnd⟩ := hW
  have hA : DataW.TrodAll enc Try.prog W 0 (fun _ => true) true Try.f7.params.toList args.toList ds p := hA0
  rw [Try.params7] at hA hval
  obtain ⟨v0, vs0, d0, ds0, p0, q0, hargs, rfl, rfl, h0, r0⟩ := trodAll_cons hA
  obtain ⟨v1, vs1, d1, ds1, p1, q1, rfl, rfl, rfl, h1, r1⟩ := trodAll_cons r0
  obtain ⟨rfl, rfl, rfl⟩ := trodAll_nil r1
  obtain rfl : args = #[v0, v1] := by cases args; simp_all
  obtain ⟨rfl, rfl⟩ := trodVars_none hV
  have k0 := h0
  have lt0 : ∀ x ∈ p0, x.block < W.heap.size := by obtain ⟨m, hm⟩ := k0; exact DataW.trod_lt m _ _ _ hm
  obtain ⟨fu0, fh0⟩ := h0
  obtain ⟨x0, hK0, ⟨w0_0, w0_1, ⟨hm0_2, hw0_2⟩⟩⟩ := op48.opens enc W 0 _ true fu0 _ _ fh0
  obtain ⟨cs0, rfl, hsz0, _⟩ : ∃ cs, v0 = .agg cs ∧ cs.size = Try.prog.cellsOf 48 ∧ Row.okWide Try.prog W .any base 48 cs := by
    have z := (hval 0 48 v0 rfl rfl)
    unfold Value.okWide at z
    rw [Try.underlying48] at z
    exact z
  obtain ⟨xs0⟩ := cs0
  have hK0' : k48.K W x0 xs0 := by simpa [Value.cells] using hK0
  obtain ⟨_, _, rfl, rfl, ⟨_, _, rfl, rfl, ⟨A0_2, c0_2, rfl, hc0_2, hr0_2⟩⟩⟩ := hK0'
  obtain ⟨a1, rfl, rfl, rfl, w1⟩ := open_int Try.underlying29 (hval 1 29 v1 rfl rfl) h1
  obtain ⟨k, hk⟩ := Pure.FnExactMakeRecord _ _ _ _ w0_0 w0_1 hm0_2 hw0_2 w1
  refine (P.laws_FnExactMakeRecord.calls k x0.f0 x0.f1 _ _ x0.f2 a1 true W hr0_2 hc0_2 hk).mono fun e W' ⟨he, bel0⟩ => ?_
  have bel : Below W.heap.size W W' := bel0
  subst he
  exact ⟨_, rfl, _, _, _, [], _, [], hW', trodAll_mk1 (shut_bool Try.underlying4 _), (trodAll_cons_mk (Below.trod laidOut (by kernel_rfl) (of_decide_eq_true (by kernel_rfl)) k0 bel lt0) (trodAll_cons_mk (shut_int Try.underlying29 w1) trodAll_mk0)), rfl, bel.frame _, fun h => by cases h⟩
theorem over : Rows.fnExactMakeRecordRow.holds Try.pinned (OpenSpec.ofChange Rows.fnExactMakeRecordSpec) :=
  OpenClaim.holds_of_wide 7 Try.f7 rfl rfl rfl rfl rfl rfl rfl ⟨rfl, rfl, rfl, rfl, rfl⟩ rfl rfl rfl rfl rfl (by kernel_rfl) Try.func7 (by kernel_rfl)
    (of_decide_eq_true (by kernel_rfl)) (by unfold Func.isWrapper; first | (rw [if_pos (by decide +kernel)]; kernel_rfl) | (rw [if_neg (by decide +kernel)]; exact ⟨rfl, rfl⟩))
    (fun os started H enc _ => lifted os started H enc)
theorem proved : Rows.FnExactMakeRecordSaid := over
#print axioms proved
end Go.Proofs.Ytbeegojdcgliiaa.fnExactMakeRecord
namespace Go.Proofs.Ytbeegojdcgliiaa
/-- The row, under a short name, for the claim. -/
theorem fnExactMakeRecord_holds : Rows.FnExactMakeRecordSaid := fnExactMakeRecord.proved
end Go.Proofs.Ytbeegojdcgliiaa
