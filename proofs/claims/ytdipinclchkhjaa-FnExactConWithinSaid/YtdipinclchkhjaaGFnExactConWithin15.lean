/- The program's ConWithin gives what the reference's ConWithin gives, for all conditions: both say whether both are valid and the one's set lies within the other's. -/
import Derived.Test.YtdipinclchkhjaaGFnExactConWithin2
import Derived.Test.YtdipinclchkhjaaGFnExactConWithin14
import Derived.Test.YtdipinclchkhjaaGFnExactConWithin13
import Derived.Test.YtdipinclchkhjaaRows
import Derived.WalkKit
import Derived.ProofKit
import Derived.OpenShut
import Derived.ShutString
import Derived.ChangeOld
import Derived.Below
import Derived.SizedLaws
namespace Go.Proofs.Ytdipinclchkhjaa.P
open Go.RowKit Go.Proofs.YtdipinclchkhjaaW.PrintWords Go.Proofs.YtdipinclchkhjaaW.PrintLast Go.Proofs.YtdipinclchkhjaaW.PrintMore
set_option linter.unusedVariables false
/-- THE ONE PURE STATEMENT of laws_FnExactConWithin. -/
def laws_FnExactConWithin.Pure : Prop := ∀ (a0_0 : Int) (a0_1 : Int) (a0_2 : Int) (a1_0 : Int) (a1_1 : Int) (a1_2 : Int), (Lit.int .i64 a0_0).wf = true → (Lit.int .u64 a0_1).wf = true → (Lit.int .u64 a0_2).wf = true → (Lit.int .i64 a1_0).wf = true → (Lit.int .u64 a1_1).wf = true → (Lit.int .u64 a1_2).wf = true → ∃ k, laws_FnExactConWithin.f k a0_0 a0_1 a0_2 a1_0 a1_1 a1_2 = some true
end Go.Proofs.Ytdipinclchkhjaa.P

namespace Go.Proofs.Ytdipinclchkhjaa.Pure
open Go.RowKit Go.Proofs.Ytdipinclchkhjaa.P Go.Proofs.YtdipinclchkhjaaW.PrintWords Go.Proofs.YtdipinclchkhjaaW.PrintLast
set_option linter.unusedVariables false
set_option linter.unusedSimpArgs false
theorem FnExactConWithin : laws_FnExactConWithin.Pure := by
  intro k a b k2 a2 b2 hk ha hb hk2 ha2 hb2
  obtain ⟨a, rfl, la⟩ := nat_u64 ha
  obtain ⟨b, rfl, lb⟩ := nat_u64 hb
  obtain ⟨a2, rfl, la2⟩ := nat_u64 ha2
  obtain ⟨b2, rfl, lb2⟩ := nat_u64 hb2
  obtain ⟨r1, h1, i1⟩ := specConWithin_iff k a b k2 a2 b2 la lb la2 lb2
  obtain ⟨r2, h2, i2⟩ := implConWithin_iff k a b k2 a2 b2 la lb la2 lb2
  have e : r2 = r1 := by rw [Bool.eq_iff_iff, i1, i2]
  subst e
  obtain ⟨K, h1⟩ := ev_get h1
  refine ⟨K, ?_⟩
  unfold laws_FnExactConWithin.f
  refine bo (x := (k, (a : Int), (b : Int))) rfl (bo (x := (k2, (a2 : Int), (b2 : Int))) rfl (bo (h1 K (Nat.le_refl _)) (bo (x := (k, (a : Int), (b : Int))) rfl (bo (x := (k2, (a2 : Int), (b2 : Int))) rfl (bo h2 ?_)))))
  rw [if_neg (by simp)]
end Go.Proofs.Ytdipinclchkhjaa.Pure

namespace Go.Proofs.Ytdipinclchkhjaa.fnExactConWithin
open Go.ChangeShapes Go.WideShapes Go.ChangeAt Go.RowKit Go.Proofs.Ytdipinclchkhjaa.P Go.Proofs.YtdipinclchkhjaaW.PrintWords Go.Proofs.YtdipinclchkhjaaW.PrintLast Go.Proofs.YtdipinclchkhjaaW.PrintMore
set_option linter.unusedVariables false
set_option linter.unusedSimpArgs false
theorem own : ownKnob Try.prog.godebug = none := by kernel_rfl
theorem laidOut : laidOutB Try.prog = true := by kernel_rfl
set_option maxRecDepth 100000 in
theorem lifted (os : Os) (started : os.Started) (H : Type) (enc : TypeId × Value → H) :
    ReturnsInHanded {} Try.checked os 3 .any (Rows.fnExactConWithinSpec.pre6 enc Try.prog Try.f3 Rows.fnExactConWithinRow.domain false) (Rows.fnExactConWithinSpec.post enc Try.prog Try.f3 false true false false) := by
  refine returnsInHanded_of_change_sized (C := Try.checked) own started (by kernel_rfl) Try.func3
    (ChangeSpec.witness6 (enc := enc) (C := Try.checked) false ⟨#[], #[.agg #[.int .i64 0, .int .u64 0, .int .u64 0], .agg #[.int .i64 0, .int .u64 0, .int .u64 0]], []⟩ 8 (by kernel_rfl) (by kernel_rfl) (by kernel_rfl) (by kernel_rfl)) ?_
  intro W base args ds gs before hval0 hW hcnd hsz0 _
  have hval : ∀ (j : Nat) t v, Try.f3.params[j]? = some t → args[j]? = some v → Value.okWide Try.prog W .any base t v := hval0
  have hW' := hW
  obtain ⟨p, q, hA0, hV, rfl, hfz, hnd⟩ := hW
  have hA : DataW.TrodAll enc Try.prog W 0 (fun _ => true) true Try.f3.params.toList args.toList ds p := hA0
  rw [Try.params3] at hA hval
  obtain ⟨v0, vs0, d0, ds0, p0, q0, hargs, rfl, rfl, h0, r0⟩ := trodAll_cons hA
  obtain ⟨v1, vs1, d1, ds1, p1, q1, rfl, rfl, rfl, h1, r1⟩ := trodAll_cons r0
  obtain ⟨rfl, rfl, rfl⟩ := trodAll_nil r1
  obtain rfl : args = #[v0, v1] := by cases args; simp_all
  obtain ⟨rfl, rfl⟩ := trodVars_none hV
  have k0 := h0
  have lt0 : ∀ x ∈ p0, x.block < W.heap.size := by obtain ⟨m, hm⟩ := k0; exact DataW.trod_lt m _ _ _ hm
  obtain ⟨fu0, fh0⟩ := h0
  obtain ⟨x0, hK0, ⟨w0_0, w0_1, w0_2⟩⟩ := op24.opens enc W 0 _ true fu0 _ _ fh0
  obtain ⟨cs0, rfl, hsz0, _⟩ : ∃ cs, v0 = .agg cs ∧ cs.size = Try.prog.cellsOf 24 ∧ Row.okWide Try.prog W .any base 24 cs := by
    have z := (hval 0 24 v0 rfl rfl)
    unfold Value.okWide at z
    rw [Try.underlying24] at z
    exact z
  obtain ⟨xs0⟩ := cs0
  have hK0' : k24.K W x0 xs0 := by simpa [Value.cells] using hK0
  obtain ⟨_, _, rfl, rfl, ⟨_, _, rfl, rfl, rfl⟩⟩ := hK0'
  have k1 := h1
  have lt1 : ∀ x ∈ p1, x.block < W.heap.size := by obtain ⟨m, hm⟩ := k1; exact DataW.trod_lt m _ _ _ hm
  obtain ⟨fu1, fh1⟩ := h1
  obtain ⟨x1, hK1, ⟨w1_0, w1_1, w1_2⟩⟩ := op24.opens enc W 0 _ true fu1 _ _ fh1
  obtain ⟨cs1, rfl, hsz1, _⟩ : ∃ cs, v1 = .agg cs ∧ cs.size = Try.prog.cellsOf 24 ∧ Row.okWide Try.prog W .any base 24 cs := by
    have z := (hval 1 24 v1 rfl rfl)
    unfold Value.okWide at z
    rw [Try.underlying24] at z
    exact z
  obtain ⟨xs1⟩ := cs1
  have hK1' : k24.K W x1 xs1 := by simpa [Value.cells] using hK1
  obtain ⟨_, _, rfl, rfl, ⟨_, _, rfl, rfl, rfl⟩⟩ := hK1'
  obtain ⟨k, hk⟩ := Pure.FnExactConWithin _ _ _ _ _ _ w0_0 w0_1 w0_2 w1_0 w1_1 w1_2
  refine (P.laws_FnExactConWithin.calls k x0.f0 x0.f1 x0.f2 x1.f0 x1.f1 x1.f2 true W  hk).mono fun e W' ⟨he, bel0⟩ => ?_
  have bel : Below W.heap.size W W' := bel0
  subst he
  exact ⟨_, rfl, _, _, _, [], _, [], hW', trodAll_mk1 (shut_bool Try.underlying4 _), (trodAll_cons_mk (Below.trod laidOut (by kernel_rfl) (of_decide_eq_true (by kernel_rfl)) k0 bel lt0) (trodAll_cons_mk (Below.trod laidOut (by kernel_rfl) (of_decide_eq_true (by kernel_rfl)) k1 bel lt1) trodAll_mk0)), rfl, bel.frame _, fun h => by cases h⟩
theorem over : Rows.fnExactConWithinRow.holds Try.pinned (OpenSpec.ofChange Rows.fnExactConWithinSpec) :=
  OpenClaim.holds_of_wide 3 Try.f3 rfl rfl rfl rfl rfl rfl rfl ⟨rfl, rfl, rfl, rfl, rfl⟩ rfl rfl rfl rfl rfl (by kernel_rfl) Try.func3 (by kernel_rfl)
    (of_decide_eq_true (by kernel_rfl)) (by unfold Func.isWrapper; first | (rw [if_pos (by decide +kernel)]; kernel_rfl) | (rw [if_neg (by decide +kernel)]; exact ⟨rfl, rfl⟩))
    (fun os started H enc _ => lifted os started H enc)
theorem proved : Rows.FnExactConWithinSaid := over
#print axioms proved
end Go.Proofs.Ytdipinclchkhjaa.fnExactConWithin
namespace Go.Proofs.Ytdipinclchkhjaa
/-- The row, under a short name, for the claim. -/
theorem fnExactConWithin_holds : Rows.FnExactConWithinSaid := fnExactConWithin.proved
end Go.Proofs.Ytdipinclchkhjaa
