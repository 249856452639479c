/- The program's EncodeLog gives what the reference's EncodeLog gives, for every list of calls (of lists with more than 2^20 calls and arguments in all nothing is asked); it writes into no argument and keeps nothing of one; its answer owns its memory. -/
import Derived.Test.YtdipinclchkhjaaGFnExactEncodeLog2
import Derived.Test.YtdipinclchkhjaaGFnExactEncodeLog22
import Derived.Test.YtdipinclchkhjaaGFnExactEncodeLog12
import Derived.Test.YtdipinclchkhjaaGFnExactEncodeLog20
import Derived.Test.YtdipinclchkhjaaGFnExactEncodeLog21
import Derived.Test.YtdipinclchkhjaaRows
import Derived.WalkKit
import Derived.ProofKit
import Derived.OpenShut
import Derived.ShutString
import Derived.ChangeOld
import Derived.Below
import Derived.SizedLaws
namespace Go.Proofs.Ytdipinclchkhjaa.P
open Go.RowKit Go.Proofs.YtdipinclchkhjaaW.PrintWords Go.Proofs.YtdipinclchkhjaaW.PrintLast Go.Proofs.YtdipinclchkhjaaW.PrintMore
set_option linter.unusedVariables false
/-- THE ONE PURE STATEMENT of laws_FnExactEncodeLog. -/
def laws_FnExactEncodeLog.Pure : Prop := ∀ (l0 : List (S82)), l0.length ≤ maxLen → (∀ x ∈ l0, wf82 x) → ∃ k, laws_FnExactEncodeLog.f k l0 = some true
end Go.Proofs.Ytdipinclchkhjaa.P

namespace Go.Proofs.Ytdipinclchkhjaa.Pure
open Go.RowKit Go.Proofs.Ytdipinclchkhjaa.P Go.Proofs.YtdipinclchkhjaaW.PrintWords Go.Proofs.YtdipinclchkhjaaW.PrintLast
set_option linter.unusedVariables false
set_option linter.unusedSimpArgs false
open Classical in
theorem FnExactEncodeLog : laws_FnExactEncodeLog.Pure := by
  intro l hl hw
  have hm : ∀ c ∈ l, c.f2.length ≤ maxLen := fun c hc => (hw c hc).2.2.1
  have hsz := szCallS_ev l hl hm
  obtain ⟨K0, h0⟩ := ev_get hsz
  by_cases hbig : l.length + costL l ≤ 1048576
  · rw [if_pos hbig] at h0
    have hm2 : ∀ c ∈ l, c.f2.length ≤ 1048576 := fun c hc => by have := costL_mem l c hc; omega
    have hcs : ∀ c ∈ l.map callOf, okC c := by
      intro c hc
      obtain ⟨x, hx, rfl⟩ := List.mem_map.1 hc
      obtain ⟨g0, g1, g2, g3⟩ := hw x hx
      exact ⟨wf_u32 g0, wf_u32 g1, fun y hy => wf_u64 (g3 y hy), hm2 x hx⟩
    have hlen : (l.map callOf).length = l.length := List.length_map ..
    have hmI : ∀ c ∈ l.map callOf, c.f2.length ≤ 1048576 := fun c hc => (hcs c hc).2.2.2
    obtain ⟨B, hB1, hB2, hBl⟩ : ∃ B : List Int, Ev (fun k => spec_EncodeLog.f k (l.map callOf)) B ∧ Ev (fun k => impl_EncodeLog.f k (l.map callOf)) B ∧ B.length ≤ 900000 := by
      refine ⟨_, specEncodeLog_ev (l.map callOf) (by omega) hcs, implEncodeLog_ev (l.map callOf) (by omega) hcs, ?_⟩
      by_cases ho : okCs (l.map callOf)
      · rw [if_pos ho]
        have := frames_length (l.map callOf) ho.2
        have := ho.1
        have := le_length ((l.map callOf).length : Int) 2
        unfold logB
        simp only [List.length_append, List.length_cons, List.length_nil]
        omega
      · rw [if_neg ho]; simp
    obtain ⟨K1, h1⟩ := ev_get (toCallS_ev l (by omega) hm2)
    obtain ⟨K2, h2⟩ := ev_get hB1
    obtain ⟨K3, h3⟩ := ev_get hB2
    obtain ⟨K4, h4⟩ := ev_get (eqByteS_ev B B (by omega) true (by simp))
    obtain ⟨K5, h5⟩ := ev_get (eqCallS_ev (l.map callOf) (by omega) hmI)
    obtain ⟨⟨km, xm⟩, hmk, hk0⟩ := markCallS_t (l.map callOf) (by omega) (by rw [costL_map]; omega)
    obtain ⟨K6, h6⟩ := ev_get hmk
    obtain ⟨K7, h7⟩ := ev_get (markByteS_ev B 1 (by decide) (by decide) (by omega))
    obtain ⟨K8, h8⟩ := ev_get (heldByteS_ev B.length 1 (by decide) (by decide) (by omega))
    refine ⟨K0 + K1 + K2 + K3 + K4 + K5 + K6 + K7 + K8, ?_⟩
    generalize hK : K0 + K1 + K2 + K3 + K4 + K5 + K6 + K7 + K8 = K
    unfold laws_FnExactEncodeLog.f
    refine bo (h0 K (by omega)) ?_
    rw [if_neg (by omega)]
    refine bo (h1 K (by omega)) (bo (h2 K (by omega)) (bo (h1 K (by omega)) (bo (h3 K (by omega)) (bo (h4 K (by omega)) ?_))))
    rw [if_pos rfl]
    refine bo (h1 K (by omega)) (bo (h5 K (by omega)) ?_)
    rw [if_pos rfl]
    refine bo (h6 K (by omega)) ?_
    dsimp only at hk0 ⊢
    rw [if_neg (by omega)]
    refine bo (h7 K (by omega)) (bo (h8 K (by omega)) ?_)
    rw [if_neg (by omega), if_pos rfl]
    refine bo (h1 K (by omega)) (bo (h3 K (by omega)) (bo (h4 K (by omega)) ?_))
    rw [if_pos rfl]
  · rw [if_neg hbig] at h0
    refine ⟨K0, ?_⟩
    unfold laws_FnExactEncodeLog.f
    refine bo (h0 K0 (by omega)) ?_
    rw [if_pos (by decide)]
end Go.Proofs.Ytdipinclchkhjaa.Pure

namespace Go.Proofs.Ytdipinclchkhjaa.fnExactEncodeLog
open Go.ChangeShapes Go.WideShapes Go.ChangeAt Go.RowKit Go.Proofs.Ytdipinclchkhjaa.P Go.Proofs.YtdipinclchkhjaaW.PrintWords Go.Proofs.YtdipinclchkhjaaW.PrintLast Go.Proofs.YtdipinclchkhjaaW.PrintMore
set_option linter.unusedVariables false
set_option linter.unusedSimpArgs false
theorem own : ownKnob Try.prog.godebug = none := by kernel_rfl
theorem laidOut : laidOutB Try.prog = true := by kernel_rfl
set_option maxRecDepth 100000 in
theorem lifted (os : Os) (started : os.Started) (H : Type) (enc : TypeId × Value → H) :
    ReturnsInHanded {} Try.checked os 6 .any (Rows.fnExactEncodeLogSpec.pre6 enc Try.prog Try.f6 Rows.fnExactEncodeLogRow.domain false) (Rows.fnExactEncodeLogSpec.post enc Try.prog Try.f6 false true false false) := by
  refine returnsInHanded_of_change_sized (C := Try.checked) own started (by kernel_rfl) Try.func6
    (ChangeSpec.witness6 (enc := enc) (C := Try.checked) false ⟨#[], #[.slice none 0 0], []⟩ 8 (by kernel_rfl) (by kernel_rfl) (by kernel_rfl) (by kernel_rfl)) ?_
  intro W base args ds gs before hval0 hW hcnd hsz0 _
  have hval : ∀ (j : Nat) t v, Try.f6.params[j]? = some t → args[j]? = some v → Value.okWide Try.prog W .any base t v := hval0
  have hW' := hW
  obtain ⟨p, q, hA0, hV, rfl, hfz, hnd⟩ := hW
  have hA : DataW.TrodAll enc Try.prog W 0 (fun _ => true) true Try.f6.params.toList args.toList ds p := hA0
  rw [Try.params6] at hA hval
  obtain ⟨v0, vs0, d0, ds0, p0, q0, hargs, rfl, rfl, h0, r0⟩ := trodAll_cons hA
  obtain ⟨rfl, rfl, rfl⟩ := trodAll_nil r0
  obtain rfl : args = #[v0] := by cases args; simp_all
  obtain ⟨rfl, rfl⟩ := trodVars_none hV
  have k0 := h0
  have lt0 : ∀ x ∈ p0, x.block < W.heap.size := by obtain ⟨m, hm⟩ := k0; exact DataW.trod_lt m _ _ _ hm
  obtain ⟨b0, len0, cap0, rfl⟩ := okWide_slice Try.underlying42 (hval 0 42 v0 rfl rfl)
  obtain ⟨fu0, fh0⟩ := h0
  obtain ⟨l0, ⟨A0, c0, e0, hc0, hr0⟩, hm0, hw0⟩ := op42.opens enc W 0 _ true fu0 _ _ fh0
  simp only [Value.cells, List.cons.injEq, Value.slice.injEq, and_true] at e0
  obtain ⟨rfl, rfl, rfl⟩ := e0
  obtain ⟨k, hk⟩ := Pure.FnExactEncodeLog _ hm0 hw0
  refine (P.laws_FnExactEncodeLog.calls k _ _ l0 true W hr0 hc0 hk).mono fun e W' ⟨he, bel0⟩ => ?_
  have bel : Below W.heap.size W W' := bel0
  subst he
  exact ⟨_, rfl, _, _, _, [], _, [], hW', trodAll_mk1 (shut_bool Try.underlying4 _), (trodAll_cons_mk (Below.trod laidOut (by kernel_rfl) (of_decide_eq_true (by kernel_rfl)) k0 bel lt0) trodAll_mk0), rfl, bel.frame _, fun h => by cases h⟩
theorem over : Rows.fnExactEncodeLogRow.holds Try.pinned (OpenSpec.ofChange Rows.fnExactEncodeLogSpec) :=
  OpenClaim.holds_of_wide 6 Try.f6 rfl rfl rfl rfl rfl rfl rfl ⟨rfl, rfl, rfl, rfl, rfl⟩ rfl rfl rfl rfl rfl (by kernel_rfl) Try.func6 (by kernel_rfl)
    (of_decide_eq_true (by kernel_rfl)) (by unfold Func.isWrapper; first | (rw [if_pos (by decide +kernel)]; kernel_rfl) | (rw [if_neg (by decide +kernel)]; exact ⟨rfl, rfl⟩))
    (fun os started H enc _ => lifted os started H enc)
theorem proved : Rows.FnExactEncodeLogSaid := over
#print axioms proved
end Go.Proofs.Ytdipinclchkhjaa.fnExactEncodeLog
namespace Go.Proofs.Ytdipinclchkhjaa
/-- The row, under a short name, for the claim. -/
theorem fnExactEncodeLog_holds : Rows.FnExactEncodeLogSaid := fnExactEncodeLog.proved
end Go.Proofs.Ytdipinclchkhjaa
