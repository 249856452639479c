/- The program's DecodeLog gives what the reference's DecodeLog gives, calls and error, for every byte slice (of slices longer than 2^20 bytes nothing is asked); it writes into no argument and keeps nothing of one; its answer owns its memory. -/
import Derived.Test.YtjpjfkmnfppgkaaDoorGFnExactDecodeLog5
import Derived.Test.YtjpjfkmnfppgkaaDoorGFnExactDecodeLog19
import Derived.Test.YtjpjfkmnfppgkaaDoorGFnExactDecodeLog17
import Derived.Test.YtjpjfkmnfppgkaaDoorGFnExactDecodeLog18
import Derived.Test.YtjpjfkmnfppgkaaDoorRows
import Derived.Test.YtjpjfkmnfppgkaaDoorGFnExactDecodeLog13
import Derived.RowKitTokens
import Derived.LaidLaws
import Derived.LaidHandle
import Derived.ChangeVars
import Derived.JoinedOf
import Derived.Stop.Joined
import Derived.Test.YtjpjfkmnfppgkaaDoorCards
import Derived.Test.YtjpjfkmnfppgkaaDoorTie
import Derived.ChangeSame
import Derived.SevenTiedAt
import Derived.WalkKit
import Derived.ProofKit
import Derived.OpenShut
import Derived.ShutString
import Derived.ChangeOld
import Derived.Below
import Derived.SizedLaws
namespace Go.Proofs.YtjpjfkmnfppgkaaDoor.P
open Go.RowKit Go.Proofs.YtjpjfkmnfppgkaaDoorW.PrintWords Go.Proofs.YtjpjfkmnfppgkaaDoorW.PrintLast Go.Proofs.YtjpjfkmnfppgkaaDoorW.PrintMore
set_option linter.unusedVariables false
/-- THE ONE PURE STATEMENT of laws_FnExactDecodeLog. -/
def laws_FnExactDecodeLog.Pure : Prop := ∀ (l0 : List Int), l0.length ≤ maxLen → (∀ x ∈ l0, wf5 x) → ∃ k, laws_FnExactDecodeLog.f k l0 = some true
end Go.Proofs.YtjpjfkmnfppgkaaDoor.P

namespace Go.Proofs.YtjpjfkmnfppgkaaDoor.Pure
open Go.RowKit Go.Proofs.YtjpjfkmnfppgkaaDoor.P Go.Proofs.YtjpjfkmnfppgkaaDoorW.PrintWords Go.Proofs.YtjpjfkmnfppgkaaDoorW.PrintLast
set_option linter.unusedVariables false
set_option linter.unusedSimpArgs false
theorem FnExactDecodeLog : laws_FnExactDecodeLog.Pure := by
  intro l hlm hw
  by_cases hbig : (l.length : Int) > 1048576
  · exact ⟨0, by unfold laws_FnExactDecodeLog.f; rw [if_pos hbig]⟩
  · have hl : l.length ≤ 1048576 := by omega
    have hb : ∀ x ∈ l, 0 ≤ x ∧ x < 256 := fun x hx => mem_u8 hw x hx
    have hs := specDecodeLog_ev l hl hb
    have hi := implDecodeLog_ev l hl hb
    have hsm := allD_small l
    generalize decR (allD l) = R at hs hi hsm
    have hm : ∀ c ∈ R.1, c.f2.length ≤ 1048576 := fun c hc => Nat.le_trans (hsm.2 c hc) (by decide)
    have hco := costI_le R.1 hsm.2
    have hco2 : costI R.1 ≤ 1048576 := by have := hsm.1; omega
    have hlen : R.1.length ≤ 1048576 := by have := hsm.1; omega
    have hend := endL_is R.1 1
    have hge : ¬ (endL 1 R.1 < 0) := by omega
    obtain ⟨K1, h1⟩ := ev_get (toByteS_ev l (by omega))
    obtain ⟨K2, h2⟩ := ev_get hs
    obtain ⟨K3, h3⟩ := ev_get hi
    obtain ⟨K4, h4⟩ := ev_get (eqByteS_ev l l (by omega) true (by simp))
    obtain ⟨K5, h5⟩ := ev_get (eqCallS_ev R.1 hlen hm)
    obtain ⟨K6, h6⟩ := ev_get (markCallS_ev R.1 hlen hco2)
    obtain ⟨K7, h7⟩ := ev_get (markByteS_ev l 1 (by decide) (by decide) (by omega))
    obtain ⟨K8, h8⟩ := ev_get (heldCallS_ev R.1 hlen hco2)
    refine ⟨K1 + K2 + K3 + K4 + K5 + K6 + K7 + K8, ?_⟩
    have g1 := h1 (K1 + K2 + K3 + K4 + K5 + K6 + K7 + K8) (by omega)
    have g2 := h2 (K1 + K2 + K3 + K4 + K5 + K6 + K7 + K8) (by omega)
    have g3 := h3 (K1 + K2 + K3 + K4 + K5 + K6 + K7 + K8) (by omega)
    have g4 := h4 (K1 + K2 + K3 + K4 + K5 + K6 + K7 + K8) (by omega)
    have g5 := h5 (K1 + K2 + K3 + K4 + K5 + K6 + K7 + K8) (by omega)
    have g6 := h6 (K1 + K2 + K3 + K4 + K5 + K6 + K7 + K8) (by omega)
    have g7 := h7 (K1 + K2 + K3 + K4 + K5 + K6 + K7 + K8) (by omega)
    have g8 := h8 (K1 + K2 + K3 + K4 + K5 + K6 + K7 + K8) (by omega)
    have hkm : ¬ ((1 : Int) + (l.length : Int) < 0) := by omega
    generalize K1 + K2 + K3 + K4 + K5 + K6 + K7 + K8 = K at g1 g2 g3 g4 g5 g6 g7 g8 ⊢
    unfold laws_FnExactDecodeLog.f
    rw [if_neg hbig]
    refine bo g1 (bo g2 (bo g1 (bo g3 (bo g5 ?_))))
    rw [if_pos rfl, if_pos rfl, if_pos rfl]
    refine bo g1 (bo g4 ?_)
    rw [if_pos rfl]
    refine bo g7 ?_
    dsimp only
    rw [if_neg hkm]
    refine bo g5 ?_
    rw [if_pos rfl]
    refine bo g6 (bo g8 ?_)
    dsimp only
    rw [if_pos rfl, if_neg hge]
    refine bo g1 (bo g3 (bo g5 ?_))
    rw [if_pos rfl, if_pos rfl, if_pos rfl]
end Go.Proofs.YtjpjfkmnfppgkaaDoor.Pure

namespace Go.Proofs.YtjpjfkmnfppgkaaDoor.P
open Go.RowKit Go.Proofs.YtjpjfkmnfppgkaaDoorW.PrintWords Go.Proofs.YtjpjfkmnfppgkaaDoorW.PrintLast Go.Proofs.YtjpjfkmnfppgkaaDoorW.PrintMore
set_option linter.unusedVariables false
set_option linter.unusedSimpArgs false

/-! What the row's condition gives: the one cell of errors.errorType (turned from the worked text ToyasProofs.lean). -/
theorem door_et : Tryd.prog.globalNamed "errors.errorType" = some 0 := by kernel_rfl
theorem door_rt : (Tryd.prog.cutTypes.find? (·.1 == "internal/reflectlite.rtype")).map (·.2) = some 100 := by kernel_rfl
theorem door_row : ((List.range Tryd.prog.types.size).filter fun t => Tryd.prog.rowNamed t [101, 114, 114, 111, 114]) = [49] := by kernel_rfl
def doorLaid : List (String × DataW Unit) := [("errors.errorType", Rows.laid_errors_errorType)]
theorem etok_of_laid {W : World} (h : laidMetH Tryd.prog doorLaid W) : ETok W := by
  have h' : laidMet Tryd.prog [] W ∧ handlesMet Tryd.prog doorLaid W := h
  obtain ⟨name, u, ty, e1, e2, e3, e4, e5⟩ := h'.2 _ (List.mem_singleton.2 rfl)
  have en : name = [101, 114, 114, 111, 114] := (Option.some.inj e1).symm
  subst en
  obtain rfl := Option.some.inj (door_rt.symm.trans e2)
  have hm : ty ∈ (List.range Tryd.prog.types.size).filter fun t => Tryd.prog.rowNamed t [101, 114, 114, 111, 114] := List.mem_filter.2 ⟨List.mem_range.2 e3, e4⟩
  rw [door_row] at hm
  obtain rfl := List.mem_singleton.1 hm
  have hh : typeHandle Tryd.prog 49 = .pointer (some ⟨1, 49, none⟩) := by kernel_rfl
  rw [hh] at e5
  have := World.var?_cell door_et e5 0
  unfold ETok
  simpa using this
noncomputable def laidWorld (os : Os) : World :=
  let w0 := World.holding Tryd.prog os ⟨#[], #[], []⟩
  { w0 with heap := w0.heap.modify 0 fun
      | .cells _ t frozen => .cells #[.iface 100 (.agg #[.pointer (some ⟨1, 49, none⟩)])] t frozen
      | o => o }
theorem laidWorld_met (os : Os) (args : Array Value) : laidMetH Tryd.prog doorLaid ((laidWorld os).forCall (fun _ _ => 0) ⟨#[], args, []⟩).memory :=
  laidMetH_of_parts (laidMet_nil _ _) (by kernel_rfl)

end Go.Proofs.YtjpjfkmnfppgkaaDoor.P

namespace Go.Proofs.YtjpjfkmnfppgkaaDoor.fnExactDecodeLog
open Go.ChangeShapes Go.WideShapes Go.ChangeAt Go.RowKit Go.Proofs.YtjpjfkmnfppgkaaDoor.P Go.Proofs.YtjpjfkmnfppgkaaDoorW.PrintWords Go.Proofs.YtjpjfkmnfppgkaaDoorW.PrintLast Go.Proofs.YtjpjfkmnfppgkaaDoorW.PrintMore
set_option linter.unusedVariables false
set_option linter.unusedSimpArgs false
theorem own : ownKnob Tryd.prog.godebug = none := by kernel_rfl
theorem laidOut : laidOutB Tryd.prog = true := by kernel_rfl
set_option maxRecDepth 100000 in
theorem lifted (os : Os) (started : os.Started) (H : Type) (enc : TypeId × Value → H) :
    ReturnsInHanded {} Tryd.checked os 4 .any (fun w args => (Rows.fnExactDecodeLogSpec.pre enc Tryd.prog Tryd.f4 [] false w args ∧ laidMetH Tryd.prog doorLaid w) ∧ sizedMet enc Tryd.prog Tryd.f4 (OpenSpec.ofChange Rows.fnExactDecodeLogSpec) false w args) (Rows.fnExactDecodeLogSpec.post enc Tryd.prog Tryd.f4 false true false false) := by
  refine returnsInHanded_of_change_and (C := Tryd.checked) (X := fun w _ => laidMetH Tryd.prog doorLaid w) (fun _ _ _ hh h => h.of_heap hh) own started (by kernel_rfl) Tryd.func4
    (ChangeSpec.witness_at (enc := enc) (C := Tryd.checked) (os := os) (X := fun w _ => laidMetH Tryd.prog doorLaid w) false (laidWorld os) #[.slice none 0 0] 8 rfl (by kernel_rfl) (by kernel_rfl) (by kernel_rfl) (by kernel_rfl) (by kernel_rfl) (laidWorld_met os _)) ?_
  intro W base args ds gs before hval0 hW _ hsz0 hL _
  have hval : ∀ (j : Nat) t v, Tryd.f4.params[j]? = some t → args[j]? = some v → Value.okWide Tryd.prog W .any base t v := hval0
  have hW' := hW
  obtain ⟨p, q, hA0, hV, rfl, hfz, hnd⟩ := hW
  have hA : DataW.TrodAll enc Tryd.prog W 0 (fun _ => true) true Tryd.f4.params.toList args.toList ds p := hA0
  rw [Tryd.params4] at hA hval
  obtain ⟨v0, vs0, d0, ds0, p0, q0, hargs, rfl, rfl, h0, r0⟩ := trodAll_cons hA
  obtain ⟨rfl, rfl, rfl⟩ := trodAll_nil r0
  obtain rfl : args = #[v0] := by cases args; simp_all
  obtain ⟨rfl, rfl⟩ := trodVars_none hV
  have k0 := h0
  have lt0 : ∀ x ∈ p0, x.block < W.heap.size := by obtain ⟨m, hm⟩ := k0; exact DataW.trod_lt m _ _ _ hm
  obtain ⟨b0, len0, cap0, rfl⟩ := okWide_slice Tryd.underlying22 (hval 0 22 v0 rfl rfl)
  obtain ⟨fu0, fh0⟩ := h0
  obtain ⟨l0, ⟨A0, c0, e0, hc0, hr0⟩, hm0, hw0⟩ := op22.opens enc W 0 _ true fu0 _ _ fh0
  simp only [Value.cells, List.cons.injEq, Value.slice.injEq, and_true] at e0
  obtain ⟨rfl, rfl, rfl⟩ := e0
  obtain ⟨k, hk⟩ := Pure.FnExactDecodeLog _ hm0 hw0
  refine (P.laws_FnExactDecodeLog.calls k _ _ l0 true W hr0 hc0 (etok_of_laid hL) hk).mono fun e W' ⟨he, bel0⟩ => ?_
  have bel : Below W.heap.size W W' := bel0
  subst he
  exact ⟨_, rfl, _, _, _, [], _, [], hW', trodAll_mk1 (shut_bool Tryd.underlying4 _), (trodAll_cons_mk (Below.trod laidOut (by kernel_rfl) (of_decide_eq_true (by kernel_rfl)) k0 bel lt0) trodAll_mk0), rfl, bel.frame _, fun h => by cases h⟩
theorem over : Rows.fnExactDecodeLogRow.holds Tryd.pinned (OpenSpec.ofChange Rows.fnExactDecodeLogSpec) :=
  OpenClaim.holds_of_wide 4 Tryd.f4 rfl rfl rfl rfl rfl rfl rfl ⟨rfl, rfl, rfl, rfl, rfl⟩ rfl rfl rfl rfl rfl (by kernel_rfl) Tryd.func4 (by kernel_rfl)
    (of_decide_eq_true (by kernel_rfl)) (by unfold Func.isWrapper; first | (rw [if_pos (by decide +kernel)]; kernel_rfl) | (rw [if_neg (by decide +kernel)]; exact ⟨rfl, rfl⟩))
    (fun os started H enc _ => lifted os started H enc)
theorem card : Rows.FnExactDecodeLogCardSaid :=
  Claim7.holds_tied_plain_at .later [] [.handle] true (true, "26b3ea7e2afd954e0d2ef23616cfb86a06cafc6b8e67b3c201070e6ed06ff9ba") true
    over (fun _ h => by cases h) (by kernel_rfl) (fun _ h => by cases h) fnExactDecodeLog_row_tie rfl ⟨rfl, rfl⟩ (by kernel_rfl) rfl
    (fun f fn hf hfn => by
      obtain rfl : f = 4 := Option.some.inj ((show Tryd.prog.funcNamed "loop.example/s0039/laws.FnExactDecodeLog" = some 4 by kernel_rfl).symm.trans hf) |>.symm
      obtain rfl : fn = Tryd.f4 := (Option.some.inj (Tryd.func4.symm.trans hfn)).symm
      exact ⟨by kernel_rfl, fun j t ht => by
        rw [Tryd.params4] at ht
        first
          | (rcases j with _ | j
             · obtain rfl : _ = t := by simpa using ht
               kernel_rfl
             · simp at ht)
          | (rcases j with _ | _ | j
             · obtain rfl : _ = t := by simpa using ht
               kernel_rfl
             · obtain rfl : _ = t := by simpa using ht
               kernel_rfl
             · simp at ht)⟩)
    (by kernel_rfl)
theorem proved : Rows.FnExactDecodeLogCardSaid := card
#print axioms proved
end Go.Proofs.YtjpjfkmnfppgkaaDoor.fnExactDecodeLog
namespace Go.Proofs.YtjpjfkmnfppgkaaDoor
/-- The row, under a short name, for the claim. -/
theorem fnExactDecodeLog_holds : Rows.FnExactDecodeLogCardSaid := fnExactDecodeLog.proved
end Go.Proofs.YtjpjfkmnfppgkaaDoor
