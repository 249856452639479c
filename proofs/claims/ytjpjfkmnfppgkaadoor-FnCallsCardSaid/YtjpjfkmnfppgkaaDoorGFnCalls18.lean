/- For every byte slice: the drawn calls, at most 1000 and each with six arguments, encoded, decode to the same calls with code 0 and offset 0; without the last byte the answer is no calls, CodeShort and the offset where the bytes end (of slices longer than 2^20 bytes, and of other drawn calls, nothing is asked). -/
import Derived.Test.YtjpjfkmnfppgkaaDoorGFnCalls5
import Derived.Test.YtjpjfkmnfppgkaaDoorGFnCalls17
import Derived.Test.YtjpjfkmnfppgkaaDoorGFnCalls11
import Derived.Test.YtjpjfkmnfppgkaaDoorGFnCalls15
import Derived.Test.YtjpjfkmnfppgkaaDoorGFnCalls16
import Derived.Test.YtjpjfkmnfppgkaaDoorGFnCalls14
import Derived.Test.YtjpjfkmnfppgkaaDoorRows
import Derived.RowKitTokens
import Derived.LaidLaws
import Derived.LaidHandle
import Derived.ChangeVars
import Derived.JoinedOf
import Derived.Stop.Joined
import Derived.Test.YtjpjfkmnfppgkaaDoorCards
import Derived.Test.YtjpjfkmnfppgkaaDoorTie
import Derived.ChangeSame
import Derived.SevenTiedAt
import Derived.WalkKit
import Derived.ProofKit
import Derived.OpenShut
import Derived.ShutString
import Derived.ChangeOld
import Derived.Below
import Derived.SizedLaws
namespace Go.Proofs.YtjpjfkmnfppgkaaDoor.P
open Go.RowKit Go.Proofs.YtjpjfkmnfppgkaaDoorW.PrintWords Go.Proofs.YtjpjfkmnfppgkaaDoorW.PrintLast Go.Proofs.YtjpjfkmnfppgkaaDoorW.PrintMore
set_option linter.unusedVariables false
/-- THE ONE PURE STATEMENT of laws_FnCalls. -/
def laws_FnCalls.Pure : Prop := ∀ (l0 : List Int), l0.length ≤ maxLen → (∀ x ∈ l0, wf5 x) → ∃ k, laws_FnCalls.f k l0 = some true
end Go.Proofs.YtjpjfkmnfppgkaaDoor.P

namespace Go.Proofs.YtjpjfkmnfppgkaaDoor.Pure
open Go.RowKit Go.Proofs.YtjpjfkmnfppgkaaDoor.P Go.Proofs.YtjpjfkmnfppgkaaDoorW.PrintWords Go.Proofs.YtjpjfkmnfppgkaaDoorW.PrintLast
set_option linter.unusedVariables false
set_option linter.unusedSimpArgs false
theorem sameArgs_ev (l : List Int) (hl : l.length ≤ 1048576) : Ev (fun k => laws_sameArgs.f k l l) true := by
  have key := ev_loop (fun k (s : Unit) i => laws_sameArgs.l0 k l l i) l.length (fun _ => ()) () () rfl rfl (fun i hi r hr => by
    refine ev_step (fun k => laws_sameArgs.l0 k l l ((i + 1 : Nat) : Int)) (fun k => ?_) hr
    simp only [laws_sameArgs.l0]
    rw [if_pos (by omega), if_pos (by omega), if_pos (by omega), if_true, wrap64_id (by omega) (by omega)]
    rfl) true (ev_end fun k => by simp only [laws_sameArgs.l0]; rw [if_neg (by omega)])
  refine Ev.congr (fun k => ?_) key
  unfold laws_sameArgs.f
  rw [if_pos rfl]
theorem sameCalls_ev (a : List S28) (hl : a.length ≤ 1048576) (hm : ∀ c ∈ a, c.f2.length ≤ 1048576) : Ev (fun k => laws_sameCalls.f k a a) true := by
  have key := ev_loop (fun k (s : Unit) i => laws_sameCalls.l0 k a a i) a.length (fun _ => ()) () () rfl rfl (fun i hi r hr => by
    have hml := hm _ (List.getElem_mem hi)
    refine ev_step (fun k => (laws_sameArgs.f k a[i].f2 a[i].f2).bind fun t => if t = true then laws_sameCalls.l0 k a a ((i + 1 : Nat) : Int) else some false) (fun k => ?_) (Ev.bind (sameArgs_ev a[i].f2 hml) (Ev.congr (fun k => ?_) hr))
    · simp only [laws_sameCalls.l0]
      rw [if_pos (by omega), if_pos (by omega), if_pos (by omega), if_true, if_true, rdCall_eq a i hi, wrap64_id (by omega) (by omega)]
      rfl
    · rw [if_pos rfl]) true (ev_end fun k => by simp only [laws_sameCalls.l0]; rw [if_neg (by omega)])
  refine Ev.congr (fun k => ?_) key
  unfold laws_sameCalls.f
  rw [if_pos rfl]
theorem callsEnd_ev (l : List Int) (cs : List S28) (hd : Ev (fun k => spec_DrawEncodeLog.f k l) cs) (hl : cs.length ≤ 1000) (h6 : ∀ c ∈ cs, ok6 c) : Ev (fun k => laws_FnCalls.l0 k l cs (cs.length : Int)) true := by
  have hb := logB_len cs h6
  have hbl := logB_bl cs h6
  have hE := implEncodeLog_ev cs (by omega) (fun c hc => (h6 c hc).1)
  rw [if_pos (show okCs cs from ⟨hl, fun c hc => (h6 c hc).2⟩)] at hE
  have hD := implDecodeLog_ev (logB cs) (by omega) hbl
  rw [allD_logB cs hl h6] at hD
  replace hD : Ev (fun k => impl_DecodeLog.f k (logB cs)) (cs, 0, 0) := hD
  have hS := implDecodeLog_ev (logB cs).dropLast (by rw [List.length_dropLast]; omega) (fun x hx => hbl x (List.dropLast_subset _ hx))
  rw [allD_short cs hl h6] at hS
  replace hS : Ev (fun k => impl_DecodeLog.f k (logB cs).dropLast) ([], 5, ((logB cs).length : Int) - 1) := hS
  have hC := sameCalls_ev cs (by omega) (fun c hc => by rw [(h6 c hc).2]; decide)
  have hw : wrap64 (((logB cs).length : Int) - 1) = ((logB cs).length : Int) - 1 := wrap64_id (by omega) (by omega)
  have ht : (logB cs).take ((((logB cs).length : Int) - 1) : Int).toNat = (logB cs).dropLast := by
    rw [List.dropLast_eq_take]
    congr 1
    omega
  refine ev_step (fun k => (spec_DrawEncodeLog.f k l).bind fun t261 => (impl_EncodeLog.f k t261).bind fun t264 => (impl_DecodeLog.f k t264).bind fun bt267 => (if bt267.2.1 = 0 then (if bt267.2.2 = 0 then ((laws_sameCalls.f k bt267.1 cs).bind fun t272 => (if t272 = true then (if (t264.length : Int) < 7 then (some false) else (if 0 ≤ (wrap64 ((t264.length : Int) - 1)) then (if (wrap64 ((t264.length : Int) - 1)) ≤ (t264.length : Int) then ((impl_DecodeLog.f k (t264.take ((wrap64 ((t264.length : Int) - 1)) : Int).toNat)).bind fun bt277 => (if bt277.2.1 = 5 then (if bt277.2.2 = (wrap64 ((t264.length : Int) - 1)) then (some ((bt277.1.length : Int) == 0)) else (some false)) else (some false))) else (none)) else (none))) else (some false))) else (some false)) else (some false))) (fun k => ?_) ?_
  · simp only [laws_FnCalls.l0]
    rw [if_neg (by omega)]
  · obtain ⟨K1, h1⟩ := ev_get hd
    obtain ⟨K2, h2⟩ := ev_get hE
    obtain ⟨K3, h3⟩ := ev_get hD
    obtain ⟨K4, h4⟩ := ev_get hS
    obtain ⟨K5, h5⟩ := ev_get hC
    refine ev_mk (K1 + K2 + K3 + K4 + K5) fun k hk => ?_
    refine bo (h1 k (by omega)) (bo (h2 k (by omega)) (bo (h3 k (by omega)) ?_))
    dsimp only
    rw [if_pos rfl, if_pos rfl]
    refine bo (h5 k (by omega)) ?_
    rw [if_pos rfl, if_neg (by omega), hw, if_pos (by omega), if_pos (by omega), ht]
    refine bo (h4 k (by omega)) ?_
    dsimp only
    rw [if_pos rfl, if_pos rfl]
    rfl
theorem FnCalls : laws_FnCalls.Pure := by
  intro l hlm hw
  by_cases hbig : (l.length : Int) > 1048576
  · exact ⟨0, by unfold laws_FnCalls.f; rw [if_pos hbig]⟩
  · obtain ⟨cs, hd, hok⟩ := drawEnc_t l hw
    have hall : Ev (fun k => laws_FnCalls.f k l) true := by
      refine Ev.congr (fun k => by unfold laws_FnCalls.f; rw [if_neg hbig]) (Ev.bind hd ?_)
      by_cases h1000 : (cs.length : Int) > 1000
      · exact ev_is fun k => by rw [if_pos h1000]
      · refine Ev.congr (fun k => by rw [if_neg h1000]) ?_
        have key : ∀ d x : Nat, x + d = cs.length → (∀ i (h : i < cs.length), i < x → cs[i].f2.length = 6) → Ev (fun k => laws_FnCalls.l0 k l cs (x : Int)) true := by
          intro d
          induction d with
          | zero =>
            intro x hx h6
            have e : x = cs.length := by omega
            subst e
            refine callsEnd_ev l cs hd (by omega) (fun c hc => ?_)
            obtain ⟨i, hi, rfl⟩ := List.getElem_of_mem hc
            exact ⟨hok _ (List.getElem_mem hi), h6 i hi hi⟩
          | succ d ih =>
            intro x hx h6
            have hxl : x < cs.length := by omega
            by_cases g : (cs[x].f2.length : Int) = 6
            · refine ev_step (fun k => laws_FnCalls.l0 k l cs ((x + 1 : Nat) : Int)) (fun k => ?_) (ih (x + 1) (by omega) (fun i hi hlt => ?_))
              · simp only [laws_FnCalls.l0]
                rw [if_pos (by omega), if_pos (by omega), rdCall_eq cs x hxl, if_pos g, wrap64_id (by omega) (by omega)]
                rfl
              · rcases Nat.lt_or_ge i x with h | h
                · exact h6 i hi h
                · have e : i = x := by omega
                  subst e
                  omega
            · exact ev_end fun k => by
                simp only [laws_FnCalls.l0]
                rw [if_pos (by omega), if_pos (by omega), rdCall_eq cs x hxl, if_neg g]
        exact key cs.length 0 (by omega) (fun i hi h => absurd h (by omega))
    obtain ⟨K, h⟩ := ev_get hall
    exact ⟨K, h K (Nat.le_refl _)⟩
end Go.Proofs.YtjpjfkmnfppgkaaDoor.Pure

namespace Go.Proofs.YtjpjfkmnfppgkaaDoor.P
open Go.RowKit Go.Proofs.YtjpjfkmnfppgkaaDoorW.PrintWords Go.Proofs.YtjpjfkmnfppgkaaDoorW.PrintLast Go.Proofs.YtjpjfkmnfppgkaaDoorW.PrintMore
set_option linter.unusedVariables false
set_option linter.unusedSimpArgs false

/-! What the row's condition gives: the one cell of errors.errorType (turned from the worked text ToyasProofs.lean). -/
theorem door_et : Tryd.prog.globalNamed "errors.errorType" = some 0 := by kernel_rfl
theorem door_rt : (Tryd.prog.cutTypes.find? (·.1 == "internal/reflectlite.rtype")).map (·.2) = some 100 := by kernel_rfl
theorem door_row : ((List.range Tryd.prog.types.size).filter fun t => Tryd.prog.rowNamed t [101, 114, 114, 111, 114]) = [49] := by kernel_rfl
def doorLaid : List (String × DataW Unit) := [("errors.errorType", Rows.laid_errors_errorType)]
theorem etok_of_laid {W : World} (h : laidMetH Tryd.prog doorLaid W) : ETok W := by
  have h' : laidMet Tryd.prog [] W ∧ handlesMet Tryd.prog doorLaid W := h
  obtain ⟨name, u, ty, e1, e2, e3, e4, e5⟩ := h'.2 _ (List.mem_singleton.2 rfl)
  have en : name = [101, 114, 114, 111, 114] := (Option.some.inj e1).symm
  subst en
  obtain rfl := Option.some.inj (door_rt.symm.trans e2)
  have hm : ty ∈ (List.range Tryd.prog.types.size).filter fun t => Tryd.prog.rowNamed t [101, 114, 114, 111, 114] := List.mem_filter.2 ⟨List.mem_range.2 e3, e4⟩
  rw [door_row] at hm
  obtain rfl := List.mem_singleton.1 hm
  have hh : typeHandle Tryd.prog 49 = .pointer (some ⟨1, 49, none⟩) := by kernel_rfl
  rw [hh] at e5
  have := World.var?_cell door_et e5 0
  unfold ETok
  simpa using this
noncomputable def laidWorld (os : Os) : World :=
  let w0 := World.holding Tryd.prog os ⟨#[], #[], []⟩
  { w0 with heap := w0.heap.modify 0 fun
      | .cells _ t frozen => .cells #[.iface 100 (.agg #[.pointer (some ⟨1, 49, none⟩)])] t frozen
      | o => o }
theorem laidWorld_met (os : Os) (args : Array Value) : laidMetH Tryd.prog doorLaid ((laidWorld os).forCall (fun _ _ => 0) ⟨#[], args, []⟩).memory :=
  laidMetH_of_parts (laidMet_nil _ _) (by kernel_rfl)

end Go.Proofs.YtjpjfkmnfppgkaaDoor.P

namespace Go.Proofs.YtjpjfkmnfppgkaaDoor.fnCalls
open Go.ChangeShapes Go.WideShapes Go.ChangeAt Go.RowKit Go.Proofs.YtjpjfkmnfppgkaaDoor.P Go.Proofs.YtjpjfkmnfppgkaaDoorW.PrintWords Go.Proofs.YtjpjfkmnfppgkaaDoorW.PrintLast Go.Proofs.YtjpjfkmnfppgkaaDoorW.PrintMore
set_option linter.unusedVariables false
set_option linter.unusedSimpArgs false
theorem own : ownKnob Tryd.prog.godebug = none := by kernel_rfl
theorem laidOut : laidOutB Tryd.prog = true := by kernel_rfl
set_option maxRecDepth 100000 in
theorem lifted (os : Os) (started : os.Started) (H : Type) (enc : TypeId × Value → H) :
    ReturnsInHanded {} Tryd.checked os 3 .any (fun w args => (Rows.fnCallsSpec.pre enc Tryd.prog Tryd.f3 [] false w args ∧ laidMetH Tryd.prog doorLaid w) ∧ sizedMet enc Tryd.prog Tryd.f3 (OpenSpec.ofChange Rows.fnCallsSpec) false w args) (Rows.fnCallsSpec.post enc Tryd.prog Tryd.f3 false true false false) := by
  refine returnsInHanded_of_change_and (C := Tryd.checked) (X := fun w _ => laidMetH Tryd.prog doorLaid w) (fun _ _ _ hh h => h.of_heap hh) own started (by kernel_rfl) Tryd.func3
    (ChangeSpec.witness_at (enc := enc) (C := Tryd.checked) (os := os) (X := fun w _ => laidMetH Tryd.prog doorLaid w) false (laidWorld os) #[.slice none 0 0] 8 rfl (by kernel_rfl) (by kernel_rfl) (by kernel_rfl) (by kernel_rfl) (by kernel_rfl) (laidWorld_met os _)) ?_
  intro W base args ds gs before hval0 hW _ hsz0 hL _
  have hval : ∀ (j : Nat) t v, Tryd.f3.params[j]? = some t → args[j]? = some v → Value.okWide Tryd.prog W .any base t v := hval0
  have hW' := hW
  obtain ⟨p, q, hA0, hV, rfl, hfz, hnd⟩ := hW
  have hA : DataW.TrodAll enc Tryd.prog W 0 (fun _ => true) true Tryd.f3.params.toList args.toList ds p := hA0
  rw [Tryd.params3] at hA hval
  obtain ⟨v0, vs0, d0, ds0, p0, q0, hargs, rfl, rfl, h0, r0⟩ := trodAll_cons hA
  obtain ⟨rfl, rfl, rfl⟩ := trodAll_nil r0
  obtain rfl : args = #[v0] := by cases args; simp_all
  obtain ⟨rfl, rfl⟩ := trodVars_none hV
  have k0 := h0
  have lt0 : ∀ x ∈ p0, x.block < W.heap.size := by obtain ⟨m, hm⟩ := k0; exact DataW.trod_lt m _ _ _ hm
  obtain ⟨b0, len0, cap0, rfl⟩ := okWide_slice Tryd.underlying22 (hval 0 22 v0 rfl rfl)
  obtain ⟨fu0, fh0⟩ := h0
  obtain ⟨l0, ⟨A0, c0, e0, hc0, hr0⟩, hm0, hw0⟩ := op22.opens enc W 0 _ true fu0 _ _ fh0
  simp only [Value.cells, List.cons.injEq, Value.slice.injEq, and_true] at e0
  obtain ⟨rfl, rfl, rfl⟩ := e0
  obtain ⟨k, hk⟩ := Pure.FnCalls _ hm0 hw0
  refine (P.laws_FnCalls.calls k _ _ l0 true W hr0 hc0 (etok_of_laid hL) hk).mono fun e W' ⟨he, bel0⟩ => ?_
  have bel : Below W.heap.size W W' := bel0
  subst he
  exact ⟨_, rfl, _, _, _, [], _, [], hW', trodAll_mk1 (shut_bool Tryd.underlying4 _), (trodAll_cons_mk (Below.trod laidOut (by kernel_rfl) (of_decide_eq_true (by kernel_rfl)) k0 bel lt0) trodAll_mk0), rfl, bel.frame _, fun h => by cases h⟩
theorem over : Rows.fnCallsRow.holds Tryd.pinned (OpenSpec.ofChange Rows.fnCallsSpec) :=
  OpenClaim.holds_of_wide 3 Tryd.f3 rfl rfl rfl rfl rfl rfl rfl ⟨rfl, rfl, rfl, rfl, rfl⟩ rfl rfl rfl rfl rfl (by kernel_rfl) Tryd.func3 (by kernel_rfl)
    (of_decide_eq_true (by kernel_rfl)) (by unfold Func.isWrapper; first | (rw [if_pos (by decide +kernel)]; kernel_rfl) | (rw [if_neg (by decide +kernel)]; exact ⟨rfl, rfl⟩))
    (fun os started H enc _ => lifted os started H enc)
theorem card : Rows.FnCallsCardSaid :=
  Claim7.holds_tied_plain_at .later [] [.handle] true (true, "26b3ea7e2afd954e0d2ef23616cfb86a06cafc6b8e67b3c201070e6ed06ff9ba") true
    over (fun _ h => by cases h) (by kernel_rfl) (fun _ h => by cases h) fnCalls_row_tie rfl ⟨rfl, rfl⟩ (by kernel_rfl) rfl
    (fun f fn hf hfn => by
      obtain rfl : f = 3 := Option.some.inj ((show Tryd.prog.funcNamed "loop.example/s0039/laws.FnCalls" = some 3 by kernel_rfl).symm.trans hf) |>.symm
      obtain rfl : fn = Tryd.f3 := (Option.some.inj (Tryd.func3.symm.trans hfn)).symm
      exact ⟨by kernel_rfl, fun j t ht => by
        rw [Tryd.params3] at ht
        first
          | (rcases j with _ | j
             · obtain rfl : _ = t := by simpa using ht
               kernel_rfl
             · simp at ht)
          | (rcases j with _ | _ | j
             · obtain rfl : _ = t := by simpa using ht
               kernel_rfl
             · obtain rfl : _ = t := by simpa using ht
               kernel_rfl
             · simp at ht)⟩)
    (by kernel_rfl)
theorem proved : Rows.FnCallsCardSaid := card
#print axioms proved
end Go.Proofs.YtjpjfkmnfppgkaaDoor.fnCalls
namespace Go.Proofs.YtjpjfkmnfppgkaaDoor
/-- The row, under a short name, for the claim. -/
theorem fnCalls_holds : Rows.FnCallsCardSaid := fnCalls.proved
end Go.Proofs.YtjpjfkmnfppgkaaDoor
