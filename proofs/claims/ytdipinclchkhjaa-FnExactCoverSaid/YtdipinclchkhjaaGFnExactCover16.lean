/- The program's Cover gives what the reference's Cover gives, for all lists of values and forms, and leaves the values as they were. -/
import Derived.Test.YtdipinclchkhjaaGFnExactCover12
import Derived.Test.YtdipinclchkhjaaGFnExactCover7
import Derived.Test.YtdipinclchkhjaaGFnExactCover11
import Derived.Test.YtdipinclchkhjaaGFnExactCover15
import Derived.Test.YtdipinclchkhjaaRows
import Derived.WalkKit
import Derived.ProofKit
import Derived.OpenShut
import Derived.ShutString
import Derived.ChangeOld
import Derived.Below
import Derived.SizedLaws
import Derived.Test.YtdipinclchkhjaaWSized
namespace Go.Proofs.Ytdipinclchkhjaa.P
open Go.RowKit Go.Proofs.YtdipinclchkhjaaW.PrintWords Go.Proofs.YtdipinclchkhjaaW.PrintLast Go.Proofs.YtdipinclchkhjaaW.PrintMore
set_option linter.unusedVariables false
set_option linter.unusedSimpArgs false

theorem toUint64S_ev (l : List Int) (hl : l.length ≤ 35184372088832) : Ev (fun k => laws_toUint64S.f k l) l := by
  have key := ev_loop (fun k s i => laws_toUint64S.l0 k l s i) l.length (filled id l 0) _ _ (filled_zero id l 0) (filled_all id l 0) (fun i hi r hr => by
    have hf := filled_length id l 0 i (by omega)
    refine ev_step _ (fun k => ?_) hr
    simp only [laws_toUint64S.l0]
    rw [if_pos (by omega), if_pos (by omega), if_pos (by omega), wrap64_id (by omega) (by omega), Int.toNat_natCast, rd_eq l i hi]
    have := filled_set id l 0 i hi
    simp only [id] at this
    rw [this]
    rfl) l (ev_end fun k => by simp only [laws_toUint64S.l0]; rw [if_neg (by omega)]; simp)
  refine Ev.congr (fun k => ?_) key
  unfold laws_toUint64S.f
  rw [if_pos (by omega), if_pos (by omega), Int.toNat_natCast]

theorem eqUint64S_ev (a b : List Int) (ha : a.length ≤ 35184372088832) (r : Bool) (hr : r = true ↔ a = b) : Ev (fun k => laws_eqUint64S.f k a b) r := by
  by_cases h : a.length = b.length
  · refine Ev.congr (f := fun k => laws_eqUint64S.l0 k a b 0) (fun k => by unfold laws_eqUint64S.f; rw [if_pos (by omega)]) ?_
    refine ev_loop_eq (fun k i => laws_eqUint64S.l0 k a b i) a b h (ev_end fun k => ?_) (fun i hi hi' e r hr => ev_step _ (fun k => ?_) hr) (fun i hi hi' e => ev_end fun k => ?_) r hr
    · simp only [laws_eqUint64S.l0]; rw [if_neg (by omega)]
    · simp only [laws_eqUint64S.l0]
      rw [if_pos (by omega), if_pos (by omega), if_pos (by omega), rd_eq a i hi, rd_eq b i hi', if_pos e, wrap64_id (by omega) (by omega)]; rfl
    · simp only [laws_eqUint64S.l0]
      rw [if_pos (by omega), if_pos (by omega), if_pos (by omega), rd_eq a i hi, rd_eq b i hi', if_neg e]
  · have e : r = false := by
      cases r with
      | false => rfl
      | true => exact absurd (congrArg List.length (hr.1 rfl)) h
    rw [e]
    exact ev_is fun k => by unfold laws_eqUint64S.f; rw [if_neg (by omega)]
end Go.Proofs.Ytdipinclchkhjaa.P

namespace Go.Proofs.Ytdipinclchkhjaa.Pure
open Go.RowKit Go.Proofs.Ytdipinclchkhjaa.P Go.Proofs.YtdipinclchkhjaaW.PrintWords Go.Proofs.YtdipinclchkhjaaW.PrintLast
set_option linter.unusedVariables false
set_option linter.unusedSimpArgs false
theorem FnExactCover : laws_FnExactCover.Pure := by
  intro l form hl0 hl1 hb hf
  unfold laws_FnExactCover.f
  by_cases hlen : (l.length : Int) > 1048576
  · exact ⟨0, by rw [if_pos hlen]⟩
  · have hl : l.length ≤ 35184372088832 := by omega
    obtain ⟨c, h1, h2⟩ := cover_both l hl hb form
    obtain ⟨K1, h1⟩ := ev_get h1
    obtain ⟨K2, h2⟩ := ev_get h2
    obtain ⟨K3, h3⟩ := ev_get (toUint64S_ev l hl)
    obtain ⟨K4, h4⟩ := ev_get (eqUint64S_ev l l hl true (by simp))
    refine ⟨K1 + K2 + K3 + K4, ?_⟩
    rw [if_neg hlen]
    refine bo (h3 _ (by omega)) (bo (h1 _ (by omega)) (bo (h3 _ (by omega)) (bo (h2 _ (by omega)) ?_)))
    refine bo (x := true) (by unfold laws_eqCon.f; rw [if_pos rfl, if_pos rfl, if_pos rfl]) ?_
    rw [if_pos rfl]
    refine bo (h3 _ (by omega)) (bo (h4 _ (by omega)) ?_)
    rw [if_pos rfl]
end Go.Proofs.Ytdipinclchkhjaa.Pure

namespace Go.Proofs.Ytdipinclchkhjaa.fnExactCover
open Go.ChangeShapes Go.WideShapes Go.ChangeAt Go.RowKit
open Go.ChangeMaps (open_string shut_string)
set_option linter.unusedVariables false
theorem own : ownKnob Try.prog.godebug = none := by kernel_rfl
theorem laidOut : laidOutB Try.prog = true := by kernel_rfl
def IsRow (k : IntKind) (w : World) (a : Option Addr) (len cap : Nat) (zs : List Int) : Prop :=
  (a = none ∧ len = 0 ∧ cap = 0 ∧ zs = []) ∨
  ∃ x, a = some x ∧ len ≤ cap ∧ cap ≤ maxLen ∧ zs.length = cap ∧ (∀ i, i < zs.length → w.cell? (x.add i) = some (.int k (zs.getD i 0))) ∧ ∀ n ∈ zs, (Lit.int k n).wf = true
set_option maxRecDepth 100000 in
theorem lifted (os : Os) (started : os.Started) (H : Type) (enc : TypeId × Value → H) :
    ReturnsInHanded {} Try.checked os 5 .any (Rows.fnExactCoverSpec.pre6 enc Try.prog Try.f5 Rows.fnExactCoverRow.domain false) (Rows.fnExactCoverSpec.post enc Try.prog Try.f5 false true false false) := by
  refine returnsInHanded_of_change_sized (C := Try.checked) own started (by kernel_rfl) Try.func5
    (ChangeSpec.witness6 (enc := enc) (C := Try.checked) false ⟨#[], #[.slice none 0 0, .int .i64 0], []⟩ 8 (by kernel_rfl) (by kernel_rfl) (by kernel_rfl) (by kernel_rfl)) ?_
  intro W base args ds gs before hval0 hW hcnd hsz0 _
  have hsz : (DataW.weightsEach Try.prog (Try.f5.params.toList ++ Rows.fnExactCoverSpec.plain.varTypes Try.prog) (ds ++ gs)).all (· ≤ reachBytes) = true := hsz0
  have hval : ∀ (j : Nat) t v, Try.f5.params[j]? = some t → args[j]? = some v → Value.okWide Try.prog W .any base t v := hval0
  have hW' := hW
  obtain ⟨p, q, hA0, hV, rfl, hfz, hnd⟩ := hW
  have hA : DataW.TrodAll enc Try.prog W 0 (fun _ => true) true Try.f5.params.toList args.toList ds p := hA0
  rw [Try.params5] at hA hval hsz
  obtain ⟨v0, vs0, d0, ds0, p0, q0, hargs, rfl, rfl, h0, r0⟩ := trodAll_cons hA
  obtain ⟨v1, vs1, d1, ds1, p1, q1, rfl, rfl, rfl, h1, r1⟩ := trodAll_cons r0
  obtain ⟨rfl, rfl, rfl⟩ := trodAll_nil r1
  obtain rfl : args = #[v0, v1] := by cases args; simp_all
  obtain ⟨rfl, rfl⟩ := trodVars_none hV
  obtain ⟨a0, len0, cap0, rfl⟩ := okWide_slice Try.underlying37 (hval 0 37 v0 rfl rfl)
  have k0 := h0
  have lt0 : ∀ x ∈ p0, x.block < W.heap.size := by obtain ⟨m, hm⟩ := k0; exact DataW.trod_lt m _ _ _ hm
  obtain ⟨z0, w0⟩ : ∃ zs, IsRow .u64 W a0 len0 cap0 zs := by
    obtain ⟨fuel, hf⟩ := h0
    rcases open_ints Try.underlying37 Try.underlying22 (by kernel_rfl) hf with ⟨hcs, _⟩ | ⟨x, l, c, zs, hcs, _, hl, hm, hz, _, hcell, hwz⟩
    · simp [Value.cells] at hcs
      obtain ⟨rfl, rfl, rfl⟩ := hcs
      exact ⟨[], .inl ⟨rfl, rfl, rfl, rfl⟩⟩
    · simp [Value.cells] at hcs
      obtain ⟨rfl, rfl, rfl⟩ := hcs
      exact ⟨zs, .inr ⟨_, rfl, hl, hm, by simpa using hz, hcell, hwz⟩⟩
  have y0 : len0 * 8 ≤ 140737488351232 := Go.Proofs.YtdipinclchkhjaaW.PrintWords.sized_ints hsz (j := 0) (t := 37) rfl rfl Try.underlying37 Try.underlying22 (by kernel_rfl) (by kernel_rfl) h0
  obtain ⟨a1, rfl, rfl, rfl, w1⟩ := open_int Try.underlying3 (hval 1 3 v1 rfl rfl) h1
  clear hA0 hval0 hsz0 hsz
  refine (P.laws_FnExactCover.walk Pure.FnExactCover a0 len0 cap0 z0 a1 W w0 y0 w1).mono fun e W' ⟨he, bel⟩ => ?_
  subst he
  exact ⟨_, rfl, _, _, _, [], _, [], hW', trodAll_mk1 (shut_bool Try.underlying4 _), (trodAll_cons_mk (Below.trod laidOut (by kernel_rfl) (of_decide_eq_true (by kernel_rfl)) k0 bel lt0) (trodAll_cons_mk (shut_int Try.underlying3 w1) trodAll_mk0)), rfl, bel.frame _, fun h => by cases h⟩
theorem over : Rows.fnExactCoverRow.holds Try.pinned (OpenSpec.ofChange Rows.fnExactCoverSpec) :=
  OpenClaim.holds_of_wide 5 Try.f5 rfl rfl rfl rfl rfl rfl rfl ⟨rfl, rfl, rfl, rfl, rfl⟩ rfl rfl rfl rfl rfl (by kernel_rfl) Try.func5 (by kernel_rfl)
    (of_decide_eq_true (by kernel_rfl)) (by unfold Func.isWrapper; first | (rw [if_pos (by decide +kernel)]; kernel_rfl) | (rw [if_neg (by decide +kernel)]; exact ⟨rfl, rfl⟩))
    (fun os started H enc _ => lifted os started H enc)
theorem proved : Rows.FnExactCoverSaid := over
#print axioms proved
end Go.Proofs.Ytdipinclchkhjaa.fnExactCover
namespace Go.Proofs.Ytdipinclchkhjaa
/-- The row, under a short name, for the claim. -/
theorem fnExactCover_holds : Rows.FnExactCoverSaid := fnExactCover.proved
end Go.Proofs.Ytdipinclchkhjaa
