/- The program's DecodeProgram gives what the reference's DecodeProgram gives, for every list of bytes (one of more than 2^20 is not asked); it leaves its argument as it was, and its answer owns its memory. -/
import Derived.Test.YtgodbniphkfgfaaGFnExactDecodeProgram13
import Derived.Test.YtgodbniphkfgfaaGFnExactDecodeProgram7
import Derived.Test.YtgodbniphkfgfaaGFnExactDecodeProgram11
import Derived.Test.YtgodbniphkfgfaaGFnExactDecodeProgram12
import Derived.Test.YtgodbniphkfgfaaRows
import Derived.WalkKit
import Derived.ProofKit
import Derived.OpenShut
import Derived.ShutString
import Derived.ChangeOld
import Derived.Below
import Derived.SizedLaws
import Derived.Test.YtgodbniphkfgfaaGFnExactDecodeProgram5
namespace Go.Proofs.Ytgodbniphkfgfaa.P
open Go.RowKit Go.Proofs.YtgodbniphkfgfaaW.PrintWords Go.Proofs.YtgodbniphkfgfaaW.PrintLast Go.Proofs.YtgodbniphkfgfaaW.PrintMore
set_option linter.unusedVariables false
set_option linter.unusedSimpArgs false

theorem toByteS_ev (l : List Int) (hl : l.length ≤ 140737488355328) : Ev (fun k => laws_toByteS.f k l) l := by
  have key := ev_loop (fun k s i => laws_toByteS.l0 k l s i) l.length (filled id l 0) _ _ (filled_zero id l 0) (filled_all id l 0) (fun i hi r hr => by
    have hf := filled_length id l 0 i (by omega)
    refine ev_step _ (fun k => ?_) hr
    simp only [laws_toByteS.l0]
    rw [if_pos (by omega), if_pos (by omega), if_pos (by omega), wrap64_id (by omega) (by omega), Int.toNat_natCast, rd_eq l i hi]
    have := filled_set id l 0 i hi
    simp only [id] at this
    rw [this]
    rfl) l (ev_end fun k => by simp only [laws_toByteS.l0]; rw [if_neg (by omega)]; simp)
  refine Ev.congr (fun k => ?_) key
  unfold laws_toByteS.f
  rw [if_pos (by omega), if_pos (by omega), Int.toNat_natCast]

theorem eqByteS_ev (a b : List Int) (ha : a.length ≤ 140737488355328) (r : Bool) (hr : r = true ↔ a = b) : Ev (fun k => laws_eqByteS.f k a b) r := by
  by_cases h : a.length = b.length
  · refine Ev.congr (f := fun k => laws_eqByteS.l0 k a b 0) (fun k => by unfold laws_eqByteS.f; rw [if_pos (by omega)]) ?_
    refine ev_loop_eq (fun k i => laws_eqByteS.l0 k a b i) a b h (ev_end fun k => ?_) (fun i hi hi' e r hr => ev_step _ (fun k => ?_) hr) (fun i hi hi' e => ev_end fun k => ?_) r hr
    · simp only [laws_eqByteS.l0]; rw [if_neg (by omega)]
    · simp only [laws_eqByteS.l0]
      rw [if_pos (by omega), if_pos (by omega), if_pos (by omega), rd_eq a i hi, rd_eq b i hi', if_pos e, wrap64_id (by omega) (by omega)]; rfl
    · simp only [laws_eqByteS.l0]
      rw [if_pos (by omega), if_pos (by omega), if_pos (by omega), rd_eq a i hi, rd_eq b i hi', if_neg e]
  · have e : r = false := by
      cases r with
      | false => rfl
      | true => exact absurd (congrArg List.length (hr.1 rfl)) h
    rw [e]
    exact ev_is fun k => by unfold laws_eqByteS.f; rw [if_neg (by omega)]
end Go.Proofs.Ytgodbniphkfgfaa.P

namespace Go.Proofs.Ytgodbniphkfgfaa.P
open Go.RowKit Go.Proofs.YtgodbniphkfgfaaW.PrintWords Go.Proofs.YtgodbniphkfgfaaW.PrintLast Go.Proofs.YtgodbniphkfgfaaW.PrintMore
set_option linter.unusedVariables false
set_option linter.unusedSimpArgs false

/-- Marks, one after another. -/
def marks (n : Nat) (k0 : Int) : List Int := (List.range n).map fun i : Nat => (k0 + (i : Int)) % 256
theorem marks_length (n : Nat) (k0 : Int) : (marks n k0).length = n := by simp [marks]
theorem markByteS_ev (l : List Int) (k0 : Int) (h0 : 0 ≤ k0) (h1 : k0 ≤ 1000000) (hl : l.length ≤ 140737488355328) : Ev (fun k => laws_markByteS.f k l k0) (k0 + (l.length : Int), marks l.length k0) := by
  have key := ev_loop (fun k (s : Int × List Int) i => laws_markByteS.l0 k s.2 s.1 i) l.length (fun i => (k0 + (i : Int), (marks i k0) ++ l.drop i)) (k0, l) (k0 + (l.length : Int), marks l.length k0) (by simp [marks]) (by simp) (fun i hi r hr => by
    have hlen : ((marks i k0) ++ l.drop i).length = l.length := by rw [List.length_append, marks_length, List.length_drop]; omega
    refine ev_step _ (fun k => ?_) hr
    simp only [laws_markByteS.l0]
    rw [hlen, if_pos (by omega), if_pos (by omega), wrap64_id (by omega) (by omega), wrap64_id (by omega) (by omega), Int.toNat_natCast]
    have e : ((marks i k0) ++ l.drop i).set i ((k0 + (i : Int)) % 256) = marks (i + 1) k0 ++ l.drop (i + 1) := by
      rw [List.set_append_right i _ (by rw [marks_length]; omega), marks_length, Nat.sub_self, List.drop_eq_getElem_cons hi, List.set_cons_zero]
      unfold marks
      rw [List.range_succ, List.map_append, List.append_assoc]
      rfl
    rw [e, show k0 + (i : Int) + 1 = k0 + ((i + 1 : Nat) : Int) by omega]
    rfl) (k0 + (l.length : Int), marks l.length k0)
  refine Ev.congr (fun k => rfl) (key (ev_end fun k => ?_))
  simp only [laws_markByteS.l0]
  rw [marks_length, if_neg (by omega)]
end Go.Proofs.Ytgodbniphkfgfaa.P

namespace Go.Proofs.Ytgodbniphkfgfaa.P
open Go.RowKit Go.Proofs.YtgodbniphkfgfaaW.PrintWords Go.Proofs.YtgodbniphkfgfaaW.PrintLast Go.Proofs.YtgodbniphkfgfaaW.PrintMore
set_option linter.unusedVariables false
set_option linter.unusedSimpArgs false
def markI (k : Int) : S54 := ⟨IntKind.u16.wrap k, (k + 1) % 256, (k + 1 + 1) % 256, (k + 1 + 1 + 1) % 4294967296⟩
def marksI (n : Nat) (k0 : Int) : List S54 := (List.range n).map fun i : Nat => markI (k0 + 4 * (i : Int))
theorem marksI_length (n : Nat) (k0 : Int) : (marksI n k0).length = n := by simp [marksI]
theorem marksI_get (n : Nat) (k0 : Int) (i : Nat) (h : i < n) : rd_T54 (marksI n k0) (i : Int) = markI (k0 + 4 * (i : Int)) := by
  rw [rdIns_eq _ i (by rw [marksI_length]; exact h)]
  simp [marksI]
theorem rdI_set (l : List S54) (i : Nat) (x : S54) (h : i < l.length) : rd_T54 (l.set i x) (i : Int) = x := by
  rw [rdIns_eq _ i (by rw [List.length_set]; exact h), List.getElem_set_self]
theorem markInsS_ev (l : List S54) (k0 : Int) (h0 : 0 ≤ k0) (h1 : k0 ≤ 1000000) (hl : l.length ≤ 35184372088832) : Ev (fun k => laws_markInsS.f k l k0) (k0 + 4 * (l.length : Int), marksI l.length k0) := by
  have key := ev_loop (fun k (s : Int × List S54) i => laws_markInsS.l0 k s.2 s.1 i) l.length (fun i => (k0 + 4 * (i : Int), (marksI i k0) ++ l.drop i)) (k0, l) (k0 + 4 * (l.length : Int), marksI l.length k0) (by simp [marksI]) (by simp) (fun i hi r hr => by
    have hlen : ((marksI i k0) ++ l.drop i).length = l.length := by rw [List.length_append, marksI_length, List.length_drop]; omega
    refine ev_step _ (fun k => ?_) hr
    simp only [laws_markInsS.l0, Option.bind_some]
    rw [hlen, if_pos (by omega), if_pos (by omega), wrap64_id (i := k0 + 4 * (i : Int) + 1) (by omega) (by omega), wrap64_id (i := k0 + 4 * (i : Int) + 1 + 1) (by omega) (by omega), wrap64_id (i := k0 + 4 * (i : Int) + 1 + 1 + 1) (by omega) (by omega), wrap64_id (i := k0 + 4 * (i : Int) + 1 + 1 + 1 + 1) (by omega) (by omega), wrap64_id (i := (i : Int) + 1) (by omega) (by omega)]
    simp only [Int.toNat_natCast]
    have hlt : i < ((marksI i k0) ++ l.drop i).length := by omega
    rw [rdI_set _ i _ hlt, rdI_set _ i _ (by rw [List.length_set]; exact hlt), rdI_set _ i _ (by rw [List.length_set, List.length_set]; exact hlt), List.set_set, List.set_set, List.set_set]
    have e : ((marksI i k0) ++ l.drop i).set i (markI (k0 + 4 * (i : Int))) = marksI (i + 1) k0 ++ l.drop (i + 1) := by
      rw [List.set_append_right i _ (by rw [marksI_length]; omega), marksI_length, Nat.sub_self, List.drop_eq_getElem_cons hi, List.set_cons_zero]
      unfold marksI
      rw [List.range_succ, List.map_append, List.append_assoc]
      rfl
    unfold markI at e
    rw [e, show k0 + 4 * (i : Int) + 1 + 1 + 1 + 1 = k0 + 4 * ((i + 1 : Nat) : Int) by omega]
    rfl) (k0 + 4 * (l.length : Int), marksI l.length k0)
  refine Ev.congr (fun k => rfl) (key (ev_end fun k => ?_))
  simp only [laws_markInsS.l0]
  rw [marksI_length, if_neg (by omega)]
end Go.Proofs.Ytgodbniphkfgfaa.P

namespace Go.Proofs.Ytgodbniphkfgfaa.P
open Go.RowKit Go.Proofs.YtgodbniphkfgfaaW.PrintWords Go.Proofs.YtgodbniphkfgfaaW.PrintLast Go.Proofs.YtgodbniphkfgfaaW.PrintMore
set_option linter.unusedVariables false
set_option linter.unusedSimpArgs false
theorem heldInsS_ev (n : Nat) (k0 : Int) (h0 : 0 ≤ k0) (h1 : k0 ≤ 1000000) (hl : n ≤ 35184372088832) : Ev (fun k => laws_heldInsS.f k (marksI n k0) k0) (k0 + 4 * (n : Int)) := by
  have key := ev_loop (fun k s i => laws_heldInsS.l0 k (marksI n k0) s i) n (fun i => k0 + 4 * (i : Int)) k0 (k0 + 4 * (n : Int)) (by simp) rfl (fun i hi r hr => by
    refine ev_step _ (fun k => ?_) hr
    simp only [laws_heldInsS.l0]
    rw [marksI_length, if_pos (by omega), if_pos (by omega), marksI_get n k0 i hi, wrap64_id (i := k0 + 4 * (i : Int) + 1) (by omega) (by omega), wrap64_id (i := k0 + 4 * (i : Int) + 1 + 1) (by omega) (by omega), wrap64_id (i := k0 + 4 * (i : Int) + 1 + 1 + 1) (by omega) (by omega), wrap64_id (i := k0 + 4 * (i : Int) + 1 + 1 + 1 + 1) (by omega) (by omega), wrap64_id (i := (i : Int) + 1) (by omega) (by omega)]
    unfold markI
    dsimp only
    rw [if_pos rfl, if_pos rfl, if_pos rfl, if_pos rfl, show k0 + 4 * (i : Int) + 1 + 1 + 1 + 1 = k0 + 4 * ((i + 1 : Nat) : Int) by omega]
    rfl) (k0 + 4 * (n : Int))
  refine Ev.congr (fun k => rfl) (key (ev_end fun k => ?_))
  simp only [laws_heldInsS.l0]
  rw [marksI_length, if_neg (by omega)]
end Go.Proofs.Ytgodbniphkfgfaa.P

namespace Go.Proofs.Ytgodbniphkfgfaa.Pure
open Go.RowKit Go.Proofs.Ytgodbniphkfgfaa.P Go.Proofs.YtgodbniphkfgfaaW.PrintWords Go.Proofs.YtgodbniphkfgfaaW.PrintLast
set_option linter.unusedVariables false
set_option linter.unusedSimpArgs false
theorem FnExactDecodeProgram : laws_FnExactDecodeProgram.Pure := by
  intro l _ _ hw
  by_cases hb : (l.length : Int) > 1048576
  · exact ⟨0, by unfold laws_FnExactDecodeProgram.f; rw [if_pos hb]⟩
  have hbr : ∀ x ∈ l, 0 ≤ x ∧ x < 256 := mem_u8 hw
  obtain ⟨⟨p, c⟩, hd⟩ : ∃ d, decN l = d := ⟨_, rfl⟩
  have hpl : p.length ≤ 4096 := by have := decN_length l; rw [hd] at this; exact this
  have him := implDecProg_is l
  rw [hd] at him
  obtain ⟨K1, h1⟩ := ev_get (specDecProg_ev l hbr (by omega))
  obtain ⟨K2, h2⟩ := ev_get (toByteS_ev l (by omega))
  obtain ⟨K3, h3⟩ := ev_get (eqInsS_ev p p (by omega) true (by simp))
  obtain ⟨K4, h4⟩ := ev_get (eqByteS_ev l l (by omega) true (by simp))
  obtain ⟨K5, h5⟩ := ev_get (markByteS_ev l 1 (by decide) (by decide) (by omega))
  obtain ⟨K6, h6⟩ := ev_get (markInsS_ev p 1 (by decide) (by decide) (by omega))
  obtain ⟨K7, h7⟩ := ev_get (heldInsS_ev p.length 1 (by decide) (by decide) (by omega))
  rw [hd] at h1
  have e1 : ¬ (1 + (l.length : Int) < 0) := by omega
  have e2 : ¬ (1 + 4 * (p.length : Int) < 0) := by omega
  refine ⟨K1 + K2 + K3 + K4 + K5 + K6 + K7 + 3, ?_⟩
  generalize hK : K1 + K2 + K3 + K4 + K5 + K6 + K7 = K
  unfold laws_FnExactDecodeProgram.f
  rw [if_neg hb]
  refine bo (h2 _ (by omega)) (bo (h1 _ (by omega)) (bo (h2 _ (by omega)) (bo him (bo (h3 _ (by omega)) ?_))))
  rw [if_pos rfl, laws_FnExactDecodeProgram.j0, if_neg (by simp)]
  refine bo (h2 _ (by omega)) (bo (h4 _ (by omega)) ?_)
  rw [if_pos rfl]
  refine bo (h5 _ (by omega)) ?_
  rw [if_neg e1]
  refine bo (h3 _ (by omega)) ?_
  rw [if_pos rfl, laws_FnExactDecodeProgram.j1, if_neg (by simp)]
  refine bo (h6 _ (by omega)) (bo (h7 _ (by omega)) ?_)
  rw [if_neg e2, if_pos rfl]
  refine bo (h2 _ (by omega)) (bo him (bo (h3 _ (by omega)) ?_))
  rw [if_pos rfl, laws_FnExactDecodeProgram.j2, if_neg (by simp)]
  refine bo (h7 _ (by omega)) ?_
  rw [if_neg e2, if_pos rfl]
end Go.Proofs.Ytgodbniphkfgfaa.Pure

namespace Go.Proofs.Ytgodbniphkfgfaa.fnExactDecodeProgram
open Go.ChangeShapes Go.WideShapes Go.ChangeAt Go.RowKit
open Go.ChangeMaps (open_string shut_string)
set_option linter.unusedVariables false
theorem own : ownKnob Try.prog.godebug = none := by kernel_rfl
theorem laidOut : laidOutB Try.prog = true := by kernel_rfl
def IsRow (k : IntKind) (w : World) (a : Option Addr) (len cap : Nat) (zs : List Int) : Prop :=
  (a = none ∧ len = 0 ∧ cap = 0 ∧ zs = []) ∨
  ∃ x, a = some x ∧ len ≤ cap ∧ cap ≤ maxLen ∧ zs.length = cap ∧ (∀ i, i < zs.length → w.cell? (x.add i) = some (.int k (zs.getD i 0))) ∧ ∀ n ∈ zs, (Lit.int k n).wf = true
set_option maxRecDepth 100000 in
theorem lifted (os : Os) (started : os.Started) (H : Type) (enc : TypeId × Value → H) :
    ReturnsInHanded {} Try.checked os 3 .any (Rows.fnExactDecodeProgramSpec.pre6 enc Try.prog Try.f3 Rows.fnExactDecodeProgramRow.domain false) (Rows.fnExactDecodeProgramSpec.post enc Try.prog Try.f3 false true false false) := by
  refine returnsInHanded_of_change_sized (C := Try.checked) own started (by kernel_rfl) Try.func3
    (ChangeSpec.witness6 (enc := enc) (C := Try.checked) false ⟨#[], #[.slice none 0 0], []⟩ 8 (by kernel_rfl) (by kernel_rfl) (by kernel_rfl) (by kernel_rfl)) ?_
  intro W base args ds gs before hval0 hW hcnd hsz0 _
  have hsz : (DataW.weightsEach Try.prog (Try.f3.params.toList ++ Rows.fnExactDecodeProgramSpec.plain.varTypes Try.prog) (ds ++ gs)).all (· ≤ reachBytes) = true := hsz0
  have hval : ∀ (j : Nat) t v, Try.f3.params[j]? = some t → args[j]? = some v → Value.okWide Try.prog W .any base t v := hval0
  have hW' := hW
  obtain ⟨p, q, hA0, hV, rfl, hfz, hnd⟩ := hW
  have hA : DataW.TrodAll enc Try.prog W 0 (fun _ => true) true Try.f3.params.toList args.toList ds p := hA0
  rw [Try.params3] at hA hval hsz
  obtain ⟨v0, vs0, d0, ds0, p0, q0, hargs, rfl, rfl, h0, r0⟩ := trodAll_cons hA
  obtain ⟨rfl, rfl, rfl⟩ := trodAll_nil r0
  obtain rfl : args = #[v0] := by cases args; simp_all
  obtain ⟨rfl, rfl⟩ := trodVars_none hV
  obtain ⟨a0, len0, cap0, rfl⟩ := okWide_slice Try.underlying22 (hval 0 22 v0 rfl rfl)
  have k0 := h0
  have lt0 : ∀ x ∈ p0, x.block < W.heap.size := by obtain ⟨m, hm⟩ := k0; exact DataW.trod_lt m _ _ _ hm
  obtain ⟨z0, w0⟩ : ∃ zs, IsRow .u8 W a0 len0 cap0 zs := by
    obtain ⟨fuel, hf⟩ := h0
    rcases open_ints Try.underlying22 Try.underlying5 (by kernel_rfl) hf with ⟨hcs, _⟩ | ⟨x, l, c, zs, hcs, _, hl, hm, hz, _, hcell, hwz⟩
    · simp [Value.cells] at hcs
      obtain ⟨rfl, rfl, rfl⟩ := hcs
      exact ⟨[], .inl ⟨rfl, rfl, rfl, rfl⟩⟩
    · simp [Value.cells] at hcs
      obtain ⟨rfl, rfl, rfl⟩ := hcs
      exact ⟨zs, .inr ⟨_, rfl, hl, hm, by simpa using hz, hcell, hwz⟩⟩
  have y0 : len0 * 1 ≤ 140737488351232 := Go.Proofs.YtgodbniphkfgfaaW.PrintWords.sized_ints hsz (j := 0) (t := 22) rfl rfl Try.underlying22 Try.underlying5 (by kernel_rfl) (by kernel_rfl) h0
  clear hA0 hval0 hsz0 hsz
  refine (P.laws_FnExactDecodeProgram.walk Pure.FnExactDecodeProgram a0 len0 cap0 z0 W w0 y0).mono fun e W' ⟨he, bel⟩ => ?_
  subst he
  exact ⟨_, rfl, _, _, _, [], _, [], hW', trodAll_mk1 (shut_bool Try.underlying4 _), (trodAll_cons_mk (Below.trod laidOut (by kernel_rfl) (of_decide_eq_true (by kernel_rfl)) k0 bel lt0) trodAll_mk0), rfl, bel.frame _, fun h => by cases h⟩
theorem over : Rows.fnExactDecodeProgramRow.holds Try.pinned (OpenSpec.ofChange Rows.fnExactDecodeProgramSpec) :=
  OpenClaim.holds_of_wide 3 Try.f3 rfl rfl rfl rfl rfl rfl rfl ⟨rfl, rfl, rfl, rfl, rfl⟩ rfl rfl rfl rfl rfl (by kernel_rfl) Try.func3 (by kernel_rfl)
    (of_decide_eq_true (by kernel_rfl)) (by unfold Func.isWrapper; first | (rw [if_pos (by decide +kernel)]; kernel_rfl) | (rw [if_neg (by decide +kernel)]; exact ⟨rfl, rfl⟩))
    (fun os started H enc _ => lifted os started H enc)
theorem proved : Rows.FnExactDecodeProgramSaid := over
#print axioms proved
end Go.Proofs.Ytgodbniphkfgfaa.fnExactDecodeProgram
namespace Go.Proofs.Ytgodbniphkfgfaa
/-- The row, under a short name, for the claim. -/
theorem fnExactDecodeProgram_holds : Rows.FnExactDecodeProgramSaid := fnExactDecodeProgram.proved
end Go.Proofs.Ytgodbniphkfgfaa
