import Derived.Test.YtbeegojdcgliiaaMBase
import Derived.Test.YtbeegojdcgliiaaP4
import Derived.Test.YtbeegojdcgliiaaP6
namespace Go.Proofs.Ytbeegojdcgliiaa.P
open Go.RowKit Go.Proofs.YtbeegojdcgliiaaW.PrintWords Go.Proofs.YtbeegojdcgliiaaW.PrintLast Go.Proofs.YtbeegojdcgliiaaW.PrintMore
set_option linter.unusedVariables false
set_option linter.unusedSimpArgs false

theorem toByteS_ev (l : List Int) (hl : l.length ≤ 140737488355328) : Ev (fun k => laws_toByteS.f k l) l := by
  have key := ev_loop (fun k s i => laws_toByteS.l0 k l s i) l.length (filled id l 0) _ _ (filled_zero id l 0) (filled_all id l 0) (fun i hi r hr => by
    have hf := filled_length id l 0 i (by omega)
    refine ev_step _ (fun k => ?_) hr
    simp only [laws_toByteS.l0]
    rw [if_pos (by omega), if_pos (by omega), if_pos (by omega), wrap64_id (by omega) (by omega), Int.toNat_natCast, rd_eq l i hi]
    have := filled_set id l 0 i hi
    simp only [id] at this
    rw [this]
    rfl) l (ev_end fun k => by simp only [laws_toByteS.l0]; rw [if_neg (by omega)]; simp)
  refine Ev.congr (fun k => ?_) key
  unfold laws_toByteS.f
  rw [if_pos (by omega), if_pos (by omega), Int.toNat_natCast]

theorem eqByteS_ev (a b : List Int) (ha : a.length ≤ 140737488355328) (r : Bool) (hr : r = true ↔ a = b) : Ev (fun k => laws_eqByteS.f k a b) r := by
  by_cases h : a.length = b.length
  · refine Ev.congr (f := fun k => laws_eqByteS.l0 k a b 0) (fun k => by unfold laws_eqByteS.f; rw [if_pos (by omega)]) ?_
    refine ev_loop_eq (fun k i => laws_eqByteS.l0 k a b i) a b h (ev_end fun k => ?_) (fun i hi hi' e r hr => ev_step _ (fun k => ?_) hr) (fun i hi hi' e => ev_end fun k => ?_) r hr
    · simp only [laws_eqByteS.l0]; rw [if_neg (by omega)]
    · simp only [laws_eqByteS.l0]
      rw [if_pos (by omega), if_pos (by omega), if_pos (by omega), rd_eq a i hi, rd_eq b i hi', if_pos e, wrap64_id (by omega) (by omega)]; rfl
    · simp only [laws_eqByteS.l0]
      rw [if_pos (by omega), if_pos (by omega), if_pos (by omega), rd_eq a i hi, rd_eq b i hi', if_neg e]
  · have e : r = false := by
      cases r with
      | false => rfl
      | true => exact absurd (congrArg List.length (hr.1 rfl)) h
    rw [e]
    exact ev_is fun k => by unfold laws_eqByteS.f; rw [if_neg (by omega)]
end Go.Proofs.Ytbeegojdcgliiaa.P
