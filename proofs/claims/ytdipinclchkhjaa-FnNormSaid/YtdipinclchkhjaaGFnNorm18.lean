/- For two drawn conditions, both valid: the program's ConWithin gives the model's answers on them and on their NormCons, each has the set of its NormCon, and the NormCons are equal exactly if each lies within the other. -/
import Derived.Test.YtdipinclchkhjaaGFnNorm17
import Derived.Test.YtdipinclchkhjaaGFnNorm15
import Derived.Test.YtdipinclchkhjaaRows
import Derived.WalkKit
import Derived.ProofKit
import Derived.OpenShut
import Derived.ShutString
import Derived.ChangeOld
import Derived.Below
import Derived.SizedLaws
import Derived.Test.YtdipinclchkhjaaGFnNorm3
namespace Go.Proofs.Ytdipinclchkhjaa.Pure
open Go.RowKit Go.Proofs.Ytdipinclchkhjaa.P Go.Proofs.YtdipinclchkhjaaW.PrintWords Go.Proofs.YtdipinclchkhjaaW.PrintLast
set_option linter.unusedVariables false
set_option linter.unusedSimpArgs false
theorem sameCon_is (t u : Int × Int × Int) : ∃ r, laws_sameCon.f t.1 t.2.1 t.2.2 u.1 u.2.1 u.2.2 = some r ∧ (r = true ↔ t = u) := by
  obtain ⟨t1, t2, t3⟩ := t
  obtain ⟨u1, u2, u3⟩ := u
  unfold laws_sameCon.f
  dsimp only
  by_cases h1 : t1 = u1
  · by_cases h2 : t2 = u2
    · exact ⟨_, by rw [if_pos h1, if_pos h2], by rw [beq_iff_eq]; simp [h1, h2]⟩
    · exact ⟨false, by rw [if_pos h1, if_neg h2], by simp [h2]⟩
  · exact ⟨false, by rw [if_neg h1], by simp [h1]⟩
theorem FnNorm : laws_FnNorm.Pure := by
  intro l hl0 hl1 hb
  unfold laws_FnNorm.f
  by_cases hlen : (l.length : Int) > 1048576
  · exact ⟨0, by rw [if_pos hlen]⟩
  · obtain ⟨⟨k, a, b, k2, a2, b2⟩, hd, ⟨ua, ub⟩, ua2, ub2⟩ := drawConWithin_t l hb
    dsimp only at ua ub ua2 ub2
    obtain ⟨a, rfl, la⟩ := u_nat ua
    obtain ⟨b, rfl, lb⟩ := u_nat ub
    obtain ⟨a2, rfl, la2⟩ := u_nat ua2
    obtain ⟨b2, rfl, lb2⟩ := u_nat ub2
    obtain ⟨K0, h0⟩ := ev_get hd
    obtain ⟨raa, haa, iaa⟩ := specConWithin_iff k a b k a b la lb la lb
    obtain ⟨rbb, hbb, ibb⟩ := specConWithin_iff k2 a2 b2 k2 a2 b2 la2 lb2 la2 lb2
    obtain ⟨rab, hab, iab⟩ := specConWithin_iff k a b k2 a2 b2 la lb la2 lb2
    obtain ⟨rba, hba, iba⟩ := specConWithin_iff k2 a2 b2 k a b la2 lb2 la lb
    obtain ⟨K1, haa⟩ := ev_get haa
    obtain ⟨K2, hbb⟩ := ev_get hbb
    obtain ⟨K3, hab⟩ := ev_get hab
    obtain ⟨K4, hba⟩ := ev_get hba
    refine ⟨K0 + K1 + K2 + K3 + K4 + 3, ?_⟩
    rw [if_neg hlen]
    refine bo (h0 _ (by omega)) (bo (haa _ (by omega)) ?_)
    cases raa with
    | false =>
      rw [if_neg (by decide)]
      simp only [laws_FnNorm.j0]
      rfl
    | true =>
      rw [if_pos rfl]
      refine bo (hbb _ (by omega)) ?_
      cases rbb with
      | false =>
        simp only [laws_FnNorm.j0]
        rfl
      | true =>
        obtain ⟨va, _, _⟩ := iaa.1 rfl
        obtain ⟨vb, _, _⟩ := ibb.1 rfl
        have pa : Pres (k, (a : Int), (b : Int)) (InC k a b) := ⟨k, a, b, rfl, la, lb, va, fun z _ => Iff.rfl⟩
        have pb : Pres (k2, (a2 : Int), (b2 : Int)) (InC k2 a2 b2) := ⟨k2, a2, b2, rfl, la2, lb2, vb, fun z _ => Iff.rfl⟩
        obtain ⟨x, x1, x2, x3⟩ := pres_norm pa
        obtain ⟨y, y1, y2, y3⟩ := pres_norm pb
        have px := pres_con x x1
        have py := pres_con y y1
        obtain ⟨r1, q1, i1⟩ := pres_within pa pb
        obtain ⟨r2, q2, i2⟩ := pres_within pb pa
        obtain ⟨r3, q3, i3⟩ := pres_within px py
        obtain ⟨r4, q4, i4⟩ := pres_within py px
        obtain ⟨r5, q5, i5⟩ := pres_within pa px
        obtain ⟨r6, q6, i6⟩ := pres_within px pa
        obtain ⟨r7, q7, i7⟩ := pres_within pb py
        obtain ⟨r8, q8, i8⟩ := pres_within py pb
        have e1 : r1 = rab := by
          rw [Bool.eq_iff_iff, i1, iab]
          exact ⟨fun h => ⟨va, vb, h⟩, fun h => h.2.2⟩
        have e2 : r2 = rba := by
          rw [Bool.eq_iff_iff, i2, iba]
          exact ⟨fun h => ⟨vb, va, h⟩, fun h => h.2.2⟩
        have e3 : r3 = rab := by
          rw [← e1, Bool.eq_iff_iff, i3, i1]
          exact ⟨fun h z hz hs => (y3 z hz).1 (h z hz ((x3 z hz).2 hs)), fun h z hz hs => (y3 z hz).2 (h z hz ((x3 z hz).1 hs))⟩
        have e4 : r4 = rba := by
          rw [← e2, Bool.eq_iff_iff, i4, i2]
          exact ⟨fun h z hz hs => (x3 z hz).1 (h z hz ((y3 z hz).2 hs)), fun h z hz hs => (x3 z hz).2 (h z hz ((y3 z hz).1 hs))⟩
        have e5 : r5 = true := i5.2 fun z hz hs => (x3 z hz).2 hs
        have e6 : r6 = true := i6.2 fun z hz hs => (x3 z hz).1 hs
        have e7 : r7 = true := i7.2 fun z hz hs => (y3 z hz).2 hs
        have e8 : r8 = true := i8.2 fun z hz hs => (y3 z hz).1 hs
        obtain ⟨r9, q9, i9⟩ := sameCon_is x.cd.con y.cd.con
        have e9 : r9 = true ↔ r3 = true ∧ r4 = true := by
          rw [i9, i3, i4]
          constructor
          · intro h
            have := con_inj h
            subst this
            exact ⟨fun z _ h => h, fun z _ h => h⟩
          · rintro ⟨h1, h2⟩
            rw [nc_uniq x y x1 y1 fun z hz => ⟨h1 z hz, h2 z hz⟩]
        subst e1 e2
        subst e5 e6 e7 e8
        dsimp only at *
        have hne : ∀ r : Bool, (r != r) = false := fun r => by cases r <;> rfl
        simp only [laws_FnNorm.j0]
        rw [if_neg (by decide)]
        refine bo (hab _ (by omega)) (bo (hba _ (by omega)) (bo q1 ?_))
        rw [hne, if_neg (by decide)]
        refine bo q2 ?_
        rw [hne]
        simp only [laws_FnNorm.j1]
        rw [if_neg (by decide)]
        refine bo x2 (bo y2 (bo q3 ?_))
        rw [e3, hne, if_neg (by decide)]
        refine bo q4 ?_
        rw [e4, hne]
        simp only [laws_FnNorm.j2]
        rw [if_neg (by decide)]
        refine bo q5 ?_
        rw [if_pos rfl]
        refine bo q6 ?_
        rw [if_pos rfl]
        refine bo q7 ?_
        rw [if_pos rfl]
        refine bo q8 ?_
        rw [if_pos rfl]
        refine bo q9 ?_
        rw [e3, e4] at e9
        cases r1 with
        | false =>
          have : r9 = false := by
            cases r9 with
            | false => rfl
            | true => exact absurd (e9.1 rfl).1 (by decide)
          subst this
          rfl
        | true =>
          have : r9 = r2 := by rw [Bool.eq_iff_iff, e9]; exact ⟨fun h => h.2, fun h => ⟨rfl, h⟩⟩
          subst this
          cases r9 <;> rfl
end Go.Proofs.Ytdipinclchkhjaa.Pure

namespace Go.Proofs.Ytdipinclchkhjaa.fnNorm
open Go.ChangeShapes Go.WideShapes Go.ChangeAt Go.RowKit
open Go.ChangeMaps (open_string shut_string)
set_option linter.unusedVariables false
theorem own : ownKnob Try.prog.godebug = none := by kernel_rfl
theorem laidOut : laidOutB Try.prog = true := by kernel_rfl
def IsRow (k : IntKind) (w : World) (a : Option Addr) (len cap : Nat) (zs : List Int) : Prop :=
  (a = none ∧ len = 0 ∧ cap = 0 ∧ zs = []) ∨
  ∃ x, a = some x ∧ len ≤ cap ∧ cap ≤ maxLen ∧ zs.length = cap ∧ (∀ i, i < zs.length → w.cell? (x.add i) = some (.int k (zs.getD i 0))) ∧ ∀ n ∈ zs, (Lit.int k n).wf = true
set_option maxRecDepth 100000 in
theorem lifted (os : Os) (started : os.Started) (H : Type) (enc : TypeId × Value → H) :
    ReturnsInHanded {} Try.checked os 10 .any (Rows.fnNormSpec.pre6 enc Try.prog Try.f10 Rows.fnNormRow.domain false) (Rows.fnNormSpec.post enc Try.prog Try.f10 false true false false) := by
  refine returnsInHanded_of_change_sized (C := Try.checked) own started (by kernel_rfl) Try.func10
    (ChangeSpec.witness6 (enc := enc) (C := Try.checked) false ⟨#[], #[.slice none 0 0], []⟩ 8 (by kernel_rfl) (by kernel_rfl) (by kernel_rfl) (by kernel_rfl)) ?_
  intro W base args ds gs before hval0 hW hcnd hsz0 _
  have hsz : (DataW.weightsEach Try.prog (Try.f10.params.toList ++ Rows.fnNormSpec.plain.varTypes Try.prog) (ds ++ gs)).all (· ≤ reachBytes) = true := hsz0
  have hval : ∀ (j : Nat) t v, Try.f10.params[j]? = some t → args[j]? = some v → Value.okWide Try.prog W .any base t v := hval0
  have hW' := hW
  obtain ⟨p, q, hA0, hV, rfl, hfz, hnd⟩ := hW
  have hA : DataW.TrodAll enc Try.prog W 0 (fun _ => true) true Try.f10.params.toList args.toList ds p := hA0
  rw [Try.params10] at hA hval hsz
  obtain ⟨v0, vs0, d0, ds0, p0, q0, hargs, rfl, rfl, h0, r0⟩ := trodAll_cons hA
  obtain ⟨rfl, rfl, rfl⟩ := trodAll_nil r0
  obtain rfl : args = #[v0] := by cases args; simp_all
  obtain ⟨rfl, rfl⟩ := trodVars_none hV
  obtain ⟨a0, len0, cap0, rfl⟩ := okWide_slice Try.underlying44 (hval 0 44 v0 rfl rfl)
  have k0 := h0
  have lt0 : ∀ x ∈ p0, x.block < W.heap.size := by obtain ⟨m, hm⟩ := k0; exact DataW.trod_lt m _ _ _ hm
  obtain ⟨z0, w0⟩ : ∃ zs, IsRow .u8 W a0 len0 cap0 zs := by
    obtain ⟨fuel, hf⟩ := h0
    rcases open_ints Try.underlying44 Try.underlying5 (by kernel_rfl) hf with ⟨hcs, _⟩ | ⟨x, l, c, zs, hcs, _, hl, hm, hz, _, hcell, hwz⟩
    · simp [Value.cells] at hcs
      obtain ⟨rfl, rfl, rfl⟩ := hcs
      exact ⟨[], .inl ⟨rfl, rfl, rfl, rfl⟩⟩
    · simp [Value.cells] at hcs
      obtain ⟨rfl, rfl, rfl⟩ := hcs
      exact ⟨zs, .inr ⟨_, rfl, hl, hm, by simpa using hz, hcell, hwz⟩⟩
  have y0 : len0 * 1 ≤ 140737488351232 := Go.Proofs.YtdipinclchkhjaaW.PrintWords.sized_ints hsz (j := 0) (t := 44) rfl rfl Try.underlying44 Try.underlying5 (by kernel_rfl) (by kernel_rfl) h0
  clear hA0 hval0 hsz0 hsz
  refine (P.laws_FnNorm.walk Pure.FnNorm a0 len0 cap0 z0 W w0 y0).mono fun e W' ⟨he, bel⟩ => ?_
  subst he
  exact ⟨_, rfl, _, _, _, [], _, [], hW', trodAll_mk1 (shut_bool Try.underlying4 _), (trodAll_cons_mk (Below.trod laidOut (by kernel_rfl) (of_decide_eq_true (by kernel_rfl)) k0 bel lt0) trodAll_mk0), rfl, bel.frame _, fun h => by cases h⟩
theorem over : Rows.fnNormRow.holds Try.pinned (OpenSpec.ofChange Rows.fnNormSpec) :=
  OpenClaim.holds_of_wide 10 Try.f10 rfl rfl rfl rfl rfl rfl rfl ⟨rfl, rfl, rfl, rfl, rfl⟩ rfl rfl rfl rfl rfl (by kernel_rfl) Try.func10 (by kernel_rfl)
    (of_decide_eq_true (by kernel_rfl)) (by unfold Func.isWrapper; first | (rw [if_pos (by decide +kernel)]; kernel_rfl) | (rw [if_neg (by decide +kernel)]; exact ⟨rfl, rfl⟩))
    (fun os started H enc _ => lifted os started H enc)
theorem proved : Rows.FnNormSaid := over
#print axioms proved
end Go.Proofs.Ytdipinclchkhjaa.fnNorm
namespace Go.Proofs.Ytdipinclchkhjaa
/-- The row, under a short name, for the claim. -/
theorem fnNorm_holds : Rows.FnNormSaid := fnNorm.proved
end Go.Proofs.Ytdipinclchkhjaa
