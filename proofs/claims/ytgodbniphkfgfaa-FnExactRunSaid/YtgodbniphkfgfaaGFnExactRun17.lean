import Derived.Test.YtgodbniphkfgfaaGFnExactRun16
import Derived.Test.YtgodbniphkfgfaaGFnExactRun5
namespace Go.Proofs.Ytgodbniphkfgfaa.P
open Go.RowKit Go.Proofs.YtgodbniphkfgfaaW.PrintWords Go.Proofs.YtgodbniphkfgfaaW.PrintLast Go.Proofs.YtgodbniphkfgfaaW.PrintMore
set_option linter.unusedVariables false
set_option linter.unusedSimpArgs false
def W32 (v : Int) : Prop := 0 ≤ v ∧ v < 4294967296
def SG (prog : List S54) (p : Nat) (rec : List Int) (a x : Int) (m : List Int) (r : Int × Int) : Prop := Ev (fun k => spec_l1go.f k (prog.drop p) rec a x m) r
/-- The reference's run from here is what it is behind the skip, one step more. -/
def SGo (prog : List S54) (p s : Nat) (rec : List Int) (a x : Int) (m : List Int) (a' x' : Int) (m' : List Int) : Prop := ∀ r, SG prog (p + 1 + s) rec a' x' m' r → SG prog p rec a x m (r.1, wrap64 (r.2 + 1))
theorem ev_two {α : Type} {g f : Nat → Option α} {r : α} (h : ∀ k, g (k + 2) = f k) (e : Ev f r) : Ev g r := by
  obtain ⟨K, h2⟩ := ev_get e
  refine ev_mk (K + 2) fun k hk => ?_
  obtain ⟨k, rfl⟩ : ∃ j, k = j + 2 := ⟨k - 2, by omega⟩
  rw [h k]
  exact h2 k (by omega)
theorem ev_one {α : Type} {g f : Nat → Option α} {r : α} (h : ∀ k, g (k + 1) = f k) (e : Ev f r) : Ev g r := Ev.step h e
theorem ev_bind {α β : Type} {f : Nat → Option α} {g : Nat → α → Option β} {x : α} {r : β} (h : Ev f x) (h2 : Ev (fun k => g k x) r) : Ev (fun k => (f k).bind (g k)) r := by
  obtain ⟨K1, h1⟩ := ev_get h
  obtain ⟨K2, h2⟩ := ev_get h2
  exact ev_mk (K1 + K2) fun k hk => bo (h1 k (by omega)) (h2 k (by omega))
section
variable {prog : List S54} {rec : List Int} {a x : Int} {m : List Int} {p : Nat}
theorem drop_first (hp : p < prog.length) : ∃ h : 0 < (prog.drop p).length, (prog.drop p)[0] = prog[p] := by
  refine ⟨by rw [List.length_drop]; omega, ?_⟩
  rw [List.getElem_drop]
  rfl
/-- From the reference's j1 to its run. -/
theorem sg_of (c kk v : Int) (r : Int × Int) (hp : p < prog.length) (hR : InsR prog[p]) (hc : prog[p].f0 = c) (hk : prog[p].f3 = kk) (cl op : Int) (hcl : c % 8 = cl) (hop : c / 16 = op)
    (hv : (if (c % 8 ≥ 4 ∧ c % 8 ≤ 6) ∧ c / 8 % 2 = 1 then x else kk) = v) (h : Ev (fun k => spec_l1go.j1 k (prog.drop p) rec c kk cl op 0 v a x m) r) : SG prog p rec a x m r := by
  obtain ⟨h0, e⟩ := drop_first hp
  refine ev_two (fun k => ?_) h
  rw [go_open k (prog.drop p) rec a x m h0 (by rw [e]; exact hR), e, hc, hk, hcl, hop, ← hcl, hv]
theorem cont_of (hl : prog.length ≤ 4096) (s : Nat) (hs : p + 1 + s < prog.length) (a' x' : Int) (m' : List Int) (r : Int × Int) (h : SG prog (p + 1 + s) rec a' x' m' r) : Ev (fun k => goCont k (prog.drop p) rec a' x' m' (s : Int)) (r.1, wrap64 (r.2 + 1)) := by
  refine goCont_ev (prog.drop p) rec a' x' m' s (by rw [List.length_drop]; omega) (by rw [List.length_drop]; omega) r.1 r.2 ?_
  unfold SG at h
  rw [List.drop_drop, show p + (1 + s) = p + 1 + s by omega]
  exact h
end
/-- What one instruction does, on both sides. -/
theorem step_both (prog : List S54) (rec : List Int) (hl : prog.length ≤ 4096) (p : Nat) (hp : p < prog.length) (hf : insFault prog[p] (p : Int) prog.length = 0) (hR : InsR prog[p])
    (hrec : ∀ x ∈ rec, 0 ≤ x ∧ x < 256) (hrl : rec.length = 64) (a x : Int) (m : List Int) (ha : W32 a) (hx : W32 x) (hm : ∀ y ∈ m, W32 y) (hml : m.length = 16) (st : Nat) (hst : st ≤ 4096) :
    (∃ v, W32 v ∧ SG prog p rec a x m (v, 1) ∧ ∃ s2, stepF rec prog[p] ⟨a, x, m, ((p + 1 : Nat) : Int), ((st + 1 : Nat) : Int)⟩ = some (s2, some v) ∧ s2.st = ((st + 1 : Nat) : Int)) ∨
    (∃ a' x' m' s, W32 a' ∧ W32 x' ∧ (∀ y ∈ m', W32 y) ∧ m'.length = 16 ∧ p + 1 + s < prog.length ∧ SGo prog p s rec a x m a' x' m' ∧
      stepF rec prog[p] ⟨a, x, m, ((p + 1 : Nat) : Int), ((st + 1 : Nat) : Int)⟩ = some (⟨a', x', m', ((p + 1 + s : Nat) : Int), ((st + 1 : Nat) : Int)⟩, none)) := by
  obtain ⟨f0, f1, f2, f3, f4, f5⟩ := fault_facts _ _ _ hf
  have hR' := hR
  obtain ⟨⟨i0, i1⟩, ⟨j0, j1⟩, ⟨k0, k1⟩, l0, l1⟩ := hR'
  have hsg := fun (c kk v : Int) (r : Int × Int) => sg_of (prog := prog) (rec := rec) (a := a) (x := x) (m := m) (p := p) c kk v r hp hR
  have hct := fun (s : Nat) (hs : p + 1 + s < prog.length) => cont_of (prog := prog) (rec := rec) (p := p) hl s hs
  obtain ⟨h0, e0⟩ := drop_first hp
  have hj1 := fun (k : Nat) (c kk op s v : Int) (hc : c ≠ 5) => j1_test k (prog.drop p) rec c kk op s v a x m h0 (by rw [e0]; exact hR) hc
  rw [e0] at hj1
  clear hf hR
  obtain ⟨⟨c, t, f, k⟩, hi⟩ : ∃ i, prog[p] = i := ⟨_, rfl⟩
  rw [hi] at hsg hj1 f0 f1 f2 f3 f4 f5 i0 i1 j0 j1 k0 k1 l0 l1 ⊢
  dsimp only at hsg hj1 f0 f1 f2 f3 f4 f5 i0 i1 j0 j1 k0 k1 l0 l1 ⊢
  have hguard : (0 : Int) ≤ k ∧ 0 ≤ a ∧ a < 4294967296 ∧ 0 ≤ x := ⟨l0, ha.1, ha.2, hx.1⟩
  have hrdm : ∀ y : Int, 0 ≤ y → y < 16 → W32 (rd m y) := fun y y0 y1 => by
    obtain ⟨q, rfl⟩ := Int.eq_ofNat_of_zero_le y0
    rw [rd_eq m q (by omega)]
    exact hm _ (List.getElem_mem _)
  have hput : ∀ (q : Nat) (v : Int), W32 v → ∀ y ∈ m.set q v, W32 y := fun q v hv y hy => by
    rcases List.mem_or_eq_of_mem_set hy with h | rfl
    · exact hm y h
    · exact hv
  have hnext : ¬ (c = 6 ∨ c = 22) → p + 1 + 0 < prog.length := fun h => by
    have := fun e => h (f5 e)
    omega
  rcases code_cases c f0 with hc | hc | hc | hc | hc | hc | hc | hc | hc
  · -- the operations
    have hW : W32 (vN c k x) := by unfold vN; split; exact hx; exact ⟨l0, l1⟩
    have hcl : c % 8 = 4 ∧ c / 16 ∈ aluOps ∧ ¬ (c = 6 ∨ c = 22) := by
      simp only [aluCodes, List.mem_cons, List.not_mem_nil, or_false] at hc
      rcases hc with rfl | rfl | rfl | rfl | rfl | rfl | rfl | rfl | rfl | rfl | rfl | rfl | rfl | rfl | rfl | rfl | rfl | rfl | rfl <;> exact ⟨by decide, by decide, by decide⟩
    have hv : (if (c % 8 ≥ 4 ∧ c % 8 ≤ 6) ∧ c / 8 % 2 = 1 then x else k) = vN c k x := by
      unfold vN
      by_cases h : c / 8 % 2 = 1
      · rw [if_pos ⟨by omega, h⟩, if_pos h]
      · rw [if_neg (fun h2 => h h2.2), if_neg h]
    have hs := stepF_alu rec c t f k ⟨a, x, m, ((p + 1 : Nat) : Int), ((st + 1 : Nat) : Int)⟩ hc l0 ha.1 ha.2 hx.1
    dsimp only at hs
    rw [hs]
    by_cases hz : c / 16 = 3 ∧ vN c k x = 0
    · left
      refine ⟨2147483648, ⟨by decide, by decide⟩, hsg c k _ _ rfl rfl 4 _ hcl.1 rfl hv (ev_two (fun j => j1_alu j _ _ _ _ _ _ _ _ _ _) (ev_is fun j => by rw [if_pos hz])), _, by rw [if_pos hz], rfl⟩
    · right
      have hA := l1alu_ev (c / 16) a (vN c k x) hcl.2.1 ha.1 ha.2 hW.1 hW.2 hz
      have hA2 := aluN_range (c / 16) a (vN c k x) hcl.2.1 ha.1 ha.2 hW.1 hW.2
      refine ⟨_, x, m, 0, hA2, hx, hm, hml, hnext hcl.2.2, fun r hr => ?_, by rw [if_neg hz]⟩
      refine hsg c k _ _ rfl rfl 4 _ hcl.1 rfl hv (ev_two (fun j => j1_alu j _ _ _ _ _ _ _ _ _ _) ?_)
      simp only [if_neg hz]
      exact ev_bind hA (hct 0 (hnext hcl.2.2) _ _ _ r hr)
  · -- the moves
    right
    rcases hc with rfl | rfl | rfl | rfl
    · refine ⟨k, x, m, 0, ⟨l0, l1⟩, hx, hm, hml, hnext (by omega), fun r hr => ?_, by unfold stepF; rw [if_pos hguard]; rfl⟩
      exact hsg 0 k k _ rfl rfl 0 0 (by decide) (by decide) (if_neg (by decide)) (ev_one (fun j => j1_zero j _ _ _ _ _ _ _ _ _) (hct 0 (hnext (by omega)) _ _ _ r hr))
    · refine ⟨a, k, m, 0, ha, ⟨l0, l1⟩, hm, hml, hnext (by omega), fun r hr => ?_, by unfold stepF; rw [if_pos hguard]; rfl⟩
      exact hsg 1 k k _ rfl rfl 1 0 (by decide) (by decide) (if_neg (by decide)) (ev_one (fun j => j1_one j _ _ _ _ _ _ _ _ _) (hct 0 (hnext (by omega)) _ _ _ r hr))
    · refine ⟨a, a, m, 0, ha, ha, hm, hml, hnext (by omega), fun r hr => ?_, by unfold stepF; rw [if_pos hguard]; rfl⟩
      exact hsg 7 k k _ rfl rfl 7 0 (by decide) (by decide) (if_neg (by decide)) (ev_one (fun j => j1_tax j _ _ _ _ _ _ _ _ _) (hct 0 (hnext (by omega)) _ _ _ r hr))
    · refine ⟨x, x, m, 0, hx, hx, hm, hml, hnext (by omega), fun r hr => ?_, by unfold stepF; rw [if_pos hguard]; rfl⟩
      exact hsg 135 k k _ rfl rfl 7 8 (by decide) (by decide) (if_neg (by decide)) (ev_one (fun j => j1_txa j _ _ _ _ _ _ _ _ _) (hct 0 (hnext (by omega)) _ _ _ r hr))
  · -- a word of the record
    right
    subst hc
    obtain ⟨q, rfl⟩ := Int.eq_ofNat_of_zero_le l0
    have hq : q ≤ 60 := by have := f1 rfl; omega
    have hw := l1word_ev rec q hrec hrl hq
    have hW : W32 (loadR rec q) := bits_u32 _ _ _
    refine ⟨loadR rec q, x, m, 0, hW, hx, hm, hml, hnext (by omega), fun r hr => ?_, by unfold stepF; rw [if_pos hguard]; simp [isMove]; omega⟩
    refine hsg 32 q q _ rfl rfl 0 2 (by decide) (by decide) (if_neg (by decide)) (ev_one (fun j => j1_word j _ _ _ _ _ _ _ _ _) ?_)
    simp only [hw, Option.bind_some]
    exact hct 0 (hnext (by omega)) _ _ _ r hr
  · -- a word of the memory
    right
    obtain ⟨q, rfl⟩ := Int.eq_ofNat_of_zero_le l0
    have hq : (q : Int) < 16 := f2 (by omega)
    rcases hc with rfl | rfl
    · refine ⟨rd m (q : Int), x, m, 0, hrdm _ l0 hq, hx, hm, hml, hnext (by omega), fun r hr => ?_, by unfold stepF; rw [if_pos hguard]; simp [isMove, memS, hq]⟩
      exact hsg 96 q q _ rfl rfl 0 6 (by decide) (by decide) (if_neg (by decide)) (ev_one (fun j => j1_ma j _ _ _ _ _ _ _ _ _ l0 (by omega)) (hct 0 (hnext (by omega)) _ _ _ r hr))
    · refine ⟨a, rd m (q : Int), m, 0, ha, hrdm _ l0 hq, hm, hml, hnext (by omega), fun r hr => ?_, by unfold stepF; rw [if_pos hguard]; simp [isMove, memS, hq]⟩
      exact hsg 97 q q _ rfl rfl 1 6 (by decide) (by decide) (if_neg (by decide)) (ev_one (fun j => j1_mx j _ _ _ _ _ _ _ _ _ l0 (by omega)) (hct 0 (hnext (by omega)) _ _ _ r hr))
  · -- a word put
    right
    obtain ⟨q, rfl⟩ := Int.eq_ofNat_of_zero_le l0
    have hq : (q : Int) < 16 := f2 (by omega)
    rcases hc with rfl | rfl
    · refine ⟨a, x, m.set q a, 0, ha, hx, hput q a ha, by rw [List.length_set]; exact hml, hnext (by omega), fun r hr => ?_, by unfold stepF; rw [if_pos hguard]; simp [isMove, putS, hq]⟩
      exact hsg 2 q q _ rfl rfl 2 0 (by decide) (by decide) (if_neg (by decide)) (ev_one (fun j => j1_pa j _ _ _ _ _ _ _ _ _) (ev_bind (l1put_ev m q a (by omega)) (hct 0 (hnext (by omega)) _ _ _ r hr)))
    · refine ⟨a, x, m.set q x, 0, ha, hx, hput q x hx, by rw [List.length_set]; exact hml, hnext (by omega), fun r hr => ?_, by unfold stepF; rw [if_pos hguard]; simp [isMove, putS, hq]⟩
      exact hsg 3 q q _ rfl rfl 3 0 (by decide) (by decide) (if_neg (by decide)) (ev_one (fun j => j1_px j _ _ _ _ _ _ _ _ _) (ev_bind (l1put_ev m q x (by omega)) (hct 0 (hnext (by omega)) _ _ _ r hr)))
  · -- the jump
    right
    subst hc
    obtain ⟨q, rfl⟩ := Int.eq_ofNat_of_zero_le l0
    have hq : p + 1 + q < prog.length := by have := f3 rfl; omega
    refine ⟨a, x, m, q, ha, hx, hm, hml, hq, fun r hr => ?_, ?_⟩
    · exact hsg 5 q _ _ rfl rfl 5 0 (by decide) (by decide) rfl (ev_one (fun j => j1_jump j _ _ _ _ _ _ _ _ _) (hct q hq _ _ _ r hr))
    · have e : wrap64 (((p + 1 : Nat) : Int) + wrap64 (q : Int)) = ((p + 1 + q : Nat) : Int) := by rw [wrap64_id (i := (q : Int)) (by omega) (by omega), wrap64_id (by omega) (by omega)]; omega
      unfold stepF
      rw [if_pos hguard, ← e]
      rfl
  · -- the tests
    right
    have hW : W32 (vN c k x) := by unfold vN; split; exact hx; exact ⟨l0, l1⟩
    have hcl : c % 8 = 5 ∧ ¬ (c = 6 ∨ c = 22) ∧ c ≠ 5 ∧ sortN c = 2 := by
      unfold isTest at hc
      rcases hc with rfl | rfl | rfl | rfl | rfl | rfl | rfl | rfl <;> exact ⟨by decide, by decide, by decide, by decide⟩
    have hv : (if (c % 8 ≥ 4 ∧ c % 8 ≤ 6) ∧ c / 8 % 2 = 1 then x else k) = vN c k x := by
      unfold vN
      by_cases h : c / 8 % 2 = 1
      · rw [if_pos ⟨by omega, h⟩, if_pos h]
      · rw [if_neg (fun h2 => h h2.2), if_neg h]
    have hs := stepF_test rec c t f k ⟨a, x, m, ((p + 1 : Nat) : Int), ((st + 1 : Nat) : Int)⟩ hc l0 ha.1 ha.2 hx.1
    dsimp only at hs
    have hH := l1holds_ev (c / 16) a (vN c k x) ha.1 ha.2 hW.1 hW.2
    have ht := f4 hcl.2.2.2
    obtain ⟨j, hj, j0', j1'⟩ : ∃ j : Nat, (if holdsN (c / 16) a (vN c k x) = true then t else f) = (j : Int) ∧ p + 1 + j < prog.length ∧ j < 256 := by
      refine ⟨(if holdsN (c / 16) a (vN c k x) = true then t else f).toNat, ?_⟩
      split <;> omega
    rw [hs, hj]
    refine ⟨a, x, m, j, ha, hx, hm, hml, j0', fun r hr => ?_, ?_⟩
    · refine hsg c k _ _ rfl rfl 5 _ hcl.1 rfl hv (ev_one (fun i => hj1 i c k _ _ _ hcl.2.2.1) (ev_bind hH ?_))
      rw [hj]
      exact hct j j0' _ _ _ r hr
    · have e : wrap64 (((p + 1 : Nat) : Int) + wrap64 (j : Int)) = ((p + 1 + j : Nat) : Int) := by rw [wrap64_id (i := (j : Int)) (by omega) (by omega), wrap64_id (by omega) (by omega)]; omega
      rw [e]
  · -- the ends
    left
    subst hc
    exact ⟨k, ⟨l0, l1⟩, hsg 6 k _ _ rfl rfl 6 0 (by decide) (by decide) rfl (ev_one (fun j => j1_end j _ _ _ _ _ _ _ _ _ _) (ev_is fun j => if_neg (by decide))), _, by unfold stepF; rw [if_pos hguard]; rfl, rfl⟩
  · left
    subst hc
    exact ⟨a, ha, hsg 22 k _ _ rfl rfl 6 1 (by decide) (by decide) rfl (ev_one (fun j => j1_end j _ _ _ _ _ _ _ _ _ _) (ev_is fun j => if_pos rfl)), _, by unfold stepF; rw [if_pos hguard]; rfl, rfl⟩
theorem run_arith {n p s t : Nat} (h : p + 1 + s < n) (h2 : t ≤ n - (p + 1 + s)) : t + 1 ≤ n - p := by omega
set_option maxHeartbeats 4000000 in
/-- The whole run, on both sides. -/
theorem run_both (prog : List S54) (rec : List Int) (hl : prog.length ≤ 4096) (hf : ∀ p (hp : p < prog.length), insFault prog[p] (p : Int) prog.length = 0) (hR : ∀ x ∈ prog, InsR x)
    (hrec : ∀ x ∈ rec, 0 ≤ x ∧ x < 256) (hrl : rec.length = 64) : ∀ (d p : Nat), p < prog.length → prog.length - p ≤ d → ∀ (a x : Int) (m : List Int) (st : Nat), W32 a → W32 x → (∀ y ∈ m, W32 y) → m.length = 16 → st ≤ p →
    ∃ (v : Int) (t : Nat) (sE : St), W32 v ∧ 1 ≤ t ∧ t ≤ prog.length - p ∧ SG prog p rec a x m (v, (t : Int)) ∧ Ev (fun k => runF k prog rec ⟨a, x, m, (p : Int), (st : Int)⟩) (v, sE) ∧ sE.st = ((st + t : Nat) : Int) := by
  intro d
  induction d with
  | zero => intro p hp hd; omega
  | succ d ih =>
    intro p hp hd a x m st ha hx hm hml hst
    have hrd := rdIns_eq prog p hp
    have en : nextS ⟨a, x, m, (p : Int), (st : Int)⟩ = ⟨a, x, m, ((p + 1 : Nat) : Int), ((st + 1 : Nat) : Int)⟩ := by
      unfold nextS
      dsimp only
      rw [wrap64_id (by omega) (by omega), wrap64_id (by omega) (by omega)]
      rfl
    rcases step_both prog rec hl p hp (hf p hp) (hR _ (List.getElem_mem hp)) hrec hrl a x m ha hx hm hml st (by omega) with ⟨v, hv, hS, s2, h2, h3⟩ | ⟨a', x', m', s, ha', hx', hm', hml', hps, hS, h2⟩
    · refine ⟨v, 1, s2, hv, Nat.le_refl _, by omega, hS, ev_one (f := fun _ => some (v, s2)) (fun k => ?_) (ev_is fun _ => rfl), h3⟩
      rw [runF, if_pos ⟨by dsimp only; omega, by dsimp only; omega⟩, en, hrd, h2]
      rfl
    · obtain ⟨v, t, sE, hv, t1, t2, hS2, hI, hst2⟩ := ih (p + 1 + s) hps (by omega) a' x' m' (st + 1) ha' hx' hm' hml' (by omega)
      have e : wrap64 ((t : Int) + 1) = ((t + 1 : Nat) : Int) := by rw [wrap64_id (by omega) (by omega)]; omega
      have hS3 := hS _ hS2
      dsimp only at hS3
      rw [e] at hS3
      refine ⟨v, t + 1, sE, hv, Nat.le_add_left 1 t, run_arith hps t2, hS3, ev_one (fun k => ?_) hI, by rw [hst2, Nat.add_right_comm, Nat.add_assoc]⟩
      rw [runF, if_pos ⟨by dsimp only; omega, by dsimp only; omega⟩, en, hrd, h2]
      rfl
/-- Run, on both sides. -/
theorem runs_ev (l : List S54) (rec : List Int) (hR : ∀ x ∈ l, InsR x) (hrec : ∀ x ∈ rec, 0 ≤ x ∧ x < 256) : ∃ r, Ev (fun k => spec_Run.f k l rec) r ∧ Ev (fun k => impl_Run.f k l rec) r := by
  have hs := specValidate_ev l hR
  have hi := implValidate_ev l hR
  have hsv : Ev (fun k => spec_l1valid.f k l) (decide ((validN l).1 = 0)) := by
    obtain ⟨K, h⟩ := ev_get hs
    refine ev_mk K fun k hk => ?_
    unfold spec_l1valid.f
    refine bo (h k hk) ?_
    by_cases c : (validN l).1 = 0 <;> simp [c]
  by_cases c : (validN l).1 = 0
  · rw [decide_eq_true c] at hsv
    by_cases c6 : rec.length = 64
    · obtain ⟨⟨b1, b2⟩, hf⟩ := valid_facts l c
      obtain ⟨v, t, sE, hv, t1, t2, hS, hI, hst⟩ := run_both l rec b2 hf hR hrec c6 l.length 0 (by omega) (by omega) 0 0 (List.replicate 16 0) 0 ⟨by decide, by decide⟩ ⟨by decide, by decide⟩ (fun y hy => by rw [List.eq_of_mem_replicate hy]; exact ⟨by decide, by decide⟩) (List.length_replicate ..) (Nat.le_refl _)
      refine ⟨(v, (t : Int), 0), ?_, ?_⟩
      · unfold spec_Run.f
        refine ev_bind hsv ?_
        simp only [if_true]
        rw [show (rec.length : Int) = 64 by omega]
        simp only [if_true]
        obtain ⟨K, h⟩ := ev_get hS
        refine ev_mk K fun k hk => ?_
        have h1 : spec_l1run.f k l rec = some (v, (t : Int)) := by
          unfold spec_l1run.f
          rw [if_pos (by decide)]
          exact bo (h k hk) rfl
        refine bo h1 ?_
        dsimp only
        rw [Int.emod_eq_of_lt hv.1 hv.2]
      · unfold impl_Run.f
        refine ev_bind hi ?_
        simp only [c, c6, if_true]
        refine ev_bind hI ?_
        refine ev_is fun _ => ?_
        dsimp only
        rw [hst, Nat.zero_add]
    · refine ⟨(0, 0, 1), ?_, ?_⟩
      · unfold spec_Run.f
        refine ev_bind hsv (ev_is fun _ => ?_)
        rw [if_pos rfl, if_neg (by omega)]
      · unfold impl_Run.f
        refine ev_bind hi (ev_is fun _ => ?_)
        rw [if_pos c, if_neg c6]
  · rw [decide_eq_false c] at hsv
    refine ⟨(0, 0, 1), ?_, ?_⟩
    · unfold spec_Run.f
      refine ev_bind hsv (ev_is fun _ => ?_)
      rw [if_neg (by decide)]
    · unfold impl_Run.f
      refine ev_bind hi (ev_is fun _ => ?_)
      rw [if_neg c]
end Go.Proofs.Ytgodbniphkfgfaa.P

namespace Go.Proofs.Ytgodbniphkfgfaa.P
open Go.RowKit Go.Proofs.YtgodbniphkfgfaaW.PrintWords Go.Proofs.YtgodbniphkfgfaaW.PrintLast Go.Proofs.YtgodbniphkfgfaaW.PrintMore
attribute [local go_sem] max2_int min2_int max_two min_two max_three min_three max_four min_four   -- for this text's walks alone
set_option linter.unusedVariables false
set_option linter.unusedSimpArgs false

/-! ### laws_toByteS: function 8 -/
def laws_toByteS.l0 : Nat → List Int → List Int → Int → Option (List Int)
  | 0, _, _, _ => none
  | k + 1, x0, x3, x4 => if x4 < (x0.length : Int) then (if 0 ≤ x4 then (if x4 < (x3.length : Int) then (laws_toByteS.l0 k x0 (x3.set (x4 : Int).toNat (rd x0 x4)) (wrap64 (x4 + 1))) else (none)) else (none)) else (some x3)
def laws_toByteS.f (k : Nat) (l0 : List Int) : Option (List Int) := if 0 ≤ (l0.length : Int) then (if ((l0.length : Int) : Int).toNat ≤ 281474976710656 then (laws_toByteS.l0 k l0 (List.replicate ((l0.length : Int) : Int).toNat 0) 0) else (none)) else (none)
set_option maxHeartbeats 8000000 in
set_option maxRecDepth 100000 in
theorem laws_toByteS.calls (k : Nat) (A0 : Option Addr) (c0 : Nat) (l0 : List Int) (r : List Int) (w : World) (hr0 : Kd.C (Kd.int .u8) w A0 l0.length l0) (hc0 : l0.length ≤ c0) (h : laws_toByteS.f k l0 = some r) :
    Calls Try.prog 8 #[.slice A0 l0.length c0] w fun e w' => ∃ v0_ : Value, e = .returned (v0_) ∧ Kd.R (Kd.int .u8) 5 w' w.heap.size (fun _ => True) v0_ r ∧ Below w.heap.size w w' := by
  have HR0 := Aside0.mk hr0
  have HC0 := Aside0.mk hc0
  clear hr0 hc0
  have HB := Aside0.mk (Below.refl w.heap.size w)
  have H : (if 0 ≤ (l0.length : Int) then (if ((l0.length : Int) : Int).toNat ≤ 281474976710656 then (laws_toByteS.l0 k l0 (List.replicate ((l0.length : Int) : Int).toNat 0) 0) else (none)) else (none)) = some r := h
  clear h
  by_cases c2 : 0 ≤ (l0.length : Int)
  · rw [if_pos c2] at H
    have c2b0 := eq_true c2
    have c2b1 : decide (0 ≤ (l0.length : Int)) = true := decide_eq_true c2
    clear c2
    by_cases c3 : ((l0.length : Int) : Int).toNat ≤ 281474976710656
    · rw [if_pos c3] at H
      have c3b0 := eq_true c3
      have c3b1 : decide (((l0.length : Int) : Int).toNat ≤ 281474976710656) = true := decide_eq_true c3
      clear c3
      obtain ⟨y111, hy111⟩ : ∃ y_ : List Int, y_ = (List.replicate ((l0.length : Int) : Int).toNat 0) := ⟨_, rfl⟩
      replace H : (laws_toByteS.l0 k l0 y111 0) = some r := by first | (rw [hy111]; with_reducible exact H) | (have H2_ := (Option.bind_some _ _).symm.trans H; rw [hy111]; with_reducible exact H2_) | (have H2_ := (Option.bind_some _ _).symm.trans H; with_reducible exact H2_) | with_reducible exact H | (rw [hy111]; exact H) | exact H
      have Ny111 := Aside0.mk hy111
      clear hy111
      have H' := Aside0.mk H
      clear H
      go_enter Try.func8, Try.ntmps8
      go_wp2_with (first | ((with_reducible refine gate_dst (N := 7) rfl ?_); refine Kd.R_make (Kd.int .u8) _ 5 rfl (N := 7) rfl 22 _ _ rfl (l0.length : Int) rfl rfl Try.underlying22 (.int .u8 0) 1 info5 rfl (by decide) (by omega) 0 (ok := fun _ => True) (okp := fun _ => True) rfl (fun _ hk => hk) trivial (of_decide_eq_true (by first | (with_reducible assumption) | assumption)) (Nat.le_trans (Nat.mul_le_mul_right _ (of_decide_eq_true (by first | (with_reducible assumption) | assumption) : (l0.length : Int).toNat ≤ 281474976710656)) (by omega)) (Below.refl _ _) (Nat.le_refl _) ?_; intro v112 w4 ho5 hb hg_ hnew_; clear hg_ hnew_; (first | rw [← Ny111.out] at ho5 | (simp only [Int.reduceToNat] at ho5; rw [← Ny111.out] at ho5)); have n0_ := Aside0.mk (Kd.R_lower ho5 (below_size (by repeat (first | (with_reducible first | exact HB.out | apply below_alloc | apply pw_below_drewN | apply below_drew1) | exact HB.out)))); have n1_ := Aside0.mk (below_step (by repeat (first | (with_reducible first | exact HB.out | apply below_alloc | apply pw_below_drewN | apply below_drew1) | exact HB.out)) hb); clear HB; have HO113 := n0_; have HB := n1_; clear n0_ n1_; clear hb ho5))
      go_loopg [4] k (fun kq v4 w' => ∃ (x3_1 : List Int) (x4_1 : Int), v4 = .int .i64 x4_1 ∧ Aside0 (laws_toByteS.l0 kq l0 x3_1 x4_1 = some r) ∧ Aside0 (kq ≤ k) ∧ Aside0 (Kd.R (Kd.int .u8) 5 w' w.heap.size (fun _ => True) v112 x3_1) ∧ Aside0 (Below w.heap.size w w'))
      case atStart => exact ⟨(y111), (0), (by first | rfl | (simp; done) | (simp [*]; done)), H', ⟨Nat.le_refl _⟩, ⟨by (with_reducible repeat (first | apply Kd.R_alloc | apply Kd.R_drewN | apply Kd.R_drew)); exact HO113.out⟩, ⟨by repeat (first | (with_reducible first | exact HB.out | apply below_alloc | apply pw_below_drewN | apply below_drew1) | exact HB.out)⟩⟩
      case round =>
        clear H'
        try clear c2
        try clear c2b0
        try clear c2b1
        try clear p2
        try clear c3
        try clear c3b0
        try clear c3b1
        obtain ⟨x3_1, x4_1, rfl, HA, HK1, HO_3, HB⟩ := hrel
        cases gk with
        | zero => exact absurd HA.out (by simp [laws_toByteS.l0])
        | succ k1 =>
          have H := HA.out
          clear HA
          simp only [laws_toByteS.l0] at H
          by_cases c6 : x4_1 < (l0.length : Int)
          · rw [if_pos c6] at H
            have c6b0 : decide (x4_1 < (l0.length : Int)) = true := decide_eq_true c6
            clear c6
            by_cases c7 : 0 ≤ x4_1
            · rw [if_pos c7] at H
              have c7b0 : decide (0 ≤ x4_1) = true := decide_eq_true c7
              clear c7
              by_cases c8 : x4_1 < (x3_1.length : Int)
              · rw [if_pos c8] at H
                have c8b0 : decide (x4_1 < (x3_1.length : Int)) = true := decide_eq_true c8
                clear c8
                obtain ⟨y115, hy115⟩ : ∃ y_ : List Int, y_ = (x3_1.set (x4_1 : Int).toNat (rd l0 x4_1)) := ⟨_, rfl⟩
                replace H : (laws_toByteS.l0 k1 l0 y115 (wrap64 (x4_1 + 1))) = some r := by first | (rw [hy115]; with_reducible exact H) | (have H2_ := (Option.bind_some _ _).symm.trans H; rw [hy115]; with_reducible exact H2_) | (have H2_ := (Option.bind_some _ _).symm.trans H; with_reducible exact H2_) | with_reducible exact H | (rw [hy115]; exact H) | exact H
                have Ny115 := Aside0.mk hy115
                clear hy115
                have H' := Aside0.mk H
                clear H
                have p114 : 0 ≤ (x4_1 : Int) := of_decide_eq_true (by first | (with_reducible assumption) | assumption)
                have q114 : x4_1 < (l0.length : Int) := of_decide_eq_true (by first | (with_reducible assumption) | assumption)
                obtain ⟨ad114, e114, hx114_0⟩ := Kd.at_int HR0.out x4_1 p114 q114
                cases e114
                replace hx114_0 := (HB.out.cell (World.block_lt_of_cell? w _ hx114_0)).trans hx114_0
                replace p114 := eq_true p114
                replace q114 := eq_true q114
                have p9 : 0 ≤ (x4_1 : Int) := of_decide_eq_true (by first | (with_reducible assumption) | assumption)
                have q9 : (x4_1 : Int) < ((x3_1.length : Int) : Int) := of_decide_eq_true (by first | (with_reducible assumption) | assumption)
                obtain ⟨go9, co9, eo9, gb9, gl9, cl9, HG9⟩ := Kd.R_form HO_3.out (by omega)
                (first | cases eo9 | (injection eo9 with ea_ en_ ec_; (first | subst ea_ | (injection ea_ with ea_; subst ea_)); subst ec_; clear en_))
                have GB9 := Aside0.mk gb9
                have GG9 := Aside0.mk HG9
                clear gb9 gl9 HG9
                obtain ⟨hx9_0, hf9_0⟩ := Kd.R_celln 0 HO_3.out (x4_1 : Int) p9 q9
                replace p9 := eq_true p9
                replace q9 := eq_true q9
                have HP10 := Kd.R_putg HO_3.out (x4_1 : Int) (rd l0 x4_1)
                go_wp2_with (first | ((with_reducible refine gate_store (t := 5) (p := 20) rfl ?_); refine store_event (t := 5) (p := 20) (v := ?vo_w11) (w1 := (wr.setCell ⟨go9, (x4_1 : Int).toNat, none⟩ (.int .u8 (rd l0 x4_1)))) ?hg ?ho ?hn ?hr ?_; (case ho => rfl); (case hg => rfl); (case hn => rfl); (case hr => first | (go_simp; done) | (go_simp; rfl)); intro w11 hw; have hg : wr.grownBy w11 (some go9) := (by rw [hw]; exact HP10.2); have hp_ : Kd.R (Kd.int .u8) 5 w11 w.heap.size (fun _ => True) (.slice (some ⟨go9, 0, none⟩) x3_1.length co9) y115 := (by rw [hw, Ny115.out]; exact HP10.1); clear HP10; have n0_ := Aside0.mk (hp_); have n1_ := Aside0.mk ((by rw [hw]; exact below_set (HB.out) GB9.out : Below w.heap.size w w11)); clear HO_3; clear HB; have HO_3 := n0_; have HB := n1_; clear n0_ n1_; clear hg hw hp_))
                go_roundg k1
                case measure => have := HK1.out; omega
                case rel => exact ⟨(y115), (wrap64 (x4_1 + 1)), (by first | rfl | (simp; done) | (simp [*]; done)), H', ⟨by have := HK1.out; omega⟩, ⟨by (with_reducible repeat (first | apply Kd.R_alloc | apply Kd.R_drewN | apply Kd.R_drew)); exact HO_3.out⟩, ⟨by repeat (first | (with_reducible first | exact HB.out | apply below_alloc | apply pw_below_drewN | apply below_drew1) | exact HB.out)⟩⟩
              · rw [if_neg c8] at H
                exact absurd H (by simp)
            · rw [if_neg c7] at H
              exact absurd H (by simp)
          · rw [if_neg c6] at H
            have c6b0 : decide (x4_1 < (l0.length : Int)) = false := decide_eq_false c6
            clear c6
            obtain rfl := Option.some.inj H
            go_wp2
            go_ret
            exact ⟨_, by first | rfl | (simp [errW_none, errW_some] <;> rfl) | (simp [*, errW_none, errW_some] <;> rfl), by (with_reducible repeat (first | apply Kd.R_alloc | apply Kd.R_drewN | apply Kd.R_drew)); exact HO_3.out, by repeat (first | (with_reducible first | exact HB.out | apply below_alloc | apply pw_below_drewN | apply below_drew1) | exact HB.out)⟩
    · rw [if_neg c3] at H
      exact absurd H (by simp)
  · rw [if_neg c2] at H
    exact absurd H (by simp)

end Go.Proofs.Ytgodbniphkfgfaa.P

namespace Go.Proofs.Ytgodbniphkfgfaa.P
open Go.RowKit Go.Proofs.YtgodbniphkfgfaaW.PrintWords Go.Proofs.YtgodbniphkfgfaaW.PrintLast Go.Proofs.YtgodbniphkfgfaaW.PrintMore
attribute [local go_sem] max2_int min2_int max_two min_two max_three min_three max_four min_four   -- for this text's walks alone
set_option linter.unusedVariables false
set_option linter.unusedSimpArgs false

/-! ### laws_eqByteS: function 11 -/
def laws_eqByteS.l0 : Nat → List Int → List Int → Int → Option (Bool)
  | 0, _, _, _ => none
  | k + 1, x0, x1, x5 => if x5 < (x0.length : Int) then (if 0 ≤ x5 then (if x5 < (x1.length : Int) then (if (rd x0 x5) = (rd x1 x5) then (laws_eqByteS.l0 k x0 x1 (wrap64 (x5 + 1))) else (some false)) else (none)) else (none)) else (some true)
def laws_eqByteS.f (k : Nat) (l0 : List Int) (l1 : List Int) : Option (Bool) := if (l0.length : Int) = (l1.length : Int) then (laws_eqByteS.l0 k l0 l1 0) else (some false)
set_option maxHeartbeats 8000000 in
set_option maxRecDepth 100000 in
theorem laws_eqByteS.calls (k : Nat) (A0 : Option Addr) (c0 : Nat) (l0 : List Int) (A1 : Option Addr) (c1 : Nat) (l1 : List Int) (r : Bool) (w : World) (hr0 : Kd.C (Kd.int .u8) w A0 l0.length l0) (hc0 : l0.length ≤ c0) (hr1 : Kd.C (Kd.int .u8) w A1 l1.length l1) (hc1 : l1.length ≤ c1) (h : laws_eqByteS.f k l0 l1 = some r) :
    Calls Try.prog 11 #[.slice A0 l0.length c0, .slice A1 l1.length c1] w fun e w' => e = .returned (.bool r) ∧ Drawn0 w w' := by
  have HR0 := Aside0.mk hr0
  have HC0 := Aside0.mk hc0
  clear hr0 hc0
  have HR1 := Aside0.mk hr1
  have HC1 := Aside0.mk hc1
  clear hr1 hc1
  have H : (if (l0.length : Int) = (l1.length : Int) then (laws_eqByteS.l0 k l0 l1 0) else (some false)) = some r := h
  clear h
  by_cases c3 : (l0.length : Int) = (l1.length : Int)
  · rw [if_pos c3] at H
    have c3b0 : ((l0.length : Int) == (l1.length : Int)) = true := beq_iff_eq.mpr c3
    have c3b1 : ((l0.length : Int) != (l1.length : Int)) = false := bne_eq_false_iff_eq.mpr c3
    have c3b2 : (l0.length == l1.length) = true := by first | simpa using c3 | (simp at c3 ⊢; omega)
    clear c3
    have H' := Aside0.mk H
    clear H
    go_enter Try.func11, Try.ntmps11
    go_wp2
    repeat (go_quiet (fail); try go_wp2)
    go_loopg [5] k (fun kq v5 w' => ∃ (x5_1 : Int), v5 = .int .i64 x5_1 ∧ Aside0 (laws_eqByteS.l0 kq l0 l1 x5_1 = some r) ∧ Aside0 (kq ≤ k) ∧ Drawn0 w w')
    case atStart => exact ⟨(0), (by first | rfl | (simp; done) | (simp [*]; done)), H', ⟨Nat.le_refl _⟩, by repeat (first | exact Drawn0.refl _ | apply Drawn0.step)⟩
    case round =>
      clear H'
      try clear c1
      try clear p2
      try clear c3
      try clear c3b0
      try clear c3b1
      try clear c3b2
      obtain ⟨x5_1, rfl, HA, HK1, ⟨m1, rfl⟩⟩ := hrel
      cases gk with
      | zero => exact absurd HA.out (by simp [laws_eqByteS.l0])
      | succ k1 =>
        have H := HA.out
        clear HA
        simp only [laws_eqByteS.l0] at H
        by_cases c4 : x5_1 < (l0.length : Int)
        · rw [if_pos c4] at H
          have c4b0 : decide (x5_1 < (l0.length : Int)) = true := decide_eq_true c4
          clear c4
          by_cases c5 : 0 ≤ x5_1
          · rw [if_pos c5] at H
            have c5b0 : decide (0 ≤ x5_1) = true := decide_eq_true c5
            clear c5
            by_cases c6 : x5_1 < (l1.length : Int)
            · rw [if_pos c6] at H
              have c6b0 : decide (x5_1 < (l1.length : Int)) = true := decide_eq_true c6
              clear c6
              by_cases c7 : (rd l0 x5_1) = (rd l1 x5_1)
              · rw [if_pos c7] at H
                have c7b0 : ((rd l0 x5_1) == (rd l1 x5_1)) = true := beq_iff_eq.mpr c7
                have c7b1 : ((rd l0 x5_1) != (rd l1 x5_1)) = false := bne_eq_false_iff_eq.mpr c7
                clear c7
                have H' := Aside0.mk H
                clear H
                have p124 : 0 ≤ (x5_1 : Int) := of_decide_eq_true (by first | (with_reducible assumption) | assumption)
                have q124 : x5_1 < (l0.length : Int) := of_decide_eq_true (by first | (with_reducible assumption) | assumption)
                obtain ⟨ad124, e124, hx124_0⟩ := Kd.at_int HR0.out x5_1 p124 q124
                cases e124
                replace p124 := eq_true p124
                replace q124 := eq_true q124
                have p125 : 0 ≤ (x5_1 : Int) := of_decide_eq_true (by first | (with_reducible assumption) | assumption)
                have q125 : x5_1 < (l1.length : Int) := of_decide_eq_true (by first | (with_reducible assumption) | assumption)
                obtain ⟨ad125, e125, hx125_0⟩ := Kd.at_int HR1.out x5_1 p125 q125
                cases e125
                replace p125 := eq_true p125
                replace q125 := eq_true q125
                go_wp2
                repeat (go_quiet (fail); try go_wp2)
                go_roundg k1
                case measure => have := HK1.out; omega
                case rel => exact ⟨(wrap64 (x5_1 + 1)), (by first | rfl | (simp; done) | (simp [*]; done)), H', ⟨by have := HK1.out; omega⟩, by repeat (first | exact Drawn0.refl _ | apply Drawn0.step)⟩
              · rw [if_neg c7] at H
                have c7b0 : ((rd l0 x5_1) == (rd l1 x5_1)) = false := beq_eq_false_iff_ne.mpr c7
                have c7b1 : ((rd l0 x5_1) != (rd l1 x5_1)) = true := bne_iff_ne.mpr c7
                obtain rfl := Option.some.inj H
                have p124 : 0 ≤ (x5_1 : Int) := of_decide_eq_true (by first | (with_reducible assumption) | assumption)
                have q124 : x5_1 < (l0.length : Int) := of_decide_eq_true (by first | (with_reducible assumption) | assumption)
                obtain ⟨ad124, e124, hx124_0⟩ := Kd.at_int HR0.out x5_1 p124 q124
                cases e124
                replace p124 := eq_true p124
                replace q124 := eq_true q124
                have p125 : 0 ≤ (x5_1 : Int) := of_decide_eq_true (by first | (with_reducible assumption) | assumption)
                have q125 : x5_1 < (l1.length : Int) := of_decide_eq_true (by first | (with_reducible assumption) | assumption)
                obtain ⟨ad125, e125, hx125_0⟩ := Kd.at_int HR1.out x5_1 p125 q125
                cases e125
                replace p125 := eq_true p125
                replace q125 := eq_true q125
                go_wp2
                repeat (go_quiet (fail); try go_wp2)
                go_ret
                exact ⟨by first | rfl | (simp; done) | (simp [*]; done), by repeat (first | exact Drawn0.refl _ | apply Drawn0.step)⟩
            · rw [if_neg c6] at H
              exact absurd H (by simp)
          · rw [if_neg c5] at H
            exact absurd H (by simp)
        · rw [if_neg c4] at H
          have c4b0 : decide (x5_1 < (l0.length : Int)) = false := decide_eq_false c4
          clear c4
          obtain rfl := Option.some.inj H
          go_wp2
          repeat (go_quiet (fail); try go_wp2)
          go_ret
          exact ⟨by first | rfl | (simp; done) | (simp [*]; done), by repeat (first | exact Drawn0.refl _ | apply Drawn0.step)⟩
  · rw [if_neg c3] at H
    have c3b0 : ((l0.length : Int) == (l1.length : Int)) = false := beq_eq_false_iff_ne.mpr c3
    have c3b1 : ((l0.length : Int) != (l1.length : Int)) = true := bne_iff_ne.mpr c3
    have c3b2 : (l0.length == l1.length) = false := by first | simpa using c3 | (simp at c3 ⊢; omega)
    obtain rfl := Option.some.inj H
    go_enter Try.func11, Try.ntmps11
    go_wp2
    repeat (go_quiet (fail); try go_wp2)
    go_ret
    exact ⟨by first | rfl | (simp; done) | (simp [*]; done), by repeat (first | exact Drawn0.refl _ | apply Drawn0.step)⟩

end Go.Proofs.Ytgodbniphkfgfaa.P
