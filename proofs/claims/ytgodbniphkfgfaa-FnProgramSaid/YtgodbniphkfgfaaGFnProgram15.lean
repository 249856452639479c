import Derived.Test.YtgodbniphkfgfaaGFnProgram14
import Derived.Test.YtgodbniphkfgfaaGFnProgram9
import Derived.Test.YtgodbniphkfgfaaGFnProgram13
import Derived.Test.YtgodbniphkfgfaaGFnProgram4
import Derived.Test.YtgodbniphkfgfaaGFnProgram5
namespace Go.Proofs.Ytgodbniphkfgfaa.P
open Go.RowKit Go.Proofs.YtgodbniphkfgfaaW.PrintWords Go.Proofs.YtgodbniphkfgfaaW.PrintLast Go.Proofs.YtgodbniphkfgfaaW.PrintMore
set_option linter.unusedVariables false
set_option linter.unusedSimpArgs false
def le (v : Int) (n : Nat) : List Int := (List.range n).map fun i => v / 256 ^ i % 256
theorem le_length (v : Int) (n : Nat) : (le v n).length = n := by simp [le]
theorem le_succ (v : Int) (n : Nat) : le v (n + 1) = le v n ++ [v / 256 ^ n % 256] := by
  simp [le, List.range_succ]
theorem le_mem (v : Int) (n : Nat) : ∀ x ∈ le v n, 0 ≤ x ∧ x < 256 := by
  intro x hx
  simp only [le, List.mem_map] at hx
  obtain ⟨i, _, rfl⟩ := hx
  omega
theorem div_pow_succ (v : Int) (i : Nat) : v / 256 ^ (i + 1) = v / 256 ^ i / 256 := by
  rw [Int.pow_succ, Int.ediv_ediv_of_nonneg (Int.le_of_lt (Int.pow_pos (by decide)))]
theorem div_pow_range (v : Int) (h0 : 0 ≤ v) (h1 : v < 18446744073709551616) (i : Nat) : 0 ≤ v / 256 ^ i ∧ v / 256 ^ i < 18446744073709551616 := by
  have hp : (0 : Int) < 256 ^ i := Int.pow_pos (by decide)
  exact ⟨Int.ediv_nonneg h0 (Int.le_of_lt hp), Int.lt_of_le_of_lt (Int.ediv_le_self _ h0) h1⟩
theorem wrap_u64_id' {x : Int} (h0 : 0 ≤ x) (h1 : x < 18446744073709551616) : IntKind.u64.wrap x = x := by
  simp [IntKind.wrap, IntKind.bits, IntKind.signed]; omega
theorem l1little_ev (v : Int) (n : Nat) (h0 : 0 ≤ v) (h1 : v < 18446744073709551616) (hn : n ≤ 1000000) : Ev (fun k => Zca.f k v n) (le v n) := by
  have key := ev_loop (fun k (s : Int × List Int) i => Zca.l0 k s.1 n s.2 i) n (fun i => (v / 256 ^ i, le v i)) (v, []) (v / 256 ^ n, le v n) (by simp [le]) rfl (fun i hi r hr => by
    have hr2 := div_pow_range v h0 h1 i
    have hr3 := div_pow_range v h0 h1 (i + 1)
    rw [div_pow_succ] at hr3
    refine ev_step _ (fun k => ?_) hr
    simp only [Zca.l0]
    rw [if_pos (by omega), le_length, if_pos (by omega), Int.tdiv_eq_ediv_of_nonneg hr2.1, Int.tmod_eq_emod_of_nonneg hr2.1, wrap_u64_id' hr3.1 hr3.2, Zaj (by omega) (by omega), le_succ, div_pow_succ, show v / 256 ^ i % 256 % 256 = v / 256 ^ i % 256 by omega]
    rfl) (le v n)
  refine Ev.congr (fun k => rfl) (key (ev_end fun k => ?_))
  simp only [Zca.l0]
  rw [if_neg (by omega)]
theorem insR_lit (c t f k : Int) (h : (0 ≤ c ∧ c < 65536) ∧ (0 ≤ t ∧ t < 256) ∧ (0 ≤ f ∧ f < 256) ∧ 0 ≤ k ∧ k < 4294967296) : InsR ⟨c, t, f, k⟩ := h
theorem codes_is : ∃ L : List Int, spec_l1codes.f = some L ∧ L.length = 39 ∧ ∀ x ∈ L, 0 ≤ x ∧ x < 256 := by
  refine ⟨_, rfl, rfl, ?_⟩
  decide
theorem ins_j3 (x8 x10 : Int) (b : Bool) (l : List Int) (i : Int) (h : Rd l i) (h8 : 0 ≤ x8) (h10 : 0 ≤ x10 ∧ x10 ≤ 1000) (c t f kk : Int) (hI : InsR ⟨c, t, f, kk⟩) :
    EvT (fun n => Zax.j3 n x8 x10 b l i c t f kk) (fun r => InsR ⟨r.1, r.2.1, r.2.2.1, r.2.2.2.1⟩ ∧ Rd l r.2.2.2.2) := by
  have hI' := hI
  obtain ⟨hc, ht, hf, hk0, hk1⟩ := hI'
  dsimp only at hc ht hf hk0 hk1
  have w1 : wrap64 (x10 + 1) = x10 + 1 := Zaj (by omega) (by omega)
  refine evt_step _ (fun k => by simp only [Zax.j3]; rfl) ?_
  refine Zau (fun _ => Zbb ⟨⟨hc, ht, hf, ?_⟩, h⟩) fun _ => ?_
  · have := @tmod_bd kk 32 hk0 (by decide)
    dsimp only
    omega
  refine Zbl (evt_ev (P := fun _ => True) (l1isTest_ev x8 h8) trivial) fun b _ => ?_
  refine Zau (fun _ => ?_) fun _ => ?_
  · refine Zbl (next_t l i h) ?_
    rintro ⟨v1, j1⟩ ⟨_, _, g1⟩
    refine Zbl (next_t l j1 g1) ?_
    rintro ⟨v2, j2⟩ ⟨_, _, g2⟩
    dsimp only
    rw [w1]
    refine Zau (fun hz => absurd hz (by omega)) fun _ => Zbb ⟨⟨hc, ?_, ?_, hk0, hk1⟩, g2⟩
    · dsimp only; omega
    · dsimp only; omega
  · refine Zau (fun _ => ?_) fun _ => Zau (fun _ => ?_) fun _ => Zbb ⟨hI, h⟩
    · refine Zbl (next_t l i h) ?_
      rintro ⟨v1, j1⟩ ⟨_, _, g1⟩
      exact Zbb ⟨⟨hc, by dsimp only; omega, hf, hk0, hk1⟩, g1⟩
    · refine Zbl (next_t l i h) ?_
      rintro ⟨v1, j1⟩ ⟨_, _, g1⟩
      exact Zbb ⟨⟨hc, by dsimp only; omega, hf, hk0, hk1⟩, g1⟩
theorem ins_j2 (x8 x10 : Int) (b : Bool) (l : List Int) (i : Int) (h : Rd l i) (h8 : 0 ≤ x8) (h10 : 0 ≤ x10 ∧ x10 ≤ 1000) (c t f kk : Int) (hI : InsR ⟨c, t, f, kk⟩) :
    EvT (fun n => Zax.j2 n x8 x10 b l i c t f kk) (fun r => InsR ⟨r.1, r.2.1, r.2.2.1, r.2.2.2.1⟩ ∧ Rd l r.2.2.2.2) := by
  have hI' := hI
  obtain ⟨hc, ht, hf, hk0, hk1⟩ := hI'
  dsimp only at hc ht hf hk0 hk1
  have w1 : wrap64 (x10 + 1) = x10 + 1 := Zaj (by omega) (by omega)
  refine evt_step _ (fun k => by simp only [Zax.j2]; rfl) ?_
  refine Zau (fun _ => ?_) fun _ => ?_
  · refine Zbl (next_t l i h) ?_
    rintro ⟨v1, j1⟩ ⟨_, _, g1⟩
    have := @tmod_bd kk 3 hk0 (by decide)
    exact Zau (fun _ => Zbb ⟨⟨hc, ht, hf, by dsimp only; omega⟩, g1⟩) fun _ => Zbb ⟨⟨hc, ht, hf, by dsimp only; omega⟩, g1⟩
  rw [w1, Int.emod_eq_of_lt (by omega) (by omega)]
  refine Zau (fun _ => ?_) fun _ => Zau (fun _ => ?_) fun _ => Zau (fun _ => ?_) fun _ => ?_
  · have m1 := @tmod_bd kk (x10 + 1) hk0 (by omega)
    have m2 := @tmod_bd (Int.tmod kk (x10 + 1)) 5 m1.1 (by decide)
    exact Zau (fun hz => absurd hz (by omega)) fun _ => Zbb ⟨⟨hc, ht, hf, by dsimp only; omega⟩, h⟩
  · exact Zbb ⟨insR_lit _ _ _ _ ⟨hc, ht, hf, bits_u32 .or kk 1⟩, h⟩
  · exact ins_j3 x8 x10 _ l i h h8 h10 c t f kk hI
  · exact ins_j3 x8 x10 _ l i h h8 h10 c t f kk hI
theorem ins_j1 (a1 a2 x8 : Int) (l : List Int) (i : Int) (h : Rd l i) (h8 : 0 ≤ x8) (ha : 0 ≤ a1 ∧ a1 ≤ a2 - 2 ∧ a2 ≤ 1000) :
    EvT (fun n => Zax.j1 n a1 a2 x8 l i) (fun r => InsR ⟨r.1, r.2.1, r.2.2.1, r.2.2.2.1⟩ ∧ Rd l r.2.2.2.2) := by
  have w1 : wrap64 (wrap64 (a2 - a1) - 2) = a2 - a1 - 2 := by rw [Zaj (i := a2 - a1) (by omega) (by omega), Zaj (by omega) (by omega)]
  have u16 := wrap_range .u16 rfl x8
  simp only [IntKind.bits] at u16
  refine evt_step _ (fun k => by simp only [Zax.j1]; rfl) ?_
  refine Zbl (word_t l i h) ?_
  rintro ⟨v, j⟩ ⟨⟨h1, h2⟩, h3⟩
  dsimp only at h1 h2 h3 ⊢
  rw [w1]
  have hI : InsR ⟨IntKind.u16.wrap x8, 0, 0, v⟩ := insR_lit _ _ _ _ ⟨⟨u16.1, by omega⟩, ⟨by decide, by decide⟩, ⟨by decide, by decide⟩, h1, h2⟩
  refine Zau (fun _ => ?_) fun _ => Zau (fun _ => ?_) fun _ => Zau (fun _ => ?_) fun _ => Zau (fun _ => ?_) fun _ => ?_
  · exact Zbb ⟨⟨hI.1, hI.2.1, hI.2.2.1, by dsimp only; omega⟩, h3⟩
  all_goals exact ins_j2 x8 _ _ l j h3 h8 (by omega) _ _ _ _ hI
theorem ins_j0 (a1 a2 x8 : Int) (b : Bool) (l : List Int) (i : Int) (h : Rd l i) (h8 : 0 ≤ x8) (ha : 0 ≤ a1 ∧ a1 ≤ a2 - 2 ∧ a2 ≤ 1000) :
    EvT (fun n => Zax.j0 n a1 a2 x8 b l i) (fun r => InsR ⟨r.1, r.2.1, r.2.2.1, r.2.2.2.1⟩ ∧ Rd l r.2.2.2.2) := by
  refine evt_step _ (fun k => by simp only [Zax.j0]; rfl) ?_
  refine Zau (fun _ => ?_) fun _ => ins_j1 a1 a2 x8 l i h h8 ha
  refine Zbl (next_t l i h) ?_
  rintro ⟨v, j⟩ ⟨_, _, h3⟩
  exact Zau (fun _ => ins_j1 a1 a2 32 l j h3 (by decide) ha) fun _ => ins_j1 a1 a2 x8 l j h3 h8 ha
theorem ins_t (a1 a2 : Int) (l : List Int) (i : Int) (h : Rd l i) (ha : 0 ≤ a1 ∧ a1 ≤ a2 - 2 ∧ a2 ≤ 1000) :
    EvT (fun n => Zax.f n l i a1 a2) (fun r => InsR ⟨r.1, r.2.1, r.2.2.1, r.2.2.2.1⟩ ∧ Rd l r.2.2.2.2) := by
  obtain ⟨L, hL, hL2, hL3⟩ := codes_is
  unfold Zax.f
  rw [hL]
  simp only [Option.bind_some, hL2]
  refine Zbl (next_t l i h) ?_
  rintro ⟨v, j⟩ ⟨h1, h2, h3⟩
  dsimp only at h1 h2 h3 ⊢
  have m := @tmod_bd v ((39 : Nat) : Int) h1 (by decide)
  obtain ⟨q, hq⟩ := Int.eq_ofNat_of_zero_le m.1
  rw [hq] at m ⊢
  have hq2 : q < L.length := by omega
  have hx := hL3 _ (List.getElem_mem hq2)
  rw [rd_eq L q hq2]
  refine Zau (fun hz => absurd hz (by decide)) fun _ => Zau (fun _ => ?_) fun hz => absurd m.1 hz
  refine Zau (fun _ => ?_) fun hz => absurd m.2 hz
  exact Zau (fun _ => ins_j0 a1 a2 _ _ l j h3 hx.1 ha) fun _ => ins_j0 a1 a2 _ _ l j h3 hx.1 ha
theorem all_app {p : List S54} {x : S54} (h : ∀ y ∈ p, InsR y) (hx : InsR x) : ∀ y ∈ p ++ [x], InsR y := fun y hy => by
  rcases List.mem_append.1 hy with hy | hy
  · exact h y hy
  · rw [List.mem_singleton.1 hy]; exact hx
theorem prog_t (l : List Int) (i : Int) (h : Rd l i) : EvT (fun n => Zbq.f n l i) (fun r => (r.1 ≠ [] ∧ r.1.length ≤ 100 ∧ ∀ x ∈ r.1, InsR x) ∧ Rd l r.2) := by
  have key : ∀ (n : Nat), 2 ≤ n → n ≤ 40 → ∀ (d q : Nat), q + d = n - 1 → ∀ (p : List S54) (j : Int), p.length = q → (∀ x ∈ p, InsR x) → Rd l j →
      EvT (fun k => Zbq.l0 k (n : Int) p (q : Int) l j) (fun r => (r.1 ≠ [] ∧ r.1.length ≤ 100 ∧ ∀ x ∈ r.1, InsR x) ∧ Rd l r.2) := by
    intro n hn hn2 d
    have w0 : wrap64 ((n : Int) - 1) = ((n - 1 : Nat) : Int) := by rw [Zaj (by omega) (by omega)]; omega
    induction d with
    | zero =>
      intro q hq p j hp hR hj
      refine evt_step _ (fun k => by simp only [Zbq.l0]; rw [w0, if_neg (by omega)]) ?_
      refine Zbl (next_t l j hj) ?_
      rintro ⟨v, j2⟩ ⟨h1, h2, h3⟩
      refine Zau (fun _ => Zau (fun _ => Zbb ⟨⟨by simp, by simp; omega, all_app hR (by unfold InsR; decide)⟩, h3⟩) fun hz => absurd (by omega) hz) fun _ => Zau (fun _ => Zbb ⟨⟨by simp, by simp; omega, all_app hR (by unfold InsR; decide)⟩, h3⟩) fun hz => absurd (by omega) hz
    | succ d ih =>
      intro q hq p j hp hR hj
      have w1 : wrap64 ((q : Int) + 1) = ((q + 1 : Nat) : Int) := by rw [Zaj (by omega) (by omega)]; omega
      have hlen : p.length < 17592186044416 := by omega
      refine evt_step _ (fun k => by simp only [Zbq.l0]; rw [w0, if_pos (by omega), w1]) ?_
      refine Zau (fun _ => ?_) fun _ => ?_
      · refine Zbl (next_t l j hj) ?_
        rintro ⟨v, j2⟩ ⟨h1, h2, h3⟩
        dsimp only at h1 h2 h3 ⊢
        have m3 := @tmod_bd v 3 h1 (by decide)
        have m16 := @tmod_bd v 16 h1 (by decide)
        have w16 : wrap64 (Int.tmod v 16 * 4) = Int.tmod v 16 * 4 := Zaj (by omega) (by omega)
        rw [w16]
        have nx := fun (x : S54) (hx : InsR x) => ih (q + 1) (by omega) (p ++ [x]) j2 (by simp [hp]) (all_app hR hx) h3
        refine Zau (fun _ => Zau (fun _ => ?_) fun _ => ?_) fun _ => Zau (fun _ => ?_) fun _ => ?_
        all_goals refine Zau (fun _ => nx _ ?_) fun hz => absurd hlen hz
        all_goals refine insR_lit _ _ _ _ ?_
        all_goals omega
      · refine Zbl (ins_t (q : Int) (n : Int) l j hj (by omega)) ?_
        rintro ⟨c, t, f, kk, j2⟩ ⟨h1, h2⟩
        refine Zau (fun _ => ?_) fun hz => absurd hlen hz
        exact ih (q + 1) (by omega) _ j2 (by simp [hp]) (all_app hR h1) h2
  unfold Zbq.f
  refine Zbl (next_t l i h) ?_
  rintro ⟨v, j⟩ ⟨h1, h2, h3⟩
  dsimp only at h1 h2 h3 ⊢
  have m := @tmod_bd v 30 h1 (by decide)
  obtain ⟨q, hq⟩ := Int.eq_ofNat_of_zero_le m.1
  rw [hq] at m ⊢
  have w : wrap64 (2 + (q : Int)) = ((2 + q : Nat) : Int) := by rw [Zaj (by omega) (by omega)]; omega
  rw [w]
  exact key (2 + q) (by omega) (by omega) (2 + q - 1) 0 (by omega) [] j rfl (by simp) h3
theorem long_t (n : Nat) (hn : n ≤ 5000) : EvT (fun k => Zcb.f k (n : Int)) (fun r => r.length ≤ 5000 ∧ ∀ x ∈ r, InsR x) := by
  have key : ∀ (d q : Nat), q + d = n → ∀ (p : List S54), p.length = q → (∀ x ∈ p, InsR x) → EvT (fun k => Zcb.l0 k (n : Int) p (q : Int)) (fun r => r.length ≤ 5000 ∧ ∀ x ∈ r, InsR x) := by
    intro d
    induction d with
    | zero =>
      intro q hq p hp hR
      refine evt_step _ (fun k => by simp only [Zcb.l0]; rw [if_neg (by omega)]) ?_
      refine Zau (fun _ => Zau (fun _ => Zbb ⟨by rw [List.length_set]; omega, fun x hx => ?_⟩) fun hz => absurd (by omega) hz) fun _ => Zbb ⟨by omega, hR⟩
      rcases List.mem_or_eq_of_mem_set hx with hx | rfl
      · exact hR x hx
      · exact insR_lit _ _ _ _ (by omega)
    | succ d ih =>
      intro q hq p hp hR
      have w1 : wrap64 ((q : Int) + 1) = ((q + 1 : Nat) : Int) := by rw [Zaj (by omega) (by omega)]; omega
      refine evt_step _ (fun k => by simp only [Zcb.l0]; rw [if_pos (by omega), w1]) ?_
      refine Zau (fun _ => ?_) fun hz => absurd (by omega) hz
      exact ih (q + 1) (by omega) _ (by simp [hp]) (all_app hR (insR_lit _ _ _ _ (by omega)))
  exact key n 0 (by omega) [] rfl (by simp)
theorem set_all {p : List S54} (h : ∀ y ∈ p, InsR y) (q : Nat) {x : S54} (hx : InsR x) : ∀ y ∈ p.set q x, InsR y := fun y hy => by
  rcases List.mem_or_eq_of_mem_set hy with hy | rfl
  · exact h y hy
  · exact hx
theorem rdR {p : List S54} (h : ∀ y ∈ p, InsR y) (q : Nat) (hq : q < p.length) : InsR (Zb p (q : Int)) := by
  rw [rdIns_eq p q hq]
  exact h _ (List.getElem_mem hq)
theorem spoil_t (p : List S54) (hp : p ≠ []) (hl : p.length ≤ 100) (hR : ∀ x ∈ p, InsR x) (l : List Int) (i : Int) (h : Rd l i) : EvT (fun _ => spec_l1spoil.f p l i) (fun r => (r.1.length ≤ 100 ∧ ∀ x ∈ r.1, InsR x) ∧ Rd l r.2) := by
  have hn : 0 < p.length := List.length_pos_iff.2 hp
  unfold spec_l1spoil.f
  refine Zbl (next_t l i h) ?_
  rintro ⟨v0, j0⟩ ⟨a1, a2, a3⟩
  refine Zbl (next_t l j0 a3) ?_
  rintro ⟨v1, j1⟩ ⟨b1, b2, b3⟩
  refine Zau (fun hz => absurd hz (by omega)) fun _ => ?_
  refine Zbl (next_t l j1 b3) ?_
  rintro ⟨v2, j2⟩ ⟨c1, c2, c3⟩
  dsimp only at a1 a2 a3 b1 b2 b3 c1 c2 c3 ⊢
  have m := @tmod_bd v1 (p.length : Int) b1 (by omega)
  obtain ⟨q, hq⟩ := Int.eq_ofNat_of_zero_le m.1
  rw [hq] at m ⊢
  have hql : q < p.length := by omega
  have m2 := @tmod_bd v2 2 c1 (by decide)
  have m3 := @tmod_bd v2 3 c1 (by decide)
  have m4 := @tmod_bd v2 4 c1 (by decide)
  have m32 := @tmod_bd v2 32 c1 (by decide)
  have w14 : wrap64 (14 + Int.tmod v2 4) = 14 + Int.tmod v2 4 := Zaj (by omega) (by omega)
  have w31 : wrap64 (31 + Int.tmod v2 3) = 31 + Int.tmod v2 3 := Zaj (by omega) (by omega)
  have u16 : ∀ z : Int, 0 ≤ IntKind.u16.wrap z ∧ IntKind.u16.wrap z < 65536 := fun z => by
    have := wrap_range .u16 rfl z
    simp only [IntKind.bits] at this
    omega
  have wl : wrap64 ((p.length : Int) - 1) = ((p.length - 1 : Nat) : Int) := by rw [Zaj (by omega) (by omega)]; omega
  have rR := rdR hR q hql
  have fin : ∀ x : S54, InsR x → ((p.set q x).length ≤ 100 ∧ ∀ y ∈ p.set q x, InsR y) ∧ Rd l j2 := fun x hx => ⟨⟨by rw [List.length_set]; exact hl, set_all hR q hx⟩, c3⟩
  have fin2 : ∀ x y : S54, InsR x → InsR y → (((p.set q x).set q y).length ≤ 100 ∧ ∀ z ∈ (p.set q x).set q y, InsR z) ∧ Rd l j2 := fun x y hx hy => ⟨⟨by rw [List.length_set, List.length_set]; exact hl, set_all (set_all hR q hx) q hy⟩, c3⟩
  have fin3 : ∀ x y z : S54, InsR x → InsR y → InsR z → ((((p.set q x).set q y).set q z).length ≤ 100 ∧ ∀ u ∈ ((p.set q x).set q y).set q z, InsR u) ∧ Rd l j2 := fun x y z hx hy hz => ⟨⟨by rw [List.length_set, List.length_set, List.length_set]; exact hl, set_all (set_all (set_all hR q hx) q hy) q hz⟩, c3⟩
  have g1 : ∀ x : S54, Zb (p.set q x) (q : Int) = x := fun x => by rw [rdIns_eq _ q (by rw [List.length_set]; exact hql), List.getElem_set_self]
  have g2 : ∀ x y : S54, Zb ((p.set q x).set q y) (q : Int) = y := fun x y => by rw [rdIns_eq _ q (by rw [List.length_set, List.length_set]; exact hql), List.getElem_set_self]
  obtain ⟨r0, r1, r2, r3⟩ := rR
  simp only [Option.bind_some, Int.toNat_natCast, g1, g2, wl]
  have hlast : InsR (Zb p ((p.length - 1 : Nat) : Int)) := rdR hR _ (by omega)
  obtain ⟨s0, s1, s2, s3⟩ := hlast
  refine Zau (fun _ => ?_) fun _ => Zau (fun _ => ?_) fun _ => Zau (fun _ => ?_) fun _ => Zau (fun _ => ?_) fun _ => Zau (fun _ => ?_) fun _ => Zau (fun _ => ?_) fun _ => Zau (fun _ => ?_) fun _ => Zau (fun _ => ?_) fun _ => Zau (fun _ => ?_) fun _ => ?_
  all_goals refine Zau (fun _ => ?_) fun hz => absurd (by omega) hz
  all_goals refine Zau (fun _ => ?_) fun hz => absurd (by omega) hz
  · exact Zbb (fin _ (insR_lit _ _ _ _ ⟨u16 _, r1, r2, r3⟩))
  · exact Zbb (fin2 _ _ (insR_lit _ _ _ _ ⟨by omega, r1, r2, r3⟩) (insR_lit _ _ _ _ ⟨by omega, r1, r2, by omega⟩))
  · exact Zbb (fin2 _ _ (insR_lit _ _ _ _ ⟨by omega, r1, r2, r3⟩) (insR_lit _ _ _ _ ⟨by omega, r1, r2, by omega⟩))
  · exact Zbb (fin2 _ _ (insR_lit _ _ _ _ ⟨by omega, r1, r2, r3⟩) (insR_lit _ _ _ _ ⟨by omega, r1, r2, by omega⟩))
  · exact Zbb (fin2 _ _ (insR_lit _ _ _ _ ⟨by omega, r1, r2, r3⟩) (insR_lit _ _ _ _ ⟨by omega, by omega, r2, r3⟩))
  · exact Zbb (fin3 _ _ _ (insR_lit _ _ _ _ ⟨by omega, r1, r2, r3⟩) (insR_lit _ _ _ _ ⟨by omega, by omega, r2, r3⟩) (insR_lit _ _ _ _ ⟨by omega, by omega, by omega, r3⟩))
  · exact Zbb (fin2 _ _ (insR_lit _ _ _ _ ⟨by omega, r1, r2, r3⟩) (insR_lit _ _ _ _ ⟨by omega, r1, r2, by omega⟩))
  · exact Zbb (fin2 _ _ (insR_lit _ _ _ _ ⟨by omega, r1, r2, r3⟩) (insR_lit _ _ _ _ ⟨by omega, r1, r2, by omega⟩))
  · exact Zbb ⟨⟨by rw [List.length_set]; exact hl, set_all hR _ (insR_lit _ _ _ _ ⟨u16 _, s1, s2, s3⟩)⟩, c3⟩
  · exact Zbb (fin _ (insR_lit _ _ _ _ ⟨u16 _, r1, r2, r3⟩))
theorem any_t (l : List Int) (i : Int) (h : Rd l i) : EvT (fun n => Zcg.f n l i) (fun r => (r.1.length ≤ 5000 ∧ ∀ x ∈ r.1, InsR x) ∧ Rd l r.2) := by
  unfold Zcg.f
  refine Zbl (next_t l i h) ?_
  rintro ⟨v0, j0⟩ ⟨a1, a2, a3⟩
  dsimp only at a1 a2 a3 ⊢
  refine Zau (fun _ => ?_) fun _ => Zau (fun _ => Zbb ⟨⟨by simp, by simp⟩, a3⟩) fun _ => ?_
  · refine Zbl (next_t l j0 a3) ?_
    rintro ⟨v1, j1⟩ ⟨b1, b2, b3⟩
    dsimp only at b1 b2 b3 ⊢
    have m := @tmod_bd v1 3 b1 (by decide)
    obtain ⟨q, hq⟩ := Int.eq_ofNat_of_zero_le m.1
    rw [hq] at m ⊢
    have w : wrap64 (4095 + (q : Int)) = ((4095 + q : Nat) : Int) := by rw [Zaj (by omega) (by omega)]; omega
    rw [w]
    refine Zbl (long_t (4095 + q) (by omega)) ?_
    intro r hr
    exact Zbb ⟨hr, b3⟩
  · refine Zbl (prog_t l j0 a3) ?_
    rintro ⟨p, j1⟩ ⟨⟨b1, b2, b3⟩, b4⟩
    refine Zau (fun _ => ?_) fun _ => Zbb ⟨⟨Nat.le_trans b2 (by decide), b3⟩, b4⟩
    refine Zbl (spoil_t p b1 b2 b3 l j1 b4) ?_
    rintro ⟨p2, j2⟩ ⟨⟨c1, c2⟩, c3⟩
    exact Zbb ⟨⟨Nat.le_trans c1 (by decide), c2⟩, c3⟩
theorem rec_t (l : List Int) (i : Int) (h : Rd l i) : EvT (fun n => Zbz.f n l i) (fun r => (r.1.length = 64 ∧ ∀ x ∈ r.1, 0 ≤ x ∧ x < 256) ∧ Rd l r.2) := by
  have key : ∀ (d q : Nat), q + d = 16 → ∀ (o : List Int) (j : Int), o.length = 4 * q → (∀ x ∈ o, 0 ≤ x ∧ x < 256) → Rd l j → EvT (fun k => Zbz.l0 k o (q : Int) l j) (fun r => (r.1.length = 64 ∧ ∀ x ∈ r.1, 0 ≤ x ∧ x < 256) ∧ Rd l r.2) := by
    intro d
    induction d with
    | zero =>
      intro q hq o j ho hR hj
      refine evt_step _ (fun k => by simp only [Zbz.l0]; rw [if_neg (by omega)]) (Zbb ⟨⟨show o.length = 64 by omega, hR⟩, hj⟩)
    | succ d ih =>
      intro q hq o j ho hR hj
      have w1 : wrap64 ((q : Int) + 1) = ((q + 1 : Nat) : Int) := by rw [Zaj (by omega) (by omega)]; omega
      refine evt_step _ (fun k => by simp only [Zbz.l0]; rw [if_pos (by omega), w1]) ?_
      refine Zbl (word_t l j hj) ?_
      rintro ⟨v, j2⟩ ⟨⟨a1, a2⟩, a3⟩
      dsimp only at a1 a2 a3 ⊢
      rw [wrap_u64_id' a1 (by omega)]
      have hle := l1little_ev v 4 a1 (by omega) (by omega)
      rw [show ((4 : Nat) : Int) = 4 from rfl] at hle
      refine Zbl (evt_ev (P := fun x => x = le v 4) hle rfl) ?_
      rintro x rfl
      refine Zau (fun _ => ?_) fun hz => absurd (by rw [le_length]; omega) hz
      refine ih (q + 1) (by omega) _ j2 (by rw [List.length_append, le_length]; omega) (fun x hx => ?_) a3
      rcases List.mem_append.1 hx with hx | hx
      · exact hR x hx
      · exact le_mem _ _ x hx
  exact key 16 0 (by omega) [] i rfl (by simp) h
theorem drawRun_t (l : List Int) (h : ∀ x ∈ l, (Lit.int .u8 x).wf = true) : EvT (fun n => spec_DrawRun.f n l) (fun r => (r.1.length ≤ 5000 ∧ ∀ x ∈ r.1, InsR x) ∧ r.2.length ≤ 70 ∧ ∀ x ∈ r.2, 0 ≤ x ∧ x < 256) := by
  unfold spec_DrawRun.f
  refine Zbl (open_t l h) ?_
  rintro ⟨c, i0⟩ h0
  refine Zbl (rec_t c i0 h0) ?_
  rintro ⟨rc, i1⟩ ⟨⟨a1, a2⟩, h1⟩
  refine Zbl (any_t c i1 h1) ?_
  rintro ⟨p, i2⟩ ⟨hp, h2⟩
  refine Zbl (next_t c i2 h2) ?_
  rintro ⟨v, i3⟩ _
  dsimp only at a1 a2 hp ⊢
  have app : ∀ o : List Int, o.length ≤ 64 → (∀ x ∈ o, 0 ≤ x ∧ x < 256) → (o ++ [0]).length ≤ 70 ∧ ∀ x ∈ o ++ [0], 0 ≤ x ∧ x < 256 := fun o h1 h2 => ⟨by simp; omega, fun x hx => by
    rcases List.mem_append.1 hx with hx | hx
    · exact h2 x hx
    · rw [List.mem_singleton.1 hx]; exact ⟨by decide, by decide⟩⟩
  have tk : (rc.take 63).length ≤ 64 ∧ ∀ x ∈ rc.take 63, 0 ≤ x ∧ x < 256 := ⟨by rw [List.length_take]; omega, fun x hx => a2 x (List.mem_of_mem_take hx)⟩
  refine Zau (fun _ => Zau (fun _ => ?_) fun hz => absurd (by omega) hz) fun _ => Zau (fun _ => Zau (fun _ => Zbb ⟨hp, app rc (by omega) a2⟩) fun hz => absurd (by omega) hz) fun _ => Zbb ⟨hp, show rc.length ≤ 70 by omega, a2⟩
  simp only [Option.bind_some]
  refine Zau (fun _ => Zau (fun _ => Zbb ⟨hp, app _ tk.1 tk.2⟩) fun hz => absurd ?_ hz) fun _ => Zbb ⟨hp, Nat.le_trans tk.1 (by decide), tk.2⟩
  have := tk.1
  exact Nat.lt_of_le_of_lt this (by decide)
def insB (x : S54) : List Int := le x.f0 2 ++ [x.f1] ++ [x.f2] ++ le x.f3 4
def progB (l : List S54) : List Int := l.flatMap insB
theorem insB_length (x : S54) : (insB x).length = 8 := by simp [insB, le_length]
theorem progB_length (l : List S54) : (progB l).length = 8 * l.length := by
  unfold progB
  induction l with
  | nil => rfl
  | cons x l ih => rw [List.flatMap_cons, List.length_append, ih, insB_length, List.length_cons]; omega
theorem progB_take (l : List S54) (i : Nat) (h : i < l.length) : progB (l.take (i + 1)) = progB (l.take i) ++ insB l[i] := by
  unfold progB
  rw [List.take_succ_eq_append_getElem h, List.flatMap_append, List.flatMap_cons, List.flatMap_nil, List.append_nil]
theorem insB_eq (x : S54) : insB x = [x.f0 % 256, x.f0 / 256 % 256, x.f1, x.f2, x.f3 % 256, x.f3 / 256 % 256, x.f3 / 65536 % 256, x.f3 / 16777216 % 256] := by
  simp [insB, le, List.range_succ]
theorem implEncProg_ev (l : List S54) (hl : l.length ≤ 1000000000) : Ev (fun k => Zbw.f k l) (progB l) := by
  have key := ev_loop (fun k s i => Zbw.l0 k s l (l.length : Int) i) l.length (fun i => progB (l.take i)) [] (progB l) rfl (by rw [List.take_length]) (fun i hi r hr2 => by
    have hlen : (progB (l.take i)).length ≤ 8000000000 := by rw [progB_length, List.length_take]; omega
    refine ev_step _ (fun k => ?_) hr2
    simp only [Zbw.l0]
    rw [if_pos (by omega), if_pos (by omega), if_pos (by omega), rdIns_eq l i hi, Option.bind_some, ← insB_eq, insB_length, if_pos (by omega), Zaj (by omega) (by omega), progB_take l i hi]
    rfl) (progB l)
  refine Ev.congr (fun k => ?_) (key (ev_end fun k => by simp only [Zbw.l0]; rw [if_neg (by omega)]))
  unfold Zbw.f
  rw [Zaj (by omega) (by omega), if_pos (by omega), if_pos (by omega)]
theorem or4_nat (b0 b1 b2 b3 : Nat) (h0 : b0 < 256) (h1 : b1 < 256) (h2 : b2 < 256) (h3 : b3 < 256) : ((b0 ||| b1 * 256) ||| b2 * 65536) ||| b3 * 16777216 = b0 + 256 * b1 + 65536 * b2 + 16777216 * b3 := by
  have e1 : b0 ||| b1 * 256 = b0 + 256 * b1 := by
    have : 256 * b1 + b0 = 256 * b1 ||| b0 := Nat.two_pow_add_eq_or_of_lt (i := 8) h0 b1
    rw [Nat.or_comm, Nat.mul_comm]
    omega
  rw [e1]
  have l1 : b0 + 256 * b1 < 2 ^ 16 := by omega
  have e2 : (b0 + 256 * b1) ||| b2 * 65536 = b0 + 256 * b1 + 65536 * b2 := by
    have : 65536 * b2 + (b0 + 256 * b1) = 65536 * b2 ||| (b0 + 256 * b1) := Nat.two_pow_add_eq_or_of_lt (i := 16) l1 b2
    rw [Nat.or_comm, Nat.mul_comm]
    omega
  rw [e2]
  have l2 : b0 + 256 * b1 + 65536 * b2 < 2 ^ 24 := by omega
  have : 16777216 * b3 + (b0 + 256 * b1 + 65536 * b2) = 16777216 * b3 ||| (b0 + 256 * b1 + 65536 * b2) := Nat.two_pow_add_eq_or_of_lt (i := 24) l2 b3
  rw [Nat.or_comm, Nat.mul_comm]
  omega
theorem or2_nat (b0 b1 : Nat) (h0 : b0 < 256) : b0 ||| b1 * 256 = b0 + 256 * b1 := by
  have : 256 * b1 + b0 = 256 * b1 ||| b0 := Nat.two_pow_add_eq_or_of_lt (i := 8) h0 b1
  rw [Nat.or_comm, Nat.mul_comm]
  omega
theorem u16_of2 (x0 x1 : Int) (h0 : 0 ≤ x0 ∧ x0 < 256) (h1 : 0 ≤ x1 ∧ x1 < 256) : bits .or .u16 (IntKind.u16.wrap x0) (IntKind.u16.wrap (IntKind.u16.wrap x1 * 256)) = x0 + 256 * x1 := by
  obtain ⟨b0, rfl⟩ := Int.eq_ofNat_of_zero_le h0.1
  obtain ⟨b1, rfl⟩ := Int.eq_ofNat_of_zero_le h1.1
  have w : ∀ z : Int, IntKind.u16.wrap z = z % 65536 := fun z => by simp [IntKind.wrap, IntKind.bits, IntKind.signed]
  have g0 : (b0 : Int) % 65536 = ((b0 : Nat) : Int) := by omega
  have g1 : (b1 : Int) % 65536 * 256 % 65536 = ((b1 * 256 : Nat) : Int) := by omega
  have hb : ∀ z : Nat, z < 65536 → z < 2 ^ IntKind.u16.bits := fun z h => h
  rw [w, w, w, g0, g1, bits_or_nat .u16 rfl b0 (b1 * 256) (hb _ (by omega)) (hb _ (by omega)), or2_nat b0 b1 (by omega)]
  omega
theorem u32_of4 (x0 x1 x2 x3 : Int) (h0 : 0 ≤ x0 ∧ x0 < 256) (h1 : 0 ≤ x1 ∧ x1 < 256) (h2 : 0 ≤ x2 ∧ x2 < 256) (h3 : 0 ≤ x3 ∧ x3 < 256) :
    bits .or .u32 (bits .or .u32 (bits .or .u32 (IntKind.u32.wrap x0) (IntKind.u32.wrap (IntKind.u32.wrap x1 * 256))) (IntKind.u32.wrap (IntKind.u32.wrap x2 * 65536))) (IntKind.u32.wrap (IntKind.u32.wrap x3 * 16777216)) = x0 + 256 * x1 + 65536 * x2 + 16777216 * x3 := by
  obtain ⟨b0, rfl⟩ := Int.eq_ofNat_of_zero_le h0.1
  obtain ⟨b1, rfl⟩ := Int.eq_ofNat_of_zero_le h1.1
  obtain ⟨b2, rfl⟩ := Int.eq_ofNat_of_zero_le h2.1
  obtain ⟨b3, rfl⟩ := Int.eq_ofNat_of_zero_le h3.1
  have w : ∀ z : Int, IntKind.u32.wrap z = z % 4294967296 := fun z => by simp [IntKind.wrap, IntKind.bits, IntKind.signed]
  have g0 : (b0 : Int) % 4294967296 = ((b0 : Nat) : Int) := by omega
  have g1 : (b1 : Int) % 4294967296 * 256 % 4294967296 = ((b1 * 256 : Nat) : Int) := by omega
  have g2 : (b2 : Int) % 4294967296 * 65536 % 4294967296 = ((b2 * 65536 : Nat) : Int) := by omega
  have g3 : (b3 : Int) % 4294967296 * 16777216 % 4294967296 = ((b3 * 16777216 : Nat) : Int) := by omega
  have n0 : b0 < 256 := by omega
  have n1 : b1 < 256 := by omega
  have n2 : b2 < 256 := by omega
  have n3 : b3 < 256 := by omega
  have hb : ∀ z : Nat, z < 4294967296 → z < 2 ^ IntKind.u32.bits := fun z h => h
  have o1 : b0 ||| b1 * 256 < 4294967296 := Nat.or_lt_two_pow (n := 32) (by omega) (by omega)
  have o2 : b0 ||| b1 * 256 ||| b2 * 65536 < 4294967296 := Nat.or_lt_two_pow (n := 32) o1 (by omega)
  simp only [w]
  rw [g0, g1, g2, g3]
  rw [bits_or_nat .u32 rfl b0 (b1 * 256) (hb _ (by omega)) (hb _ (by omega)), bits_or_nat .u32 rfl (b0 ||| b1 * 256) (b2 * 65536) (hb _ o1) (hb _ (by omega)), bits_or_nat .u32 rfl (b0 ||| b1 * 256 ||| b2 * 65536) (b3 * 16777216) (hb _ o2) (hb _ (by omega)), or4_nat b0 b1 b2 b3 n0 n1 n2 n3]
  omega
end Go.Proofs.Ytgodbniphkfgfaa.P

namespace Go.Proofs.Ytgodbniphkfgfaa.P
open Go.RowKit Go.Proofs.YtgodbniphkfgfaaW.PrintWords Go.Proofs.YtgodbniphkfgfaaW.PrintLast Go.Proofs.YtgodbniphkfgfaaW.PrintMore
attribute [local go_sem] max2_int min2_int max_two min_two max_three min_three max_four min_four
set_option linter.unusedVariables false
set_option linter.unusedSimpArgs false

def spec_l1number.l0 : Nat → List Int → Int → Int → Option (Int)
  | 0, _, _, _ => none
  | k + 1, x0, x3, x4 => if x4 ≥ 0 then (if 0 ≤ x4 then (if x4 < (x0.length : Int) then (spec_l1number.l0 k x0 (IntKind.u64.wrap ((IntKind.u64.wrap (x3 * 256)) + (IntKind.u64.wrap (rd x0 x4)))) (wrap64 (x4 - 1))) else (none)) else (none)) else (some x3)
def spec_l1number.f (k : Nat) (l0 : List Int) : Option (Int) := spec_l1number.l0 k l0 0 (wrap64 ((l0.length : Int) - 1))
mutual
def spec_DecodeProgram.j0 : Nat → List Int → Bool → Option ((List (S54)) × Int)
  | 0, _, _ => none
  | k + 1, x0, x15 => if x15 = true then (some (([] : List (S54)), 1)) else (spec_DecodeProgram.l0 k x0 ([] : List (S54)) 0)
def spec_DecodeProgram.l0 : Nat → List Int → List (S54) → Int → Option ((List (S54)) × Int)
  | 0, _, _, _ => none
  | k + 1, x0, x4, x5 => if x5 < (x0.length : Int) then (if 0 ≤ x5 then (if x5 ≤ (wrap64 (x5 + 2)) then (if (wrap64 (x5 + 2)) ≤ (x0.length : Int) then ((spec_l1number.f k ((x0.take ((wrap64 (x5 + 2)) : Int).toNat).drop (x5 : Int).toNat)).bind fun t103 => (if 0 ≤ (wrap64 (x5 + 2)) then (if (wrap64 (x5 + 2)) < (x0.length : Int) then (if 0 ≤ (wrap64 (x5 + 3)) then (if (wrap64 (x5 + 3)) < (x0.length : Int) then (if 0 ≤ (wrap64 (x5 + 4)) then (if (wrap64 (x5 + 4)) ≤ (wrap64 (x5 + 8)) then (if (wrap64 (x5 + 8)) ≤ (x0.length : Int) then ((spec_l1number.f k ((x0.take ((wrap64 (x5 + 8)) : Int).toNat).drop ((wrap64 (x5 + 4)) : Int).toNat)).bind fun t107 => (if x4.length < 17592186044416 then (spec_DecodeProgram.l0 k x0 (x4 ++ [(⟨IntKind.u16.wrap (t103), rd x0 (wrap64 (x5 + 2)), rd x0 (wrap64 (x5 + 3)), (t107) % 4294967296⟩ : S54)]) (wrap64 (x5 + 8))) else (none))) else (none)) else (none)) else (none)) else (none)) else (none)) else (none)) else (none))) else (none)) else (none)) else (none)) else (some (x4, 0))
end
theorem l1bits_succ (k : Nat) (x0 x1 : Int) (x2 x3 : Bool) (x9 x10 x11 : Int) : Zav.l0 (k + 1) x0 x1 x2 x3 x9 x10 x11 = if x11 < 32 then (if (wrap64 ((Int.tmod x0 2) + (Int.tmod x1 2))) = 1 then (if x2 = true then (Zav.l0 k (wrap64 (Int.tdiv x0 2)) (wrap64 (Int.tdiv x1 2)) x2 x3 (wrap64 (x9 + x10)) (wrap64 (x10 * 2)) (wrap64 (x11 + 1))) else (if (wrap64 ((Int.tmod x0 2) + (Int.tmod x1 2))) = 2 then (if x3 = true then (Zav.l0 k (wrap64 (Int.tdiv x0 2)) (wrap64 (Int.tdiv x1 2)) x2 x3 (wrap64 (x9 + x10)) (wrap64 (x10 * 2)) (wrap64 (x11 + 1))) else (Zav.l0 k (wrap64 (Int.tdiv x0 2)) (wrap64 (Int.tdiv x1 2)) x2 x3 x9 (wrap64 (x10 * 2)) (wrap64 (x11 + 1)))) else (Zav.l0 k (wrap64 (Int.tdiv x0 2)) (wrap64 (Int.tdiv x1 2)) x2 x3 x9 (wrap64 (x10 * 2)) (wrap64 (x11 + 1))))) else (if (wrap64 ((Int.tmod x0 2) + (Int.tmod x1 2))) = 2 then (if x3 = true then (Zav.l0 k (wrap64 (Int.tdiv x0 2)) (wrap64 (Int.tdiv x1 2)) x2 x3 (wrap64 (x9 + x10)) (wrap64 (x10 * 2)) (wrap64 (x11 + 1))) else (Zav.l0 k (wrap64 (Int.tdiv x0 2)) (wrap64 (Int.tdiv x1 2)) x2 x3 x9 (wrap64 (x10 * 2)) (wrap64 (x11 + 1)))) else (Zav.l0 k (wrap64 (Int.tdiv x0 2)) (wrap64 (Int.tdiv x1 2)) x2 x3 x9 (wrap64 (x10 * 2)) (wrap64 (x11 + 1))))) else (some x9) := rfl
theorem l1bits_one (k : Nat) (x0 x1 a' b' z z' u u' i i' n : Int) (one two : Bool) (hi : i < 32) (hn : wrap64 ((Int.tmod x0 2) + (Int.tmod x1 2)) = n) (ha : wrap64 (Int.tdiv x0 2) = a') (hb : wrap64 (Int.tdiv x1 2) = b')
    (hz : (if n = 1 then (if one = true then wrap64 (z + u) else z) else if n = 2 then (if two = true then wrap64 (z + u) else z) else z) = z') (hu : wrap64 (u * 2) = u') (hi' : wrap64 (i + 1) = i') :
    Zav.l0 (k + 1) x0 x1 one two z u i = Zav.l0 k a' b' one two z' u' i' := by
  rw [l1bits_succ, if_pos hi]
  subst hn ha hb hz hu hi'
  generalize wrap64 ((Int.tmod x0 2) + (Int.tmod x1 2)) = n
  generalize wrap64 (Int.tdiv x0 2) = a'
  generalize wrap64 (Int.tdiv x1 2) = b'
  by_cases c1 : n = 1
  · rw [if_pos c1, if_pos c1]
    cases one
    · rw [if_neg Bool.false_ne_true, if_neg Bool.false_ne_true, if_neg (by omega)]
    · rw [if_pos rfl, if_pos rfl]
  · rw [if_neg c1, if_neg c1]
    by_cases c2 : n = 2
    · rw [if_pos c2, if_pos c2]
      cases two
      · rw [if_neg Bool.false_ne_true, if_neg Bool.false_ne_true]
      · rw [if_pos rfl, if_pos rfl]
    · rw [if_neg c2, if_neg c2]
def sel (one two : Bool) (n : Nat) : Nat := if n = 1 then (if one = true then 1 else 0) else if n = 2 then (if two = true then 1 else 0) else 0
theorem nat_tmod2 (x : Nat) : Int.tmod (x : Int) 2 = ((x % 2 : Nat) : Int) := by
  rw [Int.tmod_eq_emod_of_nonneg (by omega)]; omega
theorem nat_tdiv2 (x : Nat) : Int.tdiv (x : Int) 2 = ((x / 2 : Nat) : Int) := by
  rw [Int.tdiv_eq_ediv_of_nonneg (by omega)]; omega
theorem w64_nat (n : Nat) (h : n < 8589934592) : wrap64 (n : Int) = (n : Int) := Zaj (by omega) (by omega)
theorem bit_sum (x y : Nat) : wrap64 (Int.tmod (x : Int) 2 + Int.tmod (y : Int) 2) = ((x % 2 + y % 2 : Nat) : Int) := by
  rewrite [nat_tmod2, nat_tmod2, ← Int.natCast_add]
  exact w64_nat _ (by omega)
theorem bit_half (x : Nat) (h : x < 4294967296) : wrap64 (Int.tdiv (x : Int) 2) = ((x / 2 : Nat) : Int) := by
  rewrite [nat_tdiv2]
  exact w64_nat _ (by omega)
theorem bit_unit (u : Nat) (h : u ≤ 2147483648) : wrap64 ((u : Int) * 2) = ((u * 2 : Nat) : Int) := by
  rw [Zaj (by omega) (by omega)]; omega
theorem bit_add (z u : Nat) (h : u ≤ 2147483648) (hz : z < u) : wrap64 ((z : Int) + (u : Int)) = ((z + u * 1 : Nat) : Int) := by
  rw [Zaj (by omega) (by omega)]; omega
theorem bit_next (i : Nat) (h : i < 32) : wrap64 ((i : Int) + 1) = ((i + 1 : Nat) : Int) := by
  rw [Zaj (by omega) (by omega)]; omega
theorem bit_sel (z u n : Nat) (one two : Bool) (h : u ≤ 2147483648) (hz : z < u) : (if (n : Int) = 1 then (if one = true then wrap64 ((z : Int) + (u : Int)) else (z : Int)) else if (n : Int) = 2 then (if two = true then wrap64 ((z : Int) + (u : Int)) else (z : Int)) else (z : Int)) = ((z + u * sel one two n : Nat) : Int) := by
  have w2 := bit_add z u h hz
  have w0 : (z : Int) = ((z + u * 0 : Nat) : Int) := by omega
  unfold sel
  by_cases c1 : n = 1
  · rw [if_pos (show (n : Int) = 1 by omega), if_pos c1]
    cases one
    · rw [if_neg Bool.false_ne_true, if_neg Bool.false_ne_true]; exact w0
    · rw [if_pos rfl, if_pos rfl]; exact w2
  · rw [if_neg (show ¬ (n : Int) = 1 by omega), if_neg c1]
    by_cases c2 : n = 2
    · rw [if_pos (show (n : Int) = 2 by omega), if_pos c2]
      cases two
      · rw [if_neg Bool.false_ne_true, if_neg Bool.false_ne_true]; exact w0
      · rw [if_pos rfl, if_pos rfl]; exact w2
    · rw [if_neg (show ¬ (n : Int) = 2 by omega), if_neg c2]; exact w0
theorem l1bits_nat (k x y z u i : Nat) (one two : Bool) (hx : x < 4294967296) (hy : y < 4294967296) (h : u ≤ 2147483648) (hz : z < u) (hi : i < 32) :
    Zav.l0 (k + 1) (x : Int) (y : Int) one two (z : Int) (u : Int) (i : Int) = Zav.l0 k ((x / 2 : Nat) : Int) ((y / 2 : Nat) : Int) one two ((z + u * sel one two (x % 2 + y % 2) : Nat) : Int) ((u * 2 : Nat) : Int) ((i + 1 : Nat) : Int) :=
  l1bits_one k _ _ _ _ _ _ _ _ _ _ _ one two (by omega) (bit_sum x y) (bit_half x hx) (bit_half y hy) (bit_sel z u _ one two h hz) (bit_unit u h) (bit_next i hi)
theorem l1bits_gen (a b F : Nat) (one two : Bool) (ha : a < 4294967296) (hb : b < 4294967296) (hF : F < 4294967296)
    (hbit : ∀ i, F / 2 ^ i % 2 = sel one two (a / 2 ^ i % 2 + b / 2 ^ i % 2)) :
    Ev (fun k => Zav.f k a b one two) ((F : Nat) : Int) := by
  have key : ∀ d i : Nat, i + d = 32 → Ev (fun k => Zav.l0 k ((a / 2 ^ i : Nat) : Int) ((b / 2 ^ i : Nat) : Int) one two ((F % 2 ^ i : Nat) : Int) ((2 ^ i : Nat) : Int) (i : Int)) ((F : Nat) : Int) := by
    intro d
    induction d with
    | zero =>
      intro i hi
      obtain rfl : i = 32 := by omega
      have e : F % 2 ^ 32 = F := Nat.mod_eq_of_lt hF
      rw [e]
      exact ev_end fun k => by simp only [Zav.l0]; rw [if_neg (by omega)]
    | succ d ih =>
      intro i hi
      have hp : 2 ^ i ≤ 2147483648 := by
        have : 2 ^ i ≤ 2 ^ 31 := Nat.pow_le_pow_right (by decide) (by omega)
        omega
      have ea : a / 2 ^ (i + 1) = a / 2 ^ i / 2 := by rw [Nat.pow_succ, Nat.div_div_eq_div_mul]
      have eb : b / 2 ^ (i + 1) = b / 2 ^ i / 2 := by rw [Nat.pow_succ, Nat.div_div_eq_div_mul]
      have la : a / 2 ^ i ≤ a := Nat.div_le_self _ _
      have lb : b / 2 ^ i ≤ b := Nat.div_le_self _ _
      have lF : F % 2 ^ i < 2 ^ i := Nat.mod_lt _ (Nat.two_pow_pos i)
      have eF : F % 2 ^ (i + 1) = F % 2 ^ i + 2 ^ i * (F / 2 ^ i % 2) := Nat.mod_pow_succ
      have ep : 2 ^ (i + 1) = 2 ^ i * 2 := Nat.pow_succ ..
      have hb' := hbit i
      have hnext := ih (i + 1) (by omega)
      rw [ea, eb, eF, ep] at hnext
      rw [hb'] at hnext
      exact ev_step _ (fun k => l1bits_nat k _ _ _ _ _ one two (Nat.lt_of_le_of_lt la ha) (Nat.lt_of_le_of_lt lb hb) hp lF (by omega)) hnext
  have := key 32 0 (by omega)
  simp only [Nat.pow_zero, Nat.div_one, Nat.mod_one] at this
  refine Ev.congr (fun k => ?_) this
  unfold Zav.f
  rfl
theorem bit_val (x i : Nat) : x / 2 ^ i % 2 = if x.testBit i = true then 1 else 0 := by
  rw [Nat.testBit_eq_decide_div_mod_eq]
  have : x / 2 ^ i % 2 < 2 := Nat.mod_lt _ (by decide)
  by_cases h : x / 2 ^ i % 2 = 1
  · rw [h]; rfl
  · have : x / 2 ^ i % 2 = 0 := by omega
    rw [this]; rfl
theorem l1or_ev (a b : Nat) (ha : a < 4294967296) (hb : b < 4294967296) : Ev (fun k => Zav.f k a b true true) (bits .or .u32 a b) := by
  rw [bits_or_nat .u32 rfl a b (by simpa [IntKind.bits] using ha) (by simpa [IntKind.bits] using hb)]
  refine l1bits_gen a b _ true true ha hb (Nat.or_lt_two_pow (n := 32) ha hb) fun i => ?_
  simp only [bit_val, Nat.testBit_or]
  cases a.testBit i <;> cases b.testBit i <;> rfl
theorem l1and_ev (a b : Nat) (ha : a < 4294967296) (hb : b < 4294967296) : Ev (fun k => Zav.f k a b false true) (bits .and .u32 a b) := by
  rw [bits_and_nat .u32 rfl a b (by simpa [IntKind.bits] using ha) (by simpa [IntKind.bits] using hb)]
  refine l1bits_gen a b _ false true ha hb (Nat.lt_of_le_of_lt Nat.and_le_left ha) fun i => ?_
  simp only [bit_val, Nat.testBit_and]
  cases a.testBit i <;> cases b.testBit i <;> rfl
theorem l1xor_ev (a b : Nat) (ha : a < 4294967296) (hb : b < 4294967296) : Ev (fun k => Zav.f k a b true false) (bits .xor .u32 a b) := by
  rw [bits_xor_nat .u32 rfl a b (by simpa [IntKind.bits] using ha) (by simpa [IntKind.bits] using hb)]
  refine l1bits_gen a b _ true false ha hb (Nat.xor_lt_two_pow (n := 32) ha hb) fun i => ?_
  simp only [bit_val, Nat.testBit_xor]
  cases a.testBit i <;> cases b.testBit i <;> rfl
theorem l1power_ev (n : Nat) (h : n ≤ 32) : Ev (fun k => Zbu.f k (n : Int)) ((2 ^ n : Nat) : Int) := by
  induction n with
  | zero => exact ev_end fun k => by simp only [Zbu.f]; rfl
  | succ n ih =>
    have hp : 2 ^ n ≤ 2147483648 := by
      have : 2 ^ n ≤ 2 ^ 31 := Nat.pow_le_pow_right (by decide) (by omega)
      omega
    have e : 2 ^ (n + 1) = 2 ^ n * 2 := Nat.pow_succ ..
    have w : wrap64 (((n + 1 : Nat) : Int) - 1) = (n : Int) := by rw [Zaj (by omega) (by omega)]; omega
    refine ev_step _ (fun k => by simp only [Zbu.f]; rw [if_neg (by omega), w]) (Ev.bind (ih (by omega)) (ev_is fun k => ?_))
    rw [e]
    generalize 2 ^ n = u at hp ⊢
    rw [Zaj (by omega) (by omega)]
    congr 1
    omega
end Go.Proofs.Ytgodbniphkfgfaa.P
