import Derived.Test.YtjpjfkmnfppgkaaDoorGFnCalls5
import Derived.Test.YtjpjfkmnfppgkaaDoorGFnCalls7
import Derived.Test.YtjpjfkmnfppgkaaDoorGFnCalls8
import Derived.Test.YtjpjfkmnfppgkaaDoorGFnCalls9
namespace Go.Proofs.YtjpjfkmnfppgkaaDoor.P
open Go.RowKit Go.Proofs.YtjpjfkmnfppgkaaDoorW.PrintWords Go.Proofs.YtjpjfkmnfppgkaaDoorW.PrintLast Go.Proofs.YtjpjfkmnfppgkaaDoorW.PrintMore
attribute [local go_sem] max2_int min2_int max_two min_two max_three min_three max_four min_four   -- for this text's walks alone
set_option linter.unusedVariables false
set_option linter.unusedSimpArgs false

/-! ### spec_l2many: function 21 -/
def spec_l2many.l0 : Nat → Int → Int → List (S28) → Int → Option ((List (S28)))
  | 0, _, _, _, _ => none
  | k + 1, x0, x1, x5, x6 => if x6 < x0 then (if x1 = 0 then (none) else (if x5.length < 4398046511104 then (spec_l2many.l0 k x0 x1 (x5 ++ [(⟨7, (Int.tmod x6 x1) % 4294967296, (([IntKind.u64.wrap (x6), IntKind.u64.wrap ((IntKind.u64.wrap (x6)) * 4294967303), 5, IntKind.u64.wrap (Int.tdiv (IntKind.u64.wrap (x6)) 3), 0, 1] : List Int))⟩ : S28)]) (wrap64 (x6 + 1))) else (none))) else (some x5)
def spec_l2many.f (k : Nat) (a0 : Int) (a1 : Int) : Option ((List (S28))) := spec_l2many.l0 k a0 a1 ([] : List (S28)) 0
set_option maxHeartbeats 8000000 in
set_option maxRecDepth 100000 in
theorem spec_l2many.calls (k : Nat) (a0 : Int) (a1 : Int) (r : List (S28)) (w : World) (h : spec_l2many.f k a0 a1 = some r) :
    Calls Tryd.prog 21 #[.int .i64 a0, .int .i64 a1] w fun e w' => ∃ v0_ : Value, e = .returned (v0_) ∧ Kd.S k28 28 w' w.heap.size (fun _ => True) v0_ r ∧ Below w.heap.size w w' := by
  have hu28 := Tryd.underlying28
  have HB := Aside0.mk (Below.refl w.heap.size w)
  have H : (spec_l2many.l0 k a0 a1 ([] : List (S28)) 0) = some r := h
  clear h
  have H' := Aside0.mk H
  clear H
  go_enter Tryd.func21, Tryd.ntmps21
  go_wp2
  go_loopg [5, 6] k (fun kq v5 v6 w' => ∃ (x5_1 : List (S28)) (x6_1 : Int), v6 = .int .i64 x6_1 ∧ Aside0 (spec_l2many.l0 kq a0 a1 x5_1 x6_1 = some r) ∧ Aside0 (kq ≤ k) ∧ Aside0 (Kd.S k28 28 w' w.heap.size (fun _ => True) v5 x5_1) ∧ Aside0 (Below w.heap.size w w'))
  case atStart => exact ⟨(([] : List (S28))), (0), (by first | rfl | (simp; done) | (simp [*]; done)), H', ⟨Nat.le_refl _⟩, ⟨by first | exact Kd.S_nil _ _ _ _ _ | exact Kd.N_nil _ _ _ _ _ | exact Kd.V_nil _ _ _ _ _ | exact Kd.Q_nil _ _ _ _ _ | exact Kd.R_nil _ _ _ _ _⟩, ⟨by repeat (first | (with_reducible first | exact HB.out | apply below_alloc | apply pw_below_drewN | apply below_drew1) | exact HB.out)⟩⟩
  case round =>
    clear H'
    try clear c2
    try clear p2
    obtain ⟨x5_1, x6_1, rfl, HA, HK1, HO_5, HB⟩ := hrel
    cases gk with
    | zero => exact absurd HA.out (by simp [spec_l2many.l0])
    | succ k1 =>
      have H := HA.out
      clear HA
      simp only [spec_l2many.l0] at H
      by_cases c3 : x6_1 < a0
      · rw [if_pos c3] at H
        have c3b0 : decide (x6_1 < a0) = true := decide_eq_true c3
        clear c3
        obtain ⟨y106, hy106⟩ : ∃ y_ : List Int, y_ = (([IntKind.u64.wrap (x6_1), IntKind.u64.wrap ((IntKind.u64.wrap (x6_1)) * 4294967303), 5, IntKind.u64.wrap (Int.tdiv (IntKind.u64.wrap (x6_1)) 3), 0, 1] : List Int)) := ⟨_, rfl⟩
        replace H : (if a1 = 0 then (none) else (if x5_1.length < 4398046511104 then (spec_l2many.l0 k1 a0 a1 (x5_1 ++ [(⟨7, (Int.tmod x6_1 a1) % 4294967296, y106⟩ : S28)]) (wrap64 (x6_1 + 1))) else (none))) = some r := by first | (rw [hy106]; with_reducible exact H) | (have H2_ := (Option.bind_some _ _).symm.trans H; rw [hy106]; with_reducible exact H2_) | (have H2_ := (Option.bind_some _ _).symm.trans H; with_reducible exact H2_) | with_reducible exact H | (rw [hy106]; exact H) | exact H
        have Ny106 := Aside0.mk hy106
        clear hy106
        by_cases c4 : a1 = 0
        · rw [if_pos c4] at H
          exact absurd H (by simp)
        · rw [if_neg c4] at H
          have c4b0 : (a1 == 0) = false := beq_eq_false_iff_ne.mpr c4
          have c4b1 : (a1 != 0) = true := bne_iff_ne.mpr c4
          by_cases c5 : x5_1.length < 4398046511104
          · rw [if_pos c5] at H
            have LMc5 := Aside0.mk c5
            clear c5
            obtain ⟨y109, hy109⟩ : ∃ y_ : List (S28), y_ = (x5_1 ++ [(⟨7, (Int.tmod x6_1 a1) % 4294967296, y106⟩ : S28)]) := ⟨_, rfl⟩
            replace H : (spec_l2many.l0 k1 a0 a1 y109 (wrap64 (x6_1 + 1))) = some r := by first | (rw [hy109]; with_reducible exact H) | (have H2_ := (Option.bind_some _ _).symm.trans H; rw [hy109]; with_reducible exact H2_) | (have H2_ := (Option.bind_some _ _).symm.trans H; with_reducible exact H2_) | with_reducible exact H | (rw [hy109]; exact H) | exact H
            have Ny109 := Aside0.mk hy109
            clear hy109
            have H' := Aside0.mk H
            clear H
            go_wp2_with (first | ((with_reducible refine gate_dst (N := 21) rfl ?_); refine Kd.R_lit (Kd.int .u64) _ 43 ?hg (N := 21) ?hd (xs := ([IntKind.u64.wrap (x6_1), IntKind.u64.wrap ((IntKind.u64.wrap (x6_1)) * 4294967303), 5, IntKind.u64.wrap (Int.tdiv (IntKind.u64.wrap (x6_1)) 3), 0, 1] : List Int)) (inner := [.int .u64 (IntKind.u64.wrap (x6_1)), .int .u64 (IntKind.u64.wrap ((IntKind.u64.wrap (x6_1)) * 4294967303)), .int .u64 5, .int .u64 (IntKind.u64.wrap (Int.tdiv (IntKind.u64.wrap (x6_1)) 3)), .int .u64 0, .int .u64 1]) (ok := fun _ => True) (okp := fun _ => True) ?hr ?hp (fun _ hk => hk) trivial (Below.refl _ _) (Nat.le_refl _) (by simp) ?_; (case hd => rfl); (case hg => rfl); (case hr => first | (go_simp; done) | (go_simp; rfl)); (case hp => exact (Reps.one (show Kd.M (Kd.int .u64) _ _ _ (IntKind.u64.wrap (x6_1)) [.int .u64 (IntKind.u64.wrap (x6_1))] from rfl) (Reps.one (show Kd.M (Kd.int .u64) _ _ _ (IntKind.u64.wrap ((IntKind.u64.wrap (x6_1)) * 4294967303)) [.int .u64 (IntKind.u64.wrap ((IntKind.u64.wrap (x6_1)) * 4294967303))] from rfl) (Reps.one (show Kd.M (Kd.int .u64) _ _ _ 5 [.int .u64 5] from rfl) (Reps.one (show Kd.M (Kd.int .u64) _ _ _ (IntKind.u64.wrap (Int.tdiv (IntKind.u64.wrap (x6_1)) 3)) [.int .u64 (IntKind.u64.wrap (Int.tdiv (IntKind.u64.wrap (x6_1)) 3))] from rfl) (Reps.one (show Kd.M (Kd.int .u64) _ _ _ 0 [.int .u64 0] from rfl) (Reps.one (show Kd.M (Kd.int .u64) _ _ _ 1 [.int .u64 1] from rfl) (Reps.none _ _)))))))); intro v107 w6 ho7 hb hg_ hnew_; clear hg_ hnew_; (first | rw [← Ny106.out] at ho7 | (simp only [Int.reduceToNat] at ho7; rw [← Ny106.out] at ho7)); have n0_ := Aside0.mk (Kd.S_elder' (by (with_reducible repeat (first | apply Kd.S_alloc | apply Kd.S_drewN | apply Kd.S_drew)); exact HO_5.out) (Kd.R_base ho7) hb); have n1_ := Aside0.mk (Kd.R_lower ho7 (below_size (by repeat (first | (with_reducible first | exact HB.out | apply below_alloc | apply pw_below_drewN | apply below_drew1) | exact HB.out)))); have n2_ := Aside0.mk (below_step (by repeat (first | (with_reducible first | exact HB.out | apply below_alloc | apply pw_below_drewN | apply below_drew1) | exact HB.out)) hb); clear HO_5; clear HB; have HO_5 := n0_; have HO108 := n1_; have HB := n2_; clear n0_ n1_ n2_; clear hb ho7; obtain ⟨Ao8, co8, eo8⟩ := Kd.R_slice HO108.out; subst eo8) | ((with_reducible refine gate_builtin (b := .append) (xs := #[.tmp 22, .tmp 29]) rfl ?_); at_builtin; refine Kd.S_append k28 (w0 := w) w.heap.size rfl (.tmp 22) (.tmp 29) 23 28 (.agg #[(.int .u32 0), (.int .u32 0), (.slice none 0 0)]) 32 rfl Tryd.underlying23 info28 rfl (by decide) (by omega) u5 x5_1 (⟨7, (Int.tmod x6_1 a1) % 4294967296, y106⟩ : S28) [.int .u32 7, .int .u32 ((Int.tmod x6_1 a1) % 4294967296), .slice Ao8 y106.length co8] (fun _ => True) (fun k_ => some k_ = (.slice Ao8 y106.length co8 : Value).ownBlock) rfl rfl ?aP (fun k_ hk_ => ((Kd.R_mono (ok' := fun k_ => ((fun _ => True)) k_ ∧ some k_ ≠ (u5 : Value).ownBlock) (Kd.R_apart' (HO108.out) (Kd.S_typed HO_5.out) (by decide)) (fun k_ hk => ⟨trivial, hk.2⟩))).1 k_ hk_.symm) ?aF ?aO ?aB ?aS ?aL ?_; (case aP => exact k28_mkM _ _ _ (⟨7, (Int.tmod x6_1 a1) % 4294967296, y106⟩ : S28) (Kd.R_mono (Kd.R_tight rfl (Kd.R_mono (ok' := fun k_ => ((fun _ => True)) k_ ∧ some k_ ≠ (u5 : Value).ownBlock) (Kd.R_apart' (HO108.out) (Kd.S_typed HO_5.out) (by decide)) (fun k_ hk => ⟨trivial, hk.2⟩))) (fun _ h_ => h_))); (case aB => exact (by repeat (first | (with_reducible first | exact HB.out | apply below_alloc | apply pw_below_drewN | apply below_drew1) | exact HB.out))); (case aF => exact (fun _ _ => trivial)); (case aO => exact (by (with_reducible repeat (first | apply Kd.S_alloc | apply Kd.S_drewN | apply Kd.S_drew)); exact Kd.S_mono HO_5.out (fun k_ hk => ⟨trivial, fun e_ => hk.2 e_⟩))); (case aS => exact (below_size (by repeat (first | (with_reducible first | exact HB.out | apply below_alloc | apply pw_below_drewN | apply below_drew1) | exact HB.out)))); (case aL => have := LMc5.out; omega); intro v110 w9 ho hb hg hat; rw [← Ny109.out] at ho; have n0_ := Aside0.mk (hb); have n1_ := Aside0.mk (ho); clear HB; clear HO_5; clear HO108; have HB := n0_; have HO111 := n1_; clear n0_ n1_; clear ho hb hg hat))
            go_roundg k1
            case measure => have := HK1.out; omega
            case rel => exact ⟨(y109), (wrap64 (x6_1 + 1)), (by first | rfl | (simp; done) | (simp [*]; done)), H', ⟨by have := HK1.out; omega⟩, ⟨by (with_reducible repeat (first | apply Kd.S_alloc | apply Kd.S_drewN | apply Kd.S_drew)); exact HO111.out⟩, ⟨by repeat (first | (with_reducible first | exact HB.out | apply below_alloc | apply pw_below_drewN | apply below_drew1) | exact HB.out)⟩⟩
          · rw [if_neg c5] at H
            exact absurd H (by simp)
      · rw [if_neg c3] at H
        have c3b0 : decide (x6_1 < a0) = false := decide_eq_false c3
        clear c3
        obtain rfl := Option.some.inj H
        go_wp2
        go_ret
        exact ⟨_, by first | rfl | (simp [errW_none, errW_some] <;> rfl) | (simp [*, errW_none, errW_some] <;> rfl), by (with_reducible repeat (first | apply Kd.S_alloc | apply Kd.S_drewN | apply Kd.S_drew)); exact HO_5.out, by repeat (first | (with_reducible first | exact HB.out | apply below_alloc | apply pw_below_drewN | apply below_drew1) | exact HB.out)⟩

end Go.Proofs.YtjpjfkmnfppgkaaDoor.P

namespace Go.Proofs.YtjpjfkmnfppgkaaDoor.P
open Go.RowKit Go.Proofs.YtjpjfkmnfppgkaaDoorW.PrintWords Go.Proofs.YtjpjfkmnfppgkaaDoorW.PrintLast Go.Proofs.YtjpjfkmnfppgkaaDoorW.PrintMore
set_option linter.unusedVariables false
set_option linter.unusedSimpArgs false
/-! Drawn calls. -/
def ok6 (c : S28) : Prop := okC c ∧ c.f2.length = 6
theorem arch_t (l : List Int) (i : Int) (h : Rd l i) : EvT (fun _ => spec_l2drawArch.f l i) (fun r => (0 ≤ r.1 ∧ r.1 < 4294967296) ∧ Rd l r.2) := by
  unfold spec_l2drawArch.f
  refine evt_bind (next_t l i h) ?_
  rintro ⟨v, j⟩ ⟨h1, h2, h3⟩
  dsimp only at *
  exact evt_ite (fun _ => evt_some ⟨(show (0 : Int) ≤ 3221225534 ∧ (3221225534 : Int) < 4294967296 by decide), h3⟩) fun _ => evt_ite (fun _ => evt_some ⟨(show (0 : Int) ≤ 1073741827 ∧ (1073741827 : Int) < 4294967296 by decide), h3⟩) fun _ => evt_some ⟨by dsimp only; omega, h3⟩
theorem callLoop_t (l : List Int) (v a n : Int) (ha : 0 ≤ a ∧ a < 4294967296) (hn : 0 ≤ n ∧ n < 4294967296) : ∀ (d : Nat) (xs : List Int) (i : Int), xs.length + d = 6 → (∀ x ∈ xs, U x) → Rd l i → EvT (fun k => spec_l2drawCall.l0 k v (xs.length : Int) l i a n xs) (fun r => ok6 ⟨r.1, r.2.1, r.2.2.1⟩ ∧ Rd l r.2.2.2)
  | 0, xs, i, hd, hx, h => by
    refine evt_ev (r := (a, n, xs, i)) (ev_end fun k => ?_) ⟨⟨⟨ha, hn, hx, ?_⟩, ?_⟩, h⟩
    · simp only [spec_l2drawCall.l0]
      rw [if_neg (by omega)]
    · show xs.length ≤ 1048576; omega
    · show xs.length = 6; omega
  | d + 1, xs, i, hd, hx, h => by
    have hgo : ∀ (y j : Int), U y → Rd l j → EvT (fun k => spec_l2drawCall.l0 k v (wrap64 ((xs.length : Int) + 1)) l j a n (xs ++ [y])) (fun r => ok6 ⟨r.1, r.2.1, r.2.2.1⟩ ∧ Rd l r.2.2.2) := by
      intro y j hy hj
      have ih := callLoop_t l v a n ha hn d (xs ++ [y]) j (by rw [List.length_append, List.length_singleton]; omega) (fun x hx' => by
        rcases List.mem_append.1 hx' with g | g
        · exact hx x g
        · rw [List.mem_singleton] at g; subst g; exact hy) hj
      rw [List.length_append, List.length_singleton] at ih
      rw [wrap64_id (by omega) (by omega)]
      exact ih
    have hlen : xs.length < 17592186044416 := by omega
    have hlt : (xs.length : Int) < 6 := by omega
    have hdraw : EvT (fun k => (spec_l2drawArg.f l i).bind fun bt => spec_l2drawCall.l0 k v (wrap64 ((xs.length : Int) + 1)) l bt.2 a n (xs ++ [bt.1])) (fun r => ok6 ⟨r.1, r.2.1, r.2.2.1⟩ ∧ Rd l r.2.2.2) :=
      evt_bind (arg_t l i h) fun bt hb => hgo bt.1 bt.2 hb.1 hb.2
    refine evt_step (fun k => if (xs.length : Int) > 2 then (if Int.tmod v 4 > 0 then spec_l2drawCall.l0 k v (wrap64 ((xs.length : Int) + 1)) l i a n (xs ++ [0]) else (spec_l2drawArg.f l i).bind fun bt => spec_l2drawCall.l0 k v (wrap64 ((xs.length : Int) + 1)) l bt.2 a n (xs ++ [bt.1])) else (spec_l2drawArg.f l i).bind fun bt => spec_l2drawCall.l0 k v (wrap64 ((xs.length : Int) + 1)) l bt.2 a n (xs ++ [bt.1])) (fun k => ?_) (evt_ite (fun _ => evt_ite (fun _ => hgo 0 i ⟨by decide, by decide⟩ h) fun _ => hdraw) fun _ => hdraw)
    simp only [spec_l2drawCall.l0, if_pos hlt, if_pos hlen]
theorem call_t (l : List Int) (i : Int) (h : Rd l i) : EvT (fun k => spec_l2drawCall.f k l i) (fun r => ok6 ⟨r.1, r.2.1, r.2.2.1⟩ ∧ Rd l r.2.2.2) := by
  unfold spec_l2drawCall.f
  refine evt_bind (arch_t l i h) ?_
  rintro ⟨a, j⟩ ⟨ha, hj⟩
  refine evt_bind (next_t l j hj) ?_
  rintro ⟨v, j2⟩ ⟨h1, h2, h3⟩
  dsimp only at *
  have hgo : ∀ (n j3 : Int), (0 ≤ n ∧ n < 4294967296) → Rd l j3 → EvT (fun k => spec_l2drawCall.j0 k v l j3 a n) (fun r => ok6 ⟨r.1, r.2.1, r.2.2.1⟩ ∧ Rd l r.2.2.2) := by
    intro n j3 hn hj3
    refine evt_step (fun k => spec_l2drawCall.l0 k v 0 l j3 a n []) (fun k => by simp only [spec_l2drawCall.j0]) ?_
    exact callLoop_t l v a n ha hn 6 [] j3 rfl (fun x hx => by cases hx) hj3
  refine evt_ite (fun _ => evt_bind (word_t l j2 h3) fun bt hb => hgo bt.1 bt.2 hb.1 hb.2) fun _ => hgo _ j2 (by omega) h3
theorem set_u {xs : List Int} (h : ∀ x ∈ xs, U x) (q : Nat) {y : Int} (hy : U y) : ∀ x ∈ xs.set q y, U x := fun x hx => by
  rcases List.mem_or_eq_of_mem_set hx with g | g
  · exact h x g
  · rw [g]; exact hy
theorem app6 {cs : List S28} (h : ∀ c ∈ cs, ok6 c) {c : S28} (hc : ok6 c) : ∀ x ∈ cs ++ [c], ok6 x := fun x hx => by
  rcases List.mem_append.1 hx with g | g
  · exact h x g
  · rw [List.mem_singleton] at g; subst g; exact hc
theorem rd_u {xs : List Int} (h : ∀ x ∈ xs, U x) (q : Nat) (hq : q < xs.length) : U (rd xs (q : Int)) := by rw [rd_eq xs q hq]; exact h _ (List.getElem_mem hq)
theorem rd_6 {cs : List S28} (h : ∀ c ∈ cs, ok6 c) (q : Nat) (hq : q < cs.length) : ok6 (rd_T28 cs (q : Int)) := by rw [rdCall_eq cs q hq]; exact h _ (List.getElem_mem hq)
theorem callsLoop_t (l : List Int) (m : Int) (hm : 0 ≤ m ∧ m ≤ 40) : ∀ (d : Nat) (x : Nat) (cs : List S28) (i : Int), x + d = 41 → cs.length ≤ x → (∀ c ∈ cs, ok6 c) → Rd l i → EvT (fun k => spec_l2drawCalls.l0 k m cs (x : Int) l i) (fun r => (r.1.length ≤ 41 ∧ ∀ c ∈ r.1, ok6 c) ∧ Rd l r.2)
  | 0, x, cs, i, hd, hx, hc, h => by
    have q0 : ¬ ((x : Int) < m) := by omega
    refine evt_step (fun k => spec_l2drawCalls.j1 k m cs (x : Int) false l i) (fun k => by simp only [spec_l2drawCalls.l0]; rw [if_neg q0]) ?_
    refine evt_ev (r := (cs, i)) (ev_end fun k => by simp only [spec_l2drawCalls.j1, Bool.false_eq_true, if_false]) ⟨⟨by dsimp only; omega, hc⟩, h⟩
  | d + 1, x, cs, i, hd, hx, hc, h => by
    have hend : ∀ j, Rd l j → EvT (fun k => spec_l2drawCalls.j1 k m cs (x : Int) false l j) (fun r => (r.1.length ≤ 41 ∧ ∀ c ∈ r.1, ok6 c) ∧ Rd l r.2) := fun j hj =>
      evt_ev (r := (cs, j)) (ev_end fun k => by simp only [spec_l2drawCalls.j1, Bool.false_eq_true, if_false]) ⟨⟨by dsimp only; omega, hc⟩, hj⟩
    have hlen : cs.length < 4398046511104 := by omega
    have w1 : wrap64 ((x : Int) + 1) = ((x + 1 : Nat) : Int) := by rw [wrap64_id (by omega) (by omega)]; omega
    have hnext : ∀ (c : S28) (j : Int), ok6 c → Rd l j → EvT (fun k => if cs.length < 4398046511104 then spec_l2drawCalls.l0 k m (cs ++ [c]) (wrap64 ((x : Int) + 1)) l j else none) (fun r => (r.1.length ≤ 41 ∧ ∀ c ∈ r.1, ok6 c) ∧ Rd l r.2) := by
      intro c j h6 hj
      refine evt_ite (fun _ => ?_) fun g => absurd hlen g
      rw [w1]
      exact callsLoop_t l m hm d (x + 1) (cs ++ [c]) j (by clear w1; omega) (by rw [List.length_append, List.length_singleton]; clear w1; omega) (app6 hc h6) hj
    have hj2 : ∀ (v : Int) (b : Bool) (j : Int), 0 ≤ v → (b = false → 0 < cs.length) → Rd l j → EvT (fun k => spec_l2drawCalls.j2 k m cs (x : Int) v b l j) (fun r => (r.1.length ≤ 41 ∧ ∀ c ∈ r.1, ok6 c) ∧ Rd l r.2) := by
      intro v b j hv hb hj
      cases b with
      | true =>
        refine evt_step (fun k => (spec_l2drawCall.f k l j).bind fun bt162 => (if cs.length < 4398046511104 then (spec_l2drawCalls.l0 k m (cs ++ [(⟨bt162.1, bt162.2.1, bt162.2.2.1⟩ : S28)]) (wrap64 ((x : Int) + 1)) l bt162.2.2.2) else (none))) (fun k => by simp only [spec_l2drawCalls.j2, if_true]) ?_
        exact evt_bind (call_t l j hj) fun bt hb => hnext _ _ hb.1 hb.2
      | false =>
        have hpos := hb rfl
        have hne : ¬ ((cs.length : Int) = 0) := by clear w1; omega
        refine evt_step _ (fun k => by simp only [spec_l2drawCalls.j2, Bool.false_eq_true, if_false]; rfl) ?_
        refine evt_bind (next_t l j hj) ?_
        rintro ⟨t, j3⟩ ⟨t1, t2, hj3⟩
        dsimp only at *
        have hq := tmod_bd (m := (cs.length : Int)) t1 (by clear w1; omega)
        obtain ⟨q, hqq⟩ : ∃ q : Nat, Int.tmod t (cs.length : Int) = (q : Int) := ⟨(Int.tmod t (cs.length : Int)).toNat, by clear w1; omega⟩
        rw [hqq] at hq ⊢
        have hql : q < cs.length := by clear w1; omega
        have h6 := rd_6 hc q hql
        refine evt_ite (fun g => absurd g hne) fun _ => evt_ite (fun _ => evt_ite (fun _ => ?_) fun g => absurd hq.2 g) fun g => absurd hq.1 g
        generalize rd_T28 cs (q : Int) = c at h6 ⊢
        have hcopy : spec_l2copy.f c.f0 c.f1 c.f2 = some (c.f0, c.f1, c.f2) := by
          unfold spec_l2copy.f
          rw [if_pos (by rw [h6.2]; decide)]
          rfl
        refine evt_bind (evt_is hcopy (P := fun r => r = (c.f0, c.f1, c.f2)) rfl) ?_
        rintro _ rfl
        dsimp only
        refine evt_ite (fun _ => ?_) fun _ => hnext _ _ h6 hj3
        refine evt_bind (next_t l j3 hj3) ?_
        rintro ⟨t', j4⟩ ⟨t1', t2', hj4⟩
        dsimp only at *
        have hp := tmod_bd (m := 6) t1' (by decide)
        obtain ⟨p, hpp⟩ : ∃ p : Nat, Int.tmod t' 6 = (p : Int) := ⟨(Int.tmod t' 6).toNat, by clear w1; omega⟩
        rw [hpp] at hp ⊢
        have hp6 : p < c.f2.length := by have := h6.2; clear w1; omega
        refine evt_ite (fun _ => evt_ite (fun _ => ?_) fun g => absurd (show (p : Int) < (c.f2.length : Int) by clear w1; omega) g) fun g => absurd hp.1 g
        refine evt_bind (near_t _ (rd_u h6.1.2.2.1 p hp6) l j4 hj4) ?_
        rintro ⟨y, j5⟩ ⟨hy, hj5⟩
        dsimp only at *
        have hs := set_u h6.1.2.2.1 p hy
        have hsl : (c.f2.set p y).length = 6 := by rw [List.length_set]; exact h6.2
        rw [Int.toNat_natCast]
        refine evt_bind (evt_some (P := fun r => r = c.f2.set p y) rfl) ?_
        rintro _ rfl
        have hok : ∀ ys : List Int, (∀ x ∈ ys, U x) → ys.length = 6 → ok6 ⟨c.f0, c.f1, ys⟩ := fun ys h1 h2 => ⟨⟨h6.1.1, h6.1.2.1, h1, by show ys.length ≤ 1048576; rw [h2]; decide⟩, h2⟩
        refine evt_ite (fun _ => ?_) fun _ => hnext _ _ (hok _ hs hsl) hj5
        refine evt_bind (next_t l j5 hj5) ?_
        rintro ⟨t'', j6⟩ ⟨t1'', t2'', hj6⟩
        dsimp only at *
        have hz := tmod_bd (m := 3) t1'' (by decide)
        obtain ⟨z, hzz⟩ : ∃ z : Nat, Int.tmod t'' 3 = (z : Int) := ⟨(Int.tmod t'' 3).toNat, by clear w1; omega⟩
        rw [hzz] at hz ⊢
        have hz6 : z < (c.f2.set p y).length := by rw [hsl]; clear w1; omega
        have hz7 : (z : Int) < (c.f2.length : Int) := by have := h6.2; clear w1; omega
        refine evt_ite (fun _ => evt_ite (fun _ => ?_) fun g => absurd hz7 g) fun g => absurd hz.1 g
        refine evt_bind (near_t _ (rd_u hs z hz6) l j6 hj6) ?_
        rintro ⟨y2, j7⟩ ⟨hy2, hj7⟩
        dsimp only at *
        rw [Int.toNat_natCast]
        exact hnext _ _ (hok _ (set_u hs z hy2) (by rw [List.length_set]; exact hsl)) hj7
    have hj1 : ∀ (j : Int), Rd l j → EvT (fun k => spec_l2drawCalls.j1 k m cs (x : Int) true l j) (fun r => (r.1.length ≤ 41 ∧ ∀ c ∈ r.1, ok6 c) ∧ Rd l r.2) := by
      intro j hj
      refine evt_step _ (fun k => by simp only [spec_l2drawCalls.j1, if_true]; rfl) ?_
      refine evt_bind (next_t l j hj) ?_
      rintro ⟨t, j3⟩ ⟨t1, t2, hj3⟩
      dsimp only at *
      have hq := tmod_bd (m := 8) t1 (by decide)
      refine evt_ite (fun _ => hj2 _ _ _ hq.1 (fun g => by cases g) hj3) fun _ => hj2 _ _ _ hq.1 (fun g => ?_) hj3
      rw [beq_eq_false_iff_ne] at g
      clear w1
      omega
    refine evt_step _ (fun k => by simp only [spec_l2drawCalls.l0]; rfl) ?_
    refine evt_ite (fun _ => evt_ite (fun _ => hj1 i h) fun _ => ?_) fun _ => hend i h
    refine evt_bind (evt_is (P := fun r => Rd l r.2) (show spec_l1rd_left.f l i = some (wrap64 ((l.length : Int) - i), i) from rfl) h) ?_
    rintro ⟨t, j3⟩ hj3
    dsimp only at *
    by_cases g : t > 0
    · rw [decide_eq_true g]; exact hj1 j3 hj3
    · rw [decide_eq_false g]; exact hend j3 hj3
theorem calls_t (l : List Int) (i : Int) (h : Rd l i) : EvT (fun k => spec_l2drawCalls.f k l i) (fun r => (r.1.length ≤ 41 ∧ ∀ c ∈ r.1, ok6 c) ∧ Rd l r.2) := by
  unfold spec_l2drawCalls.f
  refine evt_bind (next_t l i h) ?_
  rintro ⟨t, j⟩ ⟨t1, t2, hj⟩
  dsimp only at *
  have hq := tmod_bd (m := 40) t1 (by decide)
  exact callsLoop_t l _ ⟨hq.1, by omega⟩ 41 0 [] j rfl (Nat.le_refl _) (fun c hc => by cases hc) hj
theorem many_t (n : Nat) (hn : n ≤ 1000000) (m : Int) (hm : 0 < m) : EvT (fun k => spec_l2many.f k (n : Int) m) (fun r => r.length = n ∧ ∀ c ∈ r, ok6 c) := by
  have key : ∀ (d x : Nat) (cs : List S28), x + d = n → cs.length = x → (∀ c ∈ cs, ok6 c) → EvT (fun k => spec_l2many.l0 k (n : Int) m cs (x : Int)) (fun r => r.length = n ∧ ∀ c ∈ r, ok6 c) := by
    intro d
    induction d with
    | zero =>
      intro x cs hd hx hc
      exact evt_ev (r := cs) (ev_end fun k => by simp only [spec_l2many.l0]; rw [if_neg (by omega)]) ⟨by omega, hc⟩
    | succ d ih =>
      intro x cs hd hx hc
      have q1 : (x : Int) < (n : Int) := by omega
      have q2 : ¬ (m = 0) := by omega
      have q3 : cs.length < 4398046511104 := by omega
      have hmod := tmod_bd (x := (x : Int)) (by omega) hm
      refine evt_step (fun k => spec_l2many.l0 k (n : Int) m (cs ++ [(⟨7, (Int.tmod (x : Int) m) % 4294967296, [IntKind.u64.wrap (x : Int), IntKind.u64.wrap ((IntKind.u64.wrap (x : Int)) * 4294967303), 5, IntKind.u64.wrap (Int.tdiv (IntKind.u64.wrap (x : Int)) 3), 0, 1]⟩ : S28)]) (wrap64 ((x : Int) + 1))) (fun k => by simp only [spec_l2many.l0]; rw [if_pos q1, if_neg q2, if_pos q3]) ?_
      rw [wrap64_id (by omega) (by omega)]
      refine ih (x + 1) _ (by omega) (by rw [List.length_append, List.length_singleton, hx]) (app6 hc ⟨⟨⟨show (0 : Int) ≤ 7 by decide, show (7 : Int) < 4294967296 by decide⟩, ⟨?_, ?_⟩, ?_, ?_⟩, rfl⟩)
      · show 0 ≤ (Int.tmod (x : Int) m) % 4294967296; omega
      · show (Int.tmod (x : Int) m) % 4294967296 < 4294967296; omega
      · intro y hy
        simp only [List.mem_cons, List.not_mem_nil, or_false] at hy
        rcases hy with rfl | rfl | rfl | rfl | rfl | rfl
        · exact u_wrap _
        · exact u_wrap _
        · decide
        · exact u_wrap _
        · decide
        · decide
      · show (6 : Nat) ≤ 1048576; decide
  exact key n 0 [] (by omega) rfl (fun c hc => by cases hc)
end Go.Proofs.YtjpjfkmnfppgkaaDoor.P

namespace Go.Proofs.YtjpjfkmnfppgkaaDoor.P
open Go.RowKit Go.Proofs.YtjpjfkmnfppgkaaDoorW.PrintWords Go.Proofs.YtjpjfkmnfppgkaaDoorW.PrintLast Go.Proofs.YtjpjfkmnfppgkaaDoorW.PrintMore
attribute [local go_sem] max2_int min2_int max_two min_two max_three min_three max_four min_four   -- for this text's walks alone
set_option linter.unusedVariables false
set_option linter.unusedSimpArgs false

def spec_DrawEncodeLog.cut (c : List (S28)) (j : Int) : Option (List (S28)) := if 0 ≤ j then if j < (c.length : Int) then if 5 ≤ (((rd_T28 c j).f2).length : Int) then some (c.set j.toNat (⟨(rd_T28 c j).f0, (rd_T28 c j).f1, ((rd_T28 c j).f2).take 5⟩ : S28)) else none else none else none
def spec_DrawEncodeLog.more (c : List (S28)) (j : Int) : Option (List (S28)) := if 0 ≤ j then if j < (c.length : Int) then if ((rd_T28 c j).f2).length < 17592186044415 then some (c.set j.toNat (⟨(rd_T28 c j).f0, (rd_T28 c j).f1, ((rd_T28 c j).f2) ++ [0]⟩ : S28)) else none else none else none
def spec_DrawEncodeLog.f (k : Nat) (l0 : List Int) : Option (List (S28)) := (spec_l1open.f l0).bind fun b => ((spec_l1rd_next.f b.1 b.2).bind fun t => (if (Int.tmod t.1 30) = 0 then ((spec_l1rd_next.f b.1 t.2).bind fun d => spec_l2many.f k (wrap64 (999 + (Int.tmod d.1 3))) 9) else ((spec_l2drawCalls.f k b.1 t.2).bind fun c => (if (Int.tmod t.1 30) = 1 then (if 0 < c.1.length then ((spec_l1rd_next.f b.1 c.2).bind fun i => spec_DrawEncodeLog.cut c.1 (Int.tmod i.1 (c.1.length : Int))) else some c.1) else (if (Int.tmod t.1 30) = 2 then (if 0 < c.1.length then ((spec_l1rd_next.f b.1 c.2).bind fun i => spec_DrawEncodeLog.more c.1 (Int.tmod i.1 (c.1.length : Int))) else some c.1) else some c.1)))))
set_option maxHeartbeats 8000000 in
set_option maxRecDepth 100000 in
theorem spec_DrawEncodeLog.calls (k : Nat) (A0 : Option Addr) (c0 : Nat) (l0 : List Int) (r : List (S28)) (w : World) (hr0 : Kd.C (Kd.int .u8) w A0 l0.length l0) (hc0 : l0.length ≤ c0) (h : spec_DrawEncodeLog.f k l0 = some r) :
    Calls Tryd.prog 6 #[.slice A0 l0.length c0] w fun e w' => ∃ v0_ : Value, e = .returned (v0_) ∧ Kd.S k28 28 w' w.heap.size (fun _ => True) v0_ r ∧ Below w.heap.size w w' := by
  have HR0 := Aside0.mk hr0
  have HC0 := Aside0.mk hc0
  clear hr0 hc0
  have HB := Aside0.mk (Below.refl w.heap.size w)
  unfold spec_DrawEncodeLog.f at h
  obtain ⟨⟨t201, t202⟩, A20, h⟩ := Option.bind_eq_some_iff.1 h
  obtain ⟨⟨t204, t205⟩, A30, h⟩ := Option.bind_eq_some_iff.1 h
  dsimp only at A20 A30 h
  have A2 := Aside0.mk A20
  have A3 := Aside0.mk A30
  clear A20 A30
  by_cases c4 : (Int.tmod t204 30) = 0
  · rw [if_pos c4] at h
    have c4b0 : ((Int.tmod t204 30) == 0) = true := beq_iff_eq.mpr c4
    have c4b1 : ((Int.tmod t204 30) != 0) = false := bne_eq_false_iff_eq.mpr c4
    clear c4
    obtain ⟨⟨t206, t207⟩, A50, h⟩ := Option.bind_eq_some_iff.1 h
    dsimp only at A50 h
    have A5 := Aside0.mk A50
    have A6 := Aside0.mk h
    clear A50 h
    go_enter Tryd.func6, Tryd.ntmps6
    go_wp2_with (first | ((with_reducible refine gate_callee (f := 19) rfl ?_); refine goesL_ (some 10) rfl rfl Tryd.func19 (by kernel_rfl) rfl #[.slice A0 l0.length c0] rfl (by (try simp only [List.map_toArray, List.map_cons, List.map_nil]); first | done | rfl | (simp only [List.length_drop, List.length_take]; rfl)) ?_; (with_reducible refine (spec_l1open.calls _ _ l0 t201 t202 w _ (by repeat (first | (with_reducible first | exact HB.out | apply below_alloc | apply pw_below_drewN | apply below_drew1) | exact HB.out)) HR0.out HC0.out A2.out).mono ?_); rintro e w7 ⟨g203, rfl, hi, hb, hb2⟩; refine ⟨_, rfl, ?_⟩; clear HB; have HB := Aside0.mk hb; have HI203 := Aside0.mk hi; clear hb hb2 hi) | ((with_reducible refine gate_callee (f := 20) rfl ?_); refine goesL_ (some 12) rfl rfl Tryd.func20 (by kernel_rfl) rfl #[.pointer (some ⟨g203, 0, none⟩)] rfl (by (try simp only [List.map_toArray, List.map_cons, List.map_nil]); first | done | rfl | (simp only [List.length_drop, List.length_take]; rfl)) ?_; (with_reducible refine (spec_l1rd_next.calls g203 t201 t202 t204 t205 w _ (by repeat (first | (with_reducible first | exact HI203.out | apply IsS68.alloc | apply IsS68.drewN | apply IsS68.drew | apply IsS68.set_1) | exact HI203.out)) (by repeat (first | (with_reducible first | exact HB.out | apply below_alloc | apply pw_below_drewN | apply below_drew1) | exact HB.out)) A3.out).mono ?_); rintro e w8 ⟨rfl, hi, hb, hk⟩; refine ⟨_, rfl, ?_⟩; clear HB HI203; have HB := Aside0.mk hb; have HI203 := Aside0.mk hi; clear hb hi hk) | ((with_reducible refine gate_callee (f := 20) rfl ?_); refine goesL_ (some 17) rfl rfl Tryd.func20 (by kernel_rfl) rfl #[.pointer (some ⟨g203, 0, none⟩)] rfl (by (try simp only [List.map_toArray, List.map_cons, List.map_nil]); first | done | rfl | (simp only [List.length_drop, List.length_take]; rfl)) ?_; (with_reducible refine (spec_l1rd_next.calls g203 t201 t205 t206 t207 w _ (by repeat (first | (with_reducible first | exact HI203.out | apply IsS68.alloc | apply IsS68.drewN | apply IsS68.drew | apply IsS68.set_1) | exact HI203.out)) (by repeat (first | (with_reducible first | exact HB.out | apply below_alloc | apply pw_below_drewN | apply below_drew1) | exact HB.out)) A5.out).mono ?_); rintro e w8 ⟨rfl, hi, hb, hk⟩; refine ⟨_, rfl, ?_⟩; clear HB HI203; have HB := Aside0.mk hb; have HI203 := Aside0.mk hi; clear hb hi hk) | ((with_reducible refine gate_callee (f := 21) rfl ?_); refine goesL_ (some 21) rfl rfl Tryd.func21 (by kernel_rfl) rfl #[.int .i64 (wrap64 (999 + (Int.tmod t206 3))), .int .i64 9] rfl (by (try simp only [List.map_toArray, List.map_cons, List.map_nil]); first | done | rfl | (simp only [List.length_drop, List.length_take]; rfl)) ?_; (with_reducible refine (spec_l2many.calls k (wrap64 (999 + (Int.tmod t206 3))) 9 r _ A6.out).mono ?_); rintro e w10 ⟨v209, rfl, ho0, hb⟩; refine ⟨_, rfl, ?_⟩; have n0_ := Aside0.mk (Kd.S_lower ho0 (below_size (by repeat (first | (with_reducible first | exact HB.out | apply below_alloc | apply pw_below_drewN | apply below_drew1) | exact HB.out)))); have n1_ := Aside0.mk (below_step (by repeat (first | (with_reducible first | exact HB.out | apply below_alloc | apply pw_below_drewN | apply below_drew1) | exact HB.out)) hb); clear HB; have HO := n0_; have HB := n1_; clear n0_ n1_ hb ho0))
    go_ret
    exact ⟨_, rfl, Kd.S_mono HO.out (fun _ _ => trivial), HB.out⟩
  rw [if_neg c4] at h
  have c4b0 : ((Int.tmod t204 30) == 0) = false := beq_eq_false_iff_ne.mpr c4
  have c4b1 : ((Int.tmod t204 30) != 0) = true := bne_iff_ne.mpr c4
  obtain ⟨⟨t211, t214⟩, A110, h⟩ := Option.bind_eq_some_iff.1 h
  dsimp only at A110 h
  have A11 := Aside0.mk A110
  clear A110
  by_cases hl : 0 < t211.length
  case pos =>
    have hz0 : decide (0 < (t211.length : Int)) = true := decide_eq_true (by omega)
    have hz1 : decide (0 < t211.length) = true := decide_eq_true hl
    have hz2 : ((t211.length : Int) == 0) = false := beq_eq_false_iff_ne.mpr (by omega)
    have hz3 : ((t211.length : Int) != 0) = true := bne_iff_ne.mpr (by omega)
    have hz4 : ¬ (t211 = []) := fun h_ => by rw [h_] at hl; exact absurd hl (by decide)
    have hz5 : ¬ ((t211.length : Int) = 0) := by omega
    have HL := Aside0.mk hl
    by_cases c1 : (Int.tmod t204 30) = 1
    · rw [if_pos c1, if_pos hl] at h
      have c1b0 : ((Int.tmod t204 30) == 1) = true := beq_iff_eq.mpr c1
      have c1b1 : ((Int.tmod t204 30) != 1) = false := bne_eq_false_iff_eq.mpr c1
      have c2b0 : ((Int.tmod t204 30) == 2) = false := beq_eq_false_iff_ne.mpr (by omega)
      have c2b1 : ((Int.tmod t204 30) != 2) = true := bne_iff_ne.mpr (by omega)
      clear c4 c1 hl
      obtain ⟨⟨t215, t216⟩, A190, h⟩ := Option.bind_eq_some_iff.1 h
      dsimp only at A190 h
      have A19 := Aside0.mk A190
      clear A190
      obtain ⟨ji, hji⟩ : ∃ j_ : Int, (Int.tmod t215 (t211.length : Int)) = j_ := ⟨_, rfl⟩
      rw [hji] at h
      unfold spec_DrawEncodeLog.cut at h
      by_cases q0 : 0 ≤ ji
      case neg => rw [if_neg q0] at h; exact absurd h (by simp)
      rw [if_pos q0] at h
      by_cases q1 : ji < (t211.length : Int)
      case neg => rw [if_neg q1] at h; exact absurd h (by simp)
      rw [if_pos q1] at h
      by_cases q5 : 5 ≤ (((rd_T28 t211 ji).f2).length : Int)
      case neg => rw [if_neg q5] at h; exact absurd h (by simp)
      rw [if_pos q5] at h
      obtain rfl := Option.some.inj h
      clear h
      have Q0 := Aside0.mk q0
      have Q1 := Aside0.mk q1
      have Q5 := Aside0.mk q5
      have q0e := eq_true q0
      have q1e := eq_true q1
      have q5e := eq_true q5
      have q0b : decide (0 ≤ ji) = true := decide_eq_true q0
      have q1b : decide (ji < (t211.length : Int)) = true := decide_eq_true q1
      have q5b : decide (5 ≤ (((rd_T28 t211 ji).f2).length : Int)) = true := decide_eq_true q5
      clear q0 q1 q5
      go_enter Tryd.func6, Tryd.ntmps6
      go_wp2_with (first | ((with_reducible refine gate_callee (f := 19) rfl ?_); refine goesL_ (some 10) rfl rfl Tryd.func19 (by kernel_rfl) rfl #[.slice A0 l0.length c0] rfl (by (try simp only [List.map_toArray, List.map_cons, List.map_nil]); first | done | rfl | (simp only [List.length_drop, List.length_take]; rfl)) ?_; (with_reducible refine (spec_l1open.calls _ _ l0 t201 t202 w _ (by repeat (first | (with_reducible first | exact HB.out | apply below_alloc | apply pw_below_drewN | apply below_drew1) | exact HB.out)) HR0.out HC0.out A2.out).mono ?_); rintro e w7 ⟨g203, rfl, hi, hb, hb2⟩; refine ⟨_, rfl, ?_⟩; clear HB; have HB := Aside0.mk hb; have HI203 := Aside0.mk hi; clear hb hb2 hi) | ((with_reducible refine gate_callee (f := 20) rfl ?_); refine goesL_ (some 12) rfl rfl Tryd.func20 (by kernel_rfl) rfl #[.pointer (some ⟨g203, 0, none⟩)] rfl (by (try simp only [List.map_toArray, List.map_cons, List.map_nil]); first | done | rfl | (simp only [List.length_drop, List.length_take]; rfl)) ?_; (with_reducible refine (spec_l1rd_next.calls g203 t201 t202 t204 t205 w _ (by repeat (first | (with_reducible first | exact HI203.out | apply IsS68.alloc | apply IsS68.drewN | apply IsS68.drew | apply IsS68.set_1) | exact HI203.out)) (by repeat (first | (with_reducible first | exact HB.out | apply below_alloc | apply pw_below_drewN | apply below_drew1) | exact HB.out)) A3.out).mono ?_); rintro e w8 ⟨rfl, hi, hb, hk⟩; refine ⟨_, rfl, ?_⟩; clear HB HI203; have HB := Aside0.mk hb; have HI203 := Aside0.mk hi; clear hb hi hk) | ((with_reducible refine gate_callee (f := 22) rfl ?_); refine goesL_ (some 23) rfl rfl Tryd.func22 (by kernel_rfl) rfl #[.pointer (some ⟨g203, 0, none⟩)] rfl (by (try simp only [List.map_toArray, List.map_cons, List.map_nil]); first | done | rfl | (simp only [List.length_drop, List.length_take]; rfl)) ?_; (with_reducible refine (spec_l2drawCalls.calls k g203 t201 t205 t211 t214 w _ (by repeat (first | (with_reducible first | exact HI203.out | apply IsS68.alloc | apply IsS68.drewN | apply IsS68.drew | apply IsS68.set_1) | exact HI203.out)) (by repeat (first | (with_reducible first | exact HB.out | apply below_alloc | apply pw_below_drewN | apply below_drew1) | exact HB.out)) A11.out).mono ?_); rintro e w15 ⟨v212, rfl, ho0, hi, hb, hk⟩; refine ⟨_, rfl, ?_⟩; have n0_ := Aside0.mk (show Kd.S k28 28 w15 w.heap.size (fun k_ => w.heap.size ≤ k_ ∧ k_ ≠ g203) v212 t211 from Kd.S_lower (Kd.S_mono (Kd.S_bound ho0) (fun k_ hk_ => ⟨(Nat.le_trans (below_size (by repeat (first | (with_reducible first | exact HB.out | apply below_alloc | apply pw_below_drewN | apply below_drew1) | exact HB.out))) hk_.2.1), IsS68.fresh (by repeat (first | (with_reducible first | exact HI203.out | apply IsS68.alloc | apply IsS68.drewN | apply IsS68.drew | apply IsS68.set_1) | exact HI203.out)) k_ hk_.2.1⟩)) (below_size (by repeat (first | (with_reducible first | exact HB.out | apply below_alloc | apply pw_below_drewN | apply below_drew1) | exact HB.out)))); clear HB HI203; have HO := n0_; have HB := Aside0.mk hb; have HI203 := Aside0.mk hi; obtain ⟨go, co, eo, gb, gl, cl, hcl⟩ := Kd.S_form HO.out HL.out; subst eo; have GB := Aside0.mk gb; clear gb gl hcl cl; clear n0_ hb hi hk ho0) | ((with_reducible refine gate_callee (f := 20) rfl ?_); refine goesL_ (some 32) rfl rfl Tryd.func20 (by kernel_rfl) rfl #[.pointer (some ⟨g203, 0, none⟩)] rfl (by (try simp only [List.map_toArray, List.map_cons, List.map_nil]); first | done | rfl | (simp only [List.length_drop, List.length_take]; rfl)) ?_; (with_reducible refine (spec_l1rd_next.calls g203 t201 t214 t215 t216 w _ (by repeat (first | (with_reducible first | exact HI203.out | apply IsS68.alloc | apply IsS68.drewN | apply IsS68.drew | apply IsS68.set_1) | exact HI203.out)) (by repeat (first | (with_reducible first | exact HB.out | apply below_alloc | apply pw_below_drewN | apply below_drew1) | exact HB.out)) A19.out).mono ?_); rintro e w8 ⟨rfl, hi, hb, hk⟩; refine ⟨_, rfl, ?_⟩; clear HB HI203; have HB := Aside0.mk hb; have HI203 := Aside0.mk hi; have n2_ := Aside0.mk (Kd.S_keep HO.out hk (fun _ h => h.2)); clear HO; have HO := n2_; clear n2_; obtain ⟨oki, c, hcl, hM, hcc, hfr, hoki, hH⟩ := Kd.S_elem HO.out z28 ji Q0.out Q1.out; obtain ⟨v, rfl, hR⟩ := k28_openM hM; obtain ⟨Av, ca, rfl⟩ := Kd.R_slice hR; have e3 : w8.cell? ⟨go, ji.toNat * 3 + 2, none⟩ = some (.slice Av ((rd_T28 t211 ji).f2).length ca) := hcc 2 _ rfl; have f3 : w8.frozen? ⟨go, ji.toNat * 3 + 2, none⟩ = false := hfr 2; have HH := Aside0.mk hH; have HR := Aside0.mk hR; have HKI := Aside0.mk hoki; clear hcl hM hcc hfr hoki hH hR; have hlen_ := (Kd.R_reads' HR.out).2.1; obtain ⟨i052, hi052, _, hsz52, _⟩ := info_parts info43; have hcut := cut_to (P := Tryd.prog) 26 43 .i64 Tryd.underlying26 hi052 Av ((rd_T28 t211 ji).f2).length ca 5 (by omega) Q5.out hlen_; clear hi052 hsz52 hlen_; clear hb hi hk))
      go_ret
      refine ⟨_, rfl, ?_, ?_⟩
      · have hR5 := Kd.R_take (m := 5) HR.out (by have := Q5.out; exact Int.ofNat_le.1 this)
        have h1 := (Kd.H_seg HH.out Q0.out Q1.out (seg := [.slice Av 5 ca]) (j := 2) (show (3 : Nat) ≤ 3 from by decide) (by simp [Value.oneCell'])).1
        have h2 := Kd.H_back h1 (x' := (⟨(rd_T28 t211 ji).f0, (rd_T28 t211 ji).f1, ((rd_T28 t211 ji).f2).take 5⟩ : S28)) (k28_mkM _ _ oki _ (Kd.R_far (p := ⟨go, _, none⟩) hR5 (fun k hk => (HKI.out k hk).2) _)) (fun _ h => h)
        exact Kd.S_mono h2 (fun _ _ => trivial)
      · exact HB.out.setCell GB.out _
    rw [if_neg c1] at h
    have c1b0 : ((Int.tmod t204 30) == 1) = false := beq_eq_false_iff_ne.mpr c1
    have c1b1 : ((Int.tmod t204 30) != 1) = true := bne_iff_ne.mpr c1
    by_cases c2 : (Int.tmod t204 30) = 2
    · rw [if_pos c2, if_pos hl] at h
      have c2b0 : ((Int.tmod t204 30) == 2) = true := beq_iff_eq.mpr c2
      have c2b1 : ((Int.tmod t204 30) != 2) = false := bne_eq_false_iff_eq.mpr c2
      clear c4 c1 c2 hl
      obtain ⟨⟨t215, t216⟩, A190, h⟩ := Option.bind_eq_some_iff.1 h
      dsimp only at A190 h
      have A19 := Aside0.mk A190
      clear A190
      obtain ⟨ji, hji⟩ : ∃ j_ : Int, (Int.tmod t215 (t211.length : Int)) = j_ := ⟨_, rfl⟩
      rw [hji] at h
      unfold spec_DrawEncodeLog.more at h
      by_cases q0 : 0 ≤ ji
      case neg => rw [if_neg q0] at h; exact absurd h (by simp)
      rw [if_pos q0] at h
      by_cases q1 : ji < (t211.length : Int)
      case neg => rw [if_neg q1] at h; exact absurd h (by simp)
      rw [if_pos q1] at h
      by_cases q6 : ((rd_T28 t211 ji).f2).length < 17592186044415
      case neg => rw [if_neg q6] at h; exact absurd h (by simp)
      rw [if_pos q6] at h
      obtain rfl := Option.some.inj h
      clear h
      have Q0 := Aside0.mk q0
      have Q1 := Aside0.mk q1
      have Q6 := Aside0.mk q6
      have q0e := eq_true q0
      have q1e := eq_true q1
      have q0b : decide (0 ≤ ji) = true := decide_eq_true q0
      have q1b : decide (ji < (t211.length : Int)) = true := decide_eq_true q1
      clear q0 q1 q6
      go_enter Tryd.func6, Tryd.ntmps6
      go_wp2_with (first | ((with_reducible refine gate_callee (f := 19) rfl ?_); refine goesL_ (some 10) rfl rfl Tryd.func19 (by kernel_rfl) rfl #[.slice A0 l0.length c0] rfl (by (try simp only [List.map_toArray, List.map_cons, List.map_nil]); first | done | rfl | (simp only [List.length_drop, List.length_take]; rfl)) ?_; (with_reducible refine (spec_l1open.calls _ _ l0 t201 t202 w _ (by repeat (first | (with_reducible first | exact HB.out | apply below_alloc | apply pw_below_drewN | apply below_drew1) | exact HB.out)) HR0.out HC0.out A2.out).mono ?_); rintro e w7 ⟨g203, rfl, hi, hb, hb2⟩; refine ⟨_, rfl, ?_⟩; clear HB; have HB := Aside0.mk hb; have HI203 := Aside0.mk hi; clear hb hb2 hi) | ((with_reducible refine gate_callee (f := 20) rfl ?_); refine goesL_ (some 12) rfl rfl Tryd.func20 (by kernel_rfl) rfl #[.pointer (some ⟨g203, 0, none⟩)] rfl (by (try simp only [List.map_toArray, List.map_cons, List.map_nil]); first | done | rfl | (simp only [List.length_drop, List.length_take]; rfl)) ?_; (with_reducible refine (spec_l1rd_next.calls g203 t201 t202 t204 t205 w _ (by repeat (first | (with_reducible first | exact HI203.out | apply IsS68.alloc | apply IsS68.drewN | apply IsS68.drew | apply IsS68.set_1) | exact HI203.out)) (by repeat (first | (with_reducible first | exact HB.out | apply below_alloc | apply pw_below_drewN | apply below_drew1) | exact HB.out)) A3.out).mono ?_); rintro e w8 ⟨rfl, hi, hb, hk⟩; refine ⟨_, rfl, ?_⟩; clear HB HI203; have HB := Aside0.mk hb; have HI203 := Aside0.mk hi; clear hb hi hk) | ((with_reducible refine gate_callee (f := 22) rfl ?_); refine goesL_ (some 23) rfl rfl Tryd.func22 (by kernel_rfl) rfl #[.pointer (some ⟨g203, 0, none⟩)] rfl (by (try simp only [List.map_toArray, List.map_cons, List.map_nil]); first | done | rfl | (simp only [List.length_drop, List.length_take]; rfl)) ?_; (with_reducible refine (spec_l2drawCalls.calls k g203 t201 t205 t211 t214 w _ (by repeat (first | (with_reducible first | exact HI203.out | apply IsS68.alloc | apply IsS68.drewN | apply IsS68.drew | apply IsS68.set_1) | exact HI203.out)) (by repeat (first | (with_reducible first | exact HB.out | apply below_alloc | apply pw_below_drewN | apply below_drew1) | exact HB.out)) A11.out).mono ?_); rintro e w15 ⟨v212, rfl, ho0, hi, hb, hk⟩; refine ⟨_, rfl, ?_⟩; have n0_ := Aside0.mk (show Kd.S k28 28 w15 w.heap.size (fun k_ => w.heap.size ≤ k_ ∧ k_ ≠ g203) v212 t211 from Kd.S_lower (Kd.S_mono (Kd.S_bound ho0) (fun k_ hk_ => ⟨(Nat.le_trans (below_size (by repeat (first | (with_reducible first | exact HB.out | apply below_alloc | apply pw_below_drewN | apply below_drew1) | exact HB.out))) hk_.2.1), IsS68.fresh (by repeat (first | (with_reducible first | exact HI203.out | apply IsS68.alloc | apply IsS68.drewN | apply IsS68.drew | apply IsS68.set_1) | exact HI203.out)) k_ hk_.2.1⟩)) (below_size (by repeat (first | (with_reducible first | exact HB.out | apply below_alloc | apply pw_below_drewN | apply below_drew1) | exact HB.out)))); clear HB HI203; have HO := n0_; have HB := Aside0.mk hb; have HI203 := Aside0.mk hi; obtain ⟨go, co, eo, gb, gl, cl, hcl⟩ := Kd.S_form HO.out HL.out; subst eo; have GB := Aside0.mk gb; clear gb gl hcl cl; clear n0_ hb hi hk ho0) | ((with_reducible refine gate_callee (f := 20) rfl ?_); refine goesL_ (some 54) rfl rfl Tryd.func20 (by kernel_rfl) rfl #[.pointer (some ⟨g203, 0, none⟩)] rfl (by (try simp only [List.map_toArray, List.map_cons, List.map_nil]); first | done | rfl | (simp only [List.length_drop, List.length_take]; rfl)) ?_; (with_reducible refine (spec_l1rd_next.calls g203 t201 t214 t215 t216 w _ (by repeat (first | (with_reducible first | exact HI203.out | apply IsS68.alloc | apply IsS68.drewN | apply IsS68.drew | apply IsS68.set_1) | exact HI203.out)) (by repeat (first | (with_reducible first | exact HB.out | apply below_alloc | apply pw_below_drewN | apply below_drew1) | exact HB.out)) A19.out).mono ?_); rintro e w8 ⟨rfl, hi, hb, hk⟩; refine ⟨_, rfl, ?_⟩; clear HB HI203; have HB := Aside0.mk hb; have HI203 := Aside0.mk hi; have n2_ := Aside0.mk (Kd.S_keep HO.out hk (fun _ h => h.2)); clear HO; have HO := n2_; clear n2_; obtain ⟨oki, c, hcl, hM, hcc, hfr, hoki, hH⟩ := Kd.S_elem HO.out z28 ji Q0.out Q1.out; obtain ⟨v, rfl, hR⟩ := k28_openM hM; obtain ⟨Av, ca, rfl⟩ := Kd.R_slice hR; have e3 : w8.cell? ⟨go, ji.toNat * 3 + 2, none⟩ = some (.slice Av ((rd_T28 t211 ji).f2).length ca) := hcc 2 _ rfl; have f3 : w8.frozen? ⟨go, ji.toNat * 3 + 2, none⟩ = false := hfr 2; have HH := Aside0.mk hH; have HR := Aside0.mk hR; have HKI := Aside0.mk hoki; clear hcl hM hcc hfr hoki hH hR; have HGL := Aside0.mk (show go < w8.heap.size from (Kd.S_lt HO.out go rfl)); clear hb hi hk) | ((with_reducible refine gate_builtin (b := .append) (xs := #[.tmp 64, .tmp 65]) rfl ?_); at_builtin; refine Kd.R_append (Kd.int .u64) w.heap.size rfl (.tmp 64) (.tmp 65) 26 43 (.int .u64 0) 8 rfl Tryd.underlying26 info43 rfl (by decide) (by omega) (.slice Av ((rd_T28 t211 ji).f2).length ca) ((rd_T28 t211 ji).f2) 0 [.int .u64 0] (fun k => oki k ∨ (w.heap.size ≤ k ∧ k ≠ g203) ∧ w8.heap.size ≤ k) (fun _ => False) rfl rfl ?aP (fun _ hk => hk.elim) ?aF ?aO HB.out ?aS ?aL ?_; (case aP => exact rfl); (case aF => exact (fun k hk => .inr ⟨⟨Nat.le_trans (below_size HB.out) hk, IsS68.fresh HI203.out k hk⟩, hk⟩)); (case aO => exact Kd.R_mono HR.out (fun _ h => .inl h)); (case aS => exact below_size HB.out); (case aL => have := Q6.out; omega); intro v430 w18 ho hb hg hat; obtain ⟨A1, c1, rfl⟩ := Kd.R_slice ho; have hH1 := Kd.H_grown (Kd.H_widen HH.out) hg (fun k hk => .inl (HR.out.1 k hk)); obtain ⟨rows, hrl, hraw, hcl, hone, hcc1, _⟩ := Kd.H_raw hH1 Q0.out Q1.out; obtain ⟨_, _, _, _, hfr1⟩ := Kd.R_elem hraw [] ji Q0.out Q1.out; have e31 := hcc1 2 _ rfl; have f31 := hfr1 2; have hs : k28.sz = 3 := rfl; have hs2 : (Kd.raw k28.sz).sz = 3 := rfl; rw [hs] at e31; rw [hs2] at f31; have HH1 := Aside0.mk hH1; have HR1 := Aside0.mk ho; have HB1 := Aside0.mk hb; clear hcl hone hcc1 hfr1 hraw hrl hs hs2 hH1 ho hb hg hat))
      go_ret
      refine ⟨_, rfl, ?_, ?_⟩
      · have hR2 := HR1.out
        have hl_ : ((rd_T28 t211 ji).f2 ++ ([0] : List Int)).length = (rd_T28 t211 ji).f2.length + 1 := by rw [List.length_append, List.length_singleton]
        rw [hl_] at hR2
        have h1 := (Kd.H_seg HH1.out Q0.out Q1.out (seg := [.slice A1 ((rd_T28 t211 ji).f2.length + 1) c1]) (j := 2) (show (3 : Nat) ≤ 3 from by decide) (by simp [Value.oneCell'])).1
        have h2 := Kd.H_back h1 (x' := (⟨(rd_T28 t211 ji).f0, (rd_T28 t211 ji).f1, (rd_T28 t211 ji).f2 ++ [0]⟩ : S28)) (k28_mkM _ _ _ _ (Kd.R_far (p := ⟨go, _, none⟩) hR2 (fun k hk => hk.elim (fun h => (HKI.out k h).2) (fun h e_ => by have := HGL.out; subst e_; omega)) _)) (fun _ h => h)
        exact Kd.S_mono h2 (fun _ _ => trivial)
      · exact HB1.out.setCell GB.out _
    rw [if_neg c2] at h
    have c2b0 : ((Int.tmod t204 30) == 2) = false := beq_eq_false_iff_ne.mpr c2
    have c2b1 : ((Int.tmod t204 30) != 2) = true := bne_iff_ne.mpr c2
    obtain rfl := Option.some.inj h
    clear h c4 c1 c2 hl
    go_enter Tryd.func6, Tryd.ntmps6
    go_wp2_with (first | ((with_reducible refine gate_callee (f := 19) rfl ?_); refine goesL_ (some 10) rfl rfl Tryd.func19 (by kernel_rfl) rfl #[.slice A0 l0.length c0] rfl (by (try simp only [List.map_toArray, List.map_cons, List.map_nil]); first | done | rfl | (simp only [List.length_drop, List.length_take]; rfl)) ?_; (with_reducible refine (spec_l1open.calls _ _ l0 t201 t202 w _ (by repeat (first | (with_reducible first | exact HB.out | apply below_alloc | apply pw_below_drewN | apply below_drew1) | exact HB.out)) HR0.out HC0.out A2.out).mono ?_); rintro e w7 ⟨g203, rfl, hi, hb, hb2⟩; refine ⟨_, rfl, ?_⟩; clear HB; have HB := Aside0.mk hb; have HI203 := Aside0.mk hi; clear hb hb2 hi) | ((with_reducible refine gate_callee (f := 20) rfl ?_); refine goesL_ (some 12) rfl rfl Tryd.func20 (by kernel_rfl) rfl #[.pointer (some ⟨g203, 0, none⟩)] rfl (by (try simp only [List.map_toArray, List.map_cons, List.map_nil]); first | done | rfl | (simp only [List.length_drop, List.length_take]; rfl)) ?_; (with_reducible refine (spec_l1rd_next.calls g203 t201 t202 t204 t205 w _ (by repeat (first | (with_reducible first | exact HI203.out | apply IsS68.alloc | apply IsS68.drewN | apply IsS68.drew | apply IsS68.set_1) | exact HI203.out)) (by repeat (first | (with_reducible first | exact HB.out | apply below_alloc | apply pw_below_drewN | apply below_drew1) | exact HB.out)) A3.out).mono ?_); rintro e w8 ⟨rfl, hi, hb, hk⟩; refine ⟨_, rfl, ?_⟩; clear HB HI203; have HB := Aside0.mk hb; have HI203 := Aside0.mk hi; clear hb hi hk) | ((with_reducible refine gate_callee (f := 22) rfl ?_); refine goesL_ (some 23) rfl rfl Tryd.func22 (by kernel_rfl) rfl #[.pointer (some ⟨g203, 0, none⟩)] rfl (by (try simp only [List.map_toArray, List.map_cons, List.map_nil]); first | done | rfl | (simp only [List.length_drop, List.length_take]; rfl)) ?_; (with_reducible refine (spec_l2drawCalls.calls k g203 t201 t205 t211 t214 w _ (by repeat (first | (with_reducible first | exact HI203.out | apply IsS68.alloc | apply IsS68.drewN | apply IsS68.drew | apply IsS68.set_1) | exact HI203.out)) (by repeat (first | (with_reducible first | exact HB.out | apply below_alloc | apply pw_below_drewN | apply below_drew1) | exact HB.out)) A11.out).mono ?_); rintro e w15 ⟨v212, rfl, ho0, hi, hb, hk⟩; refine ⟨_, rfl, ?_⟩; have n0_ := Aside0.mk (show Kd.S k28 28 w15 w.heap.size (fun k_ => w.heap.size ≤ k_ ∧ k_ ≠ g203) v212 t211 from Kd.S_lower (Kd.S_mono (Kd.S_bound ho0) (fun k_ hk_ => ⟨(Nat.le_trans (below_size (by repeat (first | (with_reducible first | exact HB.out | apply below_alloc | apply pw_below_drewN | apply below_drew1) | exact HB.out))) hk_.2.1), IsS68.fresh (by repeat (first | (with_reducible first | exact HI203.out | apply IsS68.alloc | apply IsS68.drewN | apply IsS68.drew | apply IsS68.set_1) | exact HI203.out)) k_ hk_.2.1⟩)) (below_size (by repeat (first | (with_reducible first | exact HB.out | apply below_alloc | apply pw_below_drewN | apply below_drew1) | exact HB.out)))); clear HB HI203; have HO := n0_; have HB := Aside0.mk hb; have HI203 := Aside0.mk hi; obtain ⟨Ao, co, eo⟩ := Kd.S_slice HO.out; subst eo; clear n0_ hb hi hk ho0))
    go_ret
    exact ⟨_, rfl, Kd.S_mono HO.out (fun _ _ => trivial), HB.out⟩
  have hr : t211 = r := by
    by_cases c1 : (Int.tmod t204 30) = 1
    · rw [if_pos c1, if_neg hl] at h
      exact Option.some.inj h
    rw [if_neg c1] at h
    by_cases c2 : (Int.tmod t204 30) = 2
    · rw [if_pos c2, if_neg hl] at h
      exact Option.some.inj h
    rw [if_neg c2] at h
    exact Option.some.inj h
  subst hr
  clear h
  have hz0 : decide (0 < (t211.length : Int)) = false := decide_eq_false (by omega)
  have hz1 : decide (0 < t211.length) = false := decide_eq_false hl
  clear hl c4
  by_cases c1 : (Int.tmod t204 30) = 1
  · have c1b0 : ((Int.tmod t204 30) == 1) = true := beq_iff_eq.mpr c1
    have c1b1 : ((Int.tmod t204 30) != 1) = false := bne_eq_false_iff_eq.mpr c1
    have c2b0 : ((Int.tmod t204 30) == 2) = false := beq_eq_false_iff_ne.mpr (by omega)
    have c2b1 : ((Int.tmod t204 30) != 2) = true := bne_iff_ne.mpr (by omega)
    clear c1
    go_enter Tryd.func6, Tryd.ntmps6
    go_wp2_with (first | ((with_reducible refine gate_callee (f := 19) rfl ?_); refine goesL_ (some 10) rfl rfl Tryd.func19 (by kernel_rfl) rfl #[.slice A0 l0.length c0] rfl (by (try simp only [List.map_toArray, List.map_cons, List.map_nil]); first | done | rfl | (simp only [List.length_drop, List.length_take]; rfl)) ?_; (with_reducible refine (spec_l1open.calls _ _ l0 t201 t202 w _ (by repeat (first | (with_reducible first | exact HB.out | apply below_alloc | apply pw_below_drewN | apply below_drew1) | exact HB.out)) HR0.out HC0.out A2.out).mono ?_); rintro e w7 ⟨g203, rfl, hi, hb, hb2⟩; refine ⟨_, rfl, ?_⟩; clear HB; have HB := Aside0.mk hb; have HI203 := Aside0.mk hi; clear hb hb2 hi) | ((with_reducible refine gate_callee (f := 20) rfl ?_); refine goesL_ (some 12) rfl rfl Tryd.func20 (by kernel_rfl) rfl #[.pointer (some ⟨g203, 0, none⟩)] rfl (by (try simp only [List.map_toArray, List.map_cons, List.map_nil]); first | done | rfl | (simp only [List.length_drop, List.length_take]; rfl)) ?_; (with_reducible refine (spec_l1rd_next.calls g203 t201 t202 t204 t205 w _ (by repeat (first | (with_reducible first | exact HI203.out | apply IsS68.alloc | apply IsS68.drewN | apply IsS68.drew | apply IsS68.set_1) | exact HI203.out)) (by repeat (first | (with_reducible first | exact HB.out | apply below_alloc | apply pw_below_drewN | apply below_drew1) | exact HB.out)) A3.out).mono ?_); rintro e w8 ⟨rfl, hi, hb, hk⟩; refine ⟨_, rfl, ?_⟩; clear HB HI203; have HB := Aside0.mk hb; have HI203 := Aside0.mk hi; clear hb hi hk) | ((with_reducible refine gate_callee (f := 22) rfl ?_); refine goesL_ (some 23) rfl rfl Tryd.func22 (by kernel_rfl) rfl #[.pointer (some ⟨g203, 0, none⟩)] rfl (by (try simp only [List.map_toArray, List.map_cons, List.map_nil]); first | done | rfl | (simp only [List.length_drop, List.length_take]; rfl)) ?_; (with_reducible refine (spec_l2drawCalls.calls k g203 t201 t205 t211 t214 w _ (by repeat (first | (with_reducible first | exact HI203.out | apply IsS68.alloc | apply IsS68.drewN | apply IsS68.drew | apply IsS68.set_1) | exact HI203.out)) (by repeat (first | (with_reducible first | exact HB.out | apply below_alloc | apply pw_below_drewN | apply below_drew1) | exact HB.out)) A11.out).mono ?_); rintro e w15 ⟨v212, rfl, ho0, hi, hb, hk⟩; refine ⟨_, rfl, ?_⟩; have n0_ := Aside0.mk (show Kd.S k28 28 w15 w.heap.size (fun k_ => w.heap.size ≤ k_ ∧ k_ ≠ g203) v212 t211 from Kd.S_lower (Kd.S_mono (Kd.S_bound ho0) (fun k_ hk_ => ⟨(Nat.le_trans (below_size (by repeat (first | (with_reducible first | exact HB.out | apply below_alloc | apply pw_below_drewN | apply below_drew1) | exact HB.out))) hk_.2.1), IsS68.fresh (by repeat (first | (with_reducible first | exact HI203.out | apply IsS68.alloc | apply IsS68.drewN | apply IsS68.drew | apply IsS68.set_1) | exact HI203.out)) k_ hk_.2.1⟩)) (below_size (by repeat (first | (with_reducible first | exact HB.out | apply below_alloc | apply pw_below_drewN | apply below_drew1) | exact HB.out)))); clear HB HI203; have HO := n0_; have HB := Aside0.mk hb; have HI203 := Aside0.mk hi; obtain ⟨Ao, co, eo⟩ := Kd.S_slice HO.out; subst eo; clear n0_ hb hi hk ho0))
    go_ret
    exact ⟨_, rfl, Kd.S_mono HO.out (fun _ _ => trivial), HB.out⟩
  have c1b0 : ((Int.tmod t204 30) == 1) = false := beq_eq_false_iff_ne.mpr c1
  have c1b1 : ((Int.tmod t204 30) != 1) = true := bne_iff_ne.mpr c1
  clear c1
  by_cases c2 : (Int.tmod t204 30) = 2
  · have c2b0 : ((Int.tmod t204 30) == 2) = true := beq_iff_eq.mpr c2
    have c2b1 : ((Int.tmod t204 30) != 2) = false := bne_eq_false_iff_eq.mpr c2
    clear c2
    go_enter Tryd.func6, Tryd.ntmps6
    go_wp2_with (first | ((with_reducible refine gate_callee (f := 19) rfl ?_); refine goesL_ (some 10) rfl rfl Tryd.func19 (by kernel_rfl) rfl #[.slice A0 l0.length c0] rfl (by (try simp only [List.map_toArray, List.map_cons, List.map_nil]); first | done | rfl | (simp only [List.length_drop, List.length_take]; rfl)) ?_; (with_reducible refine (spec_l1open.calls _ _ l0 t201 t202 w _ (by repeat (first | (with_reducible first | exact HB.out | apply below_alloc | apply pw_below_drewN | apply below_drew1) | exact HB.out)) HR0.out HC0.out A2.out).mono ?_); rintro e w7 ⟨g203, rfl, hi, hb, hb2⟩; refine ⟨_, rfl, ?_⟩; clear HB; have HB := Aside0.mk hb; have HI203 := Aside0.mk hi; clear hb hb2 hi) | ((with_reducible refine gate_callee (f := 20) rfl ?_); refine goesL_ (some 12) rfl rfl Tryd.func20 (by kernel_rfl) rfl #[.pointer (some ⟨g203, 0, none⟩)] rfl (by (try simp only [List.map_toArray, List.map_cons, List.map_nil]); first | done | rfl | (simp only [List.length_drop, List.length_take]; rfl)) ?_; (with_reducible refine (spec_l1rd_next.calls g203 t201 t202 t204 t205 w _ (by repeat (first | (with_reducible first | exact HI203.out | apply IsS68.alloc | apply IsS68.drewN | apply IsS68.drew | apply IsS68.set_1) | exact HI203.out)) (by repeat (first | (with_reducible first | exact HB.out | apply below_alloc | apply pw_below_drewN | apply below_drew1) | exact HB.out)) A3.out).mono ?_); rintro e w8 ⟨rfl, hi, hb, hk⟩; refine ⟨_, rfl, ?_⟩; clear HB HI203; have HB := Aside0.mk hb; have HI203 := Aside0.mk hi; clear hb hi hk) | ((with_reducible refine gate_callee (f := 22) rfl ?_); refine goesL_ (some 23) rfl rfl Tryd.func22 (by kernel_rfl) rfl #[.pointer (some ⟨g203, 0, none⟩)] rfl (by (try simp only [List.map_toArray, List.map_cons, List.map_nil]); first | done | rfl | (simp only [List.length_drop, List.length_take]; rfl)) ?_; (with_reducible refine (spec_l2drawCalls.calls k g203 t201 t205 t211 t214 w _ (by repeat (first | (with_reducible first | exact HI203.out | apply IsS68.alloc | apply IsS68.drewN | apply IsS68.drew | apply IsS68.set_1) | exact HI203.out)) (by repeat (first | (with_reducible first | exact HB.out | apply below_alloc | apply pw_below_drewN | apply below_drew1) | exact HB.out)) A11.out).mono ?_); rintro e w15 ⟨v212, rfl, ho0, hi, hb, hk⟩; refine ⟨_, rfl, ?_⟩; have n0_ := Aside0.mk (show Kd.S k28 28 w15 w.heap.size (fun k_ => w.heap.size ≤ k_ ∧ k_ ≠ g203) v212 t211 from Kd.S_lower (Kd.S_mono (Kd.S_bound ho0) (fun k_ hk_ => ⟨(Nat.le_trans (below_size (by repeat (first | (with_reducible first | exact HB.out | apply below_alloc | apply pw_below_drewN | apply below_drew1) | exact HB.out))) hk_.2.1), IsS68.fresh (by repeat (first | (with_reducible first | exact HI203.out | apply IsS68.alloc | apply IsS68.drewN | apply IsS68.drew | apply IsS68.set_1) | exact HI203.out)) k_ hk_.2.1⟩)) (below_size (by repeat (first | (with_reducible first | exact HB.out | apply below_alloc | apply pw_below_drewN | apply below_drew1) | exact HB.out)))); clear HB HI203; have HO := n0_; have HB := Aside0.mk hb; have HI203 := Aside0.mk hi; obtain ⟨Ao, co, eo⟩ := Kd.S_slice HO.out; subst eo; clear n0_ hb hi hk ho0))
    go_ret
    exact ⟨_, rfl, Kd.S_mono HO.out (fun _ _ => trivial), HB.out⟩
  have c2b0 : ((Int.tmod t204 30) == 2) = false := beq_eq_false_iff_ne.mpr c2
  have c2b1 : ((Int.tmod t204 30) != 2) = true := bne_iff_ne.mpr c2
  clear c2
  go_enter Tryd.func6, Tryd.ntmps6
  go_wp2_with (first | ((with_reducible refine gate_callee (f := 19) rfl ?_); refine goesL_ (some 10) rfl rfl Tryd.func19 (by kernel_rfl) rfl #[.slice A0 l0.length c0] rfl (by (try simp only [List.map_toArray, List.map_cons, List.map_nil]); first | done | rfl | (simp only [List.length_drop, List.length_take]; rfl)) ?_; (with_reducible refine (spec_l1open.calls _ _ l0 t201 t202 w _ (by repeat (first | (with_reducible first | exact HB.out | apply below_alloc | apply pw_below_drewN | apply below_drew1) | exact HB.out)) HR0.out HC0.out A2.out).mono ?_); rintro e w7 ⟨g203, rfl, hi, hb, hb2⟩; refine ⟨_, rfl, ?_⟩; clear HB; have HB := Aside0.mk hb; have HI203 := Aside0.mk hi; clear hb hb2 hi) | ((with_reducible refine gate_callee (f := 20) rfl ?_); refine goesL_ (some 12) rfl rfl Tryd.func20 (by kernel_rfl) rfl #[.pointer (some ⟨g203, 0, none⟩)] rfl (by (try simp only [List.map_toArray, List.map_cons, List.map_nil]); first | done | rfl | (simp only [List.length_drop, List.length_take]; rfl)) ?_; (with_reducible refine (spec_l1rd_next.calls g203 t201 t202 t204 t205 w _ (by repeat (first | (with_reducible first | exact HI203.out | apply IsS68.alloc | apply IsS68.drewN | apply IsS68.drew | apply IsS68.set_1) | exact HI203.out)) (by repeat (first | (with_reducible first | exact HB.out | apply below_alloc | apply pw_below_drewN | apply below_drew1) | exact HB.out)) A3.out).mono ?_); rintro e w8 ⟨rfl, hi, hb, hk⟩; refine ⟨_, rfl, ?_⟩; clear HB HI203; have HB := Aside0.mk hb; have HI203 := Aside0.mk hi; clear hb hi hk) | ((with_reducible refine gate_callee (f := 22) rfl ?_); refine goesL_ (some 23) rfl rfl Tryd.func22 (by kernel_rfl) rfl #[.pointer (some ⟨g203, 0, none⟩)] rfl (by (try simp only [List.map_toArray, List.map_cons, List.map_nil]); first | done | rfl | (simp only [List.length_drop, List.length_take]; rfl)) ?_; (with_reducible refine (spec_l2drawCalls.calls k g203 t201 t205 t211 t214 w _ (by repeat (first | (with_reducible first | exact HI203.out | apply IsS68.alloc | apply IsS68.drewN | apply IsS68.drew | apply IsS68.set_1) | exact HI203.out)) (by repeat (first | (with_reducible first | exact HB.out | apply below_alloc | apply pw_below_drewN | apply below_drew1) | exact HB.out)) A11.out).mono ?_); rintro e w15 ⟨v212, rfl, ho0, hi, hb, hk⟩; refine ⟨_, rfl, ?_⟩; have n0_ := Aside0.mk (show Kd.S k28 28 w15 w.heap.size (fun k_ => w.heap.size ≤ k_ ∧ k_ ≠ g203) v212 t211 from Kd.S_lower (Kd.S_mono (Kd.S_bound ho0) (fun k_ hk_ => ⟨(Nat.le_trans (below_size (by repeat (first | (with_reducible first | exact HB.out | apply below_alloc | apply pw_below_drewN | apply below_drew1) | exact HB.out))) hk_.2.1), IsS68.fresh (by repeat (first | (with_reducible first | exact HI203.out | apply IsS68.alloc | apply IsS68.drewN | apply IsS68.drew | apply IsS68.set_1) | exact HI203.out)) k_ hk_.2.1⟩)) (below_size (by repeat (first | (with_reducible first | exact HB.out | apply below_alloc | apply pw_below_drewN | apply below_drew1) | exact HB.out)))); clear HB HI203; have HO := n0_; have HB := Aside0.mk hb; have HI203 := Aside0.mk hi; obtain ⟨Ao, co, eo⟩ := Kd.S_slice HO.out; subst eo; clear n0_ hb hi hk ho0))
  go_ret
  exact ⟨_, rfl, Kd.S_mono HO.out (fun _ _ => trivial), HB.out⟩

end Go.Proofs.YtjpjfkmnfppgkaaDoor.P
