import Derived.Test.YtjpjfkmnfppgkaaGFnExactDistinct6
import Derived.Test.YtjpjfkmnfppgkaaGFnExactDistinct12
import Derived.Shelf.SlSortCmp.KitK
import Derived.Shelf.SlSortCmp.QuietGrown
import Derived.Test.YtjpjfkmnfppgkaaGFnExactDistinct9
namespace Go.Proofs.Ytjpjfkmnfppgkaa.P
open Go.RowKit Go.Proofs.YtjpjfkmnfppgkaaW.PrintWords Go.Proofs.YtjpjfkmnfppgkaaW.PrintLast Go.Proofs.YtjpjfkmnfppgkaaW.PrintMore
set_option linter.unusedVariables false
set_option linter.unusedSimpArgs false

set_option maxHeartbeats 4000000 in
theorem eqCall.grew (k : Nat) (x y : S35) (A1 : Option Addr) (c1 : Nat) (A2 : Option Addr) (c2 : Nat) (r : Int) (b o : Nat) (W : World) (r1 : Kd.C (Kd.int .u64) W A1 x.f2.length x.f2) (h1 : x.f2.length ≤ c1) (r2 : Kd.C (Kd.int .u64) W A2 y.f2.length y.f2) (h2 : y.f2.length ≤ c2) (hbox : W.cell? ⟨b, o, none⟩ = some (.func (.func 16) #[] #[])) (hk : Zau.f k x.f0 x.f1 x.f2 y.f0 y.f1 y.f2 = some r) :
  Calls Try.prog 26 #[.agg #[.int .u32 x.f0, .int .u32 x.f1, .slice A1 x.f2.length c1], .agg #[.int .u32 y.f0, .int .u32 y.f1, .slice A2 y.f2.length c2], .pointer (some ⟨b, o, none⟩)] W fun e w' => e = .returned (.bool (decide (r = 0))) ∧ ∃ q os, w' = Go.Sort.grow (W.drewN q) os := by
 have hlt := World.block_lt_of_cell? W _ hbox
 have HC := Za.mk (fun w' (hb : Below W.heap.size W w') => Zau.grew k _ _ A1 c1 _ _ _ A2 c2 _ r w' (Kd.Zah r1 hb) h1 (Kd.Zah r2 hb) h2 hk)
 obtain ⟨p, hp⟩ : ∃ p, p = decide (r = 0) := ⟨_, rfl⟩
 have hp2 : (r == 0) = p := by rw [hp]; by_cases h : r = 0 <;> simp [h]
 rw [← hp]
 clear r1 r2 h1 h2 hk hp
 have hb2 : ∀ o1 o2, ((W.alloc o1).alloc o2).cell? ⟨b, o, none⟩ = some (.func (.func 16) #[] #[]) := fun o1 o2 => Lib.cell?_alloc_some o2 (Lib.cell?_alloc_some o1 hbox)
 clear hbox
 go_enter Try.func26, Try.ntmps26
 go_wp2_with (go_at_call 16; refine (HC.out _ (Zd (Zd (Below.refl _ _) _) _)).mono ?_; clear HC; rintro e w1 ⟨rfl, hb, hd⟩; have HB := Za.mk hb; have HD := Za.mk hd; clear hb hd)
 go_ret
 refine ⟨rfl, grew_of ((Zd (Zd (Below.refl _ _) _) _).trans (HB.out.mono (by simp; omega))) ?_⟩
 exact HD.out
def keepN (q : Nat → Nat → Bool) (f : Nat → Nat) : Nat → List Nat
  | 0 => []
  | i + 1 => if i = 0 then [f 0] else if q (f i) (f (i - 1)) then keepN q f i else keepN q f i ++ [f i]
theorem keepN_le (q : Nat → Nat → Bool) (f : Nat → Nat) : ∀ i, (keepN q f i).length ≤ i
  | 0 => Nat.le_refl _
  | i + 1 => by
    have := keepN_le q f i
    unfold keepN
    split
    · simp
    · split
      · omega
      · rw [List.length_append, List.length_singleton]; omega
theorem keepN_yes {q : Nat → Nat → Bool} {f : Nat → Nat} {i : Nat} (hi : 0 < i) (h : q (f i) (f (i - 1)) = true) : keepN q f (i + 1) = keepN q f i := by
  rw [keepN, if_neg (by omega), if_pos h]
theorem keepN_no {q : Nat → Nat → Bool} {f : Nat → Nat} {i : Nat} (hi : 0 < i) (h : q (f i) (f (i - 1)) = false) : keepN q f (i + 1) = keepN q f i ++ [f i] := by
  rw [keepN, if_neg (by omega), if_neg (by rw [h]; decide)]
theorem setMany_set {α : Type} [Inhabited α] (enc : α → List Value) (k : Nat) (hk : ∀ x, (enc x).length = k) (d : Array α) (i : Nat) (hi : i < d.size) (x : α) :
    Go.Sort.setMany (Go.Sort.flatK enc k d) (i * k) (enc x) = Go.Sort.flatK enc k (d.setIfInBounds i x) := by
  refine Go.Sort.ext_get! (by simp) fun t ht => ?_
  have ht' : t < d.size * k := by simpa using ht
  have k0 : 0 < k := by
    rcases Nat.eq_zero_or_pos k with h | h
    · subst h; simp at ht'
    · exact h
  rw [Go.Sort.get_setMany _ _ _ t (by simpa using ht'), Go.Sort.get_flatK _ _ _ t ht', Go.Sort.get_flatK _ _ _ t (by rw [Array.size_setIfInBounds]; exact ht'), hk]
  by_cases a : t / k = i
  · rw [if_pos ((Go.Sort.blk_iff k i t k0).2 a), show t - i * k = t % k by subst a; rw [Nat.mod_eq_sub_div_mul], a, getElem!_pos (d.setIfInBounds i x) i (by simpa using hi), Array.getElem_setIfInBounds, if_pos rfl]
    exact hi
  · have hlt : t / k < d.size := Nat.div_lt_of_lt_mul (by rwa [Nat.mul_comm] at ht')
    rw [if_neg (fun h => a ((Go.Sort.blk_iff k i t k0).1 h)), getElem!_pos (d.setIfInBounds i x) (t / k) (by simpa using hlt), Array.getElem_setIfInBounds, if_neg (Ne.symm a), getElem!_pos d (t / k) hlt]
theorem SWK_set {α : Type} [Inhabited α] {enc : α → List Value} {k : Nat} {w0 W : World} {blk off : Nat} {dk : Array α} (h : SWK enc k w0 blk off dk W) (hk : ∀ x, (enc x).length = k) (hblk : blk < w0.heap.size) (i : Nat) (hi : i < dk.size) (x : α) :
    SWK enc k w0 blk off (dk.setIfInBounds i x) (W.setCells blk (off + i * k) (enc x)) := by
  obtain ⟨n, os, rfl⟩ := h
  refine ⟨n, os, ?_⟩
  unfold sortWorldK
  rw [← Go.Sort.putRowK_grow enc k (Go.Sort.ahead w0 n) os blk off dk hblk, ← Go.Sort.putRowK_grow enc k (Go.Sort.ahead w0 n) os blk off _ hblk]
  unfold Go.Sort.putRowK
  have hb : i * k + (enc x).length ≤ (Go.Sort.flatK enc k dk).size := by
    rw [hk, Go.Sort.size_flatK, ← Nat.succ_mul]
    exact Nat.mul_le_mul_right k hi
  rw [Go.Sort.setCells_putRow _ _ _ _ _ _ hb, setMany_set enc k hk dk i hi x]
def CI (q : Nat → Nat → Bool) (f : Nat → Nat) (n i kk : Nat) (dk : Array Nat) : Prop := dk.size = n ∧ kk = (keepN q f i).length ∧ kk < i ∧ dk.toList.take kk = keepN q f i ∧ ∀ m, i ≤ m + 1 → m < n → dk[m]! = f m
theorem CI.start {q : Nat → Nat → Bool} {f : Nat → Nat} {n k : Nat} {xs : Array Nat} (hs : xs.size = n) (hf : ∀ m, xs[m]! = f m) (hk0 : 0 < k) (hk : k < n) (hA : keepN q f k = (List.range k).map f) (hd : q (f k) (f (k - 1)) = true) : CI q f n (k + 1) k xs := by
  have e : keepN q f (k + 1) = keepN q f k := keepN_yes hk0 hd
  have hl : (keepN q f k).length = k := by rw [hA, List.length_map, List.length_range]
  refine ⟨hs, by rw [e, hl], by omega, ?_, fun m _ _ => hf m⟩
  rw [e, hA]
  apply List.ext_getElem?
  intro j
  rw [List.getElem?_take]
  split
  · rename_i hj
    rw [Array.getElem?_toList, Array.getElem?_eq_getElem (by omega), List.getElem?_map, List.getElem?_range hj, Option.map_some, ← hf j, getElem!_pos xs j (by omega)]
  · rw [List.getElem?_eq_none (by simp; omega)]
theorem CI.skip {q : Nat → Nat → Bool} {f : Nat → Nat} {n i kk : Nat} {dk : Array Nat} (h : CI q f n i kk dk) (hi : 0 < i) (hd : q (f i) (f (i - 1)) = true) : CI q f n (i + 1) kk dk := by
  obtain ⟨h1, h2, h3, h4, h5⟩ := h
  refine ⟨h1, by rw [keepN_yes hi hd]; exact h2, by omega, by rw [keepN_yes hi hd]; exact h4, fun m hm hn => h5 m (by omega) hn⟩
theorem CI.keep {q : Nat → Nat → Bool} {f : Nat → Nat} {n i kk : Nat} {dk : Array Nat} (h : CI q f n i kk dk) (hi : i < n) (hd : q (f i) (f (i - 1)) = false) : CI q f n (i + 1) (kk + 1) (dk.setIfInBounds kk (f i)) := by
  obtain ⟨h1, h2, h3, h4, h5⟩ := h
  have e := keepN_no (f := f) (show 0 < i by omega) hd
  refine ⟨by rw [Array.size_setIfInBounds]; exact h1, by rw [e, List.length_append, List.length_singleton, ← h2], by omega, ?_, fun m hm hn => ?_⟩
  · rw [e, ← h4]
    apply List.ext_getElem?
    intro j
    rw [List.getElem?_take]
    split
    · rename_i hj
      rw [Array.getElem?_toList, Array.getElem?_setIfInBounds]
      by_cases hjk : kk = j
      · subst hjk
        rw [if_pos rfl, if_pos (by omega), List.getElem?_append_right (by simp; omega), List.length_take, Array.length_toList, show kk - min kk dk.size = 0 by omega]
        rfl
      · rw [if_neg hjk, List.getElem?_append_left (by simp; omega), List.getElem?_take, if_pos (by omega), Array.getElem?_toList]
    · rename_i hj
      rw [List.getElem?_eq_none (by simp; omega)]
  · rw [getElem!_pos _ m (by rw [Array.size_setIfInBounds]; omega), Array.getElem_setIfInBounds, if_neg (by omega), ← getElem!_pos dk m (by omega)]
    · exact h5 m (by omega) hn
    · omega
theorem keepN_all {q : Nat → Nat → Bool} {f : Nat → Nat} {n : Nat} {xs : Array Nat} (hs : xs.size = n) (hf : ∀ m, xs[m]! = f m) (hA : keepN q f n = (List.range n).map f) : (keepN q f n).length = n ∧ xs.toList.take (keepN q f n).length = keepN q f n := by
  have hl : (keepN q f n).length = n := by rw [hA, List.length_map, List.length_range]
  refine ⟨hl, ?_⟩
  rw [hl, hA]
  apply List.ext_getElem?
  intro j
  rw [List.getElem?_take]
  split
  · rename_i hj
    rw [Array.getElem?_toList, Array.getElem?_eq_getElem (by omega), List.getElem?_map, List.getElem?_range hj, Option.map_some, ← hf j, getElem!_pos xs j (by omega)]
  · rw [List.getElem?_eq_none (by simp; omega)]
theorem zeroCells_len (z : Array Value) (n : Nat) : (Builtin.zeroCells z n).toList.length = n * z.size := by simp [Builtin.zeroCells]
theorem zeroCells_one (z : Array Value) (hz : 0 < z.size) (h1 : ∀ v ∈ z.toList, v.oneCell' = true) (n : Nat) : ∀ v ∈ (Builtin.zeroCells z n).toList, v.oneCell' = true := by
  intro v hv
  simp only [Builtin.zeroCells, Array.toList_map, List.mem_map] at hv
  obtain ⟨i, _, rfl⟩ := hv
  have hlt : i % z.size < z.size := Nat.mod_lt _ hz
  rw [getElem!_pos z _ hlt]
  exact h1 _ (by simp)
theorem run_clearK {P : Program} (w : World) (t e ty : TypeId) (z : Value) (ht : P.underlying t = some (.slice e)) (hv : ∀ w, (zeroValue e).run P w = .ok z w) (hz : 0 < z.cells.size) (h1 : ∀ v ∈ z.cells.toList, v.oneCell' = true) (b o n c : Nat) (hn : 0 < n)
    (hc : ∀ j, j < n * z.cells.size → (w.cell? ⟨b, o + j, none⟩).isSome = true) (hf : ∀ j, j < n * z.cells.size → w.frozen? ⟨b, o + j, none⟩ = false) :
    (Builtin.clear_ #[t] ty #[.slice (some ⟨b, o, none⟩) n c]).run P w = .ok (.tuple #[]) (w.setCells b o (Builtin.zeroCells z.cells n).toList) := by
  have hst := run_storeCells_cells (P := P) b o (Builtin.zeroCells z.cells n).toList 0 w (by rw [zeroCells_len]; simpa using hc) (by rw [zeroCells_len]; simpa using hf) (zeroCells_one _ hz h1 n)
  simp only [Nat.add_zero] at hst
  obtain ⟨m, rfl⟩ : ∃ m, n = m + 1 := ⟨n - 1, by omega⟩
  simp [Builtin.clear_, run_underlying ht, hv, hst]
set_option maxHeartbeats 8000000 in
set_option maxRecDepth 100000 in
theorem compactCall.does {w0 wb W : World} {l : List (S35)} {rows : List (List Value)} {g n cap b o : Nat} {xs d0 : Array Nat} {cf : Nat → Nat → Int} (hxs : xs.size = n) (hd0 : d0.size = n) (hcap : n ≤ cap) (hn : n < 4611686018427387904)
    (hK : RowsOf w0 l rows) (R : RowK (rowAt rows) 3 wb g 0 d0) (hS : SWK (rowAt rows) 3 wb g 0 xs W) 
    (hEq : ∀ W dk, dk.size = n → SWK (rowAt rows) 3 wb g 0 dk W → ∀ x y, Calls Try.prog 26 #[.agg (rowAt rows x).toArray, .agg (rowAt rows y).toArray, .pointer (some ⟨b, o, none⟩)] W fun e w' => e = .returned (.bool (decide (cf x y = 0))) ∧ ∃ q os, w' = Go.Sort.grow (W.drewN q) os) :
    Calls Try.prog 25 #[.slice (some ⟨g, 0, none⟩) n cap, .func (.func 26) #[] #[.pointer (some ⟨b, o, none⟩)]] W fun e w' =>
      ∃ (dk : Array Nat) (W2 : World) (zs : List Value), e = .returned (.slice (some ⟨g, 0, none⟩) (keepN (fun x y => decide (cf x y = 0)) (fun m => xs[m]!) n).length cap) ∧ dk.size = n ∧ dk.toList.take (keepN (fun x y => decide (cf x y = 0)) (fun m => xs[m]!) n).length = keepN (fun x y => decide (cf x y = 0)) (fun m => xs[m]!) n ∧ SWK (rowAt rows) 3 wb g 0 dk W2 ∧ w' = W2.setCells g ((keepN (fun x y => decide (cf x y = 0)) (fun m => xs[m]!) n).length * 3) zs := by
  obtain ⟨q, hq⟩ : ∃ q : Nat → Nat → Bool, q = fun x y => decide (cf x y = 0) := ⟨_, rfl⟩
  obtain ⟨f, hf⟩ : ∃ f : Nat → Nat, f = fun m => xs[m]! := ⟨_, rfl⟩
  have hqq : ∀ x y, decide (cf x y = 0) = q x y := fun x y => by rw [hq]
  have hff : ∀ m, xs[m]! = f m := fun m => by rw [hf]
  rw [← hq, ← hf]
  have HQ := Za.mk hqq
  have HE := Za.mk hEq
  have HR := Za.mk R
  have HK := Za.mk hK
  have HS := Za.mk hS
  have HX := Za.mk hxs
  have HF := Za.mk hff
  have HN := Za.mk hn
  have HC := Za.mk hcap
  have HD := Za.mk hd0
  have mixed : Try.prog.follows Departure.mixedOrders = true := by kernel_rfl
  clear hq hf hqq hff hEq R hK hS hxs hd0
  by_cases h2 : n < 2
  · have h2b : decide ((n : Int) < 2) = true := decide_eq_true (by omega)
    have H2 := Za.mk h2
    clear h2 hn hcap
    go_enter Try.func25, Try.ntmps25
    go_wp2
    go_ret
    have hA : keepN q f n = (List.range n).map f := by
      have := H2.out
      rcases Nat.lt_or_ge n 1 with h | h
      · obtain rfl : n = 0 := by omega
        rfl
      · obtain rfl : n = 1 := by omega
        rfl
    obtain ⟨k1, k2⟩ := keepN_all HX.out HF.out hA
    exact ⟨xs, W, [], by rw [k1]; rfl, HX.out, k2, HS.out, rfl⟩
  · have h2b : decide ((n : Int) < 2) = false := decide_eq_false (by omega)
    have H2 := Za.mk h2
    clear h2 hn hcap
    go_enter Try.func25, Try.ntmps25
    go_wp2
    go_loopg [5] n (fun kq v5 w' => ∃ k : Nat, v5 = .int .i64 (k : Int) ∧ Za (1 ≤ k ∧ k ≤ n ∧ n - k ≤ kq) ∧ Za (keepN q f k = (List.range k).map f) ∧ Za (SWK (rowAt rows) 3 wb g 0 xs w'))
    case atStart => exact ⟨1, rfl, ⟨by have := H2.out; omega⟩, ⟨by simp [keepN]⟩, HS⟩
    case round =>
      clear HS
      obtain ⟨k, rfl, HB, HA, HS⟩ := hrel
      by_cases hlt : k < n
      · obtain ⟨k1, rfl⟩ : ∃ m, gk = m + 1 := ⟨gk - 1, by have := HB.out; omega⟩
        obtain ⟨kp, rfl⟩ : ∃ m, k = m + 1 := ⟨k - 1, by have := HB.out; omega⟩
        have hkb : decide (((kp + 1 : Nat) : Int) < (n : Int)) = true := decide_eq_true (by omega)
        obtain ⟨A1, c1, e1, hl1, r1⟩ := HK.out (f (kp + 1))
        obtain ⟨A2, c2, e2, hl2, r2⟩ := HK.out (f kp)
        obtain ⟨b', hb'⟩ : ∃ b', q (f (kp + 1)) (f kp) = b' := ⟨_, rfl⟩
        have hcg : ∀ n' os', Calls Try.prog 26 #[.agg #[.int .u32 (Zs l (f (kp + 1))).f0, .int .u32 (Zs l (f (kp + 1))).f1, .slice A1 (Zs l (f (kp + 1))).f2.length c1], .agg #[.int .u32 (Zs l (f kp)).f0, .int .u32 (Zs l (f kp)).f1, .slice A2 (Zs l (f kp)).f2.length c2], .pointer (some ⟨b, o, none⟩)] (Go.Sort.grow (wr.drewN n') os') fun e w' => e = .returned (.bool b') ∧ ∃ q os'', w' = Go.Sort.grow ((Go.Sort.grow (wr.drewN n') os').drewN q) os'' := fun n' os' => by
          have h := HE.out _ xs HX.out (HS.out.grown n' os') (f (kp + 1)) (f kp)
          rw [e1, e2, HQ.out, hb'] at h
          exact h
        have hc : ∀ n' os' i c v, i < n → c < 3 → (rowAt rows (f i))[c]! = v → (Go.Sort.grow (wr.drewN n') os').cell? ⟨g, i * 3 + c, none⟩ = some v := fun n' os' i c v hi hc hv => by
          have h := (Go.Sort.HoldsK.cell ((HS.out.grown n' os').holds HR.out.hblk HR.out.hH (by rw [HX.out]; exact HD.out.symm)) (i := i) (c := c) (by rw [HX.out]; exact hi) hc).1
          rw [Nat.zero_add, HF.out, hv] at h
          exact h
        have x0 := fun n' os' => hc n' os' (kp + 1) 0 (.int .u32 (Zs l (f (kp + 1))).f0) hlt (by decide) (by rw [e1]; rfl)
        have x1 := fun n' os' => hc n' os' (kp + 1) 1 (.int .u32 (Zs l (f (kp + 1))).f1) hlt (by decide) (by rw [e1]; rfl)
        have x2 := fun n' os' => hc n' os' (kp + 1) 2 (.slice A1 (Zs l (f (kp + 1))).f2.length c1) hlt (by decide) (by rw [e1]; rfl)
        have y0 := fun n' os' => hc n' os' kp 0 (.int .u32 (Zs l (f kp)).f0) (by omega) (by decide) (by rw [e2]; rfl)
        have y1 := fun n' os' => hc n' os' kp 1 (.int .u32 (Zs l (f kp)).f1) (by omega) (by decide) (by rw [e2]; rfl)
        have y2 := fun n' os' => hc n' os' kp 2 (.slice A2 (Zs l (f kp)).f2.length c2) (by omega) (by decide) (by rw [e2]; rfl)
        rw [Nat.add_zero] at x0 y0
        have hcap2 := HC.out
        have hcn : ¬ (cap = kp + 1) := by omega
        have hcn2 : ¬ (kp + 1 = cap) := by omega
        have hcn3 : kp + 1 ≤ cap := by omega
        have hcn4 : (kp : Int) + 1 ≤ (n : Int) := by omega
        have hcn5 : (kp : Int) + 1 ≤ (cap : Int) := by omega
        have ej : ((kp : Int) + 1).toNat = kp + 1 := by omega
        have p0 : (0 : Int) ≤ (kp : Int) + 1 := by omega
        have p1 : (kp : Int) < (n : Int) := by omega
        have HLT := Za.mk hlt
        clear hc e1 e2 hl1 hl2 r1 r2
        have ew : IntKind.i64.wrap (kp : Int) = (kp : Int) := by have := HN.out; rw [IntKind.wrap_i64]; omega
        have ew2 : wrap64 ((kp : Int) + 1 + 1) = ((kp + 1 + 1 : Nat) : Int) := by have := HN.out; unfold wrap64; omega
        have EW2 := Za.mk ew2
        cases b' with
        | false =>
          go_wp2_with fail
          go_quiet_grown (first | (go_at_call 26; refine Calls.grown_of (hcg _ _)))
          go_wp2
          clear ew ew2
          have HA2 := Za.mk (show keepN q f (kp + 1 + 1) = (List.range (kp + 1 + 1)).map f from by rw [keepN_no (Nat.succ_pos _) hb', HA.out, List.range_succ (n := kp + 1), List.map_append]; rfl)
          go_roundg k1
          case measure => have := HB.out; omega
          case rel => exact ⟨kp + 1 + 1, congrArg (Value.int .i64) EW2.out, ⟨by have := HB.out; have := HLT.out; omega⟩, HA2, ⟨HS.out.grown nq osq⟩⟩
        | true =>
          go_wp2_with fail
          go_quiet_grown (first | (go_at_call 26; refine Calls.grown_of (hcg _ _)))
          have HCI := Za.mk (CI.start HX.out HF.out (Nat.succ_pos kp) HLT.out HA.out hb')
          have HS2 := Za.mk (HS.out.grown nq osq)
          clear hcg x0 x1 x2 y0 y1 y2
          have HCN := Za.mk hcn3
          go_wp2_with fail
          clear ej ew ew2 p0 p1
          go_loopg [5, 7] n (fun kq v5 v7 w' => ∃ (kk k2 : Nat) (dk : Array Nat), v5 = .int .i64 (kk : Int) ∧ v7 = .int .i64 (k2 : Int) ∧ Za (1 ≤ k2 ∧ kp + 1 + k2 ≤ n ∧ n - (kp + 1 + k2) ≤ kq) ∧ Za (CI q f n (kp + 1 + k2) kk dk) ∧ Za (SWK (rowAt rows) 3 wb g 0 dk w'))
          case atStart => exact ⟨kp + 1, 1, xs, by first | go_num | rfl, rfl, ⟨by have := HLT.out; omega⟩, HCI, HS2⟩
          case round =>
            clear HS HS2 HCI HA HB
            obtain ⟨kk, k2, dk, rfl, rfl, HB, HCI, HS⟩ := hrel
            by_cases hlt2 : kp + 1 + k2 < n
            · obtain ⟨k3, rfl⟩ : ∃ m, gk = m + 1 := ⟨gk - 1, by have := HB.out; omega⟩
              obtain ⟨kr, rfl⟩ : ∃ m, k2 = m + 1 := ⟨k2 - 1, by have := HB.out; omega⟩
              obtain ⟨A1, c1, e1, hl1, r1⟩ := HK.out (f (kp + 1 + (kr + 1)))
              obtain ⟨A2, c2, e2, hl2, r2⟩ := HK.out (f (kp + 1 + kr))
              obtain ⟨b', hb'⟩ : ∃ b', q (f (kp + 1 + (kr + 1))) (f (kp + 1 + kr)) = b' := ⟨_, rfl⟩
              have hds := HCI.out.1
              have hcg : ∀ n' os', Calls Try.prog 26 #[.agg #[.int .u32 (Zs l (f (kp + 1 + (kr + 1)))).f0, .int .u32 (Zs l (f (kp + 1 + (kr + 1)))).f1, .slice A1 (Zs l (f (kp + 1 + (kr + 1)))).f2.length c1], .agg #[.int .u32 (Zs l (f (kp + 1 + kr))).f0, .int .u32 (Zs l (f (kp + 1 + kr))).f1, .slice A2 (Zs l (f (kp + 1 + kr))).f2.length c2], .pointer (some ⟨b, o, none⟩)] (Go.Sort.grow (wr.drewN n') os') fun e w' => e = .returned (.bool b') ∧ ∃ q os'', w' = Go.Sort.grow ((Go.Sort.grow (wr.drewN n') os').drewN q) os'' := fun n' os' => by
                have h := HE.out _ dk hds (HS.out.grown n' os') (f (kp + 1 + (kr + 1))) (f (kp + 1 + kr))
                rw [e1, e2, HQ.out, hb'] at h
                exact h
              have hc : ∀ n' os' i c v, kp + 1 + (kr + 1) ≤ i + 1 → i < n → c < 3 → (rowAt rows (f i))[c]! = v → (Go.Sort.grow (wr.drewN n') os').cell? ⟨g, i * 3 + c, none⟩ = some v := fun n' os' i c v hi0 hi hc hv => by
                have h := (Go.Sort.HoldsK.cell ((HS.out.grown n' os').holds HR.out.hblk HR.out.hH (by rw [hds]; exact HD.out.symm)) (i := i) (c := c) (by rw [hds]; exact hi) hc).1
                rw [Nat.zero_add, HCI.out.2.2.2.2 i hi0 hi, hv] at h
                exact h
              have hx : ∀ n' os' c v, c < 3 → (rowAt rows (f (kp + 1 + (kr + 1))))[c]! = v → (Go.Sort.grow (wr.drewN n') os').cell? ⟨g, (kp + 1) * 3 + (kr + 1) * 3 + c, none⟩ = some v := fun n' os' c v hcc hv => by
                rw [show (kp + 1) * 3 + (kr + 1) * 3 + c = (kp + 1 + (kr + 1)) * 3 + c by omega]
                exact hc n' os' _ c v (by omega) hlt2 hcc hv
              have hy : ∀ n' os' c v, c < 3 → (rowAt rows (f (kp + 1 + kr)))[c]! = v → (Go.Sort.grow (wr.drewN n') os').cell? ⟨g, (kp + 1) * 3 + kr * 3 + c, none⟩ = some v := fun n' os' c v hcc hv => by
                rw [show (kp + 1) * 3 + kr * 3 + c = (kp + 1 + kr) * 3 + c by omega]
                exact hc n' os' _ c v (by omega) (by omega) hcc hv
              have x0 := fun n' os' => hx n' os' 0 (.int .u32 (Zs l (f (kp + 1 + (kr + 1)))).f0) (by decide) (by rw [e1]; rfl)
              have x1 := fun n' os' => hx n' os' 1 (.int .u32 (Zs l (f (kp + 1 + (kr + 1)))).f1) (by decide) (by rw [e1]; rfl)
              have x2 := fun n' os' => hx n' os' 2 (.slice A1 (Zs l (f (kp + 1 + (kr + 1)))).f2.length c1) (by decide) (by rw [e1]; rfl)
              have y0 := fun n' os' => hy n' os' 0 (.int .u32 (Zs l (f (kp + 1 + kr))).f0) (by decide) (by rw [e2]; rfl)
              have y1 := fun n' os' => hy n' os' 1 (.int .u32 (Zs l (f (kp + 1 + kr))).f1) (by decide) (by rw [e2]; rfl)
              have y2 := fun n' os' => hy n' os' 2 (.slice A2 (Zs l (f (kp + 1 + kr))).f2.length c2) (by decide) (by rw [e2]; rfl)
              rw [Nat.add_zero] at x0 y0
              have ej : ((kr : Int) + 1).toNat = kr + 1 := by omega
              have p0 : (0 : Int) ≤ (kr : Int) + 1 := by omega
              have p1 : (kr : Int) + 1 < ((n - (kp + 1) : Nat) : Int) := by omega
              have p2 : (kr : Int) < ((n - (kp + 1) : Nat) : Int) := by omega
              have HL2 := Za.mk hlt2
              have E1 := Za.mk e1
              clear hc hx hy e1 e2 hl1 hl2 r1 r2 hlt2
              have ew : IntKind.i64.wrap (kr : Int) = (kr : Int) := by have := HN.out; rw [IntKind.wrap_i64]; omega
              have ew2 : wrap64 ((kr : Int) + 1 + 1) = ((kr + 1 + 1 : Nat) : Int) := by have := HN.out; unfold wrap64; omega
              have EW2 := Za.mk ew2
              cases b' with
              | true =>
                go_wp2_with fail
                go_quiet_grown (first | (go_at_call 26; refine Calls.grown_of (hcg _ _)))
                go_wp2
                clear ew ew2
                go_roundg k3
                case measure => have := HB.out; have := HL2.out; omega
                case rel => exact ⟨kk, kr + 1 + 1, dk, rfl, congrArg (Value.int .i64) EW2.out, ⟨by have := HB.out; have := HL2.out; omega⟩, ⟨HCI.out.skip (by omega) hb'⟩, ⟨HS.out.grown nq osq⟩⟩
              | false =>
                go_wp2_with fail
                go_quiet_grown (first | (go_at_call 26; refine Calls.grown_of (hcg _ _)))
                dsimp only
                have HS3 := Za.mk (HS.out.grown nq osq)
                have hkk := HCI.out.2.2.1
                have hz : ∀ c, c < 3 → (Go.Sort.grow (wr.drewN nq) osq).cell? ⟨g, kk * 3 + c, none⟩ = some (rowAt rows dk[kk]!)[c]! ∧ (Go.Sort.grow (wr.drewN nq) osq).frozen? ⟨g, kk * 3 + c, none⟩ = false := fun c hc => by
                  have h := Go.Sort.HoldsK.cell (HS3.out.holds HR.out.hblk HR.out.hH (by rw [hds]; exact HD.out.symm)) (i := kk) (c := c) (by have := HL2.out; omega) hc
                  rw [Nat.zero_add] at h
                  exact h
                have z0 := (hz 0 (by decide)).1
                have z1 := (hz 1 (by decide)).1
                have z2 := (hz 2 (by decide)).1
                have u0 := (hz 0 (by decide)).2
                have u1 := (hz 1 (by decide)).2
                have u2 := (hz 2 (by decide)).2
                rw [Nat.add_zero] at z0 u0
                have X0 := x0 nq osq
                have X1 := x1 nq osq
                have X2 := x2 nq osq
                have p3 : (0 : Int) ≤ (kk : Int) := by omega
                have p4 : (kk : Int) < (n : Int) := by have := HL2.out; omega
                have ew3 : wrap64 ((kk : Int) + 1) = ((kk + 1 : Nat) : Int) := by have := HN.out; clear ew ew2; unfold wrap64; omega
                have EW3 := Za.mk ew3
                have KK := Za.mk hkk
                clear hz x0 x1 x2 y0 y1 y2 hcg hkk
                obtain ⟨W2, hW2⟩ : ∃ W2, Go.Sort.grow (wr.drewN nq) osq = W2 := ⟨_, rfl⟩
                rw [hW2] at z0 z1 z2 u0 u1 u2 X0 X1 X2 HS3 ⊢
                clear hW2
                go_wp2
                clear ew ew2 ew3
                go_roundg k3
                case measure => have := HB.out; have := HL2.out; omega
                case rel => exact ⟨kk + 1, kr + 1 + 1, dk.setIfInBounds kk (f (kp + 1 + (kr + 1))), congrArg (Value.int .i64) EW3.out, congrArg (Value.int .i64) EW2.out, ⟨by have := HB.out; have := HL2.out; omega⟩, ⟨HCI.out.keep HL2.out hb'⟩, ⟨by have h := SWK_set HS3.out HR.out.hk HR.out.hblk kk (by have := HL2.out; have := KK.out; omega) (f (kp + 1 + (kr + 1))); rw [E1.out, Nat.zero_add] at h; exact h⟩⟩
            · have hke : kp + 1 + k2 = n := by have := HB.out; omega
              have hI := HCI.out
              rw [hke] at hI
              have hkn : kk < n := by have := hI.2.2.1; omega
              have hds := hI.1
              have hz : ∀ j, j < (n - kk) * 3 → (wr.cell? ⟨g, kk * 3 + j, none⟩).isSome = true ∧ wr.frozen? ⟨g, kk * 3 + j, none⟩ = false := fun j hj => by
                have h := Go.Sort.HoldsK.cell (HS.out.holds HR.out.hblk HR.out.hH (by rw [hds]; exact HD.out.symm)) (i := kk + j / 3) (c := j % 3) (by omega) (by omega)
                rw [show 0 + (kk + j / 3) * 3 + j % 3 = kk * 3 + j by omega] at h
                exact ⟨by rw [h.1]; rfl, h.2⟩
              have hcl : ∀ ty, (Builtin.clear_ #[24] ty #[.slice (some ⟨g, kk * 3, none⟩) (n - kk) (cap - kk)]).run Try.prog wr = .ok (.tuple #[]) (wr.setCells g (kk * 3) (Builtin.zeroCells (Value.agg #[.int .u32 0, .int .u32 0, .slice none 0 0]).cells (n - kk)).toList) := fun ty =>
                run_clearK wr _ _ ty _ Try.underlying24 Try.zeroValue35 (by decide) (by intro v hv; simp [Value.cells] at hv; rcases hv with rfl | rfl | rfl <;> rfl) g (kk * 3) (n - kk) (cap - kk) (by omega) (fun j hj => (hz j hj).1) (fun j hj => (hz j hj).2)
              have hcn : ¬ (cap = kk) := by have := HC.out; omega
              have hcn2 : ¬ (kk = cap) := by have := HC.out; omega
              have hcn3 : kk ≤ cap := by have := HC.out; omega
              have p3 : (0 : Int) ≤ (kk : Int) := by omega
              have p4 : (kk : Int) ≤ (n : Int) := by omega
              have p5 : (kk : Int) ≤ (cap : Int) := by omega
              have p6 : ¬ ((k2 : Int) < ((n - (kp + 1) : Nat) : Int)) := by omega
              have HI := Za.mk hI
              obtain ⟨zs, hzs⟩ : ∃ zs, (Builtin.zeroCells (Value.agg #[.int .u32 0, .int .u32 0, .slice none 0 0]).cells (n - kk)).toList = zs := ⟨_, rfl⟩
              rw [hzs] at hcl
              clear hz hI hzs hds
              go_wp2
              go_ret
              have hI := HI.out
              have g1 : Ending.returned (.slice (some ⟨g, 0, none⟩) kk cap) = .returned (.slice (some ⟨g, 0, none⟩) (keepN q f n).length cap) := by rw [← hI.2.1]
              have g2 : dk.toList.take (keepN q f n).length = keepN q f n := by rw [← hI.2.1]; exact hI.2.2.2.1
              have g3 : wr.setCells g (kk * 3) zs = wr.setCells g ((keepN q f n).length * 3) zs := by rw [← hI.2.1]
              first | exact ⟨dk, wr, zs, g1, hI.1, g2, HS.out, g3⟩ | exact ⟨g1, dk, hI.1, g2, wr, HS.out, zs, g3⟩ | exact ⟨g1, dk, hI.1, g2, wr, zs, HS.out, g3⟩ | exact ⟨g1, dk, wr, zs, hI.1, g2, HS.out, g3⟩ | exact ⟨g1, dk, ⟨hI.1, g2⟩, wr, HS.out, zs, g3⟩ | trace_state
      · have hke : k = n := by have := HB.out; omega
        subst hke
        have hkb : decide ((k : Int) < (k : Int)) = false := decide_eq_false (by omega)
        go_wp2
        go_ret
        obtain ⟨k1, k2⟩ := keepN_all HX.out HF.out HA.out
        exact ⟨xs, wr, [], by rw [k1]; rfl, HX.out, k2, HS.out, rfl⟩
theorem compactCall.nil (A : Option Addr) (c : Nat) (fv : Value) (W : World) : Calls Try.prog 25 #[.slice A 0 c, fv] W fun e w' => e = .returned (.slice A 0 c) ∧ w' = W := by
  go_enter Try.func25, Try.ntmps25
  go_wp2
  go_ret
  exact ⟨rfl, rfl⟩
theorem R_tail1 {w : World} {base g n cap : Nat} {rs : List (List Value)} (h : (Kd.raw 3).R 35 w base (fun _ => True) (.slice (some ⟨g, 0, none⟩) n cap) rs) (j : Nat) (hj : n * 3 ≤ j) (u : Value) : (Kd.raw 3).R 35 (w.setCell ⟨g, j, none⟩ u) base (fun _ => True) (.slice (some ⟨g, 0, none⟩) n cap) rs := by
  obtain ⟨_, inner, ⟨hil, ho⟩, hr⟩ := h
  refine ⟨fun _ _ => trivial, inner, ⟨hil, ?_⟩, hr⟩
  rcases ho with ⟨h1, h2⟩ | ⟨g', cap', cur, h1, hbg, hh, hnc, hcm, hcs, hct⟩
  · cases h1
  · injection h1 with h1 h2 h3
    injection h1 with h1
    injection h1 with h1
    subst h1 h3
    refine .inr ⟨g, cap, cur.setIfInBounds j u, by rw [h2], hbg, by simpa using blk_set hh j u, hnc, hcm, by rw [Array.size_setIfInBounds]; exact hcs, ?_⟩
    have h3 : (Kd.raw 3).sz = 3 := rfl
    rw [← hct, h3]
    apply List.ext_getElem?
    intro i
    rw [List.getElem?_take, List.getElem?_take]
    split
    · rename_i hi
      rw [Array.getElem?_toList, Array.getElem?_toList, Array.getElem?_setIfInBounds, if_neg (by omega)]
    · rfl
theorem R_tail {base g n cap : Nat} {rs : List (List Value)} : ∀ (zs : List Value) (j : Nat) (w : World), n * 3 ≤ j → (Kd.raw 3).R 35 w base (fun _ => True) (.slice (some ⟨g, 0, none⟩) n cap) rs → (Kd.raw 3).R 35 (w.setCells g j zs) base (fun _ => True) (.slice (some ⟨g, 0, none⟩) n cap) rs
  | [], _, _, _, h => h
  | z :: zs, j, w, hj, h => R_tail zs (j + 1) _ (by omega) (R_tail1 h j hj z)
theorem below_setCells {B g : Nat} {w0 : World} (hg : B ≤ g) : ∀ (zs : List Value) (j : Nat) (w : World), Below B w0 w → Below B w0 (w.setCells g j zs)
  | [], _, _, h => h
  | z :: zs, j, w, h => below_setCells hg zs (j + 1) _ (h.setCell (p := ⟨g, j, none⟩) hg z)
def cfC (l : List S35) (i j : Nat) : Int := cmpC (Zs l i) (Zs l j)
theorem cfC_lt (l : List S35) (i j : Nat) : ltOf (cfC l) i j = ltL (keyC (Zs l i)) (keyC (Zs l j)) := cmpC_lt _ _
theorem cfC_swo (l : List S35) : Go.Sort.SWO (ltOf (cfC l)) where
  irrefl x := by rw [cfC_lt]; exact ltL_irrefl _
  trans x y z h1 h2 := by rw [cfC_lt] at *; exact ltL_trans _ _ _ h1 h2
  ntrans x y z h1 h2 := by rw [cfC_lt] at *; exact ltL_ntrans _ _ _ h1 h2
theorem cfC_ex (l : List S35) (h : ∀ c ∈ l, c.f2.length ≤ 1048576) (i j : Nat) : ∃ k, Zau.f k (Zs l i).f0 (Zs l i).f1 (Zs l i).f2 (Zs l j).f0 (Zs l j).f1 (Zs l j).f2 = some (cfC l i j) := by
  have hb : ∀ i, (Zs l i).f2.length ≤ 1048576 := fun i => by
    unfold Zs
    by_cases hi : i < l.length
    · rw [List.getD_eq_getElem?_getD, List.getElem?_eq_getElem hi]; exact h _ (List.getElem_mem hi)
    · rw [List.getD_eq_getElem?_getD, List.getElem?_eq_none (by omega)]; decide
  obtain ⟨K, hk⟩ := ev_get (compareCalls_ev (Zs l i) (Zs l j) (hb i) (hb j))
  exact ⟨K, hk K (Nat.le_refl _)⟩
theorem keep_inv (l : List S35) (f : Nat → Nat) (n : Nat) (hs : ∀ a b, a < b → b < n → ltL (keyC (Zs l (f b))) (keyC (Zs l (f a))) = false) :
    ∀ i, i ≤ n → SortedC ((keepN (fun x y => decide (cfC l x y = 0)) f i).map (Zs l)) ∧ (∀ c, c ∈ (keepN (fun x y => decide (cfC l x y = 0)) f i).map (Zs l) ↔ ∃ m, m < i ∧ c = Zs l (f m)) ∧ (0 < i → ∀ c ∈ (keepN (fun x y => decide (cfC l x y = 0)) f i).map (Zs l), c = Zs l (f (i - 1)) ∨ ltL (keyC c) (keyC (Zs l (f (i - 1)))) = true) := by
  intro i
  induction i with
  | zero => exact fun _ => ⟨List.Pairwise.nil, fun c => ⟨fun h => by simp [keepN] at h, fun ⟨m, hm, _⟩ => absurd hm (by omega)⟩, fun h => absurd h (by omega)⟩
  | succ i ih =>
    intro hi
    obtain ⟨h1, h2, h3⟩ := ih (by omega)
    rcases Nat.eq_zero_or_pos i with h0 | hp
    · subst h0
      have e : keepN (fun x y => decide (cfC l x y = 0)) f (0 + 1) = [f 0] := rfl
      rw [e]
      refine ⟨by simp [SortedC], fun c => ?_, fun _ c hc => ?_⟩
      · simp only [List.map_cons, List.map_nil, List.mem_singleton]
        exact ⟨fun h => ⟨0, by omega, h⟩, fun ⟨m, hm, hc⟩ => by rw [show m = 0 by omega] at hc; exact hc⟩
      · simp only [List.map_cons, List.map_nil, List.mem_singleton] at hc
        exact .inl hc
    · by_cases hq : cfC l (f i) (f (i - 1)) = 0
      · have he := (cmpC_eq _ _).1 hq
        have e : keepN (fun x y => decide (cfC l x y = 0)) f (i + 1) = keepN (fun x y => decide (cfC l x y = 0)) f i := keepN_yes hp (decide_eq_true hq)
        rw [e]
        refine ⟨h1, fun c => ?_, fun _ c hc => ?_⟩
        · rw [h2 c]
          constructor
          · rintro ⟨m, hm, hc⟩
            exact ⟨m, by omega, hc⟩
          · rintro ⟨m, hm, hc⟩
            rcases Nat.lt_or_ge m i with h | h
            · exact ⟨m, h, hc⟩
            · rw [show m = i by omega, he] at hc
              exact ⟨i - 1, by omega, hc⟩
        · rw [Nat.add_sub_cancel, he]
          exact h3 hp c hc
      · have e : keepN (fun x y => decide (cfC l x y = 0)) f (i + 1) = keepN (fun x y => decide (cfC l x y = 0)) f i ++ [f i] := keepN_no hp (decide_eq_false hq)
        have hlt : ltL (keyC (Zs l (f (i - 1)))) (keyC (Zs l (f i))) = true := by
          cases h : ltL (keyC (Zs l (f (i - 1)))) (keyC (Zs l (f i))) with
          | true => rfl
          | false => exact absurd ((cmpC_eq _ _).2 (keyC_inj (ltL_eq _ _ (hs (i - 1) i (by omega) (by omega)) h))) hq
        rw [e, List.map_append]
        refine ⟨?_, fun c => ?_, fun _ c hc => ?_⟩
        · refine List.pairwise_append.2 ⟨h1, by simp, fun a ha b hb => ?_⟩
          simp only [List.map_cons, List.map_nil, List.mem_singleton] at hb
          subst hb
          rcases h3 hp a ha with rfl | h
          · exact hlt
          · exact ltL_trans _ _ _ h hlt
        · rw [List.mem_append, h2 c]
          simp only [List.map_cons, List.map_nil, List.mem_singleton]
          constructor
          · rintro (⟨m, hm, hc⟩ | hc)
            · exact ⟨m, by omega, hc⟩
            · exact ⟨i, by omega, hc⟩
          · rintro ⟨m, hm, hc⟩
            rcases Nat.lt_or_ge m i with h | h
            · exact .inl ⟨m, h, hc⟩
            · rw [show m = i by omega] at hc
              exact .inr hc
        · rw [Nat.add_sub_cancel]
          rcases List.mem_append.1 hc with h | h
          · rcases h3 hp c h with rfl | h4
            · exact .inr hlt
            · exact .inr (ltL_trans _ _ _ h4 hlt)
          · simp only [List.map_cons, List.map_nil, List.mem_singleton] at h
            exact .inl h
theorem keep_is (l : List S35) (p : Array Nat) (hp : p.size = l.length) (hperm : p.toList.Perm (List.range l.length)) (hpw : p.toList.Pairwise (fun i j => ltOf (cfC l) j i = false)) :
    (keepN (fun x y => decide (cfC l x y = 0)) (fun m => p[m]!) l.length).map (Zs l) = distC l := by
  have hs : ∀ a b, a < b → b < l.length → ltL (keyC (Zs l p[b]!)) (keyC (Zs l p[a]!)) = false := fun a b hab hb => by
    have := List.pairwise_iff_getElem.1 hpw a b (by rw [Array.length_toList]; omega) (by rw [Array.length_toList]; omega) hab
    rw [cfC_lt, Array.getElem_toList, Array.getElem_toList] at this
    rw [getElem!_pos p a (by omega), getElem!_pos p b (by omega)]
    exact this
  obtain ⟨h1, h2, _⟩ := keep_inv l (fun m => p[m]!) l.length hs l.length (Nat.le_refl _)
  refine sorted_one _ _ h1 (sorted_distC l) (fun c => ?_)
  rw [h2 c, mem_distC]
  constructor
  · rintro ⟨m, hm, rfl⟩
    have hm2 : p[m]! ∈ List.range l.length := hperm.mem_iff.1 (by rw [getElem!_pos p m (by omega)]; exact Array.getElem_mem_toList ..)
    rw [List.mem_range] at hm2
    unfold Zs
    rw [List.getD_eq_getElem?_getD, List.getElem?_eq_getElem hm2]
    exact List.getElem_mem hm2
  · intro hc
    obtain ⟨j, hj, rfl⟩ := List.getElem_of_mem hc
    have hj2 : j ∈ p.toList := hperm.mem_iff.2 (List.mem_range.2 hj)
    obtain ⟨m, hm, hmj⟩ := List.getElem_of_mem hj2
    rw [Array.length_toList] at hm
    rw [Array.getElem_toList] at hmj
    refine ⟨m, by omega, ?_⟩
    show l[j] = Zs l p[m]!
    rw [getElem!_pos p m hm, hmj]
    unfold Zs
    rw [List.getD_eq_getElem?_getD, List.getElem?_eq_getElem hj]
    rfl
end Go.Proofs.Ytjpjfkmnfppgkaa.P
