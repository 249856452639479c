import Derived.Test.YtgodbniphkfgfaaGFnProgram4
import Derived.Handy
import Derived.Deep.LoopGhost
import Derived.Deep.QuietTactic
import Derived.BigQuiet
import Derived.StillTailTactics
namespace Go.Proofs.Ytgodbniphkfgfaa.P
open Go.RowKit Go.Proofs.YtgodbniphkfgfaaW.PrintWords Go.Proofs.YtgodbniphkfgfaaW.PrintLast Go.Proofs.YtgodbniphkfgfaaW.PrintMore
attribute [local go_sem] max2_int min2_int max_two min_two max_three min_three max_four min_four
set_option linter.unusedVariables false
set_option linter.unusedSimpArgs false

attribute [local go_sem] Oper.semAt_some
def pieceI (l : List Int) (i : Nat) : S54 := ⟨bits .or .u16 (IntKind.u16.wrap (rd l ((8 * i : Nat) : Int))) (IntKind.u16.wrap (IntKind.u16.wrap (rd l ((8 * i + 1 : Nat) : Int)) * 256)), (rd l ((8 * i + 2 : Nat) : Int)), (rd l ((8 * i + 3 : Nat) : Int)), bits .or .u32 (bits .or .u32 (bits .or .u32 (IntKind.u32.wrap (rd l ((8 * i + 4 : Nat) : Int))) (IntKind.u32.wrap (IntKind.u32.wrap (rd l ((8 * i + 5 : Nat) : Int)) * 256))) (IntKind.u32.wrap (IntKind.u32.wrap (rd l ((8 * i + 6 : Nat) : Int)) * 65536))) (IntKind.u32.wrap (IntKind.u32.wrap (rd l ((8 * i + 7 : Nat) : Int)) * 16777216))⟩
def Zcc.f (l0 : List Int) : Option ((List S54) × Int) := if l0.length % 8 = 0 ∧ l0.length ≤ 32768 then some ((List.range (l0.length / 8)).map (pieceI l0), 0) else some ([], 1)
set_option maxRecDepth 100000 in
set_option maxHeartbeats 8000000 in
theorem decode_bad (A0 : Option Addr) (c0 : Nat) (l0 : List Int) (w : World) (h : ¬ (l0.length % 8 = 0 ∧ l0.length ≤ 32768)) :
    Calls Try.prog 9 #[.slice A0 l0.length c0] w fun e w' => e = .returned (.tuple #[.slice none 0 0, .int .i64 1]) ∧ w' = w := by
  by_cases h8 : l0.length % 8 = 0
  · have g1 : ((l0.length : Int) % 8 != 0) = false := by rw [bne_eq_false_iff_eq]; omega
    have g2 : ¬ l0.length ≤ 32768 := fun h2 => h ⟨h8, h2⟩
    have g3 : decide ((l0.length : Int) > 32768) = true := decide_eq_true (by omega)
    have g4 : decide (32768 < l0.length) = true := decide_eq_true (by omega)
    clear h h8 g2
    go_enter Try.func9, Try.ntmps9
    go_wp2
    go_returns
    exact ⟨rfl, rfl⟩
  · have g1 : ((l0.length : Int) % 8 != 0) = true := by rw [bne_iff_ne]; omega
    clear h h8
    go_enter Try.func9, Try.ntmps9
    go_wp2
    go_returns
    exact ⟨rfl, rfl⟩
def Zcc.T6 : Bool × List (List Nat × List Nat) := (true, [([], []), ([], []), ([1], [1]), ([2], [2]), ([3], [3]), ([], []), ([5], [5]), ([6], [6]), ([7], [7]), ([8], [8]), ([4, 9], [4, 9]), ([], []), ([11], [11]), ([12], [12]), ([], []), ([14], [14]), ([15], [15]), ([], []), ([17], [17]), ([18], [18]), ([19], [19]), ([], []), ([21], [21]), ([22], [22]), ([23], [23]), ([24], [24]), ([20, 25], [20, 25]), ([], []), ([27], [27]), ([28], [28]), ([29], [29]), ([30], [30]), ([26, 31], [26, 31]), ([], []), ([33], [33]), ([34], [34]), ([35], [35]), ([36], [36]), ([32, 37], [32, 37]), ([10, 13, 16, 38], [10, 13, 16, 38]), ([39], [39]), ([0, 40], [0, 40]), ([41, 41, 0, 1, 2, 3, 4, 5, 6, 7, 8, 9, 10, 11, 12, 13, 14, 15, 16, 17, 18, 19, 20, 21, 22, 23, 24, 25, 26, 27, 28, 29, 30, 31, 32, 33, 34, 35, 36, 37, 38, 39, 40, 41], [41])])
def Zcc.B6 : List Nat := [0, 0, 2, 6, 14, 0, 32, 96, 224, 480, 1022, 0, 2048, 6144, 0, 16384, 49152, 0, 131072, 393216, 917504, 0, 2097152, 6291456, 14680064, 31457280, 66977792, 0, 134217728, 402653184, 939524096, 2013265920, 4294836224, 0, 8589934592, 25769803776, 60129542144, 128849018880, 274877775872, 549755813886, 1099511627774, 2199023255551, 4398046511103]
theorem Zcc.tab6 : rtab .any (opsOf Try.f9 6) = Zcc.T6 := by kernel_rfl
theorem Zcc.bits6 : waitsOk Zcc.T6.2 Zcc.B6 = true := by kernel_rfl
theorem R_shape {W : World} {b : Nat} {v : Value} {xs : List S54} (h : Kd.R k54 54 W b (fun _ => True) v xs) : ∃ ao cap, v = .slice ao xs.length cap := by
  obtain ⟨_, inner, ho, hr⟩ := h
  rcases ho.2 with ⟨rfl, h0⟩ | ⟨g, cap, cur, rfl, _⟩
  · exact ⟨none, 0, by rw [h0]⟩
  · exact ⟨_, cap, rfl⟩
theorem cell_al {W : World} {o : Obj} {p : Addr} {v : Value} (h : W.cell? p = some v) : (W.alloc o).cell? p = some v := (World.cell?_alloc_lt _ _ _ (World.block_lt_of_cell? _ _ h)).trans h
theorem R_put {W : World} {b : Nat} {v : Value} {xs : List S54} (h : Kd.R k54 54 W b (fun _ => True) v xs) {D : Nat} {o o' : Obj} (hl : W.heap[D]? = some o) (ho : o.isCells = false) : Kd.R k54 54 (W.putObj D o') b (fun _ => True) v xs := by
  refine Kd.Zah (Kd.R_grown (Kd.R_bound h) (grownBy_putObj' W D o') (fun k hk e => ?_)) (fun _ _ => trivial)
  obtain ⟨_, _, _, q, hq, cells, hc⟩ := hk
  cases e
  rw [hl] at hc
  cases hc
  cases ho
theorem dec_after {w W w1 : World} {v v' u1 u2 : Value} {xs ys : List S54} {B Bs Bn : Nat} (hBz : w.heap.size ≤ B) (hw : w.heap.size ≤ W.heap.size) (b : Boxed W B 23 v) (b1 : Boxed W Bs 22 u1) (b2 : Boxed W Bn 3 u2)
    (hR : Kd.R k54 54 W w.heap.size (fun _ => True) v xs) (hR' : Kd.R k54 54 w1 w.heap.size (fun _ => True) v' ys) (hg : W.drew.grownBy w1 v.ownBlock) (hB : Below w.heap.size w w1) :
    (w1.cell? ⟨B, 0, none⟩ = some v ∧ w1.frozen? ⟨B, 0, none⟩ = false) ∧ KeepsOthers W (w1.setCell ⟨B, 0, none⟩ v') ∧ KpC w.heap.size Bs Bn W (w1.setCell ⟨B, 0, none⟩ v') ∧ Boxed (w1.setCell ⟨B, 0, none⟩ v') B 23 v' ∧ Boxed (w1.setCell ⟨B, 0, none⟩ v') Bs 22 u1 ∧ Boxed (w1.setCell ⟨B, 0, none⟩ v') Bn 3 u2 ∧
      Kd.R k54 54 (w1.setCell ⟨B, 0, none⟩ v') w.heap.size (fun _ => True) v' ys ∧ Below w.heap.size w (w1.setCell ⟨B, 0, none⟩ v') := by
  have typed : ∀ {k : Nat}, v.ownBlock = some k → ∃ cells, W.heap[k]? = some (.cells cells 54 (0, 0)) := fun {k} hk => own_typed hR.2.choose_spec.1 k hk
  have ne : ∀ {k t u}, Boxed W k t u → t ≠ 54 → some k ≠ v.ownBlock := fun {k t u} hb ht e => by
    obtain ⟨cells, hc⟩ := typed e.symm
    rw [show W.heap[k]? = _ from hb] at hc
    simp only [Option.some.injEq, Obj.cells.injEq] at hc
    exact ht hc.2.1
  have kept : ∀ {k t u}, Boxed W k t u → t ≠ 54 → Boxed w1 k t u := fun hb ht => Boxed.kept (W := W.drew) hb hg (ne hb ht)
  have c := kept b (by decide)
  have c1 := kept b1 (by decide)
  have c2 := kept b2 (by decide)
  have n1 : Bs ≠ B := fun e => by
    subst e
    have := (show W.heap[Bs]? = _ from b).symm.trans b1
    simp at this
  have n2 : Bn ≠ B := fun e => by
    subst e
    have := (show W.heap[Bn]? = _ from b).symm.trans b2
    simp at this
  have s1 : Boxed (w1.setCell ⟨B, 0, none⟩ v') Bs 22 u1 := (Below.heap_setCell w1 ⟨B, 0, none⟩ v' Bs n1).trans c1
  have s2 : Boxed (w1.setCell ⟨B, 0, none⟩ v') Bn 3 u2 := (Below.heap_setCell w1 ⟨B, 0, none⟩ v' Bn n2).trans c2
  have hb : Below w.heap.size W (w1.setCell ⟨B, 0, none⟩ v') := by
    refine ((Below.drew (Below.refl w.heap.size W)).grown hg (show w.heap.size ≤ W.drew.heap.size from hw) fun j ej => ?_).setCell (p := ⟨B, 0, none⟩) hBz v'
    exact own_base hR.2.choose_spec.1 j ej
  refine ⟨⟨c.cell, c.frozen⟩, ?_, ⟨hb, s1.trans b1.symm, s2.trans b2.symm⟩, c.set v', s1, s2, ?_, hB.setCell (p := ⟨B, 0, none⟩) hBz v'⟩
  · refine ((KeepsOthers.drew W).trans (KeepsOthers.of_grownBy hg fun j o ej hj => ?_)).trans (KeepsOthers.setCell _ _ _)
    obtain ⟨cells, hc⟩ := typed ej
    rw [show W.drew.heap[j]? = W.heap[j]? from rfl, hc] at hj
    cases hj
    rfl
  · refine Kd.Zah (Kd.Zad (Kd.R_bound hR') (p := ⟨B, 0, none⟩) (fun k hk e => ?_) v') (fun _ _ => trivial)
    obtain ⟨_, _, _, q, hq, cells, hc⟩ := hk
    have e2 : k = B := e
    rw [e2, show w1.heap[B]? = _ from c] at hc
    simp only [Option.some.injEq, Obj.cells.injEq] at hc
    have hE : k54.E = [] := rfl
    rw [← hc.2.1, hE] at hq
    exact absurd hq (by decide)
def decI (l0 : List Int) (N : Nat) (A0 : Option Addr) (c0 : Nat) (w : World) (pre : List (Fin N)) (W : World) : Prop :=
  (∃ v, Boxed W (w.heap.size + 1) 23 v ∧ Kd.R k54 54 W w.heap.size (fun _ => True) v (pre.map fun x => pieceI l0 x.1)) ∧ Boxed W (w.heap.size + 2) 22 (.slice A0 l0.length c0) ∧ Boxed W (w.heap.size + 3) 3 (.int .i64 8) ∧ Below w.heap.size w W
theorem decI_own (l0 : List Int) (N : Nat) (A0 : Option Addr) (c0 : Nat) (w : World) (B : Nat) (hB : w.heap.size ≤ B) : OwnFrom B (decI l0 N A0 c0 w) := by
  rintro pre X Y row ⟨⟨v, hb, hR⟩, h1, h2, h3⟩ hg hr
  have ne : ∀ {b t u}, Boxed X b t u → some b ≠ row := fun {b t u} hb e => by
    obtain ⟨_, o, ho, hc⟩ := hr b e.symm
    rw [show X.heap[b]? = _ from hb] at ho
    cases ho
    cases hc
  refine ⟨⟨v, hb.kept hg (ne hb), Kd.Zah (Kd.R_grown (Kd.R_bound hR) hg (fun k hk e => ?_)) (fun _ _ => trivial)⟩, h1.kept hg (ne h1), h2.kept hg (ne h2), ownFrom_below (β := Unit) (Nat.le_refl _) hB () X Y row h3 hg hr⟩
  obtain ⟨_, _, _, q, hq, cells, hk⟩ := hk
  obtain ⟨_, o, ho, hc⟩ := hr k e.symm
  rw [hk] at ho
  cases ho
  cases hc
set_option maxRecDepth 100000 in
set_option maxHeartbeats 8000000 in
theorem decode_good (A0 : Option Addr) (c0 : Nat) (l0 : List Int) (w : World) (N : Nat) (hN : l0.length = 8 * N) (hL : l0.length ≤ 32768) (hr0 : Kd.C (Kd.int .u8) w A0 l0.length l0) (hc0 : l0.length ≤ c0) :
    CallsIn Fence.wide 6 Try.prog 9 #[.slice A0 l0.length c0] w fun e w' => ∃ v0_ : Value, e = .returned (.tuple #[v0_, .int .i64 0]) ∧ Kd.R k54 54 w' w.heap.size (fun _ => True) v0_ ((List.range N).map (pieceI l0)) ∧ Below w.heap.size w w' := by
  have g1 : ((l0.length : Int) % 8 != 0) = false := by rw [bne_eq_false_iff_eq]; omega
  have g3 : decide ((l0.length : Int) > 32768) = false := decide_eq_false (by omega)
  have g4 : decide (32768 < l0.length) = false := decide_eq_false (by omega)
  have H0 := Za.mk hr0
  have HC := Za.mk hc0
  have HN := Za.mk hN
  have HL := Za.mk hL
  have hA : A0 = none → l0.length = 0 := fun e => by
    subst e
    rcases Nat.eq_zero_or_pos l0.length with h | h
    · exact h
    · obtain ⟨R, e, _⟩ := Kd.at_int hr0 0 (by omega) (by omega)
      exact absurd e (by simp)
  clear hr0 hc0 hN hL
  refine callsIn_of_wp_marks Try.func9 rfl trivial ?_ rfl
  simp only [Try.ntmps9, List.size_toArray, List.length_cons, List.length_nil, Nat.reduceAdd, Nat.reduceSub, Array.replicate_succ, Array.replicate_zero, List.push_toArray, List.append_toArray, List.nil_append, List.cons_append]
  gi_wp2_with (refine ⟨trivial, ?_⟩; gi_at_call 30; refine (chunk_in Fence.wide _ trivial rfl _ _ _ _).mono ?_; rintro e w' ⟨rfl, rfl⟩)
  have b0 : Boxed ((((w.alloc (.cells #[] 54)).alloc (.cells #[.slice (some ⟨w.heap.size, 0, none⟩) 0 0] 23)).alloc (.cells #[.slice A0 l0.length c0] 22)).alloc (.cells #[.int .i64 8] 3)) (w.heap.size + 1) 23 (.slice (some ⟨w.heap.size, 0, none⟩) 0 0) := by
    have := Boxed.new (w.alloc (.cells #[] 54)) 23 (.slice (some ⟨w.heap.size, 0, none⟩) 0 0)
    rw [World.size_alloc] at this
    exact (this.alloc _).alloc _
  have b1 : Boxed ((((w.alloc (.cells #[] 54)).alloc (.cells #[.slice (some ⟨w.heap.size, 0, none⟩) 0 0] 23)).alloc (.cells #[.slice A0 l0.length c0] 22)).alloc (.cells #[.int .i64 8] 3)) (w.heap.size + 2) 22 (.slice A0 l0.length c0) := by
    have := Boxed.new ((w.alloc (.cells #[] 54)).alloc (.cells #[.slice (some ⟨w.heap.size, 0, none⟩) 0 0] 23)) 22 (.slice A0 l0.length c0)
    rw [World.size_alloc, World.size_alloc] at this
    exact this.alloc _
  have b2 : Boxed ((((w.alloc (.cells #[] 54)).alloc (.cells #[.slice (some ⟨w.heap.size, 0, none⟩) 0 0] 23)).alloc (.cells #[.slice A0 l0.length c0] 22)).alloc (.cells #[.int .i64 8] 3)) (w.heap.size + 3) 3 (.int .i64 8) := by
    have := Boxed.new (((w.alloc (.cells #[] 54)).alloc (.cells #[.slice (some ⟨w.heap.size, 0, none⟩) 0 0] 23)).alloc (.cells #[.slice A0 l0.length c0] 22)) 3 (.int .i64 8)
    rw [World.size_alloc, World.size_alloc, World.size_alloc] at this
    exact this
  have hI0 : decI l0 N A0 c0 w [] ((((w.alloc (.cells #[] 54)).alloc (.cells #[.slice (some ⟨w.heap.size, 0, none⟩) 0 0] 23)).alloc (.cells #[.slice A0 l0.length c0] 22)).alloc (.cells #[.int .i64 8] 3)) := by
    refine ⟨⟨_, b0, ?_⟩, b1, b2, ?_⟩
    · exact ⟨fun _ _ => trivial, [], ⟨rfl, .inr ⟨w.heap.size, 0, #[], rfl, Nat.le_refl _, Zi (Zi (Zi (blk_new w _) _) _) _, Nat.le_refl _, Nat.zero_le _, rfl, rfl⟩⟩, Reps.none _ _⟩
    · exact Ze (Ze (Ze (Ze (Below.refl _ w) _) _) _) _
  have hsz : ((((w.alloc (.cells #[] 54)).alloc (.cells #[.slice (some ⟨w.heap.size, 0, none⟩) 0 0] 23)).alloc (.cells #[.slice A0 l0.length c0] 22)).alloc (.cells #[.int .i64 8] 3)).heap.size = w.heap.size + 4 := by simp
  generalize ((((w.alloc (.cells #[] 54)).alloc (.cells #[.slice (some ⟨w.heap.size, 0, none⟩) 0 0] 23)).alloc (.cells #[.slice A0 l0.length c0] 22)).alloc (.cells #[.int .i64 8] 3)) = w4 at b0 b1 b2 hI0 hsz ⊢
  refine wpIn_rangeFunc_ownG rfl (by decide) (gf := 47) (lb := #[.pointer (some ⟨w.heap.size + 2, 0, none⟩), .pointer (some ⟨w.heap.size + 3, 0, none⟩)]) rfl trivial (enters_of Try.func47 (by kernel_rfl) rfl)
    (chunk_stops Fence.wide 5 trivial rfl (by decide) (w.heap.size + 2) (w.heap.size + 3) w.heap.size N A0 l0.length c0 HN.out HC.out HL.out hA w4 b1 b2) kpC_t (kpC_b (by omega) (by omega) (by omega)) (Below.refl _ _) (fun _ => rfl)
    (decI l0 N A0 c0 w) (fun _ _ _ => False) (decI_own l0 N A0 c0 w _ (by omega)) (fun _ _ _ _ _ hs _ _ => hs) hI0
    (fun x => { tmps := #[.slice A0 l0.length c0, undef, .slice none 0 0, .int .i64 0, .pointer (some ⟨w.heap.size + 1, 0, none⟩), pieceV A0 x, .slice A0 l0.length c0, .int .i64 (l0.length : Int), .int .i64 ((l0.length : Int) % 8), .bool false, .bool false, .slice A0 l0.length c0, .int .i64 (l0.length : Int), .bool false, .bool false, .slice (some ⟨w.heap.size, 0, none⟩) 0 0, .slice A0 l0.length c0, .func (.func 47) #[] #[.pointer (some ⟨w.heap.size + 2, 0, none⟩), .pointer (some ⟨w.heap.size + 3, 0, none⟩)], pieceV A0 x, undef, undef, undef, undef, undef, undef, undef, undef, undef, undef, undef, undef, undef, undef, undef, undef, undef, undef, undef, undef, undef, undef, undef, undef, undef, undef, undef, undef, undef, undef, undef, undef, undef, undef, undef, undef, undef, undef, undef, undef, undef, undef, undef], defers := [] }) ?assign ?body ?done ?stop
  case assign =>
    intro l x W K hK
    gi_wp2
    exact hK
  case stop =>
    rintro D c pre W _ _ h _
    exact h.elim
  case done =>
    rintro D ys W hD rfl ⟨⟨v, hv, hR⟩, h1, h2, hB⟩ hK
    obtain ⟨ao, cap, rfl⟩ := R_shape hR
    have hc := hv.cell
    gi_wp2
    refine ⟨by simp, .inl ⟨_, _, rfl, run_takeDeferred hK, ?_⟩⟩
    refine ⟨.tuple #[.slice ao (upto N (Nat.le_refl N)).length cap, .int .i64 0], ?_, .slice ao (upto N (Nat.le_refl N)).length cap, rfl, ?_, ?_⟩
    · simp [results, Try.f9, go_sem]
    · rw [List.length_map] at hR
      rw [← upto_val (Nat.le_refl N), List.map_map]
      exact R_put hR hK rfl
    · exact hB.trans (belowK_b (w := w) (Nat.le_refl _) W D _ _ (by omega) hK rfl rfl)
  case body =>
    rintro l pre x W ⟨⟨v, hv, hR⟩, h1, h2, hB⟩ hlt
    obtain ⟨ao, cap, rfl⟩ := R_shape hR
    have hxN := x.2
    have HNo := HN.out
    have HLo := HL.out
    obtain ⟨R0, rfl, y0⟩ := Kd.at_int H0.out ((8 * x.1 : Nat) : Int) (by omega) (by omega)
    have yi : ∀ i : Nat, i < 8 → w.cell? ((R0.add (8 * x.1)).add i) = some (.int .u8 (rd l0 ((8 * x.1 + i : Nat) : Int))) := fun i hi => by
      obtain ⟨R1, e1, y1⟩ := Kd.at_int H0.out ((8 * x.1 + i : Nat) : Int) (by omega) (by omega)
      obtain rfl := Option.some.inj e1
      rw [Int.toNat_natCast] at y1
      rw [Addr.add_add]
      exact y1
    have eP : pieceV (some R0) x = .slice (some (R0.add (8 * x.1))) 8 8 := rfl
    rw [eP]
    have w1 : w.cell? ⟨(R0.add (8 * x.1)).block, (R0.add (8 * x.1)).off + 1, none⟩ = some (.int .u8 (rd l0 ((8 * x.1 + 1 : Nat) : Int))) := yi 1 (by decide)
    have w2 : w.cell? ⟨(R0.add (8 * x.1)).block, (R0.add (8 * x.1)).off + 2, none⟩ = some (.int .u8 (rd l0 ((8 * x.1 + 2 : Nat) : Int))) := yi 2 (by decide)
    have w3 : w.cell? ⟨(R0.add (8 * x.1)).block, (R0.add (8 * x.1)).off + 3, none⟩ = some (.int .u8 (rd l0 ((8 * x.1 + 3 : Nat) : Int))) := yi 3 (by decide)
    have w4' : w.cell? ⟨(R0.add (8 * x.1)).block, (R0.add (8 * x.1)).off + 4, none⟩ = some (.int .u8 (rd l0 ((8 * x.1 + 4 : Nat) : Int))) := yi 4 (by decide)
    have w5 : w.cell? ⟨(R0.add (8 * x.1)).block, (R0.add (8 * x.1)).off + 5, none⟩ = some (.int .u8 (rd l0 ((8 * x.1 + 5 : Nat) : Int))) := yi 5 (by decide)
    have w6 : w.cell? ⟨(R0.add (8 * x.1)).block, (R0.add (8 * x.1)).off + 6, none⟩ = some (.int .u8 (rd l0 ((8 * x.1 + 6 : Nat) : Int))) := yi 6 (by decide)
    have w7 : w.cell? ⟨(R0.add (8 * x.1)).block, (R0.add (8 * x.1)).off + 7, none⟩ = some (.int .u8 (rd l0 ((8 * x.1 + 7 : Nat) : Int))) := yi 7 (by decide)
    have w0 : w.cell? (R0.add (8 * x.1)) = some (.int .u8 (rd l0 ((8 * x.1 : Nat) : Int))) := by rw [Int.toNat_natCast] at y0; exact y0
    obtain ⟨I, hI⟩ : ∃ I, pieceI l0 x.1 = I := ⟨_, rfl⟩
    have hI2 := hI
    unfold pieceI at hI2
    have HI := Za.mk hI
    generalize R0.add (8 * x.1) = P at w0 w1 w2 w3 w4' w5 w6 w7 ⊢
    generalize rd l0 ((8 * x.1 : Nat) : Int) = x0 at w0 hI2
    generalize rd l0 ((8 * x.1 + 1 : Nat) : Int) = x1 at w1 hI2
    generalize rd l0 ((8 * x.1 + 2 : Nat) : Int) = x2 at w2 hI2
    generalize rd l0 ((8 * x.1 + 3 : Nat) : Int) = x3 at w3 hI2
    generalize rd l0 ((8 * x.1 + 4 : Nat) : Int) = x4 at w4' hI2
    generalize rd l0 ((8 * x.1 + 5 : Nat) : Int) = x5 at w5 hI2
    generalize rd l0 ((8 * x.1 + 6 : Nat) : Int) = x6 at w6 hI2
    generalize rd l0 ((8 * x.1 + 7 : Nat) : Int) = x7 at w7 hI2
    have HI2 := Za.mk hI2
    have HR := Za.mk hR
    have HV := Za.mk hv
    have H1 := Za.mk h1
    have H2 := Za.mk h2
    have HB := Za.mk hB
    have HY := Za.mk (show ∀ w' : World, Below w.heap.size w w' → w'.cell? P = some (.int .u8 x0) ∧ w'.cell? ⟨P.block, P.off + 1, none⟩ = some (.int .u8 x1) ∧ w'.cell? ⟨P.block, P.off + 2, none⟩ = some (.int .u8 x2) ∧ w'.cell? ⟨P.block, P.off + 3, none⟩ = some (.int .u8 x3) ∧ w'.cell? ⟨P.block, P.off + 4, none⟩ = some (.int .u8 x4) ∧ w'.cell? ⟨P.block, P.off + 5, none⟩ = some (.int .u8 x5) ∧ w'.cell? ⟨P.block, P.off + 6, none⟩ = some (.int .u8 x6) ∧ w'.cell? ⟨P.block, P.off + 7, none⟩ = some (.int .u8 x7) from fun w' hb =>
      ⟨(hb.cell (World.block_lt_of_cell? w _ w0)).trans w0, (hb.cell (World.block_lt_of_cell? w _ w1)).trans w1, (hb.cell (World.block_lt_of_cell? w _ w2)).trans w2, (hb.cell (World.block_lt_of_cell? w _ w3)).trans w3, (hb.cell (World.block_lt_of_cell? w _ w4')).trans w4', (hb.cell (World.block_lt_of_cell? w _ w5)).trans w5, (hb.cell (World.block_lt_of_cell? w _ w6)).trans w6, (hb.cell (World.block_lt_of_cell? w _ w7)).trans w7⟩)
    clear y0 yi w0 w1 w2 w3 w4' w5 w6 w7 hI hI2 hR hv h1 h2 hB eP
    obtain ⟨pm, hpm⟩ : ∃ pm, pre.map (fun x => pieceI l0 x.1) = pm := ⟨_, rfl⟩
    have HPL := Za.mk (show pm.length < 4096 by rw [← hpm, List.length_map]; omega)
    rw [hpm] at HR HV
    have HPM := Za.mk hpm
    clear hpm
    obtain ⟨pl, hpl⟩ : ∃ pl, pm.length = pl := ⟨_, rfl⟩
    have HPN := Za.mk hpl
    rw [hpl] at HR HV HPL
    clear hpl
    have hHB := HB.out
    gi_wp2
    refine startR_ (n := 43) (S := fun w' => w'.cell? ⟨w.heap.size + 1, 0, none⟩ = some (.slice ao pl cap) ∧ w'.cell? P = some (.int .u8 x0) ∧ w'.cell? ⟨P.block, P.off + 1, none⟩ = some (.int .u8 x1) ∧ w'.cell? ⟨P.block, P.off + 2, none⟩ = some (.int .u8 x2) ∧ w'.cell? ⟨P.block, P.off + 3, none⟩ = some (.int .u8 x3) ∧ w'.cell? ⟨P.block, P.off + 4, none⟩ = some (.int .u8 x4) ∧ w'.cell? ⟨P.block, P.off + 5, none⟩ = some (.int .u8 x5) ∧ w'.cell? ⟨P.block, P.off + 6, none⟩ = some (.int .u8 x6) ∧ w'.cell? ⟨P.block, P.off + 7, none⟩ = some (.int .u8 x7)) (ds := [42])
      (R := fun _ W' => KeepsFrom w4.heap.size W W' ∧ KpC w.heap.size (w.heap.size + 2) (w.heap.size + 3) W W' ∧ decI l0 N (some R0) c0 w (pre ++ [x]) W') #[false, false, false, false, false, false, false, false, false, false, false, false, false, false, false, false, false, false, false, false, false, false, false, false, false, false, false, false, false, false, false, false, false, false, false, false, false, false, false, false, false, false, false] (by kernel_rfl) (by kernel_rfl) rfl rfl ⟨HV.out.cell, HY.out _ (Zd HB.out)⟩ ?hR (fun hHeld => ?_)
    case hR =>
      intro a' w' h
      exact h
    refine with_tabW Zcc.tab6 Zcc.bits6 (fun HT_ HW_ => ?_)
    generalize hWd : W.drew = Wd at hHeld ⊢
    have HBd := Za.mk (show Below w.heap.size w Wd from hWd ▸ Zd HB.out)
    have HRd := Za.mk (show Kd.R k54 54 Wd w.heap.size (fun _ => True) (.slice ao pl cap) pm from hWd ▸ Kd.Zr HR.out)
    have HWd := Za.mk hWd
    clear hWd
    refine take_ (i := 0) (N := some 19) (v := ?_) (a' := ?_) #[true, false, false, false, false, false, false, false, false, false, false, false, false, false, false, false, false, false, false, false, false, false, false, false, false, false, false, false, false, false, false, false, false, false, false, false, false, false, false, false, false, false, false] rfl rfl (take_ofW HT_.out HW_.out (by kernel_rfl)) (fun _ _ _ h => h) (Or.inl ⟨by rfl, ?_⟩) hHeld ?_ ?_
    rotate_left
    · rintro w' ⟨s0, s1, s2, s3, s4, s5, s6, s7, s8⟩
      go_simp
      with_reducible rfl
    rotate_left
    · simp only [Act.put, ZD, ZE, ZF, Zn, Zq]
      rfl
    refine Zx (i := 1) (N := some 20) (v := ?_) (a' := ?_) #[true, true, false, false, false, false, false, false, false, false, false, false, false, false, false, false, false, false, false, false, false, false, false, false, false, false, false, false, false, false, false, false, false, false, false, false, false, false, false, false, false, false, false] rfl rfl (Zy HT_.out (by kernel_rfl)) (fun _ _ _ h => h) (Or.inl ⟨by rfl, ?_⟩) ?_ ?_
    rotate_left
    · intro w'
      go_simp
      with_reducible rfl
    rotate_left
    · simp only [Act.put, ZD, ZE, ZF, Zn, Zq]
      rfl
    refine Zx (i := 2) (N := some 21) (v := ?_) (a' := ?_) #[true, true, true, false, false, false, false, false, false, false, false, false, false, false, false, false, false, false, false, false, false, false, false, false, false, false, false, false, false, false, false, false, false, false, false, false, false, false, false, false, false, false, false] rfl rfl (Zy HT_.out (by kernel_rfl)) (fun _ _ _ h => h) (Or.inl ⟨by rfl, ?_⟩) ?_ ?_
    rotate_left
    · intro w'
      go_simp
      with_reducible rfl
    rotate_left
    · simp only [Act.put, ZD, ZE, ZF, Zn, Zq]
      rfl
    refine take_ (i := 3) (N := some 22) (v := ?_) (a' := ?_) #[true, true, true, true, false, false, false, false, false, false, false, false, false, false, false, false, false, false, false, false, false, false, false, false, false, false, false, false, false, false, false, false, false, false, false, false, false, false, false, false, false, false, false] rfl rfl (take_ofW HT_.out HW_.out (by kernel_rfl)) (fun _ _ _ h => h) (Or.inl ⟨by rfl, ?_⟩) hHeld ?_ ?_
    rotate_left
    · rintro w' ⟨s0, s1, s2, s3, s4, s5, s6, s7, s8⟩
      go_simp
      with_reducible rfl
    rotate_left
    · simp only [Act.put, ZD, ZE, ZF, Zn, Zq]
      rfl
    refine Zx (i := 4) (N := some 23) (v := ?_) (a' := ?_) #[true, true, true, true, true, false, false, false, false, false, false, false, false, false, false, false, false, false, false, false, false, false, false, false, false, false, false, false, false, false, false, false, false, false, false, false, false, false, false, false, false, false, false] rfl rfl (Zy HT_.out (by kernel_rfl)) (fun _ _ _ h => h) (Or.inl ⟨by rfl, ?_⟩) ?_ ?_
    rotate_left
    · intro w'
      go_simp
      with_reducible rfl
    rotate_left
    · simp only [Act.put, ZD, ZE, ZF, Zn, Zq]
      rfl
    refine Zx (i := 5) (N := some 24) (v := ?_) (a' := ?_) #[true, true, true, true, true, true, false, false, false, false, false, false, false, false, false, false, false, false, false, false, false, false, false, false, false, false, false, false, false, false, false, false, false, false, false, false, false, false, false, false, false, false, false] rfl rfl (Zy HT_.out (by kernel_rfl)) (fun _ _ _ h => h) (Or.inl ⟨by rfl, ?_⟩) ?_ ?_
    rotate_left
    · intro w'
      go_simp
      with_reducible rfl
    rotate_left
    · simp only [Act.put, ZD, ZE, ZF, Zn, Zq]
      rfl
    refine Zx (i := 6) (N := some 25) (v := ?_) (a' := ?_) #[true, true, true, true, true, true, true, false, false, false, false, false, false, false, false, false, false, false, false, false, false, false, false, false, false, false, false, false, false, false, false, false, false, false, false, false, false, false, false, false, false, false, false] rfl rfl (Zy HT_.out (by kernel_rfl)) (fun _ _ _ h => h) (Or.inl ⟨by rfl, ?_⟩) ?_ ?_
    rotate_left
    · intro w'
      go_simp
      with_reducible rfl
    rotate_left
    · simp only [Act.put, ZD, ZE, ZF, Zn, Zq]
      rfl
    refine take_ (i := 7) (N := some 26) (v := ?_) (a' := ?_) #[true, true, true, true, true, true, true, true, false, false, false, false, false, false, false, false, false, false, false, false, false, false, false, false, false, false, false, false, false, false, false, false, false, false, false, false, false, false, false, false, false, false, false] rfl rfl (take_ofW HT_.out HW_.out (by kernel_rfl)) (fun _ _ _ h => h) (Or.inl ⟨by rfl, ?_⟩) hHeld ?_ ?_
    rotate_left
    · rintro w' ⟨s0, s1, s2, s3, s4, s5, s6, s7, s8⟩
      go_simp
      with_reducible rfl
    rotate_left
    · simp only [Act.put, ZD, ZE, ZF, Zn, Zq]
      rfl
    refine Zx (i := 8) (N := some 27) (v := ?_) (a' := ?_) #[true, true, true, true, true, true, true, true, true, false, false, false, false, false, false, false, false, false, false, false, false, false, false, false, false, false, false, false, false, false, false, false, false, false, false, false, false, false, false, false, false, false, false] rfl rfl (Zy HT_.out (by kernel_rfl)) (fun _ _ _ h => h) (Or.inl ⟨by rfl, ?_⟩) ?_ ?_
    rotate_left
    · intro w'
      go_simp
      with_reducible rfl
    rotate_left
    · simp only [Act.put, ZD, ZE, ZF, Zn, Zq]
      rfl
    refine Zx (i := 9) (N := some 28) (v := ?_) (a' := ?_) #[true, true, true, true, true, true, true, true, true, true, false, false, false, false, false, false, false, false, false, false, false, false, false, false, false, false, false, false, false, false, false, false, false, false, false, false, false, false, false, false, false, false, false] rfl rfl (Zy HT_.out (by kernel_rfl)) (fun _ _ _ h => h) (Or.inl ⟨by rfl, ?_⟩) ?_ ?_
    rotate_left
    · intro w'
      go_simp
      with_reducible rfl
    rotate_left
    · simp only [Act.put, ZD, ZE, ZF, Zn, Zq]
      rfl
    refine Zx (i := 10) (N := some 29) (v := ?_) (a' := ?_) #[true, true, true, true, true, true, true, true, true, true, true, false, false, false, false, false, false, false, false, false, false, false, false, false, false, false, false, false, false, false, false, false, false, false, false, false, false, false, false, false, false, false, false] rfl rfl (Zy HT_.out (by kernel_rfl)) (fun _ _ _ h => h) (Or.inl ⟨by rfl, ?_⟩) ?_ ?_
    rotate_left
    · intro w'
      go_simp
      with_reducible rfl
    rotate_left
    · simp only [Act.put, ZD, ZE, ZF, Zn, Zq]
      rfl
    refine Zx (i := 11) (N := some 30) (v := ?_) (a' := ?_) #[true, true, true, true, true, true, true, true, true, true, true, true, false, false, false, false, false, false, false, false, false, false, false, false, false, false, false, false, false, false, false, false, false, false, false, false, false, false, false, false, false, false, false] rfl rfl (Zy HT_.out (by kernel_rfl)) (fun _ _ _ h => h) (Or.inl ⟨by rfl, ?_⟩) ?_ ?_
    rotate_left
    · intro w'
      go_simp
      with_reducible rfl
    rotate_left
    · simp only [Act.put, ZD, ZE, ZF, Zn, Zq]
      rfl
    refine Zx (i := 12) (N := some 31) (v := ?_) (a' := ?_) #[true, true, true, true, true, true, true, true, true, true, true, true, true, false, false, false, false, false, false, false, false, false, false, false, false, false, false, false, false, false, false, false, false, false, false, false, false, false, false, false, false, false, false] rfl rfl (Zy HT_.out (by kernel_rfl)) (fun _ _ _ h => h) (Or.inl ⟨by rfl, ?_⟩) ?_ ?_
    rotate_left
    · intro w'
      go_simp
      with_reducible rfl
    rotate_left
    · simp only [Act.put, ZD, ZE, ZF, Zn, Zq]
      rfl
    refine take_ (i := 13) (N := some 32) (v := ?_) (a' := ?_) #[true, true, true, true, true, true, true, true, true, true, true, true, true, true, false, false, false, false, false, false, false, false, false, false, false, false, false, false, false, false, false, false, false, false, false, false, false, false, false, false, false, false, false] rfl rfl (take_ofW HT_.out HW_.out (by kernel_rfl)) (fun _ _ _ h => h) (Or.inl ⟨by rfl, ?_⟩) hHeld ?_ ?_
    rotate_left
    · rintro w' ⟨s0, s1, s2, s3, s4, s5, s6, s7, s8⟩
      go_simp
      with_reducible rfl
    rotate_left
    · simp only [Act.put, ZD, ZE, ZF, Zn, Zq]
      rfl
    refine Zx (i := 14) (N := some 33) (v := ?_) (a' := ?_) #[true, true, true, true, true, true, true, true, true, true, true, true, true, true, true, false, false, false, false, false, false, false, false, false, false, false, false, false, false, false, false, false, false, false, false, false, false, false, false, false, false, false, false] rfl rfl (Zy HT_.out (by kernel_rfl)) (fun _ _ _ h => h) (Or.inl ⟨by rfl, ?_⟩) ?_ ?_
    rotate_left
    · intro w'
      go_simp
      with_reducible rfl
    rotate_left
    · simp only [Act.put, ZD, ZE, ZF, Zn, Zq]
      rfl
    refine Zx (i := 15) (N := some 34) (v := ?_) (a' := ?_) #[true, true, true, true, true, true, true, true, true, true, true, true, true, true, true, true, false, false, false, false, false, false, false, false, false, false, false, false, false, false, false, false, false, false, false, false, false, false, false, false, false, false, false] rfl rfl (Zy HT_.out (by kernel_rfl)) (fun _ _ _ h => h) (Or.inl ⟨by rfl, ?_⟩) ?_ ?_
    rotate_left
    · intro w'
      go_simp
      with_reducible rfl
    rotate_left
    · simp only [Act.put, ZD, ZE, ZF, Zn, Zq]
      rfl
    refine take_ (i := 16) (N := some 35) (v := ?_) (a' := ?_) #[true, true, true, true, true, true, true, true, true, true, true, true, true, true, true, true, true, false, false, false, false, false, false, false, false, false, false, false, false, false, false, false, false, false, false, false, false, false, false, false, false, false, false] rfl rfl (take_ofW HT_.out HW_.out (by kernel_rfl)) (fun _ _ _ h => h) (Or.inl ⟨by rfl, ?_⟩) hHeld ?_ ?_
    rotate_left
    · rintro w' ⟨s0, s1, s2, s3, s4, s5, s6, s7, s8⟩
      go_simp
      with_reducible rfl
    rotate_left
    · simp only [Act.put, ZD, ZE, ZF, Zn, Zq]
      rfl
    refine Zx (i := 17) (N := some 36) (v := ?_) (a' := ?_) #[true, true, true, true, true, true, true, true, true, true, true, true, true, true, true, true, true, true, false, false, false, false, false, false, false, false, false, false, false, false, false, false, false, false, false, false, false, false, false, false, false, false, false] rfl rfl (Zy HT_.out (by kernel_rfl)) (fun _ _ _ h => h) (Or.inl ⟨by rfl, ?_⟩) ?_ ?_
    rotate_left
    · intro w'
      go_simp
      with_reducible rfl
    rotate_left
    · simp only [Act.put, ZD, ZE, ZF, Zn, Zq]
      rfl
    refine Zx (i := 18) (N := some 37) (v := ?_) (a' := ?_) #[true, true, true, true, true, true, true, true, true, true, true, true, true, true, true, true, true, true, true, false, false, false, false, false, false, false, false, false, false, false, false, false, false, false, false, false, false, false, false, false, false, false, false] rfl rfl (Zy HT_.out (by kernel_rfl)) (fun _ _ _ h => h) (Or.inl ⟨by rfl, ?_⟩) ?_ ?_
    rotate_left
    · intro w'
      go_simp
      with_reducible rfl
    rotate_left
    · simp only [Act.put, ZD, ZE, ZF, Zn, Zq]
      rfl
    refine take_ (i := 19) (N := some 38) (v := ?_) (a' := ?_) #[true, true, true, true, true, true, true, true, true, true, true, true, true, true, true, true, true, true, true, true, false, false, false, false, false, false, false, false, false, false, false, false, false, false, false, false, false, false, false, false, false, false, false] rfl rfl (take_ofW HT_.out HW_.out (by kernel_rfl)) (fun _ _ _ h => h) (Or.inl ⟨by rfl, ?_⟩) hHeld ?_ ?_
    rotate_left
    · rintro w' ⟨s0, s1, s2, s3, s4, s5, s6, s7, s8⟩
      go_simp
      with_reducible rfl
    rotate_left
    · simp only [Act.put, ZD, ZE, ZF, Zn, Zq]
      rfl
    refine Zx (i := 20) (N := some 39) (v := ?_) (a' := ?_) #[true, true, true, true, true, true, true, true, true, true, true, true, true, true, true, true, true, true, true, true, true, false, false, false, false, false, false, false, false, false, false, false, false, false, false, false, false, false, false, false, false, false, false] rfl rfl (Zy HT_.out (by kernel_rfl)) (fun _ _ _ h => h) (Or.inl ⟨by rfl, ?_⟩) ?_ ?_
    rotate_left
    · intro w'
      go_simp
      with_reducible rfl
    rotate_left
    · simp only [Act.put, ZD, ZE, ZF, Zn, Zq]
      rfl
    refine Zx (i := 21) (N := some 40) (v := ?_) (a' := ?_) #[true, true, true, true, true, true, true, true, true, true, true, true, true, true, true, true, true, true, true, true, true, true, false, false, false, false, false, false, false, false, false, false, false, false, false, false, false, false, false, false, false, false, false] rfl rfl (Zy HT_.out (by kernel_rfl)) (fun _ _ _ h => h) (Or.inl ⟨by rfl, ?_⟩) ?_ ?_
    rotate_left
    · intro w'
      go_simp
      with_reducible rfl
    rotate_left
    · simp only [Act.put, ZD, ZE, ZF, Zn, Zq]
      rfl
    refine Zx (i := 22) (N := some 41) (v := ?_) (a' := ?_) #[true, true, true, true, true, true, true, true, true, true, true, true, true, true, true, true, true, true, true, true, true, true, true, false, false, false, false, false, false, false, false, false, false, false, false, false, false, false, false, false, false, false, false] rfl rfl (Zy HT_.out (by kernel_rfl)) (fun _ _ _ h => h) (Or.inl ⟨by rfl, ?_⟩) ?_ ?_
    rotate_left
    · intro w'
      go_simp
      with_reducible rfl
    rotate_left
    · simp only [Act.put, ZD, ZE, ZF, Zn, Zq]
      rfl
    refine take_ (i := 23) (N := some 42) (v := ?_) (a' := ?_) #[true, true, true, true, true, true, true, true, true, true, true, true, true, true, true, true, true, true, true, true, true, true, true, true, false, false, false, false, false, false, false, false, false, false, false, false, false, false, false, false, false, false, false] rfl rfl (take_ofW HT_.out HW_.out (by kernel_rfl)) (fun _ _ _ h => h) (Or.inl ⟨by rfl, ?_⟩) hHeld ?_ ?_
    rotate_left
    · rintro w' ⟨s0, s1, s2, s3, s4, s5, s6, s7, s8⟩
      go_simp
      with_reducible rfl
    rotate_left
    · simp only [Act.put, ZD, ZE, ZF, Zn, Zq]
      rfl
    refine Zx (i := 24) (N := some 43) (v := ?_) (a' := ?_) #[true, true, true, true, true, true, true, true, true, true, true, true, true, true, true, true, true, true, true, true, true, true, true, true, true, false, false, false, false, false, false, false, false, false, false, false, false, false, false, false, false, false, false] rfl rfl (Zy HT_.out (by kernel_rfl)) (fun _ _ _ h => h) (Or.inl ⟨by rfl, ?_⟩) ?_ ?_
    rotate_left
    · intro w'
      go_simp
      with_reducible rfl
    rotate_left
    · simp only [Act.put, ZD, ZE, ZF, Zn, Zq]
      rfl
    refine Zx (i := 25) (N := some 44) (v := ?_) (a' := ?_) #[true, true, true, true, true, true, true, true, true, true, true, true, true, true, true, true, true, true, true, true, true, true, true, true, true, true, false, false, false, false, false, false, false, false, false, false, false, false, false, false, false, false, false] rfl rfl (Zy HT_.out (by kernel_rfl)) (fun _ _ _ h => h) (Or.inl ⟨by rfl, ?_⟩) ?_ ?_
    rotate_left
    · intro w'
      go_simp
      with_reducible rfl
    rotate_left
    · simp only [Act.put, ZD, ZE, ZF, Zn, Zq]
      rfl
    refine Zx (i := 26) (N := some 45) (v := ?_) (a' := ?_) #[true, true, true, true, true, true, true, true, true, true, true, true, true, true, true, true, true, true, true, true, true, true, true, true, true, true, true, false, false, false, false, false, false, false, false, false, false, false, false, false, false, false, false] rfl rfl (Zy HT_.out (by kernel_rfl)) (fun _ _ _ h => h) (Or.inl ⟨by rfl, ?_⟩) ?_ ?_
    rotate_left
    · intro w'
      go_simp
      with_reducible rfl
    rotate_left
    · simp only [Act.put, ZD, ZE, ZF, Zn, Zq]
      rfl
    refine Zx (i := 27) (N := some 46) (v := ?_) (a' := ?_) #[true, true, true, true, true, true, true, true, true, true, true, true, true, true, true, true, true, true, true, true, true, true, true, true, true, true, true, true, false, false, false, false, false, false, false, false, false, false, false, false, false, false, false] rfl rfl (Zy HT_.out (by kernel_rfl)) (fun _ _ _ h => h) (Or.inl ⟨by rfl, ?_⟩) ?_ ?_
    rotate_left
    · intro w'
      go_simp
      with_reducible rfl
    rotate_left
    · simp only [Act.put, ZD, ZE, ZF, Zn, Zq]
      rfl
    refine Zx (i := 28) (N := some 47) (v := ?_) (a' := ?_) #[true, true, true, true, true, true, true, true, true, true, true, true, true, true, true, true, true, true, true, true, true, true, true, true, true, true, true, true, true, false, false, false, false, false, false, false, false, false, false, false, false, false, false] rfl rfl (Zy HT_.out (by kernel_rfl)) (fun _ _ _ h => h) (Or.inl ⟨by rfl, ?_⟩) ?_ ?_
    rotate_left
    · intro w'
      go_simp
      with_reducible rfl
    rotate_left
    · simp only [Act.put, ZD, ZE, ZF, Zn, Zq]
      rfl
    refine take_ (i := 29) (N := some 48) (v := ?_) (a' := ?_) #[true, true, true, true, true, true, true, true, true, true, true, true, true, true, true, true, true, true, true, true, true, true, true, true, true, true, true, true, true, true, false, false, false, false, false, false, false, false, false, false, false, false, false] rfl rfl (take_ofW HT_.out HW_.out (by kernel_rfl)) (fun _ _ _ h => h) (Or.inl ⟨by rfl, ?_⟩) hHeld ?_ ?_
    rotate_left
    · rintro w' ⟨s0, s1, s2, s3, s4, s5, s6, s7, s8⟩
      go_simp
      with_reducible rfl
    rotate_left
    · simp only [Act.put, ZD, ZE, ZF, Zn, Zq]
      rfl
    refine Zx (i := 30) (N := some 49) (v := ?_) (a' := ?_) #[true, true, true, true, true, true, true, true, true, true, true, true, true, true, true, true, true, true, true, true, true, true, true, true, true, true, true, true, true, true, true, false, false, false, false, false, false, false, false, false, false, false, false] rfl rfl (Zy HT_.out (by kernel_rfl)) (fun _ _ _ h => h) (Or.inl ⟨by rfl, ?_⟩) ?_ ?_
    rotate_left
    · intro w'
      go_simp
      with_reducible rfl
    rotate_left
    · simp only [Act.put, ZD, ZE, ZF, Zn, Zq]
      rfl
    refine Zx (i := 31) (N := some 50) (v := ?_) (a' := ?_) #[true, true, true, true, true, true, true, true, true, true, true, true, true, true, true, true, true, true, true, true, true, true, true, true, true, true, true, true, true, true, true, true, false, false, false, false, false, false, false, false, false, false, false] rfl rfl (Zy HT_.out (by kernel_rfl)) (fun _ _ _ h => h) (Or.inl ⟨by rfl, ?_⟩) ?_ ?_
    rotate_left
    · intro w'
      go_simp
      with_reducible rfl
    rotate_left
    · simp only [Act.put, ZD, ZE, ZF, Zn, Zq]
      rfl
    refine Zx (i := 32) (N := some 51) (v := ?_) (a' := ?_) #[true, true, true, true, true, true, true, true, true, true, true, true, true, true, true, true, true, true, true, true, true, true, true, true, true, true, true, true, true, true, true, true, true, false, false, false, false, false, false, false, false, false, false] rfl rfl (Zy HT_.out (by kernel_rfl)) (fun _ _ _ h => h) (Or.inl ⟨by rfl, ?_⟩) ?_ ?_
    rotate_left
    · intro w'
      go_simp
      with_reducible rfl
    rotate_left
    · simp only [Act.put, ZD, ZE, ZF, Zn, Zq]
      rfl
    refine Zx (i := 33) (N := some 52) (v := ?_) (a' := ?_) #[true, true, true, true, true, true, true, true, true, true, true, true, true, true, true, true, true, true, true, true, true, true, true, true, true, true, true, true, true, true, true, true, true, true, false, false, false, false, false, false, false, false, false] rfl rfl (Zy HT_.out (by kernel_rfl)) (fun _ _ _ h => h) (Or.inl ⟨by rfl, ?_⟩) ?_ ?_
    rotate_left
    · intro w'
      go_simp
      with_reducible rfl
    rotate_left
    · simp only [Act.put, ZD, ZE, ZF, Zn, Zq]
      rfl
    refine Zx (i := 34) (N := some 53) (v := ?_) (a' := ?_) #[true, true, true, true, true, true, true, true, true, true, true, true, true, true, true, true, true, true, true, true, true, true, true, true, true, true, true, true, true, true, true, true, true, true, true, false, false, false, false, false, false, false, false] rfl rfl (Zy HT_.out (by kernel_rfl)) (fun _ _ _ h => h) (Or.inl ⟨by rfl, ?_⟩) ?_ ?_
    rotate_left
    · intro w'
      go_simp
      with_reducible rfl
    rotate_left
    · simp only [Act.put, ZD, ZE, ZF, Zn, Zq]
      rfl
    refine take_ (i := 35) (N := some 54) (v := ?_) (a' := ?_) #[true, true, true, true, true, true, true, true, true, true, true, true, true, true, true, true, true, true, true, true, true, true, true, true, true, true, true, true, true, true, true, true, true, true, true, true, false, false, false, false, false, false, false] rfl rfl (take_ofW HT_.out HW_.out (by kernel_rfl)) (fun _ _ _ h => h) (Or.inl ⟨by rfl, ?_⟩) hHeld ?_ ?_
    rotate_left
    · rintro w' ⟨s0, s1, s2, s3, s4, s5, s6, s7, s8⟩
      go_simp
      with_reducible rfl
    rotate_left
    · simp only [Act.put, ZD, ZE, ZF, Zn, Zq]
      rfl
    refine Zx (i := 36) (N := some 55) (v := ?_) (a' := ?_) #[true, true, true, true, true, true, true, true, true, true, true, true, true, true, true, true, true, true, true, true, true, true, true, true, true, true, true, true, true, true, true, true, true, true, true, true, true, false, false, false, false, false, false] rfl rfl (Zy HT_.out (by kernel_rfl)) (fun _ _ _ h => h) (Or.inl ⟨by rfl, ?_⟩) ?_ ?_
    rotate_left
    · intro w'
      go_simp
      with_reducible rfl
    rotate_left
    · simp only [Act.put, ZD, ZE, ZF, Zn, Zq]
      rfl
    refine Zx (i := 37) (N := some 56) (v := ?_) (a' := ?_) #[true, true, true, true, true, true, true, true, true, true, true, true, true, true, true, true, true, true, true, true, true, true, true, true, true, true, true, true, true, true, true, true, true, true, true, true, true, true, false, false, false, false, false] rfl rfl (Zy HT_.out (by kernel_rfl)) (fun _ _ _ h => h) (Or.inl ⟨by rfl, ?_⟩) ?_ ?_
    rotate_left
    · intro w'
      go_simp
      with_reducible rfl
    rotate_left
    · simp only [Act.put, ZD, ZE, ZF, Zn, Zq]
      rfl
    refine Zx (i := 38) (N := some 57) (v := ?_) (a' := ?_) #[true, true, true, true, true, true, true, true, true, true, true, true, true, true, true, true, true, true, true, true, true, true, true, true, true, true, true, true, true, true, true, true, true, true, true, true, true, true, true, false, false, false, false] rfl rfl (Zy HT_.out (by kernel_rfl)) (fun _ _ _ h => h) (Or.inl ⟨by rfl, ?_⟩) ?_ ?_
    rotate_left
    · intro w'
      go_simp
      with_reducible rfl
    rotate_left
    · simp only [Act.put, ZD, ZE, ZF, Zn, Zq]
      rfl
    refine Zx (i := 39) (N := some 58) (v := ?_) (a' := ?_) #[true, true, true, true, true, true, true, true, true, true, true, true, true, true, true, true, true, true, true, true, true, true, true, true, true, true, true, true, true, true, true, true, true, true, true, true, true, true, true, true, false, false, false] rfl rfl (Zy HT_.out (by kernel_rfl)) (fun _ _ _ h => h) (Or.inl ⟨by rfl, ?_⟩) ?_ ?_
    rotate_left
    · intro w'
      go_simp
      with_reducible rfl
    rotate_left
    · simp only [Act.put, ZD, ZE, ZF, Zn, Zq]
      rfl
    refine one_ (i := 40) (N := some 59) #[true, true, true, true, true, true, true, true, true, true, true, true, true, true, true, true, true, true, true, true, true, true, true, true, true, true, true, true, true, true, true, true, true, true, true, true, true, true, true, true, true, false, false] rfl rfl (one_of HT_.out (by kernel_rfl)) (by decide) (fun K hK => ?_)
    refine value_ (w1 := ?_) (v := ?_) (by rfl) rfl ?_ ?_
    rotate_left 2
    · go_simp
      constructor
      · rfl
      · rfl
    refine hK.out _ _ ⟨cell_al hHeld.1, HY.out _ (Ze HBd.out _)⟩ (fun hHeld => ?_)
    clear hK K
    refine norm_ (a' := ?_) ?_ ?_
    rotate_left
    · show Act.put _ (some 59) _ = _
      simp only [Act.put, ZD, ZE, ZF, Zn, Zq]
      rfl
    refine one_ (i := 41) (N := some 60) #[true, true, true, true, true, true, true, true, true, true, true, true, true, true, true, true, true, true, true, true, true, true, true, true, true, true, true, true, true, true, true, true, true, true, true, true, true, true, true, true, true, true, false] rfl rfl (one_of HT_.out (by kernel_rfl)) (by decide) (fun K hK => ?_)
    refine Kd.R_append_step k54 (w0 := w) w.heap.size (by rfl) (.tmp 19) (.tmp 59) 23 54 (.agg #[(.int .u16 0), (.int .u8 0), (.int .u8 0), (.int .u32 0)]) 8 rfl Try.underlying23 info54 rfl (by decide) (by omega) (.slice ao pl cap) pm (⟨bits .or .u16 (IntKind.u16.wrap x0) (IntKind.u16.wrap (IntKind.u16.wrap x1 * 256)), x2, x3, bits .or .u32 (bits .or .u32 (bits .or .u32 (IntKind.u32.wrap x4) (IntKind.u32.wrap (IntKind.u32.wrap x5 * 256))) (IntKind.u32.wrap (IntKind.u32.wrap x6 * 65536))) (IntKind.u32.wrap (IntKind.u32.wrap x7 * 16777216))⟩ : S54) [.int .u16 (bits .or .u16 (IntKind.u16.wrap x0) (IntKind.u16.wrap (IntKind.u16.wrap x1 * 256))), .int .u8 x2, .int .u8 x3, .int .u32 (bits .or .u32 (bits .or .u32 (bits .or .u32 (IntKind.u32.wrap x4) (IntKind.u32.wrap (IntKind.u32.wrap x5 * 256))) (IntKind.u32.wrap (IntKind.u32.wrap x6 * 65536))) (IntKind.u32.wrap (IntKind.u32.wrap x7 * 16777216)))] (fun _ => True) (fun _ => False) rfl rfl ?aP (fun _ hk => hk.elim) ?aF ?aO ?aB ?aS ?aL ?_
    (case aP => exact k54_mkM _ _ _ _)
    (case aB => exact HBd.out)
    (case aF => exact (fun _ _ => trivial))
    (case aO => exact HRd.out)
    (case aS => exact HBd.out.size)
    (case aL => have := HPL.out; have := HPN.out; omega)
    intro v109 w25 ho hb hg hat
    obtain ⟨ao2, n2, cap2, rfl⟩ : ∃ ao n cap, v109 = .slice ao n cap := by
      obtain ⟨ao, cap, e⟩ := R_shape ho
      exact ⟨ao, _, cap, e⟩
    rw [HI2.out] at ho
    have hWd := HWd.out
    subst hWd
    have HA := Za.mk (dec_after (B := w.heap.size + 1) (Nat.le_succ _) HB.out.size HV.out H1.out H2.out HR.out ho hg hb)
    have hc25 := HA.out.1.1
    have hf25 := HA.out.1.2
    have HB25 := Za.mk hb
    clear hg hat ho hb
    refine hK.out _ _ ⟨hc25, HY.out _ HB25.out⟩ (fun hHeld => ?_)
    clear hK K
    refine norm_ (a' := ?_) ?_ ?_
    rotate_left
    · show Act.put _ (some 60) _ = _
      simp only [Act.put, ZD, ZE, ZF, Zn, Zq]
      rfl
    refine last_ (i := 42) (N := none) #[true, true, true, true, true, true, true, true, true, true, true, true, true, true, true, true, true, true, true, true, true, true, true, true, true, true, true, true, true, true, true, true, true, true, true, true, true, true, true, true, true, true, true] rfl rfl (one_of HT_.out (by kernel_rfl)) (by decide) (fun K hK => ?_)
    refine skip_ (w1 := ?_) (by rfl) rfl ?_ ?_
    rotate_left 1
    · go_simp
      rfl
    refine hK.out _ _ ?_
    refine done_ (done_of HT_.out (by kernel_rfl)) ?_
    obtain ⟨_, hA1, hA2, hA3, hA4, hA5, hA6, hA7⟩ := HA.out
    refine ⟨hA1.from _, hA2, ⟨_, hA3, ?_⟩, hA4, hA5, hA7⟩
    rw [List.map_append, List.map_cons, List.map_nil, HPM.out, HI.out]
    exact hA6
theorem Zcc.calls (A0 : Option Addr) (c0 : Nat) (l0 : List Int) (r1 : List S54) (r2 : Int) (w : World) (hr0 : Kd.C (Kd.int .u8) w A0 l0.length l0) (hc0 : l0.length ≤ c0) (h : Zcc.f l0 = some (r1, r2)) :
  Calls Try.prog 9 #[.slice A0 l0.length c0] w fun e w' => ∃ v0_ : Value, e = .returned (.tuple #[v0_, .int .i64 r2]) ∧ Kd.R k54 54 w' w.heap.size (fun _ => True) v0_ r1 ∧ Below w.heap.size w w' := by
 unfold Zcc.f at h
 by_cases c : l0.length % 8 = 0 ∧ l0.length ≤ 32768
 ·rw [if_pos c] at h
  simp only [Option.some.injEq, Prod.mk.injEq] at h
  obtain ⟨rfl, rfl⟩ := h
  exact callsIn_wide.1 (decode_good A0 c0 l0 w (l0.length / 8) (by omega) c.2 hr0 hc0)
 ·rw [if_neg c] at h
  simp only [Option.some.injEq, Prod.mk.injEq] at h
  obtain ⟨rfl, rfl⟩ := h
  refine (decode_bad A0 c0 l0 w c).mono ?_
  rintro e w' ⟨rfl, rfl⟩
  exact ⟨_, rfl, Kd.R_nil _ _ _ _ _, Below.refl _ _⟩

end Go.Proofs.Ytgodbniphkfgfaa.P

namespace Go.Proofs.Ytgodbniphkfgfaa.P
open Go.RowKit Go.Proofs.YtgodbniphkfgfaaW.PrintWords Go.Proofs.YtgodbniphkfgfaaW.PrintLast Go.Proofs.YtgodbniphkfgfaaW.PrintMore
set_option linter.unusedVariables false
set_option linter.unusedSimpArgs false

structure St where
  a : Int
  x : Int
  m : List Int
  p : Int
  st : Int
def mcells (s : St) (rv : Value) : Array Value := (Value.int .u32 s.a :: Value.int .u32 s.x :: (s.m.map (Value.int .u32) ++ [rv, Value.int .i64 s.p, Value.int .i64 s.st])).toArray
def Mach (W : World) (g : Nat) (rv : Value) (s : St) : Prop := W.heap[g]? = some (.cells (mcells s rv) 76 (0, 0)) ∧ s.m.length = 16
theorem mc_a (s : St) (rv : Value) : (mcells s rv)[0]? = some (.int .u32 s.a) := rfl
theorem mc_x (s : St) (rv : Value) : (mcells s rv)[1]? = some (.int .u32 s.x) := rfl
theorem mc_m (s : St) (rv : Value) (k : Nat) (hk : k < s.m.length) : (mcells s rv)[2 + k]? = some (.int .u32 (s.m[k])) := by
  unfold mcells
  rw [List.getElem?_toArray, show 2 + k = k + 1 + 1 by omega, List.getElem?_cons_succ, List.getElem?_cons_succ, List.getElem?_append_left (by simpa using hk), List.getElem?_map, List.getElem?_eq_getElem hk]
  rfl
theorem mc_tail (s : St) (rv : Value) (h : s.m.length = 16) (j : Nat) : (mcells s rv)[18 + j]? = [rv, Value.int .i64 s.p, Value.int .i64 s.st][j]? := by
  unfold mcells
  rw [List.getElem?_toArray, show 18 + j = 16 + j + 1 + 1 by omega, List.getElem?_cons_succ, List.getElem?_cons_succ, List.getElem?_append_right (by rw [List.length_map]; omega), List.length_map, h, show 16 + j - 16 = j by omega]
theorem mc_set_a (s : St) (rv : Value) (v : Int) : (mcells s rv).setIfInBounds 0 (.int .u32 v) = mcells { s with a := v } rv := by
  unfold mcells; rw [List.setIfInBounds_toArray]; rfl
theorem mc_set_x (s : St) (rv : Value) (v : Int) : (mcells s rv).setIfInBounds 1 (.int .u32 v) = mcells { s with x := v } rv := by
  unfold mcells; rw [List.setIfInBounds_toArray]; rfl
theorem mc_set_m (s : St) (rv : Value) (k : Nat) (hk : k < s.m.length) (v : Int) : (mcells s rv).setIfInBounds (2 + k) (.int .u32 v) = mcells { s with m := s.m.set k v } rv := by
  unfold mcells
  rw [List.setIfInBounds_toArray, show 2 + k = k + 1 + 1 by omega, List.set_cons_succ, List.set_cons_succ, List.set_append_left _ _ (by simpa using hk), List.map_set]
theorem mc_set_p (s : St) (rv : Value) (h : s.m.length = 16) (v : Int) : (mcells s rv).setIfInBounds 19 (.int .i64 v) = mcells { s with p := v } rv := by
  unfold mcells
  rw [List.setIfInBounds_toArray, List.set_cons_succ, List.set_cons_succ, List.set_append_right _ _ (by rw [List.length_map]; omega), List.length_map, h]
  rfl
theorem mc_set_st (s : St) (rv : Value) (h : s.m.length = 16) (v : Int) : (mcells s rv).setIfInBounds 20 (.int .i64 v) = mcells { s with st := v } rv := by
  unfold mcells
  rw [List.setIfInBounds_toArray, List.set_cons_succ, List.set_cons_succ, List.set_append_right _ _ (by rw [List.length_map]; omega), List.length_map, h]
  rfl
section
variable {W : World} {g : Nat} {rv : Value} {s : St}
theorem Mach.ca (h : Mach W g rv s) : W.cell? ⟨g, 0, none⟩ = some (.int .u32 s.a) := (Zg h.1 0).trans (mc_a s rv)
theorem Mach.cx (h : Mach W g rv s) : W.cell? ⟨g, 1, none⟩ = some (.int .u32 s.x) := (Zg h.1 1).trans (mc_x s rv)
theorem Mach.cm (h : Mach W g rv s) (k : Nat) (hk : k < 16) : W.cell? ⟨g, 2 + k, none⟩ = some (.int .u32 (rd s.m (k : Int))) := by
  have hl : k < s.m.length := by have := h.2; omega
  rw [Zg h.1 (2 + k), mc_m s rv k hl]
  simp [rd, List.getD_eq_getElem?_getD, List.getElem?_eq_getElem hl]
theorem Mach.cr (h : Mach W g rv s) : W.cell? ⟨g, 18, none⟩ = some rv := (Zg h.1 18).trans (mc_tail s rv h.2 0)
theorem Mach.cp (h : Mach W g rv s) : W.cell? ⟨g, 19, none⟩ = some (.int .i64 s.p) := (Zg h.1 19).trans (mc_tail s rv h.2 1)
theorem Mach.cs (h : Mach W g rv s) : W.cell? ⟨g, 20, none⟩ = some (.int .i64 s.st) := (Zg h.1 20).trans (mc_tail s rv h.2 2)
theorem Mach.fr (h : Mach W g rv s) (i : Nat) : W.frozen? ⟨g, i, none⟩ = false := Zl h.1 i
theorem Mach.lt (h : Mach W g rv s) : g < W.heap.size := blk_lt h.1
theorem Mach.below {W' : World} (h : Mach W g rv s) (hb : Below W.heap.size W W') : Mach W' g rv s := ⟨Zbd h.1 hb, h.2⟩
theorem Mach.alloc (h : Mach W g rv s) (o : Obj) : Mach (W.alloc o) g rv s := ⟨Zi h.1 o, h.2⟩
theorem Mach.drew (h : Mach W g rv s) : Mach W.drew g rv s := ⟨Zh h.1, h.2⟩
theorem Mach.set_a (h : Mach W g rv s) (v : Int) : Mach (W.setCell ⟨g, 0, none⟩ (.int .u32 v)) g rv { s with a := v } := ⟨Zu h.1 0 _ (mc_set_a s rv v), h.2⟩
theorem Mach.set_x (h : Mach W g rv s) (v : Int) : Mach (W.setCell ⟨g, 1, none⟩ (.int .u32 v)) g rv { s with x := v } := ⟨Zu h.1 1 _ (mc_set_x s rv v), h.2⟩
theorem Mach.set_m (h : Mach W g rv s) (k : Nat) (hk : k < 16) (v : Int) : Mach (W.setCell ⟨g, 2 + k, none⟩ (.int .u32 v)) g rv { s with m := s.m.set k v } := ⟨Zu h.1 (2 + k) _ (mc_set_m s rv k (by have := h.2; omega) v), by rw [List.length_set]; exact h.2⟩
theorem Mach.set_p (h : Mach W g rv s) (v : Int) : Mach (W.setCell ⟨g, 19, none⟩ (.int .i64 v)) g rv { s with p := v } := ⟨Zu h.1 19 _ (mc_set_p s rv h.2 v), h.2⟩
theorem Mach.set_st (h : Mach W g rv s) (v : Int) : Mach (W.setCell ⟨g, 20, none⟩ (.int .i64 v)) g rv { s with st := v } := ⟨Zu h.1 20 _ (mc_set_st s rv h.2 v), h.2⟩
end
def MPost (B : Nat) (w : World) (g : Nat) (rv : Value) (s : St) (r : Ending) (e : Ending) (w' : World) : Prop := e = r ∧ Below B w w' ∧ Mach w' g rv s
set_option maxHeartbeats 4000000 in
theorem skip_does (B g : Nat) (rv : Value) (s : St) (c j f k : Int) (b : Bool) (w : World) (hM : Mach w g rv s) (hB : B ≤ g) :
    Calls Try.prog 77 #[.pointer (some ⟨g, 0, none⟩), .agg #[.int .u16 c, .int .u8 j, .int .u8 f, .int .u32 k], .bool b] w (MPost B w g rv { s with p := wrap64 (s.p + wrap64 (if b = true then j else f)) } (.returned (.tuple #[]))) := by
  have HM0 := Za.mk hM
  have HM := Za.mk (hM.alloc (.cells #[.int .u16 c, .int .u8 j, .int .u8 f, .int .u32 k] 54))
  have hcp := HM.out.cp
  have hcf := HM.out.fr 19
  have hlt := hM.lt
  have hne : w.heap.size ≠ g := by omega
  have hne2 : g ≠ w.heap.size := by omega
  clear hM
  cases b with
  | true =>
    go_enter Try.func77, Try.ntmps77
    go_wp2
    go_region
    go_end0
    exact ⟨rfl, Below.drew (Below.alloc (Below.setCell (Below.refl B w) hB _) (by simp [World.setCell]; omega) _), ((HM0.out.set_p _).alloc _).drew⟩
  | false =>
    go_enter Try.func77, Try.ntmps77
    go_wp2
    go_region
    go_end0
    exact ⟨rfl, Below.drew (Below.alloc (Below.setCell (Below.refl B w) hB _) (by simp [World.setCell]; omega) _), ((HM0.out.set_p _).alloc _).drew⟩
def loadR (rec : List Int) (k : Nat) : Int := bits .or .u32 (bits .or .u32 (bits .or .u32 (rd rec (k : Int) % 4294967296) (rd rec ((k : Int) + 1) % 4294967296 * 256 % 4294967296)) (rd rec ((k : Int) + 2) % 4294967296 * 65536 % 4294967296)) (rd rec ((k : Int) + 3) % 4294967296 * 16777216 % 4294967296)
set_option maxHeartbeats 4000000 in
theorem load_does (B g : Nat) (R : Addr) (cR : Nat) (rec : List Int) (s : St) (k : Nat) (w : World) (hM : Mach w g (.slice (some R) 64 cR) s) (hr : ∀ i, i < 64 → w.cell? (R.add i) = some (.int .u8 (rd rec (i : Int)))) (hc : 64 ≤ cR) (hk : k ≤ 60) :
    Calls Try.prog 69 #[.pointer (some ⟨g, 0, none⟩), .int .u32 (k : Int)] w fun e w' => e = .returned (.int .u32 (loadR rec k)) ∧ ∃ n, w' = w.drewN n := by
  have hcr := hM.cr
  have h0 := hr k (by omega)
  have h1 := hr (k + 1) (by omega)
  have h2 := hr (k + 2) (by omega)
  have h3 := hr (k + 3) (by omega)
  have a1 : w.cell? ⟨(R.add k).block, (R.add k).off + 1, none⟩ = some (.int .u8 (rd rec ((k + 1 : Nat) : Int))) := (show w.cell? ((R.add k).add 1) = _ from by rw [Addr.add_add]; exact h1)
  have a2 : w.cell? ⟨(R.add k).block, (R.add k).off + 2, none⟩ = some (.int .u8 (rd rec ((k + 2 : Nat) : Int))) := (show w.cell? ((R.add k).add 2) = _ from by rw [Addr.add_add]; exact h2)
  have a3 : w.cell? ⟨(R.add k).block, (R.add k).off + 3, none⟩ = some (.int .u8 (rd rec ((k + 3 : Nat) : Int))) := (show w.cell? ((R.add k).add 3) = _ from by rw [Addr.add_add]; exact h3)
  have hw : IntKind.u32.wrap ((k : Int) + 4) = (k : Int) + 4 := by go_arith
  have hs : (k + 4 - k : Nat) = 4 := by omega
  clear hr hM h1 h2 h3
  go_enter Try.func69, Try.ntmps69
  go_wp2
  rw [hs]
  go_quiet (fail)
  go_wp2
  go_ret
  exact ⟨rfl, _, rfl⟩
def bitsA (c k : Int) (s : St) : Int := match c with
  | 68 => bits .or .u32 s.a k
  | 76 => bits .or .u32 s.a s.x
  | 84 => bits .and .u32 s.a k
  | 92 => bits .and .u32 s.a s.x
  | 164 => bits .xor .u32 s.a k
  | 172 => bits .xor .u32 s.a s.x
  | 100 => s.a * 2 ^ min k.toNat 32 % 4294967296
  | 108 => s.a * 2 ^ min s.x.toNat 32 % 4294967296
  | 116 => s.a / 2 ^ min k.toNat 32
  | _ => s.a / 2 ^ min s.x.toNat 32
def isBits (c : Int) : Prop := c = 68 ∨ c = 76 ∨ c = 84 ∨ c = 92 ∨ c = 164 ∨ c = 172 ∨ c = 100 ∨ c = 108 ∨ c = 116 ∨ c = 124
set_option maxHeartbeats 40000000 in
set_option maxRecDepth 100000 in
theorem bits_does (B g : Nat) (rv : Value) (s : St) (c j f k : Int) (hc : isBits c) (hk : 0 ≤ k) (hx : 0 ≤ s.x) (w : World) (hM : Mach w g rv s) (hB : B ≤ g) :
    Calls Try.prog 76 #[.pointer (some ⟨g, 0, none⟩), .agg #[.int .u16 c, .int .u8 j, .int .u8 f, .int .u32 k]] w (MPost B w g rv { s with a := bitsA c k s } (.returned (.tuple #[]))) := by
  have HM0 := Za.mk hM
  have HM := Za.mk (hM.alloc (.cells #[.int .u16 c, .int .u8 j, .int .u8 f, .int .u32 k] 54))
  have hca := HM.out.ca
  have hcaf := HM.out.fr 0
  have hcx := HM.out.cx
  have hlt := hM.lt
  have hne : w.heap.size ≠ g := by omega
  have hne2 : g ≠ w.heap.size := by omega
  have hend : ∀ v : Int, MPost B w g rv { s with a := v } (.returned (.tuple #[])) (.returned (.tuple #[])) ((w.setCell ⟨g, 0, none⟩ (.int .u32 v)).alloc (.cells #[.int .u16 c, .int .u8 j, .int .u8 f, .int .u32 k] 54)) := fun v =>
    ⟨rfl, Below.alloc (Below.setCell (Below.refl B w) hB _) (by simp [World.setCell]; omega) _, (HM0.out.set_a v).alloc _⟩
  have HE := Za.mk hend
  clear hM hend HM HM0
  unfold isBits at hc
  rcases hc with rfl | rfl | rfl | rfl | rfl | rfl | rfl | rfl | rfl | rfl
  all_goals
    go_enter Try.func76, Try.ntmps76
    go_wp2
    go_end0
    exact HE.out _
def testB (c k : Int) (s : St) : Bool := match c with
  | 21 => s.a == k
  | 29 => s.a == s.x
  | 37 => decide (s.a > k)
  | 45 => decide (s.a > s.x)
  | 53 => decide (s.a ≥ k)
  | 61 => decide (s.a ≥ s.x)
  | 69 => bits .and .u32 s.a k != 0
  | _ => bits .and .u32 s.a s.x != 0
def isTest (c : Int) : Prop := c = 21 ∨ c = 29 ∨ c = 37 ∨ c = 45 ∨ c = 53 ∨ c = 61 ∨ c = 69 ∨ c = 77
set_option maxHeartbeats 40000000 in
set_option maxRecDepth 100000 in
theorem tests_does (B g : Nat) (rv : Value) (s : St) (c j f k : Int) (hc : isTest c) (w : World) (hM : Mach w g rv s) (hB : B ≤ g) :
    Calls Try.prog 76 #[.pointer (some ⟨g, 0, none⟩), .agg #[.int .u16 c, .int .u8 j, .int .u8 f, .int .u32 k]] w (MPost B w g rv { s with p := wrap64 (s.p + wrap64 (if testB c k s = true then j else f)) } (.returned (.tuple #[]))) := by
  have HM0 := Za.mk hM
  have HM := Za.mk (hM.alloc (.cells #[.int .u16 c, .int .u8 j, .int .u8 f, .int .u32 k] 54))
  have hca := HM.out.ca
  have hcaf := HM.out.fr 0
  have hcx := HM.out.cx
  have hlt := hM.lt
  have hne : w.heap.size ≠ g := by omega
  have hne2 : g ≠ w.heap.size := by omega
  obtain ⟨b, hb⟩ : ∃ b, testB c k s = b := ⟨_, rfl⟩
  rw [hb]
  obtain ⟨s2, hs2⟩ : ∃ s2 : St, s2 = { s with p := wrap64 (s.p + wrap64 (if b = true then j else f)) } := ⟨_, rfl⟩
  rw [← hs2]
  have HS2 := Za.mk hs2
  have HBB := Za.mk hb
  have HB0 := Za.mk (Below.drew (Below.alloc (Below.refl B w) (Nat.le_of_lt (Nat.lt_of_le_of_lt hB hM.lt)) (.cells #[.int .u16 c, .int .u8 j, .int .u8 f, .int .u32 k] 54)))
  have HBg := Za.mk hB
  clear hM hs2 hb
  have hi0 : (w.alloc (.cells #[.int .u16 c, .int .u8 j, .int .u8 f, .int .u32 k] 54)).cell? ⟨w.heap.size, 0, none⟩ = some (.int .u16 c) := (Zg (blk_new w _) 0).trans rfl
  have hi1 : (w.alloc (.cells #[.int .u16 c, .int .u8 j, .int .u8 f, .int .u32 k] 54)).cell? ⟨w.heap.size, 1, none⟩ = some (.int .u8 j) := (Zg (blk_new w _) 1).trans rfl
  have hi2 : (w.alloc (.cells #[.int .u16 c, .int .u8 j, .int .u8 f, .int .u32 k] 54)).cell? ⟨w.heap.size, 2, none⟩ = some (.int .u8 f) := (Zg (blk_new w _) 2).trans rfl
  have hi3 : (w.alloc (.cells #[.int .u16 c, .int .u8 j, .int .u8 f, .int .u32 k] 54)).cell? ⟨w.heap.size, 3, none⟩ = some (.int .u32 k) := (Zg (blk_new w _) 3).trans rfl
  unfold isTest at hc
  rcases hc with rfl | rfl | rfl | rfl | rfl | rfl | rfl | rfl
  · go_enter Try.func76, Try.ntmps76
    go_wp2
    generalize w.alloc (.cells #[.int .u16 21, .int .u8 j, .int .u8 f, .int .u32 k] 54) = W1 at HM HB0 hca hcx hi0 hi1 hi2 hi3 ⊢
    go_still_tail 8, (by kernel_rfl)
    go_wp2_with (go_at_call 77; refine (skip_does B g rv s _ j f k _ _ HM.out.drew HBg.out).mono ?_; rintro e w1 ⟨rfl, hb1, hm1⟩; have HB1 := Za.mk (HB0.out.trans hb1); have HM1 := Za.mk hm1; clear hb1 hm1)
    go_end0
    exact ⟨rfl, HB1.out, by rw [HS2.out, ← HBB.out]; exact HM1.out⟩
  · go_enter Try.func76, Try.ntmps76
    go_wp2
    generalize w.alloc (.cells #[.int .u16 29, .int .u8 j, .int .u8 f, .int .u32 k] 54) = W1 at HM HB0 hca hcx hi0 hi1 hi2 hi3 ⊢
    go_still_tail 8, (by kernel_rfl)
    go_wp2_with (go_at_call 77; refine (skip_does B g rv s _ j f k _ _ HM.out.drew HBg.out).mono ?_; rintro e w1 ⟨rfl, hb1, hm1⟩; have HB1 := Za.mk (HB0.out.trans hb1); have HM1 := Za.mk hm1; clear hb1 hm1)
    go_end0
    exact ⟨rfl, HB1.out, by rw [HS2.out, ← HBB.out]; exact HM1.out⟩
  · go_enter Try.func76, Try.ntmps76
    go_wp2
    generalize w.alloc (.cells #[.int .u16 37, .int .u8 j, .int .u8 f, .int .u32 k] 54) = W1 at HM HB0 hca hcx hi0 hi1 hi2 hi3 ⊢
    go_still_tail 8, (by kernel_rfl)
    go_wp2_with (go_at_call 77; refine (skip_does B g rv s _ j f k _ _ HM.out.drew HBg.out).mono ?_; rintro e w1 ⟨rfl, hb1, hm1⟩; have HB1 := Za.mk (HB0.out.trans hb1); have HM1 := Za.mk hm1; clear hb1 hm1)
    go_end0
    exact ⟨rfl, HB1.out, by rw [HS2.out, ← HBB.out]; exact HM1.out⟩
  · go_enter Try.func76, Try.ntmps76
    go_wp2
    generalize w.alloc (.cells #[.int .u16 45, .int .u8 j, .int .u8 f, .int .u32 k] 54) = W1 at HM HB0 hca hcx hi0 hi1 hi2 hi3 ⊢
    go_still_tail 8, (by kernel_rfl)
    go_wp2_with (go_at_call 77; refine (skip_does B g rv s _ j f k _ _ HM.out.drew HBg.out).mono ?_; rintro e w1 ⟨rfl, hb1, hm1⟩; have HB1 := Za.mk (HB0.out.trans hb1); have HM1 := Za.mk hm1; clear hb1 hm1)
    go_end0
    exact ⟨rfl, HB1.out, by rw [HS2.out, ← HBB.out]; exact HM1.out⟩
  · go_enter Try.func76, Try.ntmps76
    go_wp2
    generalize w.alloc (.cells #[.int .u16 53, .int .u8 j, .int .u8 f, .int .u32 k] 54) = W1 at HM HB0 hca hcx hi0 hi1 hi2 hi3 ⊢
    go_still_tail 8, (by kernel_rfl)
    go_wp2_with (go_at_call 77; refine (skip_does B g rv s _ j f k _ _ HM.out.drew HBg.out).mono ?_; rintro e w1 ⟨rfl, hb1, hm1⟩; have HB1 := Za.mk (HB0.out.trans hb1); have HM1 := Za.mk hm1; clear hb1 hm1)
    go_end0
    exact ⟨rfl, HB1.out, by rw [HS2.out, ← HBB.out]; exact HM1.out⟩
  · go_enter Try.func76, Try.ntmps76
    go_wp2
    generalize w.alloc (.cells #[.int .u16 61, .int .u8 j, .int .u8 f, .int .u32 k] 54) = W1 at HM HB0 hca hcx hi0 hi1 hi2 hi3 ⊢
    go_still_tail 8, (by kernel_rfl)
    go_wp2_with (go_at_call 77; refine (skip_does B g rv s _ j f k _ _ HM.out.drew HBg.out).mono ?_; rintro e w1 ⟨rfl, hb1, hm1⟩; have HB1 := Za.mk (HB0.out.trans hb1); have HM1 := Za.mk hm1; clear hb1 hm1)
    go_end0
    exact ⟨rfl, HB1.out, by rw [HS2.out, ← HBB.out]; exact HM1.out⟩
  · go_enter Try.func76, Try.ntmps76
    go_wp2
    generalize w.alloc (.cells #[.int .u16 69, .int .u8 j, .int .u8 f, .int .u32 k] 54) = W1 at HM HB0 hca hcx hi0 hi1 hi2 hi3 ⊢
    go_still_tail 9, (by kernel_rfl)
    go_wp2_with (go_at_call 77; refine (skip_does B g rv s _ j f k _ _ HM.out.drew HBg.out).mono ?_; rintro e w1 ⟨rfl, hb1, hm1⟩; have HB1 := Za.mk (HB0.out.trans hb1); have HM1 := Za.mk hm1; clear hb1 hm1)
    go_end0
    exact ⟨rfl, HB1.out, by rw [HS2.out, ← HBB.out]; exact HM1.out⟩
  · go_enter Try.func76, Try.ntmps76
    go_wp2
    generalize w.alloc (.cells #[.int .u16 77, .int .u8 j, .int .u8 f, .int .u32 k] 54) = W1 at HM HB0 hca hcx hi0 hi1 hi2 hi3 ⊢
    go_still_tail 9, (by kernel_rfl)
    go_wp2_with (go_at_call 77; refine (skip_does B g rv s _ j f k _ _ HM.out.drew HBg.out).mono ?_; rintro e w1 ⟨rfl, hb1, hm1⟩; have HB1 := Za.mk (HB0.out.trans hb1); have HM1 := Za.mk hm1; clear hb1 hm1)
    go_end0
    exact ⟨rfl, HB1.out, by rw [HS2.out, ← HBB.out]; exact HM1.out⟩
def numA (c k : Int) (s : St) : Int := match c with
  | 4 => (s.a + k) % 4294967296
  | 12 => (s.a + s.x) % 4294967296
  | 20 => (s.a - k) % 4294967296
  | 28 => (s.a - s.x) % 4294967296
  | 36 => s.a * k % 4294967296
  | _ => s.a * s.x % 4294967296
def isNum (c : Int) : Prop := c = 4 ∨ c = 12 ∨ c = 20 ∨ c = 28 ∨ c = 36 ∨ c = 44
def goOn : Ending := .returned (.tuple #[.int .u32 0, .bool false])
set_option maxHeartbeats 40000000 in
set_option maxRecDepth 100000 in
theorem nums_does (B g : Nat) (rv : Value) (s : St) (c j f k : Int) (hc : isNum c) (w : World) (hM : Mach w g rv s) (hB : B ≤ g) :
    Calls Try.prog 70 #[.pointer (some ⟨g, 0, none⟩), .agg #[.int .u16 c, .int .u8 j, .int .u8 f, .int .u32 k]] w (MPost B w g rv { s with a := numA c k s } goOn) := by
  have HM0 := Za.mk hM
  have HM := Za.mk (hM.alloc (.cells #[.int .u16 c, .int .u8 j, .int .u8 f, .int .u32 k] 54))
  have hca := HM.out.ca
  have hcaf := HM.out.fr 0
  have hcx := HM.out.cx
  have hlt := hM.lt
  have hne : w.heap.size ≠ g := by omega
  have hne2 : g ≠ w.heap.size := by omega
  have hend : ∀ v : Int, MPost B w g rv { s with a := v } goOn goOn ((w.setCell ⟨g, 0, none⟩ (.int .u32 v)).alloc (.cells #[.int .u16 c, .int .u8 j, .int .u8 f, .int .u32 k] 54)) := fun v =>
    ⟨rfl, Below.alloc (Below.setCell (Below.refl B w) hB _) (by simp [World.setCell]; omega) _, (HM0.out.set_a v).alloc _⟩
  have HE := Za.mk hend
  clear hM hend HM HM0
  unfold isNum at hc
  rcases hc with rfl | rfl | rfl | rfl | rfl | rfl
  all_goals
    go_enter Try.func70, Try.ntmps70
    go_wp2
    go_returns
    exact HE.out _

end Go.Proofs.Ytgodbniphkfgfaa.P
