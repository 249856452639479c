import Derived.Test.YtgodbniphkfgfaaProg
import Derived.Below
import Derived.Deep.Draws
import Derived.Deep.AppendLies
import Derived.Maps.AppendAt
import Derived.OwnWalk
import Derived.Laws.BytesArg
import Derived.Laws.MakeOwn
import Derived.Laws.OwnMore
import Derived.Deep.OwnRows
import Derived.Tactics
import Derived.Lib.ConvBytes
import Derived.Laws.Slices
import Derived.WalkKit
import Derived.KernelRfl
import Derived.RowKit3
import Derived.Deep.LoopGhost
import Derived.Deep.QuietTactic
import Derived.BigQuiet
import Derived.WideLaws
import Derived.Deep.DeepCutAuto
import Derived.Deep.CutBlock
import Derived.Deep.RegionHeld3
import Derived.Laws.Rows
import Derived.Lib.AppendStr
import Derived.ArgAppend
import Derived.Laws.IdiomCopy
import Derived.OrdersHeld
import Derived.Laws.BitsLemmas
import Derived.RowKit
import Derived.Test.YtgodbniphkfgfaaGFnProgram1
import Derived.Test.YtgodbniphkfgfaaGFnProgram2
import Derived.Test.YtgodbniphkfgfaaGFnProgram3
import Derived.OrdersIn
import Derived.TacticsIn
import Derived.RangeFuncCalls
import Derived.RangeFuncNested
import Derived.RangeFuncBound
import Derived.RangeFuncLeaves
import Derived.RangeFuncBox
import Derived.Shelf.Abstract
import Derived.OwnWalkIn
import Derived.TacticsInMore
import Derived.LoopNIn
import Derived.LoopIn
import Derived.BigRegionIn
namespace Go.Proofs.Ytgodbniphkfgfaa.P
open Go.RowKit Go.Proofs.YtgodbniphkfgfaaW.PrintWords Go.Proofs.YtgodbniphkfgfaaW.PrintLast Go.Proofs.YtgodbniphkfgfaaW.PrintMore
attribute [local go_sem] max2_int min2_int max_two min_two max_three min_three max_four min_four
set_option linter.unusedVariables false
set_option linter.unusedSimpArgs false



def errW : Option Int → Value
  | none => .nilIface
  | some c => .iface 0 (.int .i64 c)
theorem Zo : errW none = .nilIface := rfl
theorem Zp (c : Int) : errW (some c) = .iface 0 (.int .i64 c) := rfl

theorem info3 : (Try.prog.info? 3).map (fun i => (i.zero, i.size, i.bytes)) = some (some (.int .i64 0), 1, 8) := by kernel_rfl
theorem info5 : (Try.prog.info? 5).map (fun i => (i.zero, i.size, i.bytes)) = some (some (.int .u8 0), 1, 1) := by kernel_rfl
theorem info54 : (Try.prog.info? 54).map (fun i => (i.zero, i.size, i.bytes)) = some (some (.agg #[(.int .u16 0), (.int .u8 0), (.int .u8 0), (.int .u32 0)]), 4, 8) := by kernel_rfl
structure S54 where
  f0 : Int
  f1 : Int
  f2 : Int
  f3 : Int
def z54 : S54 := ⟨(0 : Int), (0 : Int), (0 : Int), (0 : Int)⟩
def k54 : Kd S54 := Kd.iso (Kd.pair (Kd.int .u16) (Kd.pair (Kd.int .u8) (Kd.pair (Kd.int .u8) (Kd.int .u32)))) (fun x : S54 => (x.f0, x.f1, x.f2, x.f3))
theorem k54_open {w : World} {x : S54} {cs : List Value} (h : k54.K w x cs) : cs = [.int .u16 x.f0, .int .u8 x.f1, .int .u8 x.f2, .int .u32 x.f3] := by
  obtain ⟨_, _, rfl, rfl, ⟨_, _, rfl, rfl, ⟨_, _, rfl, rfl, rfl⟩⟩⟩ := h
  exact rfl
theorem Zba {w : World} {base : Nat} {ok : Nat → Prop} {x : S54} {cs : List Value} (h : k54.M w base ok x cs) : cs = [.int .u16 x.f0, .int .u8 x.f1, .int .u8 x.f2, .int .u32 x.f3] := by
  obtain ⟨_, _, rfl, rfl, ⟨_, _, rfl, rfl, ⟨_, _, rfl, rfl, rfl⟩⟩⟩ := h
  exact rfl
theorem k54_mkM (w : World) (base : Nat) (ok : Nat → Prop) (x : S54)  : k54.M w base ok x [.int .u16 x.f0, .int .u8 x.f1, .int .u8 x.f2, .int .u32 x.f3] := ⟨[.int .u16 x.f0], [.int .u8 x.f1, .int .u8 x.f2, .int .u32 x.f3], rfl, rfl, ⟨[.int .u8 x.f1], [.int .u8 x.f2, .int .u32 x.f3], rfl, rfl, ⟨[.int .u8 x.f2], [.int .u32 x.f3], rfl, rfl, rfl⟩⟩⟩
def Zb (xs : List S54) (i : Int) : S54 := xs.getD i.toNat z54
theorem at_T54 {w : World} {A : Option Addr} {n : Nat} {xs : List S54} (h : Kd.C k54 w A n xs) (i : Int) (h0 : 0 ≤ i) (h1 : i < n) : ∃ ad , A = some ad ∧ w.cell? (ad.add (i.toNat * 4)) = some (.int .u16 (Zb xs i).f0) ∧ w.cell? ⟨(ad.add (i.toNat * 4)).block, (ad.add (i.toNat * 4)).off + 1, none⟩ = some (.int .u8 (Zb xs i).f1) ∧ w.cell? ⟨(ad.add (i.toNat * 4)).block, (ad.add (i.toNat * 4)).off + 2, none⟩ = some (.int .u8 (Zb xs i).f2) ∧ w.cell? ⟨(ad.add (i.toNat * 4)).block, (ad.add (i.toNat * 4)).off + 3, none⟩ = some (.int .u32 (Zb xs i).f3) := by
  obtain ⟨ad, c, e, _, hK, hc0⟩ := Kd.C_get h z54 i h0 h1
  have hc : ∀ j u, c[j]? = some u → w.cell? (ad.add (i.toNat * 4 + j)) = some u := hc0
  obtain rfl := k54_open hK
  exact ⟨ad, e, hc 0 _ rfl, by rw [← add_field _ _ 1 (by omega)]; exact hc 1 _ rfl, by rw [← add_field _ _ 2 (by omega)]; exact hc 2 _ rfl, by rw [← add_field _ _ 3 (by omega)]; exact hc 3 _ rfl⟩

structure S66 where
  f0 : Int
  f1 : Int
  f2 : Int
  f3 : Int
structure S68 where
  f0 : Int
  f1 : S66
  f2 : Int
structure S88 where
  f0 : Int
  f1 : Int
structure S64 where
  f0 : Int
  f1 : S54
  f2 : Int
theorem cell_defd (w : World) (a b : Addr) (v : Value) : ((w.setCell a v).cell? b).isSome = (w.cell? b).isSome := by
  by_cases h : a = b
  · subst h
    cases hc : w.cell? a with
    | some u => rw [World.cell?_setCell_same w a v hc]; rfl
    | none =>
      unfold World.cell? at hc ⊢
      simp only [World.setCell, Array.getElem?_modify, if_true]
      cases hh : w.heap[a.block]? with
      | none => rfl
      | some x =>
        rw [hh] at hc
        cases x with
        | cells c e f =>
          simp only [Option.map_some] at hc ⊢
          cases hs : a.spot.isSome with
          | true => simp
          | false =>
            rw [hs] at hc
            simp only [Bool.false_eq_true, if_false] at hc ⊢
            rw [Array.getElem?_eq_none (by rw [Array.size_setIfInBounds]; exact Array.getElem?_eq_none_iff.1 hc)]
        | _ => rfl
  · rw [World.cell?_setCell_other w a b v h]
section
variable {P : Program} {ops : Array Oper} {md : Region.Mode}
def QN (R : Act → World → Prop) : Exit → Act → World → Prop
  | .normal, a, w => R a w
  | _, _, _ => False
theorem qn_out (R : Act → World → Prop) : ¬ LetsOut (QN R) := fun ⟨_, _, h⟩ => h
theorem rowsIn_round {row : String} {args : Array Value} {w : World} {R : Value → World → Prop} {l n : Nat} (h : Rows P row args w R) : RowsIn (Fence.wide.inRound l) n P row args w R :=
  fun c cs _ => let ⟨v, w', r, s⟩ := h c cs; ⟨v, w', r, stepsIn_wide.2 s⟩
theorem callsIn_round {f : FuncId} {args : Array Value} {w : World} {R R' : Ending → World → Prop} {l n : Nat} (h : Calls P f args w R) (hr : ∀ e w', R e w' → R' e w') : CallsIn (Fence.wide.inRound l) n P f args w R' :=
  CallsIn.mono (CallsIn.inRound l ((callsIn_wide (n := n)).2 h)) hr
theorem wpOpIn_round {R : Act → World → Prop} {l n i : Nat} {K : Act → World → Prop} {a : Act} {w : World} (hd : ∀ (j : Nat) (o : Oper), ops[j]? = some o → ∀ c, o.op ≠ .defer c) (h : wpOp P ops (QN R) i K a w) :
    wpOpIn (Fence.wide.inRound l) n P ops (QN R) i K a w := by
  unfold wpOp at h
  unfold wpOpIn
  cases ho : ops[i]? with
  | none => rw [ho] at h; exact h
  | some o =>
    rw [ho] at h
    dsimp only at h ⊢
    by_cases hw : Region.wanted o (yielded ops a.tmps) = true
    · rw [if_pos hw] at h ⊢
      rcases h with h | ⟨_, h⟩
      · refine ⟨fun _ _ => trivial, ?_⟩
        have e := Oper.semAt_some l a.eval o (hd i o ho)
        show o.uponIn _ n P a K _ ((o.semAt (some l) a.eval).run P w)
        rw [e]
        unfold Oper.wp at h
        generalize (execOp a.eval o).run P w = r at h
        cases r with
        | ok x w' =>
          cases x <;> simp only [Oper.upon, Oper.uponIn] at h ⊢ <;>
            first
              | exact h
              | exact ⟨fun h2 => by simp [Fence.wide] at h2, callsIn_round h (fun e w2 he => by cases e <;> exact he)⟩
              | exact ⟨fun h2 => by simp [Fence.wide] at h2, rowsIn_round h⟩
              | exact h.elim
        | halt x w' => cases x <;> simp only [Oper.upon, Oper.uponIn] at h ⊢ <;> exact h
      · exact absurd h (qn_out R)
    · rw [if_neg hw] at h ⊢
      exact ⟨fun _ _ => trivial, h⟩
theorem wpAnyIn_round {R : Act → World → Prop} {l n : Nat} (hd : ∀ (j : Nat) (o : Oper), ops[j]? = some o → ∀ c, o.op ≠ .defer c) :
    ∀ (fuel : Nat) (listed : Array Bool) (a : Act) (w : World), wpAny P md ops (QN R) fuel listed a w → wpAnyIn (Fence.wide.inRound l) n P md ops (QN R) fuel listed a w
  | 0, _, _, _, h => h
  | fuel + 1, _, _, _, h => ⟨h.1, fun i hi => wpOpIn_mono (fun a w h2 => wpAnyIn_round hd fuel _ a w h2) (wpOpIn_round hd (h.2 i hi))⟩
def noDeferB (ops : Array Oper) : Bool := ops.all fun o => match o.op with | .defer _ => false | _ => true
theorem noDefer_spec (h : noDeferB ops = true) (j : Nat) (o : Oper) (ho : ops[j]? = some o) : ∀ c, o.op ≠ .defer c := by
  have h1 := Array.all_eq_true_iff_forall_mem.1 h o (Array.mem_of_getElem? ho)
  intro c e
  rw [e] at h1
  exact Bool.false_ne_true h1
theorem startR_ {S : World → Prop} {ds : List Nat} {R : Act → World → Prop} {Q : Exit → Act → World → Prop} {id n lr m : Nat} {a : Act} {w : World} (l : Array Bool) (hm : P.follows .mixedOrders = true) (hd : noDeferB ops = true) (hn : ops.size = n) (hl : Array.replicate n false = l) (hS : S w.drew)
    (hR : ∀ a' w', R a' w' → Q .normal a' w') (h : S w.drew → Zay P .any ops (QN R) S ds n l a w.drew) : (Code.region id ops true).wpIn (Fence.wide.inRound lr) m P Q a w := by
  subst hn
  subst hl
  refine wpIn_mono (wpIn_region_any hm (wpAnyIn_round (noDefer_spec hd) _ _ _ _ (wpAny_of_last _ _ _ _ (h hS)))) (fun e a' w' hq => ?_)
  cases e <;> first | exact hR _ _ hq | exact hq.elim
end
attribute [local go_sem] Oper.semAt_some
attribute [local go_sem] max2_int min2_int max_two min_two max_three min_three max_four min_four
def pieceV (A : Option Addr) {N : Nat} (x : Fin N) : Value := .slice (A.map (fun p => p.add (8 * x.1))) 8 8
def KpC (n₀ Bs Bn : Nat) (W W' : World) : Prop := Below n₀ W W' ∧ W'.heap[Bs]? = W.heap[Bs]? ∧ W'.heap[Bn]? = W.heap[Bn]?
theorem kpC_t {n₀ Bs Bn : Nat} {A B C : World} (h : KpC n₀ Bs Bn A B) (k : KpC n₀ Bs Bn B C) : KpC n₀ Bs Bn A C := ⟨h.1.trans k.1, k.2.1.trans h.2.1, k.2.2.trans h.2.2⟩
theorem kpC_b {n₀ Bs Bn : Nat} {w : World} (hn : n₀ ≤ w.heap.size) (h1 : Bs < w.heap.size) (h2 : Bn < w.heap.size) (W : World) (l : Nat) (o o' : Obj) (hl : w.heap.size ≤ l) (h : W.heap[l]? = some o) (hc : o.isCells = false) (hk : o.isWalk = false) : KpC n₀ Bs Bn W (W.putObj l o') :=
  ⟨belowK_b hn W l o o' hl h hc hk, World.putObj_heap_other (by omega), World.putObj_heap_other (by omega)⟩
def upto {N : Nat} (k : Nat) (h : k ≤ N) : List (Fin N) := (List.range k).attach.map fun j => ⟨j.1, by have := List.mem_range.1 j.2; omega⟩
theorem upto_length {N k : Nat} (h : k ≤ N) : (upto k h).length = k := by simp [upto]
theorem upto_val {N k : Nat} (h : k ≤ N) : (upto k h).map (·.1) = List.range k := by
  simp [upto]
theorem upto_succ {N k : Nat} (h : k + 1 ≤ N) : upto (k + 1) h = upto k (by omega) ++ [⟨k, by omega⟩] := by
  have : ∀ a b : List (Fin N), a.map (·.1) = b.map (·.1) → a = b := fun a b e => (List.map_inj_right (fun x y h => Fin.ext h)).1 e
  refine this _ _ ?_
  rw [List.map_append, upto_val, upto_val, List.range_succ]
  rfl
set_option maxRecDepth 100000 in
set_option maxHeartbeats 4000000 in
theorem chunk1_in (F : Fence) (n : Nat) (h47 : F.fn 47) (hro : F.round = none) (hn : 1 ≤ n) (l Bs Bn n₀ N : Nat) (A : Option Addr) (len c : Nat) (hN : len = 8 * N) (hlc : len ≤ c) (hlen : len ≤ 32768) (hA : A = none → len = 0)
    (J Jx : List (Fin N) → World → Prop)
    (hY : ∀ pre x W, J pre W → pre.length < N → YieldAt F (n - 1) Try.prog l #[pieceV A x] W fun e W' =>
      (e = .returned (.bool true) ∧ J (pre ++ [x]) W' ∧ KpC n₀ Bs Bn W W') ∨ (e = .returned (.bool false) ∧ Jx (pre ++ [x]) W'))
    (hJd : ∀ pre W, J pre W → J pre W.drew) (W : World) (hBs : Boxed W Bs 22 (.slice A len c)) (hBn : Boxed W Bn 3 (.int .i64 8)) (h0 : J [] W) :
    CallsIn F n Try.prog 47 #[.func (.yield l) #[] #[], .pointer (some ⟨Bs, 0, none⟩), .pointer (some ⟨Bn, 0, none⟩)] W fun e W' => (∃ v, e = .returned v) ∧
      ((∃ ys, ys = upto N (Nat.le_refl N) ∧ J ys W') ∨ (∃ pre, True ∧ Jx pre W')) := by
  refine callsIn_of_wp Try.func47 rfl h47 ?_ hro
  simp only [Try.ntmps47, List.size_toArray, List.length_cons, List.length_nil, Nat.reduceAdd, Nat.reduceSub, Array.replicate_succ, Array.replicate_zero, List.push_toArray, List.append_toArray, List.nil_append, List.cons_append]
  gi_wp2
  gi_loopw [4] (fun i wr => ∃ k : Nat, ∃ hk : k ≤ N, i = .int .i64 ((8 * k : Nat) : Int) ∧ J (upto k hk) wr ∧ wr.heap[Bs]? = W.heap[Bs]? ∧ wr.heap[Bn]? = W.heap[Bn]?)
    (fun i _ => len - (intOf i).toNat)
  case atStart => exact ⟨0, Nat.zero_le _, rfl, h0, rfl, rfl⟩
  case round =>
    obtain ⟨k, hk, rfl, hJs, hb1, hb2⟩ := hrel
    have hBs' : Boxed wr Bs 22 (.slice A len c) := hb1.trans hBs
    have hBn' : Boxed wr Bn 3 (.int .i64 8) := hb2.trans hBn
    have hc1 := hBs'.cell
    have hc2 := hBn'.cell
    by_cases hlt : k < N
    · obtain ⟨R, rfl⟩ : ∃ R, A = some R := by
        cases A with
        | none => have := hA rfl; omega
        | some R => exact ⟨R, rfl⟩
      obtain ⟨fn, tmps, assign, body, hy, hR⟩ := hY _ ⟨k, hlt⟩ wr.drew (hJd _ _ hJs) (by rw [upto_length]; exact hlt)
      dsimp only [pieceV, Option.map_some] at hy
      have g1 : ((8 * k : Nat) : Int) < (len : Int) := by omega
      have g2 : (0 : Int) ≤ ((8 * k : Nat) : Int) := by omega
      have g3 : ((8 * k : Nat) : Int) ≤ (len : Int) := by omega
      have g4 : wrap64 (((8 * k : Nat) : Int) + 8) = ((8 * k + 8 : Nat) : Int) := by unfold wrap64; omega
      gi_wp2
      gi_region
      all_goals gi_wp2
      all_goals
        refine hR.mono ?_
        rintro e W3 (⟨rfl, hJ3, hk3⟩ | ⟨rfl, hJx3⟩)
        · have hBn3 : Boxed W3 Bn 3 (.int .i64 8) := hk3.2.2.trans hBn'
          have hc3 := hBn3.cell
          gi_wp2
          go_roundw
          case rel => exact ⟨k + 1, by omega, by simp; omega, by rw [upto_succ]; exact hJ3, hk3.2.1.trans hb1, hk3.2.2.trans hb2⟩
          case measure => simp [intOf]; omega
        · gi_wp2
          refine bodyPost_ret (results_none rfl _ _ _) rfl ?_
          exact ⟨⟨_, rfl⟩, .inr ⟨_, trivial, hJx3⟩⟩
    · obtain rfl : k = N := by omega
      have g1 : ¬ ((8 * k : Nat) : Int) < (len : Int) := by omega
      gi_wp2
      go_end0
      exact ⟨⟨_, rfl⟩, .inl hJs⟩
set_option maxHeartbeats 1000000 in
theorem chunk_in (F : Fence) (n : Nat) (h30 : F.fn 30) (hro : F.round = none) (A : Option Addr) (len c : Nat) (w : World) :
    CallsIn F n Try.prog 30 #[.slice A len c, .int .i64 8] w fun e w' => e = .returned (.func (.func 47) #[] #[.pointer (some ⟨w.heap.size, 0, none⟩), .pointer (some ⟨w.heap.size + 1, 0, none⟩)]) ∧
      w' = (w.alloc (.cells #[.slice A len c] 22)).alloc (.cells #[.int .i64 8] 3) := by
  refine callsIn_of_wp Try.func30 rfl h30 ?_ hro
  simp only [Try.ntmps30, List.size_toArray, List.length_cons, List.length_nil, Nat.reduceAdd, Nat.reduceSub, Array.replicate_succ, Array.replicate_zero, List.push_toArray, List.append_toArray, List.nil_append, List.cons_append]
  gi_wp2
  go_ret
  exact ⟨rfl, rfl⟩
theorem grownBy_drew (W : World) : W.grownBy W.drew none := ⟨rfl, rfl, rfl, Nat.le_refl _, fun _ _ _ => rfl⟩
theorem chunk_stops (F : Fence) (n : Nat) (h47 : F.fn 47) (hro : F.round = none) (hn : 1 ≤ n) (Bs Bn n₀ N : Nat) (A : Option Addr) (len c : Nat) (hN : len = 8 * N) (hlc : len ≤ c) (hlen : len ≤ 32768) (hA : A = none → len = 0)
    (w : World) (hBs : Boxed w Bs 22 (.slice A len c)) (hBn : Boxed w Bn 3 (.int .i64 8)) :
    SeqStopsK F n Try.prog 47 #[.pointer (some ⟨Bs, 0, none⟩), .pointer (some ⟨Bn, 0, none⟩)] (fun x : Fin N => #[pieceV A x]) (KpC n₀ Bs Bn) (fun ys => ys = upto N (Nat.le_refl N)) (fun _ => True) N w := fun l J Jx W hW hJ _ hY h0 =>
  chunk1_in F n h47 hro hn l Bs Bn n₀ N A len c hN hlc hlen hA J Jx hY (fun pre W1 h => hJ pre W1 _ none h (grownBy_drew W1) (fun r e => by cases e)) W ((hW.block Bs hBs.lt).trans hBs) ((hW.block Bn hBn.lt).trans hBn) h0

end Go.Proofs.Ytgodbniphkfgfaa.P

namespace Go.Proofs.Ytgodbniphkfgfaa.P
open Go.RowKit Go.Proofs.YtgodbniphkfgfaaW.PrintWords Go.Proofs.YtgodbniphkfgfaaW.PrintLast Go.Proofs.YtgodbniphkfgfaaW.PrintMore
attribute [local go_sem] max2_int min2_int max_two min_two max_three min_three max_four min_four
set_option linter.unusedVariables false
set_option linter.unusedSimpArgs false

def spec_l1codes.f  : Option (List Int) := some (([0, 1, 32, 96, 97, 2, 3, 4, 12, 20, 28, 36, 44, 52, 60, 68, 76, 84, 92, 164, 172, 100, 108, 116, 124, 132, 7, 135, 5, 21, 29, 37, 45, 53, 61, 69, 77, 6, 22] : List Int))
set_option maxHeartbeats 8000000 in
set_option maxRecDepth 100000 in
theorem spec_l1codes.calls  (r : List Int) (w : World) (h : spec_l1codes.f  = some r) :
  Calls Try.prog 72 #[] w fun e w' => ∃ v0_ : Value, e = .returned (v0_) ∧ Kd.R (Kd.int .i64) 3 w' w.heap.size (fun _ => True) v0_ r ∧ Below w.heap.size w w' := by
 have HB := Za.mk (Below.refl w.heap.size w)
 have H := h
 unfold spec_l1codes.f at H
 clear h
 obtain ⟨y166, hy166⟩ : ∃ y_ : List Int, y_ = (([0, 1, 32, 96, 97, 2, 3, 4, 12, 20, 28, 36, 44, 52, 60, 68, 76, 84, 92, 164, 172, 100, 108, 116, 124, 132, 7, 135, 5, 21, 29, 37, 45, 53, 61, 69, 77, 6, 22] : List Int)) := ⟨_, rfl⟩
 replace H : (some y166) = some r := by first | (rw [hy166]; with_reducible exact H) | (have H2_ := (Option.bind_some _ _).symm.trans H; rw [hy166]; with_reducible exact H2_) | (have H2_ := (Option.bind_some _ _).symm.trans H; with_reducible exact H2_) | with_reducible exact H | (rw [hy166]; exact H) | exact H
 have Ny166 := Za.mk hy166
 clear hy166
 obtain rfl := Option.some.inj H
 go_enter Try.func72, Try.ntmps72
 go_wp2_with (first | ((with_reducible refine Zbj (N := 1) rfl ?_); refine Kd.R_lit (Kd.int .i64) _ 3 ?hg (N := 1) ?hd (xs := ([0, 1, 32, 96, 97, 2, 3, 4, 12, 20, 28, 36, 44, 52, 60, 68, 76, 84, 92, 164, 172, 100, 108, 116, 124, 132, 7, 135, 5, 21, 29, 37, 45, 53, 61, 69, 77, 6, 22] : List Int)) (inner := [.int .i64 0, .int .i64 1, .int .i64 32, .int .i64 96, .int .i64 97, .int .i64 2, .int .i64 3, .int .i64 4, .int .i64 12, .int .i64 20, .int .i64 28, .int .i64 36, .int .i64 44, .int .i64 52, .int .i64 60, .int .i64 68, .int .i64 76, .int .i64 84, .int .i64 92, .int .i64 164, .int .i64 172, .int .i64 100, .int .i64 108, .int .i64 116, .int .i64 124, .int .i64 132, .int .i64 7, .int .i64 135, .int .i64 5, .int .i64 21, .int .i64 29, .int .i64 37, .int .i64 45, .int .i64 53, .int .i64 61, .int .i64 69, .int .i64 77, .int .i64 6, .int .i64 22]) (ok := fun _ => True) (okp := fun _ => True) ?hr ?hp (fun _ hk => hk) trivial (Below.refl _ _) (Nat.le_refl _) (by simp) ?_; (case hd => rfl); (case hg => rfl); (case hr => first | (go_simp; done) | (go_simp; rfl)); (case hp => exact (Reps.one (show Kd.M (Kd.int .i64) _ _ _ 0 [.int .i64 0] from rfl) (Reps.one (show Kd.M (Kd.int .i64) _ _ _ 1 [.int .i64 1] from rfl) (Reps.one (show Kd.M (Kd.int .i64) _ _ _ 32 [.int .i64 32] from rfl) (Reps.one (show Kd.M (Kd.int .i64) _ _ _ 96 [.int .i64 96] from rfl) (Reps.one (show Kd.M (Kd.int .i64) _ _ _ 97 [.int .i64 97] from rfl) (Reps.one (show Kd.M (Kd.int .i64) _ _ _ 2 [.int .i64 2] from rfl) (Reps.one (show Kd.M (Kd.int .i64) _ _ _ 3 [.int .i64 3] from rfl) (Reps.one (show Kd.M (Kd.int .i64) _ _ _ 4 [.int .i64 4] from rfl) (Reps.one (show Kd.M (Kd.int .i64) _ _ _ 12 [.int .i64 12] from rfl) (Reps.one (show Kd.M (Kd.int .i64) _ _ _ 20 [.int .i64 20] from rfl) (Reps.one (show Kd.M (Kd.int .i64) _ _ _ 28 [.int .i64 28] from rfl) (Reps.one (show Kd.M (Kd.int .i64) _ _ _ 36 [.int .i64 36] from rfl) (Reps.one (show Kd.M (Kd.int .i64) _ _ _ 44 [.int .i64 44] from rfl) (Reps.one (show Kd.M (Kd.int .i64) _ _ _ 52 [.int .i64 52] from rfl) (Reps.one (show Kd.M (Kd.int .i64) _ _ _ 60 [.int .i64 60] from rfl) (Reps.one (show Kd.M (Kd.int .i64) _ _ _ 68 [.int .i64 68] from rfl) (Reps.one (show Kd.M (Kd.int .i64) _ _ _ 76 [.int .i64 76] from rfl) (Reps.one (show Kd.M (Kd.int .i64) _ _ _ 84 [.int .i64 84] from rfl) (Reps.one (show Kd.M (Kd.int .i64) _ _ _ 92 [.int .i64 92] from rfl) (Reps.one (show Kd.M (Kd.int .i64) _ _ _ 164 [.int .i64 164] from rfl) (Reps.one (show Kd.M (Kd.int .i64) _ _ _ 172 [.int .i64 172] from rfl) (Reps.one (show Kd.M (Kd.int .i64) _ _ _ 100 [.int .i64 100] from rfl) (Reps.one (show Kd.M (Kd.int .i64) _ _ _ 108 [.int .i64 108] from rfl) (Reps.one (show Kd.M (Kd.int .i64) _ _ _ 116 [.int .i64 116] from rfl) (Reps.one (show Kd.M (Kd.int .i64) _ _ _ 124 [.int .i64 124] from rfl) (Reps.one (show Kd.M (Kd.int .i64) _ _ _ 132 [.int .i64 132] from rfl) (Reps.one (show Kd.M (Kd.int .i64) _ _ _ 7 [.int .i64 7] from rfl) (Reps.one (show Kd.M (Kd.int .i64) _ _ _ 135 [.int .i64 135] from rfl) (Reps.one (show Kd.M (Kd.int .i64) _ _ _ 5 [.int .i64 5] from rfl) (Reps.one (show Kd.M (Kd.int .i64) _ _ _ 21 [.int .i64 21] from rfl) (Reps.one (show Kd.M (Kd.int .i64) _ _ _ 29 [.int .i64 29] from rfl) (Reps.one (show Kd.M (Kd.int .i64) _ _ _ 37 [.int .i64 37] from rfl) (Reps.one (show Kd.M (Kd.int .i64) _ _ _ 45 [.int .i64 45] from rfl) (Reps.one (show Kd.M (Kd.int .i64) _ _ _ 53 [.int .i64 53] from rfl) (Reps.one (show Kd.M (Kd.int .i64) _ _ _ 61 [.int .i64 61] from rfl) (Reps.one (show Kd.M (Kd.int .i64) _ _ _ 69 [.int .i64 69] from rfl) (Reps.one (show Kd.M (Kd.int .i64) _ _ _ 77 [.int .i64 77] from rfl) (Reps.one (show Kd.M (Kd.int .i64) _ _ _ 6 [.int .i64 6] from rfl) (Reps.one (show Kd.M (Kd.int .i64) _ _ _ 22 [.int .i64 22] from rfl) (Reps.none _ _))))))))))))))))))))))))))))))))))))))))); intro v167 w1 ho2 hb hg_ hnew_; clear hg_ hnew_; (first | rw [← Ny166.out] at ho2 | (simp only [Int.reduceToNat] at ho2; rw [← Ny166.out] at ho2)); have HO168 := Za.mk (Kd.Zbi ho2 (Zas (by repeat (first | (with_reducible first | exact HB.out | apply Ze | apply Zf | apply Zd) | exact HB.out)))); replace HB := Za.mk (Zai (by repeat (first | (with_reducible first | exact HB.out | apply Ze | apply Zf | apply Zd) | exact HB.out)) hb); clear hb ho2))
 go_ret
 exact ⟨_, by first | rfl | (simp [Zo, Zp] <;> rfl) | (simp [*, Zo, Zp] <;> rfl), by (with_reducible repeat (first | apply Kd.Zs | apply Kd.Zt | apply Kd.Zr)); exact HO168.out, by repeat (first | (with_reducible first | exact HB.out | apply Ze | apply Zf | apply Zd) | exact HB.out)⟩
def Zbr.l0 : Nat → Int → List Int → Int → Option (Bool)
  | 0, _, _, _ => none
  | k + 1, x0, x3, x4 => if x4 < (x3.length : Int) then (if 0 ≤ x4 then (if (rd x3 x4) = x0 then (some true) else (Zbr.l0 k x0 x3 (wrap64 (x4 + 1)))) else (none)) else (some false)
def Zbr.f (k : Nat) (a0 : Int) : Option (Bool) := (spec_l1codes.f).bind fun t169 => (Zbr.l0 k a0 t169 0)
set_option maxHeartbeats 8000000 in
set_option maxRecDepth 100000 in
theorem Zbr.calls (k : Nat) (a0 : Int) (r : Bool) (w : World) (h : Zbr.f k a0 = some r) :
  Calls Try.prog 61 #[.int .i64 a0] w fun e w' => e = .returned (.bool r) ∧ Below w.heap.size w w' := by
 have HB := Za.mk (Below.refl w.heap.size w)
 have H : ((spec_l1codes.f).bind fun t169 => (Zbr.l0 k a0 t169 0)) = some r := h
 clear h
 replace H := Option.bind_eq_some_iff.mp H
 obtain ⟨t169, A20, H⟩ := H
 (try dsimp only at H)
 have A2 := Za.mk A20
 clear A20
 have H' := Za.mk H
 clear H
 go_enter Try.func61, Try.ntmps61
 go_wp2_with (first | ((with_reducible refine Zaf (f := 72) rfl ?_); refine Zae (some 5) rfl rfl Try.func72 (by kernel_rfl) rfl #[] rfl (by (try simp only [ZA, ZB, ZC]); first | done | rfl) ?_; (with_reducible refine (spec_l1codes.calls  t169 _ A2.out).mono ?_); rintro e w3 ⟨v170, rfl, ho0, hb⟩; refine ⟨_, rfl, ?_⟩; have HO171 := Za.mk (Kd.Zbi ho0 (Zas (by repeat (first | (with_reducible first | exact HB.out | apply Ze | apply Zf | apply Zd) | exact HB.out)))); replace HB := Za.mk (Zai (by repeat (first | (with_reducible first | exact HB.out | apply Ze | apply Zf | apply Zd) | exact HB.out)) hb); (try clear hb); (try clear hb2); (try clear hk); (try clear hi); (try clear ho0)))
 go_loopg [4] k (fun kq v4 w' => ∃ (x4_1 : Int), v4 = .int .i64 x4_1 ∧ Za (Zbr.l0 kq a0 t169 x4_1 = some r) ∧ Za (kq ≤ k) ∧ Za (Kd.R (Kd.int .i64) 3 w' w.heap.size (fun _ => True) v170 t169) ∧ Za (Below w.heap.size w w'))
 case atStart => exact ⟨(0), (by first | rfl | (simp; done) | (simp [*]; done)), H', ⟨Nat.le_refl _⟩, ⟨by (with_reducible repeat (first | apply Kd.Zs | apply Kd.Zt | apply Kd.Zr)); exact HO171.out⟩, ⟨by repeat (first | (with_reducible first | exact HB.out | apply Ze | apply Zf | apply Zd) | exact HB.out)⟩⟩
 case round =>
  clear H'
  try clear p2
  obtain ⟨x4_1, rfl, HA, HK1, HO_3, HB⟩ := hrel
  cases gk with
  | zero => exact absurd HA.out (by simp [Zbr.l0])
  | succ k1 =>
   have H := HA.out
   clear HA
   simp only [Zbr.l0] at H
   by_cases c4 : x4_1 < (t169.length : Int)
   ·rw [if_pos c4] at H
    have c4b0 : decide (x4_1 < (t169.length : Int)) = true := decide_eq_true c4
    clear c4
    by_cases c5 : 0 ≤ x4_1
    ·rw [if_pos c5] at H
     have c5b0 : decide (0 ≤ x4_1) = true := decide_eq_true c5
     clear c5
     by_cases c6 : (rd t169 x4_1) = a0
     ·rw [if_pos c6] at H
      have c6b0 : ((rd t169 x4_1) == a0) = true := beq_iff_eq.mpr c6
      have c6b1 : ((rd t169 x4_1) != a0) = false := bne_eq_false_iff_eq.mpr c6
      clear c6
      obtain rfl := Option.some.inj H
      obtain ⟨Ao7, co7, eo7⟩ := Kd.Zbf HO_3.out
      subst eo7
      have p172 : 0 ≤ (x4_1 : Int) := of_decide_eq_true (by assumption)
      have q172 : x4_1 < (t169.length : Int) := of_decide_eq_true (by assumption)
      obtain ⟨ad172, e172, hx172_0⟩ := Kd.at_int (Kd.Zag HO_3.out).2.2 x4_1 p172 q172
      cases e172
      replace p172 := eq_true p172
      replace q172 := eq_true q172
      go_wp2
      go_ret
      exact ⟨by first | rfl | (simp [Zo, Zp] <;> rfl) | (simp [*, Zo, Zp] <;> rfl), by repeat (first | (with_reducible first | exact HB.out | apply Ze | apply Zf | apply Zd) | exact HB.out)⟩
     ·rw [if_neg c6] at H
      have c6b0 : ((rd t169 x4_1) == a0) = false := beq_eq_false_iff_ne.mpr c6
      have c6b1 : ((rd t169 x4_1) != a0) = true := bne_iff_ne.mpr c6
      have H' := Za.mk H
      clear H
      obtain ⟨Ao8, co8, eo8⟩ := Kd.Zbf HO_3.out
      subst eo8
      have p172 : 0 ≤ (x4_1 : Int) := of_decide_eq_true (by assumption)
      have q172 : x4_1 < (t169.length : Int) := of_decide_eq_true (by assumption)
      obtain ⟨ad172, e172, hx172_0⟩ := Kd.at_int (Kd.Zag HO_3.out).2.2 x4_1 p172 q172
      cases e172
      replace p172 := eq_true p172
      replace q172 := eq_true q172
      go_wp2
      go_roundg k1
      case measure => have := HK1.out; omega
      case rel => exact ⟨(wrap64 (x4_1 + 1)), (by first | rfl | (simp; done) | (simp [*]; done)), H', ⟨by have := HK1.out; omega⟩, ⟨by (with_reducible repeat (first | apply Kd.Zs | apply Kd.Zt | apply Kd.Zr)); exact HO_3.out⟩, ⟨by repeat (first | (with_reducible first | exact HB.out | apply Ze | apply Zf | apply Zd) | exact HB.out)⟩⟩
    ·rw [if_neg c5] at H
     exact absurd H (by simp)
   ·rw [if_neg c4] at H
    have c4b0 : decide (x4_1 < (t169.length : Int)) = false := decide_eq_false c4
    clear c4
    obtain rfl := Option.some.inj H
    obtain ⟨Ao9, co9, eo9⟩ := Kd.Zbf HO_3.out
    subst eo9
    go_wp2
    go_ret
    exact ⟨by first | rfl | (simp [Zo, Zp] <;> rfl) | (simp [*, Zo, Zp] <;> rfl), by repeat (first | (with_reducible first | exact HB.out | apply Ze | apply Zf | apply Zd) | exact HB.out)⟩
def Zcd.f (k : Nat) (a0 : Int) : Option (Bool) := (Zbr.f k a0).bind fun t173 => (if t173 = true then (if (Int.tmod a0 8) = 5 then (some (a0 != 5)) else (some false)) else (some false))
set_option maxHeartbeats 8000000 in
set_option maxRecDepth 100000 in
theorem Zcd.calls (k : Nat) (a0 : Int) (r : Bool) (w : World) (h : Zcd.f k a0 = some r) :
  Calls Try.prog 62 #[.int .i64 a0] w fun e w' => e = .returned (.bool r) ∧ Below w.heap.size w w' := by
 have HB := Za.mk (Below.refl w.heap.size w)
 have H : ((Zbr.f k a0).bind fun t173 => (if t173 = true then (if (Int.tmod a0 8) = 5 then (some (a0 != 5)) else (some false)) else (some false))) = some r := h
 clear h
 replace H := Option.bind_eq_some_iff.mp H
 obtain ⟨t173, A20, H⟩ := H
 (try dsimp only at H)
 have A2 := Za.mk A20
 clear A20
 by_cases c3 : t173 = true
 ·subst c3
  have H1 : (if (Int.tmod a0 8) = 5 then (some (a0 != 5)) else (some false)) = some r := by rw [if_pos rfl] at H; exact H
  clear H
  have H := H1
  clear H1
  by_cases c4 : (Int.tmod a0 8) = 5
  ·rw [if_pos c4] at H
   have c4b0 : ((Int.tmod a0 8) == 5) = true := beq_iff_eq.mpr c4
   have c4b1 : ((Int.tmod a0 8) != 5) = false := bne_eq_false_iff_eq.mpr c4
   clear c4
   obtain rfl := Option.some.inj H
   go_enter Try.func62, Try.ntmps62
   go_wp2_with (first | ((with_reducible refine Zaf (f := 61) rfl ?_); refine Zae (some 4) rfl rfl Try.func61 (by kernel_rfl) rfl #[.int .i64 a0] rfl (by (try simp only [ZA, ZB, ZC]); first | done | rfl) ?_; (with_reducible refine (Zbr.calls k a0 true _ A2.out).mono ?_); rintro e w5 ⟨rfl, hb⟩; refine ⟨_, rfl, ?_⟩; replace HB := Za.mk (Zai (by repeat (first | (with_reducible first | exact HB.out | apply Ze | apply Zf | apply Zd) | exact HB.out)) hb); (try clear hb); (try clear hb2); (try clear hk); (try clear hi)))
   go_ret
   exact ⟨by first | rfl | (simp [Zo, Zp] <;> rfl) | (simp [*, Zo, Zp] <;> rfl), by repeat (first | (with_reducible first | exact HB.out | apply Ze | apply Zf | apply Zd) | exact HB.out)⟩
  ·rw [if_neg c4] at H
   have c4b0 : ((Int.tmod a0 8) == 5) = false := beq_eq_false_iff_ne.mpr c4
   have c4b1 : ((Int.tmod a0 8) != 5) = true := bne_iff_ne.mpr c4
   obtain rfl := Option.some.inj H
   go_enter Try.func62, Try.ntmps62
   go_wp2_with (first | ((with_reducible refine Zaf (f := 61) rfl ?_); refine Zae (some 4) rfl rfl Try.func61 (by kernel_rfl) rfl #[.int .i64 a0] rfl (by (try simp only [ZA, ZB, ZC]); first | done | rfl) ?_; (with_reducible refine (Zbr.calls k a0 true _ A2.out).mono ?_); rintro e w6 ⟨rfl, hb⟩; refine ⟨_, rfl, ?_⟩; replace HB := Za.mk (Zai (by repeat (first | (with_reducible first | exact HB.out | apply Ze | apply Zf | apply Zd) | exact HB.out)) hb); (try clear hb); (try clear hb2); (try clear hk); (try clear hi)))
   go_ret
   exact ⟨by first | rfl | (simp [Zo, Zp] <;> rfl) | (simp [*, Zo, Zp] <;> rfl), by repeat (first | (with_reducible first | exact HB.out | apply Ze | apply Zf | apply Zd) | exact HB.out)⟩
 ·replace c3 := Bool.eq_false_iff.mpr c3
  subst c3
  have H1 : (some false) = some r := by rw [if_neg (show ¬ (false = true) by decide)] at H; exact H
  clear H
  have H := H1
  clear H1
  obtain rfl := Option.some.inj H
  go_enter Try.func62, Try.ntmps62
  go_wp2_with (first | ((with_reducible refine Zaf (f := 61) rfl ?_); refine Zae (some 4) rfl rfl Try.func61 (by kernel_rfl) rfl #[.int .i64 a0] rfl (by (try simp only [ZA, ZB, ZC]); first | done | rfl) ?_; (with_reducible refine (Zbr.calls k a0 false _ A2.out).mono ?_); rintro e w7 ⟨rfl, hb⟩; refine ⟨_, rfl, ?_⟩; replace HB := Za.mk (Zai (by repeat (first | (with_reducible first | exact HB.out | apply Ze | apply Zf | apply Zd) | exact HB.out)) hb); (try clear hb); (try clear hb2); (try clear hk); (try clear hi)))
  go_ret
  exact ⟨by first | rfl | (simp [Zo, Zp] <;> rfl) | (simp [*, Zo, Zp] <;> rfl), by repeat (first | (with_reducible first | exact HB.out | apply Ze | apply Zf | apply Zd) | exact HB.out)⟩
mutual
def Zal.j0 : Nat → List (S54) → Int → Int → Int → Int → Bool → Option (Int)
  | 0, _, _, _, _, _, _ => none
  | k + 1, x0, x1, x5, x6, x7, x35 => if x35 = true then (some 3) else (if x6 = 96 then (Zal.j1 k x0 x1 x5 x6 x7 (decide (x7 ≥ 16))) else (if x6 = 97 then (Zal.j1 k x0 x1 x5 x6 x7 (decide (x7 ≥ 16))) else (if x6 = 2 then (Zal.j1 k x0 x1 x5 x6 x7 (decide (x7 ≥ 16))) else (if x6 = 3 then (Zal.j1 k x0 x1 x5 x6 x7 (decide (x7 ≥ 16))) else (Zal.j1 k x0 x1 x5 x6 x7 false)))))
def Zal.j1 : Nat → List (S54) → Int → Int → Int → Int → Bool → Option (Int)
  | 0, _, _, _, _, _, _ => none
  | k + 1, x0, x1, x5, x6, x7, x53 => if x53 = true then (some 4) else (if x6 = 5 then (Zal.j2 k x0 x1 x5 x6 x7 (decide ((wrap64 ((wrap64 (x1 + 1)) + x7)) ≥ x5))) else (Zal.j2 k x0 x1 x5 x6 x7 false))
def Zal.j2 : Nat → List (S54) → Int → Int → Int → Int → Bool → Option (Int)
  | 0, _, _, _, _, _, _ => none
  | k + 1, x0, x1, x5, x6, x7, x63 => if x63 = true then (some 5) else ((Zcd.f k x6).bind fun t321 => (if t321 = true then (if 0 ≤ x1 then (if x1 < (x0.length : Int) then (if (wrap64 ((wrap64 (x1 + 1)) + (wrap64 ((Zb x0 x1).f1)))) ≥ x5 then (Zal.j3 k x1 x5 x6 x7 true) else (Zal.j3 k x1 x5 x6 x7 (decide ((wrap64 ((wrap64 (x1 + 1)) + (wrap64 ((Zb x0 x1).f2)))) ≥ x5)))) else (none)) else (none)) else (Zal.j3 k x1 x5 x6 x7 false)))
def Zal.j3 : Nat → Int → Int → Int → Int → Bool → Option (Int)
  | 0, _, _, _, _, _ => none
  | k + 1, x1, x5, x6, x7, x91 => if x91 = true then (some 5) else (if x6 = 52 then (Zal.j4 k x1 x5 x6 x7 (x7 == 0)) else (Zal.j4 k x1 x5 x6 x7 false))
def Zal.j4 : Nat → Int → Int → Int → Int → Bool → Option (Int)
  | 0, _, _, _, _, _ => none
  | k + 1, x1, x5, x6, x7, x97 => if x97 = true then (some 6) else (if x6 = 100 then (Zal.j5 k x1 x5 x6 (decide (x7 ≥ 32))) else (if x6 = 116 then (Zal.j5 k x1 x5 x6 (decide (x7 ≥ 32))) else (Zal.j5 k x1 x5 x6 false)))
def Zal.j5 : Nat → Int → Int → Int → Bool → Option (Int)
  | 0, _, _, _, _ => none
  | k + 1, x1, x5, x6, x107 => if x107 = true then (some 6) else (if x1 = (wrap64 (x5 - 1)) then (if x6 = 6 then (some 0) else (if x6 = 22 then (some 0) else (some 7))) else (some 0))
end
def Zal.f (k : Nat) (l0 : List (S54)) (a1 : Int) : Option (Int) := if 0 ≤ a1 then (if a1 < (l0.length : Int) then ((Zbr.f k (wrap64 ((Zb l0 a1).f0))).bind fun t320 => (if t320 = true then (if (wrap64 ((Zb l0 a1).f0)) = 32 then (if (Int.tmod (wrap64 ((Zb l0 a1).f3)) 4) = 0 then (Zal.j0 k l0 a1 (l0.length : Int) (wrap64 ((Zb l0 a1).f0)) (wrap64 ((Zb l0 a1).f3)) (decide ((wrap64 ((Zb l0 a1).f3)) > 60))) else (Zal.j0 k l0 a1 (l0.length : Int) (wrap64 ((Zb l0 a1).f0)) (wrap64 ((Zb l0 a1).f3)) true)) else (Zal.j0 k l0 a1 (l0.length : Int) (wrap64 ((Zb l0 a1).f0)) (wrap64 ((Zb l0 a1).f3)) false)) else (some 2))) else (none)) else (none)
set_option maxHeartbeats 8000000 in
set_option maxRecDepth 100000 in
theorem Zal.calls (k : Nat) (A0 : Option Addr) (c0 : Nat) (l0 : List (S54)) (a1 : Int) (r : Int) (w : World) (hr0 : Kd.C k54 w A0 l0.length l0) (hc0 : l0.length ≤ c0) (h : Zal.f k l0 a1 = some r) :
  Calls Try.prog 45 #[.slice A0 l0.length c0, .int .i64 a1] w fun e w' => e = .returned (.int .i64 r) ∧ Below w.heap.size w w' := by
 have HR0 := Za.mk hr0
 have HC0 := Za.mk hc0
 clear hr0 hc0
 have HB := Za.mk (Below.refl w.heap.size w)
 have H := h
 unfold Zal.f at H
 clear h
 by_cases c3 : 0 ≤ a1
 ·rw [if_pos c3] at H
  have c3b0 : decide (0 ≤ a1) = true := decide_eq_true c3
  clear c3
  by_cases c4 : a1 < (l0.length : Int)
  ·rw [if_pos c4] at H
   have c4b0 : decide (a1 < (l0.length : Int)) = true := decide_eq_true c4
   clear c4
   replace H := Option.bind_eq_some_iff.mp H
   obtain ⟨t320, A50, H⟩ := H
   (try dsimp only at H)
   have A5 := Za.mk A50
   clear A50
   by_cases c6 : t320 = true
   ·subst c6
    have H1 : (if (wrap64 ((Zb l0 a1).f0)) = 32 then (if (Int.tmod (wrap64 ((Zb l0 a1).f3)) 4) = 0 then (Zal.j0 k l0 a1 (l0.length : Int) (wrap64 ((Zb l0 a1).f0)) (wrap64 ((Zb l0 a1).f3)) (decide ((wrap64 ((Zb l0 a1).f3)) > 60))) else (Zal.j0 k l0 a1 (l0.length : Int) (wrap64 ((Zb l0 a1).f0)) (wrap64 ((Zb l0 a1).f3)) true)) else (Zal.j0 k l0 a1 (l0.length : Int) (wrap64 ((Zb l0 a1).f0)) (wrap64 ((Zb l0 a1).f3)) false)) = some r := by rw [if_pos rfl] at H; exact H
    clear H
    have H := H1
    clear H1
    have HC7 := Za.mk H
    clear H
    have p318 : 0 ≤ (a1 : Int) := of_decide_eq_true (by assumption)
    have q318 : a1 < (l0.length : Int) := of_decide_eq_true (by assumption)
    obtain ⟨ad318, e318, hx318_0, hx318_1, hx318_2, hx318_3⟩ := at_T54 HR0.out a1 p318 q318
    cases e318
    replace p318 := eq_true p318
    replace q318 := eq_true q318
    have p319 : 0 ≤ (a1 : Int) := of_decide_eq_true (by assumption)
    have q319 : a1 < (l0.length : Int) := of_decide_eq_true (by assumption)
    obtain ⟨ad319, e319, hx319_0, hx319_1, hx319_2, hx319_3⟩ := at_T54 HR0.out a1 p319 q319
    obtain rfl : ad318 = ad319 := (by injection e319)
    replace p319 := eq_true p319
    replace q319 := eq_true q319
    go_enter Try.func45, Try.ntmps45
    go_upto_region 6 with (first | ((with_reducible refine Zaf (f := 61) rfl ?_); refine Zae (some 23) rfl rfl Try.func61 (by kernel_rfl) rfl #[.int .i64 (wrap64 ((Zb l0 a1).f0))] rfl (by (try simp only [ZA, ZB, ZC]); first | done | rfl) ?_; (with_reducible refine (Zbr.calls k (wrap64 ((Zb l0 a1).f0)) true _ A5.out).mono ?_); rintro e w8 ⟨rfl, hb⟩; refine ⟨_, rfl, ?_⟩; replace HB := Za.mk (Zai (by repeat (first | (with_reducible first | exact HB.out | apply Ze | apply Zf | apply Zd) | exact HB.out)) hb); (try clear hb); (try clear hb2); (try clear hk); (try clear hi)))
    (try simp only [Act.put, ZD, ZE, ZF])
    go_cut [35] (fun v35 wc => ∃ (kq : Nat) (x35_6 : Bool), v35 = .bool x35_6 ∧ Za (Zal.j0 kq l0 a1 (l0.length : Int) (wrap64 ((Zb l0 a1).f0)) (wrap64 ((Zb l0 a1).f3)) x35_6 = some r) ∧ Za (kq ≤ k) ∧ Za (Below w.heap.size w wc))
    case first =>
     have H := HC7.out
     clear HC7
     by_cases c9 : (wrap64 ((Zb l0 a1).f0)) = 32
     ·rw [if_pos c9] at H
      have c9b0 : ((wrap64 ((Zb l0 a1).f0)) == 32) = true := beq_iff_eq.mpr c9
      have c9b1 : ((wrap64 ((Zb l0 a1).f0)) != 32) = false := bne_eq_false_iff_eq.mpr c9
      clear c9
      (first | rw [c9b0] | (simp only [Zn, Zq]; rw [c9b0]) | skip)
      by_cases c10 : (Int.tmod (wrap64 ((Zb l0 a1).f3)) 4) = 0
      ·rw [if_pos c10] at H
       have c10b0 : ((Int.tmod (wrap64 ((Zb l0 a1).f3)) 4) == 0) = true := beq_iff_eq.mpr c10
       have c10b1 : ((Int.tmod (wrap64 ((Zb l0 a1).f3)) 4) != 0) = false := bne_eq_false_iff_eq.mpr c10
       clear c10
       have H' := Za.mk H
       clear H
       go_wp2
       go_meet
       case rel => exact ⟨_, (decide ((wrap64 ((Zb l0 a1).f3)) > 60)), (by first | rfl | (simp; done) | (simp [*]; done)), H', ⟨by first | omega | exact Nat.le_refl _⟩, ⟨by repeat (first | (with_reducible first | exact HB.out | apply Ze | apply Zf | apply Zd) | exact HB.out)⟩⟩
      ·rw [if_neg c10] at H
       have c10b0 : ((Int.tmod (wrap64 ((Zb l0 a1).f3)) 4) == 0) = false := beq_eq_false_iff_ne.mpr c10
       have c10b1 : ((Int.tmod (wrap64 ((Zb l0 a1).f3)) 4) != 0) = true := bne_iff_ne.mpr c10
       have H' := Za.mk H
       clear H
       go_wp2
       go_meet
       case rel => exact ⟨_, (true), (by first | rfl | (simp; done) | (simp [*]; done)), H', ⟨by first | omega | exact Nat.le_refl _⟩, ⟨by repeat (first | (with_reducible first | exact HB.out | apply Ze | apply Zf | apply Zd) | exact HB.out)⟩⟩
     ·rw [if_neg c9] at H
      have c9b0 : ((wrap64 ((Zb l0 a1).f0)) == 32) = false := beq_eq_false_iff_ne.mpr c9
      have c9b1 : ((wrap64 ((Zb l0 a1).f0)) != 32) = true := bne_iff_ne.mpr c9
      (first | rw [c9b0] | (simp only [Zn, Zq]; rw [c9b0]) | skip)
      have H' := Za.mk H
      clear H
      go_wp2
      go_meet
      case rel => exact ⟨_, (false), (by first | rfl | (simp; done) | (simp [*]; done)), H', ⟨by first | omega | exact Nat.le_refl _⟩, ⟨by repeat (first | (with_reducible first | exact HB.out | apply Ze | apply Zf | apply Zd) | exact HB.out)⟩⟩
    case rest =>
     clear HC7
     try clear c1
     try clear p2
     try clear c3
     try clear c3b0
     try clear p3
     try clear q3
     try clear hx3
     try clear c4
     try clear c4b0
     try clear c6
     try clear p6
     try clear c9
     try clear c9b0
     try clear c9b1
     try clear c10
     try clear c10b0
     try clear c10b1
     try clear hx318_0
     try clear hx318_1
     try clear hx318_2
     try clear hx318_3
     try clear hx319_0
     try clear hx319_1
     try clear hx319_2
     try clear hx319_3
     try clear p318
     try clear p319
     try clear q318
     try clear q319
     obtain ⟨kq, x35_6, rfl, HA, HJ6, HB⟩ := hcut
     cases kq with
     | zero => exact absurd HA.out (by simp [Zal.j0])
     | succ kj6 =>
      have H := HA.out
      clear HA
      simp only [Zal.j0] at H
      by_cases c11 : x35_6 = true
      ·subst c11
       have H1 : (some 3) = some r := by rw [if_pos rfl] at H; exact H
       clear H
       have H := H1
       clear H1
       obtain rfl := Option.some.inj H
       go_wp2
       go_ret
       exact ⟨by first | rfl | (simp [Zo, Zp] <;> rfl) | (simp [*, Zo, Zp] <;> rfl), by repeat (first | (with_reducible first | exact HB.out | apply Ze | apply Zf | apply Zd) | exact HB.out)⟩
      ·replace c11 := Bool.eq_false_iff.mpr c11
       subst c11
       have H1 : (if (wrap64 ((Zb l0 a1).f0)) = 96 then (Zal.j1 kj6 l0 a1 (l0.length : Int) (wrap64 ((Zb l0 a1).f0)) (wrap64 ((Zb l0 a1).f3)) (decide ((wrap64 ((Zb l0 a1).f3)) ≥ 16))) else (if (wrap64 ((Zb l0 a1).f0)) = 97 then (Zal.j1 kj6 l0 a1 (l0.length : Int) (wrap64 ((Zb l0 a1).f0)) (wrap64 ((Zb l0 a1).f3)) (decide ((wrap64 ((Zb l0 a1).f3)) ≥ 16))) else (if (wrap64 ((Zb l0 a1).f0)) = 2 then (Zal.j1 kj6 l0 a1 (l0.length : Int) (wrap64 ((Zb l0 a1).f0)) (wrap64 ((Zb l0 a1).f3)) (decide ((wrap64 ((Zb l0 a1).f3)) ≥ 16))) else (if (wrap64 ((Zb l0 a1).f0)) = 3 then (Zal.j1 kj6 l0 a1 (l0.length : Int) (wrap64 ((Zb l0 a1).f0)) (wrap64 ((Zb l0 a1).f3)) (decide ((wrap64 ((Zb l0 a1).f3)) ≥ 16))) else (Zal.j1 kj6 l0 a1 (l0.length : Int) (wrap64 ((Zb l0 a1).f0)) (wrap64 ((Zb l0 a1).f3)) false))))) = some r := by rw [if_neg (show ¬ (false = true) by decide)] at H; exact H
       clear H
       have H := H1
       clear H1
       have HC12 := Za.mk H
       clear H
       go_upto_region 8 with (fail)
       go_cut [53] (fun v53 wc => ∃ (kq : Nat) (x53_11 : Bool), v53 = .bool x53_11 ∧ Za (Zal.j1 kq l0 a1 (l0.length : Int) (wrap64 ((Zb l0 a1).f0)) (wrap64 ((Zb l0 a1).f3)) x53_11 = some r) ∧ Za (kq ≤ kj6) ∧ Za (Below w.heap.size w wc))
       case first =>
        have H := HC12.out
        clear HC12
        by_cases c13 : (wrap64 ((Zb l0 a1).f0)) = 96
        ·rw [if_pos c13] at H
         have c13b0 : ((wrap64 ((Zb l0 a1).f0)) == 96) = true := beq_iff_eq.mpr c13
         have c13b1 : ((wrap64 ((Zb l0 a1).f0)) != 96) = false := bne_eq_false_iff_eq.mpr c13
         clear c13
         (first | rw [c13b0] | (simp only [Zn, Zq]; rw [c13b0]) | skip)
         have H' := Za.mk H
         clear H
         go_wp2
         go_meet
         case rel => exact ⟨_, (decide ((wrap64 ((Zb l0 a1).f3)) ≥ 16)), (by first | rfl | (simp; done) | (simp [*]; done)), H', ⟨by have := HJ6.out; first | omega | exact Nat.le_refl _⟩, ⟨by repeat (first | (with_reducible first | exact HB.out | apply Ze | apply Zf | apply Zd) | exact HB.out)⟩⟩
        ·rw [if_neg c13] at H
         have c13b0 : ((wrap64 ((Zb l0 a1).f0)) == 96) = false := beq_eq_false_iff_ne.mpr c13
         have c13b1 : ((wrap64 ((Zb l0 a1).f0)) != 96) = true := bne_iff_ne.mpr c13
         (first | rw [c13b0] | (simp only [Zn, Zq]; rw [c13b0]) | skip)
         by_cases c14 : (wrap64 ((Zb l0 a1).f0)) = 97
         ·rw [if_pos c14] at H
          have c14b0 : ((wrap64 ((Zb l0 a1).f0)) == 97) = true := beq_iff_eq.mpr c14
          have c14b1 : ((wrap64 ((Zb l0 a1).f0)) != 97) = false := bne_eq_false_iff_eq.mpr c14
          clear c14
          have H' := Za.mk H
          clear H
          go_wp2
          go_meet
          case rel => exact ⟨_, (decide ((wrap64 ((Zb l0 a1).f3)) ≥ 16)), (by first | rfl | (simp; done) | (simp [*]; done)), H', ⟨by have := HJ6.out; first | omega | exact Nat.le_refl _⟩, ⟨by repeat (first | (with_reducible first | exact HB.out | apply Ze | apply Zf | apply Zd) | exact HB.out)⟩⟩
         ·rw [if_neg c14] at H
          have c14b0 : ((wrap64 ((Zb l0 a1).f0)) == 97) = false := beq_eq_false_iff_ne.mpr c14
          have c14b1 : ((wrap64 ((Zb l0 a1).f0)) != 97) = true := bne_iff_ne.mpr c14
          by_cases c15 : (wrap64 ((Zb l0 a1).f0)) = 2
          ·rw [if_pos c15] at H
           have c15b0 : ((wrap64 ((Zb l0 a1).f0)) == 2) = true := beq_iff_eq.mpr c15
           have c15b1 : ((wrap64 ((Zb l0 a1).f0)) != 2) = false := bne_eq_false_iff_eq.mpr c15
           clear c15
           have H' := Za.mk H
           clear H
           go_wp2
           go_meet
           case rel => exact ⟨_, (decide ((wrap64 ((Zb l0 a1).f3)) ≥ 16)), (by first | rfl | (simp; done) | (simp [*]; done)), H', ⟨by have := HJ6.out; first | omega | exact Nat.le_refl _⟩, ⟨by repeat (first | (with_reducible first | exact HB.out | apply Ze | apply Zf | apply Zd) | exact HB.out)⟩⟩
          ·rw [if_neg c15] at H
           have c15b0 : ((wrap64 ((Zb l0 a1).f0)) == 2) = false := beq_eq_false_iff_ne.mpr c15
           have c15b1 : ((wrap64 ((Zb l0 a1).f0)) != 2) = true := bne_iff_ne.mpr c15
           by_cases c16 : (wrap64 ((Zb l0 a1).f0)) = 3
           ·rw [if_pos c16] at H
            have c16b0 : ((wrap64 ((Zb l0 a1).f0)) == 3) = true := beq_iff_eq.mpr c16
            have c16b1 : ((wrap64 ((Zb l0 a1).f0)) != 3) = false := bne_eq_false_iff_eq.mpr c16
            clear c16
            have H' := Za.mk H
            clear H
            go_wp2
            go_meet
            case rel => exact ⟨_, (decide ((wrap64 ((Zb l0 a1).f3)) ≥ 16)), (by first | rfl | (simp; done) | (simp [*]; done)), H', ⟨by have := HJ6.out; first | omega | exact Nat.le_refl _⟩, ⟨by repeat (first | (with_reducible first | exact HB.out | apply Ze | apply Zf | apply Zd) | exact HB.out)⟩⟩
           ·rw [if_neg c16] at H
            have c16b0 : ((wrap64 ((Zb l0 a1).f0)) == 3) = false := beq_eq_false_iff_ne.mpr c16
            have c16b1 : ((wrap64 ((Zb l0 a1).f0)) != 3) = true := bne_iff_ne.mpr c16
            have H' := Za.mk H
            clear H
            go_wp2
            go_meet
            case rel => exact ⟨_, (false), (by first | rfl | (simp; done) | (simp [*]; done)), H', ⟨by have := HJ6.out; first | omega | exact Nat.le_refl _⟩, ⟨by repeat (first | (with_reducible first | exact HB.out | apply Ze | apply Zf | apply Zd) | exact HB.out)⟩⟩
       case rest =>
        clear HC12
        try clear c1
        try clear p2
        try clear c3
        try clear c3b0
        try clear p3
        try clear q3
        try clear hx3
        try clear c4
        try clear c4b0
        try clear c6
        try clear p6
        try clear c9
        try clear c9b0
        try clear c9b1
        try clear c10
        try clear c10b0
        try clear c10b1
        try clear c11
        try clear c13
        try clear c13b0
        try clear c13b1
        try clear c14
        try clear c14b0
        try clear c14b1
        try clear c15
        try clear c15b0
        try clear c15b1
        try clear c16
        try clear c16b0
        try clear c16b1
        try clear hx318_0
        try clear hx318_1
        try clear hx318_2
        try clear hx318_3
        try clear hx319_0
        try clear hx319_1
        try clear hx319_2
        try clear hx319_3
        try clear p2
        try clear p3
        try clear p318
        try clear p319
        try clear p6
        try clear q3
        try clear q318
        try clear q319
        obtain ⟨kq, x53_11, rfl, HA, HJ11, HB⟩ := hcut
        cases kq with
        | zero => exact absurd HA.out (by simp [Zal.j1])
        | succ kj11 =>
         have H := HA.out
         clear HA
         simp only [Zal.j1] at H
         by_cases c17 : x53_11 = true
         ·subst c17
          have H1 : (some 4) = some r := by rw [if_pos rfl] at H; exact H
          clear H
          have H := H1
          clear H1
          obtain rfl := Option.some.inj H
          go_wp2
          go_ret
          exact ⟨by first | rfl | (simp [Zo, Zp] <;> rfl) | (simp [*, Zo, Zp] <;> rfl), by repeat (first | (with_reducible first | exact HB.out | apply Ze | apply Zf | apply Zd) | exact HB.out)⟩
         ·replace c17 := Bool.eq_false_iff.mpr c17
          subst c17
          have H1 : (if (wrap64 ((Zb l0 a1).f0)) = 5 then (Zal.j2 kj11 l0 a1 (l0.length : Int) (wrap64 ((Zb l0 a1).f0)) (wrap64 ((Zb l0 a1).f3)) (decide ((wrap64 ((wrap64 (a1 + 1)) + (wrap64 ((Zb l0 a1).f3)))) ≥ (l0.length : Int)))) else (Zal.j2 kj11 l0 a1 (l0.length : Int) (wrap64 ((Zb l0 a1).f0)) (wrap64 ((Zb l0 a1).f3)) false)) = some r := by rw [if_neg (show ¬ (false = true) by decide)] at H; exact H
          clear H
          have H := H1
          clear H1
          have HC18 := Za.mk H
          clear H
          go_upto_region 10 with (fail)
          go_cut [63] (fun v63 wc => ∃ (kq : Nat) (x63_17 : Bool), v63 = .bool x63_17 ∧ Za (Zal.j2 kq l0 a1 (l0.length : Int) (wrap64 ((Zb l0 a1).f0)) (wrap64 ((Zb l0 a1).f3)) x63_17 = some r) ∧ Za (kq ≤ kj11) ∧ Za (Below w.heap.size w wc))
          case first =>
           have H := HC18.out
           clear HC18
           by_cases c19 : (wrap64 ((Zb l0 a1).f0)) = 5
           ·rw [if_pos c19] at H
            have c19b0 : ((wrap64 ((Zb l0 a1).f0)) == 5) = true := beq_iff_eq.mpr c19
            have c19b1 : ((wrap64 ((Zb l0 a1).f0)) != 5) = false := bne_eq_false_iff_eq.mpr c19
            clear c19
            (first | rw [c19b0] | (simp only [Zn, Zq]; rw [c19b0]) | skip)
            have H' := Za.mk H
            clear H
            go_wp2
            go_meet
            case rel => exact ⟨_, (decide ((wrap64 ((wrap64 (a1 + 1)) + (wrap64 ((Zb l0 a1).f3)))) ≥ (l0.length : Int))), (by first | rfl | (simp; done) | (simp [*]; done)), H', ⟨by have := HJ6.out; have := HJ11.out; first | omega | exact Nat.le_refl _⟩, ⟨by repeat (first | (with_reducible first | exact HB.out | apply Ze | apply Zf | apply Zd) | exact HB.out)⟩⟩
           ·rw [if_neg c19] at H
            have c19b0 : ((wrap64 ((Zb l0 a1).f0)) == 5) = false := beq_eq_false_iff_ne.mpr c19
            have c19b1 : ((wrap64 ((Zb l0 a1).f0)) != 5) = true := bne_iff_ne.mpr c19
            (first | rw [c19b0] | (simp only [Zn, Zq]; rw [c19b0]) | skip)
            have H' := Za.mk H
            clear H
            go_wp2
            go_meet
            case rel => exact ⟨_, (false), (by first | rfl | (simp; done) | (simp [*]; done)), H', ⟨by have := HJ6.out; have := HJ11.out; first | omega | exact Nat.le_refl _⟩, ⟨by repeat (first | (with_reducible first | exact HB.out | apply Ze | apply Zf | apply Zd) | exact HB.out)⟩⟩
          case rest =>
           clear HC18
           try clear c1
           try clear p2
           try clear c3
           try clear c3b0
           try clear p3
           try clear q3
           try clear hx3
           try clear c4
           try clear c4b0
           try clear c6
           try clear p6
           try clear c9
           try clear c9b0
           try clear c9b1
           try clear c10
           try clear c10b0
           try clear c10b1
           try clear c11
           try clear c13
           try clear c13b0
           try clear c13b1
           try clear c14
           try clear c14b0
           try clear c14b1
           try clear c15
           try clear c15b0
           try clear c15b1
           try clear c16
           try clear c16b0
           try clear c16b1
           try clear c17
           try clear c19
           try clear c19b0
           try clear c19b1
           try clear hx318_0
           try clear hx318_1
           try clear hx318_2
           try clear hx318_3
           try clear hx319_0
           try clear hx319_1
           try clear hx319_2
           try clear hx319_3
           try clear p2
           try clear p3
           try clear p318
           try clear p319
           try clear p6
           try clear q3
           try clear q318
           try clear q319
           obtain ⟨kq, x63_17, rfl, HA, HJ17, HB⟩ := hcut
           cases kq with
           | zero => exact absurd HA.out (by simp [Zal.j2])
           | succ kj17 =>
            have H := HA.out
            clear HA
            simp only [Zal.j2] at H
            by_cases c20 : x63_17 = true
            ·subst c20
             have H1 : (some 5) = some r := by rw [if_pos rfl] at H; exact H
             clear H
             have H := H1
             clear H1
             obtain rfl := Option.some.inj H
             go_wp2
             go_ret
             exact ⟨by first | rfl | (simp [Zo, Zp] <;> rfl) | (simp [*, Zo, Zp] <;> rfl), by repeat (first | (with_reducible first | exact HB.out | apply Ze | apply Zf | apply Zd) | exact HB.out)⟩
            ·replace c20 := Bool.eq_false_iff.mpr c20
             subst c20
             have H1 : ((Zcd.f kj17 (wrap64 ((Zb l0 a1).f0))).bind fun t321 => (if t321 = true then (if 0 ≤ a1 then (if a1 < (l0.length : Int) then (if (wrap64 ((wrap64 (a1 + 1)) + (wrap64 ((Zb l0 a1).f1)))) ≥ (l0.length : Int) then (Zal.j3 kj17 a1 (l0.length : Int) (wrap64 ((Zb l0 a1).f0)) (wrap64 ((Zb l0 a1).f3)) true) else (Zal.j3 kj17 a1 (l0.length : Int) (wrap64 ((Zb l0 a1).f0)) (wrap64 ((Zb l0 a1).f3)) (decide ((wrap64 ((wrap64 (a1 + 1)) + (wrap64 ((Zb l0 a1).f2)))) ≥ (l0.length : Int))))) else (none)) else (none)) else (Zal.j3 kj17 a1 (l0.length : Int) (wrap64 ((Zb l0 a1).f0)) (wrap64 ((Zb l0 a1).f3)) false))) = some r := by rw [if_neg (show ¬ (false = true) by decide)] at H; exact H
             clear H
             have H := H1
             clear H1
             have HC21 := Za.mk H
             clear H
             go_upto_region 12 with (fail)
             go_cut [91] (fun v91 wc => ∃ (kq : Nat) (x91_20 : Bool), v91 = .bool x91_20 ∧ Za (Zal.j3 kq a1 (l0.length : Int) (wrap64 ((Zb l0 a1).f0)) (wrap64 ((Zb l0 a1).f3)) x91_20 = some r) ∧ Za (kq ≤ kj17) ∧ Za (Below w.heap.size w wc))
             case first =>
              have H := HC21.out
              clear HC21
              replace H := Option.bind_eq_some_iff.mp H
              obtain ⟨t321, A220, H⟩ := H
              (try dsimp only at H)
              have A22 := Za.mk A220
              clear A220
              by_cases c23 : t321 = true
              ·subst c23
               have H1 : (if 0 ≤ a1 then (if a1 < (l0.length : Int) then (if (wrap64 ((wrap64 (a1 + 1)) + (wrap64 ((Zb l0 a1).f1)))) ≥ (l0.length : Int) then (Zal.j3 kj17 a1 (l0.length : Int) (wrap64 ((Zb l0 a1).f0)) (wrap64 ((Zb l0 a1).f3)) true) else (Zal.j3 kj17 a1 (l0.length : Int) (wrap64 ((Zb l0 a1).f0)) (wrap64 ((Zb l0 a1).f3)) (decide ((wrap64 ((wrap64 (a1 + 1)) + (wrap64 ((Zb l0 a1).f2)))) ≥ (l0.length : Int))))) else (none)) else (none)) = some r := by rw [if_pos rfl] at H; exact H
               clear H
               have H := H1
               clear H1
               by_cases c24 : 0 ≤ a1
               ·rw [if_pos c24] at H
                have c24b0 : decide (0 ≤ a1) = true := decide_eq_true c24
                clear c24
                (first | rw [c24b0] | (simp only [Zn, Zq]; rw [c24b0]) | skip)
                by_cases c25 : a1 < (l0.length : Int)
                ·rw [if_pos c25] at H
                 have c25b0 : decide (a1 < (l0.length : Int)) = true := decide_eq_true c25
                 clear c25
                 by_cases c26 : (wrap64 ((wrap64 (a1 + 1)) + (wrap64 ((Zb l0 a1).f1)))) ≥ (l0.length : Int)
                 ·rw [if_pos c26] at H
                  have c26b0 : decide ((l0.length : Int) ≤ (wrap64 ((wrap64 (a1 + 1)) + (wrap64 ((Zb l0 a1).f1))))) = true := decide_eq_true c26
                  clear c26
                  have H' := Za.mk H
                  clear H
                  go_wp2_with (first | ((with_reducible refine Zaf (f := 62) rfl ?_); refine Zae (some 65) rfl rfl Try.func62 (by kernel_rfl) rfl #[.int .i64 (wrap64 ((Zb l0 a1).f0))] rfl (by (try simp only [ZA, ZB, ZC]); first | done | rfl) ?_; (with_reducible refine (Zcd.calls kj17 (wrap64 ((Zb l0 a1).f0)) true _ A22.out).mono ?_); rintro e w27 ⟨rfl, hb⟩; refine ⟨_, rfl, ?_⟩; replace HB := Za.mk (Zai (by repeat (first | (with_reducible first | exact HB.out | apply Ze | apply Zf | apply Zd) | exact HB.out)) hb); (try clear hb); (try clear hb2); (try clear hk); (try clear hi); have p322 : 0 ≤ (a1 : Int) := of_decide_eq_true (by assumption); have q322 : a1 < (l0.length : Int) := of_decide_eq_true (by assumption); obtain ⟨ad322, e322, hx322_0, hx322_1, hx322_2, hx322_3⟩ := at_T54 HR0.out a1 p322 q322; obtain rfl : ad318 = ad322 := (by injection e322); replace hx322_0 := (HB.out.cell (World.block_lt_of_cell? w _ hx322_0)).trans hx322_0; replace hx322_1 := (HB.out.cell (World.block_lt_of_cell? w _ hx322_1)).trans hx322_1; replace hx322_2 := (HB.out.cell (World.block_lt_of_cell? w _ hx322_2)).trans hx322_2; replace hx322_3 := (HB.out.cell (World.block_lt_of_cell? w _ hx322_3)).trans hx322_3; replace p322 := eq_true p322; replace q322 := eq_true q322))
                  go_meet
                  case rel => exact ⟨_, (true), (by first | rfl | (simp; done) | (simp [*]; done)), H', ⟨by have := HJ6.out; have := HJ11.out; have := HJ17.out; first | omega | exact Nat.le_refl _⟩, ⟨by repeat (first | (with_reducible first | exact HB.out | apply Ze | apply Zf | apply Zd) | exact HB.out)⟩⟩
                 ·rw [if_neg c26] at H
                  have c26b0 : decide ((l0.length : Int) ≤ (wrap64 ((wrap64 (a1 + 1)) + (wrap64 ((Zb l0 a1).f1))))) = false := decide_eq_false c26
                  clear c26
                  have H' := Za.mk H
                  clear H
                  go_wp2_with (first | ((with_reducible refine Zaf (f := 62) rfl ?_); refine Zae (some 65) rfl rfl Try.func62 (by kernel_rfl) rfl #[.int .i64 (wrap64 ((Zb l0 a1).f0))] rfl (by (try simp only [ZA, ZB, ZC]); first | done | rfl) ?_; (with_reducible refine (Zcd.calls kj17 (wrap64 ((Zb l0 a1).f0)) true _ A22.out).mono ?_); rintro e w28 ⟨rfl, hb⟩; refine ⟨_, rfl, ?_⟩; replace HB := Za.mk (Zai (by repeat (first | (with_reducible first | exact HB.out | apply Ze | apply Zf | apply Zd) | exact HB.out)) hb); (try clear hb); (try clear hb2); (try clear hk); (try clear hi); have p322 : 0 ≤ (a1 : Int) := of_decide_eq_true (by assumption); have q322 : a1 < (l0.length : Int) := of_decide_eq_true (by assumption); obtain ⟨ad322, e322, hx322_0, hx322_1, hx322_2, hx322_3⟩ := at_T54 HR0.out a1 p322 q322; obtain rfl : ad318 = ad322 := (by injection e322); replace hx322_0 := (HB.out.cell (World.block_lt_of_cell? w _ hx322_0)).trans hx322_0; replace hx322_1 := (HB.out.cell (World.block_lt_of_cell? w _ hx322_1)).trans hx322_1; replace hx322_2 := (HB.out.cell (World.block_lt_of_cell? w _ hx322_2)).trans hx322_2; replace hx322_3 := (HB.out.cell (World.block_lt_of_cell? w _ hx322_3)).trans hx322_3; replace p322 := eq_true p322; replace q322 := eq_true q322; have p323 : 0 ≤ (a1 : Int) := of_decide_eq_true (by assumption); have q323 : a1 < (l0.length : Int) := of_decide_eq_true (by assumption); obtain ⟨ad323, e323, hx323_0, hx323_1, hx323_2, hx323_3⟩ := at_T54 HR0.out a1 p323 q323; obtain rfl : ad318 = ad323 := (by injection e323); replace hx323_0 := (HB.out.cell (World.block_lt_of_cell? w _ hx323_0)).trans hx323_0; replace hx323_1 := (HB.out.cell (World.block_lt_of_cell? w _ hx323_1)).trans hx323_1; replace hx323_2 := (HB.out.cell (World.block_lt_of_cell? w _ hx323_2)).trans hx323_2; replace hx323_3 := (HB.out.cell (World.block_lt_of_cell? w _ hx323_3)).trans hx323_3; replace p323 := eq_true p323; replace q323 := eq_true q323))
                  go_meet
                  case rel => exact ⟨_, (decide ((wrap64 ((wrap64 (a1 + 1)) + (wrap64 ((Zb l0 a1).f2)))) ≥ (l0.length : Int))), (by first | rfl | (simp; done) | (simp [*]; done)), H', ⟨by have := HJ6.out; have := HJ11.out; have := HJ17.out; first | omega | exact Nat.le_refl _⟩, ⟨by repeat (first | (with_reducible first | exact HB.out | apply Ze | apply Zf | apply Zd) | exact HB.out)⟩⟩
                ·rw [if_neg c25] at H
                 exact absurd H (by simp)
               ·rw [if_neg c24] at H
                exact absurd H (by simp)
              ·replace c23 := Bool.eq_false_iff.mpr c23
               subst c23
               have H1 : (Zal.j3 kj17 a1 (l0.length : Int) (wrap64 ((Zb l0 a1).f0)) (wrap64 ((Zb l0 a1).f3)) false) = some r := by rw [if_neg (show ¬ (false = true) by decide)] at H; exact H
               clear H
               have H := H1
               clear H1
               have H' := Za.mk H
               clear H
               go_wp2_with (first | ((with_reducible refine Zaf (f := 62) rfl ?_); refine Zae (some 65) rfl rfl Try.func62 (by kernel_rfl) rfl #[.int .i64 (wrap64 ((Zb l0 a1).f0))] rfl (by (try simp only [ZA, ZB, ZC]); first | done | rfl) ?_; (with_reducible refine (Zcd.calls kj17 (wrap64 ((Zb l0 a1).f0)) false _ A22.out).mono ?_); rintro e w29 ⟨rfl, hb⟩; refine ⟨_, rfl, ?_⟩; replace HB := Za.mk (Zai (by repeat (first | (with_reducible first | exact HB.out | apply Ze | apply Zf | apply Zd) | exact HB.out)) hb); (try clear hb); (try clear hb2); (try clear hk); (try clear hi)))
               go_meet
               case rel => exact ⟨_, (false), (by first | rfl | (simp; done) | (simp [*]; done)), H', ⟨by have := HJ6.out; have := HJ11.out; have := HJ17.out; first | omega | exact Nat.le_refl _⟩, ⟨by repeat (first | (with_reducible first | exact HB.out | apply Ze | apply Zf | apply Zd) | exact HB.out)⟩⟩
             case rest =>
              clear HC21
              try clear c1
              try clear c2
              try clear p2
              try clear c3
              try clear c3b0
              try clear p3
              try clear q3
              try clear hx3
              try clear c4
              try clear c4b0
              try clear c6
              try clear p6
              try clear c9
              try clear c9b0
              try clear c9b1
              try clear c10
              try clear c10b0
              try clear c10b1
              try clear c11
              try clear c13
              try clear c13b0
              try clear c13b1
              try clear c14
              try clear c14b0
              try clear c14b1
              try clear c15
              try clear c15b0
              try clear c15b1
              try clear c16
              try clear c16b0
              try clear c16b1
              try clear c17
              try clear c19
              try clear c19b0
              try clear c19b1
              try clear c20
              try clear c23
              try clear c24
              try clear c24b0
              try clear c25
              try clear c25b0
              try clear c26
              try clear c26b0
              try clear hx318_0
              try clear hx318_1
              try clear hx318_2
              try clear hx318_3
              try clear hx319_0
              try clear hx319_1
              try clear hx319_2
              try clear hx319_3
              try clear hx322_0
              try clear hx322_1
              try clear hx322_2
              try clear hx322_3
              try clear hx323_0
              try clear hx323_1
              try clear hx323_2
              try clear hx323_3
              try clear p2
              try clear p3
              try clear p318
              try clear p319
              try clear p322
              try clear p323
              try clear p6
              try clear q3
              try clear q318
              try clear q319
              try clear q322
              try clear q323
              obtain ⟨kq, x91_20, rfl, HA, HJ20, HB⟩ := hcut
              cases kq with
              | zero => exact absurd HA.out (by simp [Zal.j3])
              | succ kj20 =>
               have H := HA.out
               clear HA
               simp only [Zal.j3] at H
               by_cases c30 : x91_20 = true
               ·subst c30
                have H1 : (some 5) = some r := by rw [if_pos rfl] at H; exact H
                clear H
                have H := H1
                clear H1
                obtain rfl := Option.some.inj H
                go_wp2
                go_ret
                exact ⟨by first | rfl | (simp [Zo, Zp] <;> rfl) | (simp [*, Zo, Zp] <;> rfl), by repeat (first | (with_reducible first | exact HB.out | apply Ze | apply Zf | apply Zd) | exact HB.out)⟩
               ·replace c30 := Bool.eq_false_iff.mpr c30
                subst c30
                have H1 : (if (wrap64 ((Zb l0 a1).f0)) = 52 then (Zal.j4 kj20 a1 (l0.length : Int) (wrap64 ((Zb l0 a1).f0)) (wrap64 ((Zb l0 a1).f3)) ((wrap64 ((Zb l0 a1).f3)) == 0)) else (Zal.j4 kj20 a1 (l0.length : Int) (wrap64 ((Zb l0 a1).f0)) (wrap64 ((Zb l0 a1).f3)) false)) = some r := by rw [if_neg (show ¬ (false = true) by decide)] at H; exact H
                clear H
                have H := H1
                clear H1
                have HC31 := Za.mk H
                clear H
                go_upto_region 14 with (fail)
                go_cut [97] (fun v97 wc => ∃ (kq : Nat) (x97_30 : Bool), v97 = .bool x97_30 ∧ Za (Zal.j4 kq a1 (l0.length : Int) (wrap64 ((Zb l0 a1).f0)) (wrap64 ((Zb l0 a1).f3)) x97_30 = some r) ∧ Za (kq ≤ kj20) ∧ Za (Below w.heap.size w wc))
                case first =>
                 have H := HC31.out
                 clear HC31
                 by_cases c32 : (wrap64 ((Zb l0 a1).f0)) = 52
                 ·rw [if_pos c32] at H
                  have c32b0 : ((wrap64 ((Zb l0 a1).f0)) == 52) = true := beq_iff_eq.mpr c32
                  have c32b1 : ((wrap64 ((Zb l0 a1).f0)) != 52) = false := bne_eq_false_iff_eq.mpr c32
                  clear c32
                  (first | rw [c32b0] | (simp only [Zn, Zq]; rw [c32b0]) | skip)
                  have H' := Za.mk H
                  clear H
                  go_wp2
                  go_meet
                  case rel => exact ⟨_, (((wrap64 ((Zb l0 a1).f3)) == 0)), (by first | rfl | (simp; done) | (simp [*]; done)), H', ⟨by have := HJ6.out; have := HJ11.out; have := HJ17.out; have := HJ20.out; first | omega | exact Nat.le_refl _⟩, ⟨by repeat (first | (with_reducible first | exact HB.out | apply Ze | apply Zf | apply Zd) | exact HB.out)⟩⟩
                 ·rw [if_neg c32] at H
                  have c32b0 : ((wrap64 ((Zb l0 a1).f0)) == 52) = false := beq_eq_false_iff_ne.mpr c32
                  have c32b1 : ((wrap64 ((Zb l0 a1).f0)) != 52) = true := bne_iff_ne.mpr c32
                  (first | rw [c32b0] | (simp only [Zn, Zq]; rw [c32b0]) | skip)
                  have H' := Za.mk H
                  clear H
                  go_wp2
                  go_meet
                  case rel => exact ⟨_, (false), (by first | rfl | (simp; done) | (simp [*]; done)), H', ⟨by have := HJ6.out; have := HJ11.out; have := HJ17.out; have := HJ20.out; first | omega | exact Nat.le_refl _⟩, ⟨by repeat (first | (with_reducible first | exact HB.out | apply Ze | apply Zf | apply Zd) | exact HB.out)⟩⟩
                case rest =>
                 clear HC31
                 try clear c1
                 try clear c2
                 try clear p2
                 try clear c3
                 try clear c3b0
                 try clear p3
                 try clear q3
                 try clear hx3
                 try clear c4
                 try clear c4b0
                 try clear c6
                 try clear p6
                 try clear c9
                 try clear c9b0
                 try clear c9b1
                 try clear c10
                 try clear c10b0
                 try clear c10b1
                 try clear c11
                 try clear c13
                 try clear c13b0
                 try clear c13b1
                 try clear c14
                 try clear c14b0
                 try clear c14b1
                 try clear c15
                 try clear c15b0
                 try clear c15b1
                 try clear c16
                 try clear c16b0
                 try clear c16b1
                 try clear c17
                 try clear c19
                 try clear c19b0
                 try clear c19b1
                 try clear c20
                 try clear c23
                 try clear c24
                 try clear c24b0
                 try clear c25
                 try clear c25b0
                 try clear c26
                 try clear c26b0
                 try clear c30
                 try clear p31
                 try clear q31
                 try clear hx31
                 try clear c32
                 try clear c32b0
                 try clear c32b1
                 try clear p32
                 try clear q32
                 try clear hx32
                 try clear hx318_0
                 try clear hx318_1
                 try clear hx318_2
                 try clear hx318_3
                 try clear hx319_0
                 try clear hx319_1
                 try clear hx319_2
                 try clear hx319_3
                 try clear hx322_0
                 try clear hx322_1
                 try clear hx322_2
                 try clear hx322_3
                 try clear hx323_0
                 try clear hx323_1
                 try clear hx323_2
                 try clear hx323_3
                 try clear p2
                 try clear p3
                 try clear p318
                 try clear p319
                 try clear p322
                 try clear p323
                 try clear p6
                 try clear q3
                 try clear q318
                 try clear q319
                 try clear q322
                 try clear q323
                 obtain ⟨kq, x97_30, rfl, HA, HJ30, HB⟩ := hcut
                 cases kq with
                 | zero => exact absurd HA.out (by simp [Zal.j4])
                 | succ kj30 =>
                  have H := HA.out
                  clear HA
                  simp only [Zal.j4] at H
                  by_cases c33 : x97_30 = true
                  ·subst c33
                   have H1 : (some 6) = some r := by rw [if_pos rfl] at H; exact H
                   clear H
                   have H := H1
                   clear H1
                   obtain rfl := Option.some.inj H
                   go_wp2
                   go_ret
                   exact ⟨by first | rfl | (simp [Zo, Zp] <;> rfl) | (simp [*, Zo, Zp] <;> rfl), by repeat (first | (with_reducible first | exact HB.out | apply Ze | apply Zf | apply Zd) | exact HB.out)⟩
                  ·replace c33 := Bool.eq_false_iff.mpr c33
                   subst c33
                   have H1 : (if (wrap64 ((Zb l0 a1).f0)) = 100 then (Zal.j5 kj30 a1 (l0.length : Int) (wrap64 ((Zb l0 a1).f0)) (decide ((wrap64 ((Zb l0 a1).f3)) ≥ 32))) else (if (wrap64 ((Zb l0 a1).f0)) = 116 then (Zal.j5 kj30 a1 (l0.length : Int) (wrap64 ((Zb l0 a1).f0)) (decide ((wrap64 ((Zb l0 a1).f3)) ≥ 32))) else (Zal.j5 kj30 a1 (l0.length : Int) (wrap64 ((Zb l0 a1).f0)) false))) = some r := by rw [if_neg (show ¬ (false = true) by decide)] at H; exact H
                   clear H
                   have H := H1
                   clear H1
                   have HC34 := Za.mk H
                   clear H
                   go_upto_region 16 with (fail)
                   go_cut [107] (fun v107 wc => ∃ (kq : Nat) (x107_33 : Bool), v107 = .bool x107_33 ∧ Za (Zal.j5 kq a1 (l0.length : Int) (wrap64 ((Zb l0 a1).f0)) x107_33 = some r) ∧ Za (kq ≤ kj30) ∧ Za (Below w.heap.size w wc))
                   case first =>
                    have H := HC34.out
                    clear HC34
                    by_cases c35 : (wrap64 ((Zb l0 a1).f0)) = 100
                    ·rw [if_pos c35] at H
                     have c35b0 : ((wrap64 ((Zb l0 a1).f0)) == 100) = true := beq_iff_eq.mpr c35
                     have c35b1 : ((wrap64 ((Zb l0 a1).f0)) != 100) = false := bne_eq_false_iff_eq.mpr c35
                     clear c35
                     (first | rw [c35b0] | (simp only [Zn, Zq]; rw [c35b0]) | skip)
                     have H' := Za.mk H
                     clear H
                     go_wp2
                     go_meet
                     case rel => exact ⟨_, (decide ((wrap64 ((Zb l0 a1).f3)) ≥ 32)), (by first | rfl | (simp; done) | (simp [*]; done)), H', ⟨by have := HJ6.out; have := HJ11.out; have := HJ17.out; have := HJ20.out; have := HJ30.out; first | omega | exact Nat.le_refl _⟩, ⟨by repeat (first | (with_reducible first | exact HB.out | apply Ze | apply Zf | apply Zd) | exact HB.out)⟩⟩
                    ·rw [if_neg c35] at H
                     have c35b0 : ((wrap64 ((Zb l0 a1).f0)) == 100) = false := beq_eq_false_iff_ne.mpr c35
                     have c35b1 : ((wrap64 ((Zb l0 a1).f0)) != 100) = true := bne_iff_ne.mpr c35
                     (first | rw [c35b0] | (simp only [Zn, Zq]; rw [c35b0]) | skip)
                     by_cases c36 : (wrap64 ((Zb l0 a1).f0)) = 116
                     ·rw [if_pos c36] at H
                      have c36b0 : ((wrap64 ((Zb l0 a1).f0)) == 116) = true := beq_iff_eq.mpr c36
                      have c36b1 : ((wrap64 ((Zb l0 a1).f0)) != 116) = false := bne_eq_false_iff_eq.mpr c36
                      clear c36
                      have H' := Za.mk H
                      clear H
                      go_wp2
                      go_meet
                      case rel => exact ⟨_, (decide ((wrap64 ((Zb l0 a1).f3)) ≥ 32)), (by first | rfl | (simp; done) | (simp [*]; done)), H', ⟨by have := HJ6.out; have := HJ11.out; have := HJ17.out; have := HJ20.out; have := HJ30.out; first | omega | exact Nat.le_refl _⟩, ⟨by repeat (first | (with_reducible first | exact HB.out | apply Ze | apply Zf | apply Zd) | exact HB.out)⟩⟩
                     ·rw [if_neg c36] at H
                      have c36b0 : ((wrap64 ((Zb l0 a1).f0)) == 116) = false := beq_eq_false_iff_ne.mpr c36
                      have c36b1 : ((wrap64 ((Zb l0 a1).f0)) != 116) = true := bne_iff_ne.mpr c36
                      have H' := Za.mk H
                      clear H
                      go_wp2
                      go_meet
                      case rel => exact ⟨_, (false), (by first | rfl | (simp; done) | (simp [*]; done)), H', ⟨by have := HJ6.out; have := HJ11.out; have := HJ17.out; have := HJ20.out; have := HJ30.out; first | omega | exact Nat.le_refl _⟩, ⟨by repeat (first | (with_reducible first | exact HB.out | apply Ze | apply Zf | apply Zd) | exact HB.out)⟩⟩
                   case rest =>
                    clear HC34
                    try clear c1
                    try clear c2
                    try clear p2
                    try clear c3
                    try clear c3b0
                    try clear p3
                    try clear q3
                    try clear hx3
                    try clear c4
                    try clear c4b0
                    try clear c6
                    try clear p6
                    try clear c9
                    try clear c9b0
                    try clear c9b1
                    try clear c10
                    try clear c10b0
                    try clear c10b1
                    try clear c11
                    try clear c13
                    try clear c13b0
                    try clear c13b1
                    try clear c14
                    try clear c14b0
                    try clear c14b1
                    try clear c15
                    try clear c15b0
                    try clear c15b1
                    try clear c16
                    try clear c16b0
                    try clear c16b1
                    try clear c17
                    try clear c19
                    try clear c19b0
                    try clear c19b1
                    try clear c20
                    try clear c23
                    try clear c24
                    try clear c24b0
                    try clear c25
                    try clear c25b0
                    try clear c26
                    try clear c26b0
                    try clear c30
                    try clear p31
                    try clear q31
                    try clear hx31
                    try clear c32
                    try clear c32b0
                    try clear c32b1
                    try clear p32
                    try clear q32
                    try clear hx32
                    try clear c33
                    try clear c35
                    try clear c35b0
                    try clear c35b1
                    try clear c36
                    try clear c36b0
                    try clear c36b1
                    try clear hx318_0
                    try clear hx318_1
                    try clear hx318_2
                    try clear hx318_3
                    try clear hx319_0
                    try clear hx319_1
                    try clear hx319_2
                    try clear hx319_3
                    try clear hx322_0
                    try clear hx322_1
                    try clear hx322_2
                    try clear hx322_3
                    try clear hx323_0
                    try clear hx323_1
                    try clear hx323_2
                    try clear hx323_3
                    try clear p2
                    try clear p3
                    try clear p31
                    try clear p318
                    try clear p319
                    try clear p32
                    try clear p322
                    try clear p323
                    try clear p6
                    try clear q3
                    try clear q31
                    try clear q318
                    try clear q319
                    try clear q32
                    try clear q322
                    try clear q323
                    obtain ⟨kq, x107_33, rfl, HA, HJ33, HB⟩ := hcut
                    cases kq with
                    | zero => exact absurd HA.out (by simp [Zal.j5])
                    | succ kj33 =>
                     have H := HA.out
                     clear HA
                     simp only [Zal.j5] at H
                     by_cases c37 : x107_33 = true
                     ·subst c37
                      have H1 : (some 6) = some r := by rw [if_pos rfl] at H; exact H
                      clear H
                      have H := H1
                      clear H1
                      obtain rfl := Option.some.inj H
                      go_wp2
                      go_ret
                      exact ⟨by first | rfl | (simp [Zo, Zp] <;> rfl) | (simp [*, Zo, Zp] <;> rfl), by repeat (first | (with_reducible first | exact HB.out | apply Ze | apply Zf | apply Zd) | exact HB.out)⟩
                     ·replace c37 := Bool.eq_false_iff.mpr c37
                      subst c37
                      have H1 : (if a1 = (wrap64 ((l0.length : Int) - 1)) then (if (wrap64 ((Zb l0 a1).f0)) = 6 then (some 0) else (if (wrap64 ((Zb l0 a1).f0)) = 22 then (some 0) else (some 7))) else (some 0)) = some r := by rw [if_neg (show ¬ (false = true) by decide)] at H; exact H
                      clear H
                      have H := H1
                      clear H1
                      by_cases c38 : a1 = (wrap64 ((l0.length : Int) - 1))
                      ·rw [if_pos c38] at H
                       have c38b0 : (a1 == (wrap64 ((l0.length : Int) - 1))) = true := beq_iff_eq.mpr c38
                       have c38b1 : (a1 != (wrap64 ((l0.length : Int) - 1))) = false := bne_eq_false_iff_eq.mpr c38
                       clear c38
                       by_cases c39 : (wrap64 ((Zb l0 a1).f0)) = 6
                       ·rw [if_pos c39] at H
                        have c39b0 : ((wrap64 ((Zb l0 a1).f0)) == 6) = true := beq_iff_eq.mpr c39
                        have c39b1 : ((wrap64 ((Zb l0 a1).f0)) != 6) = false := bne_eq_false_iff_eq.mpr c39
                        clear c39
                        obtain rfl := Option.some.inj H
                        go_wp2
                        go_ret
                        exact ⟨by first | rfl | (simp [Zo, Zp] <;> rfl) | (simp [*, Zo, Zp] <;> rfl), by repeat (first | (with_reducible first | exact HB.out | apply Ze | apply Zf | apply Zd) | exact HB.out)⟩
                       ·rw [if_neg c39] at H
                        have c39b0 : ((wrap64 ((Zb l0 a1).f0)) == 6) = false := beq_eq_false_iff_ne.mpr c39
                        have c39b1 : ((wrap64 ((Zb l0 a1).f0)) != 6) = true := bne_iff_ne.mpr c39
                        by_cases c40 : (wrap64 ((Zb l0 a1).f0)) = 22
                        ·rw [if_pos c40] at H
                         have c40b0 : ((wrap64 ((Zb l0 a1).f0)) == 22) = true := beq_iff_eq.mpr c40
                         have c40b1 : ((wrap64 ((Zb l0 a1).f0)) != 22) = false := bne_eq_false_iff_eq.mpr c40
                         clear c40
                         obtain rfl := Option.some.inj H
                         go_wp2
                         go_ret
                         exact ⟨by first | rfl | (simp [Zo, Zp] <;> rfl) | (simp [*, Zo, Zp] <;> rfl), by repeat (first | (with_reducible first | exact HB.out | apply Ze | apply Zf | apply Zd) | exact HB.out)⟩
                        ·rw [if_neg c40] at H
                         have c40b0 : ((wrap64 ((Zb l0 a1).f0)) == 22) = false := beq_eq_false_iff_ne.mpr c40
                         have c40b1 : ((wrap64 ((Zb l0 a1).f0)) != 22) = true := bne_iff_ne.mpr c40
                         obtain rfl := Option.some.inj H
                         go_wp2
                         go_ret
                         exact ⟨by first | rfl | (simp [Zo, Zp] <;> rfl) | (simp [*, Zo, Zp] <;> rfl), by repeat (first | (with_reducible first | exact HB.out | apply Ze | apply Zf | apply Zd) | exact HB.out)⟩
                      ·rw [if_neg c38] at H
                       have c38b0 : (a1 == (wrap64 ((l0.length : Int) - 1))) = false := beq_eq_false_iff_ne.mpr c38
                       have c38b1 : (a1 != (wrap64 ((l0.length : Int) - 1))) = true := bne_iff_ne.mpr c38
                       obtain rfl := Option.some.inj H
                       go_wp2
                       go_ret
                       exact ⟨by first | rfl | (simp [Zo, Zp] <;> rfl) | (simp [*, Zo, Zp] <;> rfl), by repeat (first | (with_reducible first | exact HB.out | apply Ze | apply Zf | apply Zd) | exact HB.out)⟩
   ·replace c6 := Bool.eq_false_iff.mpr c6
    subst c6
    have H1 : (some 2) = some r := by rw [if_neg (show ¬ (false = true) by decide)] at H; exact H
    clear H
    have H := H1
    clear H1
    obtain rfl := Option.some.inj H
    have p318 : 0 ≤ (a1 : Int) := of_decide_eq_true (by assumption)
    have q318 : a1 < (l0.length : Int) := of_decide_eq_true (by assumption)
    obtain ⟨ad318, e318, hx318_0, hx318_1, hx318_2, hx318_3⟩ := at_T54 HR0.out a1 p318 q318
    cases e318
    replace p318 := eq_true p318
    replace q318 := eq_true q318
    have p319 : 0 ≤ (a1 : Int) := of_decide_eq_true (by assumption)
    have q319 : a1 < (l0.length : Int) := of_decide_eq_true (by assumption)
    obtain ⟨ad319, e319, hx319_0, hx319_1, hx319_2, hx319_3⟩ := at_T54 HR0.out a1 p319 q319
    obtain rfl : ad318 = ad319 := (by injection e319)
    replace p319 := eq_true p319
    replace q319 := eq_true q319
    go_enter Try.func45, Try.ntmps45
    go_wp2_with (first | ((with_reducible refine Zaf (f := 61) rfl ?_); refine Zae (some 23) rfl rfl Try.func61 (by kernel_rfl) rfl #[.int .i64 (wrap64 ((Zb l0 a1).f0))] rfl (by (try simp only [ZA, ZB, ZC]); first | done | rfl) ?_; (with_reducible refine (Zbr.calls k (wrap64 ((Zb l0 a1).f0)) false _ A5.out).mono ?_); rintro e w41 ⟨rfl, hb⟩; refine ⟨_, rfl, ?_⟩; replace HB := Za.mk (Zai (by repeat (first | (with_reducible first | exact HB.out | apply Ze | apply Zf | apply Zd) | exact HB.out)) hb); (try clear hb); (try clear hb2); (try clear hk); (try clear hi)))
    go_ret
    exact ⟨by first | rfl | (simp [Zo, Zp] <;> rfl) | (simp [*, Zo, Zp] <;> rfl), by repeat (first | (with_reducible first | exact HB.out | apply Ze | apply Zf | apply Zd) | exact HB.out)⟩
  ·rw [if_neg c4] at H
   exact absurd H (by simp)
 ·rw [if_neg c3] at H
  exact absurd H (by simp)

end Go.Proofs.Ytgodbniphkfgfaa.P
