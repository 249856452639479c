import Derived.Test.YtdipinclchkhjaaProg
import Derived.Below
import Derived.Deep.Draws
import Derived.Deep.AppendLies
import Derived.Maps.AppendAt
import Derived.OwnWalk
import Derived.Laws.BytesArg
import Derived.Laws.MakeOwn
import Derived.Laws.OwnMore
import Derived.Deep.OwnRows
import Derived.Tactics
import Derived.Lib.ConvBytes
import Derived.Laws.Slices
import Derived.WalkKit
import Derived.KernelRfl
import Derived.RowKit3
import Derived.Deep.LoopGhost
import Derived.Deep.QuietTactic
import Derived.BigQuiet
import Derived.WideLaws
import Derived.Deep.DeepCutAuto
import Derived.Deep.CutBlock
import Derived.Deep.RegionHeld3
import Derived.Laws.Rows
import Derived.Lib.AppendStr
import Derived.ArgAppend
import Derived.Laws.IdiomCopy
import Derived.OrdersHeld
import Derived.Laws.BitsLemmas
import Derived.RowKit
import Derived.Test.YtdipinclchkhjaaGFnExactAllows1
import Derived.Test.YtdipinclchkhjaaGFnExactAllows2
import Derived.Test.YtdipinclchkhjaaGFnExactAllows3
import Derived.ChangeArms
import Derived.DataReads
import Derived.ChangeSlices
namespace Go.Proofs.Ytdipinclchkhjaa.P
open Go.RowKit Go.Proofs.YtdipinclchkhjaaW.PrintWords Go.Proofs.YtdipinclchkhjaaW.PrintLast Go.Proofs.YtdipinclchkhjaaW.PrintMore
attribute [local go_sem] max2_int min2_int max_two min_two max_three min_three max_four min_four   -- for this text's walks alone
set_option linter.unusedVariables false
set_option linter.unusedSimpArgs false



def errW : Option Int → Value
  | none => .nilIface
  | some c => .iface 0 (.int .i64 c)
theorem errW_none : errW none = .nilIface := rfl
theorem errW_some (c : Int) : errW (some c) = .iface 0 (.int .i64 c) := rfl

theorem info22 : (Try.prog.info? 22).map (fun i => (i.zero, i.size, i.bytes)) = some (some (.int .u64 0), 1, 8) := by kernel_rfl
theorem info26 : (Try.prog.info? 26).map (fun i => (i.zero, i.size, i.bytes)) = some (some (.agg #[(.int .i64 0), (.int .u64 0), (.int .u64 0)]), 3, 24) := by kernel_rfl
theorem info127 : (Try.prog.info? 127).map (fun i => (i.zero, i.size, i.bytes)) = some (some (.agg #[(.int .u32 0), (.int .u32 0), (.slice none 0 0)]), 3, 32) := by kernel_rfl
theorem info131 : (Try.prog.info? 131).map (fun i => (i.zero, i.size, i.bytes)) = some (some (.agg #[(.slice none 0 0)]), 1, 24) := by kernel_rfl
/-! #### struct type 26 -/
structure S26 where
  f0 : Int
  f1 : Int
  f2 : Int
def z26 : S26 := ⟨(0 : Int), (0 : Int), (0 : Int)⟩
def k26 : Kd S26 := Kd.iso (Kd.pair (Kd.int .i64) (Kd.pair (Kd.int .u64) (Kd.int .u64))) (fun x : S26 => (x.f0, x.f1, x.f2))
theorem k26_open {w : World} {x : S26} {cs : List Value} (h : k26.K w x cs) : cs = [.int .i64 x.f0, .int .u64 x.f1, .int .u64 x.f2] := by
  obtain ⟨_, _, rfl, rfl, ⟨_, _, rfl, rfl, rfl⟩⟩ := h
  exact rfl
theorem k26_openM {w : World} {base : Nat} {ok : Nat → Prop} {x : S26} {cs : List Value} (h : k26.M w base ok x cs) : cs = [.int .i64 x.f0, .int .u64 x.f1, .int .u64 x.f2] := by
  obtain ⟨_, _, rfl, rfl, ⟨_, _, rfl, rfl, rfl⟩⟩ := h
  exact rfl
theorem k26_mkM (w : World) (base : Nat) (ok : Nat → Prop) (x : S26)  : k26.M w base ok x [.int .i64 x.f0, .int .u64 x.f1, .int .u64 x.f2] := ⟨[.int .i64 x.f0], [.int .u64 x.f1, .int .u64 x.f2], rfl, rfl, ⟨[.int .u64 x.f1], [.int .u64 x.f2], rfl, rfl, rfl⟩⟩
def rd_T26 (xs : List S26) (i : Int) : S26 := xs.getD i.toNat z26
theorem at_T26 {w : World} {A : Option Addr} {n : Nat} {xs : List S26} (h : Kd.C k26 w A n xs) (i : Int) (h0 : 0 ≤ i) (h1 : i < n) : ∃ ad , A = some ad ∧ w.cell? (ad.add (i.toNat * 3)) = some (.int .i64 (rd_T26 xs i).f0) ∧ w.cell? ⟨(ad.add (i.toNat * 3)).block, (ad.add (i.toNat * 3)).off + 1, none⟩ = some (.int .u64 (rd_T26 xs i).f1) ∧ w.cell? ⟨(ad.add (i.toNat * 3)).block, (ad.add (i.toNat * 3)).off + 2, none⟩ = some (.int .u64 (rd_T26 xs i).f2) := by
  obtain ⟨ad, c, e, _, hK, hc0⟩ := Kd.C_get h z26 i h0 h1
  have hc : ∀ j u, c[j]? = some u → w.cell? (ad.add (i.toNat * 3 + j)) = some u := hc0
  obtain rfl := k26_open hK
  exact ⟨ad, e, hc 0 _ rfl, by rw [← add_field _ _ 1 (by omega)]; exact hc 1 _ rfl, by rw [← add_field _ _ 2 (by omega)]; exact hc 2 _ rfl⟩

/-! #### struct type 24 -/
structure S24 where
  f0 : Int
  f1 : Int
  f2 : Int
def z24 : S24 := ⟨(0 : Int), (0 : Int), (0 : Int)⟩
def k24 : Kd S24 := Kd.iso (Kd.pair (Kd.int .i64) (Kd.pair (Kd.int .u64) (Kd.int .u64))) (fun x : S24 => (x.f0, x.f1, x.f2))
theorem k24_open {w : World} {x : S24} {cs : List Value} (h : k24.K w x cs) : cs = [.int .i64 x.f0, .int .u64 x.f1, .int .u64 x.f2] := by
  obtain ⟨_, _, rfl, rfl, ⟨_, _, rfl, rfl, rfl⟩⟩ := h
  exact rfl
def rd_T24 (xs : List S24) (i : Int) : S24 := xs.getD i.toNat z24
theorem at_T24 {w : World} {A : Option Addr} {n : Nat} {xs : List S24} (h : Kd.C k24 w A n xs) (i : Int) (h0 : 0 ≤ i) (h1 : i < n) : ∃ ad , A = some ad ∧ w.cell? (ad.add (i.toNat * 3)) = some (.int .i64 (rd_T24 xs i).f0) ∧ w.cell? ⟨(ad.add (i.toNat * 3)).block, (ad.add (i.toNat * 3)).off + 1, none⟩ = some (.int .u64 (rd_T24 xs i).f1) ∧ w.cell? ⟨(ad.add (i.toNat * 3)).block, (ad.add (i.toNat * 3)).off + 2, none⟩ = some (.int .u64 (rd_T24 xs i).f2) := by
  obtain ⟨ad, c, e, _, hK, hc0⟩ := Kd.C_get h z24 i h0 h1
  have hc : ∀ j u, c[j]? = some u → w.cell? (ad.add (i.toNat * 3 + j)) = some u := hc0
  obtain rfl := k24_open hK
  exact ⟨ad, e, hc 0 _ rfl, by rw [← add_field _ _ 1 (by omega)]; exact hc 1 _ rfl, by rw [← add_field _ _ 2 (by omega)]; exact hc 2 _ rfl⟩

/-! #### struct type 103 -/
structure S103 where
  f0 : Int
  f1 : Int
  f2 : Int
  f3 : Int
/-! #### struct type 101 -/
structure S101 where
  f0 : Int
  f1 : Int
  f2 : Int
  f3 : Int
/-! #### struct type 82 -/
structure S82 where
  f0 : Int
  f1 : Int
  f2 : (List Int)
def k82 : Kd S82 := Kd.iso (Kd.pair (Kd.int .u32) (Kd.pair (Kd.int .u32) (Kd.slice 22 (Kd.int .u64)))) (fun x : S82 => (x.f0, x.f1, x.f2))
/-! #### struct type 85 -/
structure S85 where
  f0 : Int
  f1 : Int
  f2 : (List Int)
/-! #### struct type 219 -/
structure S219 where
  f0 : (List S24)
def z219 : S219 := ⟨([] : List S24)⟩
def k219 : Kd S219 := Kd.iso (Kd.slice 24 k24) (fun x : S219 => x.f0)
theorem k219_open {w : World} {x : S219} {cs : List Value} (h : k219.K w x cs) : ∃ A0 c0, cs = [.slice A0 x.f0.length c0] ∧ x.f0.length ≤ c0 ∧ k24.C w A0 x.f0.length x.f0 := by
  obtain ⟨A0, c0, rfl, l0, g0⟩ := h
  exact ⟨A0, c0, rfl, l0, g0⟩
def rd_T219 (xs : List S219) (i : Int) : S219 := xs.getD i.toNat z219
theorem at_T219 {w : World} {A : Option Addr} {n : Nat} {xs : List S219} (h : Kd.C k219 w A n xs) (i : Int) (h0 : 0 ≤ i) (h1 : i < n) : ∃ ad A0 c0, A = some ad ∧ w.cell? (ad.add i.toNat) = some (.slice A0 (rd_T219 xs i).f0.length c0) ∧ (rd_T219 xs i).f0.length ≤ c0 ∧ k24.C w A0 (rd_T219 xs i).f0.length (rd_T219 xs i).f0 := by
  obtain ⟨ad, c, e, _, hK, hc0⟩ := Kd.C_get h z219 i h0 h1
  have hc : ∀ j u, c[j]? = some u → w.cell? (ad.add (i.toNat * 1 + j)) = some u := hc0
  obtain ⟨A0, c0, rfl, l0, g0⟩ := k219_open hK
  exact ⟨ad, A0, c0, e, by have hq := hc 0 _ rfl; rwa [Nat.mul_one, Nat.add_zero] at hq, l0, g0⟩

/-! #### struct type 180 -/
structure S180 where
  f0 : Int
  f1 : Int
  f2 : (List S219)
def z180 : S180 := ⟨(0 : Int), (0 : Int), ([] : List S219)⟩
def k180 : Kd S180 := Kd.iso (Kd.pair (Kd.int .u32) (Kd.pair (Kd.int .u32) (Kd.slice 219 k219))) (fun x : S180 => (x.f0, x.f1, x.f2))
theorem k180_open {w : World} {x : S180} {cs : List Value} (h : k180.K w x cs) : ∃ A2 c2, cs = [.int .u32 x.f0, .int .u32 x.f1, .slice A2 x.f2.length c2] ∧ x.f2.length ≤ c2 ∧ k219.C w A2 x.f2.length x.f2 := by
  obtain ⟨_, _, rfl, rfl, ⟨_, _, rfl, rfl, ⟨A2, c2, rfl, l2, g2⟩⟩⟩ := h
  exact ⟨A2, c2, rfl, l2, g2⟩
def rd_T180 (xs : List S180) (i : Int) : S180 := xs.getD i.toNat z180
theorem at_T180 {w : World} {A : Option Addr} {n : Nat} {xs : List S180} (h : Kd.C k180 w A n xs) (i : Int) (h0 : 0 ≤ i) (h1 : i < n) : ∃ ad A2 c2, A = some ad ∧ w.cell? (ad.add (i.toNat * 3)) = some (.int .u32 (rd_T180 xs i).f0) ∧ w.cell? ⟨(ad.add (i.toNat * 3)).block, (ad.add (i.toNat * 3)).off + 1, none⟩ = some (.int .u32 (rd_T180 xs i).f1) ∧ w.cell? ⟨(ad.add (i.toNat * 3)).block, (ad.add (i.toNat * 3)).off + 2, none⟩ = some (.slice A2 (rd_T180 xs i).f2.length c2) ∧ (rd_T180 xs i).f2.length ≤ c2 ∧ k219.C w A2 (rd_T180 xs i).f2.length (rd_T180 xs i).f2 := by
  obtain ⟨ad, c, e, _, hK, hc0⟩ := Kd.C_get h z180 i h0 h1
  have hc : ∀ j u, c[j]? = some u → w.cell? (ad.add (i.toNat * 3 + j)) = some u := hc0
  obtain ⟨A2, c2, rfl, l2, g2⟩ := k180_open hK
  exact ⟨ad, A2, c2, e, hc 0 _ rfl, by rw [← add_field _ _ 1 (by omega)]; exact hc 1 _ rfl, by rw [← add_field _ _ 2 (by omega)]; exact hc 2 _ rfl, l2, g2⟩

/-! #### struct type 131 -/
structure S131 where
  f0 : (List S26)
def z131 : S131 := ⟨([] : List S26)⟩
def k131 : Kd S131 := Kd.iso (Kd.slice 26 k26) (fun x : S131 => x.f0)
theorem k131_open {w : World} {x : S131} {cs : List Value} (h : k131.K w x cs) : ∃ A0 c0, cs = [.slice A0 x.f0.length c0] ∧ x.f0.length ≤ c0 ∧ k26.C w A0 x.f0.length x.f0 := by
  obtain ⟨A0, c0, rfl, l0, g0⟩ := h
  exact ⟨A0, c0, rfl, l0, g0⟩
theorem k131_openM {w : World} {base : Nat} {ok : Nat → Prop} {x : S131} {cs : List Value} (h : k131.M w base ok x cs) : ∃ v0, cs = [v0] ∧ k26.R 26 w base ok v0 x.f0 := by
  obtain ⟨v0, rfl, g0⟩ := h
  exact ⟨v0, rfl, g0⟩
theorem k131_mkM (w : World) (base : Nat) (ok : Nat → Prop) (x : S131) {v0 : Value} (g0 : k26.R 26 w base ok v0 x.f0) : k131.M w base ok x [v0] := ⟨v0, rfl, g0⟩
def rd_T131 (xs : List S131) (i : Int) : S131 := xs.getD i.toNat z131
theorem at_T131 {w : World} {A : Option Addr} {n : Nat} {xs : List S131} (h : Kd.C k131 w A n xs) (i : Int) (h0 : 0 ≤ i) (h1 : i < n) : ∃ ad A0 c0, A = some ad ∧ w.cell? (ad.add i.toNat) = some (.slice A0 (rd_T131 xs i).f0.length c0) ∧ (rd_T131 xs i).f0.length ≤ c0 ∧ k26.C w A0 (rd_T131 xs i).f0.length (rd_T131 xs i).f0 := by
  obtain ⟨ad, c, e, _, hK, hc0⟩ := Kd.C_get h z131 i h0 h1
  have hc : ∀ j u, c[j]? = some u → w.cell? (ad.add (i.toNat * 1 + j)) = some u := hc0
  obtain ⟨A0, c0, rfl, l0, g0⟩ := k131_open hK
  exact ⟨ad, A0, c0, e, by have hq := hc 0 _ rfl; rwa [Nat.mul_one, Nat.add_zero] at hq, l0, g0⟩

/-! #### struct type 127 -/
structure S127 where
  f0 : Int
  f1 : Int
  f2 : (List S131)
def z127 : S127 := ⟨(0 : Int), (0 : Int), ([] : List S131)⟩
def k127 : Kd S127 := Kd.iso (Kd.pair (Kd.int .u32) (Kd.pair (Kd.int .u32) (Kd.slice 131 k131))) (fun x : S127 => (x.f0, x.f1, x.f2))
theorem k127_open {w : World} {x : S127} {cs : List Value} (h : k127.K w x cs) : ∃ A2 c2, cs = [.int .u32 x.f0, .int .u32 x.f1, .slice A2 x.f2.length c2] ∧ x.f2.length ≤ c2 ∧ k131.C w A2 x.f2.length x.f2 := by
  obtain ⟨_, _, rfl, rfl, ⟨_, _, rfl, rfl, ⟨A2, c2, rfl, l2, g2⟩⟩⟩ := h
  exact ⟨A2, c2, rfl, l2, g2⟩
theorem k127_openM {w : World} {base : Nat} {ok : Nat → Prop} {x : S127} {cs : List Value} (h : k127.M w base ok x cs) : ∃ v2, cs = [.int .u32 x.f0, .int .u32 x.f1, v2] ∧ k131.R 131 w base ok v2 x.f2 := by
  obtain ⟨_, _, rfl, rfl, ⟨_, _, rfl, rfl, ⟨v2, rfl, g2⟩⟩⟩ := h
  exact ⟨v2, rfl, g2⟩
theorem k127_mkM (w : World) (base : Nat) (ok : Nat → Prop) (x : S127) {v2 : Value} (g2 : k131.R 131 w base ok v2 x.f2) : k127.M w base ok x [.int .u32 x.f0, .int .u32 x.f1, v2] := ⟨[.int .u32 x.f0], [.int .u32 x.f1, v2], rfl, rfl, ⟨[.int .u32 x.f1], [v2], rfl, rfl, ⟨v2, rfl, g2⟩⟩⟩
def rd_T127 (xs : List S127) (i : Int) : S127 := xs.getD i.toNat z127
theorem at_T127 {w : World} {A : Option Addr} {n : Nat} {xs : List S127} (h : Kd.C k127 w A n xs) (i : Int) (h0 : 0 ≤ i) (h1 : i < n) : ∃ ad A2 c2, A = some ad ∧ w.cell? (ad.add (i.toNat * 3)) = some (.int .u32 (rd_T127 xs i).f0) ∧ w.cell? ⟨(ad.add (i.toNat * 3)).block, (ad.add (i.toNat * 3)).off + 1, none⟩ = some (.int .u32 (rd_T127 xs i).f1) ∧ w.cell? ⟨(ad.add (i.toNat * 3)).block, (ad.add (i.toNat * 3)).off + 2, none⟩ = some (.slice A2 (rd_T127 xs i).f2.length c2) ∧ (rd_T127 xs i).f2.length ≤ c2 ∧ k131.C w A2 (rd_T127 xs i).f2.length (rd_T127 xs i).f2 := by
  obtain ⟨ad, c, e, _, hK, hc0⟩ := Kd.C_get h z127 i h0 h1
  have hc : ∀ j u, c[j]? = some u → w.cell? (ad.add (i.toNat * 3 + j)) = some u := hc0
  obtain ⟨A2, c2, rfl, l2, g2⟩ := k127_open hK
  exact ⟨ad, A2, c2, e, hc 0 _ rfl, by rw [← add_field _ _ 1 (by omega)]; exact hc 1 _ rfl, by rw [← add_field _ _ 2 (by omega)]; exact hc 2 _ rfl, l2, g2⟩

/-! #### struct type 59 -/
structure S59 where
  f0 : (List S180)
def k59 : Kd S59 := Kd.iso (Kd.slice 180 k180) (fun x : S59 => x.f0)
/-! #### struct type 143 -/
structure S143 where
  f0 : Int
  f1 : S103
  f2 : Int
/-! #### struct type 191 -/
structure S191 where
  f0 : Int
  f1 : Int
/-! #### struct type 140 -/
structure S140 where
  f0 : Int
  f1 : S101
  f2 : Int
/-! #### struct type 64 -/
structure S64 where
  f0 : (List S127)
end Go.Proofs.Ytdipinclchkhjaa.P

namespace Go.Proofs.Ytdipinclchkhjaa.P
open Go.RowKit Go.Proofs.YtdipinclchkhjaaW.PrintWords Go.Proofs.YtdipinclchkhjaaW.PrintLast Go.Proofs.YtdipinclchkhjaaW.PrintMore
set_option linter.unusedVariables false
set_option linter.unusedSimpArgs false

/-! What comes in, opened by its kind: a reading of type t gives a value of the kind's type, whose cells are read so (K), and that is well formed. -/
open Go.ChangeShapes Go.WideShapes in
structure Opens {α : Type} (P : Program) (t : TypeId) (d : Kd α) (wf : α → Prop) : Prop where
  cells : P.cellsOf t = d.sz
  opens : ∀ {H : Type} (enc : TypeId × Value → H) (w : World) (base : Nat) (spare : Nat → Bool) (held : Bool) (fuel : Nat) (cs : List Value) (x : DataW H × List MemPlace),
    DataW.trod enc P w base spare held fuel t cs = some x → ∃ y, d.K w y cs ∧ wf y
section
open Go.ChangeShapes Go.WideShapes
variable {P : Program}
theorem opens_int {t : TypeId} {k : IntKind} (ht : P.underlying t = some (.int k)) (hc : P.cellsOf t = 1) : Opens P t (Kd.int k) (fun n => (Lit.int k n).wf = true) :=
  ⟨hc, fun enc w base spare held fuel cs x h => by
    obtain ⟨n, rfl, _, hw⟩ := DataW.trod_int ht h
    exact ⟨n, rfl, hw⟩⟩
theorem opens_slice {α : Type} {t e : TypeId} {d : Kd α} {wf : α → Prop} (ht : P.underlying t = some (.slice e)) (hc : P.cellsOf t = 1) (he : Opens P e d wf) :
    Opens P t (Kd.slice e d) (fun xs => xs.length ≤ maxLen ∧ ∀ x ∈ xs, wf x) :=
  ⟨hc, fun enc w base spare held fuel cs x h => by
    rcases DataW.trod_slice ht h with ⟨rfl, _⟩ | ⟨a, len, cap, elems, rest, n, _, rfl, _, hb, hl, hm, hlen, hel, _, _⟩
    · exact ⟨[], ⟨none, 0, rfl, Nat.le_refl _, rfl, by simp, fun h => absurd h (by simp)⟩, by simp, by simp⟩
    · have each : ∀ i : Fin len, ∃ y c, w.cells? base (a.add (i.1 * P.cellsOf e)) (P.cellsOf e) = some c ∧ d.K w y c ∧ wf y := by
        intro i
        have h1 := hel i.1 i.2
        rw [List.getElem?_eq_getElem (by omega)] at h1
        obtain ⟨c, hc1, hc2⟩ := Option.bind_eq_some_iff.1 h1
        obtain ⟨y, hy, hwf⟩ := he.opens enc w base spare held n c _ hc2
        exact ⟨y, c, hc1, hy, hwf⟩
      refine ⟨List.ofFn fun i : Fin len => (each i).choose, ⟨some a, cap, by simp, by simpa using hl, by simp, by simp only [List.length_ofFn]; unfold maxLen at hm; omega, fun _ => ⟨a, rfl, fun j p hj => ?_⟩⟩, by simp only [List.length_ofFn]; omega, fun x hx => ?_⟩
      · have hj' : j < len := by have := (List.getElem?_eq_some_iff.1 hj).1; simpa using this
        obtain ⟨c, h1, h2, _⟩ := (each ⟨j, hj'⟩).choose_spec
        have hp : p = (each ⟨j, hj'⟩).choose := by
          rw [List.getElem?_ofFn, dif_pos hj'] at hj
          exact (Option.some.inj hj).symm
        subst hp
        refine ⟨c, d.K_len h2, h2, fun i u hu => ?_⟩
        have hi : i < d.sz := by rw [← d.K_len h2]; exact (List.getElem?_eq_some_iff.1 hu).1
        have h3 := (World.cells?_some h1).2.2 i (by rw [he.cells]; exact hi)
        simp only at h3
        rw [Go.Proofs.YtdipinclchkhjaaW.PrintWords.add_add, he.cells] at h3
        rw [h3, hu]
      · obtain ⟨i, hi⟩ := List.mem_ofFn.1 hx
        obtain ⟨c, _, _, h3⟩ := (each i).choose_spec
        rw [← hi]
        exact h3⟩
/-- Fields in line, from cell off on. -/
structure OpensF {α : Type} (P : Program) (fs : List Field) (off : Nat) (d : Kd α) (wf : α → Prop) : Prop where
  opens : ∀ {H : Type} (enc : TypeId × Value → H) (w : World) (base : Nat) (spare : Nat → Bool) (held : Bool) (fuel : Nat) (cs : List Value), cs.length = off + d.sz →
    (∀ f ∈ fs, ∃ x : DataW H × List MemPlace, DataW.trod enc P w base spare held fuel f.type ((cs.drop f.offset).take (P.cellsOf f.type)) = some x) → ∃ y, d.K w y (cs.drop off) ∧ wf y
theorem opensF_one {α : Type} {f : Field} {off : Nat} {d : Kd α} {wf : α → Prop} (hf : f.offset = off) (h : Opens P f.type d wf) : OpensF P [f] off d wf :=
  ⟨fun enc w base spare held fuel cs hl hr => by
    obtain ⟨x, hx⟩ := hr f (by simp)
    obtain ⟨y, hy, hw⟩ := h.opens enc w base spare held fuel _ x hx
    rw [hf, h.cells, List.take_of_length_le (by rw [List.length_drop, hl]; omega)] at hy
    exact ⟨y, hy, hw⟩⟩
theorem opensF_cons {α β : Type} {f : Field} {fs : List Field} {off : Nat} {d : Kd α} {d' : Kd β} {wf : α → Prop} {wf' : β → Prop} (hf : f.offset = off) (h : Opens P f.type d wf) (h' : OpensF P fs (off + d.sz) d' wf') :
    OpensF P (f :: fs) off (Kd.pair d d') (fun x => wf x.1 ∧ wf' x.2) :=
  ⟨fun enc w base spare held fuel cs hl hr => by
    obtain ⟨x, hx⟩ := hr f (by simp)
    obtain ⟨y, hy, hw⟩ := h.opens enc w base spare held fuel _ x hx
    obtain ⟨y', hy', hw'⟩ := h'.opens enc w base spare held fuel cs (by rw [hl]; exact (Nat.add_assoc _ _ _).symm) (fun g hg => hr g (by simp [hg]))
    rw [hf, h.cells] at hy
    refine ⟨(y, y'), ⟨_, _, ?_, hy, hy'⟩, hw, hw'⟩
    rw [← List.drop_drop, List.take_append_drop]⟩
theorem opens_struct {α β : Type} {t : TypeId} {fs : Array Field} {d : Kd α} {wf : α → Prop} (g : α → β) (f : β → α) (hfg : ∀ y, f (g y) = y) (ht : P.underlying t = some (.struct fs)) (hc : P.cellsOf t = d.sz) (h : OpensF P fs.toList 0 d wf) :
    Opens P t (Kd.iso d f) (fun x => wf (f x)) :=
  ⟨hc, fun enc w base spare held fuel cs x hx => by
    obtain ⟨xs, n, _, _, hl, hlen, hr⟩ := DataW.trod_struct ht hx
    obtain ⟨y, hy, hw⟩ := h.opens enc w base spare held n cs (by rw [hl, hc]; omega) (fun fd hfd => by
      obtain ⟨i, hi, rfl⟩ := List.getElem_of_mem hfd
      have hi' : i < fs.size := by simpa using hi
      have h2 := hr i fs[i] (Array.getElem?_eq_getElem hi')
      rw [List.getElem?_eq_getElem (by omega)] at h2
      exact ⟨_, by simpa using h2⟩)
    refine ⟨g y, ?_, by show wf (f (g y)); rw [hfg]; exact hw⟩
    show d.K w (f (g y)) cs
    rw [hfg]
    simpa using hy⟩
end

end Go.Proofs.Ytdipinclchkhjaa.P

namespace Go.Proofs.Ytdipinclchkhjaa.P
open Go.RowKit Go.Proofs.YtdipinclchkhjaaW.PrintWords Go.Proofs.YtdipinclchkhjaaW.PrintLast Go.Proofs.YtdipinclchkhjaaW.PrintMore
set_option linter.unusedVariables false

def wf3 (x : Int) : Prop := (Lit.int .i64 x).wf = true
theorem op3 : Opens Try.prog 3 (Kd.int .i64) wf3 := opens_int Try.underlying3 (by kernel_rfl)
def wf22 (x : Int) : Prop := (Lit.int .u64 x).wf = true
theorem op22 : Opens Try.prog 22 (Kd.int .u64) wf22 := opens_int Try.underlying22 (by kernel_rfl)
def wf24 (x : S24) : Prop := wf3 x.f0 ∧ wf22 x.f1 ∧ wf22 x.f2
theorem op24 : Opens Try.prog 24 k24 wf24 := opens_struct (fun y => (⟨y.1, y.2.1, y.2.2⟩ : S24)) _ (fun _ => rfl) Try.underlying24 (by kernel_rfl) (opensF_cons rfl op3 (opensF_cons rfl op22 (opensF_one rfl op22)))
def wf80 (x : Int) : Prop := (Lit.int .u32 x).wf = true
theorem op80 : Opens Try.prog 80 (Kd.int .u32) wf80 := opens_int Try.underlying80 (by kernel_rfl)
def wf37 (x : List Int) : Prop := x.length ≤ maxLen ∧ ∀ y ∈ x, wf22 y
theorem op37 : Opens Try.prog 37 (Kd.slice 22 (Kd.int .u64)) wf37 := opens_slice Try.underlying37 (by kernel_rfl) op22
def wf82 (x : S82) : Prop := wf80 x.f0 ∧ wf80 x.f1 ∧ wf37 x.f2
theorem op82 : Opens Try.prog 82 k82 wf82 := opens_struct (fun y => (⟨y.1, y.2.1, y.2.2⟩ : S82)) _ (fun _ => rfl) Try.underlying82 (by kernel_rfl) (opensF_cons rfl op80 (opensF_cons rfl op80 (opensF_one rfl op37)))
def wf217 (x : List (S24)) : Prop := x.length ≤ maxLen ∧ ∀ y ∈ x, wf24 y
theorem op217 : Opens Try.prog 217 (Kd.slice 24 k24) wf217 := opens_slice Try.underlying217 (by kernel_rfl) op24
def wf219 (x : S219) : Prop := wf217 x.f0
theorem op219 : Opens Try.prog 219 k219 wf219 := opens_struct (fun y => (⟨y⟩ : S219)) _ (fun _ => rfl) Try.underlying219 (by kernel_rfl) (opensF_one rfl op217)
def wf178 (x : List (S219)) : Prop := x.length ≤ maxLen ∧ ∀ y ∈ x, wf219 y
theorem op178 : Opens Try.prog 178 (Kd.slice 219 k219) wf178 := opens_slice Try.underlying178 (by kernel_rfl) op219
def wf180 (x : S180) : Prop := wf80 x.f0 ∧ wf80 x.f1 ∧ wf178 x.f2
theorem op180 : Opens Try.prog 180 k180 wf180 := opens_struct (fun y => (⟨y.1, y.2.1, y.2.2⟩ : S180)) _ (fun _ => rfl) Try.underlying180 (by kernel_rfl) (opensF_cons rfl op80 (opensF_cons rfl op80 (opensF_one rfl op178)))
def wf57 (x : List (S180)) : Prop := x.length ≤ maxLen ∧ ∀ y ∈ x, wf180 y
theorem op57 : Opens Try.prog 57 (Kd.slice 180 k180) wf57 := opens_slice Try.underlying57 (by kernel_rfl) op180
def wf59 (x : S59) : Prop := wf57 x.f0
theorem op59 : Opens Try.prog 59 k59 wf59 := opens_struct (fun y => (⟨y⟩ : S59)) _ (fun _ => rfl) Try.underlying59 (by kernel_rfl) (opensF_one rfl op57)
end Go.Proofs.Ytdipinclchkhjaa.P

namespace Go.Proofs.Ytdipinclchkhjaa.P
open Go.RowKit Go.Proofs.YtdipinclchkhjaaW.PrintWords Go.Proofs.YtdipinclchkhjaaW.PrintLast Go.Proofs.YtdipinclchkhjaaW.PrintMore

set_option linter.unusedVariables false
set_option linter.unusedSimpArgs false

/-! Small words: rounds, wrapped sums, bits as those of whole numbers. -/
theorem wrap64_id {i : Int} (h0 : -9223372036854775808 ≤ i) (h1 : i < 9223372036854775808) : wrap64 i = i := by unfold wrap64; omega
theorem bo {α β : Type} {o : Option α} {x : α} {f : α → Option β} {r : Option β} (h : o = some x) (k : f x = r) : o.bind f = r := by rw [h]; exact k
theorem ev_step {α : Type} {g : Nat → Option α} {r : α} (f : Nat → Option α) (h : ∀ k, g (k + 1) = f k) (k : Ev f r) : Ev g r := Ev.step h k
theorem ev_end {α : Type} {g : Nat → Option α} {r : α} (h : ∀ k, g (k + 1) = some r) : Ev g r := Ev.step h (Ev.now r)
theorem ev_is {α : Type} {g : Nat → Option α} {r : α} (h : ∀ k, g k = some r) : Ev g r := ⟨0, fun k _ => h k⟩
theorem ev_mk {α : Type} {g : Nat → Option α} {r : α} (K : Nat) (h : ∀ k, K ≤ k → g k = some r) : Ev g r := ⟨K, h⟩
theorem ev_get {α : Type} {g : Nat → Option α} {r : α} (h : Ev g r) : ∃ K, ∀ k, K ≤ k → g k = some r := h

theorem bits_and_nat (k : IntKind) (hk : k.signed = false) (a b : Nat) (ha : a < 2 ^ k.bits) (hb : b < 2 ^ k.bits) : bits .and k a b = ((a &&& b : Nat) : Int) := by
  have h1 : (a &&& b) < 2 ^ k.bits := Nat.and_lt_two_pow _ hb
  simp only [bits, BitVec.ofInt_natCast, BitVec.toNat_and, BitVec.toNat_ofNat, Nat.mod_eq_of_lt ha, Nat.mod_eq_of_lt hb, IntKind.wrap, hk]
  have : ((a &&& b : Nat) : Int) < ((2 ^ k.bits : Nat) : Int) := by exact_mod_cast h1
  simp
  exact Int.emod_eq_of_lt (Int.natCast_nonneg _) (by simpa using this)
theorem bits_or_nat (k : IntKind) (hk : k.signed = false) (a b : Nat) (ha : a < 2 ^ k.bits) (hb : b < 2 ^ k.bits) : bits .or k a b = ((a ||| b : Nat) : Int) := by
  have h1 : (a ||| b) < 2 ^ k.bits := Nat.or_lt_two_pow ha hb
  simp only [bits, BitVec.ofInt_natCast, BitVec.toNat_or, BitVec.toNat_ofNat, Nat.mod_eq_of_lt ha, Nat.mod_eq_of_lt hb, IntKind.wrap, hk]
  have : ((a ||| b : Nat) : Int) < ((2 ^ k.bits : Nat) : Int) := by exact_mod_cast h1
  simp
  exact Int.emod_eq_of_lt (Int.natCast_nonneg _) (by simpa using this)
theorem bits_xor_nat (k : IntKind) (hk : k.signed = false) (a b : Nat) (ha : a < 2 ^ k.bits) (hb : b < 2 ^ k.bits) : bits .xor k a b = ((a ^^^ b : Nat) : Int) := by
  have h1 : (a ^^^ b) < 2 ^ k.bits := Nat.xor_lt_two_pow ha hb
  simp only [bits, BitVec.ofInt_natCast, BitVec.toNat_xor, BitVec.toNat_ofNat, Nat.mod_eq_of_lt ha, Nat.mod_eq_of_lt hb, IntKind.wrap, hk]
  have : ((a ^^^ b : Nat) : Int) < ((2 ^ k.bits : Nat) : Int) := by exact_mod_cast h1
  simp
  exact Int.emod_eq_of_lt (Int.natCast_nonneg _) (by simpa using this)
theorem bits_andNot_nat (k : IntKind) (hk : k.signed = false) (a b : Nat) (ha : a < 2 ^ k.bits) (hb : b < 2 ^ k.bits) : bits .andNot k a b = ((a &&& (2 ^ k.bits - 1 - b) : Nat) : Int) := by
  have h1 : (a &&& (2 ^ k.bits - 1 - b)) < 2 ^ k.bits := Nat.lt_of_le_of_lt Nat.and_le_left ha
  simp only [bits, BitVec.ofInt_natCast, BitVec.toNat_and, BitVec.toNat_not, BitVec.toNat_ofNat, Nat.mod_eq_of_lt ha, Nat.mod_eq_of_lt hb, IntKind.wrap, hk]
  have : ((a &&& (2 ^ k.bits - 1 - b) : Nat) : Int) < ((2 ^ k.bits : Nat) : Int) := by exact_mod_cast h1
  simp only [Bool.false_and, Bool.false_eq_true, if_false]
  exact Int.emod_eq_of_lt (Int.natCast_nonneg _) (by simpa using this)
/-! Lists. -/
theorem rd_eq (l : List Int) (i : Nat) (h : i < l.length) : rd l i = l[i] := by
  simp [rd, List.getD_eq_getElem?_getD, List.getElem?_eq_getElem h]
/-! Loops: what they come to, from some number of rounds on. -/
theorem ev_loop_eq {α : Type} (L : Nat → Int → Option Bool) (a b : List α) (hl : a.length = b.length)
    (hend : Ev (fun k => L k (a.length : Int)) true)
    (hyes : ∀ i (h : i < a.length) (h' : i < b.length), a[i] = b[i] → ∀ r, Ev (fun k => L k ((i + 1 : Nat) : Int)) r → Ev (fun k => L k (i : Int)) r)
    (hno : ∀ i (h : i < a.length) (h' : i < b.length), a[i] ≠ b[i] → Ev (fun k => L k (i : Int)) false) :
    ∀ r : Bool, (r = true ↔ a = b) → Ev (fun k => L k 0) r := by
  intro r hr
  have key : ∀ d i, i + d = a.length → a.take i = b.take i → Ev (fun k => L k (i : Int)) r := by
    intro d
    induction d with
    | zero =>
      intro i hi ht
      have e : i = a.length := by omega
      subst e
      rw [List.take_length, hl, List.take_length] at ht
      rw [hr.2 ht]
      exact hend
    | succ d ih =>
      intro i hi ht
      have h : i < a.length := by omega
      have h' : i < b.length := by omega
      by_cases e : a[i] = b[i]
      · refine hyes i h h' e r (ih (i + 1) (by omega) ?_)
        rw [List.take_succ_eq_append_getElem h, List.take_succ_eq_append_getElem h', ht, e]
      · have : r = false := by
          cases r with
          | false => rfl
          | true =>
            have e2 := hr.1 rfl
            subst e2
            exact absurd rfl e
        rw [this]
        exact hno i h h' e
  exact key a.length 0 (by omega) rfl
/-- A loop that counts up to n, with a state: s0 at the begin, sn at the end. -/
theorem ev_loop {σ ρ : Type} (L : Nat → σ → Int → Option ρ) (n : Nat) (S : Nat → σ) (s0 sn : σ) (h0 : S 0 = s0) (hn : S n = sn)
    (hstep : ∀ i, i < n → ∀ r, Ev (fun k => L k (S (i + 1)) ((i + 1 : Nat) : Int)) r → Ev (fun k => L k (S i) (i : Int)) r) :
    ∀ r, Ev (fun k => L k sn (n : Int)) r → Ev (fun k => L k s0 0) r := by
  intro r hr
  subst h0
  subst hn
  have key : ∀ d i, i + d = n → Ev (fun k => L k (S i) (i : Int)) r := by
    intro d
    induction d with
    | zero => intro i hi; have e : i = n := by omega
              subst e; exact hr
    | succ d ih => intro i hi; exact hstep i (by omega) r (ih (i + 1) (by omega))
  exact key n 0 (by omega)
/-- The list that is filled from its begin: i elements done. -/
def filled {α β : Type} (f : α → β) (a : List α) (z : β) (i : Nat) : List β := (a.take i).map f ++ List.replicate (a.length - i) z
theorem filled_zero {α β : Type} (f : α → β) (a : List α) (z : β) : filled f a z 0 = List.replicate a.length z := by simp [filled]
theorem filled_all {α β : Type} (f : α → β) (a : List α) (z : β) : filled f a z a.length = a.map f := by simp [filled]
theorem filled_length {α β : Type} (f : α → β) (a : List α) (z : β) (i : Nat) (h : i ≤ a.length) : (filled f a z i).length = a.length := by simp [filled]; omega
theorem filled_set {α β : Type} (f : α → β) (a : List α) (z : β) (i : Nat) (h : i < a.length) : (filled f a z i).set i (f a[i]) = filled f a z (i + 1) := by
  unfold filled
  have h1 : ((a.take i).map f).length = i := by simp; omega
  rw [List.set_append_right i _ (by omega), h1, Nat.sub_self]
  obtain ⟨m, hm⟩ : ∃ m, a.length - i = m + 1 := ⟨a.length - i - 1, by omega⟩
  rw [hm, show a.length - (i + 1) = m by omega, List.replicate_succ, List.set_cons_zero, List.take_succ_eq_append_getElem h, List.map_append, List.append_assoc]
  rfl
end Go.Proofs.Ytdipinclchkhjaa.P

namespace Go.Proofs.Ytdipinclchkhjaa.P
open Go.RowKit Go.Proofs.YtdipinclchkhjaaW.PrintWords Go.Proofs.YtdipinclchkhjaaW.PrintLast Go.Proofs.YtdipinclchkhjaaW.PrintMore
set_option linter.unusedVariables false
set_option linter.unusedSimpArgs false
/-! What comes to something. -/
def EvT {α : Type} (g : Nat → Option α) (P : α → Prop) : Prop := ∃ r, Ev g r ∧ P r
theorem evt_bind {α β : Type} {g : Nat → Option α} {f : Nat → α → Option β} {P : α → Prop} {Q : β → Prop} (h : EvT g P) (h2 : ∀ x, P x → EvT (fun k => f k x) Q) : EvT (fun k => (g k).bind (f k)) Q := by
  obtain ⟨x, hx, px⟩ := h
  obtain ⟨r, hr, pr⟩ := h2 x px
  exact ⟨r, Ev.bind hx hr, pr⟩
theorem evt_some {α : Type} {P : α → Prop} {r : α} (h : P r) : EvT (fun _ => some r) P := ⟨r, ev_is fun _ => rfl, h⟩
theorem evt_ite {α : Type} {c : Prop} [Decidable c] {g h : Nat → Option α} {P : α → Prop} (h1 : c → EvT g P) (h2 : ¬ c → EvT h P) : EvT (fun k => if c then g k else h k) P := by
  by_cases hc : c
  · obtain ⟨r, hr, pr⟩ := h1 hc
    exact ⟨r, Ev.congr (fun k => by rw [if_pos hc]) hr, pr⟩
  · obtain ⟨r, hr, pr⟩ := h2 hc
    exact ⟨r, Ev.congr (fun k => by rw [if_neg hc]) hr, pr⟩
theorem evt_step {α : Type} {g : Nat → Option α} {P : α → Prop} (f : Nat → Option α) (h : ∀ k, g (k + 1) = f k) (k : EvT f P) : EvT g P := by
  obtain ⟨r, hr, pr⟩ := k
  exact ⟨r, ev_step f h hr, pr⟩
theorem evt_ev {α : Type} {g : Nat → Option α} {P : α → Prop} {r : α} (h : Ev g r) (p : P r) : EvT g P := ⟨r, h, p⟩
end Go.Proofs.Ytdipinclchkhjaa.P

namespace Go.Proofs.Ytdipinclchkhjaa.P
open Go.RowKit Go.Proofs.YtdipinclchkhjaaW.PrintWords Go.Proofs.YtdipinclchkhjaaW.PrintLast Go.Proofs.YtdipinclchkhjaaW.PrintMore
set_option linter.unusedVariables false
set_option linter.unusedSimpArgs false

/-- What an elder world holds is held behind a call, too. -/
theorem bcell {W w1 : World} (hb : Below W.heap.size W w1) : (∀ b o, b < W.heap.size → w1.cell? ⟨b, o, none⟩ = W.cell? ⟨b, o, none⟩) ∧ (∀ b o, b < W.heap.size → w1.frozen? ⟨b, o, none⟩ = W.frozen? ⟨b, o, none⟩) :=
  ⟨fun b o h => hb.cell (p := ⟨b, o, none⟩) h, fun b o h => hb.frozen (p := ⟨b, o, none⟩) h⟩
/-- Behind a call that began at a later world. -/
theorem below_call {B : Nat} {w W w1 : World} (h : Below B w W) (hb : Below W.heap.size W w1) (hB : B ≤ W.heap.size) : Below B w w1 := h.trans (hb.mono hB)
theorem alloc_size (w : World) (o : Obj) : (w.alloc o).heap.size = w.heap.size + 1 := by simp

end Go.Proofs.Ytdipinclchkhjaa.P

namespace Go.Proofs.Ytdipinclchkhjaa.P
open Go.RowKit Go.Proofs.YtdipinclchkhjaaW.PrintWords Go.Proofs.YtdipinclchkhjaaW.PrintLast Go.Proofs.YtdipinclchkhjaaW.PrintMore
set_option linter.unusedVariables false
set_option linter.unusedSimpArgs false

/-! A condition inside: one of three types behind an interface (or nil), and its value. -/
inductive Cd where
  | nil
  | any
  | mask (m v : Int)
  | rng (l h : Int)
  deriving DecidableEq
def Cd.v : Cd → Value
  | .nil => .nilIface
  | .any => .iface 160 (.agg #[])
  | .mask m v => .iface 162 (.agg #[.int .u64 m, .int .u64 v])
  | .rng l h => .iface 167 (.agg #[.int .u64 l, .int .u64 h])
def Cd.con : Cd → Int × Int × Int
  | .nil => (0, 0, 0)
  | .any => (0, 0, 0)
  | .mask m v => (1, m, v)
  | .rng l h => (2, l, h)
def nrN (a b : Int) : Int := IntKind.u64.wrap (IntKind.u64.wrap (b - a) + 1)
def nrRaw (a b : Int) : Cd :=
  if nrN a b = 0 then .any
  else if bits .and .u64 (nrN a b) (IntKind.u64.wrap (nrN a b - 1)) = 0 ∧ bits .and .u64 a (IntKind.u64.wrap (nrN a b - 1)) = 0 then .mask (bits .xor .u64 18446744073709551615 (IntKind.u64.wrap (nrN a b - 1))) a
  else .rng a b
def normRaw (k a b : Int) : Cd × Bool :=
  if k = 0 then (.any, a == 0 && b == 0)
  else if k = 1 then (if a = 0 ∧ b = 0 then (.any, true) else (.mask a b, bits .andNot .u64 b a == 0))
  else if k = 2 then (if a > b then (.nil, false) else (nrRaw a b, true))
  else (.nil, false)
/-! Questions for a condition's type. -/
end Go.Proofs.Ytdipinclchkhjaa.P

namespace Go.Proofs.Ytdipinclchkhjaa.P
open Go.RowKit Go.Proofs.YtdipinclchkhjaaW.PrintWords Go.Proofs.YtdipinclchkhjaaW.PrintLast Go.Proofs.YtdipinclchkhjaaW.PrintMore
set_option linter.unusedVariables false
set_option linter.unusedSimpArgs false

/-! Conditions: plain numbers. -/
theorem wf_u64 {x : Int} (h : (Lit.int .u64 x).wf = true) : 0 ≤ x ∧ x < 18446744073709551616 := by
  simp only [Lit.wf, IntKind.min, IntKind.max, IntKind.signed, IntKind.bits, Bool.and_eq_true] at h
  simp at h
  omega
theorem wrap_u64 (x : Int) : IntKind.u64.wrap x = x % 18446744073709551616 := by simp [IntKind.wrap, IntKind.bits, IntKind.signed]
theorem wrap_u64_id {x : Int} (h0 : 0 ≤ x) (h1 : x < 18446744073709551616) : IntKind.u64.wrap x = x := by rw [wrap_u64]; omega
theorem ones_xor (x : Nat) (h : x < 18446744073709551616) : 18446744073709551615 ^^^ x = 18446744073709551615 - x := by
  have h1 := BitVec.toNat_not (x := BitVec.ofNat 64 x)
  rw [← BitVec.allOnes_xor, BitVec.toNat_xor, BitVec.toNat_allOnes, BitVec.toNat_ofNat] at h1
  have h2 : x % 2 ^ 64 = x := Nat.mod_eq_of_lt (by omega)
  rw [h2] at h1
  have e : (2 : Nat) ^ 64 - 1 = 18446744073709551615 := by decide
  rw [e] at h1
  exact h1
theorem and64 (a b : Nat) (ha : a < 18446744073709551616) (hb : b < 18446744073709551616) : bits .and .u64 (a : Int) (b : Int) = ((a &&& b : Nat) : Int) := bits_and_nat .u64 rfl a b (by simpa [IntKind.bits] using ha) (by simpa [IntKind.bits] using hb)
theorem or64 (a b : Nat) (ha : a < 18446744073709551616) (hb : b < 18446744073709551616) : bits .or .u64 (a : Int) (b : Int) = ((a ||| b : Nat) : Int) := bits_or_nat .u64 rfl a b (by simpa [IntKind.bits] using ha) (by simpa [IntKind.bits] using hb)
theorem xor64 (a b : Nat) (ha : a < 18446744073709551616) (hb : b < 18446744073709551616) : bits .xor .u64 (a : Int) (b : Int) = ((a ^^^ b : Nat) : Int) := bits_xor_nat .u64 rfl a b (by simpa [IntKind.bits] using ha) (by simpa [IntKind.bits] using hb)
theorem not64 (a : Nat) (ha : a < 18446744073709551616) : bits .xor .u64 18446744073709551615 (a : Int) = ((18446744073709551615 - a : Nat) : Int) := by
  rw [show (18446744073709551615 : Int) = ((18446744073709551615 : Nat) : Int) from rfl, xor64 _ a (by omega) ha, ones_xor a ha]
theorem andNot64 (a b : Nat) (ha : a < 18446744073709551616) (hb : b < 18446744073709551616) : bits .andNot .u64 (a : Int) (b : Int) = ((a &&& (18446744073709551615 - b) : Nat) : Int) := by
  rw [bits_andNot_nat .u64 rfl a b (by simpa [IntKind.bits] using ha) (by simpa [IntKind.bits] using hb)]
  rfl
/-- b's bits lie among a's: two ways to say so. -/
theorem sub_bits (a b : Nat) (ha : a < 18446744073709551616) (hb : b < 18446744073709551616) : (b &&& (18446744073709551615 - a) = 0) ↔ (a ||| b = a) := by
  rw [← ones_xor a ha]
  have ones : ∀ i, (18446744073709551615 : Nat).testBit i = decide (i < 64) := fun i => by
    rw [show (18446744073709551615 : Nat) = 2 ^ 64 - 1 by decide, Nat.testBit_two_pow_sub_one]
  constructor
  · intro h
    apply Nat.eq_of_testBit_eq
    intro i
    have h1 := congrArg (fun z => z.testBit i) h
    simp only [Nat.testBit_and, Nat.testBit_xor, ones, Nat.zero_testBit] at h1
    rw [Nat.testBit_or]
    by_cases hi : i < 64
    · simp only [hi, decide_true] at h1
      cases hx : a.testBit i <;> cases hy : b.testBit i <;> simp_all
    · have hz : b.testBit i = false := Nat.testBit_lt_two_pow (Nat.lt_of_lt_of_le (by omega : b < 2 ^ 64) (Nat.pow_le_pow_right (by decide) (by omega)))
      rw [hz, Bool.or_false]
  · intro h
    apply Nat.eq_of_testBit_eq
    intro i
    have h1 := congrArg (fun z => z.testBit i) h
    simp only [Nat.testBit_or] at h1
    simp only [Nat.testBit_and, Nat.testBit_xor, ones, Nat.zero_testBit]
    by_cases hi : i < 64
    · simp only [hi, decide_true]
      cases hx : a.testBit i <;> cases hy : b.testBit i <;> simp_all
    · have hz : b.testBit i = false := Nat.testBit_lt_two_pow (Nat.lt_of_lt_of_le (by omega : b < 2 ^ 64) (Nat.pow_le_pow_right (by decide) (by omega)))
      rw [hz, Bool.false_and]
theorem two_pow_lt (k : Nat) (h : k < 64) : 0 < 2 ^ k ∧ 2 ^ k ≤ 9223372036854775808 := ⟨Nat.two_pow_pos k, by
  have := Nat.pow_le_pow_right (n := 2) (by decide) (show k ≤ 63 by omega)
  simpa using this⟩
theorem two_pow_le (k : Nat) (h : k ≤ 64) : 0 < 2 ^ k ∧ 2 ^ k ≤ 18446744073709551616 := ⟨Nat.two_pow_pos k, by
  have := Nat.pow_le_pow_right (n := 2) (by decide) h
  simpa using this⟩
theorem nrN_is (a b : Nat) (hab : a ≤ b) (hb : b < 18446744073709551616) : nrN (a : Int) (b : Int) = (((b - a + 1) % 18446744073709551616 : Nat) : Int) := by
  unfold nrN
  rw [wrap_u64, wrap_u64]
  omega
theorem nrRaw_plain (a b : Nat) (hab : a ≤ b) (hb : b < 18446744073709551616) (h : ∀ k, k ≤ 64 → b - a = 2 ^ k - 1 → a % 2 ^ k ≠ 0) : nrRaw (a : Int) (b : Int) = .rng a b := by
  unfold nrRaw
  rw [nrN_is a b hab hb]
  by_cases e0 : b - a + 1 = 18446744073709551616
  · exact absurd (show a % 2 ^ 64 = 0 by omega) (h 64 (Nat.le_refl _) (by rw [show (2 : Nat) ^ 64 - 1 = 18446744073709551615 by decide]; omega))
  · have e1 : (b - a + 1) % 18446744073709551616 = b - a + 1 := Nat.mod_eq_of_lt (by omega)
    have e2 : IntKind.u64.wrap (((b - a + 1 : Nat) : Int) - 1) = ((b - a : Nat) : Int) := by rw [wrap_u64_id (by omega) (by omega)]; omega
    rw [e1, e2, if_neg (by omega), and64 _ _ (by omega) (by omega), and64 _ _ (by omega) (by omega)]
    refine if_neg ?_
    rintro ⟨h1, h2⟩
    have h1' : (b - a + 1) &&& (b - a + 1 - 1) = 0 := by rw [Nat.add_sub_cancel]; omega
    obtain ⟨k, hk⟩ := (Nat.and_sub_one_eq_zero_iff_isPowerOfTwo (by omega)).1 h1'
    have hk2 : k < 64 := by
      rcases Nat.lt_or_ge k 64 with hk2 | hk2
      · exact hk2
      · have := Nat.pow_le_pow_right (n := 2) (by decide) hk2
        omega
    have h3 : b - a = 2 ^ k - 1 := by omega
    refine h k (by omega) h3 ?_
    rw [h3, Nat.and_two_pow_sub_one_eq_mod] at h2
    omega
end Go.Proofs.Ytdipinclchkhjaa.P

namespace Go.Proofs.Ytdipinclchkhjaa.P
open Go.RowKit Go.Proofs.YtdipinclchkhjaaW.PrintWords Go.Proofs.YtdipinclchkhjaaW.PrintLast Go.Proofs.YtdipinclchkhjaaW.PrintMore
attribute [local go_sem] max2_int min2_int max_two min_two max_three min_three max_four min_four   -- for this text's walks alone
set_option linter.unusedVariables false
set_option linter.unusedSimpArgs false

/-! ### laws_szConS: function 165 -/
def laws_szConS.f (l0 : List (S24)) (a1 : Int) : Option (Int) := if (wrap64 (a1 - (l0.length : Int))) < 0 then (some (-1)) else (some (wrap64 (a1 - (l0.length : Int))))
set_option maxHeartbeats 8000000 in
set_option maxRecDepth 100000 in
theorem laws_szConS.calls (A0 : Option Addr) (c0 : Nat) (l0 : List (S24)) (a1 : Int) (r : Int) (w : World) (hr0 : Kd.C k24 w A0 l0.length l0) (hc0 : l0.length ≤ c0) (h : laws_szConS.f l0 a1 = some r) :
    Calls Try.prog 165 #[.slice A0 l0.length c0, .int .i64 a1] w fun e w' => e = .returned (.int .i64 r) ∧ Drawn0 w w' := by
  have HR0 := Aside0.mk hr0
  have HC0 := Aside0.mk hc0
  clear hr0 hc0
  have H : (if (wrap64 (a1 - (l0.length : Int))) < 0 then (some (-1)) else (some (wrap64 (a1 - (l0.length : Int))))) = some r := h
  clear h
  by_cases c3 : (wrap64 (a1 - (l0.length : Int))) < 0
  · rw [if_pos c3] at H
    have c3b0 : decide ((wrap64 (a1 - (l0.length : Int))) < 0) = true := decide_eq_true c3
    clear c3
    obtain rfl := Option.some.inj H
    go_enter Try.func165, Try.ntmps165
    go_wp2
    go_ret
    exact ⟨by first | rfl | (simp; done) | (simp [*]; done), by repeat (first | exact Drawn0.refl _ | apply Drawn0.step)⟩
  · rw [if_neg c3] at H
    have c3b0 : decide ((wrap64 (a1 - (l0.length : Int))) < 0) = false := decide_eq_false c3
    clear c3
    obtain rfl := Option.some.inj H
    go_enter Try.func165, Try.ntmps165
    go_wp2
    go_ret
    exact ⟨by first | rfl | (simp; done) | (simp [*]; done), by repeat (first | exact Drawn0.refl _ | apply Drawn0.step)⟩

end Go.Proofs.Ytdipinclchkhjaa.P
