import Derived.Test.YtgmbahldjiiajaaProg
import Derived.Below
import Derived.Deep.Draws
import Derived.Deep.AppendLies
import Derived.Maps.AppendAt
import Derived.OwnWalk
import Derived.Laws.BytesArg
import Derived.Laws.MakeOwn
import Derived.Laws.OwnMore
import Derived.Deep.OwnRows
import Derived.Tactics
import Derived.Lib.ConvBytes
import Derived.Laws.Slices
import Derived.WalkKit
import Derived.KernelRfl
import Derived.RowKit3
import Derived.Deep.LoopGhost
import Derived.Deep.QuietTactic
import Derived.BigQuiet
import Derived.WideLaws
import Derived.Deep.DeepCutAuto
import Derived.Deep.CutBlock
import Derived.Deep.RegionHeld3
import Derived.Laws.Rows
import Derived.Lib.AppendStr
import Derived.ArgAppend
import Derived.Laws.IdiomCopy
import Derived.OrdersHeld
import Derived.Laws.BitsLemmas
import Derived.RowKit
import Derived.Test.YtgmbahldjiiajaaGFnExactCompile1
import Derived.Test.YtgmbahldjiiajaaGFnExactCompile2
import Derived.Test.YtgmbahldjiiajaaGFnExactCompile3
import Derived.ChangeArms
import Derived.DataReads
import Derived.ChangeSlices
namespace Go.Proofs.Ytgmbahldjiiajaa.P
open Go.RowKit Go.Proofs.YtgmbahldjiiajaaW.PrintWords Go.Proofs.YtgmbahldjiiajaaW.PrintLast Go.Proofs.YtgmbahldjiiajaaW.PrintMore
attribute [local go_sem] max2_int min2_int max_two min_two max_three min_three max_four min_four
set_option linter.unusedVariables false
set_option linter.unusedSimpArgs false



def errW : Option Int → Value
 | none => .nilIface
 | some c => .iface 0 (.int .i64 c)
theorem Zm : errW none = .nilIface := rfl
theorem Zn (c : Int) : errW (some c) = .iface 0 (.int .i64 c) := rfl

theorem info52 : (Try.prog.info? 52).map (fun i => (i.zero, i.size, i.bytes)) = some (some (.agg #[(.int .u16 0), (.int .u8 0), (.int .u8 0), (.int .u32 0)]), 4, 8) := by kernel_rfl
theorem info61 : (Try.prog.info? 61).map (fun i => (i.zero, i.size, i.bytes)) = some (some (.agg #[(.int .u32 0), (.int .u32 0), (.slice none 0 0)]), 3, 32) := by kernel_rfl
theorem info65 : (Try.prog.info? 65).map (fun i => (i.zero, i.size, i.bytes)) = some (some (.agg #[(.slice none 0 0)]), 1, 24) := by kernel_rfl
theorem info69 : (Try.prog.info? 69).map (fun i => (i.zero, i.size, i.bytes)) = some (some (.agg #[(.int .i64 0), (.int .u16 0), (.int .u8 0), (.int .u8 0), (.int .u32 0), (.int .i64 0)]), 6, 24) := by kernel_rfl
theorem info95 : (Try.prog.info? 95).map (fun i => (i.zero, i.size, i.bytes)) = some (some (.agg #[(.int .i64 0), (.int .u64 0), (.int .u64 0)]), 3, 24) := by kernel_rfl
structure S139 where
 f0 : Int
 f1 : Int
 f2 : Int
def z139 : S139 := ⟨(0 : Int), (0 : Int), (0 : Int)⟩
def k139 : Kd S139 := Kd.iso (Kd.pair (Kd.int .i64) (Kd.pair (Kd.int .u64) (Kd.int .u64))) (fun x : S139 => (x.f0, x.f1, x.f2))
theorem k139_open {w : World} {x : S139} {cs : List Value} (h : k139.K w x cs) : cs = [.int .i64 x.f0, .int .u64 x.f1, .int .u64 x.f2] := by
 obtain ⟨_, _, rfl, rfl, ⟨_, _, rfl, rfl, rfl⟩⟩ := h
 exact rfl
def rd_T139 (xs : List S139) (i : Int) : S139 := xs.getD i.toNat z139
theorem at_T139 {w : World} {A : Option Addr} {n : Nat} {xs : List S139} (h : Kd.C k139 w A n xs) (i : Int) (h0 : 0 ≤ i) (h1 : i < n) : ∃ ad , A = some ad ∧ w.cell? (ad.add (i.toNat * 3)) = some (.int .i64 (rd_T139 xs i).f0) ∧ w.cell? ⟨(ad.add (i.toNat * 3)).block, (ad.add (i.toNat * 3)).off + 1, none⟩ = some (.int .u64 (rd_T139 xs i).f1) ∧ w.cell? ⟨(ad.add (i.toNat * 3)).block, (ad.add (i.toNat * 3)).off + 2, none⟩ = some (.int .u64 (rd_T139 xs i).f2) := by
 obtain ⟨ad, c, e, _, hK, hc0⟩ := Kd.C_get h z139 i h0 h1
 have hc : ∀ j u, c[j]? = some u → w.cell? (ad.add (i.toNat * 3 + j)) = some u := hc0
 obtain rfl := k139_open hK
 exact ⟨ad, e, hc 0 _ rfl, by rw [← add_field _ _ 1 (by omega)]; exact hc 1 _ rfl, by rw [← add_field _ _ 2 (by omega)]; exact hc 2 _ rfl⟩

structure S117 where
 f0 : (List S139)
def z117 : S117 := ⟨([] : List S139)⟩
def k117 : Kd S117 := Kd.iso (Kd.slice 139 k139) (fun x : S117 => x.f0)
theorem k117_open {w : World} {x : S117} {cs : List Value} (h : k117.K w x cs) : ∃ A0 c0, cs = [.slice A0 x.f0.length c0] ∧ x.f0.length ≤ c0 ∧ k139.C w A0 x.f0.length x.f0 := by
 obtain ⟨A0, c0, rfl, l0, g0⟩ := h
 exact ⟨A0, c0, rfl, l0, g0⟩
def rd_T117 (xs : List S117) (i : Int) : S117 := xs.getD i.toNat z117
theorem at_T117 {w : World} {A : Option Addr} {n : Nat} {xs : List S117} (h : Kd.C k117 w A n xs) (i : Int) (h0 : 0 ≤ i) (h1 : i < n) : ∃ ad A0 c0, A = some ad ∧ w.cell? (ad.add i.toNat) = some (.slice A0 (rd_T117 xs i).f0.length c0) ∧ (rd_T117 xs i).f0.length ≤ c0 ∧ k139.C w A0 (rd_T117 xs i).f0.length (rd_T117 xs i).f0 := by
 obtain ⟨ad, c, e, _, hK, hc0⟩ := Kd.C_get h z117 i h0 h1
 have hc : ∀ j u, c[j]? = some u → w.cell? (ad.add (i.toNat * 1 + j)) = some u := hc0
 obtain ⟨A0, c0, rfl, l0, g0⟩ := k117_open hK
 exact ⟨ad, A0, c0, e, by have hq := hc 0 _ rfl; rwa [Nat.mul_one, Nat.add_zero] at hq, l0, g0⟩

structure S58 where
 f0 : Int
 f1 : Int
 f2 : (List S117)
def z58 : S58 := ⟨(0 : Int), (0 : Int), ([] : List S117)⟩
def k58 : Kd S58 := Kd.iso (Kd.pair (Kd.int .u32) (Kd.pair (Kd.int .u32) (Kd.slice 117 k117))) (fun x : S58 => (x.f0, x.f1, x.f2))
theorem k58_open {w : World} {x : S58} {cs : List Value} (h : k58.K w x cs) : ∃ A2 c2, cs = [.int .u32 x.f0, .int .u32 x.f1, .slice A2 x.f2.length c2] ∧ x.f2.length ≤ c2 ∧ k117.C w A2 x.f2.length x.f2 := by
 obtain ⟨_, _, rfl, rfl, ⟨_, _, rfl, rfl, ⟨A2, c2, rfl, l2, g2⟩⟩⟩ := h
 exact ⟨A2, c2, rfl, l2, g2⟩
def rd_T58 (xs : List S58) (i : Int) : S58 := xs.getD i.toNat z58
theorem at_T58 {w : World} {A : Option Addr} {n : Nat} {xs : List S58} (h : Kd.C k58 w A n xs) (i : Int) (h0 : 0 ≤ i) (h1 : i < n) : ∃ ad A2 c2, A = some ad ∧ w.cell? (ad.add (i.toNat * 3)) = some (.int .u32 (rd_T58 xs i).f0) ∧ w.cell? ⟨(ad.add (i.toNat * 3)).block, (ad.add (i.toNat * 3)).off + 1, none⟩ = some (.int .u32 (rd_T58 xs i).f1) ∧ w.cell? ⟨(ad.add (i.toNat * 3)).block, (ad.add (i.toNat * 3)).off + 2, none⟩ = some (.slice A2 (rd_T58 xs i).f2.length c2) ∧ (rd_T58 xs i).f2.length ≤ c2 ∧ k117.C w A2 (rd_T58 xs i).f2.length (rd_T58 xs i).f2 := by
 obtain ⟨ad, c, e, _, hK, hc0⟩ := Kd.C_get h z58 i h0 h1
 have hc : ∀ j u, c[j]? = some u → w.cell? (ad.add (i.toNat * 3 + j)) = some u := hc0
 obtain ⟨A2, c2, rfl, l2, g2⟩ := k58_open hK
 exact ⟨ad, A2, c2, e, hc 0 _ rfl, by rw [← add_field _ _ 1 (by omega)]; exact hc 1 _ rfl, by rw [← add_field _ _ 2 (by omega)]; exact hc 2 _ rfl, l2, g2⟩

structure S95 where
 f0 : Int
 f1 : Int
 f2 : Int
def z95 : S95 := ⟨(0 : Int), (0 : Int), (0 : Int)⟩
def k95 : Kd S95 := Kd.iso (Kd.pair (Kd.int .i64) (Kd.pair (Kd.int .u64) (Kd.int .u64))) (fun x : S95 => (x.f0, x.f1, x.f2))
theorem k95_open {w : World} {x : S95} {cs : List Value} (h : k95.K w x cs) : cs = [.int .i64 x.f0, .int .u64 x.f1, .int .u64 x.f2] := by
 obtain ⟨_, _, rfl, rfl, ⟨_, _, rfl, rfl, rfl⟩⟩ := h
 exact rfl
theorem k95_openM {w : World} {base : Nat} {ok : Nat → Prop} {x : S95} {cs : List Value} (h : k95.M w base ok x cs) : cs = [.int .i64 x.f0, .int .u64 x.f1, .int .u64 x.f2] := by
 obtain ⟨_, _, rfl, rfl, ⟨_, _, rfl, rfl, rfl⟩⟩ := h
 exact rfl
theorem k95_mkM (w : World) (base : Nat) (ok : Nat → Prop) (x : S95)  : k95.M w base ok x [.int .i64 x.f0, .int .u64 x.f1, .int .u64 x.f2] := ⟨[.int .i64 x.f0], [.int .u64 x.f1, .int .u64 x.f2], rfl, rfl, ⟨[.int .u64 x.f1], [.int .u64 x.f2], rfl, rfl, rfl⟩⟩
def Zx (xs : List S95) (i : Int) : S95 := xs.getD i.toNat z95
theorem at_T95 {w : World} {A : Option Addr} {n : Nat} {xs : List S95} (h : Kd.C k95 w A n xs) (i : Int) (h0 : 0 ≤ i) (h1 : i < n) : ∃ ad , A = some ad ∧ w.cell? (ad.add (i.toNat * 3)) = some (.int .i64 (Zx xs i).f0) ∧ w.cell? ⟨(ad.add (i.toNat * 3)).block, (ad.add (i.toNat * 3)).off + 1, none⟩ = some (.int .u64 (Zx xs i).f1) ∧ w.cell? ⟨(ad.add (i.toNat * 3)).block, (ad.add (i.toNat * 3)).off + 2, none⟩ = some (.int .u64 (Zx xs i).f2) := by
 obtain ⟨ad, c, e, _, hK, hc0⟩ := Kd.C_get h z95 i h0 h1
 have hc : ∀ j u, c[j]? = some u → w.cell? (ad.add (i.toNat * 3 + j)) = some u := hc0
 obtain rfl := k95_open hK
 exact ⟨ad, e, hc 0 _ rfl, by rw [← add_field _ _ 1 (by omega)]; exact hc 1 _ rfl, by rw [← add_field _ _ 2 (by omega)]; exact hc 2 _ rfl⟩

structure S65 where
 f0 : (List S95)
def z65 : S65 := ⟨([] : List S95)⟩
def k65 : Kd S65 := Kd.iso (Kd.slice 95 k95) (fun x : S65 => x.f0)
theorem k65_open {w : World} {x : S65} {cs : List Value} (h : k65.K w x cs) : ∃ A0 c0, cs = [.slice A0 x.f0.length c0] ∧ x.f0.length ≤ c0 ∧ k95.C w A0 x.f0.length x.f0 := by
 obtain ⟨A0, c0, rfl, l0, g0⟩ := h
 exact ⟨A0, c0, rfl, l0, g0⟩
theorem k65_openM {w : World} {base : Nat} {ok : Nat → Prop} {x : S65} {cs : List Value} (h : k65.M w base ok x cs) : ∃ v0, cs = [v0] ∧ k95.R 95 w base ok v0 x.f0 := by
 obtain ⟨v0, rfl, g0⟩ := h
 exact ⟨v0, rfl, g0⟩
theorem k65_mkM (w : World) (base : Nat) (ok : Nat → Prop) (x : S65) {v0 : Value} (g0 : k95.R 95 w base ok v0 x.f0) : k65.M w base ok x [v0] := ⟨v0, rfl, g0⟩
def Zao (xs : List S65) (i : Int) : S65 := xs.getD i.toNat z65
theorem at_T65 {w : World} {A : Option Addr} {n : Nat} {xs : List S65} (h : Kd.C k65 w A n xs) (i : Int) (h0 : 0 ≤ i) (h1 : i < n) : ∃ ad A0 c0, A = some ad ∧ w.cell? (ad.add i.toNat) = some (.slice A0 (Zao xs i).f0.length c0) ∧ (Zao xs i).f0.length ≤ c0 ∧ k95.C w A0 (Zao xs i).f0.length (Zao xs i).f0 := by
 obtain ⟨ad, c, e, _, hK, hc0⟩ := Kd.C_get h z65 i h0 h1
 have hc : ∀ j u, c[j]? = some u → w.cell? (ad.add (i.toNat * 1 + j)) = some u := hc0
 obtain ⟨A0, c0, rfl, l0, g0⟩ := k65_open hK
 exact ⟨ad, A0, c0, e, by have hq := hc 0 _ rfl; rwa [Nat.mul_one, Nat.add_zero] at hq, l0, g0⟩

structure S61 where
 f0 : Int
 f1 : Int
 f2 : (List S65)
def z61 : S61 := ⟨(0 : Int), (0 : Int), ([] : List S65)⟩
def k61 : Kd S61 := Kd.iso (Kd.pair (Kd.int .u32) (Kd.pair (Kd.int .u32) (Kd.slice 65 k65))) (fun x : S61 => (x.f0, x.f1, x.f2))
theorem k61_open {w : World} {x : S61} {cs : List Value} (h : k61.K w x cs) : ∃ A2 c2, cs = [.int .u32 x.f0, .int .u32 x.f1, .slice A2 x.f2.length c2] ∧ x.f2.length ≤ c2 ∧ k65.C w A2 x.f2.length x.f2 := by
 obtain ⟨_, _, rfl, rfl, ⟨_, _, rfl, rfl, ⟨A2, c2, rfl, l2, g2⟩⟩⟩ := h
 exact ⟨A2, c2, rfl, l2, g2⟩
def Zi (xs : List S61) (i : Int) : S61 := xs.getD i.toNat z61
theorem at_T61 {w : World} {A : Option Addr} {n : Nat} {xs : List S61} (h : Kd.C k61 w A n xs) (i : Int) (h0 : 0 ≤ i) (h1 : i < n) : ∃ ad A2 c2, A = some ad ∧ w.cell? (ad.add (i.toNat * 3)) = some (.int .u32 (Zi xs i).f0) ∧ w.cell? ⟨(ad.add (i.toNat * 3)).block, (ad.add (i.toNat * 3)).off + 1, none⟩ = some (.int .u32 (Zi xs i).f1) ∧ w.cell? ⟨(ad.add (i.toNat * 3)).block, (ad.add (i.toNat * 3)).off + 2, none⟩ = some (.slice A2 (Zi xs i).f2.length c2) ∧ (Zi xs i).f2.length ≤ c2 ∧ k65.C w A2 (Zi xs i).f2.length (Zi xs i).f2 := by
 obtain ⟨ad, c, e, _, hK, hc0⟩ := Kd.C_get h z61 i h0 h1
 have hc : ∀ j u, c[j]? = some u → w.cell? (ad.add (i.toNat * 3 + j)) = some u := hc0
 obtain ⟨A2, c2, rfl, l2, g2⟩ := k61_open hK
 exact ⟨ad, A2, c2, e, hc 0 _ rfl, by rw [← add_field _ _ 1 (by omega)]; exact hc 1 _ rfl, by rw [← add_field _ _ 2 (by omega)]; exact hc 2 _ rfl, l2, g2⟩

structure S98 where
 f0 : Int
 f1 : Int
def z98 : S98 := ⟨(0 : Int), (0 : Int)⟩
def k98 : Kd S98 := Kd.iso (Kd.pair (Kd.int .i64) (Kd.int .i64)) (fun x : S98 => (x.f0, x.f1))
theorem k98_open {w : World} {x : S98} {cs : List Value} (h : k98.K w x cs) : cs = [.int .i64 x.f0, .int .i64 x.f1] := by
 obtain ⟨_, _, rfl, rfl, rfl⟩ := h
 exact rfl
theorem k98_mkM (w : World) (base : Nat) (ok : Nat → Prop) (x : S98)  : k98.M w base ok x [.int .i64 x.f0, .int .i64 x.f1] := ⟨[.int .i64 x.f0], [.int .i64 x.f1], rfl, rfl, rfl⟩
def rd_T98 (xs : List S98) (i : Int) : S98 := xs.getD i.toNat z98
theorem at_T98 {w : World} {A : Option Addr} {n : Nat} {xs : List S98} (h : Kd.C k98 w A n xs) (i : Int) (h0 : 0 ≤ i) (h1 : i < n) : ∃ ad , A = some ad ∧ w.cell? (ad.add (i.toNat * 2)) = some (.int .i64 (rd_T98 xs i).f0) ∧ w.cell? ⟨(ad.add (i.toNat * 2)).block, (ad.add (i.toNat * 2)).off + 1, none⟩ = some (.int .i64 (rd_T98 xs i).f1) := by
 obtain ⟨ad, c, e, _, hK, hc0⟩ := Kd.C_get h z98 i h0 h1
 have hc : ∀ j u, c[j]? = some u → w.cell? (ad.add (i.toNat * 2 + j)) = some u := hc0
 obtain rfl := k98_open hK
 exact ⟨ad, e, hc 0 _ rfl, by rw [← add_field _ _ 1 (by omega)]; exact hc 1 _ rfl⟩

structure S52 where
 f0 : Int
 f1 : Int
 f2 : Int
 f3 : Int
def z52 : S52 := ⟨(0 : Int), (0 : Int), (0 : Int), (0 : Int)⟩
def k52 : Kd S52 := Kd.iso (Kd.pair (Kd.int .u16) (Kd.pair (Kd.int .u8) (Kd.pair (Kd.int .u8) (Kd.int .u32)))) (fun x : S52 => (x.f0, x.f1, x.f2, x.f3))
theorem k52_open {w : World} {x : S52} {cs : List Value} (h : k52.K w x cs) : cs = [.int .u16 x.f0, .int .u8 x.f1, .int .u8 x.f2, .int .u32 x.f3] := by
 obtain ⟨_, _, rfl, rfl, ⟨_, _, rfl, rfl, ⟨_, _, rfl, rfl, rfl⟩⟩⟩ := h
 exact rfl
theorem k52_openM {w : World} {base : Nat} {ok : Nat → Prop} {x : S52} {cs : List Value} (h : k52.M w base ok x cs) : cs = [.int .u16 x.f0, .int .u8 x.f1, .int .u8 x.f2, .int .u32 x.f3] := by
 obtain ⟨_, _, rfl, rfl, ⟨_, _, rfl, rfl, ⟨_, _, rfl, rfl, rfl⟩⟩⟩ := h
 exact rfl
theorem k52_mkM (w : World) (base : Nat) (ok : Nat → Prop) (x : S52)  : k52.M w base ok x [.int .u16 x.f0, .int .u8 x.f1, .int .u8 x.f2, .int .u32 x.f3] := ⟨[.int .u16 x.f0], [.int .u8 x.f1, .int .u8 x.f2, .int .u32 x.f3], rfl, rfl, ⟨[.int .u8 x.f1], [.int .u8 x.f2, .int .u32 x.f3], rfl, rfl, ⟨[.int .u8 x.f2], [.int .u32 x.f3], rfl, rfl, rfl⟩⟩⟩
def Zq (xs : List S52) (i : Int) : S52 := xs.getD i.toNat z52
theorem at_T52 {w : World} {A : Option Addr} {n : Nat} {xs : List S52} (h : Kd.C k52 w A n xs) (i : Int) (h0 : 0 ≤ i) (h1 : i < n) : ∃ ad , A = some ad ∧ w.cell? (ad.add (i.toNat * 4)) = some (.int .u16 (Zq xs i).f0) ∧ w.cell? ⟨(ad.add (i.toNat * 4)).block, (ad.add (i.toNat * 4)).off + 1, none⟩ = some (.int .u8 (Zq xs i).f1) ∧ w.cell? ⟨(ad.add (i.toNat * 4)).block, (ad.add (i.toNat * 4)).off + 2, none⟩ = some (.int .u8 (Zq xs i).f2) ∧ w.cell? ⟨(ad.add (i.toNat * 4)).block, (ad.add (i.toNat * 4)).off + 3, none⟩ = some (.int .u32 (Zq xs i).f3) := by
 obtain ⟨ad, c, e, _, hK, hc0⟩ := Kd.C_get h z52 i h0 h1
 have hc : ∀ j u, c[j]? = some u → w.cell? (ad.add (i.toNat * 4 + j)) = some u := hc0
 obtain rfl := k52_open hK
 exact ⟨ad, e, hc 0 _ rfl, by rw [← add_field _ _ 1 (by omega)]; exact hc 1 _ rfl, by rw [← add_field _ _ 2 (by omega)]; exact hc 2 _ rfl, by rw [← add_field _ _ 3 (by omega)]; exact hc 3 _ rfl⟩

structure S69 where
 f0 : Int
 f1 : S52
 f2 : Int
def z69 : S69 := ⟨(0 : Int), z52, (0 : Int)⟩
def k69 : Kd S69 := Kd.iso (Kd.pair (Kd.int .i64) (Kd.pair k52 (Kd.int .i64))) (fun x : S69 => (x.f0, x.f1, x.f2))
theorem k69_open {w : World} {x : S69} {cs : List Value} (h : k69.K w x cs) : cs = [.int .i64 x.f0, .int .u16 x.f1.f0, .int .u8 x.f1.f1, .int .u8 x.f1.f2, .int .u32 x.f1.f3, .int .i64 x.f2] := by
 obtain ⟨_, _, rfl, rfl, ⟨_, _, rfl, s1, rfl⟩⟩ := h
 obtain rfl := k52_open s1
 exact rfl
theorem Zbg (w : World) (base : Nat) (ok : Nat → Prop) (x : S69)  : k69.M w base ok x [.int .i64 x.f0, .int .u16 x.f1.f0, .int .u8 x.f1.f1, .int .u8 x.f1.f2, .int .u32 x.f1.f3, .int .i64 x.f2] := ⟨[.int .i64 x.f0], [.int .u16 x.f1.f0, .int .u8 x.f1.f1, .int .u8 x.f1.f2, .int .u32 x.f1.f3, .int .i64 x.f2], rfl, rfl, ⟨[.int .u16 x.f1.f0, .int .u8 x.f1.f1, .int .u8 x.f1.f2, .int .u32 x.f1.f3], [.int .i64 x.f2], rfl, (k52_mkM w base ok x.f1 ), rfl⟩⟩
def Zah (xs : List S69) (i : Int) : S69 := xs.getD i.toNat z69
theorem at_T69 {w : World} {A : Option Addr} {n : Nat} {xs : List S69} (h : Kd.C k69 w A n xs) (i : Int) (h0 : 0 ≤ i) (h1 : i < n) : ∃ ad , A = some ad ∧ w.cell? (ad.add (i.toNat * 6)) = some (.int .i64 (Zah xs i).f0) ∧ w.cell? ⟨(ad.add (i.toNat * 6)).block, (ad.add (i.toNat * 6)).off + 1, none⟩ = some (.int .u16 (Zah xs i).f1.f0) ∧ w.cell? ⟨(ad.add (i.toNat * 6)).block, (ad.add (i.toNat * 6)).off + 2, none⟩ = some (.int .u8 (Zah xs i).f1.f1) ∧ w.cell? ⟨(ad.add (i.toNat * 6)).block, (ad.add (i.toNat * 6)).off + 3, none⟩ = some (.int .u8 (Zah xs i).f1.f2) ∧ w.cell? ⟨(ad.add (i.toNat * 6)).block, (ad.add (i.toNat * 6)).off + 4, none⟩ = some (.int .u32 (Zah xs i).f1.f3) ∧ w.cell? ⟨(ad.add (i.toNat * 6)).block, (ad.add (i.toNat * 6)).off + 5, none⟩ = some (.int .i64 (Zah xs i).f2) := by
 obtain ⟨ad, c, e, _, hK, hc0⟩ := Kd.C_get h z69 i h0 h1
 have hc : ∀ j u, c[j]? = some u → w.cell? (ad.add (i.toNat * 6 + j)) = some u := hc0
 obtain rfl := k69_open hK
 exact ⟨ad, e, hc 0 _ rfl, by rw [← add_field _ _ 1 (by omega)]; exact hc 1 _ rfl, by rw [← add_field _ _ 2 (by omega)]; exact hc 2 _ rfl, by rw [← add_field _ _ 3 (by omega)]; exact hc 3 _ rfl, by rw [← add_field _ _ 4 (by omega)]; exact hc 4 _ rfl, by rw [← add_field _ _ 5 (by omega)]; exact hc 5 _ rfl⟩

structure S31 where
 f0 : (List S61)
structure S135 where
 f0 : Int
 f1 : Int
 f2 : Int
structure S24 where
 f0 : (List S58)
def k24 : Kd S24 := Kd.iso (Kd.slice 58 k58) (fun x : S24 => x.f0)
open Go.ChangeShapes Go.WideShapes in
structure Opens {α : Type} (P : Program) (t : TypeId) (d : Kd α) (wf : α → Prop) : Prop where
 cells : P.cellsOf t = d.sz
 opens : ∀ {H : Type} (enc : TypeId × Value → H) (w : World) (base : Nat) (spare : Nat → Bool) (held : Bool) (fuel : Nat) (cs : List Value) (x : DataW H × List MemPlace),
  DataW.trod enc P w base spare held fuel t cs = some x → ∃ y, d.K w y cs ∧ wf y
section
open Go.ChangeShapes Go.WideShapes
variable {P : Program}
theorem opens_int {t : TypeId} {k : IntKind} (ht : P.underlying t = some (.int k)) (hc : P.cellsOf t = 1) : Opens P t (Kd.int k) (fun n => (Lit.int k n).wf = true) :=
 ⟨hc, fun enc w base spare held fuel cs x h => by
  obtain ⟨n, rfl, _, hw⟩ := DataW.trod_int ht h
  exact ⟨n, rfl, hw⟩⟩
theorem opens_slice {α : Type} {t e : TypeId} {d : Kd α} {wf : α → Prop} (ht : P.underlying t = some (.slice e)) (hc : P.cellsOf t = 1) (he : Opens P e d wf) :
  Opens P t (Kd.slice e d) (fun xs => xs.length ≤ maxLen ∧ ∀ x ∈ xs, wf x) :=
 ⟨hc, fun enc w base spare held fuel cs x h => by
  rcases DataW.trod_slice ht h with ⟨rfl, _⟩ | ⟨a, len, cap, elems, rest, n, _, rfl, _, hb, hl, hm, hlen, hel, _, _⟩
  ·exact ⟨[], ⟨none, 0, rfl, Nat.le_refl _, rfl, by simp, fun h => absurd h (by simp)⟩, by simp, by simp⟩
  ·have each : ∀ i : Fin len, ∃ y c, w.cells? base (a.add (i.1 * P.cellsOf e)) (P.cellsOf e) = some c ∧ d.K w y c ∧ wf y := by
    intro i
    have h1 := hel i.1 i.2
    rw [List.getElem?_eq_getElem (by omega)] at h1
    obtain ⟨c, hc1, hc2⟩ := Option.bind_eq_some_iff.1 h1
    obtain ⟨y, hy, hwf⟩ := he.opens enc w base spare held n c _ hc2
    exact ⟨y, c, hc1, hy, hwf⟩
   refine ⟨List.ofFn fun i : Fin len => (each i).choose, ⟨some a, cap, by simp, by simpa using hl, by simp, by simp only [List.length_ofFn]; unfold maxLen at hm; omega, fun _ => ⟨a, rfl, fun j p hj => ?_⟩⟩, by simp only [List.length_ofFn]; omega, fun x hx => ?_⟩
   ·have hj' : j < len := by have := (List.getElem?_eq_some_iff.1 hj).1; simpa using this
    obtain ⟨c, h1, h2, _⟩ := (each ⟨j, hj'⟩).choose_spec
    have hp : p = (each ⟨j, hj'⟩).choose := by
     rw [List.getElem?_ofFn, dif_pos hj'] at hj
     exact (Option.some.inj hj).symm
    subst hp
    refine ⟨c, d.K_len h2, h2, fun i u hu => ?_⟩
    have hi : i < d.sz := by rw [← d.K_len h2]; exact (List.getElem?_eq_some_iff.1 hu).1
    have h3 := (World.cells?_some h1).2.2 i (by rw [he.cells]; exact hi)
    simp only at h3
    rw [Go.Proofs.YtgmbahldjiiajaaW.PrintWords.add_add, he.cells] at h3
    rw [h3, hu]
   ·obtain ⟨i, hi⟩ := List.mem_ofFn.1 hx
    obtain ⟨c, _, _, h3⟩ := (each i).choose_spec
    rw [← hi]
    exact h3⟩
structure OpensF {α : Type} (P : Program) (fs : List Field) (off : Nat) (d : Kd α) (wf : α → Prop) : Prop where
 opens : ∀ {H : Type} (enc : TypeId × Value → H) (w : World) (base : Nat) (spare : Nat → Bool) (held : Bool) (fuel : Nat) (cs : List Value), cs.length = off + d.sz →
  (∀ f ∈ fs, ∃ x : DataW H × List MemPlace, DataW.trod enc P w base spare held fuel f.type ((cs.drop f.offset).take (P.cellsOf f.type)) = some x) → ∃ y, d.K w y (cs.drop off) ∧ wf y
theorem opensF_one {α : Type} {f : Field} {off : Nat} {d : Kd α} {wf : α → Prop} (hf : f.offset = off) (h : Opens P f.type d wf) : OpensF P [f] off d wf :=
 ⟨fun enc w base spare held fuel cs hl hr => by
  obtain ⟨x, hx⟩ := hr f (by simp)
  obtain ⟨y, hy, hw⟩ := h.opens enc w base spare held fuel _ x hx
  rw [hf, h.cells, List.take_of_length_le (by rw [List.length_drop, hl]; omega)] at hy
  exact ⟨y, hy, hw⟩⟩
theorem opensF_cons {α β : Type} {f : Field} {fs : List Field} {off : Nat} {d : Kd α} {d' : Kd β} {wf : α → Prop} {wf' : β → Prop} (hf : f.offset = off) (h : Opens P f.type d wf) (h' : OpensF P fs (off + d.sz) d' wf') :
  OpensF P (f :: fs) off (Kd.pair d d') (fun x => wf x.1 ∧ wf' x.2) :=
 ⟨fun enc w base spare held fuel cs hl hr => by
  obtain ⟨x, hx⟩ := hr f (by simp)
  obtain ⟨y, hy, hw⟩ := h.opens enc w base spare held fuel _ x hx
  obtain ⟨y', hy', hw'⟩ := h'.opens enc w base spare held fuel cs (by rw [hl]; exact (Nat.add_assoc _ _ _).symm) (fun g hg => hr g (by simp [hg]))
  rw [hf, h.cells] at hy
  refine ⟨(y, y'), ⟨_, _, ?_, hy, hy'⟩, hw, hw'⟩
  rw [← List.drop_drop, List.take_append_drop]⟩
theorem opens_struct {α β : Type} {t : TypeId} {fs : Array Field} {d : Kd α} {wf : α → Prop} (g : α → β) (f : β → α) (hfg : ∀ y, f (g y) = y) (ht : P.underlying t = some (.struct fs)) (hc : P.cellsOf t = d.sz) (h : OpensF P fs.toList 0 d wf) :
  Opens P t (Kd.iso d f) (fun x => wf (f x)) :=
 ⟨hc, fun enc w base spare held fuel cs x hx => by
  obtain ⟨xs, n, _, _, hl, hlen, hr⟩ := DataW.trod_struct ht hx
  obtain ⟨y, hy, hw⟩ := h.opens enc w base spare held n cs (by rw [hl, hc]; omega) (fun fd hfd => by
   obtain ⟨i, hi, rfl⟩ := List.getElem_of_mem hfd
   have hi' : i < fs.size := by simpa using hi
   have h2 := hr i fs[i] (Array.getElem?_eq_getElem hi')
   rw [List.getElem?_eq_getElem (by omega)] at h2
   exact ⟨_, by simpa using h2⟩)
  refine ⟨g y, ?_, by show wf (f (g y)); rw [hfg]; exact hw⟩
  show d.K w (f (g y)) cs
  rw [hfg]
  simpa using hy⟩
end
def wf50 (x : Int) : Prop := (Lit.int .u32 x).wf = true
theorem op50 : Opens Try.prog 50 (Kd.int .u32) wf50 := opens_int Try.underlying50 (by kernel_rfl)
def wf3 (x : Int) : Prop := (Lit.int .i64 x).wf = true
theorem op3 : Opens Try.prog 3 (Kd.int .i64) wf3 := opens_int Try.underlying3 (by kernel_rfl)
def wf93 (x : Int) : Prop := (Lit.int .u64 x).wf = true
theorem op93 : Opens Try.prog 93 (Kd.int .u64) wf93 := opens_int Try.underlying93 (by kernel_rfl)
def wf139 (x : S139) : Prop := wf3 x.f0 ∧ wf93 x.f1 ∧ wf93 x.f2
theorem op139 : Opens Try.prog 139 k139 wf139 := opens_struct (fun y => (⟨y.1, y.2.1, y.2.2⟩ : S139)) _ (fun _ => rfl) Try.underlying139 (by kernel_rfl) (opensF_cons rfl op3 (opensF_cons rfl op93 (opensF_one rfl op93)))
def wf115 (x : List (S139)) : Prop := x.length ≤ maxLen ∧ ∀ y ∈ x, wf139 y
theorem op115 : Opens Try.prog 115 (Kd.slice 139 k139) wf115 := opens_slice Try.underlying115 (by kernel_rfl) op139
def wf117 (x : S117) : Prop := wf115 x.f0
theorem op117 : Opens Try.prog 117 k117 wf117 := opens_struct (fun y => (⟨y⟩ : S117)) _ (fun _ => rfl) Try.underlying117 (by kernel_rfl) (opensF_one rfl op115)
def wf56 (x : List (S117)) : Prop := x.length ≤ maxLen ∧ ∀ y ∈ x, wf117 y
theorem op56 : Opens Try.prog 56 (Kd.slice 117 k117) wf56 := opens_slice Try.underlying56 (by kernel_rfl) op117
def wf58 (x : S58) : Prop := wf50 x.f0 ∧ wf50 x.f1 ∧ wf56 x.f2
theorem op58 : Opens Try.prog 58 k58 wf58 := opens_struct (fun y => (⟨y.1, y.2.1, y.2.2⟩ : S58)) _ (fun _ => rfl) Try.underlying58 (by kernel_rfl) (opensF_cons rfl op50 (opensF_cons rfl op50 (opensF_one rfl op56)))
def wf22 (x : List (S58)) : Prop := x.length ≤ maxLen ∧ ∀ y ∈ x, wf58 y
theorem op22 : Opens Try.prog 22 (Kd.slice 58 k58) wf22 := opens_slice Try.underlying22 (by kernel_rfl) op58
def wf24 (x : S24) : Prop := wf22 x.f0
theorem op24 : Opens Try.prog 24 k24 wf24 := opens_struct (fun y => (⟨y⟩ : S24)) _ (fun _ => rfl) Try.underlying24 (by kernel_rfl) (opensF_one rfl op22)
theorem Zae {i : Int} (h0 : -9223372036854775808 ≤ i) (h1 : i < 9223372036854775808) : wrap64 i = i := by unfold wrap64; omega
theorem bo {α β : Type} {o : Option α} {x : α} {f : α → Option β} {r : Option β} (h : o = some x) (k : f x = r) : o.bind f = r := by rw [h]; exact k
theorem Zbe {α : Type} {g : Nat → Option α} {r : α} (f : Nat → Option α) (h : ∀ k, g (k + 1) = f k) (k : Ev f r) : Ev g r := Ev.step h k
theorem ev_end {α : Type} {g : Nat → Option α} {r : α} (h : ∀ k, g (k + 1) = some r) : Ev g r := Ev.step h (Ev.now r)
theorem ev_is {α : Type} {g : Nat → Option α} {r : α} (h : ∀ k, g k = some r) : Ev g r := ⟨0, fun k _ => h k⟩
theorem ev_mk {α : Type} {g : Nat → Option α} {r : α} (K : Nat) (h : ∀ k, K ≤ k → g k = some r) : Ev g r := ⟨K, h⟩
theorem ev_get {α : Type} {g : Nat → Option α} {r : α} (h : Ev g r) : ∃ K, ∀ k, K ≤ k → g k = some r := h

theorem bits_or_nat (k : IntKind) (hk : k.signed = false) (a b : Nat) (ha : a < 2 ^ k.bits) (hb : b < 2 ^ k.bits) : bits .or k a b = ((a ||| b : Nat) : Int) := by
 have h1 : (a ||| b) < 2 ^ k.bits := Nat.or_lt_two_pow ha hb
 simp only [bits, BitVec.ofInt_natCast, BitVec.toNat_or, BitVec.toNat_ofNat, Nat.mod_eq_of_lt ha, Nat.mod_eq_of_lt hb, IntKind.wrap, hk]
 have : ((a ||| b : Nat) : Int) < ((2 ^ k.bits : Nat) : Int) := by exact_mod_cast h1
 simp
 exact Int.emod_eq_of_lt (Int.natCast_nonneg _) (by simpa using this)
theorem bits_andNot_nat (k : IntKind) (hk : k.signed = false) (a b : Nat) (ha : a < 2 ^ k.bits) (hb : b < 2 ^ k.bits) : bits .andNot k a b = ((a &&& (2 ^ k.bits - 1 - b) : Nat) : Int) := by
 have h1 : (a &&& (2 ^ k.bits - 1 - b)) < 2 ^ k.bits := Nat.lt_of_le_of_lt Nat.and_le_left ha
 simp only [bits, BitVec.ofInt_natCast, BitVec.toNat_and, BitVec.toNat_not, BitVec.toNat_ofNat, Nat.mod_eq_of_lt ha, Nat.mod_eq_of_lt hb, IntKind.wrap, hk]
 have : ((a &&& (2 ^ k.bits - 1 - b) : Nat) : Int) < ((2 ^ k.bits : Nat) : Int) := by exact_mod_cast h1
 simp only [Bool.false_and, Bool.false_eq_true, if_false]
 exact Int.emod_eq_of_lt (Int.natCast_nonneg _) (by simpa using this)
theorem ev_loop_eq {α : Type} (L : Nat → Int → Option Bool) (a b : List α) (hl : a.length = b.length)
  (hend : Ev (fun k => L k (a.length : Int)) true)
  (hyes : ∀ i (h : i < a.length) (h' : i < b.length), a[i] = b[i] → ∀ r, Ev (fun k => L k ((i + 1 : Nat) : Int)) r → Ev (fun k => L k (i : Int)) r)
  (hno : ∀ i (h : i < a.length) (h' : i < b.length), a[i] ≠ b[i] → Ev (fun k => L k (i : Int)) false) :
  ∀ r : Bool, (r = true ↔ a = b) → Ev (fun k => L k 0) r := by
 intro r hr
 have key : ∀ d i, i + d = a.length → a.take i = b.take i → Ev (fun k => L k (i : Int)) r := by
  intro d
  induction d with
  | zero =>
   intro i hi ht
   have e : i = a.length := by omega
   subst e
   rw [List.take_length, hl, List.take_length] at ht
   rw [hr.2 ht]
   exact hend
  | succ d ih =>
   intro i hi ht
   have h : i < a.length := by omega
   have h' : i < b.length := by omega
   by_cases e : a[i] = b[i]
   ·refine hyes i h h' e r (ih (i + 1) (by omega) ?_)
    rw [List.take_succ_eq_append_getElem h, List.take_succ_eq_append_getElem h', ht, e]
   ·have : r = false := by
     cases r with
     | false => rfl
     | true =>
      have e2 := hr.1 rfl
      subst e2
      exact absurd rfl e
    rw [this]
    exact hno i h h' e
 exact key a.length 0 (by omega) rfl
theorem ev_loop {σ ρ : Type} (L : Nat → σ → Int → Option ρ) (n : Nat) (S : Nat → σ) (s0 sn : σ) (h0 : S 0 = s0) (hn : S n = sn)
    (hstep : ∀ i, i < n → ∀ r, Ev (fun k => L k (S (i + 1)) ((i + 1 : Nat) : Int)) r → Ev (fun k => L k (S i) (i : Int)) r) :
    ∀ r, Ev (fun k => L k sn (n : Int)) r → Ev (fun k => L k s0 0) r := by
  intro r hr
  subst h0
  subst hn
  have key : ∀ d i, i + d = n → Ev (fun k => L k (S i) (i : Int)) r := by
    intro d
    induction d with
    | zero => intro i hi; have e : i = n := by omega
              subst e; exact hr
    | succ d ih => intro i hi; exact hstep i (by omega) r (ih (i + 1) (by omega))
  exact key n 0 (by omega)
def filled {α β : Type} (f : α → β) (a : List α) (z : β) (i : Nat) : List β := (a.take i).map f ++ List.replicate (a.length - i) z
theorem filled_zero {α β : Type} (f : α → β) (a : List α) (z : β) : filled f a z 0 = List.replicate a.length z := by simp [filled]
theorem filled_all {α β : Type} (f : α → β) (a : List α) (z : β) : filled f a z a.length = a.map f := by simp [filled]
theorem filled_length {α β : Type} (f : α → β) (a : List α) (z : β) (i : Nat) (h : i ≤ a.length) : (filled f a z i).length = a.length := by simp [filled]; omega
theorem filled_set {α β : Type} (f : α → β) (a : List α) (z : β) (i : Nat) (h : i < a.length) : (filled f a z i).set i (f a[i]) = filled f a z (i + 1) := by
 unfold filled
 have h1 : ((a.take i).map f).length = i := by simp; omega
 rw [List.set_append_right i _ (by omega), h1, Nat.sub_self]
 obtain ⟨m, hm⟩ : ∃ m, a.length - i = m + 1 := ⟨a.length - i - 1, by omega⟩
 rw [hm, show a.length - (i + 1) = m by omega, List.replicate_succ, List.set_cons_zero, List.take_succ_eq_append_getElem h, List.map_append, List.append_assoc]
 rfl
def laws_eqIns.f (a0_0 : Int) (a0_1 : Int) (a0_2 : Int) (a0_3 : Int) (a1_0 : Int) (a1_1 : Int) (a1_2 : Int) (a1_3 : Int) : Option (Bool) := if a0_0 = a1_0 then (if a0_1 = a1_1 then (if a0_2 = a1_2 then (if a0_3 = a1_3 then (some true) else (some false)) else (some false)) else (some false)) else (some false)
set_option maxHeartbeats 8000000 in
set_option maxRecDepth 100000 in
theorem laws_eqIns.calls (a0_0 : Int) (a0_1 : Int) (a0_2 : Int) (a0_3 : Int) (a1_0 : Int) (a1_1 : Int) (a1_2 : Int) (a1_3 : Int) (r : Bool) (w : World) (h : laws_eqIns.f a0_0 a0_1 a0_2 a0_3 a1_0 a1_1 a1_2 a1_3 = some r) :
  Calls Try.prog 21 #[.agg #[.int .u16 a0_0, .int .u8 a0_1, .int .u8 a0_2, .int .u32 a0_3], .agg #[.int .u16 a1_0, .int .u8 a1_1, .int .u8 a1_2, .int .u32 a1_3]] w fun e w' => e = .returned (.bool r) ∧ Below w.heap.size w w' := by
 have hu52 := Try.underlying52
 have HB := Za.mk (Below.refl w.heap.size w)
 have H : (if a0_0 = a1_0 then (if a0_1 = a1_1 then (if a0_2 = a1_2 then (if a0_3 = a1_3 then (some true) else (some false)) else (some false)) else (some false)) else (some false)) = some r := h
 clear h
 by_cases c3 : a0_0 = a1_0
 ·rw [if_pos c3] at H
  have c3b0 : (a0_0 == a1_0) = true := beq_iff_eq.mpr c3
  have c3b1 : (a0_0 != a1_0) = false := bne_eq_false_iff_eq.mpr c3
  clear c3
  by_cases c4 : a0_1 = a1_1
  ·rw [if_pos c4] at H
   have c4b0 : (a0_1 == a1_1) = true := beq_iff_eq.mpr c4
   have c4b1 : (a0_1 != a1_1) = false := bne_eq_false_iff_eq.mpr c4
   clear c4
   by_cases c5 : a0_2 = a1_2
   ·rw [if_pos c5] at H
    have c5b0 : (a0_2 == a1_2) = true := beq_iff_eq.mpr c5
    have c5b1 : (a0_2 != a1_2) = false := bne_eq_false_iff_eq.mpr c5
    clear c5
    by_cases c6 : a0_3 = a1_3
    ·rw [if_pos c6] at H
     have c6b0 : (a0_3 == a1_3) = true := beq_iff_eq.mpr c6
     have c6b1 : (a0_3 != a1_3) = false := bne_eq_false_iff_eq.mpr c6
     clear c6
     obtain rfl := Option.some.inj H
     go_enter Try.func21, Try.ntmps21
     go_wp2_with (first | ((with_reducible refine Zab (N := 2) rfl ?_); refine Zac ?hg (N := 2) ?hd (cs := #[.int .u16 a0_0, .int .u8 a0_1, .int .u8 a0_2, .int .u32 a0_3]) (t := 52) ?hr ?_; (case hd => rfl); (case hg => rfl); (case hr => go_simp <;> rfl); intro gb495 hg w7 hbox hb; have BK495 := Za.mk (hbox); have GW495 := Za.mk ((by rw [hg]; exact (Zl (by with_reducible repeat first | exact HB.out | apply Zc | apply Ze | apply Zd)) : w.heap.size ≤ gb495)); have GE495 := Za.mk ((by rw [hg]; exact (Zl (by with_reducible repeat first | exact HB.out | apply Zc | apply Ze | apply Zd)) : w.heap.size ≤ gb495)); replace HB := Za.mk (Zo (by with_reducible repeat first | exact HB.out | apply Zc | apply Ze | apply Zd) hb); clear hb hbox hg) | ((with_reducible refine Zab (N := 3) rfl ?_); refine Zac ?hg (N := 3) ?hd (cs := #[.int .u16 a1_0, .int .u8 a1_1, .int .u8 a1_2, .int .u32 a1_3]) (t := 52) ?hr ?_; (case hd => rfl); (case hg => rfl); (case hr => go_simp <;> rfl); intro gb496 hg w8 hbox hb; have BK496 := Za.mk (hbox); have GW496 := Za.mk ((by rw [hg]; exact (Zl (by with_reducible repeat first | exact HB.out | apply Zc | apply Ze | apply Zd | refine Zk ?_ GE495.out)) : w.heap.size ≤ gb496)); have GE496 := Za.mk ((by rw [hg]; exact (Zl (by with_reducible repeat first | exact HB.out | apply Zc | apply Ze | apply Zd | refine Zk ?_ GE495.out)) : w.heap.size ≤ gb496)); replace HB := Za.mk (Zo (by with_reducible repeat first | exact HB.out | apply Zc | apply Ze | apply Zd | refine Zk ?_ GE495.out) hb); have NB495_496 := Za.mk ((by rw [hg]; exact Nat.ne_of_lt (Zs (g := gb495) (o := .cells #[.int .u16 a0_0, .int .u8 a0_1, .int .u8 a0_2, .int .u32 a0_3] 52 (0, 0)) (by (with_reducible repeat first | apply Zg | apply Zf | apply Zh); exact BK495.out)) : gb495 ≠ gb496)); have NB496_495 := Za.mk ((by rw [hg]; exact Nat.ne_of_gt (Zs (g := gb495) (o := .cells #[.int .u16 a0_0, .int .u8 a0_1, .int .u8 a0_2, .int .u32 a0_3] 52 (0, 0)) (by (with_reducible repeat first | apply Zg | apply Zf | apply Zh); exact BK495.out)) : gb496 ≠ gb495)); replace BK495 := Za.mk (Zp (g := gb495) (o := .cells #[.int .u16 a0_0, .int .u8 a0_1, .int .u8 a0_2, .int .u32 a0_3] 52 (0, 0)) (by (with_reducible repeat first | apply Zg | apply Zf | apply Zh); exact BK495.out) hb); clear hb hbox hg; have hnb9 := NB495_496.out; have hnc9 := NB496_495.out; have hcz10_0 : w8.cell? ⟨gb495, 0, none⟩ = some (.int .u16 a0_0) := (Zb BK495.out 0).trans rfl; have hcz10_1 : w8.cell? ⟨gb495, 1, none⟩ = some (.int .u8 a0_1) := (Zb BK495.out 1).trans rfl; have hcz10_2 : w8.cell? ⟨gb495, 2, none⟩ = some (.int .u8 a0_2) := (Zb BK495.out 2).trans rfl; have hcz10_3 : w8.cell? ⟨gb495, 3, none⟩ = some (.int .u32 a0_3) := (Zb BK495.out 3).trans rfl; have hfz10_0 := Zj BK495.out 0; have hfz10_1 := Zj BK495.out 1; have hfz10_2 := Zj BK495.out 2; have hfz10_3 := Zj BK495.out 3; have hcz11_0 : w8.cell? ⟨gb496, 0, none⟩ = some (.int .u16 a1_0) := (Zb BK496.out 0).trans rfl; have hcz11_1 : w8.cell? ⟨gb496, 1, none⟩ = some (.int .u8 a1_1) := (Zb BK496.out 1).trans rfl; have hcz11_2 : w8.cell? ⟨gb496, 2, none⟩ = some (.int .u8 a1_2) := (Zb BK496.out 2).trans rfl; have hcz11_3 : w8.cell? ⟨gb496, 3, none⟩ = some (.int .u32 a1_3) := (Zb BK496.out 3).trans rfl; have hfz11_0 := Zj BK496.out 0; have hfz11_1 := Zj BK496.out 1; have hfz11_2 := Zj BK496.out 2; have hfz11_3 := Zj BK496.out 3))
     go_ret
     exact ⟨by first | rfl | (simp [Zm, Zn] <;> rfl) | (simp [*, Zm, Zn] <;> rfl), by with_reducible repeat first | exact HB.out | apply Zc | apply Ze | apply Zd | refine Zk ?_ GE495.out | refine Zk ?_ GE496.out⟩
    rw [if_neg c6] at H
    have c6b0 : (a0_3 == a1_3) = false := beq_eq_false_iff_ne.mpr c6
    have c6b1 : (a0_3 != a1_3) = true := bne_iff_ne.mpr c6
    obtain rfl := Option.some.inj H
    go_enter Try.func21, Try.ntmps21
    go_wp2_with (first | ((with_reducible refine Zab (N := 2) rfl ?_); refine Zac ?hg (N := 2) ?hd (cs := #[.int .u16 a0_0, .int .u8 a0_1, .int .u8 a0_2, .int .u32 a0_3]) (t := 52) ?hr ?_; (case hd => rfl); (case hg => rfl); (case hr => go_simp <;> rfl); intro gb495 hg w12 hbox hb; have BK495 := Za.mk (hbox); have GW495 := Za.mk ((by rw [hg]; exact (Zl (by with_reducible repeat first | exact HB.out | apply Zc | apply Ze | apply Zd)) : w.heap.size ≤ gb495)); have GE495 := Za.mk ((by rw [hg]; exact (Zl (by with_reducible repeat first | exact HB.out | apply Zc | apply Ze | apply Zd)) : w.heap.size ≤ gb495)); replace HB := Za.mk (Zo (by with_reducible repeat first | exact HB.out | apply Zc | apply Ze | apply Zd) hb); clear hb hbox hg) | ((with_reducible refine Zab (N := 3) rfl ?_); refine Zac ?hg (N := 3) ?hd (cs := #[.int .u16 a1_0, .int .u8 a1_1, .int .u8 a1_2, .int .u32 a1_3]) (t := 52) ?hr ?_; (case hd => rfl); (case hg => rfl); (case hr => go_simp <;> rfl); intro gb496 hg w13 hbox hb; have BK496 := Za.mk (hbox); have GW496 := Za.mk ((by rw [hg]; exact (Zl (by with_reducible repeat first | exact HB.out | apply Zc | apply Ze | apply Zd | refine Zk ?_ GE495.out)) : w.heap.size ≤ gb496)); have GE496 := Za.mk ((by rw [hg]; exact (Zl (by with_reducible repeat first | exact HB.out | apply Zc | apply Ze | apply Zd | refine Zk ?_ GE495.out)) : w.heap.size ≤ gb496)); replace HB := Za.mk (Zo (by with_reducible repeat first | exact HB.out | apply Zc | apply Ze | apply Zd | refine Zk ?_ GE495.out) hb); have NB495_496 := Za.mk ((by rw [hg]; exact Nat.ne_of_lt (Zs (g := gb495) (o := .cells #[.int .u16 a0_0, .int .u8 a0_1, .int .u8 a0_2, .int .u32 a0_3] 52 (0, 0)) (by (with_reducible repeat first | apply Zg | apply Zf | apply Zh); exact BK495.out)) : gb495 ≠ gb496)); have NB496_495 := Za.mk ((by rw [hg]; exact Nat.ne_of_gt (Zs (g := gb495) (o := .cells #[.int .u16 a0_0, .int .u8 a0_1, .int .u8 a0_2, .int .u32 a0_3] 52 (0, 0)) (by (with_reducible repeat first | apply Zg | apply Zf | apply Zh); exact BK495.out)) : gb496 ≠ gb495)); replace BK495 := Za.mk (Zp (g := gb495) (o := .cells #[.int .u16 a0_0, .int .u8 a0_1, .int .u8 a0_2, .int .u32 a0_3] 52 (0, 0)) (by (with_reducible repeat first | apply Zg | apply Zf | apply Zh); exact BK495.out) hb); clear hb hbox hg; have hnb14 := NB495_496.out; have hnc14 := NB496_495.out; have hcz15_0 : w13.cell? ⟨gb495, 0, none⟩ = some (.int .u16 a0_0) := (Zb BK495.out 0).trans rfl; have hcz15_1 : w13.cell? ⟨gb495, 1, none⟩ = some (.int .u8 a0_1) := (Zb BK495.out 1).trans rfl; have hcz15_2 : w13.cell? ⟨gb495, 2, none⟩ = some (.int .u8 a0_2) := (Zb BK495.out 2).trans rfl; have hcz15_3 : w13.cell? ⟨gb495, 3, none⟩ = some (.int .u32 a0_3) := (Zb BK495.out 3).trans rfl; have hfz15_0 := Zj BK495.out 0; have hfz15_1 := Zj BK495.out 1; have hfz15_2 := Zj BK495.out 2; have hfz15_3 := Zj BK495.out 3; have hcz16_0 : w13.cell? ⟨gb496, 0, none⟩ = some (.int .u16 a1_0) := (Zb BK496.out 0).trans rfl; have hcz16_1 : w13.cell? ⟨gb496, 1, none⟩ = some (.int .u8 a1_1) := (Zb BK496.out 1).trans rfl; have hcz16_2 : w13.cell? ⟨gb496, 2, none⟩ = some (.int .u8 a1_2) := (Zb BK496.out 2).trans rfl; have hcz16_3 : w13.cell? ⟨gb496, 3, none⟩ = some (.int .u32 a1_3) := (Zb BK496.out 3).trans rfl; have hfz16_0 := Zj BK496.out 0; have hfz16_1 := Zj BK496.out 1; have hfz16_2 := Zj BK496.out 2; have hfz16_3 := Zj BK496.out 3))
    go_ret
    exact ⟨by first | rfl | (simp [Zm, Zn] <;> rfl) | (simp [*, Zm, Zn] <;> rfl), by with_reducible repeat first | exact HB.out | apply Zc | apply Ze | apply Zd | refine Zk ?_ GE495.out | refine Zk ?_ GE496.out⟩
   rw [if_neg c5] at H
   have c5b0 : (a0_2 == a1_2) = false := beq_eq_false_iff_ne.mpr c5
   have c5b1 : (a0_2 != a1_2) = true := bne_iff_ne.mpr c5
   obtain rfl := Option.some.inj H
   go_enter Try.func21, Try.ntmps21
   go_wp2_with (first | ((with_reducible refine Zab (N := 2) rfl ?_); refine Zac ?hg (N := 2) ?hd (cs := #[.int .u16 a0_0, .int .u8 a0_1, .int .u8 a0_2, .int .u32 a0_3]) (t := 52) ?hr ?_; (case hd => rfl); (case hg => rfl); (case hr => go_simp <;> rfl); intro gb495 hg w17 hbox hb; have BK495 := Za.mk (hbox); have GW495 := Za.mk ((by rw [hg]; exact (Zl (by with_reducible repeat first | exact HB.out | apply Zc | apply Ze | apply Zd)) : w.heap.size ≤ gb495)); have GE495 := Za.mk ((by rw [hg]; exact (Zl (by with_reducible repeat first | exact HB.out | apply Zc | apply Ze | apply Zd)) : w.heap.size ≤ gb495)); replace HB := Za.mk (Zo (by with_reducible repeat first | exact HB.out | apply Zc | apply Ze | apply Zd) hb); clear hb hbox hg) | ((with_reducible refine Zab (N := 3) rfl ?_); refine Zac ?hg (N := 3) ?hd (cs := #[.int .u16 a1_0, .int .u8 a1_1, .int .u8 a1_2, .int .u32 a1_3]) (t := 52) ?hr ?_; (case hd => rfl); (case hg => rfl); (case hr => go_simp <;> rfl); intro gb496 hg w18 hbox hb; have BK496 := Za.mk (hbox); have GW496 := Za.mk ((by rw [hg]; exact (Zl (by with_reducible repeat first | exact HB.out | apply Zc | apply Ze | apply Zd | refine Zk ?_ GE495.out)) : w.heap.size ≤ gb496)); have GE496 := Za.mk ((by rw [hg]; exact (Zl (by with_reducible repeat first | exact HB.out | apply Zc | apply Ze | apply Zd | refine Zk ?_ GE495.out)) : w.heap.size ≤ gb496)); replace HB := Za.mk (Zo (by with_reducible repeat first | exact HB.out | apply Zc | apply Ze | apply Zd | refine Zk ?_ GE495.out) hb); have NB495_496 := Za.mk ((by rw [hg]; exact Nat.ne_of_lt (Zs (g := gb495) (o := .cells #[.int .u16 a0_0, .int .u8 a0_1, .int .u8 a0_2, .int .u32 a0_3] 52 (0, 0)) (by (with_reducible repeat first | apply Zg | apply Zf | apply Zh); exact BK495.out)) : gb495 ≠ gb496)); have NB496_495 := Za.mk ((by rw [hg]; exact Nat.ne_of_gt (Zs (g := gb495) (o := .cells #[.int .u16 a0_0, .int .u8 a0_1, .int .u8 a0_2, .int .u32 a0_3] 52 (0, 0)) (by (with_reducible repeat first | apply Zg | apply Zf | apply Zh); exact BK495.out)) : gb496 ≠ gb495)); replace BK495 := Za.mk (Zp (g := gb495) (o := .cells #[.int .u16 a0_0, .int .u8 a0_1, .int .u8 a0_2, .int .u32 a0_3] 52 (0, 0)) (by (with_reducible repeat first | apply Zg | apply Zf | apply Zh); exact BK495.out) hb); clear hb hbox hg; have hnb19 := NB495_496.out; have hnc19 := NB496_495.out; have hcz20_0 : w18.cell? ⟨gb495, 0, none⟩ = some (.int .u16 a0_0) := (Zb BK495.out 0).trans rfl; have hcz20_1 : w18.cell? ⟨gb495, 1, none⟩ = some (.int .u8 a0_1) := (Zb BK495.out 1).trans rfl; have hcz20_2 : w18.cell? ⟨gb495, 2, none⟩ = some (.int .u8 a0_2) := (Zb BK495.out 2).trans rfl; have hcz20_3 : w18.cell? ⟨gb495, 3, none⟩ = some (.int .u32 a0_3) := (Zb BK495.out 3).trans rfl; have hfz20_0 := Zj BK495.out 0; have hfz20_1 := Zj BK495.out 1; have hfz20_2 := Zj BK495.out 2; have hfz20_3 := Zj BK495.out 3; have hcz21_0 : w18.cell? ⟨gb496, 0, none⟩ = some (.int .u16 a1_0) := (Zb BK496.out 0).trans rfl; have hcz21_1 : w18.cell? ⟨gb496, 1, none⟩ = some (.int .u8 a1_1) := (Zb BK496.out 1).trans rfl; have hcz21_2 : w18.cell? ⟨gb496, 2, none⟩ = some (.int .u8 a1_2) := (Zb BK496.out 2).trans rfl; have hcz21_3 : w18.cell? ⟨gb496, 3, none⟩ = some (.int .u32 a1_3) := (Zb BK496.out 3).trans rfl; have hfz21_0 := Zj BK496.out 0; have hfz21_1 := Zj BK496.out 1; have hfz21_2 := Zj BK496.out 2; have hfz21_3 := Zj BK496.out 3))
   go_ret
   exact ⟨by first | rfl | (simp [Zm, Zn] <;> rfl) | (simp [*, Zm, Zn] <;> rfl), by with_reducible repeat first | exact HB.out | apply Zc | apply Ze | apply Zd | refine Zk ?_ GE495.out | refine Zk ?_ GE496.out⟩
  rw [if_neg c4] at H
  have c4b0 : (a0_1 == a1_1) = false := beq_eq_false_iff_ne.mpr c4
  have c4b1 : (a0_1 != a1_1) = true := bne_iff_ne.mpr c4
  obtain rfl := Option.some.inj H
  go_enter Try.func21, Try.ntmps21
  go_wp2_with (first | ((with_reducible refine Zab (N := 2) rfl ?_); refine Zac ?hg (N := 2) ?hd (cs := #[.int .u16 a0_0, .int .u8 a0_1, .int .u8 a0_2, .int .u32 a0_3]) (t := 52) ?hr ?_; (case hd => rfl); (case hg => rfl); (case hr => go_simp <;> rfl); intro gb495 hg w22 hbox hb; have BK495 := Za.mk (hbox); have GW495 := Za.mk ((by rw [hg]; exact (Zl (by with_reducible repeat first | exact HB.out | apply Zc | apply Ze | apply Zd)) : w.heap.size ≤ gb495)); have GE495 := Za.mk ((by rw [hg]; exact (Zl (by with_reducible repeat first | exact HB.out | apply Zc | apply Ze | apply Zd)) : w.heap.size ≤ gb495)); replace HB := Za.mk (Zo (by with_reducible repeat first | exact HB.out | apply Zc | apply Ze | apply Zd) hb); clear hb hbox hg) | ((with_reducible refine Zab (N := 3) rfl ?_); refine Zac ?hg (N := 3) ?hd (cs := #[.int .u16 a1_0, .int .u8 a1_1, .int .u8 a1_2, .int .u32 a1_3]) (t := 52) ?hr ?_; (case hd => rfl); (case hg => rfl); (case hr => go_simp <;> rfl); intro gb496 hg w23 hbox hb; have BK496 := Za.mk (hbox); have GW496 := Za.mk ((by rw [hg]; exact (Zl (by with_reducible repeat first | exact HB.out | apply Zc | apply Ze | apply Zd | refine Zk ?_ GE495.out)) : w.heap.size ≤ gb496)); have GE496 := Za.mk ((by rw [hg]; exact (Zl (by with_reducible repeat first | exact HB.out | apply Zc | apply Ze | apply Zd | refine Zk ?_ GE495.out)) : w.heap.size ≤ gb496)); replace HB := Za.mk (Zo (by with_reducible repeat first | exact HB.out | apply Zc | apply Ze | apply Zd | refine Zk ?_ GE495.out) hb); have NB495_496 := Za.mk ((by rw [hg]; exact Nat.ne_of_lt (Zs (g := gb495) (o := .cells #[.int .u16 a0_0, .int .u8 a0_1, .int .u8 a0_2, .int .u32 a0_3] 52 (0, 0)) (by (with_reducible repeat first | apply Zg | apply Zf | apply Zh); exact BK495.out)) : gb495 ≠ gb496)); have NB496_495 := Za.mk ((by rw [hg]; exact Nat.ne_of_gt (Zs (g := gb495) (o := .cells #[.int .u16 a0_0, .int .u8 a0_1, .int .u8 a0_2, .int .u32 a0_3] 52 (0, 0)) (by (with_reducible repeat first | apply Zg | apply Zf | apply Zh); exact BK495.out)) : gb496 ≠ gb495)); replace BK495 := Za.mk (Zp (g := gb495) (o := .cells #[.int .u16 a0_0, .int .u8 a0_1, .int .u8 a0_2, .int .u32 a0_3] 52 (0, 0)) (by (with_reducible repeat first | apply Zg | apply Zf | apply Zh); exact BK495.out) hb); clear hb hbox hg; have hnb24 := NB495_496.out; have hnc24 := NB496_495.out; have hcz25_0 : w23.cell? ⟨gb495, 0, none⟩ = some (.int .u16 a0_0) := (Zb BK495.out 0).trans rfl; have hcz25_1 : w23.cell? ⟨gb495, 1, none⟩ = some (.int .u8 a0_1) := (Zb BK495.out 1).trans rfl; have hcz25_2 : w23.cell? ⟨gb495, 2, none⟩ = some (.int .u8 a0_2) := (Zb BK495.out 2).trans rfl; have hcz25_3 : w23.cell? ⟨gb495, 3, none⟩ = some (.int .u32 a0_3) := (Zb BK495.out 3).trans rfl; have hfz25_0 := Zj BK495.out 0; have hfz25_1 := Zj BK495.out 1; have hfz25_2 := Zj BK495.out 2; have hfz25_3 := Zj BK495.out 3; have hcz26_0 : w23.cell? ⟨gb496, 0, none⟩ = some (.int .u16 a1_0) := (Zb BK496.out 0).trans rfl; have hcz26_1 : w23.cell? ⟨gb496, 1, none⟩ = some (.int .u8 a1_1) := (Zb BK496.out 1).trans rfl; have hcz26_2 : w23.cell? ⟨gb496, 2, none⟩ = some (.int .u8 a1_2) := (Zb BK496.out 2).trans rfl; have hcz26_3 : w23.cell? ⟨gb496, 3, none⟩ = some (.int .u32 a1_3) := (Zb BK496.out 3).trans rfl; have hfz26_0 := Zj BK496.out 0; have hfz26_1 := Zj BK496.out 1; have hfz26_2 := Zj BK496.out 2; have hfz26_3 := Zj BK496.out 3))
  go_ret
  exact ⟨by first | rfl | (simp [Zm, Zn] <;> rfl) | (simp [*, Zm, Zn] <;> rfl), by with_reducible repeat first | exact HB.out | apply Zc | apply Ze | apply Zd | refine Zk ?_ GE495.out | refine Zk ?_ GE496.out⟩
 rw [if_neg c3] at H
 have c3b0 : (a0_0 == a1_0) = false := beq_eq_false_iff_ne.mpr c3
 have c3b1 : (a0_0 != a1_0) = true := bne_iff_ne.mpr c3
 obtain rfl := Option.some.inj H
 go_enter Try.func21, Try.ntmps21
 go_wp2_with (first | ((with_reducible refine Zab (N := 2) rfl ?_); refine Zac ?hg (N := 2) ?hd (cs := #[.int .u16 a0_0, .int .u8 a0_1, .int .u8 a0_2, .int .u32 a0_3]) (t := 52) ?hr ?_; (case hd => rfl); (case hg => rfl); (case hr => go_simp <;> rfl); intro gb495 hg w27 hbox hb; have BK495 := Za.mk (hbox); have GW495 := Za.mk ((by rw [hg]; exact (Zl (by with_reducible repeat first | exact HB.out | apply Zc | apply Ze | apply Zd)) : w.heap.size ≤ gb495)); have GE495 := Za.mk ((by rw [hg]; exact (Zl (by with_reducible repeat first | exact HB.out | apply Zc | apply Ze | apply Zd)) : w.heap.size ≤ gb495)); replace HB := Za.mk (Zo (by with_reducible repeat first | exact HB.out | apply Zc | apply Ze | apply Zd) hb); clear hb hbox hg) | ((with_reducible refine Zab (N := 3) rfl ?_); refine Zac ?hg (N := 3) ?hd (cs := #[.int .u16 a1_0, .int .u8 a1_1, .int .u8 a1_2, .int .u32 a1_3]) (t := 52) ?hr ?_; (case hd => rfl); (case hg => rfl); (case hr => go_simp <;> rfl); intro gb496 hg w28 hbox hb; have BK496 := Za.mk (hbox); have GW496 := Za.mk ((by rw [hg]; exact (Zl (by with_reducible repeat first | exact HB.out | apply Zc | apply Ze | apply Zd | refine Zk ?_ GE495.out)) : w.heap.size ≤ gb496)); have GE496 := Za.mk ((by rw [hg]; exact (Zl (by with_reducible repeat first | exact HB.out | apply Zc | apply Ze | apply Zd | refine Zk ?_ GE495.out)) : w.heap.size ≤ gb496)); replace HB := Za.mk (Zo (by with_reducible repeat first | exact HB.out | apply Zc | apply Ze | apply Zd | refine Zk ?_ GE495.out) hb); have NB495_496 := Za.mk ((by rw [hg]; exact Nat.ne_of_lt (Zs (g := gb495) (o := .cells #[.int .u16 a0_0, .int .u8 a0_1, .int .u8 a0_2, .int .u32 a0_3] 52 (0, 0)) (by (with_reducible repeat first | apply Zg | apply Zf | apply Zh); exact BK495.out)) : gb495 ≠ gb496)); have NB496_495 := Za.mk ((by rw [hg]; exact Nat.ne_of_gt (Zs (g := gb495) (o := .cells #[.int .u16 a0_0, .int .u8 a0_1, .int .u8 a0_2, .int .u32 a0_3] 52 (0, 0)) (by (with_reducible repeat first | apply Zg | apply Zf | apply Zh); exact BK495.out)) : gb496 ≠ gb495)); replace BK495 := Za.mk (Zp (g := gb495) (o := .cells #[.int .u16 a0_0, .int .u8 a0_1, .int .u8 a0_2, .int .u32 a0_3] 52 (0, 0)) (by (with_reducible repeat first | apply Zg | apply Zf | apply Zh); exact BK495.out) hb); clear hb hbox hg; have hnb29 := NB495_496.out; have hnc29 := NB496_495.out; have hcz30_0 : w28.cell? ⟨gb495, 0, none⟩ = some (.int .u16 a0_0) := (Zb BK495.out 0).trans rfl; have hcz30_1 : w28.cell? ⟨gb495, 1, none⟩ = some (.int .u8 a0_1) := (Zb BK495.out 1).trans rfl; have hcz30_2 : w28.cell? ⟨gb495, 2, none⟩ = some (.int .u8 a0_2) := (Zb BK495.out 2).trans rfl; have hcz30_3 : w28.cell? ⟨gb495, 3, none⟩ = some (.int .u32 a0_3) := (Zb BK495.out 3).trans rfl; have hfz30_0 := Zj BK495.out 0; have hfz30_1 := Zj BK495.out 1; have hfz30_2 := Zj BK495.out 2; have hfz30_3 := Zj BK495.out 3; have hcz31_0 : w28.cell? ⟨gb496, 0, none⟩ = some (.int .u16 a1_0) := (Zb BK496.out 0).trans rfl; have hcz31_1 : w28.cell? ⟨gb496, 1, none⟩ = some (.int .u8 a1_1) := (Zb BK496.out 1).trans rfl; have hcz31_2 : w28.cell? ⟨gb496, 2, none⟩ = some (.int .u8 a1_2) := (Zb BK496.out 2).trans rfl; have hcz31_3 : w28.cell? ⟨gb496, 3, none⟩ = some (.int .u32 a1_3) := (Zb BK496.out 3).trans rfl; have hfz31_0 := Zj BK496.out 0; have hfz31_1 := Zj BK496.out 1; have hfz31_2 := Zj BK496.out 2; have hfz31_3 := Zj BK496.out 3))
 go_ret
 exact ⟨by first | rfl | (simp [Zm, Zn] <;> rfl) | (simp [*, Zm, Zn] <;> rfl), by with_reducible repeat first | exact HB.out | apply Zc | apply Ze | apply Zd | refine Zk ?_ GE495.out | refine Zk ?_ GE496.out⟩

end Go.Proofs.Ytgmbahldjiiajaa.P
