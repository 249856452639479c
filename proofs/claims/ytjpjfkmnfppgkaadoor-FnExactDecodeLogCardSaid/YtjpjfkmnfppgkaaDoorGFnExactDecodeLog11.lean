import Derived.Test.YtjpjfkmnfppgkaaDoorGFnExactDecodeLog5
import Derived.Test.YtjpjfkmnfppgkaaDoorGFnExactDecodeLog7
import Derived.Handy
import Derived.WalkSmall
import Derived.Test.YtjpjfkmnfppgkaaDoorGFnExactDecodeLog6
import Derived.Test.YtjpjfkmnfppgkaaDoorGFnExactDecodeLog10
import Derived.Deep.RegionHeld3
import Derived.Deep.DeepCutAuto
import Derived.IntWalk
namespace Go.Proofs.YtjpjfkmnfppgkaaDoor.P
open Go.RowKit Go.Proofs.YtjpjfkmnfppgkaaDoorW.PrintWords Go.Proofs.YtjpjfkmnfppgkaaDoorW.PrintLast Go.Proofs.YtjpjfkmnfppgkaaDoorW.PrintMore
set_option linter.unusedVariables false
set_option linter.unusedSimpArgs false

/-! The reader's fault and its head: each way by itself. -/
/-- What stands behind a call of the reader's: all as it was, but for the reader's own block. -/
structure KB (w w' : World) (B : Nat) : Prop where
  lt : B < w.heap.size
  keep : KeepBut w w' B none
  bel : ∀ b, b ≤ B → Below b w w'
theorem KB.refl {w : World} {B : Nat} (h : B < w.heap.size) : KB w w B := ⟨h, KeepBut.refl w B none, fun b _ => Below.refl b w⟩
theorem KB.of_below {w w' : World} {B : Nat} (hb : Below w.heap.size w w') (h : B < w.heap.size) : KB w w' B := ⟨h, KeepBut.of_below hb B none, fun b hB => hb.mono (by omega)⟩
theorem KB.set {w w' : World} {B : Nat} (h : KB w w' B) (j : Nat) (u : Value) : KB w (w'.setCell ⟨B, j, none⟩ u) B := ⟨h.lt, h.keep.set_ j u, fun b hB => (h.bel b hB).setCell (p := ⟨B, j, none⟩) hB u⟩
theorem KB.far {w w' : World} {B : Nat} (h : KB w w' B) {p : Addr} (hp : w.heap.size ≤ p.block) (u : Value) : KB w (w'.setCell p u) B := ⟨h.lt, keep_far h.keep hp u, fun b hB => (h.bel b hB).setCell (p := p) (by have := h.lt; omega) u⟩
theorem KB.trans {w W w' : World} {B : Nat} (h : KB w W B) (k : KB W w' B) : KB w w' B := ⟨h.lt, h.keep.trans k.keep (.inl rfl), fun b hB => (h.bel b hB).trans (k.bel b hB)⟩
theorem KB.below {w W w' : World} {B b : Nat} (h : KB w W B) (hb : Below b W w') (hw : w.heap.size ≤ b) : KB w w' B :=
  ⟨h.lt, ⟨Nat.le_trans h.keep.1 hb.size, fun i hi hne hr => (hb.block i (Nat.lt_of_lt_of_le hi hw)).trans (h.keep.2 i hi hne hr)⟩, fun c hc => (h.bel c hc).trans (hb.mono (by have := h.lt; omega))⟩
theorem KB.alloc {w W : World} {B : Nat} (h : KB w W B) (o : Obj) : KB w (W.alloc o) B := h.below (below_alloc (Below.refl _ _) o) h.keep.1
theorem KB.drewN {w W : World} {B : Nat} (h : KB w W B) (n : Nat) : KB w (W.drewN n) B := h.below (pw_below_drewN (Below.refl _ _) n) h.keep.1
def chainE (c o : Int) : List PanicEntry := [{ v := .iface 56 (.agg #[.int .i64 c, .int .i64 o]), recovered := false }]
theorem fail_does (a : Value) (c o : Int) (w : World) : Calls Tryd.prog 47 #[a, .int .i64 c, .int .i64 o] w fun e w' => e = .panicked (chainE c o) ∧ w' = w := by
  unfold chainE
  go_enter Tryd.func47, Tryd.ntmps47
  go_wp2
  exact ⟨rfl, rfl, rfl⟩
theorem head_short (B : Nat) (A0 : Option Addr) (c0 n : Nat) (w : World) (hb : w.cell? ⟨B, 0, none⟩ = some (.slice A0 n c0)) (h : n < 7) :
    Calls Tryd.prog 45 #[.pointer (some ⟨B, 0, none⟩)] w fun e w' => e = .panicked (chainE 5 n) ∧ w' = w := by
  have h1 : decide ((n : Int) < 7) = true := decide_eq_true (by omega)
  go_enter Tryd.func45, Tryd.ntmps45
  go_wp2_with (go_at_call 47; refine (fail_does _ _ _ _).mono ?_; rintro e w' ⟨rfl, rfl⟩)
  exact ⟨rfl, rfl, rfl⟩
set_option maxHeartbeats 4000000 in
set_option maxRecDepth 100000 in
theorem head_bad0 (B : Nat) (R : Addr) (c0 n : Nat) (b0 b1 b2 b3 b4 b5 b6 at0 : Int) (w : World) (hb : w.cell? ⟨B, 0, none⟩ = some (.slice (some R) n c0)) (h7 : 7 ≤ n) (hR : R.block < w.heap.size) (hB : B < w.heap.size)
    (h0 : w.cell? R = some (.int .u8 b0)) (h1 : w.cell? ⟨R.block, R.off + 1, none⟩ = some (.int .u8 b1)) (h2 : w.cell? ⟨R.block, R.off + 2, none⟩ = some (.int .u8 b2)) (h3 : w.cell? ⟨R.block, R.off + 3, none⟩ = some (.int .u8 b3)) (h4 : w.cell? ⟨R.block, R.off + 4, none⟩ = some (.int .u8 b4)) (h5 : w.cell? ⟨R.block, R.off + 5, none⟩ = some (.int .u8 b5)) (h6 : w.cell? ⟨R.block, R.off + 6, none⟩ = some (.int .u8 b6)) (hn : (b0 != 67) = true) :
    Calls Tryd.prog 45 #[.pointer (some ⟨B, 0, none⟩)] w fun e w' => e = .panicked (chainE 2 0) ∧ Below w.heap.size w w' := by
  have g1 : decide ((n : Int) < 7) = false := decide_eq_false (by omega)
  have g2 : 0 < n := by omega
  have g3 : 1 < n := by omega
  have g4 : 2 < n := by omega
  have g5 : 3 < n := by omega
  have g6 : 4 < n := by omega
  have g7 : 5 < n := by omega
  have g8 : 6 < n := by omega
  go_enter Tryd.func45, Tryd.ntmps45
  go_wp2
  refine wp_loop_rounds 5 ?_
  rw [rounds_succ]
  go_wp2_with (go_at_call 47; refine (fail_does _ _ _ _).mono ?_; rintro e w' ⟨rfl, rfl⟩)
  exact ⟨rfl, rfl, below_alloc (Below.refl _ _) _⟩

set_option maxHeartbeats 4000000 in
set_option maxRecDepth 100000 in
theorem head_bad1 (B : Nat) (R : Addr) (c0 n : Nat) (b0 b1 b2 b3 b4 b5 b6 at0 : Int) (w : World) (hb : w.cell? ⟨B, 0, none⟩ = some (.slice (some R) n c0)) (h7 : 7 ≤ n) (hR : R.block < w.heap.size) (hB : B < w.heap.size)
    (h0 : w.cell? R = some (.int .u8 b0)) (h1 : w.cell? ⟨R.block, R.off + 1, none⟩ = some (.int .u8 b1)) (h2 : w.cell? ⟨R.block, R.off + 2, none⟩ = some (.int .u8 b2)) (h3 : w.cell? ⟨R.block, R.off + 3, none⟩ = some (.int .u8 b3)) (h4 : w.cell? ⟨R.block, R.off + 4, none⟩ = some (.int .u8 b4)) (h5 : w.cell? ⟨R.block, R.off + 5, none⟩ = some (.int .u8 b5)) (h6 : w.cell? ⟨R.block, R.off + 6, none⟩ = some (.int .u8 b6)) (he : b0 = 67) (hn : (b1 != 76) = true) :
    Calls Tryd.prog 45 #[.pointer (some ⟨B, 0, none⟩)] w fun e w' => e = .panicked (chainE 2 1) ∧ Below w.heap.size w w' := by
  obtain rfl := he
  have g1 : decide ((n : Int) < 7) = false := decide_eq_false (by omega)
  have g2 : 0 < n := by omega
  have g3 : 1 < n := by omega
  have g4 : 2 < n := by omega
  have g5 : 3 < n := by omega
  have g6 : 4 < n := by omega
  have g7 : 5 < n := by omega
  have g8 : 6 < n := by omega
  go_enter Tryd.func45, Tryd.ntmps45
  go_wp2
  refine wp_loop_rounds 5 ?_
  rw [rounds_succ]
  go_wp2_with (go_at_call 47; refine (fail_does _ _ _ _).mono ?_; rintro e w' ⟨rfl, rfl⟩)
  rw [rounds_succ]
  go_wp2_with (go_at_call 47; refine (fail_does _ _ _ _).mono ?_; rintro e w' ⟨rfl, rfl⟩)
  exact ⟨rfl, rfl, below_alloc (Below.refl _ _) _⟩

set_option maxHeartbeats 4000000 in
set_option maxRecDepth 100000 in
theorem head_bad2 (B : Nat) (R : Addr) (c0 n : Nat) (b0 b1 b2 b3 b4 b5 b6 at0 : Int) (w : World) (hb : w.cell? ⟨B, 0, none⟩ = some (.slice (some R) n c0)) (h7 : 7 ≤ n) (hR : R.block < w.heap.size) (hB : B < w.heap.size)
    (h0 : w.cell? R = some (.int .u8 b0)) (h1 : w.cell? ⟨R.block, R.off + 1, none⟩ = some (.int .u8 b1)) (h2 : w.cell? ⟨R.block, R.off + 2, none⟩ = some (.int .u8 b2)) (h3 : w.cell? ⟨R.block, R.off + 3, none⟩ = some (.int .u8 b3)) (h4 : w.cell? ⟨R.block, R.off + 4, none⟩ = some (.int .u8 b4)) (h5 : w.cell? ⟨R.block, R.off + 5, none⟩ = some (.int .u8 b5)) (h6 : w.cell? ⟨R.block, R.off + 6, none⟩ = some (.int .u8 b6)) (he : b0 = 67 ∧ b1 = 76) (hn : (b2 != 79) = true) :
    Calls Tryd.prog 45 #[.pointer (some ⟨B, 0, none⟩)] w fun e w' => e = .panicked (chainE 2 2) ∧ Below w.heap.size w w' := by
  obtain ⟨rfl, rfl⟩ := he
  have g1 : decide ((n : Int) < 7) = false := decide_eq_false (by omega)
  have g2 : 0 < n := by omega
  have g3 : 1 < n := by omega
  have g4 : 2 < n := by omega
  have g5 : 3 < n := by omega
  have g6 : 4 < n := by omega
  have g7 : 5 < n := by omega
  have g8 : 6 < n := by omega
  go_enter Tryd.func45, Tryd.ntmps45
  go_wp2
  refine wp_loop_rounds 5 ?_
  rw [rounds_succ]
  go_wp2_with (go_at_call 47; refine (fail_does _ _ _ _).mono ?_; rintro e w' ⟨rfl, rfl⟩)
  rw [rounds_succ]
  go_wp2_with (go_at_call 47; refine (fail_does _ _ _ _).mono ?_; rintro e w' ⟨rfl, rfl⟩)
  rw [rounds_succ]
  go_wp2_with (go_at_call 47; refine (fail_does _ _ _ _).mono ?_; rintro e w' ⟨rfl, rfl⟩)
  exact ⟨rfl, rfl, below_alloc (Below.refl _ _) _⟩

set_option maxHeartbeats 4000000 in
set_option maxRecDepth 100000 in
theorem head_bad3 (B : Nat) (R : Addr) (c0 n : Nat) (b0 b1 b2 b3 b4 b5 b6 at0 : Int) (w : World) (hb : w.cell? ⟨B, 0, none⟩ = some (.slice (some R) n c0)) (h7 : 7 ≤ n) (hR : R.block < w.heap.size) (hB : B < w.heap.size)
    (h0 : w.cell? R = some (.int .u8 b0)) (h1 : w.cell? ⟨R.block, R.off + 1, none⟩ = some (.int .u8 b1)) (h2 : w.cell? ⟨R.block, R.off + 2, none⟩ = some (.int .u8 b2)) (h3 : w.cell? ⟨R.block, R.off + 3, none⟩ = some (.int .u8 b3)) (h4 : w.cell? ⟨R.block, R.off + 4, none⟩ = some (.int .u8 b4)) (h5 : w.cell? ⟨R.block, R.off + 5, none⟩ = some (.int .u8 b5)) (h6 : w.cell? ⟨R.block, R.off + 6, none⟩ = some (.int .u8 b6)) (he : b0 = 67 ∧ b1 = 76 ∧ b2 = 79) (hn : (b3 != 71) = true) :
    Calls Tryd.prog 45 #[.pointer (some ⟨B, 0, none⟩)] w fun e w' => e = .panicked (chainE 2 3) ∧ Below w.heap.size w w' := by
  obtain ⟨rfl, rfl, rfl⟩ := he
  have g1 : decide ((n : Int) < 7) = false := decide_eq_false (by omega)
  have g2 : 0 < n := by omega
  have g3 : 1 < n := by omega
  have g4 : 2 < n := by omega
  have g5 : 3 < n := by omega
  have g6 : 4 < n := by omega
  have g7 : 5 < n := by omega
  have g8 : 6 < n := by omega
  go_enter Tryd.func45, Tryd.ntmps45
  go_wp2
  refine wp_loop_rounds 5 ?_
  rw [rounds_succ]
  go_wp2_with (go_at_call 47; refine (fail_does _ _ _ _).mono ?_; rintro e w' ⟨rfl, rfl⟩)
  rw [rounds_succ]
  go_wp2_with (go_at_call 47; refine (fail_does _ _ _ _).mono ?_; rintro e w' ⟨rfl, rfl⟩)
  rw [rounds_succ]
  go_wp2_with (go_at_call 47; refine (fail_does _ _ _ _).mono ?_; rintro e w' ⟨rfl, rfl⟩)
  rw [rounds_succ]
  go_wp2_with (go_at_call 47; refine (fail_does _ _ _ _).mono ?_; rintro e w' ⟨rfl, rfl⟩)
  exact ⟨rfl, rfl, below_alloc (Below.refl _ _) _⟩

set_option maxHeartbeats 4000000 in
set_option maxRecDepth 100000 in
theorem head_ver (B : Nat) (R : Addr) (c0 n : Nat) (b0 b1 b2 b3 b4 b5 b6 at0 : Int) (w : World) (hb : w.cell? ⟨B, 0, none⟩ = some (.slice (some R) n c0)) (h7 : 7 ≤ n) (hR : R.block < w.heap.size) (hB : B < w.heap.size)
    (h0 : w.cell? R = some (.int .u8 b0)) (h1 : w.cell? ⟨R.block, R.off + 1, none⟩ = some (.int .u8 b1)) (h2 : w.cell? ⟨R.block, R.off + 2, none⟩ = some (.int .u8 b2)) (h3 : w.cell? ⟨R.block, R.off + 3, none⟩ = some (.int .u8 b3)) (h4 : w.cell? ⟨R.block, R.off + 4, none⟩ = some (.int .u8 b4)) (h5 : w.cell? ⟨R.block, R.off + 5, none⟩ = some (.int .u8 b5)) (h6 : w.cell? ⟨R.block, R.off + 6, none⟩ = some (.int .u8 b6)) (he : b0 = 67 ∧ b1 = 76 ∧ b2 = 79 ∧ b3 = 71) (hn : (b4 != 1) = true) :
    Calls Tryd.prog 45 #[.pointer (some ⟨B, 0, none⟩)] w fun e w' => e = .panicked (chainE 3 4) ∧ Below w.heap.size w w' := by
  obtain ⟨rfl, rfl, rfl, rfl⟩ := he
  have g1 : decide ((n : Int) < 7) = false := decide_eq_false (by omega)
  have g2 : 0 < n := by omega
  have g3 : 1 < n := by omega
  have g4 : 2 < n := by omega
  have g5 : 3 < n := by omega
  have g6 : 4 < n := by omega
  have g7 : 5 < n := by omega
  have g8 : 6 < n := by omega
  go_enter Tryd.func45, Tryd.ntmps45
  go_wp2
  refine wp_loop_rounds 5 ?_
  rw [rounds_succ]
  go_wp2_with (go_at_call 47; refine (fail_does _ _ _ _).mono ?_; rintro e w' ⟨rfl, rfl⟩)
  rw [rounds_succ]
  go_wp2_with (go_at_call 47; refine (fail_does _ _ _ _).mono ?_; rintro e w' ⟨rfl, rfl⟩)
  rw [rounds_succ]
  go_wp2_with (go_at_call 47; refine (fail_does _ _ _ _).mono ?_; rintro e w' ⟨rfl, rfl⟩)
  rw [rounds_succ]
  go_wp2_with (go_at_call 47; refine (fail_does _ _ _ _).mono ?_; rintro e w' ⟨rfl, rfl⟩)
  rw [rounds_succ]
  go_wp2_with (go_at_call 47; refine (fail_does _ _ _ _).mono ?_; rintro e w' ⟨rfl, rfl⟩)
  exact ⟨rfl, rfl, below_alloc (Below.refl _ _) _⟩

set_option maxHeartbeats 4000000 in
set_option maxRecDepth 100000 in
theorem head_count (B : Nat) (R : Addr) (c0 n : Nat) (b0 b1 b2 b3 b4 b5 b6 at0 : Int) (w : World) (hb : w.cell? ⟨B, 0, none⟩ = some (.slice (some R) n c0)) (h7 : 7 ≤ n) (hR : R.block < w.heap.size) (hB : B < w.heap.size)
    (h0 : w.cell? R = some (.int .u8 b0)) (h1 : w.cell? ⟨R.block, R.off + 1, none⟩ = some (.int .u8 b1)) (h2 : w.cell? ⟨R.block, R.off + 2, none⟩ = some (.int .u8 b2)) (h3 : w.cell? ⟨R.block, R.off + 3, none⟩ = some (.int .u8 b3)) (h4 : w.cell? ⟨R.block, R.off + 4, none⟩ = some (.int .u8 b4)) (h5 : w.cell? ⟨R.block, R.off + 5, none⟩ = some (.int .u8 b5)) (h6 : w.cell? ⟨R.block, R.off + 6, none⟩ = some (.int .u8 b6)) (he : b0 = 67 ∧ b1 = 76 ∧ b2 = 79 ∧ b3 = 71) (hn : b4 = 1) (hc : decide (bits .or .i64 (wrap64 b5) (wrap64 (wrap64 b6 * 256)) > 1000) = true) :
    Calls Tryd.prog 45 #[.pointer (some ⟨B, 0, none⟩)] w fun e w' => e = .panicked (chainE 4 5) ∧ Below w.heap.size w w' := by
  obtain ⟨rfl, rfl, rfl, rfl⟩ := he
  subst hn
  have g1 : decide ((n : Int) < 7) = false := decide_eq_false (by omega)
  have g2 : 0 < n := by omega
  have g3 : 1 < n := by omega
  have g4 : 2 < n := by omega
  have g5 : 3 < n := by omega
  have g6 : 4 < n := by omega
  have g7 : 5 < n := by omega
  have g8 : 6 < n := by omega
  go_enter Tryd.func45, Tryd.ntmps45
  go_wp2
  refine wp_loop_rounds 5 ?_
  rw [rounds_succ]
  go_wp2_with (go_at_call 47; refine (fail_does _ _ _ _).mono ?_; rintro e w' ⟨rfl, rfl⟩)
  rw [rounds_succ]
  go_wp2_with (go_at_call 47; refine (fail_does _ _ _ _).mono ?_; rintro e w' ⟨rfl, rfl⟩)
  rw [rounds_succ]
  go_wp2_with (go_at_call 47; refine (fail_does _ _ _ _).mono ?_; rintro e w' ⟨rfl, rfl⟩)
  rw [rounds_succ]
  go_wp2_with (go_at_call 47; refine (fail_does _ _ _ _).mono ?_; rintro e w' ⟨rfl, rfl⟩)
  rw [rounds_succ]
  go_wp2_with (go_at_call 47; refine (fail_does _ _ _ _).mono ?_; rintro e w' ⟨rfl, rfl⟩)
  go_quiet (fail)
  go_wp2_with (go_at_call 47; refine (fail_does _ _ _ _).mono ?_; rintro e w' ⟨rfl, rfl⟩)
  exact ⟨rfl, rfl, pw_below_drewN (below_alloc (Below.refl _ _) _) _⟩

set_option maxHeartbeats 4000000 in
set_option maxRecDepth 100000 in
theorem head_ok (B : Nat) (R : Addr) (c0 n : Nat) (b0 b1 b2 b3 b4 b5 b6 at0 : Int) (w : World) (hb : w.cell? ⟨B, 0, none⟩ = some (.slice (some R) n c0)) (h7 : 7 ≤ n) (hR : R.block < w.heap.size) (hB : B < w.heap.size)
    (h0 : w.cell? R = some (.int .u8 b0)) (h1 : w.cell? ⟨R.block, R.off + 1, none⟩ = some (.int .u8 b1)) (h2 : w.cell? ⟨R.block, R.off + 2, none⟩ = some (.int .u8 b2)) (h3 : w.cell? ⟨R.block, R.off + 3, none⟩ = some (.int .u8 b3)) (h4 : w.cell? ⟨R.block, R.off + 4, none⟩ = some (.int .u8 b4)) (h5 : w.cell? ⟨R.block, R.off + 5, none⟩ = some (.int .u8 b5)) (h6 : w.cell? ⟨R.block, R.off + 6, none⟩ = some (.int .u8 b6)) (he : b0 = 67 ∧ b1 = 76 ∧ b2 = 79 ∧ b3 = 71) (hn : b4 = 1) (cnt : Int) (hcnt : bits .or .i64 (wrap64 b5) (wrap64 (wrap64 b6 * 256)) = cnt) (hc : decide (cnt > 1000) = false) (ht : w.cell? ⟨B, 1, none⟩ = some (.int .i64 at0)) (hf : w.frozen? ⟨B, 1, none⟩ = false) :
    Calls Tryd.prog 45 #[.pointer (some ⟨B, 0, none⟩)] w fun e w' => e = .returned (.int .i64 cnt) ∧ ∃ w1, Below w.heap.size w w1 ∧ w' = w1.setCell ⟨B, 1, none⟩ (.int .i64 7) := by
  obtain ⟨rfl, rfl, rfl, rfl⟩ := he
  subst hn
  have g1 : decide ((n : Int) < 7) = false := decide_eq_false (by omega)
  have g2 : 0 < n := by omega
  have g3 : 1 < n := by omega
  have g4 : 2 < n := by omega
  have g5 : 3 < n := by omega
  have g6 : 4 < n := by omega
  have g7 : 5 < n := by omega
  have g8 : 6 < n := by omega
  go_enter Tryd.func45, Tryd.ntmps45
  go_wp2
  refine wp_loop_rounds 5 ?_
  rw [rounds_succ]
  go_wp2_with (go_at_call 47; refine (fail_does _ _ _ _).mono ?_; rintro e w' ⟨rfl, rfl⟩)
  rw [rounds_succ]
  go_wp2_with (go_at_call 47; refine (fail_does _ _ _ _).mono ?_; rintro e w' ⟨rfl, rfl⟩)
  rw [rounds_succ]
  go_wp2_with (go_at_call 47; refine (fail_does _ _ _ _).mono ?_; rintro e w' ⟨rfl, rfl⟩)
  rw [rounds_succ]
  go_wp2_with (go_at_call 47; refine (fail_does _ _ _ _).mono ?_; rintro e w' ⟨rfl, rfl⟩)
  rw [rounds_succ]
  go_wp2_with (go_at_call 47; refine (fail_does _ _ _ _).mono ?_; rintro e w' ⟨rfl, rfl⟩)
  go_quiet (fail)
  go_wp2
  go_ret
  exact ⟨rfl, _, pw_below_drewN (below_alloc (Below.refl _ _) _) _, rfl⟩

end Go.Proofs.YtjpjfkmnfppgkaaDoor.P

namespace Go.Proofs.YtjpjfkmnfppgkaaDoor.P
open Go.RowKit Go.Proofs.YtjpjfkmnfppgkaaDoorW.PrintWords Go.Proofs.YtjpjfkmnfppgkaaDoorW.PrintLast Go.Proofs.YtjpjfkmnfppgkaaDoorW.PrintMore
set_option linter.unusedVariables false
set_option linter.unusedSimpArgs false

/-! The reader's call: each way by itself. -/
theorem cell_alR {W : World} {o : Obj} {p : Addr} {v : Value} (h : W.cell? p = some v) : (W.alloc o).cell? p = some v := (World.cell?_alloc_lt _ _ _ (World.block_lt_of_cell? _ _ h)).trans h
theorem res_call {t : Array Value} {W : World} {g : Nat} {a b : Int} {v : Value} (ht : t[2]? = some (.pointer (some ⟨g, 0, none⟩))) (h : W.heap[g]? = some (.cells #[.int .u32 a, .int .u32 b, v] 28 (0, 0))) :
    (results Tryd.f46 t).run Tryd.prog W = .ok (.agg #[.int .u32 a, .int .u32 b, v]) W := by
  have e0 : W.cell? ⟨g, 0, none⟩ = some (.int .u32 a) := blk_cell h 0
  have e1 : W.cell? ⟨g, 1, none⟩ = some (.int .u32 b) := blk_cell h 1
  have e2 : W.cell? ⟨g, 2, none⟩ = some v := blk_cell h 2
  clear h
  simp [results, Tryd.results46, go_sem, ht, e0, e1, e2]
/-- A reader of a log in memory. -/
structure RdAt (w : World) (B : Nat) (A0 : Option Addr) (c0 : Nat) (l : List Int) (o : Int) : Prop where
  hb : w.cell? ⟨B, 0, none⟩ = some (.slice A0 l.length c0)
  ht : w.cell? ⟨B, 1, none⟩ = some (.int .i64 o)
  hf : w.frozen? ⟨B, 1, none⟩ = false
  hl : Kd.C (Kd.int .u8) w A0 l.length l
  hc : l.length ≤ c0
  hn : l.length ≤ 140737488355328
theorem RdAt.lt {w : World} {B : Nat} {A0 : Option Addr} {c0 : Nat} {l : List Int} {o : Int} (h : RdAt w B A0 c0 l o) : B < w.heap.size := World.block_lt_of_cell? w ⟨B, 0, none⟩ h.hb
set_option maxHeartbeats 4000000 in
set_option maxRecDepth 100000 in
theorem call_short (B : Nat) (A0 : Option Addr) (c0 : Nat) (l : List Int) (w : World) (h : RdAt w B A0 c0 l l.length) :
    Calls Tryd.prog 46 #[.pointer (some ⟨B, 0, none⟩)] w fun e w' => e = .panicked (chainE 5 l.length) ∧ Below w.heap.size w w' := by
  have hb := h.hb
  have ht := h.ht
  have hlt := h.lt
  have hn := h.hn
  clear h
  go_enter Tryd.func46, Tryd.ntmps46
  go_wp2
  go_quiet (fail)
  go_wp2_with (go_at_call 47; refine (fail_does _ _ _ _).mono ?_; rintro e w' ⟨rfl, rfl⟩)
  exact ⟨rfl, rfl, pw_below_drewN (below_alloc (Below.refl _ _) _) _⟩
set_option maxHeartbeats 4000000 in
set_option maxRecDepth 100000 in
theorem call_len (B : Nat) (R : Addr) (c0 n o : Nat) (x : Int) (w : World) (hb : w.cell? ⟨B, 0, none⟩ = some (.slice (some R) n c0)) (ht : w.cell? ⟨B, 1, none⟩ = some (.int .i64 o)) (hlt : B < w.heap.size) (hlR : R.block < w.heap.size) (hn : n ≤ 140737488355328) (ho : o < n)
    (hx : w.cell? (R.add o) = some (.int .u8 x)) (hm : (decide (wrap64 x < 8) || decide (wrap64 x > 70)) = true) :
    Calls Tryd.prog 46 #[.pointer (some ⟨B, 0, none⟩)] w fun e w' => e = .panicked (chainE 6 o) ∧ Below w.heap.size w w' := by
  have h1 : ((o : Int) == (n : Int)) = false := by rw [beq_eq_false_iff_ne]; omega
  have h2 : (o == n) = false := by rw [beq_eq_false_iff_ne]; omega
  have h3 : ¬ o = n := by omega
  have hxa := cell_alR (o := .cells #[.int .u32 0, .int .u32 0, .slice none 0 0] 28) hx
  obtain ⟨m, hmm⟩ : ∃ m, wrap64 x = m := ⟨_, rfl⟩
  rw [hmm] at hm
  by_cases hm1 : m < 8
  · have g1 : decide (m < 8) = true := decide_eq_true hm1
    clear hm
    go_enter Tryd.func46, Tryd.ntmps46
    go_wp2
    go_quiet (fail)
    go_wp2_with (go_at_call 47; refine (fail_does _ _ _ _).mono ?_; rintro e w' ⟨rfl, rfl⟩)
    exact ⟨rfl, rfl, pw_below_drewN (below_alloc (Below.refl _ _) _) _⟩
  · have g1 : decide (m < 8) = false := decide_eq_false hm1
    have g2 : decide (m > 70) = true := by rw [g1, Bool.false_or] at hm; exact hm
    have g2' : decide (70 < m) = true := g2
    clear hm
    go_enter Tryd.func46, Tryd.ntmps46
    go_wp2
    go_quiet (fail)
    go_wp2_with (go_at_call 47; refine (fail_does _ _ _ _).mono ?_; rintro e w' ⟨rfl, rfl⟩)
    exact ⟨rfl, rfl, pw_below_drewN (below_alloc (Below.refl _ _) _) _⟩
set_option maxHeartbeats 4000000 in
set_option maxRecDepth 100000 in
theorem call_short2 (B : Nat) (R : Addr) (c0 n o m : Nat) (x : Int) (w : World) (hb : w.cell? ⟨B, 0, none⟩ = some (.slice (some R) n c0)) (ht : w.cell? ⟨B, 1, none⟩ = some (.int .i64 o)) (hlt : B < w.heap.size) (hlR : R.block < w.heap.size) (hn : n ≤ 140737488355328) (ho : o < n)
    (hx : w.cell? (R.add o) = some (.int .u8 x)) (hm : wrap64 x = m) (h8 : 8 ≤ m) (h70 : m ≤ 70) (hs : n < o + 1 + m + 4) :
    Calls Tryd.prog 46 #[.pointer (some ⟨B, 0, none⟩)] w fun e w' => e = .panicked (chainE 5 n) ∧ Below w.heap.size w w' := by
  have h1 : ((o : Int) == (n : Int)) = false := by rw [beq_eq_false_iff_ne]; omega
  have h2 : (o == n) = false := by rw [beq_eq_false_iff_ne]; omega
  have h3 : ¬ o = n := by omega
  have hxa := cell_alR (o := .cells #[.int .u32 0, .int .u32 0, .slice none 0 0] 28) hx
  have g1 : decide ((m : Int) < 8) = false := decide_eq_false (by omega)
  have g2 : decide ((m : Int) > 70) = false := decide_eq_false (by omega)
  have g3 : decide ((n : Int) - o - 1 < (m : Int) + 4) = true := decide_eq_true (by omega)
  have g4 : 0 ≤ (n : Int) - o := by omega
  have g5 : 0 ≤ (n : Int) - o - 1 := by omega
  clear hs
  go_enter Tryd.func46, Tryd.ntmps46
  go_wp2
  go_quiet (fail)
  go_wp2_with (go_at_call 47; refine (fail_does _ _ _ _).mono ?_; rintro e w' ⟨rfl, rfl⟩)
  exact ⟨rfl, rfl, pw_below_drewN (below_alloc (Below.refl _ _) _) _⟩
set_option maxHeartbeats 8000000 in
set_option maxRecDepth 100000 in
theorem call_sum (k B : Nat) (R : Addr) (c0 o m : Nat) (l : List Int) (x s : Int) (s4 : List Int) (w : World) (hb : w.cell? ⟨B, 0, none⟩ = some (.slice (some R) l.length c0)) (ht : w.cell? ⟨B, 1, none⟩ = some (.int .i64 o)) (hlt : B < w.heap.size) (hlR : R.block < w.heap.size) (hn : l.length ≤ 140737488355328)
    (hl : Kd.C (Kd.int .u8) w (some R) l.length l) (hc : l.length ≤ c0)
    (hx : w.cell? (R.add o) = some (.int .u8 x)) (hm : wrap64 x = m) (h8 : 8 ≤ m) (h70 : m ≤ 70) (hs : o + 1 + m + 4 ≤ l.length)
    (hck : impl_Checksum.f k ((l.take (o + 1 + m)).drop (o + 1)) = some s) (hlo : impl_low.f k [] (IntKind.u64.wrap s) 4 = some s4) (heq : slices_Equal_byte_byte.f k s4 ((l.take (o + 5 + m)).drop (o + 1 + m)) = some false) :
    Calls Tryd.prog 46 #[.pointer (some ⟨B, 0, none⟩)] w fun e w' => e = .panicked (chainE 7 (o + 1 + m)) ∧ Below w.heap.size w w' := by
  have h1 : ((o : Int) == (l.length : Int)) = false := by rw [beq_eq_false_iff_ne]; omega
  have h2 : (o == l.length) = false := by rw [beq_eq_false_iff_ne]; omega
  have h3 : ¬ o = l.length := by omega
  have h4 : o < l.length := by omega
  have hxa := cell_alR (o := .cells #[.int .u32 0, .int .u32 0, .slice none 0 0] 28) hx
  have g1 : decide ((m : Int) < 8) = false := decide_eq_false (by omega)
  have g2 : decide ((m : Int) > 70) = false := decide_eq_false (by omega)
  have g3 : decide ((l.length : Int) - o - 1 < (m : Int) + 4) = false := decide_eq_false (by omega)
  have g4 : 0 ≤ (l.length : Int) - o := by omega
  have g5 : 0 ≤ (l.length : Int) - o - 1 := by omega
  obtain ⟨i1, hi1, _, hsz1, _⟩ := info_parts info5
  obtain ⟨A1, hcut1, hA1, hC1⟩ := print_mid_of (P := Tryd.prog) (Value.int .u8) 0 22 5 .i64 .i64 Tryd.underlying22 hi1 hsz1 (some R) c0 l ((o : Int) + 1) ((o : Int) + 1 + m) (by omega) (by omega) (by omega) hc
  have HR1 := Aside0.mk (Kd.C_of_reads (h1 := fun _ => rfl) (hA1 _ (Kd.reads_of_C hl)))
  obtain ⟨A2, hcut2, hA2, hC2⟩ := print_mid_of (P := Tryd.prog) (Value.int .u8) 0 22 5 .i64 .i64 Tryd.underlying22 hi1 hsz1 (some R) c0 l ((o : Int) + 1 + m) ((o : Int) + 5 + m) (by omega) (by omega) (by omega) hc
  have HR2 := Aside0.mk (Kd.C_of_reads (h1 := fun _ => rfl) (hA2 _ (Kd.reads_of_C hl)))
  have e1 : (l.take ((o : Int) + 1 + m).toNat).drop ((o : Int) + 1).toNat = (l.take (o + 1 + m)).drop (o + 1) := by rw [show ((o : Int) + 1 + m).toNat = o + 1 + m by omega, show ((o : Int) + 1).toNat = o + 1 by omega]
  have e2 : (l.take ((o : Int) + 5 + m).toNat).drop ((o : Int) + 1 + m).toNat = (l.take (o + 5 + m)).drop (o + 1 + m) := by rw [show ((o : Int) + 5 + m).toNat = o + 5 + m by omega, show ((o : Int) + 1 + m).toNat = o + 1 + m by omega]
  rw [e1] at hcut1 hC1 HR1
  rw [e2] at hcut2 hC2 HR2
  generalize (l.take (o + 1 + m)).drop (o + 1) = bd at hck hcut1 hC1 HR1
  generalize (l.take (o + 5 + m)).drop (o + 1 + m) = sm at heq hcut2 hC2 HR2
  generalize c0 - ((o : Int) + 1).toNat = c1 at hcut1 hC1
  generalize c0 - ((o : Int) + 1 + m).toNat = c2 at hcut2 hC2
  have HC1 := Aside0.mk hC1
  have HC2 := Aside0.mk hC2
  have HCK := Aside0.mk hck
  have HLO := Aside0.mk hlo
  have HEQ := Aside0.mk heq
  clear hs hl hc hC1 hC2 hck hlo heq e1 e2 hA1 hA2 hi1 hsz1
  go_enter Tryd.func46, Tryd.ntmps46
  go_wp2
  go_quiet (fail)
  go_wp2
  have w1 : IntKind.i64.wrap ((o : Int) + 1) = (o : Int) + 1 := IntWalk.i64_in _ (by omega)
  have w2 : IntKind.i64.wrap ((o : Int) + 1 + m) = (o : Int) + 1 + m := IntWalk.i64_in _ (by omega)
  have w3 : IntKind.i64.wrap ((o : Int) + 5) = (o : Int) + 5 := IntWalk.i64_in _ (by omega)
  have w4 : IntKind.i64.wrap ((o : Int) + 5 + m) = (o : Int) + 5 + m := IntWalk.i64_in _ (by omega)
  obtain ⟨W, hW⟩ : ∃ W, W = ((w.alloc (.cells #[.int .u32 0, .int .u32 0, .slice none 0 0] 28)).drewN nq) := ⟨_, rfl⟩
  have HBW : Below w.heap.size w W := by rw [hW]; exact pw_below_drewN (below_alloc (Below.refl _ _) _) _
  have hWs : w.heap.size ≤ W.heap.size := HBW.size
  have hltW : B < W.heap.size := Nat.lt_of_lt_of_le hlt hWs
  have hTW : W.heap[w.heap.size]? = some (.cells #[.int .u32 0, .int .u32 0, .slice none 0 0] 28 (0, 0)) := by rw [hW]; exact blk_drewN (blk_new w _) _
  have hbW : W.cell? ⟨B, 0, none⟩ = some (.slice (some R) l.length c0) := (HBW.cell (p := ⟨B, 0, none⟩) hlt).trans hb
  rw [← hW]
  clear hW
  go_region_held3 (fun w' => w'.cell? ⟨B, 0, none⟩ = some (.slice (some R) l.length c0) ∧ Below W.heap.size W w') (first | exact ⟨hbW, below_drew1 (Below.refl _ _)⟩ | exact ⟨hbW, pw_below_drewN (Below.refl _ _) _⟩ | exact ⟨(HB4.out.cell (p := ⟨B, 0, none⟩) hltW).trans hbW, HB4.out⟩ | exact ⟨(HB4.out.cell (p := ⟨B, 0, none⟩) hltW).trans hbW, below_drew1 HB4.out⟩ | exact ⟨(HB4.out.cell (p := ⟨B, 0, none⟩) hltW).trans hbW, pw_below_drewN HB4.out _⟩)
    (first | (go_at_call 26; refine (impl_Checksum.calls k A1 c1 bd s _ (Kd.C_below HR1.out (by first | exact HBW | exact below_drew1 HBW | exact pw_below_drewN HBW _)) HC1.out HCK.out).mono ?_; rintro e w3 ⟨rfl, ⟨⟨n3, rfl⟩⟩⟩)
           | (go_at_call 23; refine (impl_low.calls k (fun _ => True) (.slice none 0 0) [] _ 4 s4 W _ (by first | exact below_drew1 (Below.refl _ _) | exact pw_below_drewN (Below.refl _ _) _) (Kd.R_nil _ _ _ _ _) HLO.out).mono ?_; rintro e w4 ⟨v4, rfl, hR4, hB4, hK4⟩; have HR4 := Aside0.mk hR4; have HB4 := Aside0.mk hB4; obtain ⟨A4, c4, e4⟩ := Kd.R_slice hR4; subst e4; clear hR4 hB4 hK4)
           | (go_at_call 62; refine (slices_Equal_byte_byte.calls k A4 c4 s4 A2 c2 sm false _ (by first | exact (Kd.R_reads' HR4.out).2.2 | exact (Kd.R_reads' (Kd.R_drewN HR4.out _)).2.2) (Kd.R_reads' HR4.out).2.1 (Kd.C_below HR2.out (by first | exact below_call HBW HB4.out hWs | exact pw_below_drewN (below_call HBW HB4.out hWs) _)) HC2.out HEQ.out).mono ?_; rintro e w5 ⟨rfl, ⟨⟨n5, rfl⟩⟩⟩))
  go_wp2_with (go_at_call 47; refine (fail_does _ _ _ _).mono ?_; rintro e w' ⟨rfl, rfl⟩)
  exact ⟨rfl, rfl, pw_below_drewN (below_call HBW HB4.out hWs) _⟩
set_option maxHeartbeats 8000000 in
set_option maxRecDepth 100000 in
theorem call_body (k B : Nat) (R : Addr) (c0 o m : Nat) (l : List Int) (x s q1 q2 : Int) (s4 q3 : List Int) (w : World) (hb : w.cell? ⟨B, 0, none⟩ = some (.slice (some R) l.length c0)) (ht : w.cell? ⟨B, 1, none⟩ = some (.int .i64 o)) (hlt : B < w.heap.size) (hlR : R.block < w.heap.size) (hn : l.length ≤ 140737488355328)
    (hl : Kd.C (Kd.int .u8) w (some R) l.length l) (hc : l.length ≤ c0)
    (hx : w.cell? (R.add o) = some (.int .u8 x)) (hm : wrap64 x = m) (h8 : 8 ≤ m) (h70 : m ≤ 70) (hs : o + 1 + m + 4 ≤ l.length)
    (hck : impl_Checksum.f k ((l.take (o + 1 + m)).drop (o + 1)) = some s) (hlo : impl_low.f k [] (IntKind.u64.wrap s) 4 = some s4) (heq : slices_Equal_byte_byte.f k s4 ((l.take (o + 5 + m)).drop (o + 1 + m)) = some true) (hco : impl_callOf.f k ((l.take (o + 1 + m)).drop (o + 1)) = some (q1, q2, q3, false)) :
    Calls Tryd.prog 46 #[.pointer (some ⟨B, 0, none⟩)] w fun e w' => e = .panicked (chainE 8 (o + 1)) ∧ Below w.heap.size w w' := by
  have h1 : ((o : Int) == (l.length : Int)) = false := by rw [beq_eq_false_iff_ne]; omega
  have h2 : (o == l.length) = false := by rw [beq_eq_false_iff_ne]; omega
  have h3 : ¬ o = l.length := by omega
  have h4 : o < l.length := by omega
  have hxa := cell_alR (o := .cells #[.int .u32 0, .int .u32 0, .slice none 0 0] 28) hx
  have g1 : decide ((m : Int) < 8) = false := decide_eq_false (by omega)
  have g2 : decide ((m : Int) > 70) = false := decide_eq_false (by omega)
  have g3 : decide ((l.length : Int) - o - 1 < (m : Int) + 4) = false := decide_eq_false (by omega)
  have g4 : 0 ≤ (l.length : Int) - o := by omega
  have g5 : 0 ≤ (l.length : Int) - o - 1 := by omega
  obtain ⟨i1, hi1, _, hsz1, _⟩ := info_parts info5
  obtain ⟨A1, hcut1, hA1, hC1⟩ := print_mid_of (P := Tryd.prog) (Value.int .u8) 0 22 5 .i64 .i64 Tryd.underlying22 hi1 hsz1 (some R) c0 l ((o : Int) + 1) ((o : Int) + 1 + m) (by omega) (by omega) (by omega) hc
  have HR1 := Aside0.mk (Kd.C_of_reads (h1 := fun _ => rfl) (hA1 _ (Kd.reads_of_C hl)))
  obtain ⟨A2, hcut2, hA2, hC2⟩ := print_mid_of (P := Tryd.prog) (Value.int .u8) 0 22 5 .i64 .i64 Tryd.underlying22 hi1 hsz1 (some R) c0 l ((o : Int) + 1 + m) ((o : Int) + 5 + m) (by omega) (by omega) (by omega) hc
  have HR2 := Aside0.mk (Kd.C_of_reads (h1 := fun _ => rfl) (hA2 _ (Kd.reads_of_C hl)))
  have e1 : (l.take ((o : Int) + 1 + m).toNat).drop ((o : Int) + 1).toNat = (l.take (o + 1 + m)).drop (o + 1) := by rw [show ((o : Int) + 1 + m).toNat = o + 1 + m by omega, show ((o : Int) + 1).toNat = o + 1 by omega]
  have e2 : (l.take ((o : Int) + 5 + m).toNat).drop ((o : Int) + 1 + m).toNat = (l.take (o + 5 + m)).drop (o + 1 + m) := by rw [show ((o : Int) + 5 + m).toNat = o + 5 + m by omega, show ((o : Int) + 1 + m).toNat = o + 1 + m by omega]
  rw [e1] at hcut1 hC1 HR1
  rw [e2] at hcut2 hC2 HR2
  generalize (l.take (o + 1 + m)).drop (o + 1) = bd at hck hco hcut1 hC1 HR1
  generalize (l.take (o + 5 + m)).drop (o + 1 + m) = sm at heq hcut2 hC2 HR2
  generalize c0 - ((o : Int) + 1).toNat = c1 at hcut1 hC1
  generalize c0 - ((o : Int) + 1 + m).toNat = c2 at hcut2 hC2
  have HC1 := Aside0.mk hC1
  have HC2 := Aside0.mk hC2
  have HCK := Aside0.mk hck
  have HLO := Aside0.mk hlo
  have HEQ := Aside0.mk heq
  have HCO := Aside0.mk hco
  clear hs hl hc hC1 hC2 hck hlo heq hco e1 e2 hA1 hA2 hi1 hsz1
  go_enter Tryd.func46, Tryd.ntmps46
  go_wp2
  go_quiet (fail)
  go_wp2
  have w1 : IntKind.i64.wrap ((o : Int) + 1) = (o : Int) + 1 := IntWalk.i64_in _ (by omega)
  have w2 : IntKind.i64.wrap ((o : Int) + 1 + m) = (o : Int) + 1 + m := IntWalk.i64_in _ (by omega)
  have w3 : IntKind.i64.wrap ((o : Int) + 5) = (o : Int) + 5 := IntWalk.i64_in _ (by omega)
  have w4 : IntKind.i64.wrap ((o : Int) + 5 + m) = (o : Int) + 5 + m := IntWalk.i64_in _ (by omega)
  obtain ⟨W, hW⟩ : ∃ W, W = ((w.alloc (.cells #[.int .u32 0, .int .u32 0, .slice none 0 0] 28)).drewN nq) := ⟨_, rfl⟩
  have HBW : Below w.heap.size w W := by rw [hW]; exact pw_below_drewN (below_alloc (Below.refl _ _) _) _
  have hWs : w.heap.size ≤ W.heap.size := HBW.size
  have hltW : B < W.heap.size := Nat.lt_of_lt_of_le hlt hWs
  have hTW : W.heap[w.heap.size]? = some (.cells #[.int .u32 0, .int .u32 0, .slice none 0 0] 28 (0, 0)) := by rw [hW]; exact blk_drewN (blk_new w _) _
  have hbW : W.cell? ⟨B, 0, none⟩ = some (.slice (some R) l.length c0) := (HBW.cell (p := ⟨B, 0, none⟩) hlt).trans hb
  rw [← hW]
  clear hW
  go_region_held3 (fun w' => w'.cell? ⟨B, 0, none⟩ = some (.slice (some R) l.length c0) ∧ Below W.heap.size W w') (first | exact ⟨hbW, below_drew1 (Below.refl _ _)⟩ | exact ⟨hbW, pw_below_drewN (Below.refl _ _) _⟩ | exact ⟨(HB4.out.cell (p := ⟨B, 0, none⟩) hltW).trans hbW, HB4.out⟩ | exact ⟨(HB4.out.cell (p := ⟨B, 0, none⟩) hltW).trans hbW, below_drew1 HB4.out⟩ | exact ⟨(HB4.out.cell (p := ⟨B, 0, none⟩) hltW).trans hbW, pw_below_drewN HB4.out _⟩)
    (first | (go_at_call 26; refine (impl_Checksum.calls k A1 c1 bd s _ (Kd.C_below HR1.out (by first | exact HBW | exact below_drew1 HBW | exact pw_below_drewN HBW _)) HC1.out HCK.out).mono ?_; rintro e w3 ⟨rfl, ⟨⟨n3, rfl⟩⟩⟩)
           | (go_at_call 23; refine (impl_low.calls k (fun _ => True) (.slice none 0 0) [] _ 4 s4 W _ (by first | exact below_drew1 (Below.refl _ _) | exact pw_below_drewN (Below.refl _ _) _) (Kd.R_nil _ _ _ _ _) HLO.out).mono ?_; rintro e w4 ⟨v4, rfl, hR4, hB4, hK4⟩; have HR4 := Aside0.mk hR4; have HB4 := Aside0.mk hB4; obtain ⟨A4, c4, e4⟩ := Kd.R_slice hR4; subst e4; clear hR4 hB4 hK4)
           | (go_at_call 62; refine (slices_Equal_byte_byte.calls k A4 c4 s4 A2 c2 sm true _ (by first | exact (Kd.R_reads' HR4.out).2.2 | exact (Kd.R_reads' (Kd.R_drewN HR4.out _)).2.2) (Kd.R_reads' HR4.out).2.1 (Kd.C_below HR2.out (by first | exact below_call HBW HB4.out hWs | exact pw_below_drewN (below_call HBW HB4.out hWs) _)) HC2.out HEQ.out).mono ?_; rintro e w5 ⟨rfl, ⟨⟨n5, rfl⟩⟩⟩))
  go_wp2_with (first | (go_at_call 63; refine (impl_callOf.calls k A1 c1 bd q1 q2 q3 false _ (Kd.C_below HR1.out (pw_below_drewN (below_call HBW HB4.out hWs) _)) HC1.out HCO.out).mono ?_; rintro e w6 ⟨v6, rfl, hQ6, hB6⟩; have HQ6 := Aside0.mk hQ6; have HB6 := Aside0.mk (below_call (pw_below_drewN HB4.out _) hB6 (below_size (pw_below_drewN HB4.out _))); obtain ⟨A6, c6, e6, _⟩ := Kd.Q_slice hQ6; subst e6; clear hQ6 hB6) | (go_at_call 47; refine (fail_does _ _ _ _).mono ?_; rintro e w' ⟨rfl, rfl⟩))
  exact ⟨rfl, rfl, below_alloc (below_call HBW HB6.out hWs) _⟩
set_option maxHeartbeats 8000000 in
set_option maxRecDepth 100000 in
theorem call_ok (k B : Nat) (R : Addr) (c0 o m : Nat) (l : List Int) (x s q1 q2 : Int) (s4 q3 : List Int) (w : World) (hb : w.cell? ⟨B, 0, none⟩ = some (.slice (some R) l.length c0)) (ht : w.cell? ⟨B, 1, none⟩ = some (.int .i64 o)) (hBK : w.heap[B]? = some (.cells #[.slice (some R) l.length c0, .int .i64 o] 53 (0, 0))) (hlt : B < w.heap.size) (hlR : R.block < w.heap.size) (hn : l.length ≤ 140737488355328)
    (hl : Kd.C (Kd.int .u8) w (some R) l.length l) (hc : l.length ≤ c0)
    (hx : w.cell? (R.add o) = some (.int .u8 x)) (hm : wrap64 x = m) (h8 : 8 ≤ m) (h70 : m ≤ 70) (hs : o + 1 + m + 4 ≤ l.length)
    (hck : impl_Checksum.f k ((l.take (o + 1 + m)).drop (o + 1)) = some s) (hlo : impl_low.f k [] (IntKind.u64.wrap s) 4 = some s4) (heq : slices_Equal_byte_byte.f k s4 ((l.take (o + 5 + m)).drop (o + 1 + m)) = some true) (hco : impl_callOf.f k ((l.take (o + 1 + m)).drop (o + 1)) = some (q1, q2, q3, true)) :
    Calls Tryd.prog 46 #[.pointer (some ⟨B, 0, none⟩)] w fun e w' => ∃ v, e = .returned (.agg #[.int .u32 q1, .int .u32 q2, v]) ∧ Kd.Q (Kd.int .u64) 43 w' w.heap.size (fun _ => True) v q3 ∧ w'.heap[B]? = some (.cells #[.slice (some R) l.length c0, .int .i64 (o + 5 + m)] 53 (0, 0)) ∧ KB w w' B := by
  have h1 : ((o : Int) == (l.length : Int)) = false := by rw [beq_eq_false_iff_ne]; omega
  have h2 : (o == l.length) = false := by rw [beq_eq_false_iff_ne]; omega
  have h3 : ¬ o = l.length := by omega
  have h4 : o < l.length := by omega
  have hxa := cell_alR (o := .cells #[.int .u32 0, .int .u32 0, .slice none 0 0] 28) hx
  have g1 : decide ((m : Int) < 8) = false := decide_eq_false (by omega)
  have g2 : decide ((m : Int) > 70) = false := decide_eq_false (by omega)
  have g3 : decide ((l.length : Int) - o - 1 < (m : Int) + 4) = false := decide_eq_false (by omega)
  have g4 : 0 ≤ (l.length : Int) - o := by omega
  have g5 : 0 ≤ (l.length : Int) - o - 1 := by omega
  obtain ⟨i1, hi1, _, hsz1, _⟩ := info_parts info5
  obtain ⟨A1, hcut1, hA1, hC1⟩ := print_mid_of (P := Tryd.prog) (Value.int .u8) 0 22 5 .i64 .i64 Tryd.underlying22 hi1 hsz1 (some R) c0 l ((o : Int) + 1) ((o : Int) + 1 + m) (by omega) (by omega) (by omega) hc
  have HR1 := Aside0.mk (Kd.C_of_reads (h1 := fun _ => rfl) (hA1 _ (Kd.reads_of_C hl)))
  obtain ⟨A2, hcut2, hA2, hC2⟩ := print_mid_of (P := Tryd.prog) (Value.int .u8) 0 22 5 .i64 .i64 Tryd.underlying22 hi1 hsz1 (some R) c0 l ((o : Int) + 1 + m) ((o : Int) + 5 + m) (by omega) (by omega) (by omega) hc
  have HR2 := Aside0.mk (Kd.C_of_reads (h1 := fun _ => rfl) (hA2 _ (Kd.reads_of_C hl)))
  have e1 : (l.take ((o : Int) + 1 + m).toNat).drop ((o : Int) + 1).toNat = (l.take (o + 1 + m)).drop (o + 1) := by rw [show ((o : Int) + 1 + m).toNat = o + 1 + m by omega, show ((o : Int) + 1).toNat = o + 1 by omega]
  have e2 : (l.take ((o : Int) + 5 + m).toNat).drop ((o : Int) + 1 + m).toNat = (l.take (o + 5 + m)).drop (o + 1 + m) := by rw [show ((o : Int) + 5 + m).toNat = o + 5 + m by omega, show ((o : Int) + 1 + m).toNat = o + 1 + m by omega]
  rw [e1] at hcut1 hC1 HR1
  rw [e2] at hcut2 hC2 HR2
  generalize (l.take (o + 1 + m)).drop (o + 1) = bd at hck hco hcut1 hC1 HR1
  generalize (l.take (o + 5 + m)).drop (o + 1 + m) = sm at heq hcut2 hC2 HR2
  generalize c0 - ((o : Int) + 1).toNat = c1 at hcut1 hC1
  generalize c0 - ((o : Int) + 1 + m).toNat = c2 at hcut2 hC2
  have HC1 := Aside0.mk hC1
  have HC2 := Aside0.mk hC2
  have HCK := Aside0.mk hck
  have HLO := Aside0.mk hlo
  have HEQ := Aside0.mk heq
  have HCO := Aside0.mk hco
  have HBK := Aside0.mk hBK
  clear hs hl hc hC1 hC2 hBK hck hlo heq hco e1 e2 hA1 hA2 hi1 hsz1
  go_enter Tryd.func46, Tryd.ntmps46
  go_wp2
  go_quiet (fail)
  go_wp2
  have w1 : IntKind.i64.wrap ((o : Int) + 1) = (o : Int) + 1 := IntWalk.i64_in _ (by omega)
  have w2 : IntKind.i64.wrap ((o : Int) + 1 + m) = (o : Int) + 1 + m := IntWalk.i64_in _ (by omega)
  have w3 : IntKind.i64.wrap ((o : Int) + 5) = (o : Int) + 5 := IntWalk.i64_in _ (by omega)
  have w4 : IntKind.i64.wrap ((o : Int) + 5 + m) = (o : Int) + 5 + m := IntWalk.i64_in _ (by omega)
  obtain ⟨W, hW⟩ : ∃ W, W = ((w.alloc (.cells #[.int .u32 0, .int .u32 0, .slice none 0 0] 28)).drewN nq) := ⟨_, rfl⟩
  have HBW : Below w.heap.size w W := by rw [hW]; exact pw_below_drewN (below_alloc (Below.refl _ _) _) _
  have hWs : w.heap.size ≤ W.heap.size := HBW.size
  have hltW : B < W.heap.size := Nat.lt_of_lt_of_le hlt hWs
  have hTW : W.heap[w.heap.size]? = some (.cells #[.int .u32 0, .int .u32 0, .slice none 0 0] 28 (0, 0)) := by rw [hW]; exact blk_drewN (blk_new w _) _
  have hbW : W.cell? ⟨B, 0, none⟩ = some (.slice (some R) l.length c0) := (HBW.cell (p := ⟨B, 0, none⟩) hlt).trans hb
  rw [← hW]
  clear hW
  go_region_held3 (fun w' => w'.cell? ⟨B, 0, none⟩ = some (.slice (some R) l.length c0) ∧ Below W.heap.size W w') (first | exact ⟨hbW, below_drew1 (Below.refl _ _)⟩ | exact ⟨hbW, pw_below_drewN (Below.refl _ _) _⟩ | exact ⟨(HB4.out.cell (p := ⟨B, 0, none⟩) hltW).trans hbW, HB4.out⟩ | exact ⟨(HB4.out.cell (p := ⟨B, 0, none⟩) hltW).trans hbW, below_drew1 HB4.out⟩ | exact ⟨(HB4.out.cell (p := ⟨B, 0, none⟩) hltW).trans hbW, pw_below_drewN HB4.out _⟩)
    (first | (go_at_call 26; refine (impl_Checksum.calls k A1 c1 bd s _ (Kd.C_below HR1.out (by first | exact HBW | exact below_drew1 HBW | exact pw_below_drewN HBW _)) HC1.out HCK.out).mono ?_; rintro e w3 ⟨rfl, ⟨⟨n3, rfl⟩⟩⟩)
           | (go_at_call 23; refine (impl_low.calls k (fun _ => True) (.slice none 0 0) [] _ 4 s4 W _ (by first | exact below_drew1 (Below.refl _ _) | exact pw_below_drewN (Below.refl _ _) _) (Kd.R_nil _ _ _ _ _) HLO.out).mono ?_; rintro e w4 ⟨v4, rfl, hR4, hB4, hK4⟩; have HR4 := Aside0.mk hR4; have HB4 := Aside0.mk hB4; obtain ⟨A4, c4, e4⟩ := Kd.R_slice hR4; subst e4; clear hR4 hB4 hK4)
           | (go_at_call 62; refine (slices_Equal_byte_byte.calls k A4 c4 s4 A2 c2 sm true _ (by first | exact (Kd.R_reads' HR4.out).2.2 | exact (Kd.R_reads' (Kd.R_drewN HR4.out _)).2.2) (Kd.R_reads' HR4.out).2.1 (Kd.C_below HR2.out (by first | exact below_call HBW HB4.out hWs | exact pw_below_drewN (below_call HBW HB4.out hWs) _)) HC2.out HEQ.out).mono ?_; rintro e w5 ⟨rfl, ⟨⟨n5, rfl⟩⟩⟩))
  go_wp2_with (go_at_call 63; refine (impl_callOf.calls k A1 c1 bd q1 q2 q3 true _ (Kd.C_below HR1.out (pw_below_drewN (below_call HBW HB4.out hWs) _)) HC1.out HCO.out).mono ?_; rintro e w6 ⟨v6, rfl, hQ6, hB6⟩; have HQ6 := Aside0.mk hQ6; have HB6 := Aside0.mk (below_call (pw_below_drewN HB4.out _) hB6 (below_size (pw_below_drewN HB4.out _))); obtain ⟨A6, c6, e6, _⟩ := Kd.Q_slice hQ6; subst e6; clear hQ6 hB6; have hq1 := blk_below (blk_below HBK.out HBW) HB6.out; have hq2 := blk_below hTW HB6.out; have h60 : w6.cell? ⟨B, 0, none⟩ = some (.slice (some R) l.length c0) := blk_cell hq1 0; have h61 : w6.cell? ⟨B, 1, none⟩ = some (.int .i64 o) := blk_cell hq1 1; have h6f : w6.frozen? ⟨B, 1, none⟩ = false := blk_frozen hq1 1; have h6a : w6.cell? ⟨w.heap.size, 0, none⟩ = some (.int .u32 0) := blk_cell hq2 0; have h6b : w6.cell? ⟨w.heap.size, 1, none⟩ = some (.int .u32 0) := blk_cell hq2 1; have h6c : w6.cell? ⟨w.heap.size, 2, none⟩ = some (.slice none 0 0) := blk_cell hq2 2; have h6g : w6.frozen? ⟨w.heap.size, 0, none⟩ = false := blk_frozen hq2 0; have h6h : w6.frozen? ⟨w.heap.size, 1, none⟩ = false := blk_frozen hq2 1; have h6i : w6.frozen? ⟨w.heap.size, 2, none⟩ = false := blk_frozen hq2 2; have z1 := blk_lt hq1; have z2 := blk_lt hq2; have z3 : ¬ B = w6.heap.size := Nat.ne_of_lt z1; have z4 : ¬ w.heap.size = w6.heap.size := Nat.ne_of_lt z2; have z5 : ¬ B = w.heap.size := Nat.ne_of_lt hlt; have z6 : ¬ w.heap.size = B := Nat.ne_of_gt hlt; have z7 : ¬ w6.heap.size = B := Nat.ne_of_gt z1; have z8 : ¬ w6.heap.size = w.heap.size := Nat.ne_of_gt z2; have HQ1 := Aside0.mk hq1; have HQ2 := Aside0.mk hq2; clear hq1 hq2)
  have q1' := blk_put HQ1.out 1 (.int .i64 ((o : Int) + 5 + m)) rfl
  have q2' := blk_far HQ2.out (p := ⟨B, 1, none⟩) z6 (.int .i64 ((o : Int) + 5 + m))
  have b1 := blk_far (blk_far (blk_far q1' (p := ⟨w.heap.size, 0, none⟩) z5 (.int .u32 q1)) (p := ⟨w.heap.size, 1, none⟩) z5 (.int .u32 q2)) (p := ⟨w.heap.size, 2, none⟩) z5 (.slice A6 q3.length c6)
  have b2 := blk_put3 q2' (.int .u32 q1) (.int .u32 q2) (.slice A6 q3.length c6)
  have hWw6 := below_call HBW HB6.out hWs
  have k1 := KB.far (KB.far (KB.far (KB.set (KB.of_below hWw6 hlt) 1 (.int .i64 ((o : Int) + 5 + m))) (p := ⟨w.heap.size, 0, none⟩) (Nat.le_refl _) (.int .u32 q1)) (p := ⟨w.heap.size, 1, none⟩) (Nat.le_refl _) (.int .u32 q2)) (p := ⟨w.heap.size, 2, none⟩) (Nat.le_refl _) (.slice A6 q3.length c6)
  have q := Kd.Q_set (Kd.Q_set (Kd.Q_set (Kd.Q_set HQ6.out HQ1.out (by decide) 1 (.int .i64 ((o : Int) + 5 + m))) q2' (by decide) 0 (.int .u32 q1)) (blk_put q2' 0 (.int .u32 q1) rfl) (by decide) 1 (.int .u32 q2)) (blk_put (blk_put q2' 0 (.int .u32 q1) rfl) 1 (.int .u32 q2) rfl) (by decide) 2 (.slice A6 q3.length c6)
  exact bodyPost_ret (res_call rfl (blk_alloc b2 _)) rfl ⟨_, rfl, Kd.Q_lower (Kd.Q_alloc q _) (Nat.le_trans hWs (below_size (pw_below_drewN HB4.out n5))), blk_alloc b1 _, k1.alloc _⟩

end Go.Proofs.YtjpjfkmnfppgkaaDoor.P
