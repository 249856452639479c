import Derived.Test.YtjpjfkmnfppgkaaDoorGFnCalls5
import Derived.Test.YtjpjfkmnfppgkaaDoorGFnCalls12
import Derived.Test.YtjpjfkmnfppgkaaDoorGFnCalls11
import Derived.Test.YtjpjfkmnfppgkaaDoorGFnCalls7
import Derived.Deep.RegionHeld3
import Derived.Deep.DeepCutAuto
import Derived.IntWalk
import Derived.Defers
import Derived.Recover
import Derived.Deep.LoopGhost
namespace Go.Proofs.YtjpjfkmnfppgkaaDoor.P
open Go.RowKit Go.Proofs.YtjpjfkmnfppgkaaDoorW.PrintWords Go.Proofs.YtjpjfkmnfppgkaaDoorW.PrintLast Go.Proofs.YtjpjfkmnfppgkaaDoorW.PrintMore
set_option linter.unusedVariables false
set_option linter.unusedSimpArgs false

/-! The reader's call: each way by itself. -/
theorem cell_alR {W : World} {o : Obj} {p : Addr} {v : Value} (h : W.cell? p = some v) : (W.alloc o).cell? p = some v := (World.cell?_alloc_lt _ _ _ (World.block_lt_of_cell? _ _ h)).trans h
theorem res_call {t : Array Value} {W : World} {g : Nat} {a b : Int} {v : Value} (ht : t[2]? = some (.pointer (some ⟨g, 0, none⟩))) (h : W.heap[g]? = some (.cells #[.int .u32 a, .int .u32 b, v] 28 (0, 0))) :
    (results Tryd.f46 t).run Tryd.prog W = .ok (.agg #[.int .u32 a, .int .u32 b, v]) W := by
  have e0 : W.cell? ⟨g, 0, none⟩ = some (.int .u32 a) := blk_cell h 0
  have e1 : W.cell? ⟨g, 1, none⟩ = some (.int .u32 b) := blk_cell h 1
  have e2 : W.cell? ⟨g, 2, none⟩ = some v := blk_cell h 2
  clear h
  simp [results, Tryd.results46, go_sem, ht, e0, e1, e2]
/-- A reader of a log in memory. -/
structure RdAt (w : World) (B : Nat) (A0 : Option Addr) (c0 : Nat) (l : List Int) (o : Int) : Prop where
  hb : w.cell? ⟨B, 0, none⟩ = some (.slice A0 l.length c0)
  ht : w.cell? ⟨B, 1, none⟩ = some (.int .i64 o)
  hf : w.frozen? ⟨B, 1, none⟩ = false
  hl : Kd.C (Kd.int .u8) w A0 l.length l
  hc : l.length ≤ c0
  hn : l.length ≤ 140737488355328
theorem RdAt.lt {w : World} {B : Nat} {A0 : Option Addr} {c0 : Nat} {l : List Int} {o : Int} (h : RdAt w B A0 c0 l o) : B < w.heap.size := World.block_lt_of_cell? w ⟨B, 0, none⟩ h.hb
set_option maxHeartbeats 4000000 in
set_option maxRecDepth 100000 in
theorem call_short (B : Nat) (A0 : Option Addr) (c0 : Nat) (l : List Int) (w : World) (h : RdAt w B A0 c0 l l.length) :
    Calls Tryd.prog 46 #[.pointer (some ⟨B, 0, none⟩)] w fun e w' => e = .panicked (chainE 5 l.length) ∧ Below w.heap.size w w' := by
  have hb := h.hb
  have ht := h.ht
  have hlt := h.lt
  have hn := h.hn
  clear h
  go_enter Tryd.func46, Tryd.ntmps46
  go_wp2
  go_quiet (fail)
  go_wp2_with (go_at_call 47; refine (fail_does _ _ _ _).mono ?_; rintro e w' ⟨rfl, rfl⟩)
  exact ⟨rfl, rfl, pw_below_drewN (below_alloc (Below.refl _ _) _) _⟩
set_option maxHeartbeats 4000000 in
set_option maxRecDepth 100000 in
theorem call_len (B : Nat) (R : Addr) (c0 n o : Nat) (x : Int) (w : World) (hb : w.cell? ⟨B, 0, none⟩ = some (.slice (some R) n c0)) (ht : w.cell? ⟨B, 1, none⟩ = some (.int .i64 o)) (hlt : B < w.heap.size) (hlR : R.block < w.heap.size) (hn : n ≤ 140737488355328) (ho : o < n)
    (hx : w.cell? (R.add o) = some (.int .u8 x)) (hm : (decide (wrap64 x < 8) || decide (wrap64 x > 70)) = true) :
    Calls Tryd.prog 46 #[.pointer (some ⟨B, 0, none⟩)] w fun e w' => e = .panicked (chainE 6 o) ∧ Below w.heap.size w w' := by
  have h1 : ((o : Int) == (n : Int)) = false := by rw [beq_eq_false_iff_ne]; omega
  have h2 : (o == n) = false := by rw [beq_eq_false_iff_ne]; omega
  have h3 : ¬ o = n := by omega
  have hxa := cell_alR (o := .cells #[.int .u32 0, .int .u32 0, .slice none 0 0] 28) hx
  obtain ⟨m, hmm⟩ : ∃ m, wrap64 x = m := ⟨_, rfl⟩
  rw [hmm] at hm
  by_cases hm1 : m < 8
  · have g1 : decide (m < 8) = true := decide_eq_true hm1
    clear hm
    go_enter Tryd.func46, Tryd.ntmps46
    go_wp2
    go_quiet (fail)
    go_wp2_with (go_at_call 47; refine (fail_does _ _ _ _).mono ?_; rintro e w' ⟨rfl, rfl⟩)
    exact ⟨rfl, rfl, pw_below_drewN (below_alloc (Below.refl _ _) _) _⟩
  · have g1 : decide (m < 8) = false := decide_eq_false hm1
    have g2 : decide (m > 70) = true := by rw [g1, Bool.false_or] at hm; exact hm
    have g2' : decide (70 < m) = true := g2
    clear hm
    go_enter Tryd.func46, Tryd.ntmps46
    go_wp2
    go_quiet (fail)
    go_wp2_with (go_at_call 47; refine (fail_does _ _ _ _).mono ?_; rintro e w' ⟨rfl, rfl⟩)
    exact ⟨rfl, rfl, pw_below_drewN (below_alloc (Below.refl _ _) _) _⟩
set_option maxHeartbeats 4000000 in
set_option maxRecDepth 100000 in
theorem call_short2 (B : Nat) (R : Addr) (c0 n o m : Nat) (x : Int) (w : World) (hb : w.cell? ⟨B, 0, none⟩ = some (.slice (some R) n c0)) (ht : w.cell? ⟨B, 1, none⟩ = some (.int .i64 o)) (hlt : B < w.heap.size) (hlR : R.block < w.heap.size) (hn : n ≤ 140737488355328) (ho : o < n)
    (hx : w.cell? (R.add o) = some (.int .u8 x)) (hm : wrap64 x = m) (h8 : 8 ≤ m) (h70 : m ≤ 70) (hs : n < o + 1 + m + 4) :
    Calls Tryd.prog 46 #[.pointer (some ⟨B, 0, none⟩)] w fun e w' => e = .panicked (chainE 5 n) ∧ Below w.heap.size w w' := by
  have h1 : ((o : Int) == (n : Int)) = false := by rw [beq_eq_false_iff_ne]; omega
  have h2 : (o == n) = false := by rw [beq_eq_false_iff_ne]; omega
  have h3 : ¬ o = n := by omega
  have hxa := cell_alR (o := .cells #[.int .u32 0, .int .u32 0, .slice none 0 0] 28) hx
  have g1 : decide ((m : Int) < 8) = false := decide_eq_false (by omega)
  have g2 : decide ((m : Int) > 70) = false := decide_eq_false (by omega)
  have g3 : decide ((n : Int) - o - 1 < (m : Int) + 4) = true := decide_eq_true (by omega)
  have g4 : 0 ≤ (n : Int) - o := by omega
  have g5 : 0 ≤ (n : Int) - o - 1 := by omega
  clear hs
  go_enter Tryd.func46, Tryd.ntmps46
  go_wp2
  go_quiet (fail)
  go_wp2_with (go_at_call 47; refine (fail_does _ _ _ _).mono ?_; rintro e w' ⟨rfl, rfl⟩)
  exact ⟨rfl, rfl, pw_below_drewN (below_alloc (Below.refl _ _) _) _⟩
set_option maxHeartbeats 8000000 in
set_option maxRecDepth 100000 in
theorem call_sum (k B : Nat) (R : Addr) (c0 o m : Nat) (l : List Int) (x s : Int) (s4 : List Int) (w : World) (hb : w.cell? ⟨B, 0, none⟩ = some (.slice (some R) l.length c0)) (ht : w.cell? ⟨B, 1, none⟩ = some (.int .i64 o)) (hlt : B < w.heap.size) (hlR : R.block < w.heap.size) (hn : l.length ≤ 140737488355328)
    (hl : Kd.C (Kd.int .u8) w (some R) l.length l) (hc : l.length ≤ c0)
    (hx : w.cell? (R.add o) = some (.int .u8 x)) (hm : wrap64 x = m) (h8 : 8 ≤ m) (h70 : m ≤ 70) (hs : o + 1 + m + 4 ≤ l.length)
    (hck : impl_Checksum.f k ((l.take (o + 1 + m)).drop (o + 1)) = some s) (hlo : impl_low.f k [] (IntKind.u64.wrap s) 4 = some s4) (heq : slices_Equal_byte_byte.f k s4 ((l.take (o + 5 + m)).drop (o + 1 + m)) = some false) :
    Calls Tryd.prog 46 #[.pointer (some ⟨B, 0, none⟩)] w fun e w' => e = .panicked (chainE 7 (o + 1 + m)) ∧ Below w.heap.size w w' := by
  have h1 : ((o : Int) == (l.length : Int)) = false := by rw [beq_eq_false_iff_ne]; omega
  have h2 : (o == l.length) = false := by rw [beq_eq_false_iff_ne]; omega
  have h3 : ¬ o = l.length := by omega
  have h4 : o < l.length := by omega
  have hxa := cell_alR (o := .cells #[.int .u32 0, .int .u32 0, .slice none 0 0] 28) hx
  have g1 : decide ((m : Int) < 8) = false := decide_eq_false (by omega)
  have g2 : decide ((m : Int) > 70) = false := decide_eq_false (by omega)
  have g3 : decide ((l.length : Int) - o - 1 < (m : Int) + 4) = false := decide_eq_false (by omega)
  have g4 : 0 ≤ (l.length : Int) - o := by omega
  have g5 : 0 ≤ (l.length : Int) - o - 1 := by omega
  obtain ⟨i1, hi1, _, hsz1, _⟩ := info_parts info5
  obtain ⟨A1, hcut1, hA1, hC1⟩ := print_mid_of (P := Tryd.prog) (Value.int .u8) 0 22 5 .i64 .i64 Tryd.underlying22 hi1 hsz1 (some R) c0 l ((o : Int) + 1) ((o : Int) + 1 + m) (by omega) (by omega) (by omega) hc
  have HR1 := Aside0.mk (Kd.C_of_reads (h1 := fun _ => rfl) (hA1 _ (Kd.reads_of_C hl)))
  obtain ⟨A2, hcut2, hA2, hC2⟩ := print_mid_of (P := Tryd.prog) (Value.int .u8) 0 22 5 .i64 .i64 Tryd.underlying22 hi1 hsz1 (some R) c0 l ((o : Int) + 1 + m) ((o : Int) + 5 + m) (by omega) (by omega) (by omega) hc
  have HR2 := Aside0.mk (Kd.C_of_reads (h1 := fun _ => rfl) (hA2 _ (Kd.reads_of_C hl)))
  have e1 : (l.take ((o : Int) + 1 + m).toNat).drop ((o : Int) + 1).toNat = (l.take (o + 1 + m)).drop (o + 1) := by rw [show ((o : Int) + 1 + m).toNat = o + 1 + m by omega, show ((o : Int) + 1).toNat = o + 1 by omega]
  have e2 : (l.take ((o : Int) + 5 + m).toNat).drop ((o : Int) + 1 + m).toNat = (l.take (o + 5 + m)).drop (o + 1 + m) := by rw [show ((o : Int) + 5 + m).toNat = o + 5 + m by omega, show ((o : Int) + 1 + m).toNat = o + 1 + m by omega]
  rw [e1] at hcut1 hC1 HR1
  rw [e2] at hcut2 hC2 HR2
  generalize (l.take (o + 1 + m)).drop (o + 1) = bd at hck hcut1 hC1 HR1
  generalize (l.take (o + 5 + m)).drop (o + 1 + m) = sm at heq hcut2 hC2 HR2
  generalize c0 - ((o : Int) + 1).toNat = c1 at hcut1 hC1
  generalize c0 - ((o : Int) + 1 + m).toNat = c2 at hcut2 hC2
  have HC1 := Aside0.mk hC1
  have HC2 := Aside0.mk hC2
  have HCK := Aside0.mk hck
  have HLO := Aside0.mk hlo
  have HEQ := Aside0.mk heq
  clear hs hl hc hC1 hC2 hck hlo heq e1 e2 hA1 hA2 hi1 hsz1
  go_enter Tryd.func46, Tryd.ntmps46
  go_wp2
  go_quiet (fail)
  go_wp2
  have w1 : IntKind.i64.wrap ((o : Int) + 1) = (o : Int) + 1 := IntWalk.i64_in _ (by omega)
  have w2 : IntKind.i64.wrap ((o : Int) + 1 + m) = (o : Int) + 1 + m := IntWalk.i64_in _ (by omega)
  have w3 : IntKind.i64.wrap ((o : Int) + 5) = (o : Int) + 5 := IntWalk.i64_in _ (by omega)
  have w4 : IntKind.i64.wrap ((o : Int) + 5 + m) = (o : Int) + 5 + m := IntWalk.i64_in _ (by omega)
  obtain ⟨W, hW⟩ : ∃ W, W = ((w.alloc (.cells #[.int .u32 0, .int .u32 0, .slice none 0 0] 28)).drewN nq) := ⟨_, rfl⟩
  have HBW : Below w.heap.size w W := by rw [hW]; exact pw_below_drewN (below_alloc (Below.refl _ _) _) _
  have hWs : w.heap.size ≤ W.heap.size := HBW.size
  have hltW : B < W.heap.size := Nat.lt_of_lt_of_le hlt hWs
  have hTW : W.heap[w.heap.size]? = some (.cells #[.int .u32 0, .int .u32 0, .slice none 0 0] 28 (0, 0)) := by rw [hW]; exact blk_drewN (blk_new w _) _
  have hbW : W.cell? ⟨B, 0, none⟩ = some (.slice (some R) l.length c0) := (HBW.cell (p := ⟨B, 0, none⟩) hlt).trans hb
  rw [← hW]
  clear hW
  go_region_held3 (fun w' => w'.cell? ⟨B, 0, none⟩ = some (.slice (some R) l.length c0) ∧ Below W.heap.size W w') (first | exact ⟨hbW, below_drew1 (Below.refl _ _)⟩ | exact ⟨hbW, pw_below_drewN (Below.refl _ _) _⟩ | exact ⟨(HB4.out.cell (p := ⟨B, 0, none⟩) hltW).trans hbW, HB4.out⟩ | exact ⟨(HB4.out.cell (p := ⟨B, 0, none⟩) hltW).trans hbW, below_drew1 HB4.out⟩ | exact ⟨(HB4.out.cell (p := ⟨B, 0, none⟩) hltW).trans hbW, pw_below_drewN HB4.out _⟩)
    (first | (go_at_call 26; refine (impl_Checksum.calls k A1 c1 bd s _ (Kd.C_below HR1.out (by first | exact HBW | exact below_drew1 HBW | exact pw_below_drewN HBW _)) HC1.out HCK.out).mono ?_; rintro e w3 ⟨rfl, ⟨⟨n3, rfl⟩⟩⟩)
           | (go_at_call 23; refine (impl_low.calls k (fun _ => True) (.slice none 0 0) [] _ 4 s4 W _ (by first | exact below_drew1 (Below.refl _ _) | exact pw_below_drewN (Below.refl _ _) _) (Kd.R_nil _ _ _ _ _) HLO.out).mono ?_; rintro e w4 ⟨v4, rfl, hR4, hB4, hK4⟩; have HR4 := Aside0.mk hR4; have HB4 := Aside0.mk hB4; obtain ⟨A4, c4, e4⟩ := Kd.R_slice hR4; subst e4; clear hR4 hB4 hK4)
           | (go_at_call 62; refine (slices_Equal_byte_byte.calls k A4 c4 s4 A2 c2 sm false _ (by first | exact (Kd.R_reads' HR4.out).2.2 | exact (Kd.R_reads' (Kd.R_drewN HR4.out _)).2.2) (Kd.R_reads' HR4.out).2.1 (Kd.C_below HR2.out (by first | exact below_call HBW HB4.out hWs | exact pw_below_drewN (below_call HBW HB4.out hWs) _)) HC2.out HEQ.out).mono ?_; rintro e w5 ⟨rfl, ⟨⟨n5, rfl⟩⟩⟩))
  go_wp2_with (go_at_call 47; refine (fail_does _ _ _ _).mono ?_; rintro e w' ⟨rfl, rfl⟩)
  exact ⟨rfl, rfl, pw_below_drewN (below_call HBW HB4.out hWs) _⟩
set_option maxHeartbeats 8000000 in
set_option maxRecDepth 100000 in
theorem call_body (k B : Nat) (R : Addr) (c0 o m : Nat) (l : List Int) (x s q1 q2 : Int) (s4 q3 : List Int) (w : World) (hb : w.cell? ⟨B, 0, none⟩ = some (.slice (some R) l.length c0)) (ht : w.cell? ⟨B, 1, none⟩ = some (.int .i64 o)) (hlt : B < w.heap.size) (hlR : R.block < w.heap.size) (hn : l.length ≤ 140737488355328)
    (hl : Kd.C (Kd.int .u8) w (some R) l.length l) (hc : l.length ≤ c0)
    (hx : w.cell? (R.add o) = some (.int .u8 x)) (hm : wrap64 x = m) (h8 : 8 ≤ m) (h70 : m ≤ 70) (hs : o + 1 + m + 4 ≤ l.length)
    (hck : impl_Checksum.f k ((l.take (o + 1 + m)).drop (o + 1)) = some s) (hlo : impl_low.f k [] (IntKind.u64.wrap s) 4 = some s4) (heq : slices_Equal_byte_byte.f k s4 ((l.take (o + 5 + m)).drop (o + 1 + m)) = some true) (hco : impl_callOf.f k ((l.take (o + 1 + m)).drop (o + 1)) = some (q1, q2, q3, false)) :
    Calls Tryd.prog 46 #[.pointer (some ⟨B, 0, none⟩)] w fun e w' => e = .panicked (chainE 8 (o + 1)) ∧ Below w.heap.size w w' := by
  have h1 : ((o : Int) == (l.length : Int)) = false := by rw [beq_eq_false_iff_ne]; omega
  have h2 : (o == l.length) = false := by rw [beq_eq_false_iff_ne]; omega
  have h3 : ¬ o = l.length := by omega
  have h4 : o < l.length := by omega
  have hxa := cell_alR (o := .cells #[.int .u32 0, .int .u32 0, .slice none 0 0] 28) hx
  have g1 : decide ((m : Int) < 8) = false := decide_eq_false (by omega)
  have g2 : decide ((m : Int) > 70) = false := decide_eq_false (by omega)
  have g3 : decide ((l.length : Int) - o - 1 < (m : Int) + 4) = false := decide_eq_false (by omega)
  have g4 : 0 ≤ (l.length : Int) - o := by omega
  have g5 : 0 ≤ (l.length : Int) - o - 1 := by omega
  obtain ⟨i1, hi1, _, hsz1, _⟩ := info_parts info5
  obtain ⟨A1, hcut1, hA1, hC1⟩ := print_mid_of (P := Tryd.prog) (Value.int .u8) 0 22 5 .i64 .i64 Tryd.underlying22 hi1 hsz1 (some R) c0 l ((o : Int) + 1) ((o : Int) + 1 + m) (by omega) (by omega) (by omega) hc
  have HR1 := Aside0.mk (Kd.C_of_reads (h1 := fun _ => rfl) (hA1 _ (Kd.reads_of_C hl)))
  obtain ⟨A2, hcut2, hA2, hC2⟩ := print_mid_of (P := Tryd.prog) (Value.int .u8) 0 22 5 .i64 .i64 Tryd.underlying22 hi1 hsz1 (some R) c0 l ((o : Int) + 1 + m) ((o : Int) + 5 + m) (by omega) (by omega) (by omega) hc
  have HR2 := Aside0.mk (Kd.C_of_reads (h1 := fun _ => rfl) (hA2 _ (Kd.reads_of_C hl)))
  have e1 : (l.take ((o : Int) + 1 + m).toNat).drop ((o : Int) + 1).toNat = (l.take (o + 1 + m)).drop (o + 1) := by rw [show ((o : Int) + 1 + m).toNat = o + 1 + m by omega, show ((o : Int) + 1).toNat = o + 1 by omega]
  have e2 : (l.take ((o : Int) + 5 + m).toNat).drop ((o : Int) + 1 + m).toNat = (l.take (o + 5 + m)).drop (o + 1 + m) := by rw [show ((o : Int) + 5 + m).toNat = o + 5 + m by omega, show ((o : Int) + 1 + m).toNat = o + 1 + m by omega]
  rw [e1] at hcut1 hC1 HR1
  rw [e2] at hcut2 hC2 HR2
  generalize (l.take (o + 1 + m)).drop (o + 1) = bd at hck hco hcut1 hC1 HR1
  generalize (l.take (o + 5 + m)).drop (o + 1 + m) = sm at heq hcut2 hC2 HR2
  generalize c0 - ((o : Int) + 1).toNat = c1 at hcut1 hC1
  generalize c0 - ((o : Int) + 1 + m).toNat = c2 at hcut2 hC2
  have HC1 := Aside0.mk hC1
  have HC2 := Aside0.mk hC2
  have HCK := Aside0.mk hck
  have HLO := Aside0.mk hlo
  have HEQ := Aside0.mk heq
  have HCO := Aside0.mk hco
  clear hs hl hc hC1 hC2 hck hlo heq hco e1 e2 hA1 hA2 hi1 hsz1
  go_enter Tryd.func46, Tryd.ntmps46
  go_wp2
  go_quiet (fail)
  go_wp2
  have w1 : IntKind.i64.wrap ((o : Int) + 1) = (o : Int) + 1 := IntWalk.i64_in _ (by omega)
  have w2 : IntKind.i64.wrap ((o : Int) + 1 + m) = (o : Int) + 1 + m := IntWalk.i64_in _ (by omega)
  have w3 : IntKind.i64.wrap ((o : Int) + 5) = (o : Int) + 5 := IntWalk.i64_in _ (by omega)
  have w4 : IntKind.i64.wrap ((o : Int) + 5 + m) = (o : Int) + 5 + m := IntWalk.i64_in _ (by omega)
  obtain ⟨W, hW⟩ : ∃ W, W = ((w.alloc (.cells #[.int .u32 0, .int .u32 0, .slice none 0 0] 28)).drewN nq) := ⟨_, rfl⟩
  have HBW : Below w.heap.size w W := by rw [hW]; exact pw_below_drewN (below_alloc (Below.refl _ _) _) _
  have hWs : w.heap.size ≤ W.heap.size := HBW.size
  have hltW : B < W.heap.size := Nat.lt_of_lt_of_le hlt hWs
  have hTW : W.heap[w.heap.size]? = some (.cells #[.int .u32 0, .int .u32 0, .slice none 0 0] 28 (0, 0)) := by rw [hW]; exact blk_drewN (blk_new w _) _
  have hbW : W.cell? ⟨B, 0, none⟩ = some (.slice (some R) l.length c0) := (HBW.cell (p := ⟨B, 0, none⟩) hlt).trans hb
  rw [← hW]
  clear hW
  go_region_held3 (fun w' => w'.cell? ⟨B, 0, none⟩ = some (.slice (some R) l.length c0) ∧ Below W.heap.size W w') (first | exact ⟨hbW, below_drew1 (Below.refl _ _)⟩ | exact ⟨hbW, pw_below_drewN (Below.refl _ _) _⟩ | exact ⟨(HB4.out.cell (p := ⟨B, 0, none⟩) hltW).trans hbW, HB4.out⟩ | exact ⟨(HB4.out.cell (p := ⟨B, 0, none⟩) hltW).trans hbW, below_drew1 HB4.out⟩ | exact ⟨(HB4.out.cell (p := ⟨B, 0, none⟩) hltW).trans hbW, pw_below_drewN HB4.out _⟩)
    (first | (go_at_call 26; refine (impl_Checksum.calls k A1 c1 bd s _ (Kd.C_below HR1.out (by first | exact HBW | exact below_drew1 HBW | exact pw_below_drewN HBW _)) HC1.out HCK.out).mono ?_; rintro e w3 ⟨rfl, ⟨⟨n3, rfl⟩⟩⟩)
           | (go_at_call 23; refine (impl_low.calls k (fun _ => True) (.slice none 0 0) [] _ 4 s4 W _ (by first | exact below_drew1 (Below.refl _ _) | exact pw_below_drewN (Below.refl _ _) _) (Kd.R_nil _ _ _ _ _) HLO.out).mono ?_; rintro e w4 ⟨v4, rfl, hR4, hB4, hK4⟩; have HR4 := Aside0.mk hR4; have HB4 := Aside0.mk hB4; obtain ⟨A4, c4, e4⟩ := Kd.R_slice hR4; subst e4; clear hR4 hB4 hK4)
           | (go_at_call 62; refine (slices_Equal_byte_byte.calls k A4 c4 s4 A2 c2 sm true _ (by first | exact (Kd.R_reads' HR4.out).2.2 | exact (Kd.R_reads' (Kd.R_drewN HR4.out _)).2.2) (Kd.R_reads' HR4.out).2.1 (Kd.C_below HR2.out (by first | exact below_call HBW HB4.out hWs | exact pw_below_drewN (below_call HBW HB4.out hWs) _)) HC2.out HEQ.out).mono ?_; rintro e w5 ⟨rfl, ⟨⟨n5, rfl⟩⟩⟩))
  go_wp2_with (first | (go_at_call 63; refine (impl_callOf.calls k A1 c1 bd q1 q2 q3 false _ (Kd.C_below HR1.out (pw_below_drewN (below_call HBW HB4.out hWs) _)) HC1.out HCO.out).mono ?_; rintro e w6 ⟨v6, rfl, hQ6, hB6⟩; have HQ6 := Aside0.mk hQ6; have HB6 := Aside0.mk (below_call (pw_below_drewN HB4.out _) hB6 (below_size (pw_below_drewN HB4.out _))); obtain ⟨A6, c6, e6, _⟩ := Kd.Q_slice hQ6; subst e6; clear hQ6 hB6) | (go_at_call 47; refine (fail_does _ _ _ _).mono ?_; rintro e w' ⟨rfl, rfl⟩))
  exact ⟨rfl, rfl, below_alloc (below_call HBW HB6.out hWs) _⟩
set_option maxHeartbeats 8000000 in
set_option maxRecDepth 100000 in
theorem call_ok (k B : Nat) (R : Addr) (c0 o m : Nat) (l : List Int) (x s q1 q2 : Int) (s4 q3 : List Int) (w : World) (hb : w.cell? ⟨B, 0, none⟩ = some (.slice (some R) l.length c0)) (ht : w.cell? ⟨B, 1, none⟩ = some (.int .i64 o)) (hBK : w.heap[B]? = some (.cells #[.slice (some R) l.length c0, .int .i64 o] 53 (0, 0))) (hlt : B < w.heap.size) (hlR : R.block < w.heap.size) (hn : l.length ≤ 140737488355328)
    (hl : Kd.C (Kd.int .u8) w (some R) l.length l) (hc : l.length ≤ c0)
    (hx : w.cell? (R.add o) = some (.int .u8 x)) (hm : wrap64 x = m) (h8 : 8 ≤ m) (h70 : m ≤ 70) (hs : o + 1 + m + 4 ≤ l.length)
    (hck : impl_Checksum.f k ((l.take (o + 1 + m)).drop (o + 1)) = some s) (hlo : impl_low.f k [] (IntKind.u64.wrap s) 4 = some s4) (heq : slices_Equal_byte_byte.f k s4 ((l.take (o + 5 + m)).drop (o + 1 + m)) = some true) (hco : impl_callOf.f k ((l.take (o + 1 + m)).drop (o + 1)) = some (q1, q2, q3, true)) :
    Calls Tryd.prog 46 #[.pointer (some ⟨B, 0, none⟩)] w fun e w' => ∃ v, e = .returned (.agg #[.int .u32 q1, .int .u32 q2, v]) ∧ Kd.Q (Kd.int .u64) 43 w' w.heap.size (fun _ => True) v q3 ∧ w'.heap[B]? = some (.cells #[.slice (some R) l.length c0, .int .i64 (o + 5 + m)] 53 (0, 0)) ∧ KB w w' B := by
  have h1 : ((o : Int) == (l.length : Int)) = false := by rw [beq_eq_false_iff_ne]; omega
  have h2 : (o == l.length) = false := by rw [beq_eq_false_iff_ne]; omega
  have h3 : ¬ o = l.length := by omega
  have h4 : o < l.length := by omega
  have hxa := cell_alR (o := .cells #[.int .u32 0, .int .u32 0, .slice none 0 0] 28) hx
  have g1 : decide ((m : Int) < 8) = false := decide_eq_false (by omega)
  have g2 : decide ((m : Int) > 70) = false := decide_eq_false (by omega)
  have g3 : decide ((l.length : Int) - o - 1 < (m : Int) + 4) = false := decide_eq_false (by omega)
  have g4 : 0 ≤ (l.length : Int) - o := by omega
  have g5 : 0 ≤ (l.length : Int) - o - 1 := by omega
  obtain ⟨i1, hi1, _, hsz1, _⟩ := info_parts info5
  obtain ⟨A1, hcut1, hA1, hC1⟩ := print_mid_of (P := Tryd.prog) (Value.int .u8) 0 22 5 .i64 .i64 Tryd.underlying22 hi1 hsz1 (some R) c0 l ((o : Int) + 1) ((o : Int) + 1 + m) (by omega) (by omega) (by omega) hc
  have HR1 := Aside0.mk (Kd.C_of_reads (h1 := fun _ => rfl) (hA1 _ (Kd.reads_of_C hl)))
  obtain ⟨A2, hcut2, hA2, hC2⟩ := print_mid_of (P := Tryd.prog) (Value.int .u8) 0 22 5 .i64 .i64 Tryd.underlying22 hi1 hsz1 (some R) c0 l ((o : Int) + 1 + m) ((o : Int) + 5 + m) (by omega) (by omega) (by omega) hc
  have HR2 := Aside0.mk (Kd.C_of_reads (h1 := fun _ => rfl) (hA2 _ (Kd.reads_of_C hl)))
  have e1 : (l.take ((o : Int) + 1 + m).toNat).drop ((o : Int) + 1).toNat = (l.take (o + 1 + m)).drop (o + 1) := by rw [show ((o : Int) + 1 + m).toNat = o + 1 + m by omega, show ((o : Int) + 1).toNat = o + 1 by omega]
  have e2 : (l.take ((o : Int) + 5 + m).toNat).drop ((o : Int) + 1 + m).toNat = (l.take (o + 5 + m)).drop (o + 1 + m) := by rw [show ((o : Int) + 5 + m).toNat = o + 5 + m by omega, show ((o : Int) + 1 + m).toNat = o + 1 + m by omega]
  rw [e1] at hcut1 hC1 HR1
  rw [e2] at hcut2 hC2 HR2
  generalize (l.take (o + 1 + m)).drop (o + 1) = bd at hck hco hcut1 hC1 HR1
  generalize (l.take (o + 5 + m)).drop (o + 1 + m) = sm at heq hcut2 hC2 HR2
  generalize c0 - ((o : Int) + 1).toNat = c1 at hcut1 hC1
  generalize c0 - ((o : Int) + 1 + m).toNat = c2 at hcut2 hC2
  have HC1 := Aside0.mk hC1
  have HC2 := Aside0.mk hC2
  have HCK := Aside0.mk hck
  have HLO := Aside0.mk hlo
  have HEQ := Aside0.mk heq
  have HCO := Aside0.mk hco
  have HBK := Aside0.mk hBK
  clear hs hl hc hC1 hC2 hBK hck hlo heq hco e1 e2 hA1 hA2 hi1 hsz1
  go_enter Tryd.func46, Tryd.ntmps46
  go_wp2
  go_quiet (fail)
  go_wp2
  have w1 : IntKind.i64.wrap ((o : Int) + 1) = (o : Int) + 1 := IntWalk.i64_in _ (by omega)
  have w2 : IntKind.i64.wrap ((o : Int) + 1 + m) = (o : Int) + 1 + m := IntWalk.i64_in _ (by omega)
  have w3 : IntKind.i64.wrap ((o : Int) + 5) = (o : Int) + 5 := IntWalk.i64_in _ (by omega)
  have w4 : IntKind.i64.wrap ((o : Int) + 5 + m) = (o : Int) + 5 + m := IntWalk.i64_in _ (by omega)
  obtain ⟨W, hW⟩ : ∃ W, W = ((w.alloc (.cells #[.int .u32 0, .int .u32 0, .slice none 0 0] 28)).drewN nq) := ⟨_, rfl⟩
  have HBW : Below w.heap.size w W := by rw [hW]; exact pw_below_drewN (below_alloc (Below.refl _ _) _) _
  have hWs : w.heap.size ≤ W.heap.size := HBW.size
  have hltW : B < W.heap.size := Nat.lt_of_lt_of_le hlt hWs
  have hTW : W.heap[w.heap.size]? = some (.cells #[.int .u32 0, .int .u32 0, .slice none 0 0] 28 (0, 0)) := by rw [hW]; exact blk_drewN (blk_new w _) _
  have hbW : W.cell? ⟨B, 0, none⟩ = some (.slice (some R) l.length c0) := (HBW.cell (p := ⟨B, 0, none⟩) hlt).trans hb
  rw [← hW]
  clear hW
  go_region_held3 (fun w' => w'.cell? ⟨B, 0, none⟩ = some (.slice (some R) l.length c0) ∧ Below W.heap.size W w') (first | exact ⟨hbW, below_drew1 (Below.refl _ _)⟩ | exact ⟨hbW, pw_below_drewN (Below.refl _ _) _⟩ | exact ⟨(HB4.out.cell (p := ⟨B, 0, none⟩) hltW).trans hbW, HB4.out⟩ | exact ⟨(HB4.out.cell (p := ⟨B, 0, none⟩) hltW).trans hbW, below_drew1 HB4.out⟩ | exact ⟨(HB4.out.cell (p := ⟨B, 0, none⟩) hltW).trans hbW, pw_below_drewN HB4.out _⟩)
    (first | (go_at_call 26; refine (impl_Checksum.calls k A1 c1 bd s _ (Kd.C_below HR1.out (by first | exact HBW | exact below_drew1 HBW | exact pw_below_drewN HBW _)) HC1.out HCK.out).mono ?_; rintro e w3 ⟨rfl, ⟨⟨n3, rfl⟩⟩⟩)
           | (go_at_call 23; refine (impl_low.calls k (fun _ => True) (.slice none 0 0) [] _ 4 s4 W _ (by first | exact below_drew1 (Below.refl _ _) | exact pw_below_drewN (Below.refl _ _) _) (Kd.R_nil _ _ _ _ _) HLO.out).mono ?_; rintro e w4 ⟨v4, rfl, hR4, hB4, hK4⟩; have HR4 := Aside0.mk hR4; have HB4 := Aside0.mk hB4; obtain ⟨A4, c4, e4⟩ := Kd.R_slice hR4; subst e4; clear hR4 hB4 hK4)
           | (go_at_call 62; refine (slices_Equal_byte_byte.calls k A4 c4 s4 A2 c2 sm true _ (by first | exact (Kd.R_reads' HR4.out).2.2 | exact (Kd.R_reads' (Kd.R_drewN HR4.out _)).2.2) (Kd.R_reads' HR4.out).2.1 (Kd.C_below HR2.out (by first | exact below_call HBW HB4.out hWs | exact pw_below_drewN (below_call HBW HB4.out hWs) _)) HC2.out HEQ.out).mono ?_; rintro e w5 ⟨rfl, ⟨⟨n5, rfl⟩⟩⟩))
  go_wp2_with (go_at_call 63; refine (impl_callOf.calls k A1 c1 bd q1 q2 q3 true _ (Kd.C_below HR1.out (pw_below_drewN (below_call HBW HB4.out hWs) _)) HC1.out HCO.out).mono ?_; rintro e w6 ⟨v6, rfl, hQ6, hB6⟩; have HQ6 := Aside0.mk hQ6; have HB6 := Aside0.mk (below_call (pw_below_drewN HB4.out _) hB6 (below_size (pw_below_drewN HB4.out _))); obtain ⟨A6, c6, e6, _⟩ := Kd.Q_slice hQ6; subst e6; clear hQ6 hB6; have hq1 := blk_below (blk_below HBK.out HBW) HB6.out; have hq2 := blk_below hTW HB6.out; have h60 : w6.cell? ⟨B, 0, none⟩ = some (.slice (some R) l.length c0) := blk_cell hq1 0; have h61 : w6.cell? ⟨B, 1, none⟩ = some (.int .i64 o) := blk_cell hq1 1; have h6f : w6.frozen? ⟨B, 1, none⟩ = false := blk_frozen hq1 1; have h6a : w6.cell? ⟨w.heap.size, 0, none⟩ = some (.int .u32 0) := blk_cell hq2 0; have h6b : w6.cell? ⟨w.heap.size, 1, none⟩ = some (.int .u32 0) := blk_cell hq2 1; have h6c : w6.cell? ⟨w.heap.size, 2, none⟩ = some (.slice none 0 0) := blk_cell hq2 2; have h6g : w6.frozen? ⟨w.heap.size, 0, none⟩ = false := blk_frozen hq2 0; have h6h : w6.frozen? ⟨w.heap.size, 1, none⟩ = false := blk_frozen hq2 1; have h6i : w6.frozen? ⟨w.heap.size, 2, none⟩ = false := blk_frozen hq2 2; have z1 := blk_lt hq1; have z2 := blk_lt hq2; have z3 : ¬ B = w6.heap.size := Nat.ne_of_lt z1; have z4 : ¬ w.heap.size = w6.heap.size := Nat.ne_of_lt z2; have z5 : ¬ B = w.heap.size := Nat.ne_of_lt hlt; have z6 : ¬ w.heap.size = B := Nat.ne_of_gt hlt; have z7 : ¬ w6.heap.size = B := Nat.ne_of_gt z1; have z8 : ¬ w6.heap.size = w.heap.size := Nat.ne_of_gt z2; have HQ1 := Aside0.mk hq1; have HQ2 := Aside0.mk hq2; clear hq1 hq2)
  have q1' := blk_put HQ1.out 1 (.int .i64 ((o : Int) + 5 + m)) rfl
  have q2' := blk_far HQ2.out (p := ⟨B, 1, none⟩) z6 (.int .i64 ((o : Int) + 5 + m))
  have b1 := blk_far (blk_far (blk_far q1' (p := ⟨w.heap.size, 0, none⟩) z5 (.int .u32 q1)) (p := ⟨w.heap.size, 1, none⟩) z5 (.int .u32 q2)) (p := ⟨w.heap.size, 2, none⟩) z5 (.slice A6 q3.length c6)
  have b2 := blk_put3 q2' (.int .u32 q1) (.int .u32 q2) (.slice A6 q3.length c6)
  have hWw6 := below_call HBW HB6.out hWs
  have k1 := KB.far (KB.far (KB.far (KB.set (KB.of_below hWw6 hlt) 1 (.int .i64 ((o : Int) + 5 + m))) (p := ⟨w.heap.size, 0, none⟩) (Nat.le_refl _) (.int .u32 q1)) (p := ⟨w.heap.size, 1, none⟩) (Nat.le_refl _) (.int .u32 q2)) (p := ⟨w.heap.size, 2, none⟩) (Nat.le_refl _) (.slice A6 q3.length c6)
  have q := Kd.Q_set (Kd.Q_set (Kd.Q_set (Kd.Q_set HQ6.out HQ1.out (by decide) 1 (.int .i64 ((o : Int) + 5 + m))) q2' (by decide) 0 (.int .u32 q1)) (blk_put q2' 0 (.int .u32 q1) rfl) (by decide) 1 (.int .u32 q2)) (blk_put (blk_put q2' 0 (.int .u32 q1) rfl) 1 (.int .u32 q2) rfl) (by decide) 2 (.slice A6 q3.length c6)
  exact bodyPost_ret (res_call rfl (blk_alloc b2 _)) rfl ⟨_, rfl, Kd.Q_lower (Kd.Q_alloc q _) (Nat.le_trans hWs (below_size (pw_below_drewN HB4.out n5))), blk_alloc b1 _, k1.alloc _⟩

end Go.Proofs.YtjpjfkmnfppgkaaDoor.P

namespace Go.Proofs.YtjpjfkmnfppgkaaDoor.P
open Go.RowKit Go.Proofs.YtjpjfkmnfppgkaaDoorW.PrintWords Go.Proofs.YtjpjfkmnfppgkaaDoorW.PrintLast Go.Proofs.YtjpjfkmnfppgkaaDoorW.PrintMore
set_option linter.unusedVariables false
set_option linter.unusedSimpArgs false

/-- A slice that may begin inside its block, as a field. -/
def sliceQ {α : Type} (e : Nat) (d : Kd α) : Kd (List α) where
  sz := 1
  E := e :: d.E
  K := fun w xs cs => ∃ A c, cs = [.slice A xs.length c] ∧ xs.length ≤ c ∧ d.C w A xs.length xs
  M := fun w base ok xs cs => ∃ v, cs = [v] ∧ d.Q e w base ok v xs
  K_len := by
    rintro w x cs ⟨A, c, rfl, _⟩
    rfl
  K_one := by
    rintro w x cs ⟨A, c, rfl, _⟩ u hu
    rw [List.mem_singleton.1 hu]
    rfl
  K_below := by
    rintro w w1 x cs hb ⟨A, c, rfl, hl, hr⟩
    exact ⟨A, c, rfl, hl, Kd.C_below hr hb⟩
  K_of_M := by
    rintro w base ok x cs ⟨v, rfl, h⟩
    obtain ⟨A, c, rfl, hl⟩ := Kd.Q_slice h
    exact ⟨A, c, rfl, hl, (Kd.Q_reads' h).2.2⟩
  M_mono := by
    rintro w base ok ok' x cs hok ⟨v, rfl, h⟩
    exact ⟨v, rfl, Kd.Q_mono h hok⟩
  M_bound := by
    rintro w base ok x cs ⟨v, rfl, h⟩
    exact ⟨v, rfl, Kd.Q_bound h⟩
  M_move := by
    rintro w w1 base ok x cs hm ⟨v, rfl, h⟩
    exact ⟨v, rfl, Kd.Q_move h hm⟩
  M_lower := by
    rintro w base base' ok x cs hb ⟨v, rfl, h⟩
    exact ⟨v, rfl, Kd.Q_lower h hb⟩
def kq : Kd S28 := Kd.iso (Kd.pair (Kd.int .u32) (Kd.pair (Kd.int .u32) (sliceQ 43 (Kd.int .u64)))) (fun x : S28 => (x.f0, x.f1, x.f2))
theorem kq_mkM (w : World) (base : Nat) (ok : Nat → Prop) (x : S28) {v2 : Value} (g2 : (Kd.int .u64).Q 43 w base ok v2 x.f2) : kq.M w base ok x [.int .u32 x.f0, .int .u32 x.f1, v2] := ⟨[.int .u32 x.f0], [.int .u32 x.f1, v2], rfl, rfl, ⟨[.int .u32 x.f1], [v2], rfl, rfl, ⟨v2, rfl, g2⟩⟩⟩
end Go.Proofs.YtjpjfkmnfppgkaaDoor.P

namespace Go.Proofs.YtjpjfkmnfppgkaaDoor.P
open Go.RowKit Go.Proofs.YtjpjfkmnfppgkaaDoorW.PrintWords Go.Proofs.YtjpjfkmnfppgkaaDoorW.PrintLast Go.Proofs.YtjpjfkmnfppgkaaDoorW.PrintMore
set_option linter.unusedVariables false
set_option linter.unusedSimpArgs false

/-! The whole log: read call by call, the fault caught. -/
def headR (l : List Int) : (Int × Int) ⊕ Int :=
  if l.length < 7 then .inl (5, l.length) else
  if rd l 0 ≠ 67 then .inl (2, 0) else if rd l 1 ≠ 76 then .inl (2, 1) else if rd l 2 ≠ 79 then .inl (2, 2) else if rd l 3 ≠ 71 then .inl (2, 3) else
  if rd l 4 ≠ 1 then .inl (3, 4) else
  if bits .or .i64 (wrap64 (rd l 5)) (wrap64 (wrap64 (rd l 6) * 256)) > 1000 then .inl (4, 5) else .inr (bits .or .i64 (wrap64 (rd l 5)) (wrap64 (wrap64 (rd l 6) * 256)))
/-- What is known of a reader: its two cells, the bytes that it reads. -/
structure Rdr (w : World) (B : Nat) (A0 : Option Addr) (c0 : Nat) (l : List Int) (o : Int) : Prop where
  blk : w.heap[B]? = some (.cells #[.slice A0 l.length c0, .int .i64 o] 53 (0, 0))
  hl : Kd.C (Kd.int .u8) w A0 l.length l
  hc : l.length ≤ c0
  hn : l.length ≤ 140737488355328
theorem Rdr.lt {w : World} {B : Nat} {A0 : Option Addr} {c0 : Nat} {l : List Int} {o : Int} (h : Rdr w B A0 c0 l o) : B < w.heap.size := blk_lt h.blk
def headE (w : World) (B : Nat) (A0 : Option Addr) (c0 : Nat) (l : List Int) (r : (Int × Int) ⊕ Int) (e : Ending) (w' : World) : Prop := match r with
  | .inl f => e = .panicked (chainE f.1 f.2) ∧ Below w.heap.size w w'
  | .inr c => e = .returned (.int .i64 c) ∧ w'.heap[B]? = some (.cells #[.slice A0 l.length c0, .int .i64 7] 53 (0, 0)) ∧ KB w w' B
theorem head_does (B : Nat) (A0 : Option Addr) (c0 : Nat) (l : List Int) (o : Int) (w : World) (h : Rdr w B A0 c0 l o) :
    Calls Tryd.prog 45 #[.pointer (some ⟨B, 0, none⟩)] w (headE w B A0 c0 l (headR l)) := by
  have hb : w.cell? ⟨B, 0, none⟩ = some (.slice A0 l.length c0) := blk_cell h.blk 0
  unfold headR
  by_cases c7 : l.length < 7
  · rw [if_pos c7]
    refine (head_short B A0 c0 l.length w hb c7).mono ?_
    rintro e w' ⟨rfl, rfl⟩
    exact ⟨rfl, Below.refl _ _⟩
  rw [if_neg c7]
  have at_ : ∀ i : Nat, i < 7 → ∃ ad, A0 = some ad ∧ w.cell? (ad.add i) = some (.int .u8 (rd l (i : Int))) := fun i hi => by
    obtain ⟨ad, e, hx⟩ := Kd.at_int h.hl (i : Int) (by omega) (by omega)
    exact ⟨ad, e, by simpa using hx⟩
  obtain ⟨R, rfl, h0⟩ := at_ 0 (by omega)
  have cl : ∀ i : Nat, i < 7 → w.cell? (R.add i) = some (.int .u8 (rd l (i : Int))) := fun i hi => by
    obtain ⟨ad, e, hx⟩ := at_ i hi
    obtain rfl := Option.some.inj e
    exact hx
  have hR : R.block < w.heap.size := World.block_lt_of_cell? w R (by simpa [Addr.add] using h0)
  have h0 : w.cell? R = some (.int .u8 (rd l 0)) := by simpa [Addr.add] using h0
  have h1 : w.cell? ⟨R.block, R.off + 1, none⟩ = some (.int .u8 (rd l 1)) := cl 1 (by omega)
  have h2 : w.cell? ⟨R.block, R.off + 2, none⟩ = some (.int .u8 (rd l 2)) := cl 2 (by omega)
  have h3 : w.cell? ⟨R.block, R.off + 3, none⟩ = some (.int .u8 (rd l 3)) := cl 3 (by omega)
  have h4 : w.cell? ⟨R.block, R.off + 4, none⟩ = some (.int .u8 (rd l 4)) := cl 4 (by omega)
  have h5 : w.cell? ⟨R.block, R.off + 5, none⟩ = some (.int .u8 (rd l 5)) := cl 5 (by omega)
  have h6 : w.cell? ⟨R.block, R.off + 6, none⟩ = some (.int .u8 (rd l 6)) := cl 6 (by omega)
  have h7 : 7 ≤ l.length := by omega
  have ends : ∀ {c x : Int} {e : Ending} {w' : World}, e = .panicked (chainE c x) ∧ Below w.heap.size w w' → headE w B (some R) c0 l (.inl (c, x)) e w' := fun h => h
  by_cases d0 : rd l 0 ≠ 67
  · rw [if_pos d0]
    exact (head_bad0 B R c0 l.length _ _ _ _ _ _ _ o w hb h7 hR h.lt h0 h1 h2 h3 h4 h5 h6 (bne_iff_ne.2 d0)).mono fun e w' => ends
  rw [if_neg d0]
  have d0 := Classical.not_not.1 d0
  by_cases d1 : rd l 1 ≠ 76
  · rw [if_pos d1]
    exact (head_bad1 B R c0 l.length _ _ _ _ _ _ _ o w hb h7 hR h.lt h0 h1 h2 h3 h4 h5 h6 d0 (bne_iff_ne.2 d1)).mono fun e w' => ends
  rw [if_neg d1]
  have d1 := Classical.not_not.1 d1
  by_cases d2 : rd l 2 ≠ 79
  · rw [if_pos d2]
    exact (head_bad2 B R c0 l.length _ _ _ _ _ _ _ o w hb h7 hR h.lt h0 h1 h2 h3 h4 h5 h6 ⟨d0, d1⟩ (bne_iff_ne.2 d2)).mono fun e w' => ends
  rw [if_neg d2]
  have d2 := Classical.not_not.1 d2
  by_cases d3 : rd l 3 ≠ 71
  · rw [if_pos d3]
    exact (head_bad3 B R c0 l.length _ _ _ _ _ _ _ o w hb h7 hR h.lt h0 h1 h2 h3 h4 h5 h6 ⟨d0, d1, d2⟩ (bne_iff_ne.2 d3)).mono fun e w' => ends
  rw [if_neg d3]
  have d3 := Classical.not_not.1 d3
  by_cases d4 : rd l 4 ≠ 1
  · rw [if_pos d4]
    exact (head_ver B R c0 l.length _ _ _ _ _ _ _ o w hb h7 hR h.lt h0 h1 h2 h3 h4 h5 h6 ⟨d0, d1, d2, d3⟩ (bne_iff_ne.2 d4)).mono fun e w' => ends
  rw [if_neg d4]
  have d4 := Classical.not_not.1 d4
  by_cases d5 : bits .or .i64 (wrap64 (rd l 5)) (wrap64 (wrap64 (rd l 6) * 256)) > 1000
  · rw [if_pos d5]
    exact (head_count B R c0 l.length _ _ _ _ _ _ _ o w hb h7 hR h.lt h0 h1 h2 h3 h4 h5 h6 ⟨d0, d1, d2, d3⟩ d4 (decide_eq_true d5)).mono fun e w' => ends
  rw [if_neg d5]
  refine (head_ok B R c0 l.length _ _ _ _ _ _ _ o w hb h7 hR h.lt h0 h1 h2 h3 h4 h5 h6 ⟨d0, d1, d2, d3⟩ d4 _ rfl (decide_eq_false d5) (blk_cell h.blk 1) (blk_frozen h.blk 1)).mono ?_
  rintro e w' ⟨rfl, w1, hb1, rfl⟩
  exact ⟨rfl, blk_put (blk_below h.blk hb1) 1 _ rfl, KB.set (KB.of_below hb1 h.lt) 1 _⟩
/-- One call off the log. -/
def callR (k : Nat) (l : List Int) (o : Nat) : Option ((Int × Int) ⊕ (S28 × Nat)) :=
  if o = l.length then some (.inl (5, l.length)) else
  if o < l.length then
    if wrap64 (rd l o) < 8 ∨ wrap64 (rd l o) > 70 then some (.inl (6, o)) else
    if l.length < o + 1 + (wrap64 (rd l o)).toNat + 4 then some (.inl (5, l.length)) else
    (impl_Checksum.f k ((l.take (o + 1 + (wrap64 (rd l o)).toNat)).drop (o + 1))).bind fun s => (impl_low.f k [] (IntKind.u64.wrap s) 4).bind fun s4 =>
    (slices_Equal_byte_byte.f k s4 ((l.take (o + 5 + (wrap64 (rd l o)).toNat)).drop (o + 1 + (wrap64 (rd l o)).toNat))).bind fun b => if b = true then
      (impl_callOf.f k ((l.take (o + 1 + (wrap64 (rd l o)).toNat)).drop (o + 1))).bind fun q => if q.2.2.2 = true then some (.inr (⟨q.1, q.2.1, q.2.2.1⟩, o + 5 + (wrap64 (rd l o)).toNat)) else some (.inl (8, o + 1))
    else some (.inl (7, o + 1 + ((wrap64 (rd l o)).toNat : Nat)))
  else none
def callE (w : World) (B : Nat) (A0 : Option Addr) (c0 : Nat) (l : List Int) (r : (Int × Int) ⊕ (S28 × Nat)) (e : Ending) (w' : World) : Prop := match r with
  | .inl f => e = .panicked (chainE f.1 f.2) ∧ Below w.heap.size w w'
  | .inr c => ∃ v, e = .returned (.agg #[.int .u32 c.1.f0, .int .u32 c.1.f1, v]) ∧ Kd.Q (Kd.int .u64) 43 w' w.heap.size (fun _ => True) v c.1.f2 ∧ w'.heap[B]? = some (.cells #[.slice A0 l.length c0, .int .i64 c.2] 53 (0, 0)) ∧ KB w w' B
theorem call_does (k B : Nat) (A0 : Option Addr) (c0 : Nat) (l : List Int) (o : Nat) (w : World) (h : Rdr w B A0 c0 l o) (r : (Int × Int) ⊕ (S28 × Nat)) (hr : callR k l o = some r) :
    Calls Tryd.prog 46 #[.pointer (some ⟨B, 0, none⟩)] w (callE w B A0 c0 l r) := by
  have hb : w.cell? ⟨B, 0, none⟩ = some (.slice A0 l.length c0) := blk_cell h.blk 0
  have ht : w.cell? ⟨B, 1, none⟩ = some (.int .i64 o) := blk_cell h.blk 1
  have hf := blk_frozen h.blk 1
  unfold callR at hr
  by_cases c1 : o = l.length
  · rw [if_pos c1] at hr
    obtain rfl := Option.some.inj hr
    subst c1
    exact call_short B A0 c0 l w ⟨hb, ht, hf, h.hl, h.hc, h.hn⟩
  rw [if_neg c1] at hr
  by_cases c2 : o < l.length
  case neg =>
    rw [if_neg c2] at hr
    exact absurd hr (by simp)
  rw [if_pos c2] at hr
  obtain ⟨R, rfl, hx⟩ := Kd.at_int h.hl (o : Int) (by omega) (by omega)
  have hx : w.cell? (R.add o) = some (.int .u8 (rd l o)) := by simpa using hx
  have hR : R.block < w.heap.size := by
    have := World.block_lt_of_cell? w _ hx
    have e : (R.add o).block = R.block := by unfold Addr.add; split <;> rfl
    rwa [e] at this
  by_cases c3 : wrap64 (rd l o) < 8 ∨ wrap64 (rd l o) > 70
  · rw [if_pos c3] at hr
    obtain rfl := Option.some.inj hr
    exact call_len B R c0 l.length o (rd l o) w hb ht h.lt hR h.hn c2 hx (by simpa using c3)
  rw [if_neg c3] at hr
  obtain ⟨m, hm⟩ : ∃ m : Nat, wrap64 (rd l o) = m := ⟨(wrap64 (rd l o)).toNat, by omega⟩
  rw [hm] at hr
  simp only [Int.toNat_natCast] at hr
  have h8 : 8 ≤ m := by omega
  have h70 : m ≤ 70 := by omega
  by_cases c4 : l.length < o + 1 + m + 4
  · rw [if_pos c4] at hr
    obtain rfl := Option.some.inj hr
    exact call_short2 B R c0 l.length o m (rd l o) w hb ht h.lt hR h.hn c2 hx hm h8 h70 c4
  rw [if_neg c4] at hr
  obtain ⟨s, hs, hr⟩ := Option.bind_eq_some_iff.1 hr
  obtain ⟨s4, hs4, hr⟩ := Option.bind_eq_some_iff.1 hr
  obtain ⟨b, hbq, hr⟩ := Option.bind_eq_some_iff.1 hr
  cases b with
  | false =>
    rw [if_neg (by decide)] at hr
    obtain rfl := Option.some.inj hr
    exact call_sum k B R c0 o m l (rd l o) s s4 w hb ht h.lt hR h.hn h.hl h.hc hx hm h8 h70 (by omega) hs hs4 hbq
  | true =>
    rw [if_pos rfl] at hr
    obtain ⟨⟨q1, q2, q3, q4⟩, hq, hr⟩ := Option.bind_eq_some_iff.1 hr
    cases q4 with
    | false =>
      simp only [Bool.false_eq_true, if_false] at hr
      obtain rfl := Option.some.inj hr
      exact call_body k B R c0 o m l (rd l o) s q1 q2 s4 q3 w hb ht h.lt hR h.hn h.hl h.hc hx hm h8 h70 (by omega) hs hs4 hbq hq
    | true =>
      rw [if_pos rfl] at hr
      obtain rfl := Option.some.inj hr
      exact call_ok k B R c0 o m l (rd l o) s q1 q2 s4 q3 w hb ht h.blk h.lt hR h.hn h.hl h.hc hx hm h8 h70 (by omega) hs hs4 hbq hq
theorem catch_panic (Bc Be : Nat) (v0 v1 : Value) (c o : Int) (w : World) (hne : Bc ≠ Be) (hc : w.heap[Bc]? = some (.cells #[v0] 23 (0, 0))) (he : w.heap[Be]? = some (.cells #[v1] 49 (0, 0))) :
    CallsD Tryd.prog 44 #[.pointer (some ⟨Bc, 0, none⟩), .pointer (some ⟨Be, 0, none⟩)] (.panicking [{ v := .iface 56 (.agg #[.int .i64 c, .int .i64 o]), recovered := false }]) w fun e u' w' =>
      e = .returned (.tuple #[]) ∧ u' = .panicking [{ v := .iface 56 (.agg #[.int .i64 c, .int .i64 o]), recovered := true }] ∧ w'.heap[Bc]? = some (.cells #[.slice none 0 0] 23 (0, 0)) ∧ w'.heap[Be]? = some (.cells #[.iface 56 (.agg #[.int .i64 c, .int .i64 o])] 49 (0, 0)) ∧ ∀ b, b ≤ Bc → b ≤ Be → Below b w w' := by
  have hta : ∀ (v : Value) (W : World), (Instr.typeAssert (.iface 56 v) 20 56 true).run Tryd.prog W = .ok (.tuple #[v, .bool true]) W := fun v W => by kernel_rfl
  refine callsD_of_wpS Tryd.func44 rfl fun c₀ cs hu => ?_
  have c0 : w.cell? ⟨Bc, 0, none⟩ = some v0 := blk_cell hc 0
  have e0 : w.cell? ⟨Be, 0, none⟩ = some v1 := blk_cell he 0
  have cf := blk_frozen hc 0
  have ef := blk_frozen he 0
  apply wpS_seq
  apply wpS_region
  simp [wpOpsS, go_sem, recoverD, hu, Tryd.ntmps44, Exit.thenS]
  refine wpS_of_wp ?_
  simp only [Array.replicate_succ, Array.replicate_zero, List.push_toArray, List.append_toArray, List.nil_append, List.cons_append, List.setIfInBounds_toArray, List.set_cons_zero, List.set_cons_succ]
  have l1 := blk_lt hc
  have l2 := blk_lt he
  have hne' : ¬ Bc = Be := hne
  have hne2 : ¬ Be = Bc := fun e => hne e.symm
  have HC := Aside0.mk hc
  have HE := Aside0.mk he
  clear hc he hne
  go_wp2
  go_region
  refine ⟨rfl, _, rfl, .tuple #[], by simp [results, Tryd.results44], rfl, rfl, ?_⟩
  have q1 := blk_far (blk_put HC.out 0 (.slice none 0 0) rfl) (p := ⟨Be, 0, none⟩) hne' (.iface 56 (.agg #[.int .i64 c, .int .i64 o]))
  have q2 := blk_put (blk_far HE.out (p := ⟨Bc, 0, none⟩) hne2 (.slice none 0 0)) 0 (.iface 56 (.agg #[.int .i64 c, .int .i64 o])) rfl
  exact ⟨blk_drew (blk_alloc q1 _), blk_drew (blk_alloc q2 _), fun b h1 h2 => Below.drew (Below.alloc (((Below.refl b w).setCell (p := ⟨Bc, 0, none⟩) h1 _).setCell (p := ⟨Be, 0, none⟩) h2 _) (by simp [World.setCell]; omega) _)⟩
theorem catch_idle (Bc Be : Nat) (w : World) :
    CallsD Tryd.prog 44 #[.pointer (some ⟨Bc, 0, none⟩), .pointer (some ⟨Be, 0, none⟩)] .returning w fun e u' w' => e = .returned (.tuple #[]) ∧ u' = .returning ∧ w' = w := by
  refine callsD_of_wpS Tryd.func44 rfl fun c₀ cs hu => ?_
  apply wpS_seq
  apply wpS_region
  simp [wpOpsS, go_sem, recoverD, hu, Tryd.ntmps44, Exit.thenS]
  refine wpS_of_wp ?_
  simp only [Array.replicate_succ, Array.replicate_zero, List.push_toArray, List.append_toArray, List.nil_append, List.cons_append, List.setIfInBounds_toArray, List.set_cons_zero, List.set_cons_succ]
  go_wp2
  cases c₀
  simp_all [bodyPostS, results, Tryd.results44]
theorem res_all {t : Array Value} {W : World} {Bc Be : Nat} {A : Option Addr} {n c : Nat} {v1 : Value} (h2 : t[2]? = some (.pointer (some ⟨Bc, 0, none⟩))) (h3 : t[3]? = some (.pointer (some ⟨Be, 0, none⟩)))
    (hc : W.heap[Bc]? = some (.cells #[.slice A n c] 23 (0, 0))) (he : W.heap[Be]? = some (.cells #[v1] 49 (0, 0))) :
    (results Tryd.f27 t).run Tryd.prog W = .ok (.tuple #[.slice A n c, v1]) W := by
  have e0 : W.cell? ⟨Bc, 0, none⟩ = some (.slice A n c) := blk_cell hc 0
  have e1 : W.cell? ⟨Be, 0, none⟩ = some v1 := blk_cell he 0
  clear hc he
  simp [results, Tryd.results27, go_sem, h2, h3, e0, e1]
theorem all_panic {R : Ending → World → Prop} {a : Act} {W : World} {Bc Be : Nat} {v0 v1 : Value} (c o : Int) (h2 : a.tmps[2]? = some (.pointer (some ⟨Bc, 0, none⟩))) (h3 : a.tmps[3]? = some (.pointer (some ⟨Be, 0, none⟩)))
    (hd : a.defers = [{ target := .fn (.func 44) #[.pointer (some ⟨Bc, 0, none⟩), .pointer (some ⟨Be, 0, none⟩)], args := #[] }]) (hne : Bc ≠ Be) (hc : W.heap[Bc]? = some (.cells #[v0] 23 (0, 0))) (he : W.heap[Be]? = some (.cells #[v1] 49 (0, 0)))
    (hR : ∀ W', (∀ b, b ≤ Bc → b ≤ Be → Below b W W') → R (.returned (.tuple #[.slice none 0 0, .iface 56 (.agg #[.int .i64 c, .int .i64 o])])) W') : bodyPostD Tryd.prog Tryd.f27 R (.panic (chainE c o)) a W := by
  show Leaves _ _ _ _ a.defers _ _
  rw [hd]
  refine leaves_cons (f := 44) (args := #[.pointer (some ⟨Bc, 0, none⟩), .pointer (some ⟨Be, 0, none⟩)]) (by simp) (by simp [go_sem]) ?_
  refine (catch_panic Bc Be v0 v1 c o W hne hc he).mono ?_
  rintro e u' W' ⟨rfl, rfl, q1, q2, q3⟩
  simp only [settle]
  exact ⟨_, res_all h2 h3 q1 q2, hR W' q3⟩
theorem all_back {R : Ending → World → Prop} {a : Act} {W : World} {Bc Be : Nat} {A : Option Addr} {n c : Nat} {v1 : Value} (h2 : a.tmps[2]? = some (.pointer (some ⟨Bc, 0, none⟩))) (h3 : a.tmps[3]? = some (.pointer (some ⟨Be, 0, none⟩)))
    (hd : a.defers = [{ target := .fn (.func 44) #[.pointer (some ⟨Bc, 0, none⟩), .pointer (some ⟨Be, 0, none⟩)], args := #[] }]) (hc : W.heap[Bc]? = some (.cells #[.slice A n c] 23 (0, 0))) (he : W.heap[Be]? = some (.cells #[v1] 49 (0, 0)))
    (hR : R (.returned (.tuple #[.slice A n c, v1])) W) : bodyPostD Tryd.prog Tryd.f27 R .ret a W := by
  show Leaves _ _ _ _ a.defers _ _
  rw [hd]
  refine leaves_cons (f := 44) (args := #[.pointer (some ⟨Bc, 0, none⟩), .pointer (some ⟨Be, 0, none⟩)]) (by simp) (by simp [go_sem]) ?_
  refine (catch_idle Bc Be W).mono ?_
  rintro e u' W' ⟨rfl, rfl, rfl⟩
  simp only [settle]
  exact ⟨_, res_all h2 h3 hc he, hR⟩
/-- A post that speaks of panics alone, or of going on alone. -/
def QF (Bc Be : Nat) (F : List PanicEntry → World → Prop) : Exit → Act → World → Prop
  | .panic c, a, w => a.tmps[2]? = some (.pointer (some ⟨Bc, 0, none⟩)) ∧ a.tmps[3]? = some (.pointer (some ⟨Be, 0, none⟩)) ∧ a.defers = [{ target := .fn (.func 44) #[.pointer (some ⟨Bc, 0, none⟩), .pointer (some ⟨Be, 0, none⟩)], args := #[] }] ∧ F c w
  | _, _, _ => False
theorem qf_put {Bc Be n : Nat} {F : List PanicEntry → World → Prop} {c : List PanicEntry} {a : Act} {v : Value} {w : World} (h2 : n ≠ 2) (h3 : n ≠ 3) (h : QF Bc Be F (.panic c) (a.put (some n) v) w) : QF Bc Be F (.panic c) a w := by
  obtain ⟨q1, q2, q3, q4⟩ := h
  simp only [Act.put, Array.getElem?_setIfInBounds] at q1 q2
  rw [if_neg h2] at q1
  rw [if_neg h3] at q2
  exact ⟨q1, q2, q3, q4⟩
def QO (R : Act → World → Prop) : Exit → Act → World → Prop
  | .normal, a, w => R a w
  | _, _, _ => False
theorem wp_qo {P : Program} {c : Code} {Q : Exit → Act → World → Prop} {a : Act} {w : World} (h : c.wp P (QO (fun a w => Q .normal a w)) a w) : c.wp P Q a w := Code.wp_mono (fun e a w hq => by cases e <;> first | exact hq | exact hq.elim) h
theorem qo_in {R : Act → World → Prop} {a : Act} {w : World} (h : R a w) : QO R .normal a w := h
theorem qo_out {R : Act → World → Prop} {c : List PanicEntry} {a b : Act} {w : World} (h : QO R (.panic c) a w) : QO R (.panic c) b w := h.elim
section
variable {P : Program} {ops : Array Oper} {Q : Exit → Act → World → Prop}
theorem goesP_ {oi : Oper} {N : Option Tmp} {a : Act} {w : World} {K : Act → World → Prop} {f : FuncId} {fn : Func} {ops_ : Array Operand} {ts : Array TypeId} (hf : P.funcs[f]? = some fn) (hname : (fn.name == "runtime.NumGoroutine") = false) (hb : fn.body.isSome = true) (args : Array Value)
    (hw : Region.wanted oi (yielded ops a.tmps) = true) (hop : oi.op = .call { callee := .value (.func f), args := ops_, argTypes := ts }) (hargs : ops_.map a.eval = args)
    (h : Calls P f args w fun e w' => ∃ c, e = .panicked c ∧ Q (.panic c) a w') : if Region.wanted oi (yielded ops a.tmps) = true then Oper.wp P oi a w K Q else K (a.put N undef) w := by
  rw [if_pos hw]
  have he := enters_ hf hname hb args w
  have hrun : (execOp a.eval oi).run P w = .ok (.enter f args) w := by
    unfold execOp
    simp [hop, resolve, Deferred.ofValue, invoke, Act.eval, hargs, he]
  unfold Oper.wp
  rw [hrun, Oper.upon_enter]
  refine h.mono fun e w'' hh => ?_
  obtain ⟨c, rfl, hk⟩ := hh
  exact hk
end
def log_all.T4 : Bool × List (List Nat × List Nat) := (true, [([], []), ([], []), ([1], [1]), ([2], [2]), ([0, 3, 2], [0, 3]), ([4, 4, 0, 1, 2, 3, 4], [4])])
def log_all.B4 : List Nat := [0, 0, 2, 6, 15, 31]
theorem log_all.tab4 : rtab .any (opsOf Tryd.f27 4) = log_all.T4 := by kernel_rfl
theorem log_all.bits4 : waitsOk log_all.T4.2 log_all.B4 = true := by kernel_rfl
theorem headR_le (l : List Int) (n : Int) (h : headR l = .inr n) : n ≤ 1000 := by
  unfold headR at h
  repeat' split at h
  all_goals first | (cases h; done) | (have := Sum.inr.inj h; omega)
def logL (k : Nat) (l : List Int) : Nat → Nat → List S28 → Option ((Int × Int) ⊕ List S28)
  | 0, o, cs => if o < l.length then some (.inl (9, o)) else some (.inr cs)
  | n + 1, o, cs => (callR k l o).bind fun r => match r with | .inl f => some (.inl f) | .inr c => logL k l n c.2 (cs ++ [c.1])
def allR (k : Nat) (l : List Int) : Option ((Int × Int) ⊕ List S28) := match headR l with | .inl f => some (.inl f) | .inr n => logL k l n.toNat 7 []
def allE (w : World) (B : Nat) (r : (Int × Int) ⊕ List S28) (e : Ending) (w' : World) : Prop := match r with
  | .inl f => e = .returned (.tuple #[.slice none 0 0, .iface 56 (.agg #[.int .i64 f.1, .int .i64 f.2])]) ∧ KB w w' B
  | .inr cs => ∃ v, e = .returned (.tuple #[v, .nilIface]) ∧ Kd.S kq 28 w' w.heap.size (fun _ => True) v cs ∧ KB w w' B
set_option maxHeartbeats 8000000 in
set_option maxRecDepth 100000 in
theorem all_does (k B : Nat) (A0 : Option Addr) (c0 : Nat) (l : List Int) (o : Int) (w : World) (h : Rdr w B A0 c0 l o) (hRB : ∀ ad, A0 = some ad → 0 < l.length → ad.block ≠ B) (r : (Int × Int) ⊕ List S28) (hr : allR k l = some r) :
    Calls Tryd.prog 27 #[.pointer (some ⟨B, 0, none⟩)] w (allE w B r) := by
  have hmf : ∀ (fn : Fn) (first cap : Array Value) (w : World), (Instr.makeFunc fn first cap).run Tryd.prog w = .ok (.func fn first cap) w := fun _ _ _ _ => rfl
  have H := Aside0.mk h
  have HRB := Aside0.mk hRB
  have HR := Aside0.mk hr
  have hlt := h.lt
  have nB1 : ¬ w.heap.size = B := by omega
  have nB2 : ¬ w.heap.size + 1 = B := by omega
  have HN1 := Aside0.mk nB1
  have HN2 := Aside0.mk nB2
  clear h hRB hr nB1 nB2
  go_enter_defers Tryd.func27, Tryd.ntmps27
  have hBc : ((w.alloc (.cells #[.slice none 0 0] 23)).alloc (.cells #[.nilIface] 49)).heap[w.heap.size]? = some (.cells #[.slice none 0 0] 23 (0, 0)) := blk_alloc (blk_new w _) _
  have hBe : ((w.alloc (.cells #[.slice none 0 0] 23)).alloc (.cells #[.nilIface] 49)).heap[w.heap.size + 1]? = some (.cells #[.nilIface] 49 (0, 0)) := by have := blk_new (w.alloc (.cells #[.slice none 0 0] 23)) (.cells #[.nilIface] 49); rw [World.size_alloc] at this; exact this
  have hK0 : KB w ((w.alloc (.cells #[.slice none 0 0] 23)).alloc (.cells #[.nilIface] 49)) B := ((KB.refl hlt).alloc _).alloc _
  have hRd : Rdr ((w.alloc (.cells #[.slice none 0 0] 23)).alloc (.cells #[.nilIface] 49)) B A0 c0 l o := ⟨blk_alloc (blk_alloc H.out.blk _) _, Kd.C_alloc (Kd.C_alloc H.out.hl _) _, H.out.hc, H.out.hn⟩
  have HBc := Aside0.mk hBc
  have HBe := Aside0.mk hBe
  have HK0 := Aside0.mk hK0
  have HRd := Aside0.mk hRd
  clear hBc hBe hK0 hRd
  go_wp2_with fail
  generalize hW1 : (w.alloc (.cells #[.slice none 0 0] 23)).alloc (.cells #[.nilIface] 49) = W1 at HBc HBe HK0 HRd ⊢
  clear hW1
  refine (head_does B A0 c0 l o W1 HRd.out).mono ?_
  have hr := HR.out
  clear HR
  unfold allR at hr
  cases hh : headR l with
  | inl f =>
    rw [hh] at hr
    obtain rfl := Option.some.inj hr
    rintro e w2 ⟨rfl, hb2⟩
    refine all_panic (Bc := w.heap.size) (Be := w.heap.size + 1) f.1 f.2 rfl rfl rfl (by omega) (blk_below HBc.out hb2) (blk_below HBe.out hb2) (fun W' hW' => ⟨rfl, (HK0.out.below hb2 (Nat.le_of_lt (blk_lt HBc.out))).below (hW' w.heap.size (Nat.le_refl _) (Nat.le_succ _)) (Nat.le_refl _)⟩)
  | inr n =>
    rw [hh] at hr
    have HR := Aside0.mk hr
    have HN9 := Aside0.mk (headR_le l n hh)
    clear hr
    rintro e w2 ⟨rfl, hb2, hk2⟩
    have hRd2 : Rdr w2 B A0 c0 l 7 := ⟨hb2, Kd.C_keep 0 HRd.out.hl hk2.keep HRB.out, HRd.out.hc, HRd.out.hn⟩
    have HRd2 := Aside0.mk hRd2
    have HBc2 := Aside0.mk (hk2.keep.blk HBc.out HN1.out (by simp))
    have HBe2 := Aside0.mk (hk2.keep.blk HBe.out HN2.out (by simp))
    have HK2 := Aside0.mk (HK0.out.trans hk2)
    have hlt2 : B < w2.heap.size := blk_lt hb2
    clear hRd2 hb2 hk2 hh HRd HBc HBe HK0
    go_wp2
    go_loopg [7] n.toNat (fun kz v7 wr => ∃ (cs : List S28) (o2 i : Nat) (v : Value), v7 = .int .i64 i ∧ Aside0 (logL k l kz o2 cs = some r) ∧ Aside0 (i + kz = n.toNat ∧ cs.length = i) ∧ Aside0 (Rdr wr B A0 c0 l o2) ∧ Aside0 (wr.heap[w.heap.size]? = some (.cells #[v] 23 (0, 0))) ∧ Aside0 (wr.heap[w.heap.size + 1]? = some (.cells #[.nilIface] 49 (0, 0))) ∧ Aside0 (Kd.S kq 28 wr w.heap.size (fun _ => True) v cs) ∧ Aside0 (KB w wr B))
    case atStart => exact ⟨[], 7, 0, .slice none 0 0, rfl, HR, ⟨by omega, rfl⟩, HRd2, HBc2, HBe2, ⟨Kd.S_nil _ _ _ _ _⟩, HK2⟩
    case round =>
      clear HR HRd2 HBc2 HBe2 HK2 hlt2
      obtain ⟨cs, o2, i, v, rfl, HL, HI, HRd, HBc, HBe, HS, HK⟩ := hrel
      obtain ⟨Ao, co, rfl⟩ := Kd.S_slice HS.out
      have hi := HI.out
      cases gk with
      | succ n1 =>
        have g1 : decide ((i : Int) < n) = true := decide_eq_true (by omega)
        have hL := HL.out
        simp only [logL] at hL
        obtain ⟨r1, hr1, hL⟩ := Option.bind_eq_some_iff.1 hL
        have HR1 := Aside0.mk hr1
        have hc0 : wr.cell? ⟨w.heap.size, 0, none⟩ = some (.slice Ao cs.length co) := blk_cell HBc.out 0
        clear HL hr1 hi
        cases r1 with
        | inl f =>
          obtain rfl := Option.some.inj hL
          clear hL
          go_wp2
          refine Code.wp_mono (Q := QF w.heap.size (w.heap.size + 1) (fun c W' => c = chainE f.1 f.2 ∧ Below wr.heap.size wr W')) (fun e a W' hq => ?_) ?_
          · cases e with
            | panic c =>
              obtain ⟨q1, q2, q3, rfl, q5⟩ := hq
              exact all_panic (Bc := w.heap.size) (Be := w.heap.size + 1) f.1 f.2 q1 q2 q3 (by omega) (blk_below HBc.out q5) (blk_below HBe.out q5) (fun W2 hW2 => ⟨rfl, (HK.out.below q5 HK.out.keep.1).below (hW2 w.heap.size (Nat.le_refl _) (Nat.le_succ _)) (Nat.le_refl _)⟩)
            | _ => exact hq.elim
          refine start_ (n := 6) (S := fun w' => w'.cell? ⟨w.heap.size, 0, none⟩ = some (.slice Ao cs.length co)) (ds := [5]) #[false, false, false, false, false, false] (by kernel_rfl) rfl rfl hc0 (fun hHeld => ?_)
          refine with_tabW log_all.tab4 log_all.bits4 (fun HT_ HW_ => ?_)
          refine take_ (i := 0) (N := some 9) (v := ?_) (a' := ?_) #[true, false, false, false, false, false] rfl rfl (take_ofW HT_.out HW_.out (by kernel_rfl)) (fun _ _ _ h => qf_put (by decide) (by decide) h) (Or.inl ⟨by rfl, ?_⟩) hHeld ?_ ?_
          rotate_left
          · rintro w' s0
            go_simp
            with_reducible rfl
          rotate_left
          · simp only [Act.put, List.setIfInBounds_toArray, List.set_cons_zero, List.set_cons_succ, i64_w, i32_w]
            rfl
          refine pure_ (i := 1) (N := some 10) (v := ?_) (a' := ?_) #[true, true, false, false, false, false] rfl rfl (any_of HT_.out (by kernel_rfl)) (fun _ _ _ h => qf_put (by decide) (by decide) h) (Or.inl ⟨by rfl, ?_⟩) ?_ ?_
          rotate_left
          · intro w'
            go_simp
            with_reducible rfl
          rotate_left
          · simp only [Act.put, List.setIfInBounds_toArray, List.set_cons_zero, List.set_cons_succ, i64_w, i32_w]
            rfl
          refine one_ (i := 2) (N := some 11) #[true, true, true, false, false, false] rfl rfl (one_of HT_.out (by kernel_rfl)) (by decide) (fun K hK => ?_)
          refine goesP_ Tryd.func46 (by kernel_rfl) rfl #[.pointer (some ⟨B, 0, none⟩)] (by rfl) rfl (by simp only [List.map_toArray, List.map_cons, List.map_nil]; rfl) ?_
          refine (call_does k B A0 c0 l o2 wr.drew ⟨blk_drew HRd.out.blk, Kd.C_below HRd.out.hl (below_drew1 (Below.refl _ _)), HRd.out.hc, HRd.out.hn⟩ (.inl f) HR1.out).mono ?_
          rintro e w3 ⟨rfl, hb3⟩
          exact ⟨_, rfl, rfl, rfl, rfl, rfl, (below_drew1 (Below.refl _ _)).trans hb3⟩
        | inr c =>
          have HL1 := Aside0.mk (show logL k l n1 c.2 (cs ++ [c.1]) = some r from hL)
          clear hL
          go_wp2
          refine wp_qo ?_
          refine start_ (n := 6) (S := fun w' => w'.cell? ⟨w.heap.size, 0, none⟩ = some (.slice Ao cs.length co)) (ds := [5]) #[false, false, false, false, false, false] (by kernel_rfl) rfl rfl hc0 (fun hHeld => ?_)
          refine with_tabW log_all.tab4 log_all.bits4 (fun HT_ HW_ => ?_)
          refine take_ (i := 0) (N := some 9) (v := ?_) (a' := ?_) #[true, false, false, false, false, false] rfl rfl (take_ofW HT_.out HW_.out (by kernel_rfl)) (fun _ _ _ h => qo_out h) (Or.inl ⟨by rfl, ?_⟩) hHeld ?_ ?_
          rotate_left
          · rintro w' s0
            go_simp
            with_reducible rfl
          rotate_left
          · simp only [Act.put, List.setIfInBounds_toArray, List.set_cons_zero, List.set_cons_succ, i64_w, i32_w]
            rfl
          refine pure_ (i := 1) (N := some 10) (v := ?_) (a' := ?_) #[true, true, false, false, false, false] rfl rfl (any_of HT_.out (by kernel_rfl)) (fun _ _ _ h => qo_out h) (Or.inl ⟨by rfl, ?_⟩) ?_ ?_
          rotate_left
          · intro w'
            go_simp
            with_reducible rfl
          rotate_left
          · simp only [Act.put, List.setIfInBounds_toArray, List.set_cons_zero, List.set_cons_succ, i64_w, i32_w]
            rfl
          refine one_ (i := 2) (N := some 11) #[true, true, true, false, false, false] rfl rfl (one_of HT_.out (by kernel_rfl)) (by decide) (fun K hK => ?_)
          refine goes_ Tryd.func46 (by kernel_rfl) rfl #[.pointer (some ⟨B, 0, none⟩)] (by rfl) rfl rfl (by simp only [List.map_toArray, List.map_cons, List.map_nil]; rfl) ?_
          refine (call_does k B A0 c0 l o2 wr.drew ⟨blk_drew HRd.out.blk, Kd.C_below HRd.out.hl (below_drew1 (Below.refl _ _)), HRd.out.hc, HRd.out.hn⟩ (.inr c) HR1.out).mono ?_
          rintro e w3 ⟨v3, rfl, hQ3, hb3, hk3⟩
          refine ⟨_, rfl, ?_⟩
          have hk3 : KB wr w3 B := ⟨blk_lt HRd.out.blk, hk3.keep, fun b hb => (below_drew1 (Below.refl b wr)).trans (hk3.bel b hb)⟩
          have HB3 := Aside0.mk hb3
          have HBc3 := Aside0.mk (hk3.keep.blk HBc.out HN1.out (by simp))
          have HBe3 := Aside0.mk (hk3.keep.blk HBe.out HN2.out (by simp))
          have HK3 := Aside0.mk (HK.out.trans hk3)
          have HS3 := Aside0.mk (Kd.S_keep (Kd.S_mono (ok' := fun k => k < wr.heap.size ∧ k ≠ B) (Kd.S_bound HS.out) (fun k hk => ⟨hk.2.2.1, by have := hk.2.1; omega⟩)) hk3.keep (fun k hk => hk.2))
          obtain ⟨A3, c3, rfl, _⟩ := Kd.Q_slice hQ3
          have HQ3 := Aside0.mk hQ3
          clear hb3 hk3 hQ3
          refine hK.out _ _ (blk_cell HBc3.out 0) (fun hHeld => ?_)
          clear hK K
          refine norm_ (a' := ?_) ?_ ?_
          rotate_left
          · show Act.put _ (some 11) _ = _
            simp only [Act.put, List.setIfInBounds_toArray, List.set_cons_zero, List.set_cons_succ, i64_w, i32_w]
            rfl
          refine one_ (i := 3) (N := some 12) #[true, true, true, true, false, false] rfl rfl (one_of HT_.out (by kernel_rfl)) (by decide) (fun K hK => ?_)
          refine value_ (w1 := ?_) (v := ?_) (by rfl) rfl ?_ ?_
          rotate_left 2
          · go_simp
            constructor
            · rfl
            · rfl
          refine hK.out _ _ (blk_cell (blk_alloc HBc3.out _) 0) (fun hHeld => ?_)
          clear hK K
          refine norm_ (a' := ?_) ?_ ?_
          rotate_left
          · show Act.put _ (some 12) _ = _
            simp only [Act.put, List.setIfInBounds_toArray, List.set_cons_zero, List.set_cons_succ, i64_w, i32_w]
            rfl
          refine one_ (i := 4) (N := some 13) #[true, true, true, true, true, false] rfl rfl (one_of HT_.out (by kernel_rfl)) (by decide) (fun K hK => ?_)
          refine Kd.S_append_step kq (w0 := w3) w.heap.size (by rfl) (.tmp 9) (.tmp 12) 23 28 (.agg #[(.int .u32 0), (.int .u32 0), (.slice none 0 0)]) 32 rfl Tryd.underlying23 info28 rfl (by decide) (by omega) (.slice Ao cs.length co) cs c.1 [.int .u32 c.1.f0, .int .u32 c.1.f1, .slice A3 c.1.f2.length c3] (fun _ => True) (fun k => some k = (Value.slice A3 c.1.f2.length c3).ownBlock) rfl rfl ?aP ?aK (fun _ _ => trivial) ?aO (Below.refl _ _) ?aS ?aL ?_
          (case aP => exact kq_mkM _ _ _ _ (Kd.Q_lower (Kd.Q_tight rfl HQ3.out) HK.out.keep.1))
          (case aK => exact fun k hk => ⟨trivial, fun e => by have h1 := Kd.Q_base HQ3.out k hk.symm; have h2 := Kd.S_lt HS.out k e.symm; have h3 : wr.drew.heap.size = wr.heap.size := rfl; omega⟩)
          (case aO => exact Kd.S_mono HS3.out (fun k hk => ⟨trivial, fun e => by have h1 := Kd.Q_base HQ3.out k e.symm; have h3 : wr.drew.heap.size = wr.heap.size := rfl; omega⟩))
          (case aS => exact HK3.out.keep.1)
          (case aL => have := HI.out; have := HN9.out; omega)
          intro v5 w5 ho hb hg hat
          obtain ⟨A5, c5, rfl⟩ := Kd.S_slice ho
          have hlen : (cs ++ [c.1]).length = cs.length + 1 := by simp
          rw [hlen] at ho ⊢
          have HLEN := Aside0.mk hlen
          clear hlen
          have q5 : w5.heap[w.heap.size]? = _ := blk_grown HBc3.out hg (Kd.S_ne HS3.out HBc3.out (by decide))
          have q6 : w5.heap[w.heap.size + 1]? = _ := blk_grown HBe3.out hg (Kd.S_ne HS3.out HBe3.out (by decide))
          have q7 : w5.heap[B]? = _ := (hb.block B hlt).trans HB3.out
          have hc5 : w5.cell? ⟨w.heap.size, 0, none⟩ = some (.slice Ao cs.length co) := blk_cell q5 0
          have hf5 : w5.frozen? ⟨w.heap.size, 0, none⟩ = false := blk_frozen q5 0
          have k5 := HK3.out.below hb (Nat.le_refl _)
          have HO5 := Aside0.mk (Kd.S_set ho q5 (by decide) 0 (.slice A5 (cs.length + 1) c5))
          have HBc5 := Aside0.mk (blk_put q5 0 (.slice A5 (cs.length + 1) c5) rfl)
          have HBe5 := Aside0.mk (blk_far q6 (p := ⟨w.heap.size, 0, none⟩) (by show w.heap.size + 1 ≠ w.heap.size; omega) (.slice A5 (cs.length + 1) c5))
          have HB5 := Aside0.mk (blk_far q7 (p := ⟨w.heap.size, 0, none⟩) (fun e => HN1.out e.symm) (.slice A5 (cs.length + 1) c5))
          have HK5 := Aside0.mk (KB.far k5 (p := ⟨w.heap.size, 0, none⟩) (Nat.le_refl _) (.slice A5 (cs.length + 1) c5))
          clear ho hb hg hat q5 q6 q7 k5
          refine hK.out _ _ hc5 (fun hHeld => ?_)
          clear hK K
          refine norm_ (a' := ?_) ?_ ?_
          rotate_left
          · show Act.put _ (some 13) _ = _
            simp only [Act.put, List.setIfInBounds_toArray, List.set_cons_zero, List.set_cons_succ, i64_w, i32_w]
            rfl
          refine last_ (i := 5) (N := none) #[true, true, true, true, true, true] rfl rfl (one_of HT_.out (by kernel_rfl)) (by decide) (fun K hK => ?_)
          refine skip_ (w1 := ?_) (by rfl) rfl ?_ ?_
          rotate_left 1
          · go_simp
            rfl
          refine hK.out _ _ ?_
          refine done_ (done_of HT_.out (by kernel_rfl)) ?_
          have hi0 : 0 ≤ (i : Int) := Int.natCast_nonneg _
          have hi1 : (i : Int) ≤ 1000 := by have := HI.out; have := HN9.out; omega
          refine qo_in ?_
          clear hK K HT_ HW_
          go_wp2
          go_roundg n1
          case measure => have := HI.out; omega
          case rel =>
            refine ⟨cs ++ [c.1], c.2, i + 1, .slice A5 (cs.length + 1) c5, by first | rfl | (simp; done), HL1, ⟨by have := HI.out; omega, by rw [List.length_append, List.length_singleton]; have := HI.out; omega⟩, ⟨HB5.out, Kd.C_keep 0 H.out.hl HK5.out.keep HRB.out, H.out.hc, H.out.hn⟩, HBc5, HBe5, HO5, HK5⟩
      | zero =>
        have hL := HL.out
        simp only [logL] at hL
        have g1 : decide ((i : Int) < n) = false := decide_eq_false (by omega)
        have hat : wr.cell? ⟨B, 1, none⟩ = some (.int .i64 o2) := blk_cell HRd.out.blk 1
        have hbs : wr.cell? ⟨B, 0, none⟩ = some (.slice A0 l.length c0) := blk_cell HRd.out.blk 0
        have hnn := HRd.out.hn
        have hlt3 := blk_lt HRd.out.blk
        have hlt4 := blk_lt HBc.out
        have hlt5 := blk_lt HBe.out
        clear hi HL
        by_cases c9 : o2 < l.length
        · rw [if_pos c9] at hL
          obtain rfl := Option.some.inj hL
          have g2 : decide (o2 < l.length) = true := decide_eq_true c9
          have g3 : decide ((o2 : Int) < (l.length : Int)) = true := decide_eq_true (by omega)
          clear hL
          go_wp2
          go_quiet (fail)
          go_wp2_with (go_at_call 47; refine (fail_does _ _ _ _).mono ?_; rintro e w' ⟨rfl, rfl⟩)
          exact all_panic (Bc := w.heap.size) (Be := w.heap.size + 1) 9 o2 rfl rfl rfl (by omega) (blk_drewN HBc.out _) (blk_drewN HBe.out _) (fun W' hW' => ⟨rfl, (HK.out.drewN _).below (hW' w.heap.size (Nat.le_refl _) (Nat.le_succ _)) (Nat.le_refl _)⟩)
        · rw [if_neg c9] at hL
          obtain rfl := Option.some.inj hL
          have g2 : decide (o2 < l.length) = false := decide_eq_false c9
          have g3 : decide ((o2 : Int) < (l.length : Int)) = false := decide_eq_false (by omega)
          have hc0 : wr.cell? ⟨w.heap.size, 0, none⟩ = some (.slice Ao cs.length co) := blk_cell HBc.out 0
          have hc1 : wr.cell? ⟨w.heap.size + 1, 0, none⟩ = some .nilIface := blk_cell HBe.out 0
          have hf0 := blk_frozen HBc.out 0
          have hf1 := blk_frozen HBe.out 0
          clear hL
          go_wp2
          go_quiet (fail)
          go_wp2
          have p1 := blk_put (blk_drewN HBc.out nq) 0 (.slice Ao cs.length co) rfl
          have p2 := blk_far (blk_drewN HBe.out nq) (p := ⟨w.heap.size, 0, none⟩) (by show w.heap.size + 1 ≠ w.heap.size; omega) (.slice Ao cs.length co)
          have p3 := blk_far p1 (p := ⟨w.heap.size + 1, 0, none⟩) (by show w.heap.size ≠ w.heap.size + 1; omega) .nilIface
          have p4 := blk_put p2 0 .nilIface rfl
          exact all_back (Bc := w.heap.size) (Be := w.heap.size + 1) rfl rfl rfl p3 p4 ⟨_, rfl, Kd.S_set (Kd.S_set (Kd.S_drewN HS.out nq) (blk_drewN HBc.out nq) (by decide) 0 _) p2 (by decide) 0 _, KB.far (KB.far (HK.out.drewN nq) (p := ⟨w.heap.size, 0, none⟩) (Nat.le_refl _) _) (p := ⟨w.heap.size + 1, 0, none⟩) (Nat.le_succ _) _⟩

end Go.Proofs.YtjpjfkmnfppgkaaDoor.P
