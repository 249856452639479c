import Derived.Test.YtgodbniphkfgfaaGFnProgram4
import Derived.Test.YtgodbniphkfgfaaGFnProgram16
import Derived.Handy
import Derived.Deep.LoopGhost
import Derived.Deep.QuietTactic
import Derived.BigQuiet
import Derived.StillTailTactics
import Derived.Test.YtgodbniphkfgfaaGFnProgram9
import Derived.Test.YtgodbniphkfgfaaGFnProgram5
import Derived.Test.YtgodbniphkfgfaaGFnProgram7
import Derived.Test.YtgodbniphkfgfaaGFnProgram13
import Derived.Test.YtgodbniphkfgfaaGFnProgram14
namespace Go.Proofs.Ytgodbniphkfgfaa.P
open Go.RowKit Go.Proofs.YtgodbniphkfgfaaW.PrintWords Go.Proofs.YtgodbniphkfgfaaW.PrintLast Go.Proofs.YtgodbniphkfgfaaW.PrintMore
set_option linter.unusedVariables false
set_option linter.unusedSimpArgs false

def divS (c k : Int) (s : St) : St := if (if c = 60 then s.x else k) = 0 then s else { s with a := s.a / (if c = 60 then s.x else k) }
def divE (c k : Int) (s : St) : Ending := if (if c = 60 then s.x else k) = 0 then .returned (.tuple #[.int .u32 2147483648, .bool true]) else goOn
set_option maxHeartbeats 40000000 in
set_option maxRecDepth 100000 in
theorem div_does (B g : Nat) (rv : Value) (s : St) (c j f k : Int) (hc : c = 52 ∨ c = 60) (hk : 0 ≤ k) (hx : 0 ≤ s.x) (ha : 0 ≤ s.a) (ha2 : s.a < 4294967296) (w : World) (hM : Mach w g rv s) (hB : B ≤ g) :
    Calls Try.prog 70 #[.pointer (some ⟨g, 0, none⟩), .agg #[.int .u16 c, .int .u8 j, .int .u8 f, .int .u32 k]] w (MPost B w g rv (divS c k s) (divE c k s)) := by
  have HM0 := Za.mk hM
  have HM := Za.mk (hM.alloc (.cells #[.int .u16 c, .int .u8 j, .int .u8 f, .int .u32 k] 54))
  have hca := HM.out.ca
  have hcaf := HM.out.fr 0
  have hcx := HM.out.cx
  have hlt := hM.lt
  have hne : w.heap.size ≠ g := by omega
  have hne2 : g ≠ w.heap.size := by omega
  have hend : ∀ v : Int, MPost B w g rv { s with a := v } goOn goOn ((w.setCell ⟨g, 0, none⟩ (.int .u32 v)).alloc (.cells #[.int .u16 c, .int .u8 j, .int .u8 f, .int .u32 k] 54)) := fun v =>
    ⟨rfl, Below.alloc (Below.setCell (Below.refl B w) hB _) (by simp [World.setCell]; omega) _, (HM0.out.set_a v).alloc _⟩
  have HE := Za.mk hend
  have HB0 := Za.mk (Below.alloc (Below.refl B w) (Nat.le_of_lt (Nat.lt_of_le_of_lt hB hM.lt)) (.cells #[.int .u16 c, .int .u8 j, .int .u8 f, .int .u32 k] 54))
  clear hM hend HM0
  rcases hc with rfl | rfl
  · by_cases h0 : k = 0
    · have e1 : divS 52 k s = s := by unfold divS; rw [if_neg (by decide : ¬ (52 : Int) = 60), if_pos h0]
      have e2 : divE 52 k s = .returned (.tuple #[.int .u32 2147483648, .bool true]) := by unfold divE; rw [if_neg (by decide : ¬ (52 : Int) = 60), if_pos h0]
      rw [e1, e2]
      have h0b : (k == 0) = true := beq_iff_eq.mpr h0
      clear h0 e1 e2
      go_enter Try.func70, Try.ntmps70
      go_wp2
      go_returns
      exact ⟨rfl, HB0.out, HM.out⟩
    · have e1 : divS 52 k s = { s with a := s.a / k } := by unfold divS; rw [if_neg (by decide : ¬ (52 : Int) = 60), if_neg h0]
      have e2 : divE 52 k s = goOn := by unfold divE; rw [if_neg (by decide : ¬ (52 : Int) = 60), if_neg h0]
      rw [e1, e2]
      have h0b : (k == 0) = false := beq_eq_false_iff_ne.mpr h0
      clear e1 e2
      go_enter Try.func70, Try.ntmps70
      go_wp2
      go_returns
      exact HE.out _
  · by_cases h0 : s.x = 0
    · have e1 : divS 60 k s = s := by unfold divS; rw [if_pos (rfl : (60 : Int) = 60), if_pos h0]
      have e2 : divE 60 k s = .returned (.tuple #[.int .u32 2147483648, .bool true]) := by unfold divE; rw [if_pos (rfl : (60 : Int) = 60), if_pos h0]
      rw [e1, e2]
      have h0b : (s.x == 0) = true := beq_iff_eq.mpr h0
      clear h0 e1 e2
      go_enter Try.func70, Try.ntmps70
      go_wp2
      go_returns
      exact ⟨rfl, HB0.out, HM.out⟩
    · have e1 : divS 60 k s = { s with a := s.a / s.x } := by unfold divS; rw [if_pos (rfl : (60 : Int) = 60), if_neg h0]
      have e2 : divE 60 k s = goOn := by unfold divE; rw [if_pos (rfl : (60 : Int) = 60), if_neg h0]
      rw [e1, e2]
      have h0b : (s.x == 0) = false := beq_eq_false_iff_ne.mpr h0
      clear e1 e2
      go_enter Try.func70, Try.ntmps70
      go_wp2
      go_returns
      exact HE.out _
set_option maxHeartbeats 40000000 in
set_option maxRecDepth 100000 in
theorem binbits_does (B g : Nat) (rv : Value) (s : St) (c j f k : Int) (hc : isBits c) (hk : 0 ≤ k) (hx : 0 ≤ s.x) (w : World) (hM : Mach w g rv s) (hB : B ≤ g) :
    Calls Try.prog 70 #[.pointer (some ⟨g, 0, none⟩), .agg #[.int .u16 c, .int .u8 j, .int .u8 f, .int .u32 k]] w (MPost B w g rv { s with a := bitsA c k s } goOn) := by
  have HM := Za.mk (hM.alloc (.cells #[.int .u16 c, .int .u8 j, .int .u8 f, .int .u32 k] 54))
  have hlt := hM.lt
  have hne : w.heap.size ≠ g := by omega
  have hne2 : g ≠ w.heap.size := by omega
  have HB0 := Za.mk (Below.alloc (Below.refl B w) (Nat.le_of_lt (Nat.lt_of_le_of_lt hB hM.lt)) (.cells #[.int .u16 c, .int .u8 j, .int .u8 f, .int .u32 k] 54))
  have HN := Za.mk (bits_does B g rv s c j f k hc hk hx _ HM.out hB)
  clear hM
  unfold isBits at hc
  rcases hc with rfl | rfl | rfl | rfl | rfl | rfl | rfl | rfl | rfl | rfl
  all_goals
    go_enter Try.func70, Try.ntmps70
    go_wp2_with (go_at_call 76; refine HN.out.mono ?_; rintro e w1 ⟨rfl, hb1, hm1⟩; have HB1 := Za.mk (HB0.out.trans hb1); have HM1 := Za.mk hm1; clear hb1 hm1)
    go_returns
    exact ⟨rfl, HB1.out, HM1.out⟩
set_option maxHeartbeats 40000000 in
set_option maxRecDepth 100000 in
theorem bintests_does (B g : Nat) (rv : Value) (s : St) (c j f k : Int) (hc : isTest c) (w : World) (hM : Mach w g rv s) (hB : B ≤ g) :
    Calls Try.prog 70 #[.pointer (some ⟨g, 0, none⟩), .agg #[.int .u16 c, .int .u8 j, .int .u8 f, .int .u32 k]] w (MPost B w g rv { s with p := wrap64 (s.p + wrap64 (if testB c k s = true then j else f)) } goOn) := by
  have HM := Za.mk (hM.alloc (.cells #[.int .u16 c, .int .u8 j, .int .u8 f, .int .u32 k] 54))
  have hlt := hM.lt
  have hne : w.heap.size ≠ g := by omega
  have hne2 : g ≠ w.heap.size := by omega
  have HB0 := Za.mk (Below.alloc (Below.refl B w) (Nat.le_of_lt (Nat.lt_of_le_of_lt hB hM.lt)) (.cells #[.int .u16 c, .int .u8 j, .int .u8 f, .int .u32 k] 54))
  have HN := Za.mk (tests_does B g rv s c j f k hc _ HM.out hB)
  clear hM
  obtain ⟨s2, hs2⟩ : ∃ s2 : St, { s with p := wrap64 (s.p + wrap64 (if testB c k s = true then j else f)) } = s2 := ⟨_, rfl⟩
  rw [hs2] at HN ⊢
  clear hs2
  unfold isTest at hc
  rcases hc with rfl | rfl | rfl | rfl | rfl | rfl | rfl | rfl
  all_goals
    go_enter Try.func70, Try.ntmps70
    go_wp2_with (go_at_call 76; refine HN.out.mono ?_; rintro e w1 ⟨rfl, hb1, hm1⟩; have HB1 := Za.mk (HB0.out.trans hb1); have HM1 := Za.mk hm1; clear hb1 hm1)
    go_returns
    exact ⟨rfl, HB1.out, HM1.out⟩
theorem below_drewNB {B : Nat} {a w : World} (h : Below B a w) (n : Nat) : Below B a (w.drewN n) := ⟨h.os, h.tape, h.output, h.size, h.block⟩
theorem Mach.drewN {W : World} {g : Nat} {rv : Value} {s : St} (h : Mach W g rv s) (n : Nat) : Mach (W.drewN n) g rv s := ⟨h.1, h.2⟩
def isMove (c : Int) : Prop := c = 0 ∨ c = 1 ∨ c = 132 ∨ c = 7 ∨ c = 135 ∨ c = 5
def moveS (c k : Int) (s : St) : St := match c with
  | 0 => { s with a := k }
  | 1 => { s with x := k }
  | 132 => { s with a := -s.a % 4294967296 }
  | 7 => { s with x := s.a }
  | 135 => { s with a := s.x }
  | _ => { s with p := wrap64 (s.p + wrap64 k) }
set_option maxHeartbeats 40000000 in
set_option maxRecDepth 100000 in
theorem moves_does (B g : Nat) (rv : Value) (s : St) (c j f k : Int) (hc : isMove c) (w : World) (hM : Mach w g rv s) (hB : B ≤ g) :
    Calls Try.prog 55 #[.pointer (some ⟨g, 0, none⟩), .agg #[.int .u16 c, .int .u8 j, .int .u8 f, .int .u32 k]] w (MPost B w g rv (moveS c k s) goOn) := by
  have HM0 := Za.mk hM
  have HM := Za.mk (hM.alloc (.cells #[.int .u16 c, .int .u8 j, .int .u8 f, .int .u32 k] 54))
  have hca := HM.out.ca
  have hcaf := HM.out.fr 0
  have hcx := HM.out.cx
  have hcxf := HM.out.fr 1
  have hcp := HM.out.cp
  have hcpf := HM.out.fr 19
  have hlt := hM.lt
  have hne : w.heap.size ≠ g := by omega
  have hne2 : g ≠ w.heap.size := by omega
  have HEa := Za.mk (fun v : Int => show MPost B w g rv { s with a := v } goOn goOn ((w.setCell ⟨g, 0, none⟩ (.int .u32 v)).alloc (.cells #[.int .u16 c, .int .u8 j, .int .u8 f, .int .u32 k] 54)) from
    ⟨rfl, Below.alloc (Below.setCell (Below.refl B w) hB _) (by simp [World.setCell]; omega) _, (HM0.out.set_a v).alloc _⟩)
  have HEx := Za.mk (fun v : Int => show MPost B w g rv { s with x := v } goOn goOn ((w.setCell ⟨g, 1, none⟩ (.int .u32 v)).alloc (.cells #[.int .u16 c, .int .u8 j, .int .u8 f, .int .u32 k] 54)) from
    ⟨rfl, Below.alloc (Below.setCell (Below.refl B w) hB _) (by simp [World.setCell]; omega) _, (HM0.out.set_x v).alloc _⟩)
  have HEp := Za.mk (fun v : Int => show MPost B w g rv { s with p := v } goOn goOn ((w.setCell ⟨g, 19, none⟩ (.int .i64 v)).alloc (.cells #[.int .u16 c, .int .u8 j, .int .u8 f, .int .u32 k] 54)) from
    ⟨rfl, Below.alloc (Below.setCell (Below.refl B w) hB _) (by simp [World.setCell]; omega) _, (HM0.out.set_p v).alloc _⟩)
  clear hM HM HM0
  unfold isMove at hc
  rcases hc with rfl | rfl | rfl | rfl | rfl | rfl
  all_goals
    go_enter Try.func55, Try.ntmps55
    go_wp2
    go_returns
    first | exact HEa.out _ | exact HEx.out _ | exact HEp.out _
set_option maxHeartbeats 40000000 in
set_option maxRecDepth 100000 in
theorem ends_does (B g : Nat) (rv : Value) (s : St) (c j f k : Int) (hc : c = 6 ∨ c = 22) (w : World) (hM : Mach w g rv s) (hB : B ≤ g) :
    Calls Try.prog 55 #[.pointer (some ⟨g, 0, none⟩), .agg #[.int .u16 c, .int .u8 j, .int .u8 f, .int .u32 k]] w (MPost B w g rv s (.returned (.tuple #[.int .u32 (if c = 6 then k else s.a), .bool true]))) := by
  have HM := Za.mk (hM.alloc (.cells #[.int .u16 c, .int .u8 j, .int .u8 f, .int .u32 k] 54))
  have hca := HM.out.ca
  have hlt := hM.lt
  have hne : w.heap.size ≠ g := by omega
  have hne2 : g ≠ w.heap.size := by omega
  have HB0 := Za.mk (Below.alloc (Below.refl B w) (Nat.le_of_lt (Nat.lt_of_le_of_lt hB hM.lt)) (.cells #[.int .u16 c, .int .u8 j, .int .u8 f, .int .u32 k] 54))
  clear hM
  obtain ⟨v, hv⟩ : ∃ v : Int, v = (if c = 6 then k else s.a) := ⟨_, rfl⟩
  rw [← hv]
  rcases hc with rfl | rfl
  · rw [if_pos rfl] at hv
    have HV := Za.mk hv
    clear hv
    go_enter Try.func55, Try.ntmps55
    go_wp2
    go_returns
    exact ⟨by rw [HV.out]; rfl, HB0.out, HM.out⟩
  · rw [if_neg (by decide)] at hv
    have HV := Za.mk hv
    clear hv
    go_enter Try.func55, Try.ntmps55
    go_wp2
    go_returns
    exact ⟨by rw [HV.out]; rfl, HB0.out, HM.out⟩
def memS (c : Int) (k : Nat) (s : St) : St := if c = 96 then { s with a := rd s.m (k : Int) } else { s with x := rd s.m (k : Int) }
def putS (c : Int) (k : Nat) (s : St) : St := { s with m := s.m.set k (if c = 2 then s.a else s.x) }
set_option maxHeartbeats 40000000 in
set_option maxRecDepth 100000 in
theorem mems_does (B g : Nat) (rv : Value) (s : St) (c j f : Int) (k : Nat) (hc : c = 96 ∨ c = 97) (hk : k < 16) (w : World) (hM : Mach w g rv s) (hB : B ≤ g) :
    Calls Try.prog 55 #[.pointer (some ⟨g, 0, none⟩), .agg #[.int .u16 c, .int .u8 j, .int .u8 f, .int .u32 (k : Int)]] w (MPost B w g rv (memS c k s) goOn) := by
  have HM0 := Za.mk hM
  have HM := Za.mk (hM.alloc (.cells #[.int .u16 c, .int .u8 j, .int .u8 f, .int .u32 (k : Int)] 54))
  have hcm := HM.out.cm k hk
  have hcaf := HM.out.fr 0
  have hcxf := HM.out.fr 1
  have hca := HM.out.ca
  have hcx := HM.out.cx
  have hlt := hM.lt
  have hne : w.heap.size ≠ g := by omega
  have hne2 : g ≠ w.heap.size := by omega
  have hkd : decide ((k : Int) < 16) = true := decide_eq_true (by omega)
  have HEa := Za.mk (fun v : Int => show MPost B w g rv { s with a := v } goOn goOn ((w.setCell ⟨g, 0, none⟩ (.int .u32 v)).alloc (.cells #[.int .u16 c, .int .u8 j, .int .u8 f, .int .u32 (k : Int)] 54)) from
    ⟨rfl, Below.alloc (Below.setCell (Below.refl B w) hB _) (by simp [World.setCell]; omega) _, (HM0.out.set_a v).alloc _⟩)
  have HEx := Za.mk (fun v : Int => show MPost B w g rv { s with x := v } goOn goOn ((w.setCell ⟨g, 1, none⟩ (.int .u32 v)).alloc (.cells #[.int .u16 c, .int .u8 j, .int .u8 f, .int .u32 (k : Int)] 54)) from
    ⟨rfl, Below.alloc (Below.setCell (Below.refl B w) hB _) (by simp [World.setCell]; omega) _, (HM0.out.set_x v).alloc _⟩)
  clear hM
  rcases hc with rfl | rfl
  · have e : memS 96 k s = { s with a := rd s.m (k : Int) } := if_pos rfl
    rw [e]
    clear e
    go_enter Try.func55, Try.ntmps55
    go_wp2
    go_returns
    exact HEa.out _
  · have e : memS 97 k s = { s with x := rd s.m (k : Int) } := if_neg (by decide)
    rw [e]
    clear e
    go_enter Try.func55, Try.ntmps55
    go_wp2
    go_returns
    exact HEx.out _
set_option maxHeartbeats 40000000 in
set_option maxRecDepth 100000 in
theorem puts_does (B g : Nat) (rv : Value) (s : St) (c j f : Int) (k : Nat) (hc : c = 2 ∨ c = 3) (hk : k < 16) (w : World) (hM : Mach w g rv s) (hB : B ≤ g) :
    Calls Try.prog 55 #[.pointer (some ⟨g, 0, none⟩), .agg #[.int .u16 c, .int .u8 j, .int .u8 f, .int .u32 (k : Int)]] w (MPost B w g rv (putS c k s) goOn) := by
  have HM0 := Za.mk hM
  have HM := Za.mk (hM.alloc (.cells #[.int .u16 c, .int .u8 j, .int .u8 f, .int .u32 (k : Int)] 54))
  have hcm := HM.out.cm k hk
  have hcmf := HM.out.fr (2 + k)
  have hca := HM.out.ca
  have hcx := HM.out.cx
  have hlt := hM.lt
  have hne : w.heap.size ≠ g := by omega
  have hne2 : g ≠ w.heap.size := by omega
  have hkd : decide ((k : Int) < 16) = true := decide_eq_true (by omega)
  have HE := Za.mk (fun v : Int => show MPost B w g rv { s with m := s.m.set k v } goOn goOn (((w.setCell ⟨g, 2 + k, none⟩ (.int .u32 v)).alloc (.cells #[.int .u16 c, .int .u8 j, .int .u8 f, .int .u32 (k : Int)] 54)).drew) from
    ⟨rfl, Below.drew (Below.alloc (Below.setCell (Below.refl B w) hB _) (by simp [World.setCell]; omega) _), ((HM0.out.set_m k hk v).alloc _).drew⟩)
  clear hM
  rcases hc with rfl | rfl
  · have e : putS 2 k s = { s with m := s.m.set k s.a } := rfl
    rw [e]
    clear e
    go_enter Try.func55, Try.ntmps55
    go_wp2
    go_region
    go_wp2
    go_returns
    exact HE.out _
  · have e : putS 3 k s = { s with m := s.m.set k s.x } := rfl
    rw [e]
    clear e
    go_enter Try.func55, Try.ntmps55
    go_wp2
    go_region
    go_wp2
    go_returns
    exact HE.out _
set_option maxHeartbeats 40000000 in
set_option maxRecDepth 100000 in
theorem loads_does (B g : Nat) (R : Addr) (cR : Nat) (rec : List Int) (s : St) (j f : Int) (k : Nat) (w : World) (hM : Mach w g (.slice (some R) 64 cR) s) (hr : ∀ i, i < 64 → w.cell? (R.add i) = some (.int .u8 (rd rec (i : Int)))) (hc : 64 ≤ cR) (hk : k ≤ 60) (hB : B ≤ g) :
    Calls Try.prog 55 #[.pointer (some ⟨g, 0, none⟩), .agg #[.int .u16 32, .int .u8 j, .int .u8 f, .int .u32 (k : Int)]] w (MPost B w g (.slice (some R) 64 cR) { s with a := loadR rec k } goOn) := by
  have HM0 := Za.mk hM
  have HM := Za.mk (hM.alloc (.cells #[.int .u16 32, .int .u8 j, .int .u8 f, .int .u32 (k : Int)] 54))
  have hcaf := HM.out.fr 0
  have hca := HM.out.ca
  have hlt := hM.lt
  have hne : w.heap.size ≠ g := by omega
  have hne2 : g ≠ w.heap.size := by omega
  have HL := Za.mk (load_does B g R cR rec s k _ HM.out (fun i hi => ((Ze (Below.refl _ w) (.cells #[.int .u16 32, .int .u8 j, .int .u8 f, .int .u32 (k : Int)] 54)).cell (World.block_lt_of_cell? w _ (hr i hi))).trans (hr i hi)) hc hk)
  clear hM hr
  go_enter Try.func55, Try.ntmps55
  go_wp2_with (go_at_call 69; refine HL.out.mono ?_; rintro e w1 ⟨rfl, n, rfl⟩)
  go_returns
  exact ⟨rfl, Below.setCell (below_drewNB (Below.alloc (Below.refl B w) (Nat.le_of_lt (Nat.lt_of_le_of_lt hB HM0.out.lt)) _) n) hB _, (HM.out.drewN n).set_a _⟩
set_option maxHeartbeats 40000000 in
set_option maxRecDepth 100000 in
theorem donums_does (B g : Nat) (rv : Value) (s : St) (c j f k : Int) (hc : isNum c) (w : World) (hM : Mach w g rv s) (hB : B ≤ g) :
    Calls Try.prog 55 #[.pointer (some ⟨g, 0, none⟩), .agg #[.int .u16 c, .int .u8 j, .int .u8 f, .int .u32 k]] w (MPost B w g rv { s with a := numA c k s } goOn) := by
  have HM := Za.mk (hM.alloc (.cells #[.int .u16 c, .int .u8 j, .int .u8 f, .int .u32 k] 54))
  have hlt := hM.lt
  have hne : w.heap.size ≠ g := by omega
  have hne2 : g ≠ w.heap.size := by omega
  have HB0 := Za.mk (Below.alloc (Below.refl B w) (Nat.le_of_lt (Nat.lt_of_le_of_lt hB hM.lt)) (.cells #[.int .u16 c, .int .u8 j, .int .u8 f, .int .u32 k] 54))
  have HN := Za.mk (nums_does B g rv s c j f k hc _ HM.out hB)
  clear hM
  obtain ⟨s2, hs2⟩ : ∃ s2 : St, { s with a := numA c k s } = s2 := ⟨_, rfl⟩
  rw [hs2] at HN ⊢
  clear hs2
  unfold isNum at hc
  rcases hc with rfl | rfl | rfl | rfl | rfl | rfl
  all_goals
    go_enter Try.func55, Try.ntmps55
    go_wp2_with (go_at_call 70; refine HN.out.mono ?_; rintro e w1 ⟨he, hb1, hm1⟩; obtain rfl : e = .returned (.tuple #[.int .u32 0, .bool false]) := he; have HB1 := Za.mk (HB0.out.trans hb1); have HM1 := Za.mk hm1; clear hb1 hm1)
    go_returns
    exact ⟨rfl, HB1.out, HM1.out⟩
set_option maxHeartbeats 40000000 in
set_option maxRecDepth 100000 in
theorem dobits_does (B g : Nat) (rv : Value) (s : St) (c j f k : Int) (hc : isBits c) (hk : 0 ≤ k) (hx : 0 ≤ s.x) (w : World) (hM : Mach w g rv s) (hB : B ≤ g) :
    Calls Try.prog 55 #[.pointer (some ⟨g, 0, none⟩), .agg #[.int .u16 c, .int .u8 j, .int .u8 f, .int .u32 k]] w (MPost B w g rv { s with a := bitsA c k s } goOn) := by
  have HM := Za.mk (hM.alloc (.cells #[.int .u16 c, .int .u8 j, .int .u8 f, .int .u32 k] 54))
  have hlt := hM.lt
  have hne : w.heap.size ≠ g := by omega
  have hne2 : g ≠ w.heap.size := by omega
  have HB0 := Za.mk (Below.alloc (Below.refl B w) (Nat.le_of_lt (Nat.lt_of_le_of_lt hB hM.lt)) (.cells #[.int .u16 c, .int .u8 j, .int .u8 f, .int .u32 k] 54))
  have HN := Za.mk (binbits_does B g rv s c j f k hc hk hx _ HM.out hB)
  clear hM
  obtain ⟨s2, hs2⟩ : ∃ s2 : St, { s with a := bitsA c k s } = s2 := ⟨_, rfl⟩
  rw [hs2] at HN ⊢
  clear hs2
  unfold isBits at hc
  rcases hc with rfl | rfl | rfl | rfl | rfl | rfl | rfl | rfl | rfl | rfl
  all_goals
    go_enter Try.func55, Try.ntmps55
    go_wp2_with (go_at_call 70; refine HN.out.mono ?_; rintro e w1 ⟨he, hb1, hm1⟩; obtain rfl : e = .returned (.tuple #[.int .u32 0, .bool false]) := he; have HB1 := Za.mk (HB0.out.trans hb1); have HM1 := Za.mk hm1; clear hb1 hm1)
    go_returns
    exact ⟨rfl, HB1.out, HM1.out⟩
set_option maxHeartbeats 40000000 in
set_option maxRecDepth 100000 in
theorem dotests_does (B g : Nat) (rv : Value) (s : St) (c j f k : Int) (hc : isTest c) (w : World) (hM : Mach w g rv s) (hB : B ≤ g) :
    Calls Try.prog 55 #[.pointer (some ⟨g, 0, none⟩), .agg #[.int .u16 c, .int .u8 j, .int .u8 f, .int .u32 k]] w (MPost B w g rv { s with p := wrap64 (s.p + wrap64 (if testB c k s = true then j else f)) } goOn) := by
  have HM := Za.mk (hM.alloc (.cells #[.int .u16 c, .int .u8 j, .int .u8 f, .int .u32 k] 54))
  have hlt := hM.lt
  have hne : w.heap.size ≠ g := by omega
  have hne2 : g ≠ w.heap.size := by omega
  have HB0 := Za.mk (Below.alloc (Below.refl B w) (Nat.le_of_lt (Nat.lt_of_le_of_lt hB hM.lt)) (.cells #[.int .u16 c, .int .u8 j, .int .u8 f, .int .u32 k] 54))
  have HN := Za.mk (bintests_does B g rv s c j f k hc _ HM.out hB)
  clear hM
  obtain ⟨s2, hs2⟩ : ∃ s2 : St, { s with p := wrap64 (s.p + wrap64 (if testB c k s = true then j else f)) } = s2 := ⟨_, rfl⟩
  rw [hs2] at HN ⊢
  clear hs2
  unfold isTest at hc
  rcases hc with rfl | rfl | rfl | rfl | rfl | rfl | rfl | rfl
  all_goals
    go_enter Try.func55, Try.ntmps55
    go_wp2_with (go_at_call 70; refine HN.out.mono ?_; rintro e w1 ⟨he, hb1, hm1⟩; obtain rfl : e = .returned (.tuple #[.int .u32 0, .bool false]) := he; have HB1 := Za.mk (HB0.out.trans hb1); have HM1 := Za.mk hm1; clear hb1 hm1)
    go_returns
    exact ⟨rfl, HB1.out, HM1.out⟩
set_option maxHeartbeats 40000000 in
set_option maxRecDepth 100000 in
theorem dodiv_does (B g : Nat) (rv : Value) (s : St) (c j f k : Int) (hc : c = 52 ∨ c = 60) (hk : 0 ≤ k) (hx : 0 ≤ s.x) (ha : 0 ≤ s.a) (ha2 : s.a < 4294967296) (w : World) (hM : Mach w g rv s) (hB : B ≤ g) :
    Calls Try.prog 55 #[.pointer (some ⟨g, 0, none⟩), .agg #[.int .u16 c, .int .u8 j, .int .u8 f, .int .u32 k]] w (MPost B w g rv (divS c k s) (divE c k s)) := by
  have HM := Za.mk (hM.alloc (.cells #[.int .u16 c, .int .u8 j, .int .u8 f, .int .u32 k] 54))
  have hlt := hM.lt
  have hne : w.heap.size ≠ g := by omega
  have hne2 : g ≠ w.heap.size := by omega
  have HB0 := Za.mk (Below.alloc (Below.refl B w) (Nat.le_of_lt (Nat.lt_of_le_of_lt hB hM.lt)) (.cells #[.int .u16 c, .int .u8 j, .int .u8 f, .int .u32 k] 54))
  have HN := Za.mk (div_does B g rv s c j f k hc hk hx ha ha2 _ HM.out hB)
  clear hM
  obtain ⟨v, b, hv⟩ : ∃ v b, divE c k s = .returned (.tuple #[.int .u32 v, .bool b]) := by
    unfold divE
    by_cases h0 : (if c = 60 then s.x else k) = 0
    · exact ⟨_, _, by rw [if_pos h0]⟩
    · exact ⟨0, false, by rw [if_neg h0]; rfl⟩
  obtain ⟨s2, hs2⟩ : ∃ s2 : St, divS c k s = s2 := ⟨_, rfl⟩
  rw [hs2, hv] at HN ⊢
  clear hs2 hv
  rcases hc with rfl | rfl
  all_goals
    go_enter Try.func55, Try.ntmps55
    go_wp2_with (go_at_call 70; refine HN.out.mono ?_; rintro e w1 ⟨rfl, hb1, hm1⟩; have HB1 := Za.mk (HB0.out.trans hb1); have HM1 := Za.mk hm1; clear hb1 hm1)
    go_returns
    exact ⟨rfl, HB1.out, HM1.out⟩
instance : DecidablePred isMove := fun c => by unfold isMove; infer_instance
instance : DecidablePred isNum := fun c => by unfold isNum; infer_instance
instance : DecidablePred isBits := fun c => by unfold isBits; infer_instance
instance : DecidablePred isTest := fun c => by unfold isTest; infer_instance
def stepF (rec : List Int) (i : S54) (s : St) : Option (St × Option Int) :=
  if 0 ≤ i.f3 ∧ 0 ≤ s.a ∧ s.a < 4294967296 ∧ 0 ≤ s.x then
    if isMove i.f0 then some (moveS i.f0 i.f3 s, none)
    else if i.f0 = 6 then some (s, some i.f3)
    else if i.f0 = 22 then some (s, some s.a)
    else if i.f0 = 32 then (if i.f3 ≤ 60 then some ({ s with a := loadR rec i.f3.toNat }, none) else none)
    else if i.f0 = 96 ∨ i.f0 = 97 then (if i.f3 < 16 then some (memS i.f0 i.f3.toNat s, none) else none)
    else if i.f0 = 2 ∨ i.f0 = 3 then (if i.f3 < 16 then some (putS i.f0 i.f3.toNat s, none) else none)
    else if isNum i.f0 then some ({ s with a := numA i.f0 i.f3 s }, none)
    else if i.f0 = 52 ∨ i.f0 = 60 then some (divS i.f0 i.f3 s, if (if i.f0 = 60 then s.x else i.f3) = 0 then some 2147483648 else none)
    else if isBits i.f0 then some ({ s with a := bitsA i.f0 i.f3 s }, none)
    else if isTest i.f0 then some ({ s with p := wrap64 (s.p + wrap64 (if testB i.f0 i.f3 s = true then i.f1 else i.f2)) }, none)
    else none
  else none
def endOf : Option Int → Ending
  | none => goOn
  | some v => .returned (.tuple #[.int .u32 v, .bool true])
theorem do_does (B g : Nat) (R : Addr) (cR : Nat) (rec : List Int) (i : S54) (s s2 : St) (o : Option Int) (h : stepF rec i s = some (s2, o)) (w : World) (hM : Mach w g (.slice (some R) 64 cR) s)
    (hr : ∀ i, i < 64 → w.cell? (R.add i) = some (.int .u8 (rd rec (i : Int)))) (hc : 64 ≤ cR) (hB : B ≤ g) :
    Calls Try.prog 55 #[.pointer (some ⟨g, 0, none⟩), .agg #[.int .u16 i.f0, .int .u8 i.f1, .int .u8 i.f2, .int .u32 i.f3]] w (MPost B w g (.slice (some R) 64 cR) s2 (endOf o)) := by
  unfold stepF at h
  by_cases h0 : 0 ≤ i.f3 ∧ 0 ≤ s.a ∧ s.a < 4294967296 ∧ 0 ≤ s.x
  case neg => rw [if_neg h0] at h; exact absurd h (by simp)
  rw [if_pos h0] at h
  obtain ⟨k0, a0, a1, x0⟩ := h0
  obtain ⟨k, hk⟩ := Int.eq_ofNat_of_zero_le k0
  by_cases h1 : isMove i.f0
  · rw [if_pos h1] at h
    obtain ⟨rfl, rfl⟩ := Prod.mk.inj (Option.some.inj h)
    exact moves_does B g _ s i.f0 i.f1 i.f2 i.f3 h1 w hM hB
  rw [if_neg h1] at h
  by_cases h2 : i.f0 = 6
  · rw [if_pos h2] at h
    obtain ⟨rfl, rfl⟩ := Prod.mk.inj (Option.some.inj h)
    have := ends_does B g (.slice (some R) 64 cR) s i.f0 i.f1 i.f2 i.f3 (.inl h2) w hM hB
    rw [if_pos h2] at this
    exact this
  rw [if_neg h2] at h
  by_cases h3 : i.f0 = 22
  · rw [if_pos h3] at h
    obtain ⟨rfl, rfl⟩ := Prod.mk.inj (Option.some.inj h)
    have := ends_does B g (.slice (some R) 64 cR) s i.f0 i.f1 i.f2 i.f3 (.inr h3) w hM hB
    rw [if_neg h2] at this
    exact this
  rw [if_neg h3] at h
  by_cases h4 : i.f0 = 32
  · rw [if_pos h4] at h
    by_cases h5 : i.f3 ≤ 60
    · rw [if_pos h5] at h
      obtain ⟨rfl, rfl⟩ := Prod.mk.inj (Option.some.inj h)
      rw [h4, hk]
      exact loads_does B g R cR rec s i.f1 i.f2 k w hM hr hc (by omega) hB
    · rw [if_neg h5] at h; exact absurd h (by simp)
  rw [if_neg h4] at h
  by_cases h5 : i.f0 = 96 ∨ i.f0 = 97
  · rw [if_pos h5] at h
    by_cases h6 : i.f3 < 16
    · rw [if_pos h6] at h
      obtain ⟨rfl, rfl⟩ := Prod.mk.inj (Option.some.inj h)
      rw [hk]
      exact mems_does B g _ s i.f0 i.f1 i.f2 k h5 (by omega) w hM hB
    · rw [if_neg h6] at h; exact absurd h (by simp)
  rw [if_neg h5] at h
  by_cases h6 : i.f0 = 2 ∨ i.f0 = 3
  · rw [if_pos h6] at h
    by_cases h7 : i.f3 < 16
    · rw [if_pos h7] at h
      obtain ⟨rfl, rfl⟩ := Prod.mk.inj (Option.some.inj h)
      rw [hk]
      exact puts_does B g _ s i.f0 i.f1 i.f2 k h6 (by omega) w hM hB
    · rw [if_neg h7] at h; exact absurd h (by simp)
  rw [if_neg h6] at h
  by_cases h7 : isNum i.f0
  · rw [if_pos h7] at h
    obtain ⟨rfl, rfl⟩ := Prod.mk.inj (Option.some.inj h)
    exact donums_does B g _ s i.f0 i.f1 i.f2 i.f3 h7 w hM hB
  rw [if_neg h7] at h
  by_cases h8 : i.f0 = 52 ∨ i.f0 = 60
  · rw [if_pos h8] at h
    obtain ⟨rfl, rfl⟩ := Prod.mk.inj (Option.some.inj h)
    have := dodiv_does B g (.slice (some R) 64 cR) s i.f0 i.f1 i.f2 i.f3 h8 k0 x0 a0 a1 w hM hB
    have e : divE i.f0 i.f3 s = endOf (if (if i.f0 = 60 then s.x else i.f3) = 0 then some 2147483648 else none) := by
      unfold divE
      by_cases h9 : (if i.f0 = 60 then s.x else i.f3) = 0
      · rw [if_pos h9, if_pos h9]; rfl
      · rw [if_neg h9, if_neg h9]; rfl
    rw [e] at this
    exact this
  rw [if_neg h8] at h
  by_cases h9 : isBits i.f0
  · rw [if_pos h9] at h
    obtain ⟨rfl, rfl⟩ := Prod.mk.inj (Option.some.inj h)
    exact dobits_does B g _ s i.f0 i.f1 i.f2 i.f3 h9 k0 x0 w hM hB
  rw [if_neg h9] at h
  by_cases h10 : isTest i.f0
  · rw [if_pos h10] at h
    obtain ⟨rfl, rfl⟩ := Prod.mk.inj (Option.some.inj h)
    exact dotests_does B g _ s i.f0 i.f1 i.f2 i.f3 h10 w hM hB
  rw [if_neg h10] at h
  exact absurd h (by simp)
def nextS (s : St) : St := { s with p := wrap64 (s.p + 1), st := wrap64 (s.st + 1) }
def runF : Nat → List S54 → List Int → St → Option (Int × St)
  | 0, _, _, _ => none
  | n + 1, prog, rec, s => if 0 ≤ s.p ∧ s.p < (prog.length : Int) then (stepF rec (Zb prog s.p) (nextS s)).bind fun r => match r.2 with | some v => some (v, r.1) | none => runF n prog rec r.1 else none
set_option maxHeartbeats 40000000 in
set_option maxRecDepth 100000 in
theorem run_does (n : Nat) (g : Nat) (R : Addr) (cR : Nat) (rec : List Int) (A : Option Addr) (cP : Nat) (prog : List S54) (s sE : St) (v : Int) (h : runF n prog rec s = some (v, sE)) (W0 w : World) (hM : Mach w g (.slice (some R) 64 cR) s)
    (hr : ∀ i, i < 64 → W0.cell? (R.add i) = some (.int .u8 (rd rec (i : Int)))) (hc : 64 ≤ cR) (hP : Kd.C k54 W0 A prog.length prog) (hcP : prog.length ≤ cP) (hB : W0.heap.size ≤ g) (hW : Below W0.heap.size W0 w) :
    Calls Try.prog 40 #[.pointer (some ⟨g, 0, none⟩), .slice A prog.length cP] w (fun e w' => e = .returned (.int .u32 v) ∧ Below W0.heap.size W0 w' ∧ Mach w' g (.slice (some R) 64 cR) sE) := by
  have HRUN := Za.mk h
  have HM := Za.mk hM
  have HREC := Za.mk hr
  have HP := Za.mk hP
  have HW := Za.mk hW
  have HBg := Za.mk hB
  have HC := Za.mk hc
  have HCP := Za.mk hcP
  clear h hM hr hP hW hc hcP
  go_enter Try.func40, Try.ntmps40
  go_wp2
  go_loopg [] n (fun kq w' => ∃ s : St, Za (runF kq prog rec s = some (v, sE)) ∧ Za (Mach w' g (.slice (some R) 64 cR) s) ∧ Za (Below W0.heap.size W0 w'))
  case atStart => exact ⟨s, HRUN, HM, HW⟩
  case round =>
    clear HRUN HM HW
    obtain ⟨s, HRUN, HM, HW⟩ := hrel
    obtain ⟨k1, rfl⟩ : ∃ m, gk = m + 1 := by
      cases gk with
      | zero => have := HRUN.out; simp only [runF] at this; exact absurd this (by simp)
      | succ m => exact ⟨m, rfl⟩
    have h := HRUN.out
    simp only [runF] at h
    by_cases hp : 0 ≤ s.p ∧ s.p < (prog.length : Int)
    case neg => rw [if_neg hp] at h; exact absurd h (by simp)
    rw [if_pos hp] at h
    replace h := Option.bind_eq_some_iff.1 h
    obtain ⟨⟨s2, o⟩, hs, h⟩ := h
    obtain ⟨q, hq⟩ := Int.eq_ofNat_of_zero_le hp.1
    obtain ⟨ad, rfl, g0, g1, g2, g3⟩ := at_T54 HP.out s.p hp.1 hp.2
    replace g0 := (HW.out.cell (World.block_lt_of_cell? W0 _ g0)).trans g0
    replace g1 := (HW.out.cell (World.block_lt_of_cell? W0 _ g1)).trans g1
    replace g2 := (HW.out.cell (World.block_lt_of_cell? W0 _ g2)).trans g2
    replace g3 := (HW.out.cell (World.block_lt_of_cell? W0 _ g3)).trans g3
    obtain ⟨ins, hins⟩ : ∃ ins, Zb prog s.p = ins := ⟨_, rfl⟩
    rw [hins] at g0 g1 g2 g3 hs
    have hcp := HM.out.cp
    have hcs := HM.out.cs
    have hfp := HM.out.fr 19
    have hfs := HM.out.fr 20
    have hq2 : s.p.toNat = q := by omega
    rw [hq2] at g0 g1 g2 g3
    rw [hq] at hcp
    have hlt := HM.out.lt
    have hne : wr.heap.size ≠ g := by omega
    have hne2 : g ≠ wr.heap.size := by omega
    have hib : decide ((q : Int) < (prog.length : Int)) = true := decide_eq_true (by omega)
    have hibn : decide (q < prog.length) = true := decide_eq_true (by omega)
    have e : nextS s = { s with p := wrap64 ((q : Int) + 1), st := wrap64 (s.st + 1) } := by unfold nextS; rw [hq]
    rw [e] at hs
    have HDO := Za.mk (fun O : Obj => do_does W0.heap.size g R cR rec ins _ s2 o hs (((wr.setCell ⟨g, 19, none⟩ (.int .i64 (wrap64 ((q : Int) + 1)))).setCell ⟨g, 20, none⟩ (.int .i64 (wrap64 (s.st + 1)))).alloc O) (((HM.out.set_p _).set_st _).alloc O)
      (fun i hi => ((Below.alloc (Below.setCell (p := ⟨g, 20, none⟩) (Below.setCell (p := ⟨g, 19, none⟩) HW.out HBg.out (.int .i64 (wrap64 ((q : Int) + 1)))) HBg.out (.int .i64 (wrap64 (s.st + 1)))) (by have := HW.out.size; simp [World.setCell]; omega) O).cell (World.block_lt_of_cell? W0 _ (HREC.out i hi))).trans (HREC.out i hi)) HC.out HBg.out)
    have HBW := Za.mk (fun O : Obj => Below.alloc (Below.setCell (p := ⟨g, 20, none⟩) (Below.setCell (p := ⟨g, 19, none⟩) HW.out HBg.out (.int .i64 (wrap64 ((q : Int) + 1)))) HBg.out (.int .i64 (wrap64 (s.st + 1)))) (by have := HW.out.size; simp [World.setCell]; omega) O)
    have HNX := Za.mk h
    have hqn : q < prog.length := by omega
    have hqz : (q : Int) < (prog.length : Int) := by omega
    clear hs h hp hins hq2 hq e
    cases o with
    | none =>
      go_wp2_with (go_at_call 55; refine (HDO.out _).mono ?_; rintro e w1 ⟨he, hb1, hm1⟩; obtain rfl : e = .returned (.tuple #[.int .u32 0, .bool false]) := he; have HB1 := Za.mk ((HBW.out _).trans hb1); have HM1 := Za.mk hm1; clear hb1 hm1)
      go_roundg k1
      case measure => omega
      case rel => exact ⟨s2, HNX, HM1, HB1⟩
    | some x =>
      go_wp2_with (go_at_call 55; refine (HDO.out _).mono ?_; rintro e w1 ⟨he, hb1, hm1⟩; obtain rfl : e = .returned (.tuple #[.int .u32 x, .bool true]) := he; have HB1 := Za.mk ((HBW.out _).trans hb1); have HM1 := Za.mk hm1; clear hb1 hm1)
      go_returns
      have hx := HNX.out
      simp only [Option.some.injEq, Prod.mk.injEq] at hx
      obtain ⟨rfl, rfl⟩ := hx
      exact ⟨rfl, HB1.out, HM1.out⟩

end Go.Proofs.Ytgodbniphkfgfaa.P

namespace Go.Proofs.Ytgodbniphkfgfaa.P
open Go.RowKit Go.Proofs.YtgodbniphkfgfaaW.PrintWords Go.Proofs.YtgodbniphkfgfaaW.PrintLast Go.Proofs.YtgodbniphkfgfaaW.PrintMore
attribute [local go_sem] max2_int min2_int max_two min_two max_three min_three max_four min_four
set_option linter.unusedVariables false
set_option linter.unusedSimpArgs false

def newS : St := ⟨0, 0, List.replicate 16 0, 0, 0⟩
def impl_Run.f (k : Nat) (l0 : List S54) (l1 : List Int) : Option (Int × Int × Int) :=
  (Zbe.f k l0).bind fun v => if v.1 = 0 then (if l1.length = 64 then (runF k l0 l1 newS).bind fun q => some (q.1, q.2.st, 0) else some (0, 0, 1)) else some (0, 0, 1)
set_option maxHeartbeats 8000000 in
set_option maxRecDepth 100000 in
theorem impl_Run.calls (k : Nat) (A0 : Option Addr) (c0 : Nat) (l0 : List S54) (A1 : Option Addr) (c1 : Nat) (l1 : List Int) (r1 : Int) (r2 : Int) (r3 : Int) (w : World) (hr0 : Kd.C k54 w A0 l0.length l0) (hc0 : l0.length ≤ c0) (hr1 : Kd.C (Kd.int .u8) w A1 l1.length l1) (hc1 : l1.length ≤ c1) (h : impl_Run.f k l0 l1 = some (r1, r2, r3)) :
  Calls Try.prog 24 #[.slice A0 l0.length c0, .slice A1 l1.length c1] w fun e w' => e = .returned (.tuple #[.int .u32 r1, .int .i64 r2, .int .i64 r3]) ∧ Below w.heap.size w w' := by
 unfold impl_Run.f at h
 replace h := Option.bind_eq_some_iff.1 h
 obtain ⟨⟨v1, v2⟩, hv, h⟩ := h
 dsimp only at h
 have HV := Za.mk hv
 have HR0 := Za.mk hr0
 have HC0 := Za.mk hc0
 have HR1 := Za.mk hr1
 have HC1 := Za.mk hc1
 clear hv hr0 hc0 hr1 hc1
 by_cases cv : v1 = 0
 case neg =>
  rw [if_neg cv] at h
  simp only [Option.some.injEq, Prod.mk.injEq] at h
  obtain ⟨rfl, rfl, rfl⟩ := h
  have cb : (v1 != 0) = true := bne_iff_ne.2 cv
  clear cv
  go_enter Try.func24, Try.ntmps24
  go_wp2_with (go_at_call 28; refine (Zbe.calls k A0 c0 l0 v1 v2 _ HR0.out HC0.out HV.out).mono ?_; clear HV; rintro e w1 ⟨rfl, hb⟩; have HB := Za.mk hb; clear hb)
  go_returns
  exact ⟨rfl, HB.out⟩
 subst cv
 rw [if_pos rfl] at h
 by_cases c6 : l1.length = 64
 case neg =>
  rw [if_neg c6] at h
  simp only [Option.some.injEq, Prod.mk.injEq] at h
  obtain ⟨rfl, rfl, rfl⟩ := h
  have cb : ((l1.length : Int) != 64) = true := bne_iff_ne.2 (by omega)
  clear c6
  go_enter Try.func24, Try.ntmps24
  go_wp2_with (go_at_call 28; refine (Zbe.calls k A0 c0 l0 0 v2 _ HR0.out HC0.out HV.out).mono ?_; clear HV; rintro e w1 ⟨rfl, hb⟩; have HB := Za.mk hb; clear hb)
  go_returns
  exact ⟨rfl, HB.out⟩
 rw [if_pos c6] at h
 replace h := Option.bind_eq_some_iff.1 h
 obtain ⟨⟨q1, q2⟩, hq, h⟩ := h
 simp only [Option.some.injEq, Prod.mk.injEq] at h
 obtain ⟨rfl, rfl, rfl⟩ := h
 have HQ := Za.mk hq
 have cb : ((l1.length : Int) != 64) = false := by rw [bne_eq_false_iff_eq]; omega
 obtain ⟨R, rfl, _⟩ := Kd.at_int HR1.out 0 (by omega) (by omega)
 have hrec : ∀ i, i < 64 → w.cell? (R.add i) = some (.int .u8 (rd l1 (i : Int))) := fun i hi => by
  obtain ⟨R', e, he⟩ := Kd.at_int HR1.out (i : Int) (by omega) (by omega)
  obtain rfl := Option.some.inj e
  simpa only [Int.toNat_natCast] using he
 have HREC := Za.mk hrec
 have H6 := Za.mk c6
 rw [c6] at HC1 ⊢
 clear hq hrec c6
 have HDO := Za.mk (fun (w1 : World) (hb : Below w.heap.size w w1) => run_does k w1.heap.size R c1 l1 A0 c0 l0 newS q2 q1 HQ.out w (w1.alloc (.cells (mcells newS (.slice (some R) 64 c1)) 76)) ⟨blk_new w1 _, rfl⟩ HREC.out HC1.out HR0.out HC0.out hb.size (Ze hb _))
 go_enter Try.func24, Try.ntmps24
 go_wp2_with (first | (go_at_call 28; refine (Zbe.calls k A0 c0 l0 0 v2 _ HR0.out HC0.out HV.out).mono ?_; clear HV; rintro e w1 ⟨rfl, hb⟩; have HB := Za.mk hb; clear hb) | (go_at_call 40; refine (HDO.out _ HB.out).mono ?_; rintro e w2 ⟨rfl, hb2, hm2⟩; have HB2 := Za.mk hb2; have HM2 := Za.mk hm2; have hcs := HM2.out.cs; clear hb2 hm2))
 go_quiet (fail)
 go_wp2
 go_returns
 exact ⟨rfl, Zf HB2.out _⟩
mutual
def Zbc.j0 : Nat → List (S54) → Int → Int → Int → Int → Int → List Int → List (S54) → Bool → Option (Bool)
  | 0, _, _, _, _, _, _, _, _, _ => none
  | k + 1, x3, x5, x6, x7, x8, x9, x11, x12, x64 => if x64 = true then (some false) else (Zbc.l0 k x3 x5 x6 x7 x8 x9 x11 x12 0)
def Zbc.l0 : Nat → List (S54) → Int → Int → Int → Int → Int → List Int → List (S54) → Int → Option (Bool)
  | 0, _, _, _, _, _, _, _, _, _ => none
  | k + 1, x3, x5, x6, x7, x8, x9, x11, x12, x14 => if x14 < (x3.length : Int) then (if 0 ≤ x14 then (if x14 < (x12.length : Int) then (if ((Zb x3 x14).f0) = ((Zb x12 x14).f0) then (if ((Zb x3 x14).f1) = ((Zb x12 x14).f1) then (if ((Zb x3 x14).f2) = ((Zb x12 x14).f2) then (if ((Zb x3 x14).f3) = ((Zb x12 x14).f3) then (Zbc.l0 k x3 x5 x6 x7 x8 x9 x11 x12 (wrap64 (x14 + 1))) else (some false)) else (some false)) else (some false)) else (some false)) else (none)) else (none)) else ((Zbe.f k x12).bind fun bt679 => (if bt679.1 = x5 then (Zbc.j2 k x3 x7 x8 x9 x11 x12 (bt679.2 != x6)) else (Zbc.j2 k x3 x7 x8 x9 x11 x12 true)))
def Zbc.j2 : Nat → List (S54) → Int → Int → Int → List Int → List (S54) → Bool → Option (Bool)
  | 0, _, _, _, _, _, _, _ => none
  | k + 1, x3, x7, x8, x9, x11, x12, x117 => if x117 = true then (some false) else ((impl_Run.f k x12 x11).bind fun bt681 => (if bt681.2.2 = x9 then (if bt681.1 = x7 then (if bt681.2.1 = x8 then (if x9 = 0 then (if bt681.2.1 ≥ 1 then (some (decide (bt681.2.1 ≤ (x3.length : Int)))) else (some false)) else (some true)) else (some false)) else (some false)) else (some false)))
end
def Zbc.f (k : Nat) (l0 : List Int) : Option (Bool) := if (l0.length : Int) > 1048576 then (some true) else ((spec_DrawRun.f k l0).bind fun bt651 => (if (bt651.1.length : Int) > 4096 then (some true) else ((Zbg.f k bt651.1).bind fun bt657 => ((spec_Run.f k bt651.1 bt651.2).bind fun bt659 => ((spec_DrawRun.f k l0).bind fun bt662 => ((Zbw.f k bt662.1).bind fun t668 => ((Zcc.f t668).bind fun bt671 => (if bt671.2 = 0 then (Zbc.j0 k bt651.1 bt657.1 bt657.2 bt659.1 bt659.2.1 bt659.2.2 bt662.2 bt671.1 ((bt671.1.length : Int) != (bt651.1.length : Int))) else (Zbc.j0 k bt651.1 bt657.1 bt657.2 bt659.1 bt659.2.1 bt659.2.2 bt662.2 bt671.1 true)))))))))
set_option maxHeartbeats 8000000 in
set_option maxRecDepth 100000 in
theorem Zbc.calls (k : Nat) (A0 : Option Addr) (c0 : Nat) (l0 : List Int) (r : Bool) (w : World) (hr0 : Kd.C (Kd.int .u8) w A0 l0.length l0) (hc0 : l0.length ≤ c0) (h : Zbc.f k l0 = some r) :
  Calls Try.prog 6 #[.slice A0 l0.length c0] w fun e w' => e = .returned (.bool r) ∧ Below w.heap.size w w' := by
 have hu54 := Try.underlying54
 have HR0 := Za.mk hr0
 have HC0 := Za.mk hc0
 clear hr0 hc0
 have HB := Za.mk (Below.refl w.heap.size w)
 have H := h
 unfold Zbc.f at H
 clear h
 by_cases c2 : (l0.length : Int) > 1048576
 ·rw [if_pos c2] at H
  have c2b0 : decide (1048576 < (l0.length : Int)) = true := decide_eq_true c2
  have c2b1 : decide (1048576 < l0.length) = true := decide_eq_true (by omega)
  clear c2
  obtain rfl := Option.some.inj H
  go_enter Try.func6, Try.ntmps6
  go_wp2
  go_ret
  exact ⟨by first | rfl | (simp [Zo, Zp] <;> rfl) | (simp [*, Zo, Zp] <;> rfl), by repeat (first | (with_reducible first | exact HB.out | apply Ze | apply Zf | apply Zd) | exact HB.out)⟩
 ·rw [if_neg c2] at H
  have c2b0 : decide (1048576 < (l0.length : Int)) = false := decide_eq_false c2
  have c2b1 : decide (1048576 < l0.length) = false := decide_eq_false (by omega)
  clear c2
  replace H := Option.bind_eq_some_iff.mp H
  obtain ⟨⟨t651, t652⟩, A30, H⟩ := H
  (try dsimp only at H)
  have A3 := Za.mk A30
  clear A30
  by_cases c4 : (t651.length : Int) > 4096
  ·rw [if_pos c4] at H
   have c4b0 : decide (4096 < (t651.length : Int)) = true := decide_eq_true c4
   have c4b1 : decide (4096 < t651.length) = true := decide_eq_true (by omega)
   clear c4
   obtain rfl := Option.some.inj H
   go_enter Try.func6, Try.ntmps6
   go_wp2_with (first | ((with_reducible refine Zaf (f := 25) rfl ?_); refine Zae (some 27) rfl rfl Try.func25 (by kernel_rfl) rfl #[.slice A0 l0.length c0] rfl (by (try simp only [ZA, ZB, ZC]); first | done | rfl) ?_; (with_reducible refine (spec_DrawRun.calls k _ _ l0 t651 t652 _ ?side1 ?side2 A3.out).mono ?_); (case side1 => repeat (first | exact HR0.out | (with_reducible refine Kd.Zam ?_ _) | (with_reducible refine Kd.Zao ?_ _) | (with_reducible refine Kd.Zan ?_))); (case side2 => exact HC0.out); rintro e w5 ⟨v653, v655, rfl, ho0, ho1, hb⟩; refine ⟨_, rfl, ?_⟩; have HO654 := Za.mk (Kd.Zbi ho0 (Zas (by repeat (first | (with_reducible first | exact HB.out | apply Ze | apply Zf | apply Zd) | exact HB.out)))); have HO656 := Za.mk (Kd.Zbi ho1 (Zas (by repeat (first | (with_reducible first | exact HB.out | apply Ze | apply Zf | apply Zd) | exact HB.out)))); replace HB := Za.mk (Zai (by repeat (first | (with_reducible first | exact HB.out | apply Ze | apply Zf | apply Zd) | exact HB.out)) hb); (try clear hb); (try clear hb2); (try clear hk); (try clear hi); (try clear ho0); (try clear ho1); obtain ⟨Ao6, co6, eo6⟩ := Kd.Zbf HO654.out; subst eo6))
   go_ret
   exact ⟨by first | rfl | (simp [Zo, Zp] <;> rfl) | (simp [*, Zo, Zp] <;> rfl), by repeat (first | (with_reducible first | exact HB.out | apply Ze | apply Zf | apply Zd) | exact HB.out)⟩
  ·rw [if_neg c4] at H
   have c4b0 : decide (4096 < (t651.length : Int)) = false := decide_eq_false c4
   have c4b1 : decide (4096 < t651.length) = false := decide_eq_false (by omega)
   clear c4
   replace H := Option.bind_eq_some_iff.mp H
   obtain ⟨⟨t657, t658⟩, A70, H⟩ := H
   (try dsimp only at H)
   have A7 := Za.mk A70
   clear A70
   replace H := Option.bind_eq_some_iff.mp H
   obtain ⟨⟨t659, t660, t661⟩, A80, H⟩ := H
   (try dsimp only at H)
   have A8 := Za.mk A80
   clear A80
   replace H := Option.bind_eq_some_iff.mp H
   obtain ⟨⟨t662, t663⟩, A90, H⟩ := H
   (try dsimp only at H)
   have A9 := Za.mk A90
   clear A90
   replace H := Option.bind_eq_some_iff.mp H
   obtain ⟨t668, A100, H⟩ := H
   (try dsimp only at H)
   have A10 := Za.mk A100
   clear A100
   replace H := Option.bind_eq_some_iff.mp H
   obtain ⟨⟨t671, t672⟩, A110, H⟩ := H
   (try dsimp only at H)
   have A11 := Za.mk A110
   clear A110
   have HC12 := Za.mk H
   clear H
   go_enter Try.func6, Try.ntmps6
   go_upto_region 10 with (first | ((with_reducible refine Zaf (f := 25) rfl ?_); refine Zae (some 27) rfl rfl Try.func25 (by kernel_rfl) rfl #[.slice A0 l0.length c0] rfl (by (try simp only [ZA, ZB, ZC]); first | done | rfl) ?_; (with_reducible refine (spec_DrawRun.calls k _ _ l0 t651 t652 _ ?side1 ?side2 A3.out).mono ?_); (case side1 => repeat (first | exact HR0.out | (with_reducible refine Kd.Zam ?_ _) | (with_reducible refine Kd.Zao ?_ _) | (with_reducible refine Kd.Zan ?_))); (case side2 => exact HC0.out); rintro e w13 ⟨v653, v655, rfl, ho0, ho1, hb⟩; refine ⟨_, rfl, ?_⟩; have HO654 := Za.mk (Kd.Zbi ho0 (Zas (by repeat (first | (with_reducible first | exact HB.out | apply Ze | apply Zf | apply Zd) | exact HB.out)))); have HO656 := Za.mk (Kd.Zbi ho1 (Zas (by repeat (first | (with_reducible first | exact HB.out | apply Ze | apply Zf | apply Zd) | exact HB.out)))); replace HB := Za.mk (Zai (by repeat (first | (with_reducible first | exact HB.out | apply Ze | apply Zf | apply Zd) | exact HB.out)) hb); (try clear hb); (try clear hb2); (try clear hk); (try clear hi); (try clear ho0); (try clear ho1); obtain ⟨Ao14, co14, eo14⟩ := Kd.Zbf HO654.out; subst eo14) | ((with_reducible refine Zaf (f := 26) rfl ?_); refine Zae (some 35) rfl rfl Try.func26 (by kernel_rfl) rfl #[.slice Ao14 t651.length co14] rfl (by (try simp only [ZA, ZB, ZC]); first | done | rfl) ?_; (with_reducible refine (Zbg.calls k _ _ t651 t657 t658 _ ?side1 ?side2 A7.out).mono ?_); (case side1 => repeat (first | exact (Kd.Zag HO654.out).2.2 | (with_reducible refine Kd.Zam ?_ _) | (with_reducible refine Kd.Zao ?_ _) | (with_reducible refine Kd.Zan ?_))); (case side2 => exact (Kd.Zag HO654.out).2.1); rintro e w15 ⟨rfl, hb⟩; refine ⟨_, rfl, ?_⟩; replace HO654 := Za.mk (Kd.Zaq (by (with_reducible repeat (first | apply Kd.Zs | apply Kd.Zt | apply Kd.Zr)); exact HO654.out) hb); replace HO656 := Za.mk (Kd.Zaq (by (with_reducible repeat (first | apply Kd.Zs | apply Kd.Zt | apply Kd.Zr)); exact HO656.out) hb); replace HB := Za.mk (Zai (by repeat (first | (with_reducible first | exact HB.out | apply Ze | apply Zf | apply Zd) | exact HB.out)) hb); (try clear hb); (try clear hb2); (try clear hk); (try clear hi); obtain ⟨Ao16, co16, eo16⟩ := Kd.Zbf HO656.out; subst eo16) | ((with_reducible refine Zaf (f := 22) rfl ?_); refine Zae (some 41) rfl rfl Try.func22 (by kernel_rfl) rfl #[.slice Ao14 t651.length co14, .slice Ao16 t652.length co16] rfl (by (try simp only [ZA, ZB, ZC]); first | done | rfl) ?_; (with_reducible refine (spec_Run.calls k _ _ t651 _ _ t652 t659 t660 t661 _ ?side1 ?side2 ?side3 ?side4 A8.out).mono ?_); (case side1 => repeat (first | exact (Kd.Zag HO654.out).2.2 | (with_reducible refine Kd.Zam ?_ _) | (with_reducible refine Kd.Zao ?_ _) | (with_reducible refine Kd.Zan ?_))); (case side2 => exact (Kd.Zag HO654.out).2.1); (case side3 => repeat (first | exact (Kd.Zag HO656.out).2.2 | (with_reducible refine Kd.Zam ?_ _) | (with_reducible refine Kd.Zao ?_ _) | (with_reducible refine Kd.Zan ?_))); (case side4 => exact (Kd.Zag HO656.out).2.1); rintro e w17 ⟨rfl, hb⟩; refine ⟨_, rfl, ?_⟩; replace HO654 := Za.mk (Kd.Zaq (by (with_reducible repeat (first | apply Kd.Zs | apply Kd.Zt | apply Kd.Zr)); exact HO654.out) hb); replace HO656 := Za.mk (Kd.Zaq (by (with_reducible repeat (first | apply Kd.Zs | apply Kd.Zt | apply Kd.Zr)); exact HO656.out) hb); replace HB := Za.mk (Zai (by repeat (first | (with_reducible first | exact HB.out | apply Ze | apply Zf | apply Zd) | exact HB.out)) hb); (try clear hb); (try clear hb2); (try clear hk); (try clear hi)) | ((with_reducible refine Zaf (f := 25) rfl ?_); refine Zae (some 47) rfl rfl Try.func25 (by kernel_rfl) rfl #[.slice A0 l0.length c0] rfl (by (try simp only [ZA, ZB, ZC]); first | done | rfl) ?_; (with_reducible refine (spec_DrawRun.calls k _ _ l0 t662 t663 _ ?side1 ?side2 A9.out).mono ?_); (case side1 => repeat (first | exact (Kd.Zaw HR0.out HB.out) | (with_reducible refine Kd.Zam ?_ _) | (with_reducible refine Kd.Zao ?_ _) | (with_reducible refine Kd.Zan ?_))); (case side2 => exact HC0.out); rintro e w18 ⟨v664, v666, rfl, ho0, ho1, hb⟩; refine ⟨_, rfl, ?_⟩; have HO665 := Za.mk (Kd.Zbi (Kd.R_new' ho0 (Kd.R_lt (by (with_reducible repeat (first | apply Kd.Zs | apply Kd.Zt | apply Kd.Zr)); exact HO654.out))) (Zas (by repeat (first | (with_reducible first | exact HB.out | apply Ze | apply Zf | apply Zd) | exact HB.out)))); replace HO654 := Za.mk (Kd.R_elder' (by (with_reducible repeat (first | apply Kd.Zs | apply Kd.Zt | apply Kd.Zr)); exact HO654.out) (Kd.R_base ho0) hb); have HO667 := Za.mk (Kd.Zbi (Kd.R_new' ho1 (Kd.R_lt (by (with_reducible repeat (first | apply Kd.Zs | apply Kd.Zt | apply Kd.Zr)); exact HO656.out))) (Zas (by repeat (first | (with_reducible first | exact HB.out | apply Ze | apply Zf | apply Zd) | exact HB.out)))); replace HO656 := Za.mk (Kd.R_elder' (by (with_reducible repeat (first | apply Kd.Zs | apply Kd.Zt | apply Kd.Zr)); exact HO656.out) (Kd.R_base ho1) hb); replace HB := Za.mk (Zai (by repeat (first | (with_reducible first | exact HB.out | apply Ze | apply Zf | apply Zd) | exact HB.out)) hb); (try clear hb); (try clear hb2); (try clear hk); (try clear hi); (try clear ho0); (try clear ho1); obtain ⟨Ao19, co19, eo19⟩ := Kd.Zbf HO665.out; subst eo19) | ((with_reducible refine Zaf (f := 27) rfl ?_); refine Zae (some 52) rfl rfl Try.func27 (by kernel_rfl) rfl #[.slice Ao19 t662.length co19] rfl (by (try simp only [ZA, ZB, ZC]); first | done | rfl) ?_; (with_reducible refine (Zbw.calls k _ _ t662 t668 _ ?side1 ?side2 A10.out).mono ?_); (case side1 => repeat (first | exact (Kd.Zag HO665.out).2.2 | (with_reducible refine Kd.Zam ?_ _) | (with_reducible refine Kd.Zao ?_ _) | (with_reducible refine Kd.Zan ?_))); (case side2 => exact (Kd.Zag HO665.out).2.1); rintro e w20 ⟨v669, rfl, ho0, hb⟩; refine ⟨_, rfl, ?_⟩; replace HO654 := Za.mk (Kd.Zaq (by (with_reducible repeat (first | apply Kd.Zs | apply Kd.Zt | apply Kd.Zr)); exact HO654.out) hb); replace HO665 := Za.mk (Kd.Zaq (by (with_reducible repeat (first | apply Kd.Zs | apply Kd.Zt | apply Kd.Zr)); exact HO665.out) hb); have HO670 := Za.mk (Kd.Zbi (Kd.R_new' (Kd.R_new' ho0 (Kd.R_lt (by (with_reducible repeat (first | apply Kd.Zs | apply Kd.Zt | apply Kd.Zr)); exact HO656.out))) (Kd.R_lt (by (with_reducible repeat (first | apply Kd.Zs | apply Kd.Zt | apply Kd.Zr)); exact HO667.out))) (Zas (by repeat (first | (with_reducible first | exact HB.out | apply Ze | apply Zf | apply Zd) | exact HB.out)))); replace HO656 := Za.mk (Kd.R_elder' (by (with_reducible repeat (first | apply Kd.Zs | apply Kd.Zt | apply Kd.Zr)); exact HO656.out) (Kd.R_base ho0) hb); replace HO667 := Za.mk (Kd.R_elder' (by (with_reducible repeat (first | apply Kd.Zs | apply Kd.Zt | apply Kd.Zr)); exact HO667.out) (Kd.R_base ho0) hb); replace HB := Za.mk (Zai (by repeat (first | (with_reducible first | exact HB.out | apply Ze | apply Zf | apply Zd) | exact HB.out)) hb); (try clear hb); (try clear hb2); (try clear hk); (try clear hi); (try clear ho0); obtain ⟨Ao21, co21, eo21⟩ := Kd.Zbf HO670.out; subst eo21) | ((with_reducible refine Zaf (f := 9) rfl ?_); refine Zae (some 53) rfl rfl Try.func9 (by kernel_rfl) rfl #[.slice Ao21 t668.length co21] rfl (by (try simp only [ZA, ZB, ZC]); first | done | rfl) ?_; (with_reducible refine (Zcc.calls _ _ t668 t671 t672 _ ?side1 ?side2 A11.out).mono ?_); (case side1 => repeat (first | exact (Kd.Zag HO670.out).2.2 | (with_reducible refine Kd.Zam ?_ _) | (with_reducible refine Kd.Zao ?_ _) | (with_reducible refine Kd.Zan ?_))); (case side2 => exact (Kd.Zag HO670.out).2.1); rintro e w22 ⟨v673, rfl, ho0, hb⟩; refine ⟨_, rfl, ?_⟩; replace HO656 := Za.mk (Kd.Zaq (by (with_reducible repeat (first | apply Kd.Zs | apply Kd.Zt | apply Kd.Zr)); exact HO656.out) hb); replace HO667 := Za.mk (Kd.Zaq (by (with_reducible repeat (first | apply Kd.Zs | apply Kd.Zt | apply Kd.Zr)); exact HO667.out) hb); replace HO670 := Za.mk (Kd.Zaq (by (with_reducible repeat (first | apply Kd.Zs | apply Kd.Zt | apply Kd.Zr)); exact HO670.out) hb); have HO674 := Za.mk (Kd.Zbi (Kd.R_new' (Kd.R_new' ho0 (Kd.R_lt (by (with_reducible repeat (first | apply Kd.Zs | apply Kd.Zt | apply Kd.Zr)); exact HO654.out))) (Kd.R_lt (by (with_reducible repeat (first | apply Kd.Zs | apply Kd.Zt | apply Kd.Zr)); exact HO665.out))) (Zas (by repeat (first | (with_reducible first | exact HB.out | apply Ze | apply Zf | apply Zd) | exact HB.out)))); replace HO654 := Za.mk (Kd.R_elder' (by (with_reducible repeat (first | apply Kd.Zs | apply Kd.Zt | apply Kd.Zr)); exact HO654.out) (Kd.R_base ho0) hb); replace HO665 := Za.mk (Kd.R_elder' (by (with_reducible repeat (first | apply Kd.Zs | apply Kd.Zt | apply Kd.Zr)); exact HO665.out) (Kd.R_base ho0) hb); replace HB := Za.mk (Zai (by repeat (first | (with_reducible first | exact HB.out | apply Ze | apply Zf | apply Zd) | exact HB.out)) hb); (try clear hb); (try clear hb2); (try clear hk); (try clear hi); (try clear ho0)))
   (try simp only [Act.put, ZD, ZE, ZF])
   go_cut [64] (fun v64 wc => ∃ (kq : Nat) (x64_11 : Bool), v64 = .bool x64_11 ∧ Za (Zbc.j0 kq t651 t657 t658 t659 t660 t661 t663 t671 x64_11 = some r) ∧ Za (kq ≤ k) ∧ Za (Kd.R k54 54 wc w.heap.size (fun k_ => some k_ ≠ (v673 : Value).ownBlock) (.slice Ao14 t651.length co14) t651) ∧ Za (Kd.R (Kd.int .u8) 5 wc w.heap.size (fun _ => True) v666 t663) ∧ Za (Kd.R k54 54 wc w.heap.size (fun k_ => some k_ ≠ ((.slice Ao14 t651.length co14) : Value).ownBlock) v673 t671) ∧ Za (Below w.heap.size w wc))
   case first =>
    have H := HC12.out
    clear HC12
    by_cases c23 : t672 = 0
    ·rw [if_pos c23] at H
     have c23b0 : (t672 == 0) = true := beq_iff_eq.mpr c23
     have c23b1 : (t672 != 0) = false := bne_eq_false_iff_eq.mpr c23
     clear c23
     (first | rw [c23b0] | (simp only [Zn, Zq]; rw [c23b0]) | skip)
     have H' := Za.mk H
     clear H
     obtain ⟨Ao24, co24, eo24⟩ := Kd.Zbf HO674.out
     subst eo24
     go_wp2
     go_meet
     case rel => exact ⟨_, (((t671.length : Int) != (t651.length : Int))), (by first | rfl | (simp; done) | (simp [*]; done)), H', ⟨by first | omega | exact Nat.le_refl _⟩, ⟨by (with_reducible repeat (first | apply Kd.Zs | apply Kd.Zt | apply Kd.Zr)); exact Kd.Zah HO654.out (fun _ hk => hk.2)⟩, ⟨by (with_reducible repeat (first | apply Kd.Zs | apply Kd.Zt | apply Kd.Zr)); exact Kd.Zah HO667.out (fun _ hk => trivial)⟩, ⟨by (with_reducible repeat (first | apply Kd.Zs | apply Kd.Zt | apply Kd.Zr)); exact Kd.Zah HO674.out (fun _ hk => hk.1.2)⟩, ⟨by repeat (first | (with_reducible first | exact HB.out | apply Ze | apply Zf | apply Zd) | exact HB.out)⟩⟩
    ·rw [if_neg c23] at H
     have c23b0 : (t672 == 0) = false := beq_eq_false_iff_ne.mpr c23
     have c23b1 : (t672 != 0) = true := bne_iff_ne.mpr c23
     (first | rw [c23b0] | (simp only [Zn, Zq]; rw [c23b0]) | skip)
     have H' := Za.mk H
     clear H
     go_wp2
     go_meet
     case rel => exact ⟨_, (true), (by first | rfl | (simp; done) | (simp [*]; done)), H', ⟨by first | omega | exact Nat.le_refl _⟩, ⟨by (with_reducible repeat (first | apply Kd.Zs | apply Kd.Zt | apply Kd.Zr)); exact Kd.Zah HO654.out (fun _ hk => hk.2)⟩, ⟨by (with_reducible repeat (first | apply Kd.Zs | apply Kd.Zt | apply Kd.Zr)); exact Kd.Zah HO667.out (fun _ hk => trivial)⟩, ⟨by (with_reducible repeat (first | apply Kd.Zs | apply Kd.Zt | apply Kd.Zr)); exact Kd.Zah HO674.out (fun _ hk => hk.1.2)⟩, ⟨by repeat (first | (with_reducible first | exact HB.out | apply Ze | apply Zf | apply Zd) | exact HB.out)⟩⟩
   case rest =>
    clear HC12
    try clear c2
    try clear c2b0
    try clear c2b1
    try clear p2
    try clear c4
    try clear c4b0
    try clear c4b1
    try clear c6
    try clear c9
    try clear c22
    try clear c23
    try clear c23b0
    try clear c23b1
    obtain ⟨kq, x64_11, rfl, HA, HJ11, HO_3, HO_11, HO_12, HB⟩ := hcut
    cases kq with
    | zero => exact absurd HA.out (by simp [Zbc.j0])
    | succ kj11 =>
     have H := HA.out
     clear HA
     simp only [Zbc.j0] at H
     by_cases c25 : x64_11 = true
     ·subst c25
      have H1 : (some false) = some r := by rw [if_pos rfl] at H; exact H
      clear H
      have H := H1
      clear H1
      obtain rfl := Option.some.inj H
      go_wp2
      go_ret
      exact ⟨by first | rfl | (simp [Zo, Zp] <;> rfl) | (simp [*, Zo, Zp] <;> rfl), by repeat (first | (with_reducible first | exact HB.out | apply Ze | apply Zf | apply Zd) | exact HB.out)⟩
     ·replace c25 := Bool.eq_false_iff.mpr c25
      subst c25
      have H1 : (Zbc.l0 kj11 t651 t657 t658 t659 t660 t661 t663 t671 0) = some r := by rw [if_neg (show ¬ (false = true) by decide)] at H; exact H
      clear H
      have H := H1
      clear H1
      have H' := Za.mk H
      clear H
      go_wp2
      go_loopg [14] kj11 (fun kq v14 w' => ∃ (x14_2 : Int), v14 = .int .i64 x14_2 ∧ Za (Zbc.l0 kq t651 t657 t658 t659 t660 t661 t663 t671 x14_2 = some r) ∧ Za (kq ≤ kj11) ∧ Za (Kd.R k54 54 w' w.heap.size (fun k_ => some k_ ≠ (v673 : Value).ownBlock) (.slice Ao14 t651.length co14) t651) ∧ Za (Kd.R (Kd.int .u8) 5 w' w.heap.size (fun _ => True) v666 t663) ∧ Za (Kd.R k54 54 w' w.heap.size (fun k_ => some k_ ≠ ((.slice Ao14 t651.length co14) : Value).ownBlock) v673 t671) ∧ Za (Below w.heap.size w w'))
      case atStart => exact ⟨(0), (by first | rfl | (simp; done) | (simp [*]; done)), H', ⟨Nat.le_refl _⟩, ⟨by (with_reducible repeat (first | apply Kd.Zs | apply Kd.Zt | apply Kd.Zr)); exact HO_3.out⟩, ⟨by (with_reducible repeat (first | apply Kd.Zs | apply Kd.Zt | apply Kd.Zr)); exact HO_11.out⟩, ⟨by (with_reducible repeat (first | apply Kd.Zs | apply Kd.Zt | apply Kd.Zr)); exact HO_12.out⟩, ⟨by repeat (first | (with_reducible first | exact HB.out | apply Ze | apply Zf | apply Zd) | exact HB.out)⟩⟩
      case round =>
       clear H'
       try clear c2
       try clear c2b0
       try clear c2b1
       try clear p2
       try clear c4
       try clear c4b0
       try clear c4b1
       try clear c6
       try clear c9
       try clear c22
       try clear c23
       try clear c23b0
       try clear c23b1
       try clear c25
       try clear p2
       obtain ⟨x14_2, rfl, HA, HK2, HO_3, HO_11, HO_12, HB⟩ := hrel
       cases gk with
       | zero => exact absurd HA.out (by simp [Zbc.l0])
       | succ k2 =>
        have H := HA.out
        clear HA
        simp only [Zbc.l0] at H
        by_cases c26 : x14_2 < (t651.length : Int)
        ·rw [if_pos c26] at H
         have c26b0 : decide (x14_2 < (t651.length : Int)) = true := decide_eq_true c26
         clear c26
         by_cases c27 : 0 ≤ x14_2
         ·rw [if_pos c27] at H
          have c27b0 : decide (0 ≤ x14_2) = true := decide_eq_true c27
          clear c27
          by_cases c28 : x14_2 < (t671.length : Int)
          ·rw [if_pos c28] at H
           have c28b0 : decide (x14_2 < (t671.length : Int)) = true := decide_eq_true c28
           clear c28
           by_cases c29 : ((Zb t651 x14_2).f0) = ((Zb t671 x14_2).f0)
           ·rw [if_pos c29] at H
            have c29b0 : (((Zb t651 x14_2).f0) == ((Zb t671 x14_2).f0)) = true := beq_iff_eq.mpr c29
            have c29b1 : (((Zb t651 x14_2).f0) != ((Zb t671 x14_2).f0)) = false := bne_eq_false_iff_eq.mpr c29
            clear c29
            by_cases c30 : ((Zb t651 x14_2).f1) = ((Zb t671 x14_2).f1)
            ·rw [if_pos c30] at H
             have c30b0 : (((Zb t651 x14_2).f1) == ((Zb t671 x14_2).f1)) = true := beq_iff_eq.mpr c30
             have c30b1 : (((Zb t651 x14_2).f1) != ((Zb t671 x14_2).f1)) = false := bne_eq_false_iff_eq.mpr c30
             clear c30
             by_cases c31 : ((Zb t651 x14_2).f2) = ((Zb t671 x14_2).f2)
             ·rw [if_pos c31] at H
              have c31b0 : (((Zb t651 x14_2).f2) == ((Zb t671 x14_2).f2)) = true := beq_iff_eq.mpr c31
              have c31b1 : (((Zb t651 x14_2).f2) != ((Zb t671 x14_2).f2)) = false := bne_eq_false_iff_eq.mpr c31
              clear c31
              by_cases c32 : ((Zb t651 x14_2).f3) = ((Zb t671 x14_2).f3)
              ·rw [if_pos c32] at H
               have c32b0 : (((Zb t651 x14_2).f3) == ((Zb t671 x14_2).f3)) = true := beq_iff_eq.mpr c32
               have c32b1 : (((Zb t651 x14_2).f3) != ((Zb t671 x14_2).f3)) = false := bne_eq_false_iff_eq.mpr c32
               clear c32
               have H' := Za.mk H
               clear H
               have p675 : 0 ≤ (x14_2 : Int) := of_decide_eq_true (by assumption)
               have q675 : x14_2 < (t651.length : Int) := of_decide_eq_true (by assumption)
               obtain ⟨ad675, e675, hx675_0, hx675_1, hx675_2, hx675_3⟩ := at_T54 (Kd.Zag HO_3.out).2.2 x14_2 p675 q675
               cases e675
               replace p675 := eq_true p675
               replace q675 := eq_true q675
               go_wp2_with (first | ((with_reducible refine Zbj (N := 15) rfl ?_); (try (refine gate_guard (by rfl) ?_; dsimp only)); refine Zbo ?hg (N := 15) ?hd (cs := #[.int .u16 0, .int .u8 0, .int .u8 0, .int .u32 0]) (t := 54) ?hr ?_; (case hd => rfl); (case hg => rfl); (case hr => first | (go_simp; done) | (go_simp; rfl)); intro gb676 hg w33 hbox hb; replace HO_3 := Za.mk (Kd.Zaq (Kd.Zbp (by (with_reducible repeat (first | apply Kd.Zs | apply Kd.Zt | apply Kd.Zr)); exact HO_3.out) gb676 (Nat.le_of_eq hg.symm)) hb); replace HO_11 := Za.mk (Kd.Zaq (by (with_reducible repeat (first | apply Kd.Zs | apply Kd.Zt | apply Kd.Zr)); exact HO_11.out) hb); replace HO_12 := Za.mk (Kd.Zaq (Kd.Zbp (by (with_reducible repeat (first | apply Kd.Zs | apply Kd.Zt | apply Kd.Zr)); exact HO_12.out) gb676 (Nat.le_of_eq hg.symm)) hb); have BK676 := Za.mk (hbox); have GW676 := Za.mk ((by rw [hg]; exact (Zas (by repeat (first | (with_reducible first | exact HB.out | apply Ze | apply Zf | apply Zd) | exact HB.out))) : w.heap.size ≤ gb676)); have GE676 := Za.mk ((by rw [hg]; exact (Zas (by repeat (first | (with_reducible first | exact HB.out | apply Ze | apply Zf | apply Zd) | exact HB.out))) : w.heap.size ≤ gb676)); replace HB := Za.mk (Zai (by repeat (first | (with_reducible first | exact HB.out | apply Ze | apply Zf | apply Zd) | exact HB.out)) hb); clear hb hbox hg; have hcz34_0 : w33.cell? ⟨gb676, 0, none⟩ = some (.int .u16 0) := (Zg BK676.out 0).trans rfl; have hcz34_1 : w33.cell? ⟨gb676, 1, none⟩ = some (.int .u8 0) := (Zg BK676.out 1).trans rfl; have hcz34_2 : w33.cell? ⟨gb676, 2, none⟩ = some (.int .u8 0) := (Zg BK676.out 2).trans rfl; have hcz34_3 : w33.cell? ⟨gb676, 3, none⟩ = some (.int .u32 0) := (Zg BK676.out 3).trans rfl; have hfz34_0 := Zl BK676.out 0; have hfz34_1 := Zl BK676.out 1; have hfz34_2 := Zl BK676.out 2; have hfz34_3 := Zl BK676.out 3; obtain ⟨Ao35, co35, eo35⟩ := Kd.Zbf HO_12.out; subst eo35; have p677 : 0 ≤ (x14_2 : Int) := of_decide_eq_true (by assumption); have q677 : x14_2 < (t671.length : Int) := of_decide_eq_true (by assumption); obtain ⟨ad677, e677, hx677_0, hx677_1, hx677_2, hx677_3⟩ := at_T54 (Kd.Zag HO_12.out).2.2 x14_2 p677 q677; cases e677; have hn677_0 : ad677.block ≠ gb676 := (by first | exact Kd.Zaz (Kd.R_ne HO_12.out BK676.out (by decide)) | exact Kd.Zaz (Kd.R_away HO_12.out (fun _ hk => hk.2))); have hn677_1 : ad677.block ≠ gb676 := (by first | exact Kd.Zaz (Kd.R_ne HO_12.out BK676.out (by decide)) | exact Kd.Zaz (Kd.R_away HO_12.out (fun _ hk => hk.2))); have hn677_2 : ad677.block ≠ gb676 := (by first | exact Kd.Zaz (Kd.R_ne HO_12.out BK676.out (by decide)) | exact Kd.Zaz (Kd.R_away HO_12.out (fun _ hk => hk.2))); have hn677_3 : ad677.block ≠ gb676 := (by first | exact Kd.Zaz (Kd.R_ne HO_12.out BK676.out (by decide)) | exact Kd.Zaz (Kd.R_away HO_12.out (fun _ hk => hk.2))); replace hx677_0 := (cell_far (p := ⟨gb676, 0, none⟩) (by first | (rw [add_block]; exact hn677_0) | (show (Addr.add _ _).block ≠ _; rw [add_block]; exact hn677_0) | exact hn677_0) (.int .u16 ((Zb t651 x14_2).f0))).trans hx677_0; replace hx677_1 := (cell_far (p := ⟨gb676, 0, none⟩) (by first | (rw [add_block]; exact hn677_0) | (show (Addr.add _ _).block ≠ _; rw [add_block]; exact hn677_0) | exact hn677_0) (.int .u16 ((Zb t651 x14_2).f0))).trans hx677_1; replace hx677_2 := (cell_far (p := ⟨gb676, 0, none⟩) (by first | (rw [add_block]; exact hn677_0) | (show (Addr.add _ _).block ≠ _; rw [add_block]; exact hn677_0) | exact hn677_0) (.int .u16 ((Zb t651 x14_2).f0))).trans hx677_2; replace hx677_3 := (cell_far (p := ⟨gb676, 0, none⟩) (by first | (rw [add_block]; exact hn677_0) | (show (Addr.add _ _).block ≠ _; rw [add_block]; exact hn677_0) | exact hn677_0) (.int .u16 ((Zb t651 x14_2).f0))).trans hx677_3; replace hx677_0 := (cell_far (p := ⟨gb676, 1, none⟩) (by first | (rw [add_block]; exact hn677_1) | (show (Addr.add _ _).block ≠ _; rw [add_block]; exact hn677_1) | exact hn677_1) (.int .u8 ((Zb t651 x14_2).f1))).trans hx677_0; replace hx677_1 := (cell_far (p := ⟨gb676, 1, none⟩) (by first | (rw [add_block]; exact hn677_1) | (show (Addr.add _ _).block ≠ _; rw [add_block]; exact hn677_1) | exact hn677_1) (.int .u8 ((Zb t651 x14_2).f1))).trans hx677_1; replace hx677_2 := (cell_far (p := ⟨gb676, 1, none⟩) (by first | (rw [add_block]; exact hn677_1) | (show (Addr.add _ _).block ≠ _; rw [add_block]; exact hn677_1) | exact hn677_1) (.int .u8 ((Zb t651 x14_2).f1))).trans hx677_2; replace hx677_3 := (cell_far (p := ⟨gb676, 1, none⟩) (by first | (rw [add_block]; exact hn677_1) | (show (Addr.add _ _).block ≠ _; rw [add_block]; exact hn677_1) | exact hn677_1) (.int .u8 ((Zb t651 x14_2).f1))).trans hx677_3; replace hx677_0 := (cell_far (p := ⟨gb676, 2, none⟩) (by first | (rw [add_block]; exact hn677_2) | (show (Addr.add _ _).block ≠ _; rw [add_block]; exact hn677_2) | exact hn677_2) (.int .u8 ((Zb t651 x14_2).f2))).trans hx677_0; replace hx677_1 := (cell_far (p := ⟨gb676, 2, none⟩) (by first | (rw [add_block]; exact hn677_2) | (show (Addr.add _ _).block ≠ _; rw [add_block]; exact hn677_2) | exact hn677_2) (.int .u8 ((Zb t651 x14_2).f2))).trans hx677_1; replace hx677_2 := (cell_far (p := ⟨gb676, 2, none⟩) (by first | (rw [add_block]; exact hn677_2) | (show (Addr.add _ _).block ≠ _; rw [add_block]; exact hn677_2) | exact hn677_2) (.int .u8 ((Zb t651 x14_2).f2))).trans hx677_2; replace hx677_3 := (cell_far (p := ⟨gb676, 2, none⟩) (by first | (rw [add_block]; exact hn677_2) | (show (Addr.add _ _).block ≠ _; rw [add_block]; exact hn677_2) | exact hn677_2) (.int .u8 ((Zb t651 x14_2).f2))).trans hx677_3; replace hx677_0 := (cell_far (p := ⟨gb676, 3, none⟩) (by first | (rw [add_block]; exact hn677_3) | (show (Addr.add _ _).block ≠ _; rw [add_block]; exact hn677_3) | exact hn677_3) (.int .u32 ((Zb t651 x14_2).f3))).trans hx677_0; replace hx677_1 := (cell_far (p := ⟨gb676, 3, none⟩) (by first | (rw [add_block]; exact hn677_3) | (show (Addr.add _ _).block ≠ _; rw [add_block]; exact hn677_3) | exact hn677_3) (.int .u32 ((Zb t651 x14_2).f3))).trans hx677_1; replace hx677_2 := (cell_far (p := ⟨gb676, 3, none⟩) (by first | (rw [add_block]; exact hn677_3) | (show (Addr.add _ _).block ≠ _; rw [add_block]; exact hn677_3) | exact hn677_3) (.int .u32 ((Zb t651 x14_2).f3))).trans hx677_2; replace hx677_3 := (cell_far (p := ⟨gb676, 3, none⟩) (by first | (rw [add_block]; exact hn677_3) | (show (Addr.add _ _).block ≠ _; rw [add_block]; exact hn677_3) | exact hn677_3) (.int .u32 ((Zb t651 x14_2).f3))).trans hx677_3; clear hn677_0; clear hn677_1; clear hn677_2; clear hn677_3; replace p677 := eq_true p677; replace q677 := eq_true q677) | ((with_reducible refine Zbj (N := 16) rfl ?_); (try (refine gate_guard (by rfl) ?_; dsimp only)); refine Zbo ?hg (N := 16) ?hd (cs := #[.int .u16 0, .int .u8 0, .int .u8 0, .int .u32 0]) (t := 54) ?hr ?_; (case hd => rfl); (case hg => rfl); (case hr => first | (go_simp; done) | (go_simp; rfl)); intro gb678 hg w36 hbox hb; replace HO_3 := Za.mk (Kd.Zaq (Kd.Zbp (by (with_reducible repeat (first | apply Kd.Zs | apply Kd.Zt | apply Kd.Zr)); exact (Kd.Zah (Kd.Zad (p := ⟨gb676, 3, none⟩) (Kd.Zad (p := ⟨gb676, 2, none⟩) (Kd.Zad (p := ⟨gb676, 1, none⟩) (Kd.Zad (p := ⟨gb676, 0, none⟩) (Kd.Zah HO_3.out (fun k_ hk => (⟨hk, hk.2⟩ : _ ∧ k_ ≠ gb676))) (fun _ hk => hk.2) (.int .u16 ((Zb t651 x14_2).f0))) (fun _ hk => hk.2) (.int .u8 ((Zb t651 x14_2).f1))) (fun _ hk => hk.2) (.int .u8 ((Zb t651 x14_2).f2))) (fun _ hk => hk.2) (.int .u32 ((Zb t651 x14_2).f3))) (fun _ h_ => h_.1))) gb678 (Nat.le_of_eq hg.symm)) hb); replace HO_11 := Za.mk (Kd.Zaq (by (with_reducible repeat (first | apply Kd.Zs | apply Kd.Zt | apply Kd.Zr)); exact (Kd.Zah (Kd.Zad (p := ⟨gb676, 3, none⟩) (Kd.Zad (p := ⟨gb676, 2, none⟩) (Kd.Zad (p := ⟨gb676, 1, none⟩) (Kd.Zad (p := ⟨gb676, 0, none⟩) (Kd.R_types HO_11.out BK676.out (by decide)) (fun _ hk => hk.2) (.int .u16 ((Zb t651 x14_2).f0))) (fun _ hk => hk.2) (.int .u8 ((Zb t651 x14_2).f1))) (fun _ hk => hk.2) (.int .u8 ((Zb t651 x14_2).f2))) (fun _ hk => hk.2) (.int .u32 ((Zb t651 x14_2).f3))) (fun _ h_ => h_.1))) hb); replace HO_12 := Za.mk (Kd.Zaq (Kd.Zbp (by (with_reducible repeat (first | apply Kd.Zs | apply Kd.Zt | apply Kd.Zr)); exact (Kd.Zah (Kd.Zad (p := ⟨gb676, 3, none⟩) (Kd.Zad (p := ⟨gb676, 2, none⟩) (Kd.Zad (p := ⟨gb676, 1, none⟩) (Kd.Zad (p := ⟨gb676, 0, none⟩) (Kd.Zah HO_12.out (fun k_ hk => (⟨hk, hk.2⟩ : _ ∧ k_ ≠ gb676))) (fun _ hk => hk.2) (.int .u16 ((Zb t651 x14_2).f0))) (fun _ hk => hk.2) (.int .u8 ((Zb t651 x14_2).f1))) (fun _ hk => hk.2) (.int .u8 ((Zb t651 x14_2).f2))) (fun _ hk => hk.2) (.int .u32 ((Zb t651 x14_2).f3))) (fun _ h_ => h_.1))) gb678 (Nat.le_of_eq hg.symm)) hb); have BK678 := Za.mk (hbox); have GW678 := Za.mk ((by rw [hg]; exact (Zas (by repeat (first | (with_reducible first | exact HB.out | apply Ze | apply Zf | apply Zd | refine Zk ?_ GE676.out) | exact HB.out))) : w.heap.size ≤ gb678)); have GE678 := Za.mk ((by rw [hg]; exact (Zas (by repeat (first | (with_reducible first | exact HB.out | apply Ze | apply Zf | apply Zd | refine Zk ?_ GE676.out) | exact HB.out))) : w.heap.size ≤ gb678)); replace HB := Za.mk (Zai (by repeat (first | (with_reducible first | exact HB.out | apply Ze | apply Zf | apply Zd | refine Zk ?_ GE676.out) | exact HB.out)) hb); have NB676_678 := Za.mk ((by rw [hg]; exact Nat.ne_of_lt (blk_lt (g := gb676) (o := .cells #[.int .u16 ((Zb t651 x14_2).f0), .int .u8 ((Zb t651 x14_2).f1), .int .u8 ((Zb t651 x14_2).f2), .int .u32 ((Zb t651 x14_2).f3)] 54 (0, 0)) (by (with_reducible repeat (first | refine Zj ?_ _ | refine Zh ?_ | refine Zi ?_ _)); refine Zu (cs := #[.int .u16 ((Zb t651 x14_2).f0), .int .u8 ((Zb t651 x14_2).f1), .int .u8 ((Zb t651 x14_2).f2), .int .u32 0]) ?_ 3 _ rfl; (with_reducible repeat (first | refine Zj ?_ _ | refine Zh ?_ | refine Zi ?_ _)); refine Zu (cs := #[.int .u16 ((Zb t651 x14_2).f0), .int .u8 ((Zb t651 x14_2).f1), .int .u8 0, .int .u32 0]) ?_ 2 _ rfl; (with_reducible repeat (first | refine Zj ?_ _ | refine Zh ?_ | refine Zi ?_ _)); refine Zu (cs := #[.int .u16 ((Zb t651 x14_2).f0), .int .u8 0, .int .u8 0, .int .u32 0]) ?_ 1 _ rfl; (with_reducible repeat (first | refine Zj ?_ _ | refine Zh ?_ | refine Zi ?_ _)); refine Zu (cs := #[.int .u16 0, .int .u8 0, .int .u8 0, .int .u32 0]) ?_ 0 _ rfl; (with_reducible repeat (first | refine Zj ?_ _ | refine Zh ?_ | refine Zi ?_ _)); exact BK676.out)) : gb676 ≠ gb678)); have NB678_676 := Za.mk ((by rw [hg]; exact Nat.ne_of_gt (blk_lt (g := gb676) (o := .cells #[.int .u16 ((Zb t651 x14_2).f0), .int .u8 ((Zb t651 x14_2).f1), .int .u8 ((Zb t651 x14_2).f2), .int .u32 ((Zb t651 x14_2).f3)] 54 (0, 0)) (by (with_reducible repeat (first | refine Zj ?_ _ | refine Zh ?_ | refine Zi ?_ _)); refine Zu (cs := #[.int .u16 ((Zb t651 x14_2).f0), .int .u8 ((Zb t651 x14_2).f1), .int .u8 ((Zb t651 x14_2).f2), .int .u32 0]) ?_ 3 _ rfl; (with_reducible repeat (first | refine Zj ?_ _ | refine Zh ?_ | refine Zi ?_ _)); refine Zu (cs := #[.int .u16 ((Zb t651 x14_2).f0), .int .u8 ((Zb t651 x14_2).f1), .int .u8 0, .int .u32 0]) ?_ 2 _ rfl; (with_reducible repeat (first | refine Zj ?_ _ | refine Zh ?_ | refine Zi ?_ _)); refine Zu (cs := #[.int .u16 ((Zb t651 x14_2).f0), .int .u8 0, .int .u8 0, .int .u32 0]) ?_ 1 _ rfl; (with_reducible repeat (first | refine Zj ?_ _ | refine Zh ?_ | refine Zi ?_ _)); refine Zu (cs := #[.int .u16 0, .int .u8 0, .int .u8 0, .int .u32 0]) ?_ 0 _ rfl; (with_reducible repeat (first | refine Zj ?_ _ | refine Zh ?_ | refine Zi ?_ _)); exact BK676.out)) : gb678 ≠ gb676)); replace BK676 := Za.mk (Zbd (g := gb676) (o := .cells #[.int .u16 ((Zb t651 x14_2).f0), .int .u8 ((Zb t651 x14_2).f1), .int .u8 ((Zb t651 x14_2).f2), .int .u32 ((Zb t651 x14_2).f3)] 54 (0, 0)) (by (with_reducible repeat (first | refine Zj ?_ _ | refine Zh ?_ | refine Zi ?_ _)); refine Zu (cs := #[.int .u16 ((Zb t651 x14_2).f0), .int .u8 ((Zb t651 x14_2).f1), .int .u8 ((Zb t651 x14_2).f2), .int .u32 0]) ?_ 3 _ rfl; (with_reducible repeat (first | refine Zj ?_ _ | refine Zh ?_ | refine Zi ?_ _)); refine Zu (cs := #[.int .u16 ((Zb t651 x14_2).f0), .int .u8 ((Zb t651 x14_2).f1), .int .u8 0, .int .u32 0]) ?_ 2 _ rfl; (with_reducible repeat (first | refine Zj ?_ _ | refine Zh ?_ | refine Zi ?_ _)); refine Zu (cs := #[.int .u16 ((Zb t651 x14_2).f0), .int .u8 0, .int .u8 0, .int .u32 0]) ?_ 1 _ rfl; (with_reducible repeat (first | refine Zj ?_ _ | refine Zh ?_ | refine Zi ?_ _)); refine Zu (cs := #[.int .u16 0, .int .u8 0, .int .u8 0, .int .u32 0]) ?_ 0 _ rfl; (with_reducible repeat (first | refine Zj ?_ _ | refine Zh ?_ | refine Zi ?_ _)); exact BK676.out) hb); clear hb hbox hg; have hnb37 := NB678_676.out; have hnc37 := NB676_678.out; have hcz38_0 : w36.cell? ⟨gb678, 0, none⟩ = some (.int .u16 0) := (Zg BK678.out 0).trans rfl; have hcz38_1 : w36.cell? ⟨gb678, 1, none⟩ = some (.int .u8 0) := (Zg BK678.out 1).trans rfl; have hcz38_2 : w36.cell? ⟨gb678, 2, none⟩ = some (.int .u8 0) := (Zg BK678.out 2).trans rfl; have hcz38_3 : w36.cell? ⟨gb678, 3, none⟩ = some (.int .u32 0) := (Zg BK678.out 3).trans rfl; have hfz38_0 := Zl BK678.out 0; have hfz38_1 := Zl BK678.out 1; have hfz38_2 := Zl BK678.out 2; have hfz38_3 := Zl BK678.out 3; have hcz39_0 : w36.cell? ⟨gb676, 0, none⟩ = some (.int .u16 ((Zb t651 x14_2).f0)) := (Zg BK676.out 0).trans rfl; have hcz39_1 : w36.cell? ⟨gb676, 1, none⟩ = some (.int .u8 ((Zb t651 x14_2).f1)) := (Zg BK676.out 1).trans rfl; have hcz39_2 : w36.cell? ⟨gb676, 2, none⟩ = some (.int .u8 ((Zb t651 x14_2).f2)) := (Zg BK676.out 2).trans rfl; have hcz39_3 : w36.cell? ⟨gb676, 3, none⟩ = some (.int .u32 ((Zb t651 x14_2).f3)) := (Zg BK676.out 3).trans rfl; have hfz39_0 := Zl BK676.out 0; have hfz39_1 := Zl BK676.out 1; have hfz39_2 := Zl BK676.out 2; have hfz39_3 := Zl BK676.out 3))
               go_roundg k2
               case measure => have := HJ11.out; have := HK2.out; omega
               case rel => exact ⟨(wrap64 (x14_2 + 1)), (by first | rfl | (simp; done) | (simp [*]; done)), H', ⟨by have := HJ11.out; have := HK2.out; omega⟩, ⟨by (with_reducible repeat (first | apply Kd.Zs | apply Kd.Zt | apply Kd.Zr)); exact Kd.Zah (Kd.Zad (p := ⟨gb678, 3, none⟩) (Kd.Zad (p := ⟨gb678, 2, none⟩) (Kd.Zad (p := ⟨gb678, 1, none⟩) (Kd.Zad (p := ⟨gb678, 0, none⟩) (Kd.Zah HO_3.out (fun k_ hk => (⟨hk, hk.2⟩ : _ ∧ k_ ≠ gb678))) (fun _ hk => hk.2) (.int .u16 ((Zb t671 x14_2).f0))) (fun _ hk => hk.2) (.int .u8 ((Zb t671 x14_2).f1))) (fun _ hk => hk.2) (.int .u8 ((Zb t671 x14_2).f2))) (fun _ hk => hk.2) (.int .u32 ((Zb t671 x14_2).f3))) (fun _ hk => hk.1.1.1)⟩, ⟨by (with_reducible repeat (first | apply Kd.Zs | apply Kd.Zt | apply Kd.Zr)); exact Kd.Zah (Kd.Zad (p := ⟨gb678, 3, none⟩) (Kd.Zad (p := ⟨gb678, 2, none⟩) (Kd.Zad (p := ⟨gb678, 1, none⟩) (Kd.Zad (p := ⟨gb678, 0, none⟩) (Kd.R_types HO_11.out BK678.out (by decide)) (fun _ hk => hk.2) (.int .u16 ((Zb t671 x14_2).f0))) (fun _ hk => hk.2) (.int .u8 ((Zb t671 x14_2).f1))) (fun _ hk => hk.2) (.int .u8 ((Zb t671 x14_2).f2))) (fun _ hk => hk.2) (.int .u32 ((Zb t671 x14_2).f3))) (fun _ hk => trivial)⟩, ⟨by (with_reducible repeat (first | apply Kd.Zs | apply Kd.Zt | apply Kd.Zr)); exact Kd.Zah (Kd.Zad (p := ⟨gb678, 3, none⟩) (Kd.Zad (p := ⟨gb678, 2, none⟩) (Kd.Zad (p := ⟨gb678, 1, none⟩) (Kd.Zad (p := ⟨gb678, 0, none⟩) (Kd.Zah HO_12.out (fun k_ hk => (⟨hk, hk.2⟩ : _ ∧ k_ ≠ gb678))) (fun _ hk => hk.2) (.int .u16 ((Zb t671 x14_2).f0))) (fun _ hk => hk.2) (.int .u8 ((Zb t671 x14_2).f1))) (fun _ hk => hk.2) (.int .u8 ((Zb t671 x14_2).f2))) (fun _ hk => hk.2) (.int .u32 ((Zb t671 x14_2).f3))) (fun _ hk => hk.1.1.1)⟩, ⟨by repeat (first | (with_reducible first | exact HB.out | apply Ze | apply Zf | apply Zd | refine Zk ?_ GE676.out | refine Zk ?_ GE678.out) | exact HB.out)⟩⟩
              ·rw [if_neg c32] at H
               have c32b0 : (((Zb t651 x14_2).f3) == ((Zb t671 x14_2).f3)) = false := beq_eq_false_iff_ne.mpr c32
               have c32b1 : (((Zb t651 x14_2).f3) != ((Zb t671 x14_2).f3)) = true := bne_iff_ne.mpr c32
               obtain rfl := Option.some.inj H
               have p675 : 0 ≤ (x14_2 : Int) := of_decide_eq_true (by assumption)
               have q675 : x14_2 < (t651.length : Int) := of_decide_eq_true (by assumption)
               obtain ⟨ad675, e675, hx675_0, hx675_1, hx675_2, hx675_3⟩ := at_T54 (Kd.Zag HO_3.out).2.2 x14_2 p675 q675
               cases e675
               replace p675 := eq_true p675
               replace q675 := eq_true q675
               go_wp2_with (first | ((with_reducible refine Zbj (N := 15) rfl ?_); (try (refine gate_guard (by rfl) ?_; dsimp only)); refine Zbo ?hg (N := 15) ?hd (cs := #[.int .u16 0, .int .u8 0, .int .u8 0, .int .u32 0]) (t := 54) ?hr ?_; (case hd => rfl); (case hg => rfl); (case hr => first | (go_simp; done) | (go_simp; rfl)); intro gb676 hg w40 hbox hb; replace HO_3 := Za.mk (Kd.Zaq (Kd.Zbp (by (with_reducible repeat (first | apply Kd.Zs | apply Kd.Zt | apply Kd.Zr)); exact HO_3.out) gb676 (Nat.le_of_eq hg.symm)) hb); replace HO_11 := Za.mk (Kd.Zaq (by (with_reducible repeat (first | apply Kd.Zs | apply Kd.Zt | apply Kd.Zr)); exact HO_11.out) hb); replace HO_12 := Za.mk (Kd.Zaq (Kd.Zbp (by (with_reducible repeat (first | apply Kd.Zs | apply Kd.Zt | apply Kd.Zr)); exact HO_12.out) gb676 (Nat.le_of_eq hg.symm)) hb); have BK676 := Za.mk (hbox); have GW676 := Za.mk ((by rw [hg]; exact (Zas (by repeat (first | (with_reducible first | exact HB.out | apply Ze | apply Zf | apply Zd) | exact HB.out))) : w.heap.size ≤ gb676)); have GE676 := Za.mk ((by rw [hg]; exact (Zas (by repeat (first | (with_reducible first | exact HB.out | apply Ze | apply Zf | apply Zd) | exact HB.out))) : w.heap.size ≤ gb676)); replace HB := Za.mk (Zai (by repeat (first | (with_reducible first | exact HB.out | apply Ze | apply Zf | apply Zd) | exact HB.out)) hb); clear hb hbox hg; have hcz41_0 : w40.cell? ⟨gb676, 0, none⟩ = some (.int .u16 0) := (Zg BK676.out 0).trans rfl; have hcz41_1 : w40.cell? ⟨gb676, 1, none⟩ = some (.int .u8 0) := (Zg BK676.out 1).trans rfl; have hcz41_2 : w40.cell? ⟨gb676, 2, none⟩ = some (.int .u8 0) := (Zg BK676.out 2).trans rfl; have hcz41_3 : w40.cell? ⟨gb676, 3, none⟩ = some (.int .u32 0) := (Zg BK676.out 3).trans rfl; have hfz41_0 := Zl BK676.out 0; have hfz41_1 := Zl BK676.out 1; have hfz41_2 := Zl BK676.out 2; have hfz41_3 := Zl BK676.out 3; obtain ⟨Ao42, co42, eo42⟩ := Kd.Zbf HO_12.out; subst eo42; have p677 : 0 ≤ (x14_2 : Int) := of_decide_eq_true (by assumption); have q677 : x14_2 < (t671.length : Int) := of_decide_eq_true (by assumption); obtain ⟨ad677, e677, hx677_0, hx677_1, hx677_2, hx677_3⟩ := at_T54 (Kd.Zag HO_12.out).2.2 x14_2 p677 q677; cases e677; have hn677_0 : ad677.block ≠ gb676 := (by first | exact Kd.Zaz (Kd.R_ne HO_12.out BK676.out (by decide)) | exact Kd.Zaz (Kd.R_away HO_12.out (fun _ hk => hk.2))); have hn677_1 : ad677.block ≠ gb676 := (by first | exact Kd.Zaz (Kd.R_ne HO_12.out BK676.out (by decide)) | exact Kd.Zaz (Kd.R_away HO_12.out (fun _ hk => hk.2))); have hn677_2 : ad677.block ≠ gb676 := (by first | exact Kd.Zaz (Kd.R_ne HO_12.out BK676.out (by decide)) | exact Kd.Zaz (Kd.R_away HO_12.out (fun _ hk => hk.2))); have hn677_3 : ad677.block ≠ gb676 := (by first | exact Kd.Zaz (Kd.R_ne HO_12.out BK676.out (by decide)) | exact Kd.Zaz (Kd.R_away HO_12.out (fun _ hk => hk.2))); replace hx677_0 := (cell_far (p := ⟨gb676, 0, none⟩) (by first | (rw [add_block]; exact hn677_0) | (show (Addr.add _ _).block ≠ _; rw [add_block]; exact hn677_0) | exact hn677_0) (.int .u16 ((Zb t651 x14_2).f0))).trans hx677_0; replace hx677_1 := (cell_far (p := ⟨gb676, 0, none⟩) (by first | (rw [add_block]; exact hn677_0) | (show (Addr.add _ _).block ≠ _; rw [add_block]; exact hn677_0) | exact hn677_0) (.int .u16 ((Zb t651 x14_2).f0))).trans hx677_1; replace hx677_2 := (cell_far (p := ⟨gb676, 0, none⟩) (by first | (rw [add_block]; exact hn677_0) | (show (Addr.add _ _).block ≠ _; rw [add_block]; exact hn677_0) | exact hn677_0) (.int .u16 ((Zb t651 x14_2).f0))).trans hx677_2; replace hx677_3 := (cell_far (p := ⟨gb676, 0, none⟩) (by first | (rw [add_block]; exact hn677_0) | (show (Addr.add _ _).block ≠ _; rw [add_block]; exact hn677_0) | exact hn677_0) (.int .u16 ((Zb t651 x14_2).f0))).trans hx677_3; replace hx677_0 := (cell_far (p := ⟨gb676, 1, none⟩) (by first | (rw [add_block]; exact hn677_1) | (show (Addr.add _ _).block ≠ _; rw [add_block]; exact hn677_1) | exact hn677_1) (.int .u8 ((Zb t651 x14_2).f1))).trans hx677_0; replace hx677_1 := (cell_far (p := ⟨gb676, 1, none⟩) (by first | (rw [add_block]; exact hn677_1) | (show (Addr.add _ _).block ≠ _; rw [add_block]; exact hn677_1) | exact hn677_1) (.int .u8 ((Zb t651 x14_2).f1))).trans hx677_1; replace hx677_2 := (cell_far (p := ⟨gb676, 1, none⟩) (by first | (rw [add_block]; exact hn677_1) | (show (Addr.add _ _).block ≠ _; rw [add_block]; exact hn677_1) | exact hn677_1) (.int .u8 ((Zb t651 x14_2).f1))).trans hx677_2; replace hx677_3 := (cell_far (p := ⟨gb676, 1, none⟩) (by first | (rw [add_block]; exact hn677_1) | (show (Addr.add _ _).block ≠ _; rw [add_block]; exact hn677_1) | exact hn677_1) (.int .u8 ((Zb t651 x14_2).f1))).trans hx677_3; replace hx677_0 := (cell_far (p := ⟨gb676, 2, none⟩) (by first | (rw [add_block]; exact hn677_2) | (show (Addr.add _ _).block ≠ _; rw [add_block]; exact hn677_2) | exact hn677_2) (.int .u8 ((Zb t651 x14_2).f2))).trans hx677_0; replace hx677_1 := (cell_far (p := ⟨gb676, 2, none⟩) (by first | (rw [add_block]; exact hn677_2) | (show (Addr.add _ _).block ≠ _; rw [add_block]; exact hn677_2) | exact hn677_2) (.int .u8 ((Zb t651 x14_2).f2))).trans hx677_1; replace hx677_2 := (cell_far (p := ⟨gb676, 2, none⟩) (by first | (rw [add_block]; exact hn677_2) | (show (Addr.add _ _).block ≠ _; rw [add_block]; exact hn677_2) | exact hn677_2) (.int .u8 ((Zb t651 x14_2).f2))).trans hx677_2; replace hx677_3 := (cell_far (p := ⟨gb676, 2, none⟩) (by first | (rw [add_block]; exact hn677_2) | (show (Addr.add _ _).block ≠ _; rw [add_block]; exact hn677_2) | exact hn677_2) (.int .u8 ((Zb t651 x14_2).f2))).trans hx677_3; replace hx677_0 := (cell_far (p := ⟨gb676, 3, none⟩) (by first | (rw [add_block]; exact hn677_3) | (show (Addr.add _ _).block ≠ _; rw [add_block]; exact hn677_3) | exact hn677_3) (.int .u32 ((Zb t651 x14_2).f3))).trans hx677_0; replace hx677_1 := (cell_far (p := ⟨gb676, 3, none⟩) (by first | (rw [add_block]; exact hn677_3) | (show (Addr.add _ _).block ≠ _; rw [add_block]; exact hn677_3) | exact hn677_3) (.int .u32 ((Zb t651 x14_2).f3))).trans hx677_1; replace hx677_2 := (cell_far (p := ⟨gb676, 3, none⟩) (by first | (rw [add_block]; exact hn677_3) | (show (Addr.add _ _).block ≠ _; rw [add_block]; exact hn677_3) | exact hn677_3) (.int .u32 ((Zb t651 x14_2).f3))).trans hx677_2; replace hx677_3 := (cell_far (p := ⟨gb676, 3, none⟩) (by first | (rw [add_block]; exact hn677_3) | (show (Addr.add _ _).block ≠ _; rw [add_block]; exact hn677_3) | exact hn677_3) (.int .u32 ((Zb t651 x14_2).f3))).trans hx677_3; clear hn677_0; clear hn677_1; clear hn677_2; clear hn677_3; replace p677 := eq_true p677; replace q677 := eq_true q677) | ((with_reducible refine Zbj (N := 16) rfl ?_); (try (refine gate_guard (by rfl) ?_; dsimp only)); refine Zbo ?hg (N := 16) ?hd (cs := #[.int .u16 0, .int .u8 0, .int .u8 0, .int .u32 0]) (t := 54) ?hr ?_; (case hd => rfl); (case hg => rfl); (case hr => first | (go_simp; done) | (go_simp; rfl)); intro gb678 hg w43 hbox hb; replace HO_3 := Za.mk (Kd.Zaq (Kd.Zbp (by (with_reducible repeat (first | apply Kd.Zs | apply Kd.Zt | apply Kd.Zr)); exact (Kd.Zah (Kd.Zad (p := ⟨gb676, 3, none⟩) (Kd.Zad (p := ⟨gb676, 2, none⟩) (Kd.Zad (p := ⟨gb676, 1, none⟩) (Kd.Zad (p := ⟨gb676, 0, none⟩) (Kd.Zah HO_3.out (fun k_ hk => (⟨hk, hk.2⟩ : _ ∧ k_ ≠ gb676))) (fun _ hk => hk.2) (.int .u16 ((Zb t651 x14_2).f0))) (fun _ hk => hk.2) (.int .u8 ((Zb t651 x14_2).f1))) (fun _ hk => hk.2) (.int .u8 ((Zb t651 x14_2).f2))) (fun _ hk => hk.2) (.int .u32 ((Zb t651 x14_2).f3))) (fun _ h_ => h_.1))) gb678 (Nat.le_of_eq hg.symm)) hb); replace HO_11 := Za.mk (Kd.Zaq (by (with_reducible repeat (first | apply Kd.Zs | apply Kd.Zt | apply Kd.Zr)); exact (Kd.Zah (Kd.Zad (p := ⟨gb676, 3, none⟩) (Kd.Zad (p := ⟨gb676, 2, none⟩) (Kd.Zad (p := ⟨gb676, 1, none⟩) (Kd.Zad (p := ⟨gb676, 0, none⟩) (Kd.R_types HO_11.out BK676.out (by decide)) (fun _ hk => hk.2) (.int .u16 ((Zb t651 x14_2).f0))) (fun _ hk => hk.2) (.int .u8 ((Zb t651 x14_2).f1))) (fun _ hk => hk.2) (.int .u8 ((Zb t651 x14_2).f2))) (fun _ hk => hk.2) (.int .u32 ((Zb t651 x14_2).f3))) (fun _ h_ => h_.1))) hb); replace HO_12 := Za.mk (Kd.Zaq (Kd.Zbp (by (with_reducible repeat (first | apply Kd.Zs | apply Kd.Zt | apply Kd.Zr)); exact (Kd.Zah (Kd.Zad (p := ⟨gb676, 3, none⟩) (Kd.Zad (p := ⟨gb676, 2, none⟩) (Kd.Zad (p := ⟨gb676, 1, none⟩) (Kd.Zad (p := ⟨gb676, 0, none⟩) (Kd.Zah HO_12.out (fun k_ hk => (⟨hk, hk.2⟩ : _ ∧ k_ ≠ gb676))) (fun _ hk => hk.2) (.int .u16 ((Zb t651 x14_2).f0))) (fun _ hk => hk.2) (.int .u8 ((Zb t651 x14_2).f1))) (fun _ hk => hk.2) (.int .u8 ((Zb t651 x14_2).f2))) (fun _ hk => hk.2) (.int .u32 ((Zb t651 x14_2).f3))) (fun _ h_ => h_.1))) gb678 (Nat.le_of_eq hg.symm)) hb); have BK678 := Za.mk (hbox); have GW678 := Za.mk ((by rw [hg]; exact (Zas (by repeat (first | (with_reducible first | exact HB.out | apply Ze | apply Zf | apply Zd | refine Zk ?_ GE676.out) | exact HB.out))) : w.heap.size ≤ gb678)); have GE678 := Za.mk ((by rw [hg]; exact (Zas (by repeat (first | (with_reducible first | exact HB.out | apply Ze | apply Zf | apply Zd | refine Zk ?_ GE676.out) | exact HB.out))) : w.heap.size ≤ gb678)); replace HB := Za.mk (Zai (by repeat (first | (with_reducible first | exact HB.out | apply Ze | apply Zf | apply Zd | refine Zk ?_ GE676.out) | exact HB.out)) hb); have NB676_678 := Za.mk ((by rw [hg]; exact Nat.ne_of_lt (blk_lt (g := gb676) (o := .cells #[.int .u16 ((Zb t651 x14_2).f0), .int .u8 ((Zb t651 x14_2).f1), .int .u8 ((Zb t651 x14_2).f2), .int .u32 ((Zb t651 x14_2).f3)] 54 (0, 0)) (by (with_reducible repeat (first | refine Zj ?_ _ | refine Zh ?_ | refine Zi ?_ _)); refine Zu (cs := #[.int .u16 ((Zb t651 x14_2).f0), .int .u8 ((Zb t651 x14_2).f1), .int .u8 ((Zb t651 x14_2).f2), .int .u32 0]) ?_ 3 _ rfl; (with_reducible repeat (first | refine Zj ?_ _ | refine Zh ?_ | refine Zi ?_ _)); refine Zu (cs := #[.int .u16 ((Zb t651 x14_2).f0), .int .u8 ((Zb t651 x14_2).f1), .int .u8 0, .int .u32 0]) ?_ 2 _ rfl; (with_reducible repeat (first | refine Zj ?_ _ | refine Zh ?_ | refine Zi ?_ _)); refine Zu (cs := #[.int .u16 ((Zb t651 x14_2).f0), .int .u8 0, .int .u8 0, .int .u32 0]) ?_ 1 _ rfl; (with_reducible repeat (first | refine Zj ?_ _ | refine Zh ?_ | refine Zi ?_ _)); refine Zu (cs := #[.int .u16 0, .int .u8 0, .int .u8 0, .int .u32 0]) ?_ 0 _ rfl; (with_reducible repeat (first | refine Zj ?_ _ | refine Zh ?_ | refine Zi ?_ _)); exact BK676.out)) : gb676 ≠ gb678)); have NB678_676 := Za.mk ((by rw [hg]; exact Nat.ne_of_gt (blk_lt (g := gb676) (o := .cells #[.int .u16 ((Zb t651 x14_2).f0), .int .u8 ((Zb t651 x14_2).f1), .int .u8 ((Zb t651 x14_2).f2), .int .u32 ((Zb t651 x14_2).f3)] 54 (0, 0)) (by (with_reducible repeat (first | refine Zj ?_ _ | refine Zh ?_ | refine Zi ?_ _)); refine Zu (cs := #[.int .u16 ((Zb t651 x14_2).f0), .int .u8 ((Zb t651 x14_2).f1), .int .u8 ((Zb t651 x14_2).f2), .int .u32 0]) ?_ 3 _ rfl; (with_reducible repeat (first | refine Zj ?_ _ | refine Zh ?_ | refine Zi ?_ _)); refine Zu (cs := #[.int .u16 ((Zb t651 x14_2).f0), .int .u8 ((Zb t651 x14_2).f1), .int .u8 0, .int .u32 0]) ?_ 2 _ rfl; (with_reducible repeat (first | refine Zj ?_ _ | refine Zh ?_ | refine Zi ?_ _)); refine Zu (cs := #[.int .u16 ((Zb t651 x14_2).f0), .int .u8 0, .int .u8 0, .int .u32 0]) ?_ 1 _ rfl; (with_reducible repeat (first | refine Zj ?_ _ | refine Zh ?_ | refine Zi ?_ _)); refine Zu (cs := #[.int .u16 0, .int .u8 0, .int .u8 0, .int .u32 0]) ?_ 0 _ rfl; (with_reducible repeat (first | refine Zj ?_ _ | refine Zh ?_ | refine Zi ?_ _)); exact BK676.out)) : gb678 ≠ gb676)); replace BK676 := Za.mk (Zbd (g := gb676) (o := .cells #[.int .u16 ((Zb t651 x14_2).f0), .int .u8 ((Zb t651 x14_2).f1), .int .u8 ((Zb t651 x14_2).f2), .int .u32 ((Zb t651 x14_2).f3)] 54 (0, 0)) (by (with_reducible repeat (first | refine Zj ?_ _ | refine Zh ?_ | refine Zi ?_ _)); refine Zu (cs := #[.int .u16 ((Zb t651 x14_2).f0), .int .u8 ((Zb t651 x14_2).f1), .int .u8 ((Zb t651 x14_2).f2), .int .u32 0]) ?_ 3 _ rfl; (with_reducible repeat (first | refine Zj ?_ _ | refine Zh ?_ | refine Zi ?_ _)); refine Zu (cs := #[.int .u16 ((Zb t651 x14_2).f0), .int .u8 ((Zb t651 x14_2).f1), .int .u8 0, .int .u32 0]) ?_ 2 _ rfl; (with_reducible repeat (first | refine Zj ?_ _ | refine Zh ?_ | refine Zi ?_ _)); refine Zu (cs := #[.int .u16 ((Zb t651 x14_2).f0), .int .u8 0, .int .u8 0, .int .u32 0]) ?_ 1 _ rfl; (with_reducible repeat (first | refine Zj ?_ _ | refine Zh ?_ | refine Zi ?_ _)); refine Zu (cs := #[.int .u16 0, .int .u8 0, .int .u8 0, .int .u32 0]) ?_ 0 _ rfl; (with_reducible repeat (first | refine Zj ?_ _ | refine Zh ?_ | refine Zi ?_ _)); exact BK676.out) hb); clear hb hbox hg; have hnb44 := NB678_676.out; have hnc44 := NB676_678.out; have hcz45_0 : w43.cell? ⟨gb678, 0, none⟩ = some (.int .u16 0) := (Zg BK678.out 0).trans rfl; have hcz45_1 : w43.cell? ⟨gb678, 1, none⟩ = some (.int .u8 0) := (Zg BK678.out 1).trans rfl; have hcz45_2 : w43.cell? ⟨gb678, 2, none⟩ = some (.int .u8 0) := (Zg BK678.out 2).trans rfl; have hcz45_3 : w43.cell? ⟨gb678, 3, none⟩ = some (.int .u32 0) := (Zg BK678.out 3).trans rfl; have hfz45_0 := Zl BK678.out 0; have hfz45_1 := Zl BK678.out 1; have hfz45_2 := Zl BK678.out 2; have hfz45_3 := Zl BK678.out 3; have hcz46_0 : w43.cell? ⟨gb676, 0, none⟩ = some (.int .u16 ((Zb t651 x14_2).f0)) := (Zg BK676.out 0).trans rfl; have hcz46_1 : w43.cell? ⟨gb676, 1, none⟩ = some (.int .u8 ((Zb t651 x14_2).f1)) := (Zg BK676.out 1).trans rfl; have hcz46_2 : w43.cell? ⟨gb676, 2, none⟩ = some (.int .u8 ((Zb t651 x14_2).f2)) := (Zg BK676.out 2).trans rfl; have hcz46_3 : w43.cell? ⟨gb676, 3, none⟩ = some (.int .u32 ((Zb t651 x14_2).f3)) := (Zg BK676.out 3).trans rfl; have hfz46_0 := Zl BK676.out 0; have hfz46_1 := Zl BK676.out 1; have hfz46_2 := Zl BK676.out 2; have hfz46_3 := Zl BK676.out 3))
               go_ret
               exact ⟨by first | rfl | (simp [Zo, Zp] <;> rfl) | (simp [*, Zo, Zp] <;> rfl), by repeat (first | (with_reducible first | exact HB.out | apply Ze | apply Zf | apply Zd | refine Zk ?_ GE676.out | refine Zk ?_ GE678.out) | exact HB.out)⟩
             ·rw [if_neg c31] at H
              have c31b0 : (((Zb t651 x14_2).f2) == ((Zb t671 x14_2).f2)) = false := beq_eq_false_iff_ne.mpr c31
              have c31b1 : (((Zb t651 x14_2).f2) != ((Zb t671 x14_2).f2)) = true := bne_iff_ne.mpr c31
              obtain rfl := Option.some.inj H
              have p675 : 0 ≤ (x14_2 : Int) := of_decide_eq_true (by assumption)
              have q675 : x14_2 < (t651.length : Int) := of_decide_eq_true (by assumption)
              obtain ⟨ad675, e675, hx675_0, hx675_1, hx675_2, hx675_3⟩ := at_T54 (Kd.Zag HO_3.out).2.2 x14_2 p675 q675
              cases e675
              replace p675 := eq_true p675
              replace q675 := eq_true q675
              go_wp2_with (first | ((with_reducible refine Zbj (N := 15) rfl ?_); (try (refine gate_guard (by rfl) ?_; dsimp only)); refine Zbo ?hg (N := 15) ?hd (cs := #[.int .u16 0, .int .u8 0, .int .u8 0, .int .u32 0]) (t := 54) ?hr ?_; (case hd => rfl); (case hg => rfl); (case hr => first | (go_simp; done) | (go_simp; rfl)); intro gb676 hg w47 hbox hb; replace HO_3 := Za.mk (Kd.Zaq (Kd.Zbp (by (with_reducible repeat (first | apply Kd.Zs | apply Kd.Zt | apply Kd.Zr)); exact HO_3.out) gb676 (Nat.le_of_eq hg.symm)) hb); replace HO_11 := Za.mk (Kd.Zaq (by (with_reducible repeat (first | apply Kd.Zs | apply Kd.Zt | apply Kd.Zr)); exact HO_11.out) hb); replace HO_12 := Za.mk (Kd.Zaq (Kd.Zbp (by (with_reducible repeat (first | apply Kd.Zs | apply Kd.Zt | apply Kd.Zr)); exact HO_12.out) gb676 (Nat.le_of_eq hg.symm)) hb); have BK676 := Za.mk (hbox); have GW676 := Za.mk ((by rw [hg]; exact (Zas (by repeat (first | (with_reducible first | exact HB.out | apply Ze | apply Zf | apply Zd) | exact HB.out))) : w.heap.size ≤ gb676)); have GE676 := Za.mk ((by rw [hg]; exact (Zas (by repeat (first | (with_reducible first | exact HB.out | apply Ze | apply Zf | apply Zd) | exact HB.out))) : w.heap.size ≤ gb676)); replace HB := Za.mk (Zai (by repeat (first | (with_reducible first | exact HB.out | apply Ze | apply Zf | apply Zd) | exact HB.out)) hb); clear hb hbox hg; have hcz48_0 : w47.cell? ⟨gb676, 0, none⟩ = some (.int .u16 0) := (Zg BK676.out 0).trans rfl; have hcz48_1 : w47.cell? ⟨gb676, 1, none⟩ = some (.int .u8 0) := (Zg BK676.out 1).trans rfl; have hcz48_2 : w47.cell? ⟨gb676, 2, none⟩ = some (.int .u8 0) := (Zg BK676.out 2).trans rfl; have hcz48_3 : w47.cell? ⟨gb676, 3, none⟩ = some (.int .u32 0) := (Zg BK676.out 3).trans rfl; have hfz48_0 := Zl BK676.out 0; have hfz48_1 := Zl BK676.out 1; have hfz48_2 := Zl BK676.out 2; have hfz48_3 := Zl BK676.out 3; obtain ⟨Ao49, co49, eo49⟩ := Kd.Zbf HO_12.out; subst eo49; have p677 : 0 ≤ (x14_2 : Int) := of_decide_eq_true (by assumption); have q677 : x14_2 < (t671.length : Int) := of_decide_eq_true (by assumption); obtain ⟨ad677, e677, hx677_0, hx677_1, hx677_2, hx677_3⟩ := at_T54 (Kd.Zag HO_12.out).2.2 x14_2 p677 q677; cases e677; have hn677_0 : ad677.block ≠ gb676 := (by first | exact Kd.Zaz (Kd.R_ne HO_12.out BK676.out (by decide)) | exact Kd.Zaz (Kd.R_away HO_12.out (fun _ hk => hk.2))); have hn677_1 : ad677.block ≠ gb676 := (by first | exact Kd.Zaz (Kd.R_ne HO_12.out BK676.out (by decide)) | exact Kd.Zaz (Kd.R_away HO_12.out (fun _ hk => hk.2))); have hn677_2 : ad677.block ≠ gb676 := (by first | exact Kd.Zaz (Kd.R_ne HO_12.out BK676.out (by decide)) | exact Kd.Zaz (Kd.R_away HO_12.out (fun _ hk => hk.2))); have hn677_3 : ad677.block ≠ gb676 := (by first | exact Kd.Zaz (Kd.R_ne HO_12.out BK676.out (by decide)) | exact Kd.Zaz (Kd.R_away HO_12.out (fun _ hk => hk.2))); replace hx677_0 := (cell_far (p := ⟨gb676, 0, none⟩) (by first | (rw [add_block]; exact hn677_0) | (show (Addr.add _ _).block ≠ _; rw [add_block]; exact hn677_0) | exact hn677_0) (.int .u16 ((Zb t651 x14_2).f0))).trans hx677_0; replace hx677_1 := (cell_far (p := ⟨gb676, 0, none⟩) (by first | (rw [add_block]; exact hn677_0) | (show (Addr.add _ _).block ≠ _; rw [add_block]; exact hn677_0) | exact hn677_0) (.int .u16 ((Zb t651 x14_2).f0))).trans hx677_1; replace hx677_2 := (cell_far (p := ⟨gb676, 0, none⟩) (by first | (rw [add_block]; exact hn677_0) | (show (Addr.add _ _).block ≠ _; rw [add_block]; exact hn677_0) | exact hn677_0) (.int .u16 ((Zb t651 x14_2).f0))).trans hx677_2; replace hx677_3 := (cell_far (p := ⟨gb676, 0, none⟩) (by first | (rw [add_block]; exact hn677_0) | (show (Addr.add _ _).block ≠ _; rw [add_block]; exact hn677_0) | exact hn677_0) (.int .u16 ((Zb t651 x14_2).f0))).trans hx677_3; replace hx677_0 := (cell_far (p := ⟨gb676, 1, none⟩) (by first | (rw [add_block]; exact hn677_1) | (show (Addr.add _ _).block ≠ _; rw [add_block]; exact hn677_1) | exact hn677_1) (.int .u8 ((Zb t651 x14_2).f1))).trans hx677_0; replace hx677_1 := (cell_far (p := ⟨gb676, 1, none⟩) (by first | (rw [add_block]; exact hn677_1) | (show (Addr.add _ _).block ≠ _; rw [add_block]; exact hn677_1) | exact hn677_1) (.int .u8 ((Zb t651 x14_2).f1))).trans hx677_1; replace hx677_2 := (cell_far (p := ⟨gb676, 1, none⟩) (by first | (rw [add_block]; exact hn677_1) | (show (Addr.add _ _).block ≠ _; rw [add_block]; exact hn677_1) | exact hn677_1) (.int .u8 ((Zb t651 x14_2).f1))).trans hx677_2; replace hx677_3 := (cell_far (p := ⟨gb676, 1, none⟩) (by first | (rw [add_block]; exact hn677_1) | (show (Addr.add _ _).block ≠ _; rw [add_block]; exact hn677_1) | exact hn677_1) (.int .u8 ((Zb t651 x14_2).f1))).trans hx677_3; replace hx677_0 := (cell_far (p := ⟨gb676, 2, none⟩) (by first | (rw [add_block]; exact hn677_2) | (show (Addr.add _ _).block ≠ _; rw [add_block]; exact hn677_2) | exact hn677_2) (.int .u8 ((Zb t651 x14_2).f2))).trans hx677_0; replace hx677_1 := (cell_far (p := ⟨gb676, 2, none⟩) (by first | (rw [add_block]; exact hn677_2) | (show (Addr.add _ _).block ≠ _; rw [add_block]; exact hn677_2) | exact hn677_2) (.int .u8 ((Zb t651 x14_2).f2))).trans hx677_1; replace hx677_2 := (cell_far (p := ⟨gb676, 2, none⟩) (by first | (rw [add_block]; exact hn677_2) | (show (Addr.add _ _).block ≠ _; rw [add_block]; exact hn677_2) | exact hn677_2) (.int .u8 ((Zb t651 x14_2).f2))).trans hx677_2; replace hx677_3 := (cell_far (p := ⟨gb676, 2, none⟩) (by first | (rw [add_block]; exact hn677_2) | (show (Addr.add _ _).block ≠ _; rw [add_block]; exact hn677_2) | exact hn677_2) (.int .u8 ((Zb t651 x14_2).f2))).trans hx677_3; replace hx677_0 := (cell_far (p := ⟨gb676, 3, none⟩) (by first | (rw [add_block]; exact hn677_3) | (show (Addr.add _ _).block ≠ _; rw [add_block]; exact hn677_3) | exact hn677_3) (.int .u32 ((Zb t651 x14_2).f3))).trans hx677_0; replace hx677_1 := (cell_far (p := ⟨gb676, 3, none⟩) (by first | (rw [add_block]; exact hn677_3) | (show (Addr.add _ _).block ≠ _; rw [add_block]; exact hn677_3) | exact hn677_3) (.int .u32 ((Zb t651 x14_2).f3))).trans hx677_1; replace hx677_2 := (cell_far (p := ⟨gb676, 3, none⟩) (by first | (rw [add_block]; exact hn677_3) | (show (Addr.add _ _).block ≠ _; rw [add_block]; exact hn677_3) | exact hn677_3) (.int .u32 ((Zb t651 x14_2).f3))).trans hx677_2; replace hx677_3 := (cell_far (p := ⟨gb676, 3, none⟩) (by first | (rw [add_block]; exact hn677_3) | (show (Addr.add _ _).block ≠ _; rw [add_block]; exact hn677_3) | exact hn677_3) (.int .u32 ((Zb t651 x14_2).f3))).trans hx677_3; clear hn677_0; clear hn677_1; clear hn677_2; clear hn677_3; replace p677 := eq_true p677; replace q677 := eq_true q677) | ((with_reducible refine Zbj (N := 16) rfl ?_); (try (refine gate_guard (by rfl) ?_; dsimp only)); refine Zbo ?hg (N := 16) ?hd (cs := #[.int .u16 0, .int .u8 0, .int .u8 0, .int .u32 0]) (t := 54) ?hr ?_; (case hd => rfl); (case hg => rfl); (case hr => first | (go_simp; done) | (go_simp; rfl)); intro gb678 hg w50 hbox hb; replace HO_3 := Za.mk (Kd.Zaq (Kd.Zbp (by (with_reducible repeat (first | apply Kd.Zs | apply Kd.Zt | apply Kd.Zr)); exact (Kd.Zah (Kd.Zad (p := ⟨gb676, 3, none⟩) (Kd.Zad (p := ⟨gb676, 2, none⟩) (Kd.Zad (p := ⟨gb676, 1, none⟩) (Kd.Zad (p := ⟨gb676, 0, none⟩) (Kd.Zah HO_3.out (fun k_ hk => (⟨hk, hk.2⟩ : _ ∧ k_ ≠ gb676))) (fun _ hk => hk.2) (.int .u16 ((Zb t651 x14_2).f0))) (fun _ hk => hk.2) (.int .u8 ((Zb t651 x14_2).f1))) (fun _ hk => hk.2) (.int .u8 ((Zb t651 x14_2).f2))) (fun _ hk => hk.2) (.int .u32 ((Zb t651 x14_2).f3))) (fun _ h_ => h_.1))) gb678 (Nat.le_of_eq hg.symm)) hb); replace HO_11 := Za.mk (Kd.Zaq (by (with_reducible repeat (first | apply Kd.Zs | apply Kd.Zt | apply Kd.Zr)); exact (Kd.Zah (Kd.Zad (p := ⟨gb676, 3, none⟩) (Kd.Zad (p := ⟨gb676, 2, none⟩) (Kd.Zad (p := ⟨gb676, 1, none⟩) (Kd.Zad (p := ⟨gb676, 0, none⟩) (Kd.R_types HO_11.out BK676.out (by decide)) (fun _ hk => hk.2) (.int .u16 ((Zb t651 x14_2).f0))) (fun _ hk => hk.2) (.int .u8 ((Zb t651 x14_2).f1))) (fun _ hk => hk.2) (.int .u8 ((Zb t651 x14_2).f2))) (fun _ hk => hk.2) (.int .u32 ((Zb t651 x14_2).f3))) (fun _ h_ => h_.1))) hb); replace HO_12 := Za.mk (Kd.Zaq (Kd.Zbp (by (with_reducible repeat (first | apply Kd.Zs | apply Kd.Zt | apply Kd.Zr)); exact (Kd.Zah (Kd.Zad (p := ⟨gb676, 3, none⟩) (Kd.Zad (p := ⟨gb676, 2, none⟩) (Kd.Zad (p := ⟨gb676, 1, none⟩) (Kd.Zad (p := ⟨gb676, 0, none⟩) (Kd.Zah HO_12.out (fun k_ hk => (⟨hk, hk.2⟩ : _ ∧ k_ ≠ gb676))) (fun _ hk => hk.2) (.int .u16 ((Zb t651 x14_2).f0))) (fun _ hk => hk.2) (.int .u8 ((Zb t651 x14_2).f1))) (fun _ hk => hk.2) (.int .u8 ((Zb t651 x14_2).f2))) (fun _ hk => hk.2) (.int .u32 ((Zb t651 x14_2).f3))) (fun _ h_ => h_.1))) gb678 (Nat.le_of_eq hg.symm)) hb); have BK678 := Za.mk (hbox); have GW678 := Za.mk ((by rw [hg]; exact (Zas (by repeat (first | (with_reducible first | exact HB.out | apply Ze | apply Zf | apply Zd | refine Zk ?_ GE676.out) | exact HB.out))) : w.heap.size ≤ gb678)); have GE678 := Za.mk ((by rw [hg]; exact (Zas (by repeat (first | (with_reducible first | exact HB.out | apply Ze | apply Zf | apply Zd | refine Zk ?_ GE676.out) | exact HB.out))) : w.heap.size ≤ gb678)); replace HB := Za.mk (Zai (by repeat (first | (with_reducible first | exact HB.out | apply Ze | apply Zf | apply Zd | refine Zk ?_ GE676.out) | exact HB.out)) hb); have NB676_678 := Za.mk ((by rw [hg]; exact Nat.ne_of_lt (blk_lt (g := gb676) (o := .cells #[.int .u16 ((Zb t651 x14_2).f0), .int .u8 ((Zb t651 x14_2).f1), .int .u8 ((Zb t651 x14_2).f2), .int .u32 ((Zb t651 x14_2).f3)] 54 (0, 0)) (by (with_reducible repeat (first | refine Zj ?_ _ | refine Zh ?_ | refine Zi ?_ _)); refine Zu (cs := #[.int .u16 ((Zb t651 x14_2).f0), .int .u8 ((Zb t651 x14_2).f1), .int .u8 ((Zb t651 x14_2).f2), .int .u32 0]) ?_ 3 _ rfl; (with_reducible repeat (first | refine Zj ?_ _ | refine Zh ?_ | refine Zi ?_ _)); refine Zu (cs := #[.int .u16 ((Zb t651 x14_2).f0), .int .u8 ((Zb t651 x14_2).f1), .int .u8 0, .int .u32 0]) ?_ 2 _ rfl; (with_reducible repeat (first | refine Zj ?_ _ | refine Zh ?_ | refine Zi ?_ _)); refine Zu (cs := #[.int .u16 ((Zb t651 x14_2).f0), .int .u8 0, .int .u8 0, .int .u32 0]) ?_ 1 _ rfl; (with_reducible repeat (first | refine Zj ?_ _ | refine Zh ?_ | refine Zi ?_ _)); refine Zu (cs := #[.int .u16 0, .int .u8 0, .int .u8 0, .int .u32 0]) ?_ 0 _ rfl; (with_reducible repeat (first | refine Zj ?_ _ | refine Zh ?_ | refine Zi ?_ _)); exact BK676.out)) : gb676 ≠ gb678)); have NB678_676 := Za.mk ((by rw [hg]; exact Nat.ne_of_gt (blk_lt (g := gb676) (o := .cells #[.int .u16 ((Zb t651 x14_2).f0), .int .u8 ((Zb t651 x14_2).f1), .int .u8 ((Zb t651 x14_2).f2), .int .u32 ((Zb t651 x14_2).f3)] 54 (0, 0)) (by (with_reducible repeat (first | refine Zj ?_ _ | refine Zh ?_ | refine Zi ?_ _)); refine Zu (cs := #[.int .u16 ((Zb t651 x14_2).f0), .int .u8 ((Zb t651 x14_2).f1), .int .u8 ((Zb t651 x14_2).f2), .int .u32 0]) ?_ 3 _ rfl; (with_reducible repeat (first | refine Zj ?_ _ | refine Zh ?_ | refine Zi ?_ _)); refine Zu (cs := #[.int .u16 ((Zb t651 x14_2).f0), .int .u8 ((Zb t651 x14_2).f1), .int .u8 0, .int .u32 0]) ?_ 2 _ rfl; (with_reducible repeat (first | refine Zj ?_ _ | refine Zh ?_ | refine Zi ?_ _)); refine Zu (cs := #[.int .u16 ((Zb t651 x14_2).f0), .int .u8 0, .int .u8 0, .int .u32 0]) ?_ 1 _ rfl; (with_reducible repeat (first | refine Zj ?_ _ | refine Zh ?_ | refine Zi ?_ _)); refine Zu (cs := #[.int .u16 0, .int .u8 0, .int .u8 0, .int .u32 0]) ?_ 0 _ rfl; (with_reducible repeat (first | refine Zj ?_ _ | refine Zh ?_ | refine Zi ?_ _)); exact BK676.out)) : gb678 ≠ gb676)); replace BK676 := Za.mk (Zbd (g := gb676) (o := .cells #[.int .u16 ((Zb t651 x14_2).f0), .int .u8 ((Zb t651 x14_2).f1), .int .u8 ((Zb t651 x14_2).f2), .int .u32 ((Zb t651 x14_2).f3)] 54 (0, 0)) (by (with_reducible repeat (first | refine Zj ?_ _ | refine Zh ?_ | refine Zi ?_ _)); refine Zu (cs := #[.int .u16 ((Zb t651 x14_2).f0), .int .u8 ((Zb t651 x14_2).f1), .int .u8 ((Zb t651 x14_2).f2), .int .u32 0]) ?_ 3 _ rfl; (with_reducible repeat (first | refine Zj ?_ _ | refine Zh ?_ | refine Zi ?_ _)); refine Zu (cs := #[.int .u16 ((Zb t651 x14_2).f0), .int .u8 ((Zb t651 x14_2).f1), .int .u8 0, .int .u32 0]) ?_ 2 _ rfl; (with_reducible repeat (first | refine Zj ?_ _ | refine Zh ?_ | refine Zi ?_ _)); refine Zu (cs := #[.int .u16 ((Zb t651 x14_2).f0), .int .u8 0, .int .u8 0, .int .u32 0]) ?_ 1 _ rfl; (with_reducible repeat (first | refine Zj ?_ _ | refine Zh ?_ | refine Zi ?_ _)); refine Zu (cs := #[.int .u16 0, .int .u8 0, .int .u8 0, .int .u32 0]) ?_ 0 _ rfl; (with_reducible repeat (first | refine Zj ?_ _ | refine Zh ?_ | refine Zi ?_ _)); exact BK676.out) hb); clear hb hbox hg; have hnb51 := NB678_676.out; have hnc51 := NB676_678.out; have hcz52_0 : w50.cell? ⟨gb678, 0, none⟩ = some (.int .u16 0) := (Zg BK678.out 0).trans rfl; have hcz52_1 : w50.cell? ⟨gb678, 1, none⟩ = some (.int .u8 0) := (Zg BK678.out 1).trans rfl; have hcz52_2 : w50.cell? ⟨gb678, 2, none⟩ = some (.int .u8 0) := (Zg BK678.out 2).trans rfl; have hcz52_3 : w50.cell? ⟨gb678, 3, none⟩ = some (.int .u32 0) := (Zg BK678.out 3).trans rfl; have hfz52_0 := Zl BK678.out 0; have hfz52_1 := Zl BK678.out 1; have hfz52_2 := Zl BK678.out 2; have hfz52_3 := Zl BK678.out 3; have hcz53_0 : w50.cell? ⟨gb676, 0, none⟩ = some (.int .u16 ((Zb t651 x14_2).f0)) := (Zg BK676.out 0).trans rfl; have hcz53_1 : w50.cell? ⟨gb676, 1, none⟩ = some (.int .u8 ((Zb t651 x14_2).f1)) := (Zg BK676.out 1).trans rfl; have hcz53_2 : w50.cell? ⟨gb676, 2, none⟩ = some (.int .u8 ((Zb t651 x14_2).f2)) := (Zg BK676.out 2).trans rfl; have hcz53_3 : w50.cell? ⟨gb676, 3, none⟩ = some (.int .u32 ((Zb t651 x14_2).f3)) := (Zg BK676.out 3).trans rfl; have hfz53_0 := Zl BK676.out 0; have hfz53_1 := Zl BK676.out 1; have hfz53_2 := Zl BK676.out 2; have hfz53_3 := Zl BK676.out 3))
              go_ret
              exact ⟨by first | rfl | (simp [Zo, Zp] <;> rfl) | (simp [*, Zo, Zp] <;> rfl), by repeat (first | (with_reducible first | exact HB.out | apply Ze | apply Zf | apply Zd | refine Zk ?_ GE676.out | refine Zk ?_ GE678.out) | exact HB.out)⟩
            ·rw [if_neg c30] at H
             have c30b0 : (((Zb t651 x14_2).f1) == ((Zb t671 x14_2).f1)) = false := beq_eq_false_iff_ne.mpr c30
             have c30b1 : (((Zb t651 x14_2).f1) != ((Zb t671 x14_2).f1)) = true := bne_iff_ne.mpr c30
             obtain rfl := Option.some.inj H
             have p675 : 0 ≤ (x14_2 : Int) := of_decide_eq_true (by assumption)
             have q675 : x14_2 < (t651.length : Int) := of_decide_eq_true (by assumption)
             obtain ⟨ad675, e675, hx675_0, hx675_1, hx675_2, hx675_3⟩ := at_T54 (Kd.Zag HO_3.out).2.2 x14_2 p675 q675
             cases e675
             replace p675 := eq_true p675
             replace q675 := eq_true q675
             go_wp2_with (first | ((with_reducible refine Zbj (N := 15) rfl ?_); (try (refine gate_guard (by rfl) ?_; dsimp only)); refine Zbo ?hg (N := 15) ?hd (cs := #[.int .u16 0, .int .u8 0, .int .u8 0, .int .u32 0]) (t := 54) ?hr ?_; (case hd => rfl); (case hg => rfl); (case hr => first | (go_simp; done) | (go_simp; rfl)); intro gb676 hg w54 hbox hb; replace HO_3 := Za.mk (Kd.Zaq (Kd.Zbp (by (with_reducible repeat (first | apply Kd.Zs | apply Kd.Zt | apply Kd.Zr)); exact HO_3.out) gb676 (Nat.le_of_eq hg.symm)) hb); replace HO_11 := Za.mk (Kd.Zaq (by (with_reducible repeat (first | apply Kd.Zs | apply Kd.Zt | apply Kd.Zr)); exact HO_11.out) hb); replace HO_12 := Za.mk (Kd.Zaq (Kd.Zbp (by (with_reducible repeat (first | apply Kd.Zs | apply Kd.Zt | apply Kd.Zr)); exact HO_12.out) gb676 (Nat.le_of_eq hg.symm)) hb); have BK676 := Za.mk (hbox); have GW676 := Za.mk ((by rw [hg]; exact (Zas (by repeat (first | (with_reducible first | exact HB.out | apply Ze | apply Zf | apply Zd) | exact HB.out))) : w.heap.size ≤ gb676)); have GE676 := Za.mk ((by rw [hg]; exact (Zas (by repeat (first | (with_reducible first | exact HB.out | apply Ze | apply Zf | apply Zd) | exact HB.out))) : w.heap.size ≤ gb676)); replace HB := Za.mk (Zai (by repeat (first | (with_reducible first | exact HB.out | apply Ze | apply Zf | apply Zd) | exact HB.out)) hb); clear hb hbox hg; have hcz55_0 : w54.cell? ⟨gb676, 0, none⟩ = some (.int .u16 0) := (Zg BK676.out 0).trans rfl; have hcz55_1 : w54.cell? ⟨gb676, 1, none⟩ = some (.int .u8 0) := (Zg BK676.out 1).trans rfl; have hcz55_2 : w54.cell? ⟨gb676, 2, none⟩ = some (.int .u8 0) := (Zg BK676.out 2).trans rfl; have hcz55_3 : w54.cell? ⟨gb676, 3, none⟩ = some (.int .u32 0) := (Zg BK676.out 3).trans rfl; have hfz55_0 := Zl BK676.out 0; have hfz55_1 := Zl BK676.out 1; have hfz55_2 := Zl BK676.out 2; have hfz55_3 := Zl BK676.out 3; obtain ⟨Ao56, co56, eo56⟩ := Kd.Zbf HO_12.out; subst eo56; have p677 : 0 ≤ (x14_2 : Int) := of_decide_eq_true (by assumption); have q677 : x14_2 < (t671.length : Int) := of_decide_eq_true (by assumption); obtain ⟨ad677, e677, hx677_0, hx677_1, hx677_2, hx677_3⟩ := at_T54 (Kd.Zag HO_12.out).2.2 x14_2 p677 q677; cases e677; have hn677_0 : ad677.block ≠ gb676 := (by first | exact Kd.Zaz (Kd.R_ne HO_12.out BK676.out (by decide)) | exact Kd.Zaz (Kd.R_away HO_12.out (fun _ hk => hk.2))); have hn677_1 : ad677.block ≠ gb676 := (by first | exact Kd.Zaz (Kd.R_ne HO_12.out BK676.out (by decide)) | exact Kd.Zaz (Kd.R_away HO_12.out (fun _ hk => hk.2))); have hn677_2 : ad677.block ≠ gb676 := (by first | exact Kd.Zaz (Kd.R_ne HO_12.out BK676.out (by decide)) | exact Kd.Zaz (Kd.R_away HO_12.out (fun _ hk => hk.2))); have hn677_3 : ad677.block ≠ gb676 := (by first | exact Kd.Zaz (Kd.R_ne HO_12.out BK676.out (by decide)) | exact Kd.Zaz (Kd.R_away HO_12.out (fun _ hk => hk.2))); replace hx677_0 := (cell_far (p := ⟨gb676, 0, none⟩) (by first | (rw [add_block]; exact hn677_0) | (show (Addr.add _ _).block ≠ _; rw [add_block]; exact hn677_0) | exact hn677_0) (.int .u16 ((Zb t651 x14_2).f0))).trans hx677_0; replace hx677_1 := (cell_far (p := ⟨gb676, 0, none⟩) (by first | (rw [add_block]; exact hn677_0) | (show (Addr.add _ _).block ≠ _; rw [add_block]; exact hn677_0) | exact hn677_0) (.int .u16 ((Zb t651 x14_2).f0))).trans hx677_1; replace hx677_2 := (cell_far (p := ⟨gb676, 0, none⟩) (by first | (rw [add_block]; exact hn677_0) | (show (Addr.add _ _).block ≠ _; rw [add_block]; exact hn677_0) | exact hn677_0) (.int .u16 ((Zb t651 x14_2).f0))).trans hx677_2; replace hx677_3 := (cell_far (p := ⟨gb676, 0, none⟩) (by first | (rw [add_block]; exact hn677_0) | (show (Addr.add _ _).block ≠ _; rw [add_block]; exact hn677_0) | exact hn677_0) (.int .u16 ((Zb t651 x14_2).f0))).trans hx677_3; replace hx677_0 := (cell_far (p := ⟨gb676, 1, none⟩) (by first | (rw [add_block]; exact hn677_1) | (show (Addr.add _ _).block ≠ _; rw [add_block]; exact hn677_1) | exact hn677_1) (.int .u8 ((Zb t651 x14_2).f1))).trans hx677_0; replace hx677_1 := (cell_far (p := ⟨gb676, 1, none⟩) (by first | (rw [add_block]; exact hn677_1) | (show (Addr.add _ _).block ≠ _; rw [add_block]; exact hn677_1) | exact hn677_1) (.int .u8 ((Zb t651 x14_2).f1))).trans hx677_1; replace hx677_2 := (cell_far (p := ⟨gb676, 1, none⟩) (by first | (rw [add_block]; exact hn677_1) | (show (Addr.add _ _).block ≠ _; rw [add_block]; exact hn677_1) | exact hn677_1) (.int .u8 ((Zb t651 x14_2).f1))).trans hx677_2; replace hx677_3 := (cell_far (p := ⟨gb676, 1, none⟩) (by first | (rw [add_block]; exact hn677_1) | (show (Addr.add _ _).block ≠ _; rw [add_block]; exact hn677_1) | exact hn677_1) (.int .u8 ((Zb t651 x14_2).f1))).trans hx677_3; replace hx677_0 := (cell_far (p := ⟨gb676, 2, none⟩) (by first | (rw [add_block]; exact hn677_2) | (show (Addr.add _ _).block ≠ _; rw [add_block]; exact hn677_2) | exact hn677_2) (.int .u8 ((Zb t651 x14_2).f2))).trans hx677_0; replace hx677_1 := (cell_far (p := ⟨gb676, 2, none⟩) (by first | (rw [add_block]; exact hn677_2) | (show (Addr.add _ _).block ≠ _; rw [add_block]; exact hn677_2) | exact hn677_2) (.int .u8 ((Zb t651 x14_2).f2))).trans hx677_1; replace hx677_2 := (cell_far (p := ⟨gb676, 2, none⟩) (by first | (rw [add_block]; exact hn677_2) | (show (Addr.add _ _).block ≠ _; rw [add_block]; exact hn677_2) | exact hn677_2) (.int .u8 ((Zb t651 x14_2).f2))).trans hx677_2; replace hx677_3 := (cell_far (p := ⟨gb676, 2, none⟩) (by first | (rw [add_block]; exact hn677_2) | (show (Addr.add _ _).block ≠ _; rw [add_block]; exact hn677_2) | exact hn677_2) (.int .u8 ((Zb t651 x14_2).f2))).trans hx677_3; replace hx677_0 := (cell_far (p := ⟨gb676, 3, none⟩) (by first | (rw [add_block]; exact hn677_3) | (show (Addr.add _ _).block ≠ _; rw [add_block]; exact hn677_3) | exact hn677_3) (.int .u32 ((Zb t651 x14_2).f3))).trans hx677_0; replace hx677_1 := (cell_far (p := ⟨gb676, 3, none⟩) (by first | (rw [add_block]; exact hn677_3) | (show (Addr.add _ _).block ≠ _; rw [add_block]; exact hn677_3) | exact hn677_3) (.int .u32 ((Zb t651 x14_2).f3))).trans hx677_1; replace hx677_2 := (cell_far (p := ⟨gb676, 3, none⟩) (by first | (rw [add_block]; exact hn677_3) | (show (Addr.add _ _).block ≠ _; rw [add_block]; exact hn677_3) | exact hn677_3) (.int .u32 ((Zb t651 x14_2).f3))).trans hx677_2; replace hx677_3 := (cell_far (p := ⟨gb676, 3, none⟩) (by first | (rw [add_block]; exact hn677_3) | (show (Addr.add _ _).block ≠ _; rw [add_block]; exact hn677_3) | exact hn677_3) (.int .u32 ((Zb t651 x14_2).f3))).trans hx677_3; clear hn677_0; clear hn677_1; clear hn677_2; clear hn677_3; replace p677 := eq_true p677; replace q677 := eq_true q677) | ((with_reducible refine Zbj (N := 16) rfl ?_); (try (refine gate_guard (by rfl) ?_; dsimp only)); refine Zbo ?hg (N := 16) ?hd (cs := #[.int .u16 0, .int .u8 0, .int .u8 0, .int .u32 0]) (t := 54) ?hr ?_; (case hd => rfl); (case hg => rfl); (case hr => first | (go_simp; done) | (go_simp; rfl)); intro gb678 hg w57 hbox hb; replace HO_3 := Za.mk (Kd.Zaq (Kd.Zbp (by (with_reducible repeat (first | apply Kd.Zs | apply Kd.Zt | apply Kd.Zr)); exact (Kd.Zah (Kd.Zad (p := ⟨gb676, 3, none⟩) (Kd.Zad (p := ⟨gb676, 2, none⟩) (Kd.Zad (p := ⟨gb676, 1, none⟩) (Kd.Zad (p := ⟨gb676, 0, none⟩) (Kd.Zah HO_3.out (fun k_ hk => (⟨hk, hk.2⟩ : _ ∧ k_ ≠ gb676))) (fun _ hk => hk.2) (.int .u16 ((Zb t651 x14_2).f0))) (fun _ hk => hk.2) (.int .u8 ((Zb t651 x14_2).f1))) (fun _ hk => hk.2) (.int .u8 ((Zb t651 x14_2).f2))) (fun _ hk => hk.2) (.int .u32 ((Zb t651 x14_2).f3))) (fun _ h_ => h_.1))) gb678 (Nat.le_of_eq hg.symm)) hb); replace HO_11 := Za.mk (Kd.Zaq (by (with_reducible repeat (first | apply Kd.Zs | apply Kd.Zt | apply Kd.Zr)); exact (Kd.Zah (Kd.Zad (p := ⟨gb676, 3, none⟩) (Kd.Zad (p := ⟨gb676, 2, none⟩) (Kd.Zad (p := ⟨gb676, 1, none⟩) (Kd.Zad (p := ⟨gb676, 0, none⟩) (Kd.R_types HO_11.out BK676.out (by decide)) (fun _ hk => hk.2) (.int .u16 ((Zb t651 x14_2).f0))) (fun _ hk => hk.2) (.int .u8 ((Zb t651 x14_2).f1))) (fun _ hk => hk.2) (.int .u8 ((Zb t651 x14_2).f2))) (fun _ hk => hk.2) (.int .u32 ((Zb t651 x14_2).f3))) (fun _ h_ => h_.1))) hb); replace HO_12 := Za.mk (Kd.Zaq (Kd.Zbp (by (with_reducible repeat (first | apply Kd.Zs | apply Kd.Zt | apply Kd.Zr)); exact (Kd.Zah (Kd.Zad (p := ⟨gb676, 3, none⟩) (Kd.Zad (p := ⟨gb676, 2, none⟩) (Kd.Zad (p := ⟨gb676, 1, none⟩) (Kd.Zad (p := ⟨gb676, 0, none⟩) (Kd.Zah HO_12.out (fun k_ hk => (⟨hk, hk.2⟩ : _ ∧ k_ ≠ gb676))) (fun _ hk => hk.2) (.int .u16 ((Zb t651 x14_2).f0))) (fun _ hk => hk.2) (.int .u8 ((Zb t651 x14_2).f1))) (fun _ hk => hk.2) (.int .u8 ((Zb t651 x14_2).f2))) (fun _ hk => hk.2) (.int .u32 ((Zb t651 x14_2).f3))) (fun _ h_ => h_.1))) gb678 (Nat.le_of_eq hg.symm)) hb); have BK678 := Za.mk (hbox); have GW678 := Za.mk ((by rw [hg]; exact (Zas (by repeat (first | (with_reducible first | exact HB.out | apply Ze | apply Zf | apply Zd | refine Zk ?_ GE676.out) | exact HB.out))) : w.heap.size ≤ gb678)); have GE678 := Za.mk ((by rw [hg]; exact (Zas (by repeat (first | (with_reducible first | exact HB.out | apply Ze | apply Zf | apply Zd | refine Zk ?_ GE676.out) | exact HB.out))) : w.heap.size ≤ gb678)); replace HB := Za.mk (Zai (by repeat (first | (with_reducible first | exact HB.out | apply Ze | apply Zf | apply Zd | refine Zk ?_ GE676.out) | exact HB.out)) hb); have NB676_678 := Za.mk ((by rw [hg]; exact Nat.ne_of_lt (blk_lt (g := gb676) (o := .cells #[.int .u16 ((Zb t651 x14_2).f0), .int .u8 ((Zb t651 x14_2).f1), .int .u8 ((Zb t651 x14_2).f2), .int .u32 ((Zb t651 x14_2).f3)] 54 (0, 0)) (by (with_reducible repeat (first | refine Zj ?_ _ | refine Zh ?_ | refine Zi ?_ _)); refine Zu (cs := #[.int .u16 ((Zb t651 x14_2).f0), .int .u8 ((Zb t651 x14_2).f1), .int .u8 ((Zb t651 x14_2).f2), .int .u32 0]) ?_ 3 _ rfl; (with_reducible repeat (first | refine Zj ?_ _ | refine Zh ?_ | refine Zi ?_ _)); refine Zu (cs := #[.int .u16 ((Zb t651 x14_2).f0), .int .u8 ((Zb t651 x14_2).f1), .int .u8 0, .int .u32 0]) ?_ 2 _ rfl; (with_reducible repeat (first | refine Zj ?_ _ | refine Zh ?_ | refine Zi ?_ _)); refine Zu (cs := #[.int .u16 ((Zb t651 x14_2).f0), .int .u8 0, .int .u8 0, .int .u32 0]) ?_ 1 _ rfl; (with_reducible repeat (first | refine Zj ?_ _ | refine Zh ?_ | refine Zi ?_ _)); refine Zu (cs := #[.int .u16 0, .int .u8 0, .int .u8 0, .int .u32 0]) ?_ 0 _ rfl; (with_reducible repeat (first | refine Zj ?_ _ | refine Zh ?_ | refine Zi ?_ _)); exact BK676.out)) : gb676 ≠ gb678)); have NB678_676 := Za.mk ((by rw [hg]; exact Nat.ne_of_gt (blk_lt (g := gb676) (o := .cells #[.int .u16 ((Zb t651 x14_2).f0), .int .u8 ((Zb t651 x14_2).f1), .int .u8 ((Zb t651 x14_2).f2), .int .u32 ((Zb t651 x14_2).f3)] 54 (0, 0)) (by (with_reducible repeat (first | refine Zj ?_ _ | refine Zh ?_ | refine Zi ?_ _)); refine Zu (cs := #[.int .u16 ((Zb t651 x14_2).f0), .int .u8 ((Zb t651 x14_2).f1), .int .u8 ((Zb t651 x14_2).f2), .int .u32 0]) ?_ 3 _ rfl; (with_reducible repeat (first | refine Zj ?_ _ | refine Zh ?_ | refine Zi ?_ _)); refine Zu (cs := #[.int .u16 ((Zb t651 x14_2).f0), .int .u8 ((Zb t651 x14_2).f1), .int .u8 0, .int .u32 0]) ?_ 2 _ rfl; (with_reducible repeat (first | refine Zj ?_ _ | refine Zh ?_ | refine Zi ?_ _)); refine Zu (cs := #[.int .u16 ((Zb t651 x14_2).f0), .int .u8 0, .int .u8 0, .int .u32 0]) ?_ 1 _ rfl; (with_reducible repeat (first | refine Zj ?_ _ | refine Zh ?_ | refine Zi ?_ _)); refine Zu (cs := #[.int .u16 0, .int .u8 0, .int .u8 0, .int .u32 0]) ?_ 0 _ rfl; (with_reducible repeat (first | refine Zj ?_ _ | refine Zh ?_ | refine Zi ?_ _)); exact BK676.out)) : gb678 ≠ gb676)); replace BK676 := Za.mk (Zbd (g := gb676) (o := .cells #[.int .u16 ((Zb t651 x14_2).f0), .int .u8 ((Zb t651 x14_2).f1), .int .u8 ((Zb t651 x14_2).f2), .int .u32 ((Zb t651 x14_2).f3)] 54 (0, 0)) (by (with_reducible repeat (first | refine Zj ?_ _ | refine Zh ?_ | refine Zi ?_ _)); refine Zu (cs := #[.int .u16 ((Zb t651 x14_2).f0), .int .u8 ((Zb t651 x14_2).f1), .int .u8 ((Zb t651 x14_2).f2), .int .u32 0]) ?_ 3 _ rfl; (with_reducible repeat (first | refine Zj ?_ _ | refine Zh ?_ | refine Zi ?_ _)); refine Zu (cs := #[.int .u16 ((Zb t651 x14_2).f0), .int .u8 ((Zb t651 x14_2).f1), .int .u8 0, .int .u32 0]) ?_ 2 _ rfl; (with_reducible repeat (first | refine Zj ?_ _ | refine Zh ?_ | refine Zi ?_ _)); refine Zu (cs := #[.int .u16 ((Zb t651 x14_2).f0), .int .u8 0, .int .u8 0, .int .u32 0]) ?_ 1 _ rfl; (with_reducible repeat (first | refine Zj ?_ _ | refine Zh ?_ | refine Zi ?_ _)); refine Zu (cs := #[.int .u16 0, .int .u8 0, .int .u8 0, .int .u32 0]) ?_ 0 _ rfl; (with_reducible repeat (first | refine Zj ?_ _ | refine Zh ?_ | refine Zi ?_ _)); exact BK676.out) hb); clear hb hbox hg; have hnb58 := NB678_676.out; have hnc58 := NB676_678.out; have hcz59_0 : w57.cell? ⟨gb678, 0, none⟩ = some (.int .u16 0) := (Zg BK678.out 0).trans rfl; have hcz59_1 : w57.cell? ⟨gb678, 1, none⟩ = some (.int .u8 0) := (Zg BK678.out 1).trans rfl; have hcz59_2 : w57.cell? ⟨gb678, 2, none⟩ = some (.int .u8 0) := (Zg BK678.out 2).trans rfl; have hcz59_3 : w57.cell? ⟨gb678, 3, none⟩ = some (.int .u32 0) := (Zg BK678.out 3).trans rfl; have hfz59_0 := Zl BK678.out 0; have hfz59_1 := Zl BK678.out 1; have hfz59_2 := Zl BK678.out 2; have hfz59_3 := Zl BK678.out 3; have hcz60_0 : w57.cell? ⟨gb676, 0, none⟩ = some (.int .u16 ((Zb t651 x14_2).f0)) := (Zg BK676.out 0).trans rfl; have hcz60_1 : w57.cell? ⟨gb676, 1, none⟩ = some (.int .u8 ((Zb t651 x14_2).f1)) := (Zg BK676.out 1).trans rfl; have hcz60_2 : w57.cell? ⟨gb676, 2, none⟩ = some (.int .u8 ((Zb t651 x14_2).f2)) := (Zg BK676.out 2).trans rfl; have hcz60_3 : w57.cell? ⟨gb676, 3, none⟩ = some (.int .u32 ((Zb t651 x14_2).f3)) := (Zg BK676.out 3).trans rfl; have hfz60_0 := Zl BK676.out 0; have hfz60_1 := Zl BK676.out 1; have hfz60_2 := Zl BK676.out 2; have hfz60_3 := Zl BK676.out 3))
             go_ret
             exact ⟨by first | rfl | (simp [Zo, Zp] <;> rfl) | (simp [*, Zo, Zp] <;> rfl), by repeat (first | (with_reducible first | exact HB.out | apply Ze | apply Zf | apply Zd | refine Zk ?_ GE676.out | refine Zk ?_ GE678.out) | exact HB.out)⟩
           ·rw [if_neg c29] at H
            have c29b0 : (((Zb t651 x14_2).f0) == ((Zb t671 x14_2).f0)) = false := beq_eq_false_iff_ne.mpr c29
            have c29b1 : (((Zb t651 x14_2).f0) != ((Zb t671 x14_2).f0)) = true := bne_iff_ne.mpr c29
            obtain rfl := Option.some.inj H
            have p675 : 0 ≤ (x14_2 : Int) := of_decide_eq_true (by assumption)
            have q675 : x14_2 < (t651.length : Int) := of_decide_eq_true (by assumption)
            obtain ⟨ad675, e675, hx675_0, hx675_1, hx675_2, hx675_3⟩ := at_T54 (Kd.Zag HO_3.out).2.2 x14_2 p675 q675
            cases e675
            replace p675 := eq_true p675
            replace q675 := eq_true q675
            go_wp2_with (first | ((with_reducible refine Zbj (N := 15) rfl ?_); (try (refine gate_guard (by rfl) ?_; dsimp only)); refine Zbo ?hg (N := 15) ?hd (cs := #[.int .u16 0, .int .u8 0, .int .u8 0, .int .u32 0]) (t := 54) ?hr ?_; (case hd => rfl); (case hg => rfl); (case hr => first | (go_simp; done) | (go_simp; rfl)); intro gb676 hg w61 hbox hb; replace HO_3 := Za.mk (Kd.Zaq (Kd.Zbp (by (with_reducible repeat (first | apply Kd.Zs | apply Kd.Zt | apply Kd.Zr)); exact HO_3.out) gb676 (Nat.le_of_eq hg.symm)) hb); replace HO_11 := Za.mk (Kd.Zaq (by (with_reducible repeat (first | apply Kd.Zs | apply Kd.Zt | apply Kd.Zr)); exact HO_11.out) hb); replace HO_12 := Za.mk (Kd.Zaq (Kd.Zbp (by (with_reducible repeat (first | apply Kd.Zs | apply Kd.Zt | apply Kd.Zr)); exact HO_12.out) gb676 (Nat.le_of_eq hg.symm)) hb); have BK676 := Za.mk (hbox); have GW676 := Za.mk ((by rw [hg]; exact (Zas (by repeat (first | (with_reducible first | exact HB.out | apply Ze | apply Zf | apply Zd) | exact HB.out))) : w.heap.size ≤ gb676)); have GE676 := Za.mk ((by rw [hg]; exact (Zas (by repeat (first | (with_reducible first | exact HB.out | apply Ze | apply Zf | apply Zd) | exact HB.out))) : w.heap.size ≤ gb676)); replace HB := Za.mk (Zai (by repeat (first | (with_reducible first | exact HB.out | apply Ze | apply Zf | apply Zd) | exact HB.out)) hb); clear hb hbox hg; have hcz62_0 : w61.cell? ⟨gb676, 0, none⟩ = some (.int .u16 0) := (Zg BK676.out 0).trans rfl; have hcz62_1 : w61.cell? ⟨gb676, 1, none⟩ = some (.int .u8 0) := (Zg BK676.out 1).trans rfl; have hcz62_2 : w61.cell? ⟨gb676, 2, none⟩ = some (.int .u8 0) := (Zg BK676.out 2).trans rfl; have hcz62_3 : w61.cell? ⟨gb676, 3, none⟩ = some (.int .u32 0) := (Zg BK676.out 3).trans rfl; have hfz62_0 := Zl BK676.out 0; have hfz62_1 := Zl BK676.out 1; have hfz62_2 := Zl BK676.out 2; have hfz62_3 := Zl BK676.out 3; obtain ⟨Ao63, co63, eo63⟩ := Kd.Zbf HO_12.out; subst eo63; have p677 : 0 ≤ (x14_2 : Int) := of_decide_eq_true (by assumption); have q677 : x14_2 < (t671.length : Int) := of_decide_eq_true (by assumption); obtain ⟨ad677, e677, hx677_0, hx677_1, hx677_2, hx677_3⟩ := at_T54 (Kd.Zag HO_12.out).2.2 x14_2 p677 q677; cases e677; have hn677_0 : ad677.block ≠ gb676 := (by first | exact Kd.Zaz (Kd.R_ne HO_12.out BK676.out (by decide)) | exact Kd.Zaz (Kd.R_away HO_12.out (fun _ hk => hk.2))); have hn677_1 : ad677.block ≠ gb676 := (by first | exact Kd.Zaz (Kd.R_ne HO_12.out BK676.out (by decide)) | exact Kd.Zaz (Kd.R_away HO_12.out (fun _ hk => hk.2))); have hn677_2 : ad677.block ≠ gb676 := (by first | exact Kd.Zaz (Kd.R_ne HO_12.out BK676.out (by decide)) | exact Kd.Zaz (Kd.R_away HO_12.out (fun _ hk => hk.2))); have hn677_3 : ad677.block ≠ gb676 := (by first | exact Kd.Zaz (Kd.R_ne HO_12.out BK676.out (by decide)) | exact Kd.Zaz (Kd.R_away HO_12.out (fun _ hk => hk.2))); replace hx677_0 := (cell_far (p := ⟨gb676, 0, none⟩) (by first | (rw [add_block]; exact hn677_0) | (show (Addr.add _ _).block ≠ _; rw [add_block]; exact hn677_0) | exact hn677_0) (.int .u16 ((Zb t651 x14_2).f0))).trans hx677_0; replace hx677_1 := (cell_far (p := ⟨gb676, 0, none⟩) (by first | (rw [add_block]; exact hn677_0) | (show (Addr.add _ _).block ≠ _; rw [add_block]; exact hn677_0) | exact hn677_0) (.int .u16 ((Zb t651 x14_2).f0))).trans hx677_1; replace hx677_2 := (cell_far (p := ⟨gb676, 0, none⟩) (by first | (rw [add_block]; exact hn677_0) | (show (Addr.add _ _).block ≠ _; rw [add_block]; exact hn677_0) | exact hn677_0) (.int .u16 ((Zb t651 x14_2).f0))).trans hx677_2; replace hx677_3 := (cell_far (p := ⟨gb676, 0, none⟩) (by first | (rw [add_block]; exact hn677_0) | (show (Addr.add _ _).block ≠ _; rw [add_block]; exact hn677_0) | exact hn677_0) (.int .u16 ((Zb t651 x14_2).f0))).trans hx677_3; replace hx677_0 := (cell_far (p := ⟨gb676, 1, none⟩) (by first | (rw [add_block]; exact hn677_1) | (show (Addr.add _ _).block ≠ _; rw [add_block]; exact hn677_1) | exact hn677_1) (.int .u8 ((Zb t651 x14_2).f1))).trans hx677_0; replace hx677_1 := (cell_far (p := ⟨gb676, 1, none⟩) (by first | (rw [add_block]; exact hn677_1) | (show (Addr.add _ _).block ≠ _; rw [add_block]; exact hn677_1) | exact hn677_1) (.int .u8 ((Zb t651 x14_2).f1))).trans hx677_1; replace hx677_2 := (cell_far (p := ⟨gb676, 1, none⟩) (by first | (rw [add_block]; exact hn677_1) | (show (Addr.add _ _).block ≠ _; rw [add_block]; exact hn677_1) | exact hn677_1) (.int .u8 ((Zb t651 x14_2).f1))).trans hx677_2; replace hx677_3 := (cell_far (p := ⟨gb676, 1, none⟩) (by first | (rw [add_block]; exact hn677_1) | (show (Addr.add _ _).block ≠ _; rw [add_block]; exact hn677_1) | exact hn677_1) (.int .u8 ((Zb t651 x14_2).f1))).trans hx677_3; replace hx677_0 := (cell_far (p := ⟨gb676, 2, none⟩) (by first | (rw [add_block]; exact hn677_2) | (show (Addr.add _ _).block ≠ _; rw [add_block]; exact hn677_2) | exact hn677_2) (.int .u8 ((Zb t651 x14_2).f2))).trans hx677_0; replace hx677_1 := (cell_far (p := ⟨gb676, 2, none⟩) (by first | (rw [add_block]; exact hn677_2) | (show (Addr.add _ _).block ≠ _; rw [add_block]; exact hn677_2) | exact hn677_2) (.int .u8 ((Zb t651 x14_2).f2))).trans hx677_1; replace hx677_2 := (cell_far (p := ⟨gb676, 2, none⟩) (by first | (rw [add_block]; exact hn677_2) | (show (Addr.add _ _).block ≠ _; rw [add_block]; exact hn677_2) | exact hn677_2) (.int .u8 ((Zb t651 x14_2).f2))).trans hx677_2; replace hx677_3 := (cell_far (p := ⟨gb676, 2, none⟩) (by first | (rw [add_block]; exact hn677_2) | (show (Addr.add _ _).block ≠ _; rw [add_block]; exact hn677_2) | exact hn677_2) (.int .u8 ((Zb t651 x14_2).f2))).trans hx677_3; replace hx677_0 := (cell_far (p := ⟨gb676, 3, none⟩) (by first | (rw [add_block]; exact hn677_3) | (show (Addr.add _ _).block ≠ _; rw [add_block]; exact hn677_3) | exact hn677_3) (.int .u32 ((Zb t651 x14_2).f3))).trans hx677_0; replace hx677_1 := (cell_far (p := ⟨gb676, 3, none⟩) (by first | (rw [add_block]; exact hn677_3) | (show (Addr.add _ _).block ≠ _; rw [add_block]; exact hn677_3) | exact hn677_3) (.int .u32 ((Zb t651 x14_2).f3))).trans hx677_1; replace hx677_2 := (cell_far (p := ⟨gb676, 3, none⟩) (by first | (rw [add_block]; exact hn677_3) | (show (Addr.add _ _).block ≠ _; rw [add_block]; exact hn677_3) | exact hn677_3) (.int .u32 ((Zb t651 x14_2).f3))).trans hx677_2; replace hx677_3 := (cell_far (p := ⟨gb676, 3, none⟩) (by first | (rw [add_block]; exact hn677_3) | (show (Addr.add _ _).block ≠ _; rw [add_block]; exact hn677_3) | exact hn677_3) (.int .u32 ((Zb t651 x14_2).f3))).trans hx677_3; clear hn677_0; clear hn677_1; clear hn677_2; clear hn677_3; replace p677 := eq_true p677; replace q677 := eq_true q677) | ((with_reducible refine Zbj (N := 16) rfl ?_); (try (refine gate_guard (by rfl) ?_; dsimp only)); refine Zbo ?hg (N := 16) ?hd (cs := #[.int .u16 0, .int .u8 0, .int .u8 0, .int .u32 0]) (t := 54) ?hr ?_; (case hd => rfl); (case hg => rfl); (case hr => first | (go_simp; done) | (go_simp; rfl)); intro gb678 hg w64 hbox hb; replace HO_3 := Za.mk (Kd.Zaq (Kd.Zbp (by (with_reducible repeat (first | apply Kd.Zs | apply Kd.Zt | apply Kd.Zr)); exact (Kd.Zah (Kd.Zad (p := ⟨gb676, 3, none⟩) (Kd.Zad (p := ⟨gb676, 2, none⟩) (Kd.Zad (p := ⟨gb676, 1, none⟩) (Kd.Zad (p := ⟨gb676, 0, none⟩) (Kd.Zah HO_3.out (fun k_ hk => (⟨hk, hk.2⟩ : _ ∧ k_ ≠ gb676))) (fun _ hk => hk.2) (.int .u16 ((Zb t651 x14_2).f0))) (fun _ hk => hk.2) (.int .u8 ((Zb t651 x14_2).f1))) (fun _ hk => hk.2) (.int .u8 ((Zb t651 x14_2).f2))) (fun _ hk => hk.2) (.int .u32 ((Zb t651 x14_2).f3))) (fun _ h_ => h_.1))) gb678 (Nat.le_of_eq hg.symm)) hb); replace HO_11 := Za.mk (Kd.Zaq (by (with_reducible repeat (first | apply Kd.Zs | apply Kd.Zt | apply Kd.Zr)); exact (Kd.Zah (Kd.Zad (p := ⟨gb676, 3, none⟩) (Kd.Zad (p := ⟨gb676, 2, none⟩) (Kd.Zad (p := ⟨gb676, 1, none⟩) (Kd.Zad (p := ⟨gb676, 0, none⟩) (Kd.R_types HO_11.out BK676.out (by decide)) (fun _ hk => hk.2) (.int .u16 ((Zb t651 x14_2).f0))) (fun _ hk => hk.2) (.int .u8 ((Zb t651 x14_2).f1))) (fun _ hk => hk.2) (.int .u8 ((Zb t651 x14_2).f2))) (fun _ hk => hk.2) (.int .u32 ((Zb t651 x14_2).f3))) (fun _ h_ => h_.1))) hb); replace HO_12 := Za.mk (Kd.Zaq (Kd.Zbp (by (with_reducible repeat (first | apply Kd.Zs | apply Kd.Zt | apply Kd.Zr)); exact (Kd.Zah (Kd.Zad (p := ⟨gb676, 3, none⟩) (Kd.Zad (p := ⟨gb676, 2, none⟩) (Kd.Zad (p := ⟨gb676, 1, none⟩) (Kd.Zad (p := ⟨gb676, 0, none⟩) (Kd.Zah HO_12.out (fun k_ hk => (⟨hk, hk.2⟩ : _ ∧ k_ ≠ gb676))) (fun _ hk => hk.2) (.int .u16 ((Zb t651 x14_2).f0))) (fun _ hk => hk.2) (.int .u8 ((Zb t651 x14_2).f1))) (fun _ hk => hk.2) (.int .u8 ((Zb t651 x14_2).f2))) (fun _ hk => hk.2) (.int .u32 ((Zb t651 x14_2).f3))) (fun _ h_ => h_.1))) gb678 (Nat.le_of_eq hg.symm)) hb); have BK678 := Za.mk (hbox); have GW678 := Za.mk ((by rw [hg]; exact (Zas (by repeat (first | (with_reducible first | exact HB.out | apply Ze | apply Zf | apply Zd | refine Zk ?_ GE676.out) | exact HB.out))) : w.heap.size ≤ gb678)); have GE678 := Za.mk ((by rw [hg]; exact (Zas (by repeat (first | (with_reducible first | exact HB.out | apply Ze | apply Zf | apply Zd | refine Zk ?_ GE676.out) | exact HB.out))) : w.heap.size ≤ gb678)); replace HB := Za.mk (Zai (by repeat (first | (with_reducible first | exact HB.out | apply Ze | apply Zf | apply Zd | refine Zk ?_ GE676.out) | exact HB.out)) hb); have NB676_678 := Za.mk ((by rw [hg]; exact Nat.ne_of_lt (blk_lt (g := gb676) (o := .cells #[.int .u16 ((Zb t651 x14_2).f0), .int .u8 ((Zb t651 x14_2).f1), .int .u8 ((Zb t651 x14_2).f2), .int .u32 ((Zb t651 x14_2).f3)] 54 (0, 0)) (by (with_reducible repeat (first | refine Zj ?_ _ | refine Zh ?_ | refine Zi ?_ _)); refine Zu (cs := #[.int .u16 ((Zb t651 x14_2).f0), .int .u8 ((Zb t651 x14_2).f1), .int .u8 ((Zb t651 x14_2).f2), .int .u32 0]) ?_ 3 _ rfl; (with_reducible repeat (first | refine Zj ?_ _ | refine Zh ?_ | refine Zi ?_ _)); refine Zu (cs := #[.int .u16 ((Zb t651 x14_2).f0), .int .u8 ((Zb t651 x14_2).f1), .int .u8 0, .int .u32 0]) ?_ 2 _ rfl; (with_reducible repeat (first | refine Zj ?_ _ | refine Zh ?_ | refine Zi ?_ _)); refine Zu (cs := #[.int .u16 ((Zb t651 x14_2).f0), .int .u8 0, .int .u8 0, .int .u32 0]) ?_ 1 _ rfl; (with_reducible repeat (first | refine Zj ?_ _ | refine Zh ?_ | refine Zi ?_ _)); refine Zu (cs := #[.int .u16 0, .int .u8 0, .int .u8 0, .int .u32 0]) ?_ 0 _ rfl; (with_reducible repeat (first | refine Zj ?_ _ | refine Zh ?_ | refine Zi ?_ _)); exact BK676.out)) : gb676 ≠ gb678)); have NB678_676 := Za.mk ((by rw [hg]; exact Nat.ne_of_gt (blk_lt (g := gb676) (o := .cells #[.int .u16 ((Zb t651 x14_2).f0), .int .u8 ((Zb t651 x14_2).f1), .int .u8 ((Zb t651 x14_2).f2), .int .u32 ((Zb t651 x14_2).f3)] 54 (0, 0)) (by (with_reducible repeat (first | refine Zj ?_ _ | refine Zh ?_ | refine Zi ?_ _)); refine Zu (cs := #[.int .u16 ((Zb t651 x14_2).f0), .int .u8 ((Zb t651 x14_2).f1), .int .u8 ((Zb t651 x14_2).f2), .int .u32 0]) ?_ 3 _ rfl; (with_reducible repeat (first | refine Zj ?_ _ | refine Zh ?_ | refine Zi ?_ _)); refine Zu (cs := #[.int .u16 ((Zb t651 x14_2).f0), .int .u8 ((Zb t651 x14_2).f1), .int .u8 0, .int .u32 0]) ?_ 2 _ rfl; (with_reducible repeat (first | refine Zj ?_ _ | refine Zh ?_ | refine Zi ?_ _)); refine Zu (cs := #[.int .u16 ((Zb t651 x14_2).f0), .int .u8 0, .int .u8 0, .int .u32 0]) ?_ 1 _ rfl; (with_reducible repeat (first | refine Zj ?_ _ | refine Zh ?_ | refine Zi ?_ _)); refine Zu (cs := #[.int .u16 0, .int .u8 0, .int .u8 0, .int .u32 0]) ?_ 0 _ rfl; (with_reducible repeat (first | refine Zj ?_ _ | refine Zh ?_ | refine Zi ?_ _)); exact BK676.out)) : gb678 ≠ gb676)); replace BK676 := Za.mk (Zbd (g := gb676) (o := .cells #[.int .u16 ((Zb t651 x14_2).f0), .int .u8 ((Zb t651 x14_2).f1), .int .u8 ((Zb t651 x14_2).f2), .int .u32 ((Zb t651 x14_2).f3)] 54 (0, 0)) (by (with_reducible repeat (first | refine Zj ?_ _ | refine Zh ?_ | refine Zi ?_ _)); refine Zu (cs := #[.int .u16 ((Zb t651 x14_2).f0), .int .u8 ((Zb t651 x14_2).f1), .int .u8 ((Zb t651 x14_2).f2), .int .u32 0]) ?_ 3 _ rfl; (with_reducible repeat (first | refine Zj ?_ _ | refine Zh ?_ | refine Zi ?_ _)); refine Zu (cs := #[.int .u16 ((Zb t651 x14_2).f0), .int .u8 ((Zb t651 x14_2).f1), .int .u8 0, .int .u32 0]) ?_ 2 _ rfl; (with_reducible repeat (first | refine Zj ?_ _ | refine Zh ?_ | refine Zi ?_ _)); refine Zu (cs := #[.int .u16 ((Zb t651 x14_2).f0), .int .u8 0, .int .u8 0, .int .u32 0]) ?_ 1 _ rfl; (with_reducible repeat (first | refine Zj ?_ _ | refine Zh ?_ | refine Zi ?_ _)); refine Zu (cs := #[.int .u16 0, .int .u8 0, .int .u8 0, .int .u32 0]) ?_ 0 _ rfl; (with_reducible repeat (first | refine Zj ?_ _ | refine Zh ?_ | refine Zi ?_ _)); exact BK676.out) hb); clear hb hbox hg; have hnb65 := NB678_676.out; have hnc65 := NB676_678.out; have hcz66_0 : w64.cell? ⟨gb678, 0, none⟩ = some (.int .u16 0) := (Zg BK678.out 0).trans rfl; have hcz66_1 : w64.cell? ⟨gb678, 1, none⟩ = some (.int .u8 0) := (Zg BK678.out 1).trans rfl; have hcz66_2 : w64.cell? ⟨gb678, 2, none⟩ = some (.int .u8 0) := (Zg BK678.out 2).trans rfl; have hcz66_3 : w64.cell? ⟨gb678, 3, none⟩ = some (.int .u32 0) := (Zg BK678.out 3).trans rfl; have hfz66_0 := Zl BK678.out 0; have hfz66_1 := Zl BK678.out 1; have hfz66_2 := Zl BK678.out 2; have hfz66_3 := Zl BK678.out 3; have hcz67_0 : w64.cell? ⟨gb676, 0, none⟩ = some (.int .u16 ((Zb t651 x14_2).f0)) := (Zg BK676.out 0).trans rfl; have hcz67_1 : w64.cell? ⟨gb676, 1, none⟩ = some (.int .u8 ((Zb t651 x14_2).f1)) := (Zg BK676.out 1).trans rfl; have hcz67_2 : w64.cell? ⟨gb676, 2, none⟩ = some (.int .u8 ((Zb t651 x14_2).f2)) := (Zg BK676.out 2).trans rfl; have hcz67_3 : w64.cell? ⟨gb676, 3, none⟩ = some (.int .u32 ((Zb t651 x14_2).f3)) := (Zg BK676.out 3).trans rfl; have hfz67_0 := Zl BK676.out 0; have hfz67_1 := Zl BK676.out 1; have hfz67_2 := Zl BK676.out 2; have hfz67_3 := Zl BK676.out 3))
            go_ret
            exact ⟨by first | rfl | (simp [Zo, Zp] <;> rfl) | (simp [*, Zo, Zp] <;> rfl), by repeat (first | (with_reducible first | exact HB.out | apply Ze | apply Zf | apply Zd | refine Zk ?_ GE676.out | refine Zk ?_ GE678.out) | exact HB.out)⟩
          ·rw [if_neg c28] at H
           exact absurd H (by simp)
         ·rw [if_neg c27] at H
          exact absurd H (by simp)
        ·rw [if_neg c26] at H
         have c26b0 : decide (x14_2 < (t651.length : Int)) = false := decide_eq_false c26
         clear c26
         replace H := Option.bind_eq_some_iff.mp H
         obtain ⟨⟨t679, t680⟩, A680, H⟩ := H
         (try dsimp only at H)
         have A68 := Za.mk A680
         clear A680
         have HC69 := Za.mk H
         clear H
         obtain ⟨Ao70, co70, eo70⟩ := Kd.Zbf HO_12.out
         subst eo70
         go_upto_region 20 with (first | ((with_reducible refine Zaf (f := 28) rfl ?_); refine Zae (some 107) rfl rfl Try.func28 (by kernel_rfl) rfl #[.slice Ao70 t671.length co70] rfl (by (try simp only [ZA, ZB, ZC]); first | done | rfl) ?_; (with_reducible refine (Zbe.calls k2 _ _ t671 t679 t680 _ ?side1 ?side2 A68.out).mono ?_); (case side1 => repeat (first | exact (Kd.Zag HO_12.out).2.2 | (with_reducible refine Kd.Zam ?_ _) | (with_reducible refine Kd.Zao ?_ _) | (with_reducible refine Kd.Zan ?_))); (case side2 => exact (Kd.Zag HO_12.out).2.1); rintro e w71 ⟨rfl, hb⟩; refine ⟨_, rfl, ?_⟩; replace HO_3 := Za.mk (Kd.Zaq (by (with_reducible repeat (first | apply Kd.Zs | apply Kd.Zt | apply Kd.Zr)); exact HO_3.out) hb); replace HO_11 := Za.mk (Kd.Zaq (by (with_reducible repeat (first | apply Kd.Zs | apply Kd.Zt | apply Kd.Zr)); exact HO_11.out) hb); replace HO_12 := Za.mk (Kd.Zaq (by (with_reducible repeat (first | apply Kd.Zs | apply Kd.Zt | apply Kd.Zr)); exact HO_12.out) hb); replace HB := Za.mk (Zai (by repeat (first | (with_reducible first | exact HB.out | apply Ze | apply Zf | apply Zd) | exact HB.out)) hb); (try clear hb); (try clear hb2); (try clear hk); (try clear hi)))
         (try simp only [Act.put, ZD, ZE, ZF])
         go_cut [117] (fun v117 wc => ∃ (kq : Nat) (x117_68 : Bool), v117 = .bool x117_68 ∧ Za (Zbc.j2 kq t651 t659 t660 t661 t663 t671 x117_68 = some r) ∧ Za (kq ≤ k2) ∧ Za (Kd.R k54 54 wc w.heap.size (fun k_ => some k_ ≠ ((.slice Ao70 t671.length co70) : Value).ownBlock) (.slice Ao14 t651.length co14) t651) ∧ Za (Kd.R (Kd.int .u8) 5 wc w.heap.size (fun _ => True) v666 t663) ∧ Za (Kd.R k54 54 wc w.heap.size (fun k_ => some k_ ≠ ((.slice Ao14 t651.length co14) : Value).ownBlock) (.slice Ao70 t671.length co70) t671) ∧ Za (Below w.heap.size w wc))
         case first =>
          have H := HC69.out
          clear HC69
          by_cases c72 : t679 = t657
          ·rw [if_pos c72] at H
           have c72b0 : (t679 == t657) = true := beq_iff_eq.mpr c72
           have c72b1 : (t679 != t657) = false := bne_eq_false_iff_eq.mpr c72
           clear c72
           (first | rw [c72b0] | (simp only [Zn, Zq]; rw [c72b0]) | skip)
           have H' := Za.mk H
           clear H
           go_wp2
           go_meet
           case rel => exact ⟨_, ((t680 != t658)), (by first | rfl | (simp; done) | (simp [*]; done)), H', ⟨by have := HJ11.out; have := HK2.out; first | omega | exact Nat.le_refl _⟩, ⟨by (with_reducible repeat (first | apply Kd.Zs | apply Kd.Zt | apply Kd.Zr)); exact HO_3.out⟩, ⟨by (with_reducible repeat (first | apply Kd.Zs | apply Kd.Zt | apply Kd.Zr)); exact HO_11.out⟩, ⟨by (with_reducible repeat (first | apply Kd.Zs | apply Kd.Zt | apply Kd.Zr)); exact HO_12.out⟩, ⟨by repeat (first | (with_reducible first | exact HB.out | apply Ze | apply Zf | apply Zd) | exact HB.out)⟩⟩
          ·rw [if_neg c72] at H
           have c72b0 : (t679 == t657) = false := beq_eq_false_iff_ne.mpr c72
           have c72b1 : (t679 != t657) = true := bne_iff_ne.mpr c72
           (first | rw [c72b0] | (simp only [Zn, Zq]; rw [c72b0]) | skip)
           have H' := Za.mk H
           clear H
           go_wp2
           go_meet
           case rel => exact ⟨_, (true), (by first | rfl | (simp; done) | (simp [*]; done)), H', ⟨by have := HJ11.out; have := HK2.out; first | omega | exact Nat.le_refl _⟩, ⟨by (with_reducible repeat (first | apply Kd.Zs | apply Kd.Zt | apply Kd.Zr)); exact HO_3.out⟩, ⟨by (with_reducible repeat (first | apply Kd.Zs | apply Kd.Zt | apply Kd.Zr)); exact HO_11.out⟩, ⟨by (with_reducible repeat (first | apply Kd.Zs | apply Kd.Zt | apply Kd.Zr)); exact HO_12.out⟩, ⟨by repeat (first | (with_reducible first | exact HB.out | apply Ze | apply Zf | apply Zd) | exact HB.out)⟩⟩
         case rest =>
          clear HC69
          try clear c2
          try clear c2b0
          try clear c2b1
          try clear p2
          try clear c3
          try clear c4
          try clear c4b0
          try clear c4b1
          try clear c5
          try clear c6
          try clear p6
          try clear q6
          try clear hx6
          try clear c7
          try clear c9
          try clear c22
          try clear c23
          try clear c23b0
          try clear c23b1
          try clear c25
          try clear c26
          try clear c26b0
          try clear c27
          try clear c27b0
          try clear c28
          try clear c28b0
          try clear c29
          try clear c29b0
          try clear c29b1
          try clear c30
          try clear c30b0
          try clear c30b1
          try clear c31
          try clear c31b0
          try clear c31b1
          try clear c32
          try clear c32b0
          try clear c32b1
          try clear c37
          try clear c44
          try clear c51
          try clear c58
          try clear p64
          try clear c65
          try clear p67
          try clear q67
          try clear hx67
          try clear c72
          try clear c72b0
          try clear c72b1
          try clear hcz34_0
          try clear hcz34_1
          try clear hcz34_2
          try clear hcz34_3
          try clear hcz38_0
          try clear hcz38_1
          try clear hcz38_2
          try clear hcz38_3
          try clear hcz39_0
          try clear hcz39_1
          try clear hcz39_2
          try clear hcz39_3
          try clear hcz41_0
          try clear hcz41_1
          try clear hcz41_2
          try clear hcz41_3
          try clear hcz45_0
          try clear hcz45_1
          try clear hcz45_2
          try clear hcz45_3
          try clear hcz46_0
          try clear hcz46_1
          try clear hcz46_2
          try clear hcz46_3
          try clear hcz48_0
          try clear hcz48_1
          try clear hcz48_2
          try clear hcz48_3
          try clear hcz52_0
          try clear hcz52_1
          try clear hcz52_2
          try clear hcz52_3
          try clear hcz53_0
          try clear hcz53_1
          try clear hcz53_2
          try clear hcz53_3
          try clear hcz55_0
          try clear hcz55_1
          try clear hcz55_2
          try clear hcz55_3
          try clear hcz59_0
          try clear hcz59_1
          try clear hcz59_2
          try clear hcz59_3
          try clear hcz60_0
          try clear hcz60_1
          try clear hcz60_2
          try clear hcz60_3
          try clear hcz62_0
          try clear hcz62_1
          try clear hcz62_2
          try clear hcz62_3
          try clear hcz66_0
          try clear hcz66_1
          try clear hcz66_2
          try clear hcz66_3
          try clear hcz67_0
          try clear hcz67_1
          try clear hcz67_2
          try clear hcz67_3
          try clear hfz34_0
          try clear hfz34_1
          try clear hfz34_2
          try clear hfz34_3
          try clear hfz38_0
          try clear hfz38_1
          try clear hfz38_2
          try clear hfz38_3
          try clear hfz39_0
          try clear hfz39_1
          try clear hfz39_2
          try clear hfz39_3
          try clear hfz41_0
          try clear hfz41_1
          try clear hfz41_2
          try clear hfz41_3
          try clear hfz45_0
          try clear hfz45_1
          try clear hfz45_2
          try clear hfz45_3
          try clear hfz46_0
          try clear hfz46_1
          try clear hfz46_2
          try clear hfz46_3
          try clear hfz48_0
          try clear hfz48_1
          try clear hfz48_2
          try clear hfz48_3
          try clear hfz52_0
          try clear hfz52_1
          try clear hfz52_2
          try clear hfz52_3
          try clear hfz53_0
          try clear hfz53_1
          try clear hfz53_2
          try clear hfz53_3
          try clear hfz55_0
          try clear hfz55_1
          try clear hfz55_2
          try clear hfz55_3
          try clear hfz59_0
          try clear hfz59_1
          try clear hfz59_2
          try clear hfz59_3
          try clear hfz60_0
          try clear hfz60_1
          try clear hfz60_2
          try clear hfz60_3
          try clear hfz62_0
          try clear hfz62_1
          try clear hfz62_2
          try clear hfz62_3
          try clear hfz66_0
          try clear hfz66_1
          try clear hfz66_2
          try clear hfz66_3
          try clear hfz67_0
          try clear hfz67_1
          try clear hfz67_2
          try clear hfz67_3
          try clear hx675_0
          try clear hx675_1
          try clear hx675_2
          try clear hx675_3
          try clear hx677_0
          try clear hx677_1
          try clear hx677_2
          try clear hx677_3
          try clear p2
          try clear p675
          try clear p677
          try clear q675
          try clear q677
          obtain ⟨kq, x117_68, rfl, HA, HJ68, HO_3, HO_11, HO_12, HB⟩ := hcut
          cases kq with
          | zero => exact absurd HA.out (by simp [Zbc.j2])
          | succ kj68 =>
           have H := HA.out
           clear HA
           simp only [Zbc.j2] at H
           by_cases c73 : x117_68 = true
           ·subst c73
            have H1 : (some false) = some r := by rw [if_pos rfl] at H; exact H
            clear H
            have H := H1
            clear H1
            obtain rfl := Option.some.inj H
            go_wp2
            go_ret
            exact ⟨by first | rfl | (simp [Zo, Zp] <;> rfl) | (simp [*, Zo, Zp] <;> rfl), by repeat (first | (with_reducible first | exact HB.out | apply Ze | apply Zf | apply Zd) | exact HB.out)⟩
           ·replace c73 := Bool.eq_false_iff.mpr c73
            subst c73
            have H1 : ((impl_Run.f kj68 t671 t663).bind fun bt681 => (if bt681.2.2 = t661 then (if bt681.1 = t659 then (if bt681.2.1 = t660 then (if t661 = 0 then (if bt681.2.1 ≥ 1 then (some (decide (bt681.2.1 ≤ (t651.length : Int)))) else (some false)) else (some true)) else (some false)) else (some false)) else (some false))) = some r := by rw [if_neg (show ¬ (false = true) by decide)] at H; exact H
            clear H
            have H := H1
            clear H1
            replace H := Option.bind_eq_some_iff.mp H
            obtain ⟨⟨t681, t682, t683⟩, A740, H⟩ := H
            (try dsimp only at H)
            have A74 := Za.mk A740
            clear A740
            by_cases c75 : t683 = t661
            ·rw [if_pos c75] at H
             have c75b0 : (t683 == t661) = true := beq_iff_eq.mpr c75
             have c75b1 : (t683 != t661) = false := bne_eq_false_iff_eq.mpr c75
             clear c75
             by_cases c76 : t681 = t659
             ·rw [if_pos c76] at H
              have c76b0 : (t681 == t659) = true := beq_iff_eq.mpr c76
              have c76b1 : (t681 != t659) = false := bne_eq_false_iff_eq.mpr c76
              clear c76
              by_cases c77 : t682 = t660
              ·rw [if_pos c77] at H
               have c77b0 : (t682 == t660) = true := beq_iff_eq.mpr c77
               have c77b1 : (t682 != t660) = false := bne_eq_false_iff_eq.mpr c77
               clear c77
               by_cases c78 : t661 = 0
               ·rw [if_pos c78] at H
                have c78b0 : (t661 == 0) = true := beq_iff_eq.mpr c78
                have c78b1 : (t661 != 0) = false := bne_eq_false_iff_eq.mpr c78
                clear c78
                by_cases c79 : t682 ≥ 1
                ·rw [if_pos c79] at H
                 have c79b0 : decide (1 ≤ t682) = true := decide_eq_true c79
                 clear c79
                 obtain rfl := Option.some.inj H
                 obtain ⟨Ao80, co80, eo80⟩ := Kd.Zbf HO_11.out
                 subst eo80
                 go_wp2_with (first | ((with_reducible refine Zaf (f := 24) rfl ?_); refine Zae (some 121) rfl rfl Try.func24 (by kernel_rfl) rfl #[.slice Ao70 t671.length co70, .slice Ao80 t663.length co80] rfl (by (try simp only [ZA, ZB, ZC]); first | done | rfl) ?_; (with_reducible refine (impl_Run.calls kj68 _ _ t671 _ _ t663 t681 t682 t683 _ ?side1 ?side2 ?side3 ?side4 A74.out).mono ?_); (case side1 => repeat (first | exact (Kd.Zag HO_12.out).2.2 | (with_reducible refine Kd.Zam ?_ _) | (with_reducible refine Kd.Zao ?_ _) | (with_reducible refine Kd.Zan ?_))); (case side2 => exact (Kd.Zag HO_12.out).2.1); (case side3 => repeat (first | exact (Kd.Zag HO_11.out).2.2 | (with_reducible refine Kd.Zam ?_ _) | (with_reducible refine Kd.Zao ?_ _) | (with_reducible refine Kd.Zan ?_))); (case side4 => exact (Kd.Zag HO_11.out).2.1); rintro e w81 ⟨rfl, hb⟩; refine ⟨_, rfl, ?_⟩; replace HO_3 := Za.mk (Kd.Zaq (by (with_reducible repeat (first | apply Kd.Zs | apply Kd.Zt | apply Kd.Zr)); exact HO_3.out) hb); replace HO_11 := Za.mk (Kd.Zaq (by (with_reducible repeat (first | apply Kd.Zs | apply Kd.Zt | apply Kd.Zr)); exact HO_11.out) hb); replace HO_12 := Za.mk (Kd.Zaq (by (with_reducible repeat (first | apply Kd.Zs | apply Kd.Zt | apply Kd.Zr)); exact HO_12.out) hb); replace HB := Za.mk (Zai (by repeat (first | (with_reducible first | exact HB.out | apply Ze | apply Zf | apply Zd) | exact HB.out)) hb); (try clear hb); (try clear hb2); (try clear hk); (try clear hi)))
                 go_ret
                 exact ⟨by first | rfl | (simp [Zo, Zp] <;> rfl) | (simp [*, Zo, Zp] <;> rfl), by repeat (first | (with_reducible first | exact HB.out | apply Ze | apply Zf | apply Zd) | exact HB.out)⟩
                ·rw [if_neg c79] at H
                 have c79b0 : decide (1 ≤ t682) = false := decide_eq_false c79
                 clear c79
                 obtain rfl := Option.some.inj H
                 obtain ⟨Ao82, co82, eo82⟩ := Kd.Zbf HO_11.out
                 subst eo82
                 go_wp2_with (first | ((with_reducible refine Zaf (f := 24) rfl ?_); refine Zae (some 121) rfl rfl Try.func24 (by kernel_rfl) rfl #[.slice Ao70 t671.length co70, .slice Ao82 t663.length co82] rfl (by (try simp only [ZA, ZB, ZC]); first | done | rfl) ?_; (with_reducible refine (impl_Run.calls kj68 _ _ t671 _ _ t663 t681 t682 t683 _ ?side1 ?side2 ?side3 ?side4 A74.out).mono ?_); (case side1 => repeat (first | exact (Kd.Zag HO_12.out).2.2 | (with_reducible refine Kd.Zam ?_ _) | (with_reducible refine Kd.Zao ?_ _) | (with_reducible refine Kd.Zan ?_))); (case side2 => exact (Kd.Zag HO_12.out).2.1); (case side3 => repeat (first | exact (Kd.Zag HO_11.out).2.2 | (with_reducible refine Kd.Zam ?_ _) | (with_reducible refine Kd.Zao ?_ _) | (with_reducible refine Kd.Zan ?_))); (case side4 => exact (Kd.Zag HO_11.out).2.1); rintro e w83 ⟨rfl, hb⟩; refine ⟨_, rfl, ?_⟩; replace HO_3 := Za.mk (Kd.Zaq (by (with_reducible repeat (first | apply Kd.Zs | apply Kd.Zt | apply Kd.Zr)); exact HO_3.out) hb); replace HO_11 := Za.mk (Kd.Zaq (by (with_reducible repeat (first | apply Kd.Zs | apply Kd.Zt | apply Kd.Zr)); exact HO_11.out) hb); replace HO_12 := Za.mk (Kd.Zaq (by (with_reducible repeat (first | apply Kd.Zs | apply Kd.Zt | apply Kd.Zr)); exact HO_12.out) hb); replace HB := Za.mk (Zai (by repeat (first | (with_reducible first | exact HB.out | apply Ze | apply Zf | apply Zd) | exact HB.out)) hb); (try clear hb); (try clear hb2); (try clear hk); (try clear hi)))
                 go_ret
                 exact ⟨by first | rfl | (simp [Zo, Zp] <;> rfl) | (simp [*, Zo, Zp] <;> rfl), by repeat (first | (with_reducible first | exact HB.out | apply Ze | apply Zf | apply Zd) | exact HB.out)⟩
               ·rw [if_neg c78] at H
                have c78b0 : (t661 == 0) = false := beq_eq_false_iff_ne.mpr c78
                have c78b1 : (t661 != 0) = true := bne_iff_ne.mpr c78
                obtain rfl := Option.some.inj H
                obtain ⟨Ao84, co84, eo84⟩ := Kd.Zbf HO_11.out
                subst eo84
                go_wp2_with (first | ((with_reducible refine Zaf (f := 24) rfl ?_); refine Zae (some 121) rfl rfl Try.func24 (by kernel_rfl) rfl #[.slice Ao70 t671.length co70, .slice Ao84 t663.length co84] rfl (by (try simp only [ZA, ZB, ZC]); first | done | rfl) ?_; (with_reducible refine (impl_Run.calls kj68 _ _ t671 _ _ t663 t681 t682 t683 _ ?side1 ?side2 ?side3 ?side4 A74.out).mono ?_); (case side1 => repeat (first | exact (Kd.Zag HO_12.out).2.2 | (with_reducible refine Kd.Zam ?_ _) | (with_reducible refine Kd.Zao ?_ _) | (with_reducible refine Kd.Zan ?_))); (case side2 => exact (Kd.Zag HO_12.out).2.1); (case side3 => repeat (first | exact (Kd.Zag HO_11.out).2.2 | (with_reducible refine Kd.Zam ?_ _) | (with_reducible refine Kd.Zao ?_ _) | (with_reducible refine Kd.Zan ?_))); (case side4 => exact (Kd.Zag HO_11.out).2.1); rintro e w85 ⟨rfl, hb⟩; refine ⟨_, rfl, ?_⟩; replace HO_3 := Za.mk (Kd.Zaq (by (with_reducible repeat (first | apply Kd.Zs | apply Kd.Zt | apply Kd.Zr)); exact HO_3.out) hb); replace HO_11 := Za.mk (Kd.Zaq (by (with_reducible repeat (first | apply Kd.Zs | apply Kd.Zt | apply Kd.Zr)); exact HO_11.out) hb); replace HO_12 := Za.mk (Kd.Zaq (by (with_reducible repeat (first | apply Kd.Zs | apply Kd.Zt | apply Kd.Zr)); exact HO_12.out) hb); replace HB := Za.mk (Zai (by repeat (first | (with_reducible first | exact HB.out | apply Ze | apply Zf | apply Zd) | exact HB.out)) hb); (try clear hb); (try clear hb2); (try clear hk); (try clear hi)))
                go_ret
                exact ⟨by first | rfl | (simp [Zo, Zp] <;> rfl) | (simp [*, Zo, Zp] <;> rfl), by repeat (first | (with_reducible first | exact HB.out | apply Ze | apply Zf | apply Zd) | exact HB.out)⟩
              ·rw [if_neg c77] at H
               have c77b0 : (t682 == t660) = false := beq_eq_false_iff_ne.mpr c77
               have c77b1 : (t682 != t660) = true := bne_iff_ne.mpr c77
               obtain rfl := Option.some.inj H
               obtain ⟨Ao86, co86, eo86⟩ := Kd.Zbf HO_11.out
               subst eo86
               go_wp2_with (first | ((with_reducible refine Zaf (f := 24) rfl ?_); refine Zae (some 121) rfl rfl Try.func24 (by kernel_rfl) rfl #[.slice Ao70 t671.length co70, .slice Ao86 t663.length co86] rfl (by (try simp only [ZA, ZB, ZC]); first | done | rfl) ?_; (with_reducible refine (impl_Run.calls kj68 _ _ t671 _ _ t663 t681 t682 t683 _ ?side1 ?side2 ?side3 ?side4 A74.out).mono ?_); (case side1 => repeat (first | exact (Kd.Zag HO_12.out).2.2 | (with_reducible refine Kd.Zam ?_ _) | (with_reducible refine Kd.Zao ?_ _) | (with_reducible refine Kd.Zan ?_))); (case side2 => exact (Kd.Zag HO_12.out).2.1); (case side3 => repeat (first | exact (Kd.Zag HO_11.out).2.2 | (with_reducible refine Kd.Zam ?_ _) | (with_reducible refine Kd.Zao ?_ _) | (with_reducible refine Kd.Zan ?_))); (case side4 => exact (Kd.Zag HO_11.out).2.1); rintro e w87 ⟨rfl, hb⟩; refine ⟨_, rfl, ?_⟩; replace HO_3 := Za.mk (Kd.Zaq (by (with_reducible repeat (first | apply Kd.Zs | apply Kd.Zt | apply Kd.Zr)); exact HO_3.out) hb); replace HO_11 := Za.mk (Kd.Zaq (by (with_reducible repeat (first | apply Kd.Zs | apply Kd.Zt | apply Kd.Zr)); exact HO_11.out) hb); replace HO_12 := Za.mk (Kd.Zaq (by (with_reducible repeat (first | apply Kd.Zs | apply Kd.Zt | apply Kd.Zr)); exact HO_12.out) hb); replace HB := Za.mk (Zai (by repeat (first | (with_reducible first | exact HB.out | apply Ze | apply Zf | apply Zd) | exact HB.out)) hb); (try clear hb); (try clear hb2); (try clear hk); (try clear hi)))
               go_ret
               exact ⟨by first | rfl | (simp [Zo, Zp] <;> rfl) | (simp [*, Zo, Zp] <;> rfl), by repeat (first | (with_reducible first | exact HB.out | apply Ze | apply Zf | apply Zd) | exact HB.out)⟩
             ·rw [if_neg c76] at H
              have c76b0 : (t681 == t659) = false := beq_eq_false_iff_ne.mpr c76
              have c76b1 : (t681 != t659) = true := bne_iff_ne.mpr c76
              obtain rfl := Option.some.inj H
              obtain ⟨Ao88, co88, eo88⟩ := Kd.Zbf HO_11.out
              subst eo88
              go_wp2_with (first | ((with_reducible refine Zaf (f := 24) rfl ?_); refine Zae (some 121) rfl rfl Try.func24 (by kernel_rfl) rfl #[.slice Ao70 t671.length co70, .slice Ao88 t663.length co88] rfl (by (try simp only [ZA, ZB, ZC]); first | done | rfl) ?_; (with_reducible refine (impl_Run.calls kj68 _ _ t671 _ _ t663 t681 t682 t683 _ ?side1 ?side2 ?side3 ?side4 A74.out).mono ?_); (case side1 => repeat (first | exact (Kd.Zag HO_12.out).2.2 | (with_reducible refine Kd.Zam ?_ _) | (with_reducible refine Kd.Zao ?_ _) | (with_reducible refine Kd.Zan ?_))); (case side2 => exact (Kd.Zag HO_12.out).2.1); (case side3 => repeat (first | exact (Kd.Zag HO_11.out).2.2 | (with_reducible refine Kd.Zam ?_ _) | (with_reducible refine Kd.Zao ?_ _) | (with_reducible refine Kd.Zan ?_))); (case side4 => exact (Kd.Zag HO_11.out).2.1); rintro e w89 ⟨rfl, hb⟩; refine ⟨_, rfl, ?_⟩; replace HO_3 := Za.mk (Kd.Zaq (by (with_reducible repeat (first | apply Kd.Zs | apply Kd.Zt | apply Kd.Zr)); exact HO_3.out) hb); replace HO_11 := Za.mk (Kd.Zaq (by (with_reducible repeat (first | apply Kd.Zs | apply Kd.Zt | apply Kd.Zr)); exact HO_11.out) hb); replace HO_12 := Za.mk (Kd.Zaq (by (with_reducible repeat (first | apply Kd.Zs | apply Kd.Zt | apply Kd.Zr)); exact HO_12.out) hb); replace HB := Za.mk (Zai (by repeat (first | (with_reducible first | exact HB.out | apply Ze | apply Zf | apply Zd) | exact HB.out)) hb); (try clear hb); (try clear hb2); (try clear hk); (try clear hi)))
              go_ret
              exact ⟨by first | rfl | (simp [Zo, Zp] <;> rfl) | (simp [*, Zo, Zp] <;> rfl), by repeat (first | (with_reducible first | exact HB.out | apply Ze | apply Zf | apply Zd) | exact HB.out)⟩
            ·rw [if_neg c75] at H
             have c75b0 : (t683 == t661) = false := beq_eq_false_iff_ne.mpr c75
             have c75b1 : (t683 != t661) = true := bne_iff_ne.mpr c75
             obtain rfl := Option.some.inj H
             obtain ⟨Ao90, co90, eo90⟩ := Kd.Zbf HO_11.out
             subst eo90
             go_wp2_with (first | ((with_reducible refine Zaf (f := 24) rfl ?_); refine Zae (some 121) rfl rfl Try.func24 (by kernel_rfl) rfl #[.slice Ao70 t671.length co70, .slice Ao90 t663.length co90] rfl (by (try simp only [ZA, ZB, ZC]); first | done | rfl) ?_; (with_reducible refine (impl_Run.calls kj68 _ _ t671 _ _ t663 t681 t682 t683 _ ?side1 ?side2 ?side3 ?side4 A74.out).mono ?_); (case side1 => repeat (first | exact (Kd.Zag HO_12.out).2.2 | (with_reducible refine Kd.Zam ?_ _) | (with_reducible refine Kd.Zao ?_ _) | (with_reducible refine Kd.Zan ?_))); (case side2 => exact (Kd.Zag HO_12.out).2.1); (case side3 => repeat (first | exact (Kd.Zag HO_11.out).2.2 | (with_reducible refine Kd.Zam ?_ _) | (with_reducible refine Kd.Zao ?_ _) | (with_reducible refine Kd.Zan ?_))); (case side4 => exact (Kd.Zag HO_11.out).2.1); rintro e w91 ⟨rfl, hb⟩; refine ⟨_, rfl, ?_⟩; replace HO_3 := Za.mk (Kd.Zaq (by (with_reducible repeat (first | apply Kd.Zs | apply Kd.Zt | apply Kd.Zr)); exact HO_3.out) hb); replace HO_11 := Za.mk (Kd.Zaq (by (with_reducible repeat (first | apply Kd.Zs | apply Kd.Zt | apply Kd.Zr)); exact HO_11.out) hb); replace HO_12 := Za.mk (Kd.Zaq (by (with_reducible repeat (first | apply Kd.Zs | apply Kd.Zt | apply Kd.Zr)); exact HO_12.out) hb); replace HB := Za.mk (Zai (by repeat (first | (with_reducible first | exact HB.out | apply Ze | apply Zf | apply Zd) | exact HB.out)) hb); (try clear hb); (try clear hb2); (try clear hk); (try clear hi)))
             go_ret
             exact ⟨by first | rfl | (simp [Zo, Zp] <;> rfl) | (simp [*, Zo, Zp] <;> rfl), by repeat (first | (with_reducible first | exact HB.out | apply Ze | apply Zf | apply Zd) | exact HB.out)⟩

def Zbc.Pure : Prop := ∀ (l0 : List Int), l0.length ≤ maxLen → l0.length * 1 ≤ 140737488351232 → (∀ x ∈ l0, (Lit.int .u8 x).wf = true) → ∃ k, Zbc.f k l0 = some true
theorem Zbc.walk (P : Zbc.Pure) (a0 : Option Addr) (len0 cap0 : Nat) (z0 : List Int) (w : World) (w0 : (a0 = none ∧ len0 = 0 ∧ cap0 = 0 ∧ z0 = []) ∨ ∃ x, a0 = some x ∧ len0 ≤ cap0 ∧ cap0 ≤ maxLen ∧ z0.length = cap0 ∧ (∀ i, i < z0.length → w.cell? (x.add i) = some (.int .u8 (z0.getD i 0))) ∧ ∀ n ∈ z0, (Lit.int .u8 n).wf = true) (y0 : len0 * 1 ≤ 140737488351232) :
    Calls Try.prog 6 #[.slice a0 len0 cap0] w fun e w' => e = .returned (.bool true) ∧ Below w.heap.size w w' := by
  obtain ⟨l0, rfl, hr0, hm0, hw0, hc0⟩ := ReadsInt.ofRowC w0
  obtain ⟨k, h⟩ := P l0 hm0 y0 hw0
  refine (Zbc.calls k _ _ l0 true w (Kd.C_of_reads (d := (0 : Int)) (h1 := fun _ => rfl) hr0) hc0 h).mono ?_
  rintro e w' ⟨rfl, hd⟩
  exact ⟨rfl, hd⟩

end Go.Proofs.Ytgodbniphkfgfaa.P
