import Derived.Test.YtgodbniphkfgfaaGFnExactRun5
import Derived.Test.YtgodbniphkfgfaaGFnExactRun7
import Derived.Handy
import Derived.Deep.LoopGhost
import Derived.Deep.QuietTactic
import Derived.BigQuiet
import Derived.StillTailTactics
import Derived.Test.YtgodbniphkfgfaaGFnExactRun6
namespace Go.Proofs.Ytgodbniphkfgfaa.P
open Go.RowKit Go.Proofs.YtgodbniphkfgfaaW.PrintWords Go.Proofs.YtgodbniphkfgfaaW.PrintLast Go.Proofs.YtgodbniphkfgfaaW.PrintMore
set_option linter.unusedVariables false
set_option linter.unusedSimpArgs false

/-- The division: by nought it ends the run. -/
def divS (c k : Int) (s : St) : St := if (if c = 60 then s.x else k) = 0 then s else { s with a := s.a / (if c = 60 then s.x else k) }
def divE (c k : Int) (s : St) : Ending := if (if c = 60 then s.x else k) = 0 then .returned (.tuple #[.int .u32 2147483648, .bool true]) else goOn
set_option maxHeartbeats 40000000 in
set_option maxRecDepth 100000 in
theorem div_does (B g : Nat) (rv : Value) (s : St) (c j f k : Int) (hc : c = 52 ∨ c = 60) (hk : 0 ≤ k) (hx : 0 ≤ s.x) (ha : 0 ≤ s.a) (ha2 : s.a < 4294967296) (w : World) (hM : Mach w g rv s) (hB : B ≤ g) :
    Calls Try.prog 70 #[.pointer (some ⟨g, 0, none⟩), .agg #[.int .u16 c, .int .u8 j, .int .u8 f, .int .u32 k]] w (MPost B w g rv (divS c k s) (divE c k s)) := by
  have HM0 := Aside0.mk hM
  have HM := Aside0.mk (hM.alloc (.cells #[.int .u16 c, .int .u8 j, .int .u8 f, .int .u32 k] 54))
  have hca := HM.out.ca
  have hcaf := HM.out.fr 0
  have hcx := HM.out.cx
  have hlt := hM.lt
  have hne : w.heap.size ≠ g := by omega
  have hne2 : g ≠ w.heap.size := by omega
  have hend : ∀ v : Int, MPost B w g rv { s with a := v } goOn goOn ((w.setCell ⟨g, 0, none⟩ (.int .u32 v)).alloc (.cells #[.int .u16 c, .int .u8 j, .int .u8 f, .int .u32 k] 54)) := fun v =>
    ⟨rfl, Below.alloc (Below.setCell (Below.refl B w) hB _) (by simp [World.setCell]; omega) _, (HM0.out.set_a v).alloc _⟩
  have HE := Aside0.mk hend
  have HB0 := Aside0.mk (Below.alloc (Below.refl B w) (Nat.le_of_lt (Nat.lt_of_le_of_lt hB hM.lt)) (.cells #[.int .u16 c, .int .u8 j, .int .u8 f, .int .u32 k] 54))
  clear hM hend HM0
  rcases hc with rfl | rfl
  · by_cases h0 : k = 0
    · have e1 : divS 52 k s = s := by unfold divS; rw [if_neg (by decide : ¬ (52 : Int) = 60), if_pos h0]
      have e2 : divE 52 k s = .returned (.tuple #[.int .u32 2147483648, .bool true]) := by unfold divE; rw [if_neg (by decide : ¬ (52 : Int) = 60), if_pos h0]
      rw [e1, e2]
      have h0b : (k == 0) = true := beq_iff_eq.mpr h0
      clear h0 e1 e2
      go_enter Try.func70, Try.ntmps70
      go_wp2
      go_returns
      exact ⟨rfl, HB0.out, HM.out⟩
    · have e1 : divS 52 k s = { s with a := s.a / k } := by unfold divS; rw [if_neg (by decide : ¬ (52 : Int) = 60), if_neg h0]
      have e2 : divE 52 k s = goOn := by unfold divE; rw [if_neg (by decide : ¬ (52 : Int) = 60), if_neg h0]
      rw [e1, e2]
      have h0b : (k == 0) = false := beq_eq_false_iff_ne.mpr h0
      clear e1 e2
      go_enter Try.func70, Try.ntmps70
      go_wp2
      go_returns
      exact HE.out _
  · by_cases h0 : s.x = 0
    · have e1 : divS 60 k s = s := by unfold divS; rw [if_pos (rfl : (60 : Int) = 60), if_pos h0]
      have e2 : divE 60 k s = .returned (.tuple #[.int .u32 2147483648, .bool true]) := by unfold divE; rw [if_pos (rfl : (60 : Int) = 60), if_pos h0]
      rw [e1, e2]
      have h0b : (s.x == 0) = true := beq_iff_eq.mpr h0
      clear h0 e1 e2
      go_enter Try.func70, Try.ntmps70
      go_wp2
      go_returns
      exact ⟨rfl, HB0.out, HM.out⟩
    · have e1 : divS 60 k s = { s with a := s.a / s.x } := by unfold divS; rw [if_pos (rfl : (60 : Int) = 60), if_neg h0]
      have e2 : divE 60 k s = goOn := by unfold divE; rw [if_pos (rfl : (60 : Int) = 60), if_neg h0]
      rw [e1, e2]
      have h0b : (s.x == 0) = false := beq_eq_false_iff_ne.mpr h0
      clear e1 e2
      go_enter Try.func70, Try.ntmps70
      go_wp2
      go_returns
      exact HE.out _
set_option maxHeartbeats 40000000 in
set_option maxRecDepth 100000 in
theorem binbits_does (B g : Nat) (rv : Value) (s : St) (c j f k : Int) (hc : isBits c) (hk : 0 ≤ k) (hx : 0 ≤ s.x) (w : World) (hM : Mach w g rv s) (hB : B ≤ g) :
    Calls Try.prog 70 #[.pointer (some ⟨g, 0, none⟩), .agg #[.int .u16 c, .int .u8 j, .int .u8 f, .int .u32 k]] w (MPost B w g rv { s with a := bitsA c k s } goOn) := by
  have HM := Aside0.mk (hM.alloc (.cells #[.int .u16 c, .int .u8 j, .int .u8 f, .int .u32 k] 54))
  have hlt := hM.lt
  have hne : w.heap.size ≠ g := by omega
  have hne2 : g ≠ w.heap.size := by omega
  have HB0 := Aside0.mk (Below.alloc (Below.refl B w) (Nat.le_of_lt (Nat.lt_of_le_of_lt hB hM.lt)) (.cells #[.int .u16 c, .int .u8 j, .int .u8 f, .int .u32 k] 54))
  have HN := Aside0.mk (bits_does B g rv s c j f k hc hk hx _ HM.out hB)
  clear hM
  unfold isBits at hc
  rcases hc with rfl | rfl | rfl | rfl | rfl | rfl | rfl | rfl | rfl | rfl
  all_goals
    go_enter Try.func70, Try.ntmps70
    go_wp2_with (go_at_call 76; refine HN.out.mono ?_; rintro e w1 ⟨rfl, hb1, hm1⟩; have HB1 := Aside0.mk (HB0.out.trans hb1); have HM1 := Aside0.mk hm1; clear hb1 hm1)
    go_returns
    exact ⟨rfl, HB1.out, HM1.out⟩
set_option maxHeartbeats 40000000 in
set_option maxRecDepth 100000 in
theorem bintests_does (B g : Nat) (rv : Value) (s : St) (c j f k : Int) (hc : isTest c) (w : World) (hM : Mach w g rv s) (hB : B ≤ g) :
    Calls Try.prog 70 #[.pointer (some ⟨g, 0, none⟩), .agg #[.int .u16 c, .int .u8 j, .int .u8 f, .int .u32 k]] w (MPost B w g rv { s with p := wrap64 (s.p + wrap64 (if testB c k s = true then j else f)) } goOn) := by
  have HM := Aside0.mk (hM.alloc (.cells #[.int .u16 c, .int .u8 j, .int .u8 f, .int .u32 k] 54))
  have hlt := hM.lt
  have hne : w.heap.size ≠ g := by omega
  have hne2 : g ≠ w.heap.size := by omega
  have HB0 := Aside0.mk (Below.alloc (Below.refl B w) (Nat.le_of_lt (Nat.lt_of_le_of_lt hB hM.lt)) (.cells #[.int .u16 c, .int .u8 j, .int .u8 f, .int .u32 k] 54))
  have HN := Aside0.mk (tests_does B g rv s c j f k hc _ HM.out hB)
  clear hM
  obtain ⟨s2, hs2⟩ : ∃ s2 : St, { s with p := wrap64 (s.p + wrap64 (if testB c k s = true then j else f)) } = s2 := ⟨_, rfl⟩
  rw [hs2] at HN ⊢
  clear hs2
  unfold isTest at hc
  rcases hc with rfl | rfl | rfl | rfl | rfl | rfl | rfl | rfl
  all_goals
    go_enter Try.func70, Try.ntmps70
    go_wp2_with (go_at_call 76; refine HN.out.mono ?_; rintro e w1 ⟨rfl, hb1, hm1⟩; have HB1 := Aside0.mk (HB0.out.trans hb1); have HM1 := Aside0.mk hm1; clear hb1 hm1)
    go_returns
    exact ⟨rfl, HB1.out, HM1.out⟩

end Go.Proofs.Ytgodbniphkfgfaa.P

namespace Go.Proofs.Ytgodbniphkfgfaa.P
open Go.RowKit Go.Proofs.YtgodbniphkfgfaaW.PrintWords Go.Proofs.YtgodbniphkfgfaaW.PrintLast Go.Proofs.YtgodbniphkfgfaaW.PrintMore
set_option linter.unusedVariables false
set_option linter.unusedSimpArgs false

theorem below_drewNB {B : Nat} {a w : World} (h : Below B a w) (n : Nat) : Below B a (w.drewN n) := ⟨h.os, h.tape, h.output, h.size, h.block⟩
theorem Mach.drewN {W : World} {g : Nat} {rv : Value} {s : St} (h : Mach W g rv s) (n : Nat) : Mach (W.drewN n) g rv s := ⟨h.1, h.2⟩
def isMove (c : Int) : Prop := c = 0 ∨ c = 1 ∨ c = 132 ∨ c = 7 ∨ c = 135 ∨ c = 5
def moveS (c k : Int) (s : St) : St := match c with
  | 0 => { s with a := k }
  | 1 => { s with x := k }
  | 132 => { s with a := -s.a % 4294967296 }
  | 7 => { s with x := s.a }
  | 135 => { s with a := s.x }
  | _ => { s with p := wrap64 (s.p + wrap64 k) }
set_option maxHeartbeats 40000000 in
set_option maxRecDepth 100000 in
theorem moves_does (B g : Nat) (rv : Value) (s : St) (c j f k : Int) (hc : isMove c) (w : World) (hM : Mach w g rv s) (hB : B ≤ g) :
    Calls Try.prog 55 #[.pointer (some ⟨g, 0, none⟩), .agg #[.int .u16 c, .int .u8 j, .int .u8 f, .int .u32 k]] w (MPost B w g rv (moveS c k s) goOn) := by
  have HM0 := Aside0.mk hM
  have HM := Aside0.mk (hM.alloc (.cells #[.int .u16 c, .int .u8 j, .int .u8 f, .int .u32 k] 54))
  have hca := HM.out.ca
  have hcaf := HM.out.fr 0
  have hcx := HM.out.cx
  have hcxf := HM.out.fr 1
  have hcp := HM.out.cp
  have hcpf := HM.out.fr 19
  have hlt := hM.lt
  have hne : w.heap.size ≠ g := by omega
  have hne2 : g ≠ w.heap.size := by omega
  have HEa := Aside0.mk (fun v : Int => show MPost B w g rv { s with a := v } goOn goOn ((w.setCell ⟨g, 0, none⟩ (.int .u32 v)).alloc (.cells #[.int .u16 c, .int .u8 j, .int .u8 f, .int .u32 k] 54)) from
    ⟨rfl, Below.alloc (Below.setCell (Below.refl B w) hB _) (by simp [World.setCell]; omega) _, (HM0.out.set_a v).alloc _⟩)
  have HEx := Aside0.mk (fun v : Int => show MPost B w g rv { s with x := v } goOn goOn ((w.setCell ⟨g, 1, none⟩ (.int .u32 v)).alloc (.cells #[.int .u16 c, .int .u8 j, .int .u8 f, .int .u32 k] 54)) from
    ⟨rfl, Below.alloc (Below.setCell (Below.refl B w) hB _) (by simp [World.setCell]; omega) _, (HM0.out.set_x v).alloc _⟩)
  have HEp := Aside0.mk (fun v : Int => show MPost B w g rv { s with p := v } goOn goOn ((w.setCell ⟨g, 19, none⟩ (.int .i64 v)).alloc (.cells #[.int .u16 c, .int .u8 j, .int .u8 f, .int .u32 k] 54)) from
    ⟨rfl, Below.alloc (Below.setCell (Below.refl B w) hB _) (by simp [World.setCell]; omega) _, (HM0.out.set_p v).alloc _⟩)
  clear hM HM HM0
  unfold isMove at hc
  rcases hc with rfl | rfl | rfl | rfl | rfl | rfl
  all_goals
    go_enter Try.func55, Try.ntmps55
    go_wp2
    go_returns
    first | exact HEa.out _ | exact HEx.out _ | exact HEp.out _
set_option maxHeartbeats 40000000 in
set_option maxRecDepth 100000 in
theorem ends_does (B g : Nat) (rv : Value) (s : St) (c j f k : Int) (hc : c = 6 ∨ c = 22) (w : World) (hM : Mach w g rv s) (hB : B ≤ g) :
    Calls Try.prog 55 #[.pointer (some ⟨g, 0, none⟩), .agg #[.int .u16 c, .int .u8 j, .int .u8 f, .int .u32 k]] w (MPost B w g rv s (.returned (.tuple #[.int .u32 (if c = 6 then k else s.a), .bool true]))) := by
  have HM := Aside0.mk (hM.alloc (.cells #[.int .u16 c, .int .u8 j, .int .u8 f, .int .u32 k] 54))
  have hca := HM.out.ca
  have hlt := hM.lt
  have hne : w.heap.size ≠ g := by omega
  have hne2 : g ≠ w.heap.size := by omega
  have HB0 := Aside0.mk (Below.alloc (Below.refl B w) (Nat.le_of_lt (Nat.lt_of_le_of_lt hB hM.lt)) (.cells #[.int .u16 c, .int .u8 j, .int .u8 f, .int .u32 k] 54))
  clear hM
  obtain ⟨v, hv⟩ : ∃ v : Int, v = (if c = 6 then k else s.a) := ⟨_, rfl⟩
  rw [← hv]
  rcases hc with rfl | rfl
  · rw [if_pos rfl] at hv
    have HV := Aside0.mk hv
    clear hv
    go_enter Try.func55, Try.ntmps55
    go_wp2
    go_returns
    exact ⟨by rw [HV.out]; rfl, HB0.out, HM.out⟩
  · rw [if_neg (by decide)] at hv
    have HV := Aside0.mk hv
    clear hv
    go_enter Try.func55, Try.ntmps55
    go_wp2
    go_returns
    exact ⟨by rw [HV.out]; rfl, HB0.out, HM.out⟩
def memS (c : Int) (k : Nat) (s : St) : St := if c = 96 then { s with a := rd s.m (k : Int) } else { s with x := rd s.m (k : Int) }
def putS (c : Int) (k : Nat) (s : St) : St := { s with m := s.m.set k (if c = 2 then s.a else s.x) }
set_option maxHeartbeats 40000000 in
set_option maxRecDepth 100000 in
theorem mems_does (B g : Nat) (rv : Value) (s : St) (c j f : Int) (k : Nat) (hc : c = 96 ∨ c = 97) (hk : k < 16) (w : World) (hM : Mach w g rv s) (hB : B ≤ g) :
    Calls Try.prog 55 #[.pointer (some ⟨g, 0, none⟩), .agg #[.int .u16 c, .int .u8 j, .int .u8 f, .int .u32 (k : Int)]] w (MPost B w g rv (memS c k s) goOn) := by
  have HM0 := Aside0.mk hM
  have HM := Aside0.mk (hM.alloc (.cells #[.int .u16 c, .int .u8 j, .int .u8 f, .int .u32 (k : Int)] 54))
  have hcm := HM.out.cm k hk
  have hcaf := HM.out.fr 0
  have hcxf := HM.out.fr 1
  have hca := HM.out.ca
  have hcx := HM.out.cx
  have hlt := hM.lt
  have hne : w.heap.size ≠ g := by omega
  have hne2 : g ≠ w.heap.size := by omega
  have hkd : decide ((k : Int) < 16) = true := decide_eq_true (by omega)
  have HEa := Aside0.mk (fun v : Int => show MPost B w g rv { s with a := v } goOn goOn ((w.setCell ⟨g, 0, none⟩ (.int .u32 v)).alloc (.cells #[.int .u16 c, .int .u8 j, .int .u8 f, .int .u32 (k : Int)] 54)) from
    ⟨rfl, Below.alloc (Below.setCell (Below.refl B w) hB _) (by simp [World.setCell]; omega) _, (HM0.out.set_a v).alloc _⟩)
  have HEx := Aside0.mk (fun v : Int => show MPost B w g rv { s with x := v } goOn goOn ((w.setCell ⟨g, 1, none⟩ (.int .u32 v)).alloc (.cells #[.int .u16 c, .int .u8 j, .int .u8 f, .int .u32 (k : Int)] 54)) from
    ⟨rfl, Below.alloc (Below.setCell (Below.refl B w) hB _) (by simp [World.setCell]; omega) _, (HM0.out.set_x v).alloc _⟩)
  clear hM
  rcases hc with rfl | rfl
  · have e : memS 96 k s = { s with a := rd s.m (k : Int) } := if_pos rfl
    rw [e]
    clear e
    go_enter Try.func55, Try.ntmps55
    go_wp2
    go_returns
    exact HEa.out _
  · have e : memS 97 k s = { s with x := rd s.m (k : Int) } := if_neg (by decide)
    rw [e]
    clear e
    go_enter Try.func55, Try.ntmps55
    go_wp2
    go_returns
    exact HEx.out _
set_option maxHeartbeats 40000000 in
set_option maxRecDepth 100000 in
theorem puts_does (B g : Nat) (rv : Value) (s : St) (c j f : Int) (k : Nat) (hc : c = 2 ∨ c = 3) (hk : k < 16) (w : World) (hM : Mach w g rv s) (hB : B ≤ g) :
    Calls Try.prog 55 #[.pointer (some ⟨g, 0, none⟩), .agg #[.int .u16 c, .int .u8 j, .int .u8 f, .int .u32 (k : Int)]] w (MPost B w g rv (putS c k s) goOn) := by
  have HM0 := Aside0.mk hM
  have HM := Aside0.mk (hM.alloc (.cells #[.int .u16 c, .int .u8 j, .int .u8 f, .int .u32 (k : Int)] 54))
  have hcm := HM.out.cm k hk
  have hcmf := HM.out.fr (2 + k)
  have hca := HM.out.ca
  have hcx := HM.out.cx
  have hlt := hM.lt
  have hne : w.heap.size ≠ g := by omega
  have hne2 : g ≠ w.heap.size := by omega
  have hkd : decide ((k : Int) < 16) = true := decide_eq_true (by omega)
  have HE := Aside0.mk (fun v : Int => show MPost B w g rv { s with m := s.m.set k v } goOn goOn (((w.setCell ⟨g, 2 + k, none⟩ (.int .u32 v)).alloc (.cells #[.int .u16 c, .int .u8 j, .int .u8 f, .int .u32 (k : Int)] 54)).drew) from
    ⟨rfl, Below.drew (Below.alloc (Below.setCell (Below.refl B w) hB _) (by simp [World.setCell]; omega) _), ((HM0.out.set_m k hk v).alloc _).drew⟩)
  clear hM
  rcases hc with rfl | rfl
  · have e : putS 2 k s = { s with m := s.m.set k s.a } := rfl
    rw [e]
    clear e
    go_enter Try.func55, Try.ntmps55
    go_wp2
    go_region
    go_wp2
    go_returns
    exact HE.out _
  · have e : putS 3 k s = { s with m := s.m.set k s.x } := rfl
    rw [e]
    clear e
    go_enter Try.func55, Try.ntmps55
    go_wp2
    go_region
    go_wp2
    go_returns
    exact HE.out _
set_option maxHeartbeats 40000000 in
set_option maxRecDepth 100000 in
theorem loads_does (B g : Nat) (R : Addr) (cR : Nat) (rec : List Int) (s : St) (j f : Int) (k : Nat) (w : World) (hM : Mach w g (.slice (some R) 64 cR) s) (hr : ∀ i, i < 64 → w.cell? (R.add i) = some (.int .u8 (rd rec (i : Int)))) (hc : 64 ≤ cR) (hk : k ≤ 60) (hB : B ≤ g) :
    Calls Try.prog 55 #[.pointer (some ⟨g, 0, none⟩), .agg #[.int .u16 32, .int .u8 j, .int .u8 f, .int .u32 (k : Int)]] w (MPost B w g (.slice (some R) 64 cR) { s with a := loadR rec k } goOn) := by
  have HM0 := Aside0.mk hM
  have HM := Aside0.mk (hM.alloc (.cells #[.int .u16 32, .int .u8 j, .int .u8 f, .int .u32 (k : Int)] 54))
  have hcaf := HM.out.fr 0
  have hca := HM.out.ca
  have hlt := hM.lt
  have hne : w.heap.size ≠ g := by omega
  have hne2 : g ≠ w.heap.size := by omega
  have HL := Aside0.mk (load_does B g R cR rec s k _ HM.out (fun i hi => ((below_alloc (Below.refl _ w) (.cells #[.int .u16 32, .int .u8 j, .int .u8 f, .int .u32 (k : Int)] 54)).cell (World.block_lt_of_cell? w _ (hr i hi))).trans (hr i hi)) hc hk)
  clear hM hr
  go_enter Try.func55, Try.ntmps55
  go_wp2_with (go_at_call 69; refine HL.out.mono ?_; rintro e w1 ⟨rfl, n, rfl⟩)
  go_returns
  exact ⟨rfl, Below.setCell (below_drewNB (Below.alloc (Below.refl B w) (Nat.le_of_lt (Nat.lt_of_le_of_lt hB HM0.out.lt)) _) n) hB _, (HM.out.drewN n).set_a _⟩
set_option maxHeartbeats 40000000 in
set_option maxRecDepth 100000 in
theorem donums_does (B g : Nat) (rv : Value) (s : St) (c j f k : Int) (hc : isNum c) (w : World) (hM : Mach w g rv s) (hB : B ≤ g) :
    Calls Try.prog 55 #[.pointer (some ⟨g, 0, none⟩), .agg #[.int .u16 c, .int .u8 j, .int .u8 f, .int .u32 k]] w (MPost B w g rv { s with a := numA c k s } goOn) := by
  have HM := Aside0.mk (hM.alloc (.cells #[.int .u16 c, .int .u8 j, .int .u8 f, .int .u32 k] 54))
  have hlt := hM.lt
  have hne : w.heap.size ≠ g := by omega
  have hne2 : g ≠ w.heap.size := by omega
  have HB0 := Aside0.mk (Below.alloc (Below.refl B w) (Nat.le_of_lt (Nat.lt_of_le_of_lt hB hM.lt)) (.cells #[.int .u16 c, .int .u8 j, .int .u8 f, .int .u32 k] 54))
  have HN := Aside0.mk (nums_does B g rv s c j f k hc _ HM.out hB)
  clear hM
  obtain ⟨s2, hs2⟩ : ∃ s2 : St, { s with a := numA c k s } = s2 := ⟨_, rfl⟩
  rw [hs2] at HN ⊢
  clear hs2
  unfold isNum at hc
  rcases hc with rfl | rfl | rfl | rfl | rfl | rfl
  all_goals
    go_enter Try.func55, Try.ntmps55
    go_wp2_with (go_at_call 70; refine HN.out.mono ?_; rintro e w1 ⟨he, hb1, hm1⟩; obtain rfl : e = .returned (.tuple #[.int .u32 0, .bool false]) := he; have HB1 := Aside0.mk (HB0.out.trans hb1); have HM1 := Aside0.mk hm1; clear hb1 hm1)
    go_returns
    exact ⟨rfl, HB1.out, HM1.out⟩
set_option maxHeartbeats 40000000 in
set_option maxRecDepth 100000 in
theorem dobits_does (B g : Nat) (rv : Value) (s : St) (c j f k : Int) (hc : isBits c) (hk : 0 ≤ k) (hx : 0 ≤ s.x) (w : World) (hM : Mach w g rv s) (hB : B ≤ g) :
    Calls Try.prog 55 #[.pointer (some ⟨g, 0, none⟩), .agg #[.int .u16 c, .int .u8 j, .int .u8 f, .int .u32 k]] w (MPost B w g rv { s with a := bitsA c k s } goOn) := by
  have HM := Aside0.mk (hM.alloc (.cells #[.int .u16 c, .int .u8 j, .int .u8 f, .int .u32 k] 54))
  have hlt := hM.lt
  have hne : w.heap.size ≠ g := by omega
  have hne2 : g ≠ w.heap.size := by omega
  have HB0 := Aside0.mk (Below.alloc (Below.refl B w) (Nat.le_of_lt (Nat.lt_of_le_of_lt hB hM.lt)) (.cells #[.int .u16 c, .int .u8 j, .int .u8 f, .int .u32 k] 54))
  have HN := Aside0.mk (binbits_does B g rv s c j f k hc hk hx _ HM.out hB)
  clear hM
  obtain ⟨s2, hs2⟩ : ∃ s2 : St, { s with a := bitsA c k s } = s2 := ⟨_, rfl⟩
  rw [hs2] at HN ⊢
  clear hs2
  unfold isBits at hc
  rcases hc with rfl | rfl | rfl | rfl | rfl | rfl | rfl | rfl | rfl | rfl
  all_goals
    go_enter Try.func55, Try.ntmps55
    go_wp2_with (go_at_call 70; refine HN.out.mono ?_; rintro e w1 ⟨he, hb1, hm1⟩; obtain rfl : e = .returned (.tuple #[.int .u32 0, .bool false]) := he; have HB1 := Aside0.mk (HB0.out.trans hb1); have HM1 := Aside0.mk hm1; clear hb1 hm1)
    go_returns
    exact ⟨rfl, HB1.out, HM1.out⟩
set_option maxHeartbeats 40000000 in
set_option maxRecDepth 100000 in
theorem dotests_does (B g : Nat) (rv : Value) (s : St) (c j f k : Int) (hc : isTest c) (w : World) (hM : Mach w g rv s) (hB : B ≤ g) :
    Calls Try.prog 55 #[.pointer (some ⟨g, 0, none⟩), .agg #[.int .u16 c, .int .u8 j, .int .u8 f, .int .u32 k]] w (MPost B w g rv { s with p := wrap64 (s.p + wrap64 (if testB c k s = true then j else f)) } goOn) := by
  have HM := Aside0.mk (hM.alloc (.cells #[.int .u16 c, .int .u8 j, .int .u8 f, .int .u32 k] 54))
  have hlt := hM.lt
  have hne : w.heap.size ≠ g := by omega
  have hne2 : g ≠ w.heap.size := by omega
  have HB0 := Aside0.mk (Below.alloc (Below.refl B w) (Nat.le_of_lt (Nat.lt_of_le_of_lt hB hM.lt)) (.cells #[.int .u16 c, .int .u8 j, .int .u8 f, .int .u32 k] 54))
  have HN := Aside0.mk (bintests_does B g rv s c j f k hc _ HM.out hB)
  clear hM
  obtain ⟨s2, hs2⟩ : ∃ s2 : St, { s with p := wrap64 (s.p + wrap64 (if testB c k s = true then j else f)) } = s2 := ⟨_, rfl⟩
  rw [hs2] at HN ⊢
  clear hs2
  unfold isTest at hc
  rcases hc with rfl | rfl | rfl | rfl | rfl | rfl | rfl | rfl
  all_goals
    go_enter Try.func55, Try.ntmps55
    go_wp2_with (go_at_call 70; refine HN.out.mono ?_; rintro e w1 ⟨he, hb1, hm1⟩; obtain rfl : e = .returned (.tuple #[.int .u32 0, .bool false]) := he; have HB1 := Aside0.mk (HB0.out.trans hb1); have HM1 := Aside0.mk hm1; clear hb1 hm1)
    go_returns
    exact ⟨rfl, HB1.out, HM1.out⟩
set_option maxHeartbeats 40000000 in
set_option maxRecDepth 100000 in
theorem dodiv_does (B g : Nat) (rv : Value) (s : St) (c j f k : Int) (hc : c = 52 ∨ c = 60) (hk : 0 ≤ k) (hx : 0 ≤ s.x) (ha : 0 ≤ s.a) (ha2 : s.a < 4294967296) (w : World) (hM : Mach w g rv s) (hB : B ≤ g) :
    Calls Try.prog 55 #[.pointer (some ⟨g, 0, none⟩), .agg #[.int .u16 c, .int .u8 j, .int .u8 f, .int .u32 k]] w (MPost B w g rv (divS c k s) (divE c k s)) := by
  have HM := Aside0.mk (hM.alloc (.cells #[.int .u16 c, .int .u8 j, .int .u8 f, .int .u32 k] 54))
  have hlt := hM.lt
  have hne : w.heap.size ≠ g := by omega
  have hne2 : g ≠ w.heap.size := by omega
  have HB0 := Aside0.mk (Below.alloc (Below.refl B w) (Nat.le_of_lt (Nat.lt_of_le_of_lt hB hM.lt)) (.cells #[.int .u16 c, .int .u8 j, .int .u8 f, .int .u32 k] 54))
  have HN := Aside0.mk (div_does B g rv s c j f k hc hk hx ha ha2 _ HM.out hB)
  clear hM
  obtain ⟨v, b, hv⟩ : ∃ v b, divE c k s = .returned (.tuple #[.int .u32 v, .bool b]) := by
    unfold divE
    by_cases h0 : (if c = 60 then s.x else k) = 0
    · exact ⟨_, _, by rw [if_pos h0]⟩
    · exact ⟨0, false, by rw [if_neg h0]; rfl⟩
  obtain ⟨s2, hs2⟩ : ∃ s2 : St, divS c k s = s2 := ⟨_, rfl⟩
  rw [hs2, hv] at HN ⊢
  clear hs2 hv
  rcases hc with rfl | rfl
  all_goals
    go_enter Try.func55, Try.ntmps55
    go_wp2_with (go_at_call 70; refine HN.out.mono ?_; rintro e w1 ⟨rfl, hb1, hm1⟩; have HB1 := Aside0.mk (HB0.out.trans hb1); have HM1 := Aside0.mk hm1; clear hb1 hm1)
    go_returns
    exact ⟨rfl, HB1.out, HM1.out⟩

end Go.Proofs.Ytgodbniphkfgfaa.P

namespace Go.Proofs.Ytgodbniphkfgfaa.P
open Go.RowKit Go.Proofs.YtgodbniphkfgfaaW.PrintWords Go.Proofs.YtgodbniphkfgfaaW.PrintLast Go.Proofs.YtgodbniphkfgfaaW.PrintMore
set_option linter.unusedVariables false
set_option linter.unusedSimpArgs false

instance : DecidablePred isMove := fun c => by unfold isMove; infer_instance
instance : DecidablePred isNum := fun c => by unfold isNum; infer_instance
instance : DecidablePred isBits := fun c => by unfold isBits; infer_instance
instance : DecidablePred isTest := fun c => by unfold isTest; infer_instance
/-- One instruction: the machine behind it, and the result, if the run has ended. -/
def stepF (rec : List Int) (i : S54) (s : St) : Option (St × Option Int) :=
  if 0 ≤ i.f3 ∧ 0 ≤ s.a ∧ s.a < 4294967296 ∧ 0 ≤ s.x then
    if isMove i.f0 then some (moveS i.f0 i.f3 s, none)
    else if i.f0 = 6 then some (s, some i.f3)
    else if i.f0 = 22 then some (s, some s.a)
    else if i.f0 = 32 then (if i.f3 ≤ 60 then some ({ s with a := loadR rec i.f3.toNat }, none) else none)
    else if i.f0 = 96 ∨ i.f0 = 97 then (if i.f3 < 16 then some (memS i.f0 i.f3.toNat s, none) else none)
    else if i.f0 = 2 ∨ i.f0 = 3 then (if i.f3 < 16 then some (putS i.f0 i.f3.toNat s, none) else none)
    else if isNum i.f0 then some ({ s with a := numA i.f0 i.f3 s }, none)
    else if i.f0 = 52 ∨ i.f0 = 60 then some (divS i.f0 i.f3 s, if (if i.f0 = 60 then s.x else i.f3) = 0 then some 2147483648 else none)
    else if isBits i.f0 then some ({ s with a := bitsA i.f0 i.f3 s }, none)
    else if isTest i.f0 then some ({ s with p := wrap64 (s.p + wrap64 (if testB i.f0 i.f3 s = true then i.f1 else i.f2)) }, none)
    else none
  else none
def endOf : Option Int → Ending
  | none => goOn
  | some v => .returned (.tuple #[.int .u32 v, .bool true])
theorem do_does (B g : Nat) (R : Addr) (cR : Nat) (rec : List Int) (i : S54) (s s2 : St) (o : Option Int) (h : stepF rec i s = some (s2, o)) (w : World) (hM : Mach w g (.slice (some R) 64 cR) s)
    (hr : ∀ i, i < 64 → w.cell? (R.add i) = some (.int .u8 (rd rec (i : Int)))) (hc : 64 ≤ cR) (hB : B ≤ g) :
    Calls Try.prog 55 #[.pointer (some ⟨g, 0, none⟩), .agg #[.int .u16 i.f0, .int .u8 i.f1, .int .u8 i.f2, .int .u32 i.f3]] w (MPost B w g (.slice (some R) 64 cR) s2 (endOf o)) := by
  unfold stepF at h
  by_cases h0 : 0 ≤ i.f3 ∧ 0 ≤ s.a ∧ s.a < 4294967296 ∧ 0 ≤ s.x
  case neg => rw [if_neg h0] at h; exact absurd h (by simp)
  rw [if_pos h0] at h
  obtain ⟨k0, a0, a1, x0⟩ := h0
  obtain ⟨k, hk⟩ := Int.eq_ofNat_of_zero_le k0
  by_cases h1 : isMove i.f0
  · rw [if_pos h1] at h
    obtain ⟨rfl, rfl⟩ := Prod.mk.inj (Option.some.inj h)
    exact moves_does B g _ s i.f0 i.f1 i.f2 i.f3 h1 w hM hB
  rw [if_neg h1] at h
  by_cases h2 : i.f0 = 6
  · rw [if_pos h2] at h
    obtain ⟨rfl, rfl⟩ := Prod.mk.inj (Option.some.inj h)
    have := ends_does B g (.slice (some R) 64 cR) s i.f0 i.f1 i.f2 i.f3 (.inl h2) w hM hB
    rw [if_pos h2] at this
    exact this
  rw [if_neg h2] at h
  by_cases h3 : i.f0 = 22
  · rw [if_pos h3] at h
    obtain ⟨rfl, rfl⟩ := Prod.mk.inj (Option.some.inj h)
    have := ends_does B g (.slice (some R) 64 cR) s i.f0 i.f1 i.f2 i.f3 (.inr h3) w hM hB
    rw [if_neg h2] at this
    exact this
  rw [if_neg h3] at h
  by_cases h4 : i.f0 = 32
  · rw [if_pos h4] at h
    by_cases h5 : i.f3 ≤ 60
    · rw [if_pos h5] at h
      obtain ⟨rfl, rfl⟩ := Prod.mk.inj (Option.some.inj h)
      rw [h4, hk]
      exact loads_does B g R cR rec s i.f1 i.f2 k w hM hr hc (by omega) hB
    · rw [if_neg h5] at h; exact absurd h (by simp)
  rw [if_neg h4] at h
  by_cases h5 : i.f0 = 96 ∨ i.f0 = 97
  · rw [if_pos h5] at h
    by_cases h6 : i.f3 < 16
    · rw [if_pos h6] at h
      obtain ⟨rfl, rfl⟩ := Prod.mk.inj (Option.some.inj h)
      rw [hk]
      exact mems_does B g _ s i.f0 i.f1 i.f2 k h5 (by omega) w hM hB
    · rw [if_neg h6] at h; exact absurd h (by simp)
  rw [if_neg h5] at h
  by_cases h6 : i.f0 = 2 ∨ i.f0 = 3
  · rw [if_pos h6] at h
    by_cases h7 : i.f3 < 16
    · rw [if_pos h7] at h
      obtain ⟨rfl, rfl⟩ := Prod.mk.inj (Option.some.inj h)
      rw [hk]
      exact puts_does B g _ s i.f0 i.f1 i.f2 k h6 (by omega) w hM hB
    · rw [if_neg h7] at h; exact absurd h (by simp)
  rw [if_neg h6] at h
  by_cases h7 : isNum i.f0
  · rw [if_pos h7] at h
    obtain ⟨rfl, rfl⟩ := Prod.mk.inj (Option.some.inj h)
    exact donums_does B g _ s i.f0 i.f1 i.f2 i.f3 h7 w hM hB
  rw [if_neg h7] at h
  by_cases h8 : i.f0 = 52 ∨ i.f0 = 60
  · rw [if_pos h8] at h
    obtain ⟨rfl, rfl⟩ := Prod.mk.inj (Option.some.inj h)
    have := dodiv_does B g (.slice (some R) 64 cR) s i.f0 i.f1 i.f2 i.f3 h8 k0 x0 a0 a1 w hM hB
    have e : divE i.f0 i.f3 s = endOf (if (if i.f0 = 60 then s.x else i.f3) = 0 then some 2147483648 else none) := by
      unfold divE
      by_cases h9 : (if i.f0 = 60 then s.x else i.f3) = 0
      · rw [if_pos h9, if_pos h9]; rfl
      · rw [if_neg h9, if_neg h9]; rfl
    rw [e] at this
    exact this
  rw [if_neg h8] at h
  by_cases h9 : isBits i.f0
  · rw [if_pos h9] at h
    obtain ⟨rfl, rfl⟩ := Prod.mk.inj (Option.some.inj h)
    exact dobits_does B g _ s i.f0 i.f1 i.f2 i.f3 h9 k0 x0 w hM hB
  rw [if_neg h9] at h
  by_cases h10 : isTest i.f0
  · rw [if_pos h10] at h
    obtain ⟨rfl, rfl⟩ := Prod.mk.inj (Option.some.inj h)
    exact dotests_does B g _ s i.f0 i.f1 i.f2 i.f3 h10 w hM hB
  rw [if_neg h10] at h
  exact absurd h (by simp)
def nextS (s : St) : St := { s with p := wrap64 (s.p + 1), st := wrap64 (s.st + 1) }
/-- The run, of at most so many instructions. -/
def runF : Nat → List S54 → List Int → St → Option (Int × St)
  | 0, _, _, _ => none
  | n + 1, prog, rec, s => if 0 ≤ s.p ∧ s.p < (prog.length : Int) then (stepF rec (rd_T54 prog s.p) (nextS s)).bind fun r => match r.2 with | some v => some (v, r.1) | none => runF n prog rec r.1 else none
set_option maxHeartbeats 40000000 in
set_option maxRecDepth 100000 in
theorem run_does (n : Nat) (g : Nat) (R : Addr) (cR : Nat) (rec : List Int) (A : Option Addr) (cP : Nat) (prog : List S54) (s sE : St) (v : Int) (h : runF n prog rec s = some (v, sE)) (W0 w : World) (hM : Mach w g (.slice (some R) 64 cR) s)
    (hr : ∀ i, i < 64 → W0.cell? (R.add i) = some (.int .u8 (rd rec (i : Int)))) (hc : 64 ≤ cR) (hP : Kd.C k54 W0 A prog.length prog) (hcP : prog.length ≤ cP) (hB : W0.heap.size ≤ g) (hW : Below W0.heap.size W0 w) :
    Calls Try.prog 40 #[.pointer (some ⟨g, 0, none⟩), .slice A prog.length cP] w (fun e w' => e = .returned (.int .u32 v) ∧ Below W0.heap.size W0 w' ∧ Mach w' g (.slice (some R) 64 cR) sE) := by
  have HRUN := Aside0.mk h
  have HM := Aside0.mk hM
  have HREC := Aside0.mk hr
  have HP := Aside0.mk hP
  have HW := Aside0.mk hW
  have HBg := Aside0.mk hB
  have HC := Aside0.mk hc
  have HCP := Aside0.mk hcP
  clear h hM hr hP hW hc hcP
  go_enter Try.func40, Try.ntmps40
  go_wp2
  go_loopg [] n (fun kq w' => ∃ s : St, Aside0 (runF kq prog rec s = some (v, sE)) ∧ Aside0 (Mach w' g (.slice (some R) 64 cR) s) ∧ Aside0 (Below W0.heap.size W0 w'))
  case atStart => exact ⟨s, HRUN, HM, HW⟩
  case round =>
    clear HRUN HM HW
    obtain ⟨s, HRUN, HM, HW⟩ := hrel
    obtain ⟨k1, rfl⟩ : ∃ m, gk = m + 1 := by
      cases gk with
      | zero => have := HRUN.out; simp only [runF] at this; exact absurd this (by simp)
      | succ m => exact ⟨m, rfl⟩
    have h := HRUN.out
    simp only [runF] at h
    by_cases hp : 0 ≤ s.p ∧ s.p < (prog.length : Int)
    case neg => rw [if_neg hp] at h; exact absurd h (by simp)
    rw [if_pos hp] at h
    replace h := Option.bind_eq_some_iff.1 h
    obtain ⟨⟨s2, o⟩, hs, h⟩ := h
    obtain ⟨q, hq⟩ := Int.eq_ofNat_of_zero_le hp.1
    obtain ⟨ad, rfl, g0, g1, g2, g3⟩ := at_T54 HP.out s.p hp.1 hp.2
    replace g0 := (HW.out.cell (World.block_lt_of_cell? W0 _ g0)).trans g0
    replace g1 := (HW.out.cell (World.block_lt_of_cell? W0 _ g1)).trans g1
    replace g2 := (HW.out.cell (World.block_lt_of_cell? W0 _ g2)).trans g2
    replace g3 := (HW.out.cell (World.block_lt_of_cell? W0 _ g3)).trans g3
    obtain ⟨ins, hins⟩ : ∃ ins, rd_T54 prog s.p = ins := ⟨_, rfl⟩
    rw [hins] at g0 g1 g2 g3 hs
    have hcp := HM.out.cp
    have hcs := HM.out.cs
    have hfp := HM.out.fr 19
    have hfs := HM.out.fr 20
    have hq2 : s.p.toNat = q := by omega
    rw [hq2] at g0 g1 g2 g3
    rw [hq] at hcp
    have hlt := HM.out.lt
    have hne : wr.heap.size ≠ g := by omega
    have hne2 : g ≠ wr.heap.size := by omega
    have hib : decide ((q : Int) < (prog.length : Int)) = true := decide_eq_true (by omega)
    have hibn : decide (q < prog.length) = true := decide_eq_true (by omega)
    have e : nextS s = { s with p := wrap64 ((q : Int) + 1), st := wrap64 (s.st + 1) } := by unfold nextS; rw [hq]
    rw [e] at hs
    have HDO := Aside0.mk (fun O : Obj => do_does W0.heap.size g R cR rec ins _ s2 o hs (((wr.setCell ⟨g, 19, none⟩ (.int .i64 (wrap64 ((q : Int) + 1)))).setCell ⟨g, 20, none⟩ (.int .i64 (wrap64 (s.st + 1)))).alloc O) (((HM.out.set_p _).set_st _).alloc O)
      (fun i hi => ((Below.alloc (Below.setCell (p := ⟨g, 20, none⟩) (Below.setCell (p := ⟨g, 19, none⟩) HW.out HBg.out (.int .i64 (wrap64 ((q : Int) + 1)))) HBg.out (.int .i64 (wrap64 (s.st + 1)))) (by have := HW.out.size; simp [World.setCell]; omega) O).cell (World.block_lt_of_cell? W0 _ (HREC.out i hi))).trans (HREC.out i hi)) HC.out HBg.out)
    have HBW := Aside0.mk (fun O : Obj => Below.alloc (Below.setCell (p := ⟨g, 20, none⟩) (Below.setCell (p := ⟨g, 19, none⟩) HW.out HBg.out (.int .i64 (wrap64 ((q : Int) + 1)))) HBg.out (.int .i64 (wrap64 (s.st + 1)))) (by have := HW.out.size; simp [World.setCell]; omega) O)
    have HNX := Aside0.mk h
    have hqn : q < prog.length := by omega
    have hqz : (q : Int) < (prog.length : Int) := by omega
    clear hs h hp hins hq2 hq e
    cases o with
    | none =>
      go_wp2_with (go_at_call 55; refine (HDO.out _).mono ?_; rintro e w1 ⟨he, hb1, hm1⟩; obtain rfl : e = .returned (.tuple #[.int .u32 0, .bool false]) := he; have HB1 := Aside0.mk ((HBW.out _).trans hb1); have HM1 := Aside0.mk hm1; clear hb1 hm1)
      go_roundg k1
      case measure => omega
      case rel => exact ⟨s2, HNX, HM1, HB1⟩
    | some x =>
      go_wp2_with (go_at_call 55; refine (HDO.out _).mono ?_; rintro e w1 ⟨he, hb1, hm1⟩; obtain rfl : e = .returned (.tuple #[.int .u32 x, .bool true]) := he; have HB1 := Aside0.mk ((HBW.out _).trans hb1); have HM1 := Aside0.mk hm1; clear hb1 hm1)
      go_returns
      have hx := HNX.out
      simp only [Option.some.injEq, Prod.mk.injEq] at hx
      obtain ⟨rfl, rfl⟩ := hx
      exact ⟨rfl, HB1.out, HM1.out⟩

end Go.Proofs.Ytgodbniphkfgfaa.P

namespace Go.Proofs.Ytgodbniphkfgfaa.P
open Go.RowKit Go.Proofs.YtgodbniphkfgfaaW.PrintWords Go.Proofs.YtgodbniphkfgfaaW.PrintLast Go.Proofs.YtgodbniphkfgfaaW.PrintMore
set_option linter.unusedVariables false
set_option linter.unusedSimpArgs false
/-! The machine's operations, as the reference has them. -/
def aluN (op a v : Int) : Int :=
  if op = 0 then (a + v) % 4294967296 else if op = 1 then (a - v) % 4294967296 else if op = 2 then a * v % 4294967296 else if op = 3 then a / v
  else if op = 4 then bits .or .u32 a v else if op = 5 then bits .and .u32 a v else if op = 10 then bits .xor .u32 a v else if op = 8 then -a % 4294967296
  else if op = 6 then a * 2 ^ min v.toNat 32 % 4294967296 else a / 2 ^ min v.toNat 32
theorem alu_add (a v : Int) (a0 : 0 ≤ a) (a1 : a < 4294967296) (v0 : 0 ≤ v) (v1 : v < 4294967296) : Ev (fun k => spec_l1alu.f k 0 a v) (aluN 0 a v) :=
  ev_is fun k => by
    unfold spec_l1alu.f aluN
    rw [if_pos rfl, if_pos rfl, wrap64_id (by omega) (by omega), Int.tmod_eq_emod_of_nonneg (by omega)]
theorem alu_sub (a v : Int) (a0 : 0 ≤ a) (a1 : a < 4294967296) (v0 : 0 ≤ v) (v1 : v < 4294967296) : Ev (fun k => spec_l1alu.f k 1 a v) (aluN 1 a v) :=
  ev_is fun k => by
    unfold spec_l1alu.f aluN
    rw [if_neg (by decide), if_pos rfl, if_neg (by decide), if_pos rfl, wrap64_id (i := a - v) (by omega) (by omega), wrap64_id (by omega) (by omega), Int.tmod_eq_emod_of_nonneg (by omega)]
    congr 1
    omega
theorem alu_mul (a v : Int) (a0 : 0 ≤ a) (a1 : a < 4294967296) (v0 : 0 ≤ v) (v1 : v < 4294967296) : Ev (fun k => spec_l1alu.f k 2 a v) (aluN 2 a v) :=
  ev_is fun k => by
    unfold spec_l1alu.f aluN
    rw [if_neg (by decide), if_neg (by decide), if_pos rfl, if_neg (by decide), if_neg (by decide), if_pos rfl]
    rw [Int.tmod_eq_emod_of_nonneg (a := a) a0, Int.tdiv_eq_ediv_of_nonneg a0, wrap64_id (i := a / 65536) (by omega) (by omega)]
    obtain ⟨lo, hlo⟩ : ∃ lo, a % 65536 = lo := ⟨_, rfl⟩
    obtain ⟨hi, hhi⟩ : ∃ hi, a / 65536 = hi := ⟨_, rfl⟩
    have e : a * v = 65536 * (hi * v) + lo * v := by rw [← Int.mul_assoc, ← Int.add_mul]; congr 1; omega
    have p0 : 0 ≤ hi * v := Int.mul_nonneg (by omega) v0
    have q0 : 0 ≤ lo * v := Int.mul_nonneg (by omega) v0
    have p1 : hi * v ≤ 65535 * v := Int.mul_le_mul_of_nonneg_right (by omega) v0
    have q1 : lo * v ≤ 65535 * v := Int.mul_le_mul_of_nonneg_right (by omega) v0
    rw [e, hlo, hhi]
    generalize hi * v = P at *
    generalize lo * v = Q at *
    rw [wrap64_id (i := Q) (by omega) (by omega), wrap64_id (i := P) (by omega) (by omega), Int.tmod_eq_emod_of_nonneg (a := P) p0, wrap64_id (i := P % 65536 * 65536) (by omega) (by omega), wrap64_id (by omega) (by omega), Int.tmod_eq_emod_of_nonneg (by omega)]
    congr 1
    omega
theorem alu_div (a v : Int) (a0 : 0 ≤ a) (a1 : a < 4294967296) (v0 : 0 ≤ v) (v1 : v < 4294967296) (h : v ≠ 0) : Ev (fun k => spec_l1alu.f k 3 a v) (aluN 3 a v) :=
  ev_is fun k => by
    have d0 : 0 ≤ a / v := Int.ediv_nonneg a0 v0
    have d1 : a / v ≤ a := Int.ediv_le_self _ a0
    unfold spec_l1alu.f aluN
    rw [if_neg (by decide), if_neg (by decide), if_neg (by decide), if_pos rfl, if_neg h, if_neg (by decide), if_neg (by decide), if_neg (by decide), if_pos rfl, Int.tdiv_eq_ediv_of_nonneg a0, wrap64_id (by omega) (by omega)]
theorem alu_or (a v : Int) (a0 : 0 ≤ a) (a1 : a < 4294967296) (v0 : 0 ≤ v) (v1 : v < 4294967296) : Ev (fun k => spec_l1alu.f k 4 a v) (aluN 4 a v) := by
  obtain ⟨x, rfl⟩ := Int.eq_ofNat_of_zero_le a0
  obtain ⟨y, rfl⟩ := Int.eq_ofNat_of_zero_le v0
  obtain ⟨K, h⟩ := ev_get (l1or_ev x y (by omega) (by omega))
  refine ev_mk K fun k hk => ?_
  unfold spec_l1alu.f aluN
  rw [if_neg (by decide), if_neg (by decide), if_neg (by decide), if_neg (by decide), if_pos rfl, if_neg (by decide), if_neg (by decide), if_neg (by decide), if_neg (by decide), if_pos rfl]
  exact bo (h k hk) rfl
theorem alu_and (a v : Int) (a0 : 0 ≤ a) (a1 : a < 4294967296) (v0 : 0 ≤ v) (v1 : v < 4294967296) : Ev (fun k => spec_l1alu.f k 5 a v) (aluN 5 a v) := by
  obtain ⟨x, rfl⟩ := Int.eq_ofNat_of_zero_le a0
  obtain ⟨y, rfl⟩ := Int.eq_ofNat_of_zero_le v0
  obtain ⟨K, h⟩ := ev_get (l1and_ev x y (by omega) (by omega))
  refine ev_mk K fun k hk => ?_
  unfold spec_l1alu.f aluN
  rw [if_neg (by decide), if_neg (by decide), if_neg (by decide), if_neg (by decide), if_neg (by decide), if_pos rfl, if_neg (by decide), if_neg (by decide), if_neg (by decide), if_neg (by decide), if_neg (by decide), if_pos rfl]
  exact bo (h k hk) rfl
theorem alu_xor (a v : Int) (a0 : 0 ≤ a) (a1 : a < 4294967296) (v0 : 0 ≤ v) (v1 : v < 4294967296) : Ev (fun k => spec_l1alu.f k 10 a v) (aluN 10 a v) := by
  obtain ⟨x, rfl⟩ := Int.eq_ofNat_of_zero_le a0
  obtain ⟨y, rfl⟩ := Int.eq_ofNat_of_zero_le v0
  obtain ⟨K, h⟩ := ev_get (l1xor_ev x y (by omega) (by omega))
  refine ev_mk K fun k hk => ?_
  unfold spec_l1alu.f aluN
  rw [if_neg (by decide), if_neg (by decide), if_neg (by decide), if_neg (by decide), if_neg (by decide), if_neg (by decide), if_pos rfl, if_neg (by decide), if_neg (by decide), if_neg (by decide), if_neg (by decide), if_neg (by decide), if_neg (by decide), if_pos rfl]
  exact bo (h k hk) rfl
theorem alu_neg (a v : Int) (a0 : 0 ≤ a) (a1 : a < 4294967296) : Ev (fun k => spec_l1alu.f k 8 a v) (aluN 8 a v) :=
  ev_is fun k => by
    unfold spec_l1alu.f aluN
    rw [if_neg (by decide), if_neg (by decide), if_neg (by decide), if_neg (by decide), if_neg (by decide), if_neg (by decide), if_neg (by decide), if_pos rfl, if_neg (by decide), if_neg (by decide), if_neg (by decide), if_neg (by decide), if_neg (by decide), if_neg (by decide), if_neg (by decide), if_pos rfl]
    rw [wrap64_id (by omega) (by omega), Int.tmod_eq_emod_of_nonneg (by omega)]
    congr 1
    omega
theorem shl_nat (x n : Nat) (h : n ≤ 32) : x % 2 ^ (32 - n) * 2 ^ n = x * 2 ^ n % 4294967296 := by
  have e : (4294967296 : Nat) = 2 ^ (32 - n) * 2 ^ n := by rw [← Nat.pow_add, Nat.sub_add_cancel h]
  rw [e, Nat.mul_mod_mul_right]
theorem alu_shl (a v : Int) (a0 : 0 ≤ a) (a1 : a < 4294967296) (v0 : 0 ≤ v) (v1 : v < 4294967296) : Ev (fun k => spec_l1alu.f k 6 a v) (aluN 6 a v) := by
  obtain ⟨x, rfl⟩ := Int.eq_ofNat_of_zero_le a0
  obtain ⟨n, rfl⟩ := Int.eq_ofNat_of_zero_le v0
  have hA : aluN 6 (x : Int) (n : Int) = ((x * 2 ^ min n 32 % 4294967296 : Nat) : Int) := by
    unfold aluN
    rw [if_neg (by decide), if_neg (by decide), if_neg (by decide), if_neg (by decide), if_neg (by decide), if_neg (by decide), if_neg (by decide), if_neg (by decide), if_pos rfl, Int.toNat_natCast, Int.natCast_emod, Int.natCast_mul, Int.natCast_pow]
    rfl
  rw [hA]
  by_cases hn : 32 ≤ n
  · refine ev_is fun k => ?_
    unfold spec_l1alu.f
    rw [if_neg (by decide), if_neg (by decide), if_neg (by decide), if_neg (by decide), if_neg (by decide), if_neg (by decide), if_neg (by decide), if_neg (by decide), if_pos (by omega), Nat.min_eq_right hn]
    congr 1
    omega
  · obtain ⟨K1, h1⟩ := ev_get (l1power_ev (32 - n) (by omega))
    obtain ⟨K2, h2⟩ := ev_get (l1power_ev n (by omega))
    refine ev_mk (K1 + K2) fun k hk => ?_
    unfold spec_l1alu.f
    rw [if_neg (by decide), if_neg (by decide), if_neg (by decide), if_neg (by decide), if_neg (by decide), if_neg (by decide), if_neg (by decide), if_neg (by decide), if_neg (by omega), if_pos rfl, Nat.min_eq_left (by omega)]
    have e : wrap64 (32 - (n : Int)) = ((32 - n : Nat) : Int) := by rw [wrap64_id (by omega) (by omega)]; omega
    rw [e]
    have hp : 0 < 2 ^ (32 - n) := Nat.two_pow_pos _
    have hs := shl_nat x n (by omega)
    have hlt : x * 2 ^ n % 4294967296 < 4294967296 := Nat.mod_lt _ (by decide)
    refine bo (h1 k (by omega)) ?_
    rw [if_neg (by omega)]
    refine bo (h2 k (by omega)) ?_
    rw [Int.tmod_eq_emod_of_nonneg (by omega), ← Int.natCast_emod, ← Int.natCast_mul, hs]
    generalize x * 2 ^ n % 4294967296 = z at hlt
    rw [wrap64_id (by omega) (by omega)]
theorem alu_shr (a v : Int) (a0 : 0 ≤ a) (a1 : a < 4294967296) (v0 : 0 ≤ v) (v1 : v < 4294967296) : Ev (fun k => spec_l1alu.f k 7 a v) (aluN 7 a v) := by
  obtain ⟨x, rfl⟩ := Int.eq_ofNat_of_zero_le a0
  obtain ⟨n, rfl⟩ := Int.eq_ofNat_of_zero_le v0
  have hA : aluN 7 (x : Int) (n : Int) = ((x / 2 ^ min n 32 : Nat) : Int) := by
    unfold aluN
    rw [if_neg (by decide), if_neg (by decide), if_neg (by decide), if_neg (by decide), if_neg (by decide), if_neg (by decide), if_neg (by decide), if_neg (by decide), if_neg (by decide), Int.toNat_natCast, Int.natCast_ediv, Int.natCast_pow]
    rfl
  rw [hA]
  by_cases hn : 32 ≤ n
  · refine ev_is fun k => ?_
    unfold spec_l1alu.f
    rw [if_neg (by decide), if_neg (by decide), if_neg (by decide), if_neg (by decide), if_neg (by decide), if_neg (by decide), if_neg (by decide), if_neg (by decide), if_pos (by omega), Nat.min_eq_right hn]
    congr 1
    rw [Nat.div_eq_of_lt (by omega)]
    rfl
  · obtain ⟨K2, h2⟩ := ev_get (l1power_ev n (by omega))
    refine ev_mk K2 fun k hk => ?_
    unfold spec_l1alu.f
    rw [if_neg (by decide), if_neg (by decide), if_neg (by decide), if_neg (by decide), if_neg (by decide), if_neg (by decide), if_neg (by decide), if_neg (by decide), if_neg (by omega), if_neg (by decide), Nat.min_eq_left (by omega)]
    have hp : 0 < 2 ^ n := Nat.two_pow_pos _
    have hle : x / 2 ^ n ≤ x := Nat.div_le_self _ _
    refine bo (h2 k (by omega)) ?_
    rw [if_neg (by omega), Int.tdiv_eq_ediv_of_nonneg (by omega), ← Int.natCast_ediv]
    generalize x / 2 ^ n = z at hle
    rw [wrap64_id (by omega) (by omega)]
def aluOps : List Int := [0, 1, 2, 3, 4, 5, 6, 7, 8, 10]
theorem l1alu_ev (op a v : Int) (ho : op ∈ aluOps) (a0 : 0 ≤ a) (a1 : a < 4294967296) (v0 : 0 ≤ v) (v1 : v < 4294967296) (h3 : ¬ (op = 3 ∧ v = 0)) : Ev (fun k => spec_l1alu.f k op a v) (aluN op a v) := by
  simp only [aluOps, List.mem_cons, List.not_mem_nil, or_false] at ho
  rcases ho with rfl | rfl | rfl | rfl | rfl | rfl | rfl | rfl | rfl | rfl
  · exact alu_add a v a0 a1 v0 v1
  · exact alu_sub a v a0 a1 v0 v1
  · exact alu_mul a v a0 a1 v0 v1
  · exact alu_div a v a0 a1 v0 v1 (fun h => h3 ⟨rfl, h⟩)
  · exact alu_or a v a0 a1 v0 v1
  · exact alu_and a v a0 a1 v0 v1
  · exact alu_shl a v a0 a1 v0 v1
  · exact alu_shr a v a0 a1 v0 v1
  · exact alu_neg a v a0 a1
  · exact alu_xor a v a0 a1 v0 v1
theorem aluN_range (op a v : Int) (ho : op ∈ aluOps) (a0 : 0 ≤ a) (a1 : a < 4294967296) (v0 : 0 ≤ v) (v1 : v < 4294967296) : 0 ≤ aluN op a v ∧ aluN op a v < 4294967296 := by
  have hm : ∀ z : Int, 0 ≤ z % 4294967296 ∧ z % 4294967296 < 4294967296 := fun z => ⟨Int.emod_nonneg _ (by decide), Int.emod_lt_of_pos _ (by decide)⟩
  have hd : ∀ z : Int, 0 ≤ z → 0 ≤ a / z ∧ a / z < 4294967296 := fun z hz => ⟨Int.ediv_nonneg a0 hz, Int.lt_of_le_of_lt (Int.ediv_le_self _ a0) a1⟩
  have hp : (0 : Int) ≤ 2 ^ min v.toNat 32 := Int.pow_nonneg (by decide)
  unfold aluN
  split
  · exact hm _
  split
  · exact hm _
  split
  · exact hm _
  split
  · exact hd _ v0
  split
  · exact bits_u32 _ _ _
  split
  · exact bits_u32 _ _ _
  split
  · exact bits_u32 _ _ _
  split
  · exact hm _
  split
  · exact hm _
  · exact hd _ hp
/-! The tests. -/
def holdsN (op a v : Int) : Bool := if op = 1 then (a == v) else if op = 2 then decide (a > v) else if op = 3 then decide (a ≥ v) else (bits .and .u32 a v != 0)
theorem l1holds_ev (op a v : Int) (a0 : 0 ≤ a) (a1 : a < 4294967296) (v0 : 0 ≤ v) (v1 : v < 4294967296) : Ev (fun k => spec_l1holds.f k op a v) (holdsN op a v) := by
  obtain ⟨x, rfl⟩ := Int.eq_ofNat_of_zero_le a0
  obtain ⟨y, rfl⟩ := Int.eq_ofNat_of_zero_le v0
  obtain ⟨K, h⟩ := ev_get (l1and_ev x y (by omega) (by omega))
  refine ev_mk K fun k hk => ?_
  unfold spec_l1holds.f holdsN
  split
  · rfl
  split
  · rfl
  split
  · rfl
  · exact bo (h k hk) rfl
/-! A word of the record. -/
theorem or4_nat (b0 b1 b2 b3 : Nat) (h0 : b0 < 256) (h1 : b1 < 256) (h2 : b2 < 256) (h3 : b3 < 256) : ((b0 ||| b1 * 256) ||| b2 * 65536) ||| b3 * 16777216 = b0 + 256 * b1 + 65536 * b2 + 16777216 * b3 := by
  have e1 : b0 ||| b1 * 256 = b0 + 256 * b1 := by
    have : 256 * b1 + b0 = 256 * b1 ||| b0 := Nat.two_pow_add_eq_or_of_lt (i := 8) h0 b1
    rw [Nat.or_comm, Nat.mul_comm]
    omega
  rw [e1]
  have l1 : b0 + 256 * b1 < 2 ^ 16 := by omega
  have e2 : (b0 + 256 * b1) ||| b2 * 65536 = b0 + 256 * b1 + 65536 * b2 := by
    have : 65536 * b2 + (b0 + 256 * b1) = 65536 * b2 ||| (b0 + 256 * b1) := Nat.two_pow_add_eq_or_of_lt (i := 16) l1 b2
    rw [Nat.or_comm, Nat.mul_comm]
    omega
  rw [e2]
  have l2 : b0 + 256 * b1 + 65536 * b2 < 2 ^ 24 := by omega
  have : 16777216 * b3 + (b0 + 256 * b1 + 65536 * b2) = 16777216 * b3 ||| (b0 + 256 * b1 + 65536 * b2) := Nat.two_pow_add_eq_or_of_lt (i := 24) l2 b3
  rw [Nat.or_comm, Nat.mul_comm]
  omega
theorem loadR_eq (rec : List Int) (k : Nat) (hr : ∀ x ∈ rec, 0 ≤ x ∧ x < 256) (hk : k + 3 < rec.length) : loadR rec k = rec[k] + 256 * rec[k + 1] + 65536 * rec[k + 2] + 16777216 * rec[k + 3] := by
  have c0 := hr _ (List.getElem_mem (show k < rec.length by omega))
  have c1 := hr _ (List.getElem_mem (show k + 1 < rec.length by omega))
  have c2 := hr _ (List.getElem_mem (show k + 2 < rec.length by omega))
  have c3 := hr _ (List.getElem_mem (show k + 3 < rec.length by omega))
  unfold loadR
  rw [rd_eq rec k (by omega), show (k : Int) + 1 = ((k + 1 : Nat) : Int) by omega, rd_eq rec (k + 1) (by omega), show (k : Int) + 2 = ((k + 2 : Nat) : Int) by omega, rd_eq rec (k + 2) (by omega), show (k : Int) + 3 = ((k + 3 : Nat) : Int) by omega, rd_eq rec (k + 3) (by omega)]
  generalize rec[k] = x0 at *
  generalize rec[k + 1] = x1 at *
  generalize rec[k + 2] = x2 at *
  generalize rec[k + 3] = x3 at *
  obtain ⟨b0, rfl⟩ := Int.eq_ofNat_of_zero_le c0.1
  obtain ⟨b1, rfl⟩ := Int.eq_ofNat_of_zero_le c1.1
  obtain ⟨b2, rfl⟩ := Int.eq_ofNat_of_zero_le c2.1
  obtain ⟨b3, rfl⟩ := Int.eq_ofNat_of_zero_le c3.1
  have g0 : (b0 : Int) % 4294967296 = ((b0 : Nat) : Int) := by omega
  have g1 : (b1 : Int) % 4294967296 * 256 % 4294967296 = ((b1 * 256 : Nat) : Int) := by omega
  have g2 : (b2 : Int) % 4294967296 * 65536 % 4294967296 = ((b2 * 65536 : Nat) : Int) := by omega
  have g3 : (b3 : Int) % 4294967296 * 16777216 % 4294967296 = ((b3 * 16777216 : Nat) : Int) := by omega
  have n0 : b0 < 256 := by omega
  have n1 : b1 < 256 := by omega
  have n2 : b2 < 256 := by omega
  have n3 : b3 < 256 := by omega
  have hb : ∀ z : Nat, z < 4294967296 → z < 2 ^ IntKind.u32.bits := fun z h => h
  rw [g0, g1, g2, g3]
  have o1 : b0 ||| b1 * 256 < 4294967296 := Nat.or_lt_two_pow (n := 32) (by omega) (by omega)
  have o2 : b0 ||| b1 * 256 ||| b2 * 65536 < 4294967296 := Nat.or_lt_two_pow (n := 32) o1 (by omega)
  rw [bits_or_nat .u32 rfl b0 (b1 * 256) (hb _ (by omega)) (hb _ (by omega)), bits_or_nat .u32 rfl (b0 ||| b1 * 256) (b2 * 65536) (hb _ o1) (hb _ (by omega)), bits_or_nat .u32 rfl (b0 ||| b1 * 256 ||| b2 * 65536) (b3 * 16777216) (hb _ o2) (hb _ (by omega)), or4_nat b0 b1 b2 b3 n0 n1 n2 n3]
  omega
theorem l1word_ev (rec : List Int) (k : Nat) (hr : ∀ x ∈ rec, 0 ≤ x ∧ x < 256) (hl : rec.length = 64) (hk : k ≤ 60) : spec_l1word.f rec (k : Int) = some (loadR rec k) := by
  have hlen : k + 3 < rec.length := by omega
  have c0 := hr _ (List.getElem_mem (show k < rec.length by omega))
  have c1 := hr _ (List.getElem_mem (show k + 1 < rec.length by omega))
  have c2 := hr _ (List.getElem_mem (show k + 2 < rec.length by omega))
  have c3 := hr _ (List.getElem_mem (show k + 3 < rec.length by omega))
  have w1 : wrap64 ((k : Int) + 1) = ((k + 1 : Nat) : Int) := by rw [wrap64_id (by omega) (by omega)]; omega
  have w2 : wrap64 ((k : Int) + 2) = ((k + 2 : Nat) : Int) := by rw [wrap64_id (by omega) (by omega)]; omega
  have w3 : wrap64 ((k : Int) + 3) = ((k + 3 : Nat) : Int) := by rw [wrap64_id (by omega) (by omega)]; omega
  rw [loadR_eq rec k hr hlen]
  unfold spec_l1word.f
  rw [w1, w2, w3, if_pos (by omega), if_pos (by omega), if_pos (by omega), if_pos (by omega), if_pos (by omega), if_pos (by omega), if_pos (by omega), if_pos (by omega)]
  rw [rd_eq rec k (by omega), rd_eq rec (k + 1) (by omega), rd_eq rec (k + 2) (by omega), rd_eq rec (k + 3) (by omega)]
  generalize rec[k] = x0 at *
  generalize rec[k + 1] = x1 at *
  generalize rec[k + 2] = x2 at *
  generalize rec[k + 3] = x3 at *
  congr 1
  rw [wrap64_id (i := x0) (by omega) (by omega), wrap64_id (i := x1) (by omega) (by omega), wrap64_id (i := x2) (by omega) (by omega), wrap64_id (i := x3) (by omega) (by omega), wrap64_id (i := 256 * x1) (by omega) (by omega), wrap64_id (i := 65536 * x2) (by omega) (by omega), wrap64_id (i := 16777216 * x3) (by omega) (by omega), wrap64_id (i := x0 + 256 * x1) (by omega) (by omega), wrap64_id (i := x0 + 256 * x1 + 65536 * x2) (by omega) (by omega), wrap64_id (by omega) (by omega)]
/-! The memory, with one word put. -/
theorem l1put_ev (m : List Int) (k : Nat) (v : Int) (hm : m.length ≤ 1000000) : Ev (fun j => spec_l1put.f j m (k : Int) v) (m.set k v) := by
  have key := ev_loop (fun j s i => spec_l1put.l0 j m (k : Int) v s i) m.length (fun i => (m.set k v).take i) [] (m.set k v) rfl (by rw [← List.length_set (i := k) (a := v), List.take_length]) (fun i hi r hr => by
    have hlt : i < (m.set k v).length := by rw [List.length_set]; exact hi
    have hl : ((m.set k v).take i).length = i := by rw [List.length_take]; omega
    refine ev_step _ (fun j => ?_) hr
    simp only [spec_l1put.l0]
    rw [if_pos (by omega), List.take_succ_eq_append_getElem hlt, List.getElem_set, wrap64_id (by omega) (by omega)]
    by_cases e : (i : Int) = (k : Int)
    · rw [if_pos e, if_pos (by omega), if_pos (by omega)]; rfl
    · rw [if_neg e, if_pos (by omega), if_pos (by omega), if_neg (by omega), rd_eq m i hi]; rfl) (m.set k v) (ev_end fun j => by simp only [spec_l1put.l0]; rw [if_neg (by omega)])
  exact key
end Go.Proofs.Ytgodbniphkfgfaa.P
