import Derived.Test.YtjpjfkmnfppgkaaDoorProg
import Derived.WalkKit
import Derived.LaidEql
import Derived.Stop.Asserts
import Derived.RowKitTokens
import Derived.Test.YtjpjfkmnfppgkaaDoorGFnCalls5
import Derived.Test.YtjpjfkmnfppgkaaDoorGFnCalls7
import Derived.Test.YtjpjfkmnfppgkaaDoorGFnCalls12
import Derived.Test.YtjpjfkmnfppgkaaDoorGFnCalls11
import Derived.Test.YtjpjfkmnfppgkaaDoorGFnCalls13
import Derived.Test.YtjpjfkmnfppgkaaDoorGFnCalls8
import Derived.Test.YtjpjfkmnfppgkaaDoorGFnCalls10
/-! errors.As at a concrete target that is a struct value ('var f logFault; errors.As(err, &f)'): turned from the worked text ToyasAs.lean (there the target is a pointer). -/
namespace Go.Proofs.YtjpjfkmnfppgkaaDoor.P
open Go.RowKit Go.Extern.Stop Go.Stop Go.Extern
theorem as_nil (t : Value) (w : World) : Calls Tryd.prog 28 #[.nilIface, t] w fun e w' => e = .returned (.bool false) ∧ w' = w := by
  go_enter Tryd.func28, Tryd.ntmps28
  go_wp2
  go_ret
  exact ⟨rfl, rfl⟩
theorem A_valueOfP (t : Addr) (w : World) : (ReflectliteValue.unpack (.iface 58 (.pointer (some t)))).run Tryd.prog w
    = .ok (.agg #[.pointer (some ⟨1, 58, none⟩), .pointer (some ⟨w.heap.size, 0, none⟩), .int .u64 150]) (w.alloc (.cells #[.pointer (some t)] 58)) := by kernel_rfl
theorem A_typeP (a : Addr) (w : World) : (ReflectliteValue.methodAny (ReflectliteValue.valueError "reflectlite.Value.Type" 0) (fun t _ _ _ => ReflectliteType.toType t) #[.agg #[.pointer (some ⟨1, 58, none⟩), .pointer (some a), .int .u64 150]]).run Tryd.prog w
    = .ok (.iface 100 (.agg #[.pointer (some ⟨1, 58, none⟩)])) w := by kernel_rfl
theorem A_methodKind (h : Value) (w : World) : (Go.method 243 100 (.agg #[h]) "Kind").run Tryd.prog w = .ok (82, h) w := by kernel_rfl
theorem A_kindP (w : World) : ((ReflectliteType.abiMethod fun t => (fun a : Nat => Value.int IntKind.u8 (a : Int)) <$> Rtype.kind t) #[.pointer (some ⟨1, 58, none⟩)]).run Tryd.prog w = .ok (.int .u8 22) w := by kernel_rfl
theorem A_kindS (w : World) : ((ReflectliteType.abiMethod fun t => (fun a : Nat => Value.int IntKind.u8 (a : Int)) <$> Rtype.kind t) #[.pointer (some ⟨1, 56, none⟩)]).run Tryd.prog w = .ok (.int .u8 25) w := by kernel_rfl
theorem A_rlm (z : Sem Value) (f : TypeId → Addr → Nat → Nat → Sem Value) (v : Value) :
    ReflectliteValue.method z f #[v] = (do match ← ReflectliteValue.parts v with | none => z | some (t, a, fl) => f t a fl (fl % 32)) := rfl
theorem A_partsP (a : Addr) (w : World) : (ReflectliteValue.parts (.agg #[.pointer (some ⟨1, 58, none⟩), .pointer (some a), .int .u64 150])).run Tryd.prog w = .ok (some (58, a, 150)) w := by kernel_rfl
theorem A_isNilP (a p : Addr) (W : World) (ha : W.cell? a = some (.pointer (some p))) :
    (ReflectliteValue.method (ReflectliteValue.valueError "reflectlite.Value.IsNil" 0) ReflectliteValue.isNil #[.agg #[.pointer (some ⟨1, 58, none⟩), .pointer (some a), .int .u64 150]]).run Tryd.prog W = .ok (.bool false) W := by
  rw [A_rlm]
  simp only [Sem.run_bind, A_partsP, Result.andThen]
  simp [ReflectliteValue.isNil, loadVar, isAgg, underlying, Tryd.underlying58, ha, Result.andThen]
theorem A_methodElem (h : Value) (w : World) : (Go.method 243 100 (.agg #[h]) "Elem").run Tryd.prog w = .ok (92, .agg #[h]) w := by kernel_rfl
theorem A_methodImplements (h : Value) (w : World) : (Go.method 243 100 (.agg #[h]) "Implements").run Tryd.prog w = .ok (93, .agg #[h]) w := by kernel_rfl
theorem A_methodAssignableTo (h : Value) (w : World) : (Go.method 243 100 (.agg #[h]) "AssignableTo").run Tryd.prog w = .ok (90, .agg #[h]) w := by kernel_rfl
theorem A_elemP (w : World) : (ReflectliteType.method ReflectliteType.elem #[.agg #[.pointer (some ⟨1, 58, none⟩)]]).run Tryd.prog w = .ok (.iface 100 (.agg #[.pointer (some ⟨1, 56, none⟩)])) w := by kernel_rfl
theorem A_implementsS (w : World) : (ReflectliteType.relation "Implements" ReflectliteType.implements_ #[.agg #[.pointer (some ⟨1, 56, none⟩)], .iface 100 (.agg #[.pointer (some ⟨1, 49, none⟩)])]).run Tryd.prog w = .ok (.bool true) w := by kernel_rfl
theorem A_typeOfS (v : Value) (w : World) : (ReflectliteType.typeOf #[.iface 56 v]).run Tryd.prog w = .ok (.iface 100 (.agg #[.pointer (some ⟨1, 56, none⟩)])) w := by kernel_rfl
theorem A_assignableS (w : World) : (ReflectliteType.relation "AssignableTo" ReflectliteType.assignableTo #[.agg #[.pointer (some ⟨1, 56, none⟩)], .iface 100 (.agg #[.pointer (some ⟨1, 56, none⟩)])]).run Tryd.prog w = .ok (.bool true) w := by kernel_rfl
theorem A_valueOfS (a b : Int) (w : World) : (ReflectliteValue.unpack (.iface 56 (.agg #[.int .i64 a, .int .i64 b]))).run Tryd.prog w
    = .ok (.agg #[.pointer (some ⟨1, 56, none⟩), .pointer (some ⟨w.heap.size, 0, none⟩), .int .u64 153]) (w.alloc (.cells #[.int .i64 a, .int .i64 b] 56)) := by kernel_rfl
theorem A_elemOfP (w : World) : (Rtype.elem? 58).run Tryd.prog w = .ok (some 56) w := by kernel_rfl
theorem A_mkS (p : Addr) (w : World) : (ReflectliteValue.mk 56 p ReflectliteValue.flagAddr).run Tryd.prog w = .ok (.agg #[.pointer (some ⟨1, 56, none⟩), .pointer (some p), .int .u64 409]) w := by kernel_rfl
theorem A_elemVP (a p : Addr) (W : World) (ha : W.cell? a = some (.pointer (some p))) :
    (ReflectliteValue.method (ReflectliteValue.valueError "reflectlite.Value.Elem" 0) ReflectliteValue.elem #[.agg #[.pointer (some ⟨1, 58, none⟩), .pointer (some a), .int .u64 150]]).run Tryd.prog W
      = .ok (.agg #[.pointer (some ⟨1, 56, none⟩), .pointer (some p), .int .u64 409]) W := by
  rw [A_rlm]
  simp only [Sem.run_bind, A_partsP, Result.andThen]
  simp [ReflectliteValue.elem, loadVar, isAgg, underlying, Tryd.underlying58, ha, Result.andThen, A_elemOfP, A_mkS]
theorem A_rls (v x : Value) : ReflectliteValue.set #[v, x] = (do
    let (some (dst, a, fl), some (src, b, _)) := (← ReflectliteValue.parts v, ← ReflectliteValue.parts x)
      | unsupported (.noEntry "extern/(internal/reflectlite.Value).Set.zeroValue")
    if fl / ReflectliteValue.flagAddr % 2 == 0 then unsupported (.noEntry "extern/(internal/reflectlite.Value).Set.unaddressable")
    let val ← loadVar src b
    if ← Rtype.directlyAssignable dst src then storeVar dst a val
    else if ← Rtype.implements dst src then
      if (← Rtype.kind src) == 20 then
        match val with
        | .nilIface => unsupported (.noEntry "extern/reflectlite: a nil value of one interface type handed on as a value of another")
        | _ => storeVar dst a val
      else storeVar dst a (.iface src val)
    else panicString ("reflectlite.Set: value of type " ++ (← Rtype.spelt src) ++ " is not assignable to type " ++ (← Rtype.spelt dst))
    pure (.tuple #[])) := rfl
theorem A_partsSa (a : Addr) (w : World) : (ReflectliteValue.parts (.agg #[.pointer (some ⟨1, 56, none⟩), .pointer (some a), .int .u64 409])).run Tryd.prog w = .ok (some (56, a, 409)) w := by kernel_rfl
theorem A_partsS (a : Addr) (w : World) : (ReflectliteValue.parts (.agg #[.pointer (some ⟨1, 56, none⟩), .pointer (some a), .int .u64 153])).run Tryd.prog w = .ok (some (56, a, 153)) w := by kernel_rfl
theorem A_directS (w : World) : (Rtype.directlyAssignable 56 56).run Tryd.prog w = .ok true w := by kernel_rfl
theorem A_setS (g h : Nat) (x0 x1 y0 y1 : Int) (W : World) (ha : W.cell? ⟨h, 0, none⟩ = some (.int .i64 y0)) (hb : W.cell? ⟨h, 1, none⟩ = some (.int .i64 y1)) (ht : W.cell? ⟨g, 0, none⟩ = some (.int .i64 x0)) (ht1 : W.cell? ⟨g, 1, none⟩ = some (.int .i64 x1)) (hf : W.frozen? ⟨g, 0, none⟩ = false) (hf1 : W.frozen? ⟨g, 1, none⟩ = false) :
    (ReflectliteValue.set #[.agg #[.pointer (some ⟨1, 56, none⟩), .pointer (some ⟨g, 0, none⟩), .int .u64 409], .agg #[.pointer (some ⟨1, 56, none⟩), .pointer (some ⟨h, 0, none⟩), .int .u64 153]]).run Tryd.prog W
      = .ok (.tuple #[]) ((W.setCell ⟨g, 0, none⟩ (.int .i64 y0)).setCell ⟨g, 1, none⟩ (.int .i64 y1)) := by
  rw [A_rls]
  simp only [Sem.run_bind, A_partsSa, A_partsS, Result.andThen]
  simp [ReflectliteValue.flagAddr, loadVar, isAgg, underlying, Tryd.underlying56, Result.andThen, A_directS, storeVar, Value.cells, storeCells, Addr.add, go_sem, ha, hb, ht, ht1, hf, hf1]
/-- The worlds that errors.As leaves: its Values' own copies. -/
def asV (w : World) : Obj := .cells #[.pointer (some ⟨1, 58, none⟩), .pointer (some ⟨w.heap.size, 0, none⟩), .int .u64 150] 80
def asW (w : World) (t : Addr) (c a : Int) : World := (((w.alloc (.cells #[.pointer (some t)] 58)).alloc (asV w)).alloc (asV w)).alloc (.cells #[.int .i64 c, .int .i64 a] 56)
set_option maxHeartbeats 8000000 in
set_option maxRecDepth 100000 in
theorem as_hit (c a : Int) (g : Nat) (x0 x1 : Int) (w : World) (hg : w.cell? ⟨0, 0, none⟩ = some (.iface 100 (.agg #[.pointer (some ⟨1, 49, none⟩)]))) (ht0 : w.cell? ⟨g, 0, none⟩ = some (.int .i64 x0)) (ht1 : w.cell? ⟨g, 1, none⟩ = some (.int .i64 x1)) (hf0 : w.frozen? ⟨g, 0, none⟩ = false) (hf1 : w.frozen? ⟨g, 1, none⟩ = false) :
    Calls Tryd.prog 28 #[.iface 56 (.agg #[.int .i64 c, .int .i64 a]), .iface 58 (.pointer (some ⟨g, 0, none⟩))] w fun ev w' => ev = .returned (.bool true) ∧ w' = ((asW w ⟨g, 0, none⟩ c a).setCell ⟨g, 0, none⟩ (.int .i64 c)).setCell ⟨g, 1, none⟩ (.int .i64 a) := by
  have h6 := @run_callFunc_extern Tryd.prog 48 _ (fun args => ReflectliteValue.unpack (args.getD 0 (.tuple #[]))) Tryd.func48 (by kernel_rfl) (by kernel_rfl) (by kernel_rfl) (by kernel_rfl)
  have h7 := @run_callFunc_extern Tryd.prog 49 _ (ReflectliteValue.methodAny (ReflectliteValue.valueError "reflectlite.Value.Type" 0) (fun t _ _ _ => ReflectliteType.toType t)) Tryd.func49 (by kernel_rfl) (by kernel_rfl) (by kernel_rfl) (by kernel_rfl)
  have h8 := @run_callFunc_extern Tryd.prog 50 _ (ReflectliteValue.method (ReflectliteValue.valueError "reflectlite.Value.IsNil" 0) ReflectliteValue.isNil) Tryd.func50 (by kernel_rfl) (by kernel_rfl) (by kernel_rfl) (by kernel_rfl)
  have h27 := @run_callFunc_extern Tryd.prog 82 _ (ReflectliteType.abiMethod fun t => do pure (.int .u8 (← Rtype.kind t))) Tryd.func82 (by kernel_rfl) (by kernel_rfl) (by kernel_rfl) (by kernel_rfl)
  have h37 := @run_callFunc_extern Tryd.prog 92 _ (ReflectliteType.method ReflectliteType.elem) Tryd.func92 (by kernel_rfl) (by kernel_rfl) (by kernel_rfl) (by kernel_rfl)
  have h38 := @run_callFunc_extern Tryd.prog 93 _ (ReflectliteType.relation "Implements" ReflectliteType.implements_) Tryd.func93 (by kernel_rfl) (by kernel_rfl) (by kernel_rfl) (by kernel_rfl)
  have h10 := @run_callFunc_extern Tryd.prog 64 _ ReflectliteType.typeOf Tryd.func64 (by kernel_rfl) (by kernel_rfl) (by kernel_rfl) (by kernel_rfl)
  have h35 := @run_callFunc_extern Tryd.prog 90 _ (ReflectliteType.relation "AssignableTo" ReflectliteType.assignableTo) Tryd.func90 (by kernel_rfl) (by kernel_rfl) (by kernel_rfl) (by kernel_rfl)
  have h11 := @run_callFunc_extern Tryd.prog 65 _ (ReflectliteValue.method (ReflectliteValue.valueError "reflectlite.Value.Elem" 0) ReflectliteValue.elem) Tryd.func65 (by kernel_rfl) (by kernel_rfl) (by kernel_rfl) (by kernel_rfl)
  have h12 := @run_callFunc_extern Tryd.prog 66 _ ReflectliteValue.set Tryd.func66 (by kernel_rfl) (by kernel_rfl) (by kernel_rfl) (by kernel_rfl)
  have tO := A_typeOfS
  have mA := A_methodAssignableTo
  have aS := A_assignableS
  have vS := A_valueOfS c a
  have f6 := A_valueOfP
  have f7 := A_typeP
  have mK := A_methodKind
  have mE := A_methodElem
  have mI := A_methodImplements
  have kP := A_kindP
  have kS := A_kindS
  have eP := A_elemP
  have iS := A_implementsS
  have n8 := A_isNilP ⟨w.heap.size, 0, none⟩ ⟨g, 0, none⟩ ((w.alloc (.cells #[.pointer (some ⟨g, 0, none⟩)] 58)).alloc (.cells #[.pointer (some ⟨1, 58, none⟩), .pointer (some ⟨w.heap.size, 0, none⟩), .int .u64 150] 80)) (by simp)
  have hlt : 0 < w.heap.size := by
    rcases Nat.eq_zero_or_pos w.heap.size with h0 | h
    · simp [World.cell?, h0] at hg
    · exact h
  have hg2 : ((w.alloc (.cells #[.pointer (some ⟨g, 0, none⟩)] 58)).alloc (.cells #[.pointer (some ⟨1, 58, none⟩), .pointer (some ⟨w.heap.size, 0, none⟩), .int .u64 150] 80)).cell? ⟨0, 0, none⟩ = some (.iface 100 (.agg #[.pointer (some ⟨1, 49, none⟩)])) := by
    rw [World.cell?_alloc_lt _ _ ⟨0, 0, none⟩ (by simp), World.cell?_alloc_lt _ _ ⟨0, 0, none⟩ hlt]; exact hg
  have htl : g < w.heap.size := World.block_lt_of_cell? w ⟨g, 0, none⟩ ht0
  have el := A_elemVP ⟨w.heap.size, 0, none⟩ ⟨g, 0, none⟩ (((w.alloc (.cells #[.pointer (some ⟨g, 0, none⟩)] 58)).alloc (.cells #[.pointer (some ⟨1, 58, none⟩), .pointer (some ⟨w.heap.size, 0, none⟩), .int .u64 150] 80)).alloc (.cells #[.pointer (some ⟨1, 58, none⟩), .pointer (some ⟨w.heap.size, 0, none⟩), .int .u64 150] 80)) (by rw [World.cell?_alloc_lt _ _ ⟨w.heap.size, 0, none⟩ (by simp; omega)]; simp)
  have st := A_setS g (w.heap.size + 1 + 1 + 1) x0 x1 c a ((((w.alloc (.cells #[.pointer (some ⟨g, 0, none⟩)] 58)).alloc (.cells #[.pointer (some ⟨1, 58, none⟩), .pointer (some ⟨w.heap.size, 0, none⟩), .int .u64 150] 80)).alloc (.cells #[.pointer (some ⟨1, 58, none⟩), .pointer (some ⟨w.heap.size, 0, none⟩), .int .u64 150] 80)).alloc (.cells #[.int .i64 c, .int .i64 a] 56))
    (by rw [World.cell?_alloc_at _ _ _ _ (by simp)]; rfl)
    (by rw [World.cell?_alloc_at _ _ _ _ (by simp)]; rfl)
    (by rw [World.cell?_alloc_lt _ _ ⟨g, 0, none⟩ (by simp; omega), World.cell?_alloc_lt _ _ ⟨g, 0, none⟩ (by simp; omega), World.cell?_alloc_lt _ _ ⟨g, 0, none⟩ (by simp; omega), World.cell?_alloc_lt _ _ ⟨g, 0, none⟩ htl]; exact ht0)
    (by rw [World.cell?_alloc_lt _ _ ⟨g, 1, none⟩ (by simp; omega), World.cell?_alloc_lt _ _ ⟨g, 1, none⟩ (by simp; omega), World.cell?_alloc_lt _ _ ⟨g, 1, none⟩ (by simp; omega), World.cell?_alloc_lt _ _ ⟨g, 1, none⟩ htl]; exact ht1)
    (by rw [World.frozen?_alloc_old _ _ ⟨g, 0, none⟩ (by simp; omega), World.frozen?_alloc_old _ _ ⟨g, 0, none⟩ (by simp; omega), World.frozen?_alloc_old _ _ ⟨g, 0, none⟩ (by simp; omega), World.frozen?_alloc_old _ _ ⟨g, 0, none⟩ (Nat.ne_of_lt htl)]; exact hf0)
    (by rw [World.frozen?_alloc_old _ _ ⟨g, 1, none⟩ (by simp; omega), World.frozen?_alloc_old _ _ ⟨g, 1, none⟩ (by simp; omega), World.frozen?_alloc_old _ _ ⟨g, 1, none⟩ (by simp; omega), World.frozen?_alloc_old _ _ ⟨g, 1, none⟩ (Nat.ne_of_lt htl)]; exact hf1)
  clear ht0 ht1 hf0 hf1
  go_enter Tryd.func28, Tryd.ntmps28
  go_wp2
  refine wp_loop_rounds 1 ?_
  rw [rounds_succ]
  go_wp2
  go_ret
  exact ⟨rfl, rfl⟩
end Go.Proofs.YtjpjfkmnfppgkaaDoor.P

namespace Go.Proofs.YtjpjfkmnfppgkaaDoor.P
open Go.RowKit Go.Proofs.YtjpjfkmnfppgkaaDoorW.PrintWords Go.Proofs.YtjpjfkmnfppgkaaDoorW.PrintLast Go.Proofs.YtjpjfkmnfppgkaaDoorW.PrintMore
attribute [local go_sem] max2_int min2_int max_two min_two max_three min_three max_four min_four   -- for this text's walks alone
set_option linter.unusedVariables false
set_option linter.unusedSimpArgs false

/-- The package's handle of the type error, as it is laid. -/
def ETok (w : World) : Prop := w.cell? ⟨0, 0, none⟩ = some (.iface 100 (.agg #[.pointer (some ⟨1, 49, none⟩)]))
theorem ETok.lt {w : World} (h : ETok w) : 0 < w.heap.size := World.block_lt_of_cell? w ⟨0, 0, none⟩ h
theorem ETok.below {w w' : World} (h : ETok w) (hb : Below w.heap.size w w') : ETok w' := (hb.cell (p := ⟨0, 0, none⟩) h.lt).trans h
def decR (r : (Int × Int) ⊕ List S28) : List S28 × Int × Int := match r with | .inl f => ([], f.1, f.2) | .inr cs => (cs, 0, 0)
def impl_DecodeLog.f (k : Nat) (l0 : List Int) : Option (List S28 × Int × Int) := if l0.length ≤ 140737488355328 then (allR k l0).map decR else none
theorem as_blk (c a : Int) (w2 : World) {w3 : World} (h : w3 = ((asW (w2.alloc (.cells #[.int .i64 0, .int .i64 0] 56)) ⟨w2.heap.size, 0, none⟩ c a).setCell ⟨w2.heap.size, 0, none⟩ (.int .i64 c)).setCell ⟨w2.heap.size, 1, none⟩ (.int .i64 a)) :
    w3.heap[w2.heap.size]? = some (.cells #[.int .i64 c, .int .i64 a] 56 (0, 0)) := by
  subst h
  exact blk_put (blk_put (blk_alloc (blk_alloc (blk_alloc (blk_alloc (blk_new w2 _) _) _) _) _) 0 _ rfl) 1 _ rfl
theorem as_below (c a : Int) {b : Nat} {w w2 : World} (hb : Below b w w2) (hs : b ≤ w2.heap.size) {w3 : World} (h : w3 = ((asW (w2.alloc (.cells #[.int .i64 0, .int .i64 0] 56)) ⟨w2.heap.size, 0, none⟩ c a).setCell ⟨w2.heap.size, 0, none⟩ (.int .i64 c)).setCell ⟨w2.heap.size, 1, none⟩ (.int .i64 a)) :
    Below b w w3 := by
  subst h
  have l : ∀ {X : World}, w2.heap.size ≤ X.heap.size → ∀ o, w2.heap.size ≤ (X.alloc o).heap.size := fun h o => by simp; omega
  exact (((((((hb.alloc hs _).alloc (by simp; omega) _).alloc (by simp; omega) _).alloc (by simp; omega) _).alloc (by simp; omega) _).setCell (p := ⟨w2.heap.size, 0, none⟩) hs _).setCell (p := ⟨w2.heap.size, 1, none⟩) hs _)
set_option maxHeartbeats 8000000 in
set_option maxRecDepth 100000 in
theorem impl_DecodeLog.calls (k : Nat) (A0 : Option Addr) (c0 : Nat) (l0 : List Int) (r1 : List S28) (r2 r3 : Int) (w : World) (hr0 : Kd.C (Kd.int .u8) w A0 l0.length l0) (hc0 : l0.length ≤ c0) (hE : ETok w) (h : impl_DecodeLog.f k l0 = some (r1, r2, r3)) :
    Calls Tryd.prog 8 #[.slice A0 l0.length c0] w fun e w' => ∃ v0_ : Value, e = .returned (.tuple #[v0_, .int .i64 r2, .int .i64 r3]) ∧ Kd.S kq 28 w' w.heap.size (fun _ => True) v0_ r1 ∧ Below w.heap.size w w' := by
  unfold impl_DecodeLog.f at h
  by_cases hn : l0.length ≤ 140737488355328
  case neg => rw [if_neg hn] at h; exact absurd h (by simp)
  rw [if_pos hn] at h
  obtain ⟨r, hr, hre⟩ := Option.map_eq_some_iff.1 h
  have hRd : Rdr (w.alloc (.cells #[.slice A0 l0.length c0, .int .i64 0] 53)) w.heap.size A0 c0 l0 0 := ⟨blk_new w _, Kd.C_alloc hr0 _, hc0, hn⟩
  have hRB : ∀ ad, A0 = some ad → 0 < l0.length → ad.block ≠ w.heap.size := fun ad e hp => by
    subst e
    obtain ⟨ad2, e2, hx⟩ := Kd.at_int hr0 0 (by omega) (by omega)
    obtain rfl := Option.some.inj e2
    have := World.block_lt_of_cell? w _ hx
    have e3 : (ad.add (0 : Int).toNat).block = ad.block := rfl
    rw [e3] at this
    omega
  have HALL := Aside0.mk (all_does k w.heap.size A0 c0 l0 0 _ hRd hRB r hr)
  have HB0 := Aside0.mk (below_alloc (Below.refl w.heap.size w) (.cells #[.slice A0 l0.length c0, .int .i64 0] 53))
  have HE := Aside0.mk hE
  have hw0 := hE.lt
  have kb : ∀ w2, KB (w.alloc (.cells #[.slice A0 l0.length c0, .int .i64 0] 53)) w2 w.heap.size → Below w.heap.size w w2 := fun w2 hk => HB0.out.trans (hk.bel _ (Nat.le_refl _))
  have KB := Aside0.mk kb
  clear h hn hr hRd hRB hr0 hc0 hE kb
  cases r with
  | inl f =>
    simp only [decR, Prod.mk.injEq] at hre
    obtain ⟨rfl, rfl, rfl⟩ := hre
    go_enter Tryd.func8, Tryd.ntmps8
    go_wp2_with (first | (go_at_call 27; refine HALL.out.mono ?_; rintro e w2 ⟨rfl, hk2⟩; have HB2 := Aside0.mk (KB.out w2 hk2); clear hk2) | (go_at_call 28; refine (as_hit f.1 f.2 w2.heap.size 0 0 _ (ETok.below (HE.out.below HB2.out) (below_alloc (Below.refl _ _) _)) (blk_cell (blk_new w2 _) 0) (blk_cell (blk_new w2 _) 1) (blk_frozen (blk_new w2 _) 0) (blk_frozen (blk_new w2 _) 1)).mono ?_; rintro e w3 ⟨rfl, hw3⟩; have HG3 := Aside0.mk (as_blk f.1 f.2 w2 hw3); have HB3 := Aside0.mk (as_below f.1 f.2 HB2.out HB2.out.size hw3); clear hw3; have h30 : w3.cell? ⟨w2.heap.size, 0, none⟩ = some (.int .i64 f.1) := blk_cell HG3.out 0; have h31 : w3.cell? ⟨w2.heap.size, 1, none⟩ = some (.int .i64 f.2) := blk_cell HG3.out 1))
    go_quiet (fail)
    go_wp2
    go_ret3
    exact ⟨_, rfl, Kd.S_nil _ _ _ _ _, pw_below_drewN HB3.out _⟩
  | inr cs =>
    simp only [decR, Prod.mk.injEq] at hre
    obtain ⟨rfl, rfl, rfl⟩ := hre
    go_enter Tryd.func8, Tryd.ntmps8
    go_wp2_with (first | (go_at_call 27; refine HALL.out.mono ?_; rintro e w2 ⟨v2, rfl, hS2, hk2⟩; have HS2 := Aside0.mk hS2; have HB2 := Aside0.mk (KB.out w2 hk2); clear hS2 hk2) | (go_at_call 28; refine (as_nil _ _).mono ?_; rintro e w3 ⟨rfl, rfl⟩))
    go_ret3
    exact ⟨_, rfl, Kd.S_alloc (Kd.S_lower HS2.out (by simp)) _, below_alloc HB2.out _⟩

end Go.Proofs.YtjpjfkmnfppgkaaDoor.P

namespace Go.Proofs.YtjpjfkmnfppgkaaDoor.P
open Go.RowKit Go.Proofs.YtjpjfkmnfppgkaaDoorW.PrintWords Go.Proofs.YtjpjfkmnfppgkaaDoorW.PrintLast Go.Proofs.YtjpjfkmnfppgkaaDoorW.PrintMore
set_option linter.unusedVariables false
set_option linter.unusedSimpArgs false
/-! The decoded log. -/
theorem equalBytes_ev (a b : List Int) (ha : a.length ≤ 1000000) (r : Bool) (hr : r = true ↔ a = b) : Ev (fun k => slices_Equal_byte_byte.f k a b) r := by
  by_cases h : a.length = b.length
  · refine Ev.congr (f := fun k => slices_Equal_byte_byte.l0 k a b (a.length : Int) 0) (fun k => by unfold slices_Equal_byte_byte.f; rw [if_pos (by omega)]) ?_
    refine ev_loop_eq (fun k i => slices_Equal_byte_byte.l0 k a b (a.length : Int) i) a b h (ev_end fun k => ?_) (fun i hi hi' e r hr => ev_step _ (fun k => ?_) hr) (fun i hi hi' e => ev_end fun k => ?_) r hr
    · simp only [slices_Equal_byte_byte.l0]; rw [if_neg (by omega)]
    · simp only [slices_Equal_byte_byte.l0]
      rw [if_pos (by omega), if_pos (by omega), if_pos (by omega), if_pos (by omega), rd_eq a i hi, rd_eq b i hi', if_pos e, wrap64_id (by omega) (by omega)]; rfl
    · simp only [slices_Equal_byte_byte.l0]
      rw [if_pos (by omega), if_pos (by omega), if_pos (by omega), if_pos (by omega), rd_eq a i hi, rd_eq b i hi', if_neg e]
  · have e : r = false := by
      cases r with
      | false => rfl
      | true => exact absurd (congrArg List.length (hr.1 rfl)) h
    rw [e]
    exact ev_is fun k => by unfold slices_Equal_byte_byte.f; rw [if_neg (by omega)]
def bodyD (l : List Int) (o n : Nat) : List Int := (l.take (o + 1 + n)).drop (o + 1)
def sumD (l : List Int) (o n : Nat) : List Int := (l.take (o + 5 + n)).drop (o + 1 + n)
def callAt (l : List Int) (o : Nat) : (Int × Int) ⊕ (S28 × Nat) :=
  if o = l.length then .inl (5, l.length) else
  if rd l o < 8 ∨ rd l o > 70 then .inl (6, o) else
  if l.length < o + 1 + (rd l o).toNat + 4 then .inl (5, l.length) else
  if le (crcSum (bodyD l o (rd l o).toNat)) 4 = sumD l o (rd l o).toNat then
    (if (callD (bodyD l o (rd l o).toNat)).2.2.2 = true then .inr (⟨(callD (bodyD l o (rd l o).toNat)).1, (callD (bodyD l o (rd l o).toNat)).2.1, (callD (bodyD l o (rd l o).toNat)).2.2.1⟩, o + 5 + (rd l o).toNat) else .inl (8, o + 1))
  else .inl (7, o + 1 + ((rd l o).toNat : Nat))
theorem rd_byte (l : List Int) (hb : ∀ x ∈ l, 0 ≤ x ∧ x < 256) (o : Nat) (h : o < l.length) : 0 ≤ rd l (o : Int) ∧ rd l (o : Int) < 256 := by
  rw [rd_eq l o h]; exact hb _ (List.getElem_mem h)
theorem bodyD_mem (l : List Int) (hb : ∀ x ∈ l, 0 ≤ x ∧ x < 256) (o n : Nat) : ∀ x ∈ bodyD l o n, 0 ≤ x ∧ x < 256 := fun x hx => hb x (List.mem_of_mem_take (List.mem_of_mem_drop hx))
theorem bodyD_length (l : List Int) (o n : Nat) : (bodyD l o n).length ≤ n := by unfold bodyD; rw [List.length_drop, List.length_take]; omega
theorem crcSum_range (l : List Int) : 0 ≤ crcSum l ∧ crcSum l < 4294967296 := by unfold crcSum; exact bits_u32 _ _ _
theorem callR_ev (l : List Int) (hl : l.length ≤ 1048576) (hb : ∀ x ∈ l, 0 ≤ x ∧ x < 256) (o : Nat) (ho : o ≤ l.length) : Ev (fun k => callR k l o) (callAt l o) := by
  unfold callR callAt
  by_cases c0 : o = l.length
  · rw [if_pos c0]
    exact Ev.congr (fun k => by rw [if_pos c0]) (Ev.now _)
  · have hlt : o < l.length := by omega
    have hr := rd_byte l hb o hlt
    have hw : wrap64 (rd l (o : Int)) = rd l (o : Int) := wrap64_id (by omega) (by omega)
    rw [if_neg c0, hw]
    by_cases c1 : rd l (o : Int) < 8 ∨ rd l (o : Int) > 70
    · rw [if_pos c1]
      exact Ev.congr (fun k => by rw [if_neg c0, if_pos hlt, if_pos c1]) (Ev.now _)
    · rw [if_neg c1]
      by_cases c2 : l.length < o + 1 + (rd l (o : Int)).toNat + 4
      · rw [if_pos c2]
        exact Ev.congr (fun k => by rw [if_neg c0, if_pos hlt, if_neg c1, if_pos c2]) (Ev.now _)
      · rw [if_neg c2]
        generalize hn : (rd l (o : Int)).toNat = n at c2 ⊢
        have hn70 : n ≤ 70 := by omega
        have hbl := bodyD_length l o n
        have hbm := bodyD_mem l hb o n
        have hcr := crcSum_range (bodyD l o n)
        have h1 := implChecksum_ev (bodyD l o n) (by omega) hbm
        have h2 := low_ev [] (crcSum (bodyD l o n)) 4 (by decide) (by simp)
        have h3 := equalBytes_ev (le (crcSum (bodyD l o n)) 4) (sumD l o n) (by rw [le_length]; decide) (decide (le (crcSum (bodyD l o n)) 4 = sumD l o n)) (by simp)
        have h4 := implCallOf_ev (bodyD l o n) (by omega) hbm
        refine Ev.congr (fun k => by rw [if_neg c0, if_pos hlt, if_neg c1, if_neg c2]; rfl) (Ev.bind h1 ?_)
        rw [wrap_u64_id hcr.1 (by omega)]
        refine Ev.bind h2 ?_
        rw [List.nil_append]
        refine Ev.bind h3 ?_
        by_cases c3 : le (crcSum (bodyD l o n)) 4 = sumD l o n
        · rw [if_pos c3]
          refine Ev.congr (f := fun k => (impl_callOf.f k (bodyD l o n)).bind fun q => if q.2.2.2 = true then some (.inr (⟨q.1, q.2.1, q.2.2.1⟩, o + 5 + n)) else some (.inl (8, o + 1))) (fun k => by rw [if_pos (decide_eq_true c3)]; rfl) (Ev.bind h4 ?_)
          have hD : callEnd (cofG 8 [] (bodyD l o n)) = callD (bodyD l o n) := rfl
          rw [hD]
          by_cases c4 : (callD (bodyD l o n)).2.2.2 = true
          · rw [if_pos c4]
            exact Ev.congr (fun k => by rw [if_pos c4]) (Ev.now _)
          · rw [if_neg c4]
            exact Ev.congr (fun k => by rw [if_neg c4]) (Ev.now _)
        · rw [if_neg c3]
          exact Ev.congr (fun k => by rw [if_neg (by rw [decide_eq_false c3]; decide)]) (Ev.now _)
theorem callAt_le (l : List Int) (o : Nat) (c : S28 × Nat) (h : callAt l o = .inr c) : c.2 ≤ l.length := by
  unfold callAt at h
  split at h
  · cases h
  · split at h
    · cases h
    · split at h
      · cases h
      · split at h
        · split at h
          · cases h
            dsimp only
            omega
          · cases h
        · cases h
def logD (l : List Int) : Nat → Nat → List S28 → (Int × Int) ⊕ List S28
  | 0, o, cs => if o < l.length then .inl (9, o) else .inr cs
  | n + 1, o, cs => match callAt l o with | .inl f => .inl f | .inr c => logD l n c.2 (cs ++ [c.1])
theorem logL_ev (l : List Int) (hl : l.length ≤ 1048576) (hb : ∀ x ∈ l, 0 ≤ x ∧ x < 256) : ∀ (n o : Nat) (cs : List S28), o ≤ l.length → Ev (fun k => logL k l n o cs) (logD l n o cs)
  | 0, o, cs, ho => by
    refine ev_is fun k => ?_
    unfold logL logD
    split <;> rfl
  | n + 1, o, cs, ho => by
    have h := callR_ev l hl hb o ho
    refine Ev.congr (f := fun k => (callR k l o).bind fun r => match r with | .inl f => some (.inl f) | .inr c => logL k l n c.2 (cs ++ [c.1])) (fun k => rfl) (Ev.bind (f := fun k r => match r with | .inl f => some (.inl f) | .inr c => logL k l n c.2 (cs ++ [c.1])) h ?_)
    unfold logD
    cases hc : callAt l o with
    | inl f => exact Ev.now _
    | inr c => exact logL_ev l hl hb n c.2 _ (callAt_le l o c hc)
def headD (l : List Int) : (Int × Int) ⊕ Int :=
  if l.length < 7 then .inl (5, l.length) else
  if rd l 0 ≠ 67 then .inl (2, 0) else if rd l 1 ≠ 76 then .inl (2, 1) else if rd l 2 ≠ 79 then .inl (2, 2) else if rd l 3 ≠ 71 then .inl (2, 3) else
  if rd l 4 ≠ 1 then .inl (3, 4) else
  if rd l 5 + 256 * rd l 6 > 1000 then .inl (4, 5) else .inr (rd l 5 + 256 * rd l 6)
theorem headR_is (l : List Int) (hb : ∀ x ∈ l, 0 ≤ x ∧ x < 256) : headR l = headD l := by
  unfold headR headD
  by_cases c : l.length < 7
  · rw [if_pos c, if_pos c]
  · rw [if_neg c, if_neg c, i64_of2 _ _ (show 0 ≤ rd l 5 ∧ rd l 5 < 256 from rd_byte l hb 5 (by omega)) (show 0 ≤ rd l 6 ∧ rd l 6 < 256 from rd_byte l hb 6 (by omega))]
def allD (l : List Int) : (Int × Int) ⊕ List S28 := match headD l with | .inl f => .inl f | .inr n => logD l n.toNat 7 []
theorem headD_ge (l : List Int) (n : Int) (h : headD l = .inr n) : 7 ≤ l.length := by
  by_cases c : l.length < 7
  · unfold headD at h; rw [if_pos c] at h; cases h
  · omega
theorem allR_ev (l : List Int) (hl : l.length ≤ 1048576) (hb : ∀ x ∈ l, 0 ≤ x ∧ x < 256) : Ev (fun k => allR k l) (allD l) := by
  unfold allR allD
  rw [headR_is l hb]
  cases hh : headD l with
  | inl f => exact Ev.now _
  | inr n => exact logL_ev l hl hb n.toNat 7 [] (headD_ge l n hh)
theorem implDecodeLog_ev (l : List Int) (hl : l.length ≤ 1048576) (hb : ∀ x ∈ l, 0 ≤ x ∧ x < 256) : Ev (fun k => impl_DecodeLog.f k l) (decR (allD l)) := by
  obtain ⟨K, hK⟩ := ev_get (allR_ev l hl hb)
  refine ev_mk K fun k hk => ?_
  unfold impl_DecodeLog.f
  rw [if_pos (by omega), hK k hk]
  rfl
end Go.Proofs.YtjpjfkmnfppgkaaDoor.P

namespace Go.Proofs.YtjpjfkmnfppgkaaDoor.P
open Go.RowKit Go.Proofs.YtjpjfkmnfppgkaaDoorW.PrintWords Go.Proofs.YtjpjfkmnfppgkaaDoorW.PrintLast Go.Proofs.YtjpjfkmnfppgkaaDoorW.PrintMore
attribute [local go_sem] max2_int min2_int max_two min_two max_three min_three max_four min_four   -- for this text's walks alone
set_option linter.unusedVariables false
set_option linter.unusedSimpArgs false

/-! ### spec_DecodeLog: function 10 -/
mutual
def spec_DecodeLog.l0 : Nat → List Int → Int → ByteArray → Int → Option ((List (S28)) × Int × Int)
  | 0, _, _, _, _ => none
  | k + 1, x0, x5, x6, x7 => if x7 < 4 then (if 0 ≤ x7 then (if x7 < (x0.length : Int) then (if x7 < (x6.size : Int) then (if (rd x0 x7) = (bt x6 x7) then (spec_DecodeLog.l0 k x0 x5 x6 (wrap64 (x7 + 1))) else (some (([] : List (S28)), 2, x7))) else (none)) else (none)) else (none)) else (if 4 < (x0.length : Int) then (if (rd x0 4) = 1 then (if 5 ≤ 7 then (if 7 ≤ (x0.length : Int) then ((spec_l1number.f k ((x0.take 7).drop 5)).bind fun t327 => (if (wrap64 (t327)) > 1000 then (some (([] : List (S28)), 4, 5)) else (spec_DecodeLog.l1 k x0 x5 (wrap64 (t327)) ([] : List (S28)) 7 0))) else (none)) else (none)) else (some (([] : List (S28)), 3, 4))) else (none))
def spec_DecodeLog.l1 : Nat → List Int → Int → Int → List (S28) → Int → Int → Option ((List (S28)) × Int × Int)
  | 0, _, _, _, _, _, _ => none
  | k + 1, x0, x5, x8, x9, x10, x11 => if x11 < x8 then (if x10 = x5 then (some (([] : List (S28)), 5, x5)) else (if 0 ≤ x10 then (if x10 < (x0.length : Int) then (if (wrap64 (rd x0 x10)) < 8 then (spec_DecodeLog.j2 k x0 x5 x8 x9 x10 x11 (wrap64 (rd x0 x10)) true) else (spec_DecodeLog.j2 k x0 x5 x8 x9 x10 x11 (wrap64 (rd x0 x10)) (decide ((wrap64 (rd x0 x10)) > 70)))) else (none)) else (none))) else (if x10 < x5 then (some (([] : List (S28)), 9, x10)) else (some (x9, 0, 0)))
def spec_DecodeLog.j2 : Nat → List Int → Int → Int → List (S28) → Int → Int → Int → Bool → Option ((List (S28)) × Int × Int)
  | 0, _, _, _, _, _, _, _, _ => none
  | k + 1, x0, x5, x8, x9, x10, x11, x12, x63 => if x63 = true then (some (([] : List (S28)), 6, x10)) else (if (wrap64 ((wrap64 ((wrap64 (x10 + 1)) + x12)) + 4)) > x5 then (some (([] : List (S28)), 5, x5)) else (if 0 ≤ (wrap64 (x10 + 1)) then (if (wrap64 (x10 + 1)) ≤ (wrap64 ((wrap64 (x10 + 1)) + x12)) then (if (wrap64 ((wrap64 (x10 + 1)) + x12)) ≤ (x0.length : Int) then ((spec_Checksum.f k ((x0.take ((wrap64 ((wrap64 (x10 + 1)) + x12)) : Int).toNat).drop ((wrap64 (x10 + 1)) : Int).toNat)).bind fun t330 => ((spec_l1little.f k (IntKind.u64.wrap (t330)) 4).bind fun t331 => (if 0 ≤ (wrap64 ((wrap64 (x10 + 1)) + x12)) then (if (wrap64 ((wrap64 (x10 + 1)) + x12)) ≤ (wrap64 ((wrap64 ((wrap64 (x10 + 1)) + x12)) + 4)) then (if (wrap64 ((wrap64 ((wrap64 (x10 + 1)) + x12)) + 4)) ≤ (x0.length : Int) then (if (strOfNums t331).toList = (strOfNums ((x0.take ((wrap64 ((wrap64 ((wrap64 (x10 + 1)) + x12)) + 4)) : Int).toNat).drop ((wrap64 ((wrap64 (x10 + 1)) + x12)) : Int).toNat)).toList then ((spec_l2call.f k ((x0.take ((wrap64 ((wrap64 (x10 + 1)) + x12)) : Int).toNat).drop ((wrap64 (x10 + 1)) : Int).toNat)).bind fun bt335 => (if bt335.2.2.2 = true then (if x9.length < 4398046511104 then (spec_DecodeLog.l1 k x0 x5 x8 (x9 ++ [(⟨bt335.1, bt335.2.1, bt335.2.2.1⟩ : S28)]) (wrap64 (x10 + (wrap64 ((wrap64 (1 + x12)) + 4)))) (wrap64 (x11 + 1))) else (none)) else (some (([] : List (S28)), 8, wrap64 (x10 + 1))))) else (some (([] : List (S28)), 7, wrap64 ((wrap64 (x10 + 1)) + x12)))) else (none)) else (none)) else (none)))) else (none)) else (none)) else (none)))
end
end Go.Proofs.YtjpjfkmnfppgkaaDoor.P

namespace Go.Proofs.YtjpjfkmnfppgkaaDoor.P
open Go.RowKit Go.Proofs.YtjpjfkmnfppgkaaDoorW.PrintWords Go.Proofs.YtjpjfkmnfppgkaaDoorW.PrintLast Go.Proofs.YtjpjfkmnfppgkaaDoorW.PrintMore
set_option linter.unusedVariables false
set_option linter.unusedSimpArgs false
end Go.Proofs.YtjpjfkmnfppgkaaDoor.P

namespace Go.Proofs.YtjpjfkmnfppgkaaDoor.P
open Go.RowKit Go.Proofs.YtjpjfkmnfppgkaaDoorW.PrintWords Go.Proofs.YtjpjfkmnfppgkaaDoorW.PrintLast Go.Proofs.YtjpjfkmnfppgkaaDoorW.PrintMore
attribute [local go_sem] max2_int min2_int max_two min_two max_three min_three max_four min_four   -- for this text's walks alone
set_option linter.unusedVariables false
set_option linter.unusedSimpArgs false

/-! ### laws_eqUint64S: function 55 -/
end Go.Proofs.YtjpjfkmnfppgkaaDoor.P

namespace Go.Proofs.YtjpjfkmnfppgkaaDoor.P
open Go.RowKit Go.Proofs.YtjpjfkmnfppgkaaDoorW.PrintWords Go.Proofs.YtjpjfkmnfppgkaaDoorW.PrintLast Go.Proofs.YtjpjfkmnfppgkaaDoorW.PrintMore
set_option linter.unusedVariables false
set_option linter.unusedSimpArgs false
end Go.Proofs.YtjpjfkmnfppgkaaDoor.P

namespace Go.Proofs.YtjpjfkmnfppgkaaDoor.P
open Go.RowKit Go.Proofs.YtjpjfkmnfppgkaaDoorW.PrintWords Go.Proofs.YtjpjfkmnfppgkaaDoorW.PrintLast Go.Proofs.YtjpjfkmnfppgkaaDoorW.PrintMore
attribute [local go_sem] max2_int min2_int max_two min_two max_three min_three max_four min_four   -- for this text's walks alone
set_option linter.unusedVariables false
set_option linter.unusedSimpArgs false

/-! ### laws_markUint64S: function 35 -/
end Go.Proofs.YtjpjfkmnfppgkaaDoor.P

namespace Go.Proofs.YtjpjfkmnfppgkaaDoor.P
open Go.RowKit Go.Proofs.YtjpjfkmnfppgkaaDoorW.PrintWords Go.Proofs.YtjpjfkmnfppgkaaDoorW.PrintLast Go.Proofs.YtjpjfkmnfppgkaaDoorW.PrintMore
set_option linter.unusedVariables false
set_option linter.unusedSimpArgs false
end Go.Proofs.YtjpjfkmnfppgkaaDoor.P

namespace Go.Proofs.YtjpjfkmnfppgkaaDoor.P
open Go.RowKit Go.Proofs.YtjpjfkmnfppgkaaDoorW.PrintWords Go.Proofs.YtjpjfkmnfppgkaaDoorW.PrintLast Go.Proofs.YtjpjfkmnfppgkaaDoorW.PrintMore
attribute [local go_sem] max2_int min2_int max_two min_two max_three min_three max_four min_four   -- for this text's walks alone
set_option linter.unusedVariables false
set_option linter.unusedSimpArgs false

/-! ### laws_eqCall: function 34 -/
end Go.Proofs.YtjpjfkmnfppgkaaDoor.P

namespace Go.Proofs.YtjpjfkmnfppgkaaDoor.P
open Go.RowKit Go.Proofs.YtjpjfkmnfppgkaaDoorW.PrintWords Go.Proofs.YtjpjfkmnfppgkaaDoorW.PrintLast Go.Proofs.YtjpjfkmnfppgkaaDoorW.PrintMore
attribute [local go_sem] max2_int min2_int max_two min_two max_three min_three max_four min_four   -- for this text's walks alone
set_option linter.unusedVariables false
set_option linter.unusedSimpArgs false

/-! ### laws_eqCallS: function 12 -/
end Go.Proofs.YtjpjfkmnfppgkaaDoor.P

namespace Go.Proofs.YtjpjfkmnfppgkaaDoor.P
open Go.RowKit Go.Proofs.YtjpjfkmnfppgkaaDoorW.PrintWords Go.Proofs.YtjpjfkmnfppgkaaDoorW.PrintLast Go.Proofs.YtjpjfkmnfppgkaaDoorW.PrintMore
attribute [local go_sem] max2_int min2_int max_two min_two max_three min_three max_four min_four   -- for this text's walks alone
set_option linter.unusedVariables false
set_option linter.unusedSimpArgs false

end Go.Proofs.YtjpjfkmnfppgkaaDoor.P

namespace Go.Proofs.YtjpjfkmnfppgkaaDoor.P
open Go.RowKit Go.Proofs.YtjpjfkmnfppgkaaDoorW.PrintWords Go.Proofs.YtjpjfkmnfppgkaaDoorW.PrintLast Go.Proofs.YtjpjfkmnfppgkaaDoorW.PrintMore
set_option linter.unusedVariables false
set_option linter.unusedSimpArgs false
end Go.Proofs.YtjpjfkmnfppgkaaDoor.P

namespace Go.Proofs.YtjpjfkmnfppgkaaDoor.P
open Go.RowKit Go.Proofs.YtjpjfkmnfppgkaaDoorW.PrintWords Go.Proofs.YtjpjfkmnfppgkaaDoorW.PrintLast Go.Proofs.YtjpjfkmnfppgkaaDoorW.PrintMore
set_option linter.unusedVariables false
set_option linter.unusedSimpArgs false
/-! The reference's decoder, and the costs of what it gives. -/
/-! What is decoded is small. -/
def small (c : S28) : Prop := c.f2.length ≤ 1000000
end Go.Proofs.YtjpjfkmnfppgkaaDoor.P

namespace Go.Proofs.YtjpjfkmnfppgkaaDoor.P
open Go.RowKit Go.Proofs.YtjpjfkmnfppgkaaDoorW.PrintWords Go.Proofs.YtjpjfkmnfppgkaaDoorW.PrintLast Go.Proofs.YtjpjfkmnfppgkaaDoorW.PrintMore
set_option linter.unusedVariables false
set_option linter.unusedSimpArgs false
/-! What is encoded decodes. -/
theorem firstP_varF : ∀ (n : Nat) (v : Int) (cur rest : List Int), 0 ≤ v → v < 128 ^ (n + 1) → firstP cur (varF n v ++ rest) = some (cur ++ varF n v, rest)
  | 0, v, cur, rest, h0, h1 => by
    have : (128 : Int) ^ (0 + 1) = 128 := by decide
    simp only [varF, List.cons_append, List.nil_append, firstP]
    rw [if_pos (by omega)]
  | n + 1, v, cur, rest, h0, h1 => by
    unfold varF
    by_cases c : v < 128
    · rw [if_pos c]
      simp only [List.cons_append, List.nil_append, firstP]
      rw [if_pos c]
    · rw [if_neg c]
      simp only [List.cons_append, firstP]
      rw [if_neg (by omega), firstP_varF n (v / 128) _ rest (by omega) (by rw [Int.pow_succ] at h1; omega), List.append_assoc]
      rfl
theorem cutP_vars : ∀ vs : List Int, (∀ v ∈ vs, U v) → cutP [] (vs.flatMap varB) = (vs.map varB, true)
  | [], h => rfl
  | v :: r, h => by
    have hv := h v (List.mem_cons_self ..)
    have ih := cutP_vars r (fun x hx => h x (List.mem_cons_of_mem _ hx))
    rw [cutP_first, List.flatMap_cons]
    unfold varB at ih ⊢
    rw [firstP_varF 9 v [] _ hv.1 (Int.lt_of_lt_of_le hv.2 pow128)]
    dsimp only
    rw [ih]
    rfl
theorem okP_varB (v : Int) (h : U v) : okP (varB v) ∧ valB (varB v) = v := by
  have e : valB (varB v) = v := valB_varF 9 v h.1 (Int.lt_of_lt_of_le h.2 pow128)
  exact ⟨⟨(varB_length v).2, by rw [e]; exact h.2, by rw [e]⟩, e⟩
theorem map_valB_varB : ∀ vs : List Int, (∀ v ∈ vs, U v) → (vs.map varB).map valB = vs
  | [], h => rfl
  | v :: r, h => by
    rw [List.map_cons, List.map_cons, map_valB_varB r (fun x hx => h x (List.mem_cons_of_mem _ hx)), (okP_varB v (h v (List.mem_cons_self ..))).2]
theorem callD_body (c : S28) (h : ok6 c) : callD (bodyB c.f0 c.f1 c.f2) = (c.f0, c.f1, c.f2, true) := by
  obtain ⟨⟨h0, h1, h2, h3⟩, h6⟩ := h
  have hU : ∀ v ∈ c.f0 :: c.f1 :: c.f2, U v := by
    intro v hv
    rcases List.mem_cons.1 hv with g | hv
    · rw [g]; exact ⟨h0.1, by omega⟩
    · rcases List.mem_cons.1 hv with g | hv
      · rw [g]; exact ⟨h1.1, by omega⟩
      · exact h2 v hv
  have hb : bodyB c.f0 c.f1 c.f2 = (c.f0 :: c.f1 :: c.f2).flatMap varB := by
    unfold bodyB
    rw [List.flatMap_cons, List.flatMap_cons, List.append_assoc]
  have hbm : ∀ x ∈ bodyB c.f0 c.f1 c.f2, 0 ≤ x ∧ x < 256 := bodyB_mem _ _ _ ⟨h0.1, by omega⟩ ⟨h1.1, by omega⟩ h2
  have hc := cutP_vars _ hU
  have h8 : (c.f0 :: c.f1 :: c.f2).length = 8 := by rw [List.length_cons, List.length_cons, h6]
  rw [callD_is _ hbm, hb, hc]
  rw [if_pos ⟨rfl, by rw [List.length_map]; exact h8⟩]
  unfold pieceE
  have hall : ∀ p ∈ (c.f0 :: c.f1 :: c.f2).map varB, okP p := fun p hp => by
    obtain ⟨v, hv, rfl⟩ := List.mem_map.1 hp
    exact (okP_varB v (hU v hv)).1
  dsimp only
  rw [if_pos hall, map_valB_varB _ hU]
  have r0 : rd (c.f0 :: c.f1 :: c.f2) 0 = c.f0 := rfl
  have r1 : rd (c.f0 :: c.f1 :: c.f2) 1 = c.f1 := rfl
  simp only [callEnd]
  rw [if_neg (by simp), r0, r1, if_neg (by omega), if_neg (by omega), Int.emod_eq_of_lt h0.1 h0.2, Int.emod_eq_of_lt h1.1 h1.2]
  rfl
theorem varF_len5 : ∀ (n : Nat) (m : Nat) (v : Int), 0 ≤ v → v < 128 ^ (m + 1) → (varF n v).length ≤ m + 1
  | 0, m, v, h0, h1 => by simp [varF]
  | n + 1, m, v, h0, h1 => by
    unfold varF
    by_cases c : v < 128
    · rw [if_pos c]; simp
    · rw [if_neg c]
      cases m with
      | zero => have : (128 : Int) ^ (0 + 1) = 128 := by decide
                omega
      | succ m =>
        have := varF_len5 n m (v / 128) (by omega) (by rw [Int.pow_succ] at h1; omega)
        rw [List.length_cons]
        omega
theorem varB_len5 (v : Int) (h0 : 0 ≤ v) (h1 : v < 4294967296) : (varB v).length ≤ 5 := varF_len5 9 4 v h0 (Int.lt_of_lt_of_le h1 (by decide))
theorem flatB_ge' : ∀ args : List Int, args.length ≤ (args.flatMap varB).length
  | [] => by simp
  | x :: l => by
    have := flatB_ge' l
    have := varB_length x
    rw [List.flatMap_cons, List.length_append, List.length_cons]
    omega
theorem bodyB_70 (c : S28) (h : ok6 c) : 8 ≤ (bodyB c.f0 c.f1 c.f2).length ∧ (bodyB c.f0 c.f1 c.f2).length ≤ 70 := by
  have h1 := flatB_length c.f2
  have h2 := flatB_ge' c.f2
  have h3 := varB_len5 c.f0 h.1.1.1 h.1.1.2
  have h4 := varB_len5 c.f1 h.1.2.1.1 h.1.2.1.2
  have h5 := varB_length c.f0
  have h6 := varB_length c.f1
  have h7 := h.2
  unfold bodyB
  rw [List.length_append, List.length_append]
  omega
theorem frameC_len (c : S28) : (frameC c).length = (bodyB c.f0 c.f1 c.f2).length + 5 := by
  have := le_length (crcSum (bodyB c.f0 c.f1 c.f2)) 4
  unfold frameC frameB
  simp only [List.length_append, List.length_singleton]
  omega
theorem frameC_is (c : S28) (h : ok6 c) : frameC c = [((bodyB c.f0 c.f1 c.f2).length : Int)] ++ bodyB c.f0 c.f1 c.f2 ++ le (crcSum (bodyB c.f0 c.f1 c.f2)) 4 := by
  have := bodyB_70 c h
  unfold frameC frameB
  rw [Int.emod_eq_of_lt (by omega) (by omega)]
theorem drop_parts (l a b d r : List Int) (o : Nat) (h : l.drop o = a ++ b ++ d ++ r) (ha : a.length = 1) (ho : o ≤ l.length) : l.length = o + 1 + b.length + d.length + r.length ∧ (l.take (o + 1 + b.length)).drop (o + 1) = b ∧ (l.take (o + 1 + b.length + d.length)).drop (o + 1 + b.length) = d ∧ l.drop (o + 1 + b.length + d.length) = r ∧ rd l (o : Int) = rd a 0 := by
  have hlen := congrArg List.length h
  simp only [List.length_drop, List.length_append] at hlen
  have hl : l.length = o + 1 + b.length + d.length + r.length := by omega
  have e1 : l.drop (o + 1) = b ++ d ++ r := by
    rw [← List.drop_drop, h, List.append_assoc, List.append_assoc, List.drop_append_of_le_length (by omega), List.drop_of_length_le (by omega), List.nil_append, List.append_assoc]
  have e2 : l.drop (o + 1 + b.length) = d ++ r := by
    rw [← List.drop_drop, e1, List.append_assoc, List.drop_left]
  have e3 : l.drop (o + 1 + b.length + d.length) = r := by rw [← List.drop_drop, e2, List.drop_left]
  refine ⟨hl, ?_, ?_, e3, ?_⟩
  · rw [List.drop_take, e1, show o + 1 + b.length - (o + 1) = b.length by omega, List.append_assoc, List.take_left]
  · rw [List.drop_take, e2, show o + 1 + b.length + d.length - (o + 1 + b.length) = d.length by omega, List.take_left]
  · match a, ha with
    | [x], _ =>
      have hlt : o < l.length := by omega
      rw [List.drop_eq_getElem_cons hlt] at h
      rw [rd_eq l o hlt]
      have := (List.cons.inj h).1
      rw [this]
      rfl
theorem callAt_frame (l : List Int) (o : Nat) (ho : o ≤ l.length) (c : S28) (h : ok6 c) (rest : List Int) (hd : l.drop o = frameC c ++ rest) : callAt l o = .inr (c, o + (frameC c).length) ∧ l.drop (o + (frameC c).length) = rest ∧ o + (frameC c).length ≤ l.length := by
  have hn := bodyB_70 c h
  have h4 := le_length (crcSum (bodyB c.f0 c.f1 c.f2)) 4
  rw [frameC_is c h] at hd
  obtain ⟨p1, p2, p3, p4, p5⟩ := drop_parts l _ _ _ rest o hd rfl ho
  rw [h4] at p1 p3 p4
  have hr : rd l (o : Int) = ((bodyB c.f0 c.f1 c.f2).length : Int) := p5
  have hcd := callD_body c h
  have hb : bodyD l o (bodyB c.f0 c.f1 c.f2).length = bodyB c.f0 c.f1 c.f2 := p2
  have hs : sumD l o (bodyB c.f0 c.f1 c.f2).length = le (crcSum (bodyB c.f0 c.f1 c.f2)) 4 := by
    unfold sumD
    rw [show o + 5 + (bodyB c.f0 c.f1 c.f2).length = o + 1 + (bodyB c.f0 c.f1 c.f2).length + 4 by omega]
    exact p3
  have hfl := frameC_len c
  have e : o + 5 + (bodyB c.f0 c.f1 c.f2).length = o + (frameC c).length := by omega
  refine ⟨?_, by rw [← e, show o + 5 + (bodyB c.f0 c.f1 c.f2).length = o + 1 + (bodyB c.f0 c.f1 c.f2).length + 4 by omega]; exact p4, by omega⟩
  unfold callAt
  rw [if_neg (by omega), hr, if_neg (by omega), Int.toNat_natCast, if_neg (by omega), hb, hs, if_pos rfl, hcd, if_pos rfl, e]
theorem logD_frames (l : List Int) : ∀ (cs : List S28) (o : Nat) (acc : List S28), (∀ c ∈ cs, ok6 c) → o ≤ l.length → l.drop o = cs.flatMap frameC → logD l cs.length o acc = .inr (acc ++ cs)
  | [], o, acc, h, ho, hd => by
    have hlen := congrArg List.length hd
    rw [List.length_drop] at hlen
    unfold logD
    rw [List.length_nil]
    dsimp only
    rw [if_neg (by simp at hlen; omega), List.append_nil]
  | c :: r, o, acc, h, ho, hd => by
    rw [List.flatMap_cons] at hd
    obtain ⟨h1, h2, h3⟩ := callAt_frame l o ho c (h c (List.mem_cons_self ..)) _ hd
    rw [List.length_cons, logD, h1]
    dsimp only
    rw [logD_frames l r _ _ (fun x hx => h x (List.mem_cons_of_mem _ hx)) h3 h2, List.append_assoc]
    rfl
end Go.Proofs.YtjpjfkmnfppgkaaDoor.P
