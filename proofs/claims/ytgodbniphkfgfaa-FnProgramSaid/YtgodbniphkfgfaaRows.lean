/-
  No cell of these rows narrows 'for every input' (looked for: loops, veiled, ifaces, maps, wideKeys, modest, calm, conditions, laid).
  DERIVED. THE GIVEN ROWS OF THIS SEAT. 4 by the template 'for every input the law returns true; each argument reads behind the call as it read before'; 0 by the template 'total and deterministic' (their statements: YtgodbniphkfgfaaTotals.lean).
  GIVEN WITH THE SEED: the statements are not yours to turn. If you find one false, say at which input.
  Laid BY PROGRAM, IN A SANDBOX (cutbox-rows.mjs): the forced cells as the released guide's own fill.sh prints them over the translation 52f1ae7b0b8ba5dd… (all of the seat's roots in one cut). By AI agents, Wed Nov 11 2026. No macro, syntax, notation, axiom, sorry.
-/
import Derived.Test.YtgodbniphkfgfaaChecked
import GoSem.Claim
import GoSem.ClaimJoined
import GoSem.ClaimMapViews
import Derived.JoinedTies
import Derived.KernelRfl
namespace Go.Proofs.Ytgodbniphkfgfaa
/- THE CELL 'sum', in the pinned program and in every row, IS THE sha256 OF THE DUMP (.gsa) THAT YtgodbniphkfgfaaProg.lean LOADS. Nothing in Lean hashes anything: it is a label: what it is worth is what the hold of that sum in a sandbox is worth. -/
noncomputable def Try.pinned : Pinned := { name := "ytgodbniphkfgfaa", sum := "52f1ae7b0b8ba5dded20abd71edb1863d87918a06d655a000fce89a0c21d60ff", checked := Try.checked }
namespace Rows
def none {H : Type} : Left H := { results := [], args := [] }

/-- 'laws.FnExactDecodeProgram': WHATEVER THE INPUT: true; the input reads as it did. -/
def fnExactDecodeProgramSpec : ChangeSpec := { name := "fnExactDecodeProgram", fn := fun _ => fun
  | [d] => { results := [.lit (.bool true)], args := [d] }
  | _ => none }
def fnExactDecodeProgramRow : OpenClaim := { program := "ytgodbniphkfgfaa", sum := "52f1ae7b0b8ba5dded20abd71edb1863d87918a06d655a000fce89a0c21d60ff", func := "loop.example/s0039/laws.FnExactDecodeProgram", spec := "fnExactDecodeProgram", unfollowed := true, recurses := true, apart := false }
def FnExactDecodeProgramSaid : Prop := fnExactDecodeProgramRow.holds Try.pinned (OpenSpec.ofChange fnExactDecodeProgramSpec)

/-- ITS FALSE NEIGHBOUR: 'it returns false'. Refute it at one input. -/
def fnExactDecodeProgramWrong : ChangeSpec := { name := "fnExactDecodeProgram", fn := fun _ => fun
  | [d] => { results := [.lit (.bool false)], args := [d] }
  | _ => none }
def FnExactDecodeProgramWrongFalsely : Prop := fnExactDecodeProgramRow.holds Try.pinned (OpenSpec.ofChange fnExactDecodeProgramWrong)

/-- 'laws.FnExactAssemble': WHATEVER THE INPUT: true; the input reads as it did. -/
def fnExactAssembleSpec : ChangeSpec := { name := "fnExactAssemble", fn := fun _ => fun
  | [d] => { results := [.lit (.bool true)], args := [d] }
  | _ => none }
def fnExactAssembleRow : OpenClaim := { program := "ytgodbniphkfgfaa", sum := "52f1ae7b0b8ba5dded20abd71edb1863d87918a06d655a000fce89a0c21d60ff", func := "loop.example/s0039/laws.FnExactAssemble", spec := "fnExactAssemble", apart := false }
def FnExactAssembleSaid : Prop := fnExactAssembleRow.holds Try.pinned (OpenSpec.ofChange fnExactAssembleSpec)

/-- ITS FALSE NEIGHBOUR: 'it returns false'. Refute it at one input. -/
def fnExactAssembleWrong : ChangeSpec := { name := "fnExactAssemble", fn := fun _ => fun
  | [d] => { results := [.lit (.bool false)], args := [d] }
  | _ => none }
def FnExactAssembleWrongFalsely : Prop := fnExactAssembleRow.holds Try.pinned (OpenSpec.ofChange fnExactAssembleWrong)

/-- 'laws.FnExactRun': WHATEVER THE INPUT: true; the input reads as it did. -/
def fnExactRunSpec : ChangeSpec := { name := "fnExactRun", fn := fun _ => fun
  | [d1, d2] => { results := [.lit (.bool true)], args := [d1, d2] }
  | _ => none }
def fnExactRunRow : OpenClaim := { program := "ytgodbniphkfgfaa", sum := "52f1ae7b0b8ba5dded20abd71edb1863d87918a06d655a000fce89a0c21d60ff", func := "loop.example/s0039/laws.FnExactRun", spec := "fnExactRun", recurses := true, apart := false }
def FnExactRunSaid : Prop := fnExactRunRow.holds Try.pinned (OpenSpec.ofChange fnExactRunSpec)

/-- ITS FALSE NEIGHBOUR: 'it returns false'. Refute it at one input. -/
def fnExactRunWrong : ChangeSpec := { name := "fnExactRun", fn := fun _ => fun
  | [d1, d2] => { results := [.lit (.bool false)], args := [d1, d2] }
  | _ => none }
def FnExactRunWrongFalsely : Prop := fnExactRunRow.holds Try.pinned (OpenSpec.ofChange fnExactRunWrong)

/-- 'laws.FnProgram': WHATEVER THE INPUT: true; the input reads as it did. -/
def fnProgramSpec : ChangeSpec := { name := "fnProgram", fn := fun _ => fun
  | [d] => { results := [.lit (.bool true)], args := [d] }
  | _ => none }
def fnProgramRow : OpenClaim := { program := "ytgodbniphkfgfaa", sum := "52f1ae7b0b8ba5dded20abd71edb1863d87918a06d655a000fce89a0c21d60ff", func := "loop.example/s0039/laws.FnProgram", spec := "fnProgram", unfollowed := true, recurses := true, apart := false }
def FnProgramSaid : Prop := fnProgramRow.holds Try.pinned (OpenSpec.ofChange fnProgramSpec)

/-- ITS FALSE NEIGHBOUR: 'it returns false'. Refute it at one input. -/
def fnProgramWrong : ChangeSpec := { name := "fnProgram", fn := fun _ => fun
  | [d] => { results := [.lit (.bool false)], args := [d] }
  | _ => none }
def FnProgramWrongFalsely : Prop := fnProgramRow.holds Try.pinned (OpenSpec.ofChange fnProgramWrong)

/- THE SECOND FORM. 'bulk': how many values and letters a reading holds, each counted each time it is reached (what is shared counts as often as it is met; a slice's spare places count too). A statement '..UptoSaid' is the law's where the arguments, and the package variables that the reading takes, are together of bulk at most 1048576: NARROWER than '..Said'. Prove '..Said' where nothing that the law and all that it calls make is longer than what came in: it says more and counts as full. Else prove '..UptoSaid'. A law counts once. -/
mutual
def uptoBulk {H : Type} : DataW H → Nat
  | .lit (.string bytes) => bytes.length + 1
  | .lit _ => 1
  | .nil => 1
  | .ptr d => uptoBulk d + 1
  | .slice elems spare => uptoBulkAll elems + uptoBulkAll spare + 1
  | .agg parts => uptoBulkAll parts + 1
  | .iface _ d => uptoBulk d + 1
  | .map entries => uptoBulkEntries entries + 1
  | .held _ => 1
def uptoBulkAll {H : Type} : List (DataW H) → Nat
  | [] => 0
  | d :: r => uptoBulk d + uptoBulkAll r
def uptoBulkEntries {H : Type} : List (Lit × DataW H) → Nat
  | [] => 0
  | x :: r => uptoBulkEntry x + uptoBulkEntries r
def uptoBulkEntry {H : Type} : Lit × DataW H → Nat
  | (.string bytes, d) => bytes.length + uptoBulk d + 1
  | (_, d) => uptoBulk d + 1
 end
def uptoSmall : (H : Type) → List (DataW H) → Bool := fun _ ds => decide (uptoBulkAll ds ≤ 1048576)
def OpenSpec.upto (s : _root_.Go.ChangeSpec) : _root_.Go.OpenSpec := { _root_.Go.OpenSpec.ofChange s with cond := some uptoSmall }

/-- 'laws.FnExactDecodeProgram', WHERE WHAT IT READS IS OF BULK AT MOST 1048576: true; the input reads as it did. -/
def fnExactDecodeProgramUptoRow : OpenClaim := { program := "ytgodbniphkfgfaa", sum := "52f1ae7b0b8ba5dded20abd71edb1863d87918a06d655a000fce89a0c21d60ff", func := "loop.example/s0039/laws.FnExactDecodeProgram", spec := "fnExactDecodeProgram", unfollowed := true, recurses := true, apart := false, narrowed := true }
def FnExactDecodeProgramUptoSaid : Prop := fnExactDecodeProgramUptoRow.holds Try.pinned (OpenSpec.upto fnExactDecodeProgramSpec)

/-- 'laws.FnExactAssemble', WHERE WHAT IT READS IS OF BULK AT MOST 1048576: true; the input reads as it did. -/
def fnExactAssembleUptoRow : OpenClaim := { program := "ytgodbniphkfgfaa", sum := "52f1ae7b0b8ba5dded20abd71edb1863d87918a06d655a000fce89a0c21d60ff", func := "loop.example/s0039/laws.FnExactAssemble", spec := "fnExactAssemble", apart := false, narrowed := true }
def FnExactAssembleUptoSaid : Prop := fnExactAssembleUptoRow.holds Try.pinned (OpenSpec.upto fnExactAssembleSpec)

/-- 'laws.FnExactRun', WHERE WHAT IT READS IS OF BULK AT MOST 1048576: true; the input reads as it did. -/
def fnExactRunUptoRow : OpenClaim := { program := "ytgodbniphkfgfaa", sum := "52f1ae7b0b8ba5dded20abd71edb1863d87918a06d655a000fce89a0c21d60ff", func := "loop.example/s0039/laws.FnExactRun", spec := "fnExactRun", recurses := true, apart := false, narrowed := true }
def FnExactRunUptoSaid : Prop := fnExactRunUptoRow.holds Try.pinned (OpenSpec.upto fnExactRunSpec)

/-- 'laws.FnProgram', WHERE WHAT IT READS IS OF BULK AT MOST 1048576: true; the input reads as it did. -/
def fnProgramUptoRow : OpenClaim := { program := "ytgodbniphkfgfaa", sum := "52f1ae7b0b8ba5dded20abd71edb1863d87918a06d655a000fce89a0c21d60ff", func := "loop.example/s0039/laws.FnProgram", spec := "fnProgram", unfollowed := true, recurses := true, apart := false, narrowed := true }
def FnProgramUptoSaid : Prop := fnProgramUptoRow.holds Try.pinned (OpenSpec.upto fnProgramSpec)

end Rows
end Go.Proofs.Ytgodbniphkfgfaa
