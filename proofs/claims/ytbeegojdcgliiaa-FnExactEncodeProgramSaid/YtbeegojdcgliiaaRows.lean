/-
  No cell of these rows narrows 'for every input' (looked for: loops, veiled, ifaces, maps, wideKeys, modest, calm, conditions, laid).
  DERIVED. THE GIVEN ROWS OF THIS SEAT. 6 by the template 'for every input the law returns true; each argument reads behind the call as it read before'; 0 by the template 'total and deterministic' (their statements: YtbeegojdcgliiaaTotals.lean).
  GIVEN WITH THE SEED: the statements are not yours to turn. If you find one false, say at which input.
  Laid BY PROGRAM, IN A SANDBOX (cutbox-rows.mjs): the forced cells as the released guide's own fill.sh prints them over the translation dc4847aa3371a86f… (all of the seat's roots in one cut). By AI agents, Wed Nov 11 2026. No macro, syntax, notation, axiom, sorry.
-/
import Derived.Test.YtbeegojdcgliiaaChecked
import GoSem.Claim
import GoSem.ClaimJoined
import GoSem.ClaimMapViews
import Derived.JoinedTies
import Derived.KernelRfl
namespace Go.Proofs.Ytbeegojdcgliiaa
/- THE CELL 'sum', in the pinned program and in every row, IS THE sha256 OF THE DUMP (.gsa) THAT YtbeegojdcgliiaaProg.lean LOADS. Nothing in Lean hashes anything: it is a label: what it is worth is what the hold of that sum in a sandbox is worth. -/
noncomputable def Try.pinned : Pinned := { name := "ytbeegojdcgliiaa", sum := "dc4847aa3371a86f39b730f06abba42c2607959a1b04f5f91f07acbb9ce66862", checked := Try.checked }
namespace Rows
def none {H : Type} : Left H := { results := [], args := [] }

/-- 'laws.FnExactConstants': WHATEVER THE INPUT: true; the input reads as it did. -/
def fnExactConstantsSpec : ChangeSpec := { name := "fnExactConstants", fn := fun _ => fun
  | [] => { results := [.lit (.bool true)], args := [] }
  | _ => none }
def fnExactConstantsRow : OpenClaim := { program := "ytbeegojdcgliiaa", sum := "dc4847aa3371a86f39b730f06abba42c2607959a1b04f5f91f07acbb9ce66862", func := "loop.example/s0039/laws.FnExactConstants", spec := "fnExactConstants", apart := false }
def FnExactConstantsSaid : Prop := fnExactConstantsRow.holds Try.pinned (OpenSpec.ofChange fnExactConstantsSpec)

/-- ITS FALSE NEIGHBOUR: 'it returns false'. Refute it at one input. -/
def fnExactConstantsWrong : ChangeSpec := { name := "fnExactConstants", fn := fun _ => fun
  | [] => { results := [.lit (.bool false)], args := [] }
  | _ => none }
def FnExactConstantsWrongFalsely : Prop := fnExactConstantsRow.holds Try.pinned (OpenSpec.ofChange fnExactConstantsWrong)

/-- 'laws.FnExactChecksum': WHATEVER THE INPUT: true; the input reads as it did. -/
def fnExactChecksumSpec : ChangeSpec := { name := "fnExactChecksum", fn := fun _ => fun
  | [d] => { results := [.lit (.bool true)], args := [d] }
  | _ => none }
def fnExactChecksumRow : OpenClaim := { program := "ytbeegojdcgliiaa", sum := "dc4847aa3371a86f39b730f06abba42c2607959a1b04f5f91f07acbb9ce66862", func := "loop.example/s0039/laws.FnExactChecksum", spec := "fnExactChecksum", apart := false }
def FnExactChecksumSaid : Prop := fnExactChecksumRow.holds Try.pinned (OpenSpec.ofChange fnExactChecksumSpec)

/-- ITS FALSE NEIGHBOUR: 'it returns false'. Refute it at one input. -/
def fnExactChecksumWrong : ChangeSpec := { name := "fnExactChecksum", fn := fun _ => fun
  | [d] => { results := [.lit (.bool false)], args := [d] }
  | _ => none }
def FnExactChecksumWrongFalsely : Prop := fnExactChecksumRow.holds Try.pinned (OpenSpec.ofChange fnExactChecksumWrong)

/-- 'laws.FnExactNormCon': WHATEVER THE INPUT: true; the input reads as it did. -/
def fnExactNormConSpec : ChangeSpec := { name := "fnExactNormCon", fn := fun _ => fun
  | [d] => { results := [.lit (.bool true)], args := [d] }
  | _ => none }
def fnExactNormConRow : OpenClaim := { program := "ytbeegojdcgliiaa", sum := "dc4847aa3371a86f39b730f06abba42c2607959a1b04f5f91f07acbb9ce66862", func := "loop.example/s0039/laws.FnExactNormCon", spec := "fnExactNormCon", apart := false }
def FnExactNormConSaid : Prop := fnExactNormConRow.holds Try.pinned (OpenSpec.ofChange fnExactNormConSpec)

/-- ITS FALSE NEIGHBOUR: 'it returns false'. Refute it at one input. -/
def fnExactNormConWrong : ChangeSpec := { name := "fnExactNormCon", fn := fun _ => fun
  | [d] => { results := [.lit (.bool false)], args := [d] }
  | _ => none }
def FnExactNormConWrongFalsely : Prop := fnExactNormConRow.holds Try.pinned (OpenSpec.ofChange fnExactNormConWrong)

/-- 'laws.FnExactEncodeProgram': WHATEVER THE INPUT: true; the input reads as it did. -/
def fnExactEncodeProgramSpec : ChangeSpec := { name := "fnExactEncodeProgram", fn := fun _ => fun
  | [d] => { results := [.lit (.bool true)], args := [d] }
  | _ => none }
def fnExactEncodeProgramRow : OpenClaim := { program := "ytbeegojdcgliiaa", sum := "dc4847aa3371a86f39b730f06abba42c2607959a1b04f5f91f07acbb9ce66862", func := "loop.example/s0039/laws.FnExactEncodeProgram", spec := "fnExactEncodeProgram", apart := false }
def FnExactEncodeProgramSaid : Prop := fnExactEncodeProgramRow.holds Try.pinned (OpenSpec.ofChange fnExactEncodeProgramSpec)

/-- ITS FALSE NEIGHBOUR: 'it returns false'. Refute it at one input. -/
def fnExactEncodeProgramWrong : ChangeSpec := { name := "fnExactEncodeProgram", fn := fun _ => fun
  | [d] => { results := [.lit (.bool false)], args := [d] }
  | _ => none }
def FnExactEncodeProgramWrongFalsely : Prop := fnExactEncodeProgramRow.holds Try.pinned (OpenSpec.ofChange fnExactEncodeProgramWrong)

/-- 'laws.FnExactMakeRecord': WHATEVER THE INPUT: true; the input reads as it did. -/
def fnExactMakeRecordSpec : ChangeSpec := { name := "fnExactMakeRecord", fn := fun _ => fun
  | [d1, d2] => { results := [.lit (.bool true)], args := [d1, d2] }
  | _ => none }
def fnExactMakeRecordRow : OpenClaim := { program := "ytbeegojdcgliiaa", sum := "dc4847aa3371a86f39b730f06abba42c2607959a1b04f5f91f07acbb9ce66862", func := "loop.example/s0039/laws.FnExactMakeRecord", spec := "fnExactMakeRecord", apart := false }
def FnExactMakeRecordSaid : Prop := fnExactMakeRecordRow.holds Try.pinned (OpenSpec.ofChange fnExactMakeRecordSpec)

/-- ITS FALSE NEIGHBOUR: 'it returns false'. Refute it at one input. -/
def fnExactMakeRecordWrong : ChangeSpec := { name := "fnExactMakeRecord", fn := fun _ => fun
  | [d1, d2] => { results := [.lit (.bool false)], args := [d1, d2] }
  | _ => none }
def FnExactMakeRecordWrongFalsely : Prop := fnExactMakeRecordRow.holds Try.pinned (OpenSpec.ofChange fnExactMakeRecordWrong)

/-- 'laws.FnExactDecodeProgram': WHATEVER THE INPUT: true; the input reads as it did. -/
def fnExactDecodeProgramSpec : ChangeSpec := { name := "fnExactDecodeProgram", fn := fun _ => fun
  | [d] => { results := [.lit (.bool true)], args := [d] }
  | _ => none }
def fnExactDecodeProgramRow : OpenClaim := { program := "ytbeegojdcgliiaa", sum := "dc4847aa3371a86f39b730f06abba42c2607959a1b04f5f91f07acbb9ce66862", func := "loop.example/s0039/laws.FnExactDecodeProgram", spec := "fnExactDecodeProgram", unfollowed := true, recurses := true, apart := false }
def FnExactDecodeProgramSaid : Prop := fnExactDecodeProgramRow.holds Try.pinned (OpenSpec.ofChange fnExactDecodeProgramSpec)

/-- ITS FALSE NEIGHBOUR: 'it returns false'. Refute it at one input. -/
def fnExactDecodeProgramWrong : ChangeSpec := { name := "fnExactDecodeProgram", fn := fun _ => fun
  | [d] => { results := [.lit (.bool false)], args := [d] }
  | _ => none }
def FnExactDecodeProgramWrongFalsely : Prop := fnExactDecodeProgramRow.holds Try.pinned (OpenSpec.ofChange fnExactDecodeProgramWrong)

/- THE SECOND FORM. 'bulk': how many values and letters a reading holds, each counted each time it is reached (what is shared counts as often as it is met; a slice's spare places count too). A statement '..UptoSaid' is the law's where the arguments, and the package variables that the reading takes, are together of bulk at most 1048576: NARROWER than '..Said'. Prove '..Said' where nothing that the law and all that it calls make is longer than what came in: it says more and counts as full. Else prove '..UptoSaid'. A law counts once. -/
mutual
def uptoBulk {H : Type} : DataW H → Nat
  | .lit (.string bytes) => bytes.length + 1
  | .lit _ => 1
  | .nil => 1
  | .ptr d => uptoBulk d + 1
  | .slice elems spare => uptoBulkAll elems + uptoBulkAll spare + 1
  | .agg parts => uptoBulkAll parts + 1
  | .iface _ d => uptoBulk d + 1
  | .map entries => uptoBulkEntries entries + 1
  | .held _ => 1
def uptoBulkAll {H : Type} : List (DataW H) → Nat
  | [] => 0
  | d :: r => uptoBulk d + uptoBulkAll r
def uptoBulkEntries {H : Type} : List (Lit × DataW H) → Nat
  | [] => 0
  | x :: r => uptoBulkEntry x + uptoBulkEntries r
def uptoBulkEntry {H : Type} : Lit × DataW H → Nat
  | (.string bytes, d) => bytes.length + uptoBulk d + 1
  | (_, d) => uptoBulk d + 1
 end
def uptoSmall : (H : Type) → List (DataW H) → Bool := fun _ ds => decide (uptoBulkAll ds ≤ 1048576)
def OpenSpec.upto (s : _root_.Go.ChangeSpec) : _root_.Go.OpenSpec := { _root_.Go.OpenSpec.ofChange s with cond := some uptoSmall }

/-- 'laws.FnExactConstants', WHERE WHAT IT READS IS OF BULK AT MOST 1048576: true; the input reads as it did. -/
def fnExactConstantsUptoRow : OpenClaim := { program := "ytbeegojdcgliiaa", sum := "dc4847aa3371a86f39b730f06abba42c2607959a1b04f5f91f07acbb9ce66862", func := "loop.example/s0039/laws.FnExactConstants", spec := "fnExactConstants", apart := false, narrowed := true }
def FnExactConstantsUptoSaid : Prop := fnExactConstantsUptoRow.holds Try.pinned (OpenSpec.upto fnExactConstantsSpec)

/-- 'laws.FnExactChecksum', WHERE WHAT IT READS IS OF BULK AT MOST 1048576: true; the input reads as it did. -/
def fnExactChecksumUptoRow : OpenClaim := { program := "ytbeegojdcgliiaa", sum := "dc4847aa3371a86f39b730f06abba42c2607959a1b04f5f91f07acbb9ce66862", func := "loop.example/s0039/laws.FnExactChecksum", spec := "fnExactChecksum", apart := false, narrowed := true }
def FnExactChecksumUptoSaid : Prop := fnExactChecksumUptoRow.holds Try.pinned (OpenSpec.upto fnExactChecksumSpec)

/-- 'laws.FnExactNormCon', WHERE WHAT IT READS IS OF BULK AT MOST 1048576: true; the input reads as it did. -/
def fnExactNormConUptoRow : OpenClaim := { program := "ytbeegojdcgliiaa", sum := "dc4847aa3371a86f39b730f06abba42c2607959a1b04f5f91f07acbb9ce66862", func := "loop.example/s0039/laws.FnExactNormCon", spec := "fnExactNormCon", apart := false, narrowed := true }
def FnExactNormConUptoSaid : Prop := fnExactNormConUptoRow.holds Try.pinned (OpenSpec.upto fnExactNormConSpec)

/-- 'laws.FnExactEncodeProgram', WHERE WHAT IT READS IS OF BULK AT MOST 1048576: true; the input reads as it did. -/
def fnExactEncodeProgramUptoRow : OpenClaim := { program := "ytbeegojdcgliiaa", sum := "dc4847aa3371a86f39b730f06abba42c2607959a1b04f5f91f07acbb9ce66862", func := "loop.example/s0039/laws.FnExactEncodeProgram", spec := "fnExactEncodeProgram", apart := false, narrowed := true }
def FnExactEncodeProgramUptoSaid : Prop := fnExactEncodeProgramUptoRow.holds Try.pinned (OpenSpec.upto fnExactEncodeProgramSpec)

/-- 'laws.FnExactMakeRecord', WHERE WHAT IT READS IS OF BULK AT MOST 1048576: true; the input reads as it did. -/
def fnExactMakeRecordUptoRow : OpenClaim := { program := "ytbeegojdcgliiaa", sum := "dc4847aa3371a86f39b730f06abba42c2607959a1b04f5f91f07acbb9ce66862", func := "loop.example/s0039/laws.FnExactMakeRecord", spec := "fnExactMakeRecord", apart := false, narrowed := true }
def FnExactMakeRecordUptoSaid : Prop := fnExactMakeRecordUptoRow.holds Try.pinned (OpenSpec.upto fnExactMakeRecordSpec)

/-- 'laws.FnExactDecodeProgram', WHERE WHAT IT READS IS OF BULK AT MOST 1048576: true; the input reads as it did. -/
def fnExactDecodeProgramUptoRow : OpenClaim := { program := "ytbeegojdcgliiaa", sum := "dc4847aa3371a86f39b730f06abba42c2607959a1b04f5f91f07acbb9ce66862", func := "loop.example/s0039/laws.FnExactDecodeProgram", spec := "fnExactDecodeProgram", unfollowed := true, recurses := true, apart := false, narrowed := true }
def FnExactDecodeProgramUptoSaid : Prop := fnExactDecodeProgramUptoRow.holds Try.pinned (OpenSpec.upto fnExactDecodeProgramSpec)

end Rows
end Go.Proofs.Ytbeegojdcgliiaa
