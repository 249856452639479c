/-
  No cell of these rows narrows 'for every input' (looked for: loops, veiled, ifaces, maps, wideKeys, modest, calm, conditions, laid).
  DERIVED. THE GIVEN ROWS OF THIS SEAT. 10 by the template 'for every input the law returns true; each argument reads behind the call as it read before'; 0 by the template 'total and deterministic' (their statements: YtdipinclchkhjaaTotals.lean).
  GIVEN WITH THE SEED: the statements are not yours to turn. If you find one false, say at which input.
  Laid BY PROGRAM, IN A SANDBOX (cutbox-rows.mjs): the forced cells as the released guide's own fill.sh prints them over the translation f138576012e98779… (all of the seat's roots in one cut). By AI agents, Wed Nov 11 2026. No macro, syntax, notation, axiom, sorry.
-/
import Derived.Test.YtdipinclchkhjaaChecked
import GoSem.Claim
import GoSem.ClaimJoined
import GoSem.ClaimMapViews
import Derived.JoinedTies
import Derived.KernelRfl
namespace Go.Proofs.Ytdipinclchkhjaa
/- THE CELL 'sum', in the pinned program and in every row, IS THE sha256 OF THE DUMP (.gsa) THAT YtdipinclchkhjaaProg.lean LOADS. Nothing in Lean hashes anything: it is a label: what it is worth is what the hold of that sum in a sandbox is worth. -/
noncomputable def Try.pinned : Pinned := { name := "ytdipinclchkhjaa", sum := "f138576012e98779eb4ecd80360d6e1ce639a7d8dfc4344fb944563f59f1e394", checked := Try.checked }
namespace Rows
def none {H : Type} : Left H := { results := [], args := [] }

/-- 'laws.FnExactConWithin': WHATEVER THE INPUT: true; the input reads as it did. -/
def fnExactConWithinSpec : ChangeSpec := { name := "fnExactConWithin", fn := fun _ => fun
  | [d1, d2] => { results := [.lit (.bool true)], args := [d1, d2] }
  | _ => none }
def fnExactConWithinRow : OpenClaim := { program := "ytdipinclchkhjaa", sum := "f138576012e98779eb4ecd80360d6e1ce639a7d8dfc4344fb944563f59f1e394", func := "loop.example/s0039/laws.FnExactConWithin", spec := "fnExactConWithin", unfollowed := true, recurses := true, apart := false }
def FnExactConWithinSaid : Prop := fnExactConWithinRow.holds Try.pinned (OpenSpec.ofChange fnExactConWithinSpec)

/-- ITS FALSE NEIGHBOUR: 'it returns false'. Refute it at one input. -/
def fnExactConWithinWrong : ChangeSpec := { name := "fnExactConWithin", fn := fun _ => fun
  | [d1, d2] => { results := [.lit (.bool false)], args := [d1, d2] }
  | _ => none }
def FnExactConWithinWrongFalsely : Prop := fnExactConWithinRow.holds Try.pinned (OpenSpec.ofChange fnExactConWithinWrong)

/-- 'laws.FnExactValidate': WHATEVER THE INPUT: true; the input reads as it did. -/
def fnExactValidateSpec : ChangeSpec := { name := "fnExactValidate", fn := fun _ => fun
  | [d] => { results := [.lit (.bool true)], args := [d] }
  | _ => none }
def fnExactValidateRow : OpenClaim := { program := "ytdipinclchkhjaa", sum := "f138576012e98779eb4ecd80360d6e1ce639a7d8dfc4344fb944563f59f1e394", func := "loop.example/s0039/laws.FnExactValidate", spec := "fnExactValidate", apart := false }
def FnExactValidateSaid : Prop := fnExactValidateRow.holds Try.pinned (OpenSpec.ofChange fnExactValidateSpec)

/-- ITS FALSE NEIGHBOUR: 'it returns false'. Refute it at one input. -/
def fnExactValidateWrong : ChangeSpec := { name := "fnExactValidate", fn := fun _ => fun
  | [d] => { results := [.lit (.bool false)], args := [d] }
  | _ => none }
def FnExactValidateWrongFalsely : Prop := fnExactValidateRow.holds Try.pinned (OpenSpec.ofChange fnExactValidateWrong)

/-- 'laws.FnExactCover': WHATEVER THE INPUT: true; the input reads as it did. -/
def fnExactCoverSpec : ChangeSpec := { name := "fnExactCover", fn := fun _ => fun
  | [d1, d2] => { results := [.lit (.bool true)], args := [d1, d2] }
  | _ => none }
def fnExactCoverRow : OpenClaim := { program := "ytdipinclchkhjaa", sum := "f138576012e98779eb4ecd80360d6e1ce639a7d8dfc4344fb944563f59f1e394", func := "loop.example/s0039/laws.FnExactCover", spec := "fnExactCover", apart := false }
def FnExactCoverSaid : Prop := fnExactCoverRow.holds Try.pinned (OpenSpec.ofChange fnExactCoverSpec)

/-- ITS FALSE NEIGHBOUR: 'it returns false'. Refute it at one input. -/
def fnExactCoverWrong : ChangeSpec := { name := "fnExactCover", fn := fun _ => fun
  | [d1, d2] => { results := [.lit (.bool false)], args := [d1, d2] }
  | _ => none }
def FnExactCoverWrongFalsely : Prop := fnExactCoverRow.holds Try.pinned (OpenSpec.ofChange fnExactCoverWrong)

/-- 'laws.FnExactEncodeLog': WHATEVER THE INPUT: true; the input reads as it did. -/
def fnExactEncodeLogSpec : ChangeSpec := { name := "fnExactEncodeLog", fn := fun _ => fun
  | [d] => { results := [.lit (.bool true)], args := [d] }
  | _ => none }
def fnExactEncodeLogRow : OpenClaim := { program := "ytdipinclchkhjaa", sum := "f138576012e98779eb4ecd80360d6e1ce639a7d8dfc4344fb944563f59f1e394", func := "loop.example/s0039/laws.FnExactEncodeLog", spec := "fnExactEncodeLog", recurses := true, apart := false }
def FnExactEncodeLogSaid : Prop := fnExactEncodeLogRow.holds Try.pinned (OpenSpec.ofChange fnExactEncodeLogSpec)

/-- ITS FALSE NEIGHBOUR: 'it returns false'. Refute it at one input. -/
def fnExactEncodeLogWrong : ChangeSpec := { name := "fnExactEncodeLog", fn := fun _ => fun
  | [d] => { results := [.lit (.bool false)], args := [d] }
  | _ => none }
def FnExactEncodeLogWrongFalsely : Prop := fnExactEncodeLogRow.holds Try.pinned (OpenSpec.ofChange fnExactEncodeLogWrong)

/-- 'laws.FnCover': WHATEVER THE INPUT: true; the input reads as it did. -/
def fnCoverSpec : ChangeSpec := { name := "fnCover", fn := fun _ => fun
  | [d] => { results := [.lit (.bool true)], args := [d] }
  | _ => none }
def fnCoverRow : OpenClaim := { program := "ytdipinclchkhjaa", sum := "f138576012e98779eb4ecd80360d6e1ce639a7d8dfc4344fb944563f59f1e394", func := "loop.example/s0039/laws.FnCover", spec := "fnCover", unfollowed := true, recurses := true, apart := false }
def FnCoverSaid : Prop := fnCoverRow.holds Try.pinned (OpenSpec.ofChange fnCoverSpec)

/-- ITS FALSE NEIGHBOUR: 'it returns false'. Refute it at one input. -/
def fnCoverWrong : ChangeSpec := { name := "fnCover", fn := fun _ => fun
  | [d] => { results := [.lit (.bool false)], args := [d] }
  | _ => none }
def FnCoverWrongFalsely : Prop := fnCoverRow.holds Try.pinned (OpenSpec.ofChange fnCoverWrong)

/-- 'laws.FnExactValidPolicy': WHATEVER THE INPUT: true; the input reads as it did. -/
def fnExactValidPolicySpec : ChangeSpec := { name := "fnExactValidPolicy", fn := fun _ => fun
  | [d] => { results := [.lit (.bool true)], args := [d] }
  | _ => none }
def fnExactValidPolicyRow : OpenClaim := { program := "ytdipinclchkhjaa", sum := "f138576012e98779eb4ecd80360d6e1ce639a7d8dfc4344fb944563f59f1e394", func := "loop.example/s0039/laws.FnExactValidPolicy", spec := "fnExactValidPolicy", unfollowed := true, recurses := true, apart := false }
def FnExactValidPolicySaid : Prop := fnExactValidPolicyRow.holds Try.pinned (OpenSpec.ofChange fnExactValidPolicySpec)

/-- ITS FALSE NEIGHBOUR: 'it returns false'. Refute it at one input. -/
def fnExactValidPolicyWrong : ChangeSpec := { name := "fnExactValidPolicy", fn := fun _ => fun
  | [d] => { results := [.lit (.bool false)], args := [d] }
  | _ => none }
def FnExactValidPolicyWrongFalsely : Prop := fnExactValidPolicyRow.holds Try.pinned (OpenSpec.ofChange fnExactValidPolicyWrong)

/-- 'laws.FnExactAssemble': WHATEVER THE INPUT: true; the input reads as it did. -/
def fnExactAssembleSpec : ChangeSpec := { name := "fnExactAssemble", fn := fun _ => fun
  | [d] => { results := [.lit (.bool true)], args := [d] }
  | _ => none }
def fnExactAssembleRow : OpenClaim := { program := "ytdipinclchkhjaa", sum := "f138576012e98779eb4ecd80360d6e1ce639a7d8dfc4344fb944563f59f1e394", func := "loop.example/s0039/laws.FnExactAssemble", spec := "fnExactAssemble", apart := false }
def FnExactAssembleSaid : Prop := fnExactAssembleRow.holds Try.pinned (OpenSpec.ofChange fnExactAssembleSpec)

/-- ITS FALSE NEIGHBOUR: 'it returns false'. Refute it at one input. -/
def fnExactAssembleWrong : ChangeSpec := { name := "fnExactAssemble", fn := fun _ => fun
  | [d] => { results := [.lit (.bool false)], args := [d] }
  | _ => none }
def FnExactAssembleWrongFalsely : Prop := fnExactAssembleRow.holds Try.pinned (OpenSpec.ofChange fnExactAssembleWrong)

/-- 'laws.FnNorm': WHATEVER THE INPUT: true; the input reads as it did. -/
def fnNormSpec : ChangeSpec := { name := "fnNorm", fn := fun _ => fun
  | [d] => { results := [.lit (.bool true)], args := [d] }
  | _ => none }
def fnNormRow : OpenClaim := { program := "ytdipinclchkhjaa", sum := "f138576012e98779eb4ecd80360d6e1ce639a7d8dfc4344fb944563f59f1e394", func := "loop.example/s0039/laws.FnNorm", spec := "fnNorm", unfollowed := true, recurses := true, apart := false }
def FnNormSaid : Prop := fnNormRow.holds Try.pinned (OpenSpec.ofChange fnNormSpec)

/-- ITS FALSE NEIGHBOUR: 'it returns false'. Refute it at one input. -/
def fnNormWrong : ChangeSpec := { name := "fnNorm", fn := fun _ => fun
  | [d] => { results := [.lit (.bool false)], args := [d] }
  | _ => none }
def FnNormWrongFalsely : Prop := fnNormRow.holds Try.pinned (OpenSpec.ofChange fnNormWrong)

/-- 'laws.FnExactAllows': WHATEVER THE INPUT: true; the input reads as it did. -/
def fnExactAllowsSpec : ChangeSpec := { name := "fnExactAllows", fn := fun _ => fun
  | [d1, d2] => { results := [.lit (.bool true)], args := [d1, d2] }
  | _ => none }
def fnExactAllowsRow : OpenClaim := { program := "ytdipinclchkhjaa", sum := "f138576012e98779eb4ecd80360d6e1ce639a7d8dfc4344fb944563f59f1e394", func := "loop.example/s0039/laws.FnExactAllows", spec := "fnExactAllows", unfollowed := true, recurses := true, apart := false }
def FnExactAllowsSaid : Prop := fnExactAllowsRow.holds Try.pinned (OpenSpec.ofChange fnExactAllowsSpec)

/-- ITS FALSE NEIGHBOUR: 'it returns false'. Refute it at one input. -/
def fnExactAllowsWrong : ChangeSpec := { name := "fnExactAllows", fn := fun _ => fun
  | [d1, d2] => { results := [.lit (.bool false)], args := [d1, d2] }
  | _ => none }
def FnExactAllowsWrongFalsely : Prop := fnExactAllowsRow.holds Try.pinned (OpenSpec.ofChange fnExactAllowsWrong)

/-- 'laws.FnExactRun': WHATEVER THE INPUT: true; the input reads as it did. -/
def fnExactRunSpec : ChangeSpec := { name := "fnExactRun", fn := fun _ => fun
  | [d1, d2] => { results := [.lit (.bool true)], args := [d1, d2] }
  | _ => none }
def fnExactRunRow : OpenClaim := { program := "ytdipinclchkhjaa", sum := "f138576012e98779eb4ecd80360d6e1ce639a7d8dfc4344fb944563f59f1e394", func := "loop.example/s0039/laws.FnExactRun", spec := "fnExactRun", recurses := true, apart := false }
def FnExactRunSaid : Prop := fnExactRunRow.holds Try.pinned (OpenSpec.ofChange fnExactRunSpec)

/-- ITS FALSE NEIGHBOUR: 'it returns false'. Refute it at one input. -/
def fnExactRunWrong : ChangeSpec := { name := "fnExactRun", fn := fun _ => fun
  | [d1, d2] => { results := [.lit (.bool false)], args := [d1, d2] }
  | _ => none }
def FnExactRunWrongFalsely : Prop := fnExactRunRow.holds Try.pinned (OpenSpec.ofChange fnExactRunWrong)

/- THE SECOND FORM. 'bulk': how many values and letters a reading holds, each counted each time it is reached (what is shared counts as often as it is met; a slice's spare places count too). A statement '..UptoSaid' is the law's where the arguments, and the package variables that the reading takes, are together of bulk at most 1048576: NARROWER than '..Said'. Prove '..Said' where nothing that the law and all that it calls make is longer than what came in: it says more and counts as full. Else prove '..UptoSaid'. A law counts once. -/
mutual
def uptoBulk {H : Type} : DataW H → Nat
  | .lit (.string bytes) => bytes.length + 1
  | .lit _ => 1
  | .nil => 1
  | .ptr d => uptoBulk d + 1
  | .slice elems spare => uptoBulkAll elems + uptoBulkAll spare + 1
  | .agg parts => uptoBulkAll parts + 1
  | .iface _ d => uptoBulk d + 1
  | .map entries => uptoBulkEntries entries + 1
  | .held _ => 1
def uptoBulkAll {H : Type} : List (DataW H) → Nat
  | [] => 0
  | d :: r => uptoBulk d + uptoBulkAll r
def uptoBulkEntries {H : Type} : List (Lit × DataW H) → Nat
  | [] => 0
  | x :: r => uptoBulkEntry x + uptoBulkEntries r
def uptoBulkEntry {H : Type} : Lit × DataW H → Nat
  | (.string bytes, d) => bytes.length + uptoBulk d + 1
  | (_, d) => uptoBulk d + 1
 end
def uptoSmall : (H : Type) → List (DataW H) → Bool := fun _ ds => decide (uptoBulkAll ds ≤ 1048576)
def OpenSpec.upto (s : _root_.Go.ChangeSpec) : _root_.Go.OpenSpec := { _root_.Go.OpenSpec.ofChange s with cond := some uptoSmall }

/-- 'laws.FnExactConWithin', WHERE WHAT IT READS IS OF BULK AT MOST 1048576: true; the input reads as it did. -/
def fnExactConWithinUptoRow : OpenClaim := { program := "ytdipinclchkhjaa", sum := "f138576012e98779eb4ecd80360d6e1ce639a7d8dfc4344fb944563f59f1e394", func := "loop.example/s0039/laws.FnExactConWithin", spec := "fnExactConWithin", unfollowed := true, recurses := true, apart := false, narrowed := true }
def FnExactConWithinUptoSaid : Prop := fnExactConWithinUptoRow.holds Try.pinned (OpenSpec.upto fnExactConWithinSpec)

/-- 'laws.FnExactValidate', WHERE WHAT IT READS IS OF BULK AT MOST 1048576: true; the input reads as it did. -/
def fnExactValidateUptoRow : OpenClaim := { program := "ytdipinclchkhjaa", sum := "f138576012e98779eb4ecd80360d6e1ce639a7d8dfc4344fb944563f59f1e394", func := "loop.example/s0039/laws.FnExactValidate", spec := "fnExactValidate", apart := false, narrowed := true }
def FnExactValidateUptoSaid : Prop := fnExactValidateUptoRow.holds Try.pinned (OpenSpec.upto fnExactValidateSpec)

/-- 'laws.FnExactCover', WHERE WHAT IT READS IS OF BULK AT MOST 1048576: true; the input reads as it did. -/
def fnExactCoverUptoRow : OpenClaim := { program := "ytdipinclchkhjaa", sum := "f138576012e98779eb4ecd80360d6e1ce639a7d8dfc4344fb944563f59f1e394", func := "loop.example/s0039/laws.FnExactCover", spec := "fnExactCover", apart := false, narrowed := true }
def FnExactCoverUptoSaid : Prop := fnExactCoverUptoRow.holds Try.pinned (OpenSpec.upto fnExactCoverSpec)

/-- 'laws.FnExactEncodeLog', WHERE WHAT IT READS IS OF BULK AT MOST 1048576: true; the input reads as it did. -/
def fnExactEncodeLogUptoRow : OpenClaim := { program := "ytdipinclchkhjaa", sum := "f138576012e98779eb4ecd80360d6e1ce639a7d8dfc4344fb944563f59f1e394", func := "loop.example/s0039/laws.FnExactEncodeLog", spec := "fnExactEncodeLog", recurses := true, apart := false, narrowed := true }
def FnExactEncodeLogUptoSaid : Prop := fnExactEncodeLogUptoRow.holds Try.pinned (OpenSpec.upto fnExactEncodeLogSpec)

/-- 'laws.FnCover', WHERE WHAT IT READS IS OF BULK AT MOST 1048576: true; the input reads as it did. -/
def fnCoverUptoRow : OpenClaim := { program := "ytdipinclchkhjaa", sum := "f138576012e98779eb4ecd80360d6e1ce639a7d8dfc4344fb944563f59f1e394", func := "loop.example/s0039/laws.FnCover", spec := "fnCover", unfollowed := true, recurses := true, apart := false, narrowed := true }
def FnCoverUptoSaid : Prop := fnCoverUptoRow.holds Try.pinned (OpenSpec.upto fnCoverSpec)

/-- 'laws.FnExactValidPolicy', WHERE WHAT IT READS IS OF BULK AT MOST 1048576: true; the input reads as it did. -/
def fnExactValidPolicyUptoRow : OpenClaim := { program := "ytdipinclchkhjaa", sum := "f138576012e98779eb4ecd80360d6e1ce639a7d8dfc4344fb944563f59f1e394", func := "loop.example/s0039/laws.FnExactValidPolicy", spec := "fnExactValidPolicy", unfollowed := true, recurses := true, apart := false, narrowed := true }
def FnExactValidPolicyUptoSaid : Prop := fnExactValidPolicyUptoRow.holds Try.pinned (OpenSpec.upto fnExactValidPolicySpec)

/-- 'laws.FnExactAssemble', WHERE WHAT IT READS IS OF BULK AT MOST 1048576: true; the input reads as it did. -/
def fnExactAssembleUptoRow : OpenClaim := { program := "ytdipinclchkhjaa", sum := "f138576012e98779eb4ecd80360d6e1ce639a7d8dfc4344fb944563f59f1e394", func := "loop.example/s0039/laws.FnExactAssemble", spec := "fnExactAssemble", apart := false, narrowed := true }
def FnExactAssembleUptoSaid : Prop := fnExactAssembleUptoRow.holds Try.pinned (OpenSpec.upto fnExactAssembleSpec)

/-- 'laws.FnNorm', WHERE WHAT IT READS IS OF BULK AT MOST 1048576: true; the input reads as it did. -/
def fnNormUptoRow : OpenClaim := { program := "ytdipinclchkhjaa", sum := "f138576012e98779eb4ecd80360d6e1ce639a7d8dfc4344fb944563f59f1e394", func := "loop.example/s0039/laws.FnNorm", spec := "fnNorm", unfollowed := true, recurses := true, apart := false, narrowed := true }
def FnNormUptoSaid : Prop := fnNormUptoRow.holds Try.pinned (OpenSpec.upto fnNormSpec)

/-- 'laws.FnExactAllows', WHERE WHAT IT READS IS OF BULK AT MOST 1048576: true; the input reads as it did. -/
def fnExactAllowsUptoRow : OpenClaim := { program := "ytdipinclchkhjaa", sum := "f138576012e98779eb4ecd80360d6e1ce639a7d8dfc4344fb944563f59f1e394", func := "loop.example/s0039/laws.FnExactAllows", spec := "fnExactAllows", unfollowed := true, recurses := true, apart := false, narrowed := true }
def FnExactAllowsUptoSaid : Prop := fnExactAllowsUptoRow.holds Try.pinned (OpenSpec.upto fnExactAllowsSpec)

/-- 'laws.FnExactRun', WHERE WHAT IT READS IS OF BULK AT MOST 1048576: true; the input reads as it did. -/
def fnExactRunUptoRow : OpenClaim := { program := "ytdipinclchkhjaa", sum := "f138576012e98779eb4ecd80360d6e1ce639a7d8dfc4344fb944563f59f1e394", func := "loop.example/s0039/laws.FnExactRun", spec := "fnExactRun", recurses := true, apart := false, narrowed := true }
def FnExactRunUptoSaid : Prop := fnExactRunUptoRow.holds Try.pinned (OpenSpec.upto fnExactRunSpec)

end Rows
end Go.Proofs.Ytdipinclchkhjaa
