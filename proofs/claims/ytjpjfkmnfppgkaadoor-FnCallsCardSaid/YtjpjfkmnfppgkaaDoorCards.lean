/-
  DERIVED. GIVEN WITH THE SEED: THE CARDS: each row of YtjpjfkmnfppgkaaDoorRows.lean that lists a variable, with what it lists TIED to the program's text (the seventh form; the later family's looks); each row that meets fmt, with fmt's text TOLD by the authors' own Lean function (tested against real Go, not proved from fmt's source: count such statements apart). THE CARD IS WHAT COUNTS. Prove the row's statement (the work); the ties are given (YtjpjfkmnfppgkaaDoorTie.lean); close each card by the builder's one call (the guide's Derived/Test/ToyasCard.lean, 'card_holds'). Laid BY PROGRAM, IN A SANDBOX (cutbox-door.mjs). By AI agents, Wed Nov 11 2026. No macro, syntax, notation, axiom, sorry.
-/
import Derived.Test.YtjpjfkmnfppgkaaDoorRows
import GoSem.ClaimSeven
namespace Go.Proofs.YtjpjfkmnfppgkaaDoor
namespace Rows

/-- THE TIED CARD OF 'laws.FnCalls'. -/
def fnCallsCard : Claim7 := { stood := { row := fnCallsRow, standIns := [], harness := (true, "26b3ea7e2afd954e0d2ef23616cfb86a06cafc6b8e67b3c201070e6ed06ff9ba"), looks := true }, kinds := [], alts := [], laidByText := true, laidKinds := [.handle], laidTests := true, laidLooks := .later }
def FnCallsCardSaid : Prop := Claim7.holds Tryd.pinned (.plain (OpenSpec.ofChange fnCallsSpec)) fnCallsCard

/-- THE TIED CARD OF 'laws.FnExactDecodeLog'. -/
def fnExactDecodeLogCard : Claim7 := { stood := { row := fnExactDecodeLogRow, standIns := [], harness := (true, "26b3ea7e2afd954e0d2ef23616cfb86a06cafc6b8e67b3c201070e6ed06ff9ba"), looks := true }, kinds := [], alts := [], laidByText := true, laidKinds := [.handle], laidTests := true, laidLooks := .later }
def FnExactDecodeLogCardSaid : Prop := Claim7.holds Tryd.pinned (.plain (OpenSpec.ofChange fnExactDecodeLogSpec)) fnExactDecodeLogCard

/-- THE TIED CARD OF 'laws.FnLog'. -/
def fnLogCard : Claim7 := { stood := { row := fnLogRow, standIns := [], harness := (true, "26b3ea7e2afd954e0d2ef23616cfb86a06cafc6b8e67b3c201070e6ed06ff9ba"), looks := true }, kinds := [], alts := [], laidByText := true, laidKinds := [.handle], laidTests := true, laidLooks := .later }
def FnLogCardSaid : Prop := Claim7.holds Tryd.pinned (.plain (OpenSpec.ofChange fnLogSpec)) fnLogCard

/-- THE SECOND FORM's CARD OF 'laws.FnCalls'. -/
def fnCallsUptoCard : Claim7 := { stood := { row := fnCallsUptoRow, standIns := [], harness := (true, "26b3ea7e2afd954e0d2ef23616cfb86a06cafc6b8e67b3c201070e6ed06ff9ba"), looks := true }, kinds := [], alts := [], laidByText := true, laidKinds := [.handle], laidTests := true, laidLooks := .later }
def FnCallsUptoCardSaid : Prop := Claim7.holds Tryd.pinned (.plain (OpenSpec.upto fnCallsSpec)) fnCallsUptoCard

/-- THE SECOND FORM's CARD OF 'laws.FnExactDecodeLog'. -/
def fnExactDecodeLogUptoCard : Claim7 := { stood := { row := fnExactDecodeLogUptoRow, standIns := [], harness := (true, "26b3ea7e2afd954e0d2ef23616cfb86a06cafc6b8e67b3c201070e6ed06ff9ba"), looks := true }, kinds := [], alts := [], laidByText := true, laidKinds := [.handle], laidTests := true, laidLooks := .later }
def FnExactDecodeLogUptoCardSaid : Prop := Claim7.holds Tryd.pinned (.plain (OpenSpec.upto fnExactDecodeLogSpec)) fnExactDecodeLogUptoCard

/-- THE SECOND FORM's CARD OF 'laws.FnLog'. -/
def fnLogUptoCard : Claim7 := { stood := { row := fnLogUptoRow, standIns := [], harness := (true, "26b3ea7e2afd954e0d2ef23616cfb86a06cafc6b8e67b3c201070e6ed06ff9ba"), looks := true }, kinds := [], alts := [], laidByText := true, laidKinds := [.handle], laidTests := true, laidLooks := .later }
def FnLogUptoCardSaid : Prop := Claim7.holds Tryd.pinned (.plain (OpenSpec.upto fnLogSpec)) fnLogUptoCard
end Rows
end Go.Proofs.YtjpjfkmnfppgkaaDoor
