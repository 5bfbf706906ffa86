/-
  DERIVED. GIVEN WITH THE SEED: THE CARDS: each row of YtlanplhphiikjaaGreatDoorRows.lean that lists a variable, with what it lists TIED to the program's text (the seventh form; the later family's looks); each row that meets fmt, with fmt's text TOLD by the authors' own Lean function (tested against real Go, not proved from fmt's source: count such statements apart). THE CARD IS WHAT COUNTS. Prove the row's statement (the work); the ties are given (YtlanplhphiikjaaGreatDoorTie.lean); close each card by the builder's one call (the guide's Derived/Test/ToyasCard.lean, 'card_holds'). Laid BY PROGRAM, IN A SANDBOX (cutbox-door.mjs). By AI agents, Wed Nov 11 2026. No macro, syntax, notation, axiom, sorry.
-/
import Derived.Test.YtlanplhphiikjaaGreatDoorRows
import GoSem.ClaimSeven
namespace Go.Proofs.YtlanplhphiikjaaGreatDoor
namespace Rows

/-- THE TIED CARD OF 'schemalenslaw17.RowsEncoding'. -/
def rowsEncodingCard : Claim7 := { stood := { row := rowsEncodingRow, standIns := [], harness := (true, "4a68260ae78bb104a87c44fff8cd2f300e8622761c52abf211ab49aade80c325"), looks := true }, kinds := [], alts := [], laidByText := true, laidKinds := [.data, .data, .data, .data, .sentinel, .sentinel, .widerDeep, .data, .pinned], laidTests := true, laidLooks := .later }
def RowsEncodingCardSaid : Prop := Claim7.holds Tryz.pinned (.plain (OpenSpec.ofChange rowsEncodingSpec)) rowsEncodingCard

/-- THE TIED CARD OF 'schemalenslaw18.EvalChecks'. -/
def evalChecksCard : Claim7 := { stood := { row := evalChecksRow, standIns := [], harness := (true, "4a68260ae78bb104a87c44fff8cd2f300e8622761c52abf211ab49aade80c325"), looks := true }, kinds := [], alts := [], laidByText := true, laidKinds := [.data, .data, .data, .data, .sentinel, .sentinel, .widerDeep, .data, .pinned], laidTests := true, laidLooks := .later }
def EvalChecksCardSaid : Prop := Claim7.holds Tryz.pinned (.plain (OpenSpec.ofChange evalChecksSpec)) evalChecksCard

/-- THE SECOND FORM's CARD OF 'schemalenslaw17.RowsEncoding'. -/
def rowsEncodingUptoCard : Claim7 := { stood := { row := rowsEncodingUptoRow, standIns := [], harness := (true, "4a68260ae78bb104a87c44fff8cd2f300e8622761c52abf211ab49aade80c325"), looks := true }, kinds := [], alts := [], laidByText := true, laidKinds := [.data, .data, .data, .data, .sentinel, .sentinel, .widerDeep, .data, .pinned], laidTests := true, laidLooks := .later }
def RowsEncodingUptoCardSaid : Prop := Claim7.holds Tryz.pinned (.plain (OpenSpec.upto rowsEncodingSpec)) rowsEncodingUptoCard

/-- THE SECOND FORM's CARD OF 'schemalenslaw18.EvalChecks'. -/
def evalChecksUptoCard : Claim7 := { stood := { row := evalChecksUptoRow, standIns := [], harness := (true, "4a68260ae78bb104a87c44fff8cd2f300e8622761c52abf211ab49aade80c325"), looks := true }, kinds := [], alts := [], laidByText := true, laidKinds := [.data, .data, .data, .data, .sentinel, .sentinel, .widerDeep, .data, .pinned], laidTests := true, laidLooks := .later }
def EvalChecksUptoCardSaid : Prop := Claim7.holds Tryz.pinned (.plain (OpenSpec.upto evalChecksSpec)) evalChecksUptoCard
end Rows
end Go.Proofs.YtlanplhphiikjaaGreatDoor
