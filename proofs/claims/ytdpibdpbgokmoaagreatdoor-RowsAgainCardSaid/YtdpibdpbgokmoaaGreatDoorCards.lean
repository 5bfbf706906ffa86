/-
  DERIVED. GIVEN WITH THE SEED: THE CARDS: each row of YtdpibdpbgokmoaaGreatDoorRows.lean that lists a variable, with what it lists TIED to the program's text (the seventh form; the later family's looks); each row that meets fmt, with fmt's text TOLD by the authors' own Lean function (tested against real Go, not proved from fmt's source: count such statements apart). THE CARD IS WHAT COUNTS. Prove the row's statement (the work); the ties are given (YtdpibdpbgokmoaaGreatDoorTie.lean); close each card by the builder's one call (the guide's Derived/Test/ToyasCard.lean, 'card_holds'). Laid BY PROGRAM, IN A SANDBOX (cutbox-door.mjs). By AI agents, Wed Nov 11 2026. No macro, syntax, notation, axiom, sorry.
-/
import Derived.Test.YtdpibdpbgokmoaaGreatDoorRows
import GoSem.ClaimSeven
namespace Go.Proofs.YtdpibdpbgokmoaaGreatDoor
namespace Rows

/-- THE TIED CARD OF 'schemalenslaw17.RowsCheck'. -/
def rowsCheckCard : Claim7 := { stood := { row := rowsCheckRow, standIns := [], harness := (true, "e5c056ba93fd9b3a514cbad9ae21f6c2ba113af3755b07dc8a7323f0c854d977"), looks := true }, kinds := [], alts := [], laidByText := true, laidKinds := [.data, .data, .data, .data, .sentinel, .sentinel, .widerDeep, .data, .pinned], laidTests := true, laidLooks := .later }
def RowsCheckCardSaid : Prop := Claim7.holds Tryz.pinned (.plain (OpenSpec.ofChange rowsCheckSpec)) rowsCheckCard

/-- THE TIED CARD OF 'schemalenslaw17.RowsAgain'. -/
def rowsAgainCard : Claim7 := { stood := { row := rowsAgainRow, standIns := [], harness := (true, "e5c056ba93fd9b3a514cbad9ae21f6c2ba113af3755b07dc8a7323f0c854d977"), looks := true }, kinds := [], alts := [], laidByText := true, laidKinds := [.data, .data, .data, .data, .sentinel, .sentinel, .widerDeep, .data, .pinned], laidTests := true, laidLooks := .later }
def RowsAgainCardSaid : Prop := Claim7.holds Tryz.pinned (.plain (OpenSpec.ofChange rowsAgainSpec)) rowsAgainCard

/-- THE SECOND FORM's CARD OF 'schemalenslaw17.RowsCheck'. -/
def rowsCheckUptoCard : Claim7 := { stood := { row := rowsCheckUptoRow, standIns := [], harness := (true, "e5c056ba93fd9b3a514cbad9ae21f6c2ba113af3755b07dc8a7323f0c854d977"), looks := true }, kinds := [], alts := [], laidByText := true, laidKinds := [.data, .data, .data, .data, .sentinel, .sentinel, .widerDeep, .data, .pinned], laidTests := true, laidLooks := .later }
def RowsCheckUptoCardSaid : Prop := Claim7.holds Tryz.pinned (.plain (OpenSpec.upto rowsCheckSpec)) rowsCheckUptoCard

/-- THE SECOND FORM's CARD OF 'schemalenslaw17.RowsAgain'. -/
def rowsAgainUptoCard : Claim7 := { stood := { row := rowsAgainUptoRow, standIns := [], harness := (true, "e5c056ba93fd9b3a514cbad9ae21f6c2ba113af3755b07dc8a7323f0c854d977"), looks := true }, kinds := [], alts := [], laidByText := true, laidKinds := [.data, .data, .data, .data, .sentinel, .sentinel, .widerDeep, .data, .pinned], laidTests := true, laidLooks := .later }
def RowsAgainUptoCardSaid : Prop := Claim7.holds Tryz.pinned (.plain (OpenSpec.upto rowsAgainSpec)) rowsAgainUptoCard
end Rows
end Go.Proofs.YtdpibdpbgokmoaaGreatDoor
