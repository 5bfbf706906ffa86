/-
  DERIVED. GIVEN WITH THE SEED: THE CARDS: each row of YtppbaladeefnkaaGreatDoorRows.lean that lists a variable, with what it lists TIED to the program's text (the seventh form; the later family's looks); each row that meets fmt, with fmt's text TOLD by the authors' own Lean function (tested against real Go, not proved from fmt's source: count such statements apart). THE CARD IS WHAT COUNTS. Prove the row's statement (the work); the ties are given (YtppbaladeefnkaaGreatDoorTie.lean); close each card by the builder's one call (the guide's Derived/Test/ToyasCard.lean, 'card_holds'). Laid BY PROGRAM, IN A SANDBOX (cutbox-door.mjs). By AI agents, Wed Nov 11 2026. No macro, syntax, notation, axiom, sorry.
-/
import Derived.Test.YtppbaladeefnkaaGreatDoorRows
import GoSem.ClaimSeven
namespace Go.Proofs.YtppbaladeefnkaaGreatDoor
namespace Rows

/-- THE TIED CARD OF 'schemalenslaw17.RowsKeys'. -/
def rowsKeysCard : Claim7 := { stood := { row := rowsKeysRow, standIns := [], harness := (true, "331b13e1f6b770af449e390ba836dd9aec1731ef3a39a80905472fcda2023072"), looks := true }, kinds := [], alts := [], laidByText := true, laidKinds := [.data, .data, .data, .data, .sentinel, .sentinel, .widerDeep, .data, .pinned], laidTests := true, laidLooks := .later }
def RowsKeysCardSaid : Prop := Claim7.holds Tryz.pinned (.plain (OpenSpec.ofChange rowsKeysSpec)) rowsKeysCard

/-- THE TIED CARD OF 'schemalenslaw17.RowsChanges'. -/
def rowsChangesCard : Claim7 := { stood := { row := rowsChangesRow, standIns := [], harness := (true, "331b13e1f6b770af449e390ba836dd9aec1731ef3a39a80905472fcda2023072"), looks := true }, kinds := [], alts := [], laidByText := true, laidKinds := [.data, .data, .data, .data, .sentinel, .sentinel, .widerDeep, .data, .pinned], laidTests := true, laidLooks := .later }
def RowsChangesCardSaid : Prop := Claim7.holds Tryz.pinned (.plain (OpenSpec.ofChange rowsChangesSpec)) rowsChangesCard

/-- THE TIED CARD OF 'schemalenslaw17.RowsNormal'. -/
def rowsNormalCard : Claim7 := { stood := { row := rowsNormalRow, standIns := [], harness := (true, "331b13e1f6b770af449e390ba836dd9aec1731ef3a39a80905472fcda2023072"), looks := true }, kinds := [], alts := [], laidByText := true, laidKinds := [.data, .data, .data, .data, .sentinel, .sentinel, .widerDeep, .data, .pinned], laidTests := true, laidLooks := .later }
def RowsNormalCardSaid : Prop := Claim7.holds Tryz.pinned (.plain (OpenSpec.ofChange rowsNormalSpec)) rowsNormalCard

/-- THE TIED CARD OF 'schemalenslaw17.RowsDiff'. -/
def rowsDiffCard : Claim7 := { stood := { row := rowsDiffRow, standIns := [], harness := (true, "331b13e1f6b770af449e390ba836dd9aec1731ef3a39a80905472fcda2023072"), looks := true }, kinds := [], alts := [], laidByText := true, laidKinds := [.data, .data, .data, .data, .sentinel, .sentinel, .widerDeep, .data, .pinned], laidTests := true, laidLooks := .later }
def RowsDiffCardSaid : Prop := Claim7.holds Tryz.pinned (.plain (OpenSpec.ofChange rowsDiffSpec)) rowsDiffCard

/-- THE SECOND FORM's CARD OF 'schemalenslaw17.RowsKeys'. -/
def rowsKeysUptoCard : Claim7 := { stood := { row := rowsKeysUptoRow, standIns := [], harness := (true, "331b13e1f6b770af449e390ba836dd9aec1731ef3a39a80905472fcda2023072"), looks := true }, kinds := [], alts := [], laidByText := true, laidKinds := [.data, .data, .data, .data, .sentinel, .sentinel, .widerDeep, .data, .pinned], laidTests := true, laidLooks := .later }
def RowsKeysUptoCardSaid : Prop := Claim7.holds Tryz.pinned (.plain (OpenSpec.upto rowsKeysSpec)) rowsKeysUptoCard

/-- THE SECOND FORM's CARD OF 'schemalenslaw17.RowsChanges'. -/
def rowsChangesUptoCard : Claim7 := { stood := { row := rowsChangesUptoRow, standIns := [], harness := (true, "331b13e1f6b770af449e390ba836dd9aec1731ef3a39a80905472fcda2023072"), looks := true }, kinds := [], alts := [], laidByText := true, laidKinds := [.data, .data, .data, .data, .sentinel, .sentinel, .widerDeep, .data, .pinned], laidTests := true, laidLooks := .later }
def RowsChangesUptoCardSaid : Prop := Claim7.holds Tryz.pinned (.plain (OpenSpec.upto rowsChangesSpec)) rowsChangesUptoCard

/-- THE SECOND FORM's CARD OF 'schemalenslaw17.RowsNormal'. -/
def rowsNormalUptoCard : Claim7 := { stood := { row := rowsNormalUptoRow, standIns := [], harness := (true, "331b13e1f6b770af449e390ba836dd9aec1731ef3a39a80905472fcda2023072"), looks := true }, kinds := [], alts := [], laidByText := true, laidKinds := [.data, .data, .data, .data, .sentinel, .sentinel, .widerDeep, .data, .pinned], laidTests := true, laidLooks := .later }
def RowsNormalUptoCardSaid : Prop := Claim7.holds Tryz.pinned (.plain (OpenSpec.upto rowsNormalSpec)) rowsNormalUptoCard

/-- THE SECOND FORM's CARD OF 'schemalenslaw17.RowsDiff'. -/
def rowsDiffUptoCard : Claim7 := { stood := { row := rowsDiffUptoRow, standIns := [], harness := (true, "331b13e1f6b770af449e390ba836dd9aec1731ef3a39a80905472fcda2023072"), looks := true }, kinds := [], alts := [], laidByText := true, laidKinds := [.data, .data, .data, .data, .sentinel, .sentinel, .widerDeep, .data, .pinned], laidTests := true, laidLooks := .later }
def RowsDiffUptoCardSaid : Prop := Claim7.holds Tryz.pinned (.plain (OpenSpec.upto rowsDiffSpec)) rowsDiffUptoCard
end Rows
end Go.Proofs.YtppbaladeefnkaaGreatDoor
