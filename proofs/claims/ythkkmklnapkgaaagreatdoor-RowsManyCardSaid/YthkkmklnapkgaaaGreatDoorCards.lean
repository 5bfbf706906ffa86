/-
  DERIVED. GIVEN WITH THE SEED: THE CARDS: each row of YthkkmklnapkgaaaGreatDoorRows.lean that lists a variable, with what it lists TIED to the program's text (the seventh form; the later family's looks); each row that meets fmt, with fmt's text TOLD by the authors' own Lean function (tested against real Go, not proved from fmt's source: count such statements apart). THE CARD IS WHAT COUNTS. Prove the row's statement (the work); the ties are given (YthkkmklnapkgaaaGreatDoorTie.lean); close each card by the builder's one call (the guide's Derived/Test/ToyasCard.lean, 'card_holds'). Laid BY PROGRAM, IN A SANDBOX (cutbox-door.mjs). By AI agents, Wed Nov 11 2026. No macro, syntax, notation, axiom, sorry.
-/
import Derived.Test.YthkkmklnapkgaaaGreatDoorRows
import GoSem.ClaimSeven
namespace Go.Proofs.YthkkmklnapkgaaaGreatDoor
namespace Rows

/-- THE TIED CARD OF 'schemalenslaw17.RowsMany'. -/
def rowsManyCard : Claim7 := { stood := { row := rowsManyRow, standIns := [], harness := (true, "0c457e40629a0d37d424a5f3e694b99941ef8ebf80b7db6dc58ba289cc457f01"), looks := true }, kinds := [], alts := [], laidByText := true, laidKinds := [.data, .data, .data, .data, .sentinel, .sentinel, .widerDeep, .data, .pinned], laidTests := true, laidLooks := .later }
def RowsManyCardSaid : Prop := Claim7.holds Tryz.pinned (.plain (OpenSpec.ofChange rowsManySpec)) rowsManyCard

/-- THE SECOND FORM's CARD OF 'schemalenslaw17.RowsMany'. -/
def rowsManyUptoCard : Claim7 := { stood := { row := rowsManyUptoRow, standIns := [], harness := (true, "0c457e40629a0d37d424a5f3e694b99941ef8ebf80b7db6dc58ba289cc457f01"), looks := true }, kinds := [], alts := [], laidByText := true, laidKinds := [.data, .data, .data, .data, .sentinel, .sentinel, .widerDeep, .data, .pinned], laidTests := true, laidLooks := .later }
def RowsManyUptoCardSaid : Prop := Claim7.holds Tryz.pinned (.plain (OpenSpec.upto rowsManySpec)) rowsManyUptoCard
end Rows
end Go.Proofs.YthkkmklnapkgaaaGreatDoor
