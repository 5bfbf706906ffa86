/-
  DERIVED. GIVEN WITH THE SEED: THE CARDS: each row of YtolgoojlpmgblaaDoorRows.lean that lists a variable, with what it lists TIED to the program's text (the seventh form; the later family's looks); each row that meets fmt, with fmt's text TOLD by the authors' own Lean function (tested against real Go, not proved from fmt's source: count such statements apart). THE CARD IS WHAT COUNTS. Prove the row's statement (the work); the ties are given (YtolgoojlpmgblaaDoorTie.lean); close each card by the builder's one call (the guide's Derived/Test/ToyasCard.lean, 'card_holds'). Laid BY PROGRAM, IN A SANDBOX (cutbox-door.mjs). By AI agents, Wed Nov 11 2026. No macro, syntax, notation, axiom, sorry.
-/
import Derived.Test.YtolgoojlpmgblaaDoorRows
import GoSem.ClaimSeven
namespace Go.Proofs.YtolgoojlpmgblaaDoor
namespace Rows

/-- THE TIED CARD OF 'schemalenslaw06.LexerTokens'. -/
def lexerTokensCard : Claim7 := { stood := { row := lexerTokensRow, standIns := [], harness := (true, "b571321601a3a14f1c21bfd4ef0f218b6050ade71073201d00c6e152b98e9aa3"), looks := true }, kinds := [], alts := [], laidByText := true, laidKinds := [.data, .widerDeep, .data, .pinned], laidTests := true, laidLooks := .later }
def LexerTokensCardSaid : Prop := Claim7.holds Tryd.pinned (.plain (OpenSpec.ofChange lexerTokensSpec)) lexerTokensCard

/-- THE TIED CARD OF 'schemalenslaw06.LexerWhole'. -/
def lexerWholeCard : Claim7 := { stood := { row := lexerWholeRow, standIns := [], harness := (true, "b571321601a3a14f1c21bfd4ef0f218b6050ade71073201d00c6e152b98e9aa3"), looks := true }, kinds := [], alts := [], laidByText := true, laidKinds := [.data, .widerDeep, .data, .pinned], laidTests := true, laidLooks := .later }
def LexerWholeCardSaid : Prop := Claim7.holds Tryd.pinned (.plain (OpenSpec.ofChange lexerWholeSpec)) lexerWholeCard

/-- THE TIED CARD OF 'schemalenslaw06.LexerJoins'. -/
def lexerJoinsCard : Claim7 := { stood := { row := lexerJoinsRow, standIns := [], harness := (true, "b571321601a3a14f1c21bfd4ef0f218b6050ade71073201d00c6e152b98e9aa3"), looks := true }, kinds := [], alts := [], laidByText := true, laidKinds := [.data, .widerDeep, .data, .pinned], laidTests := true, laidLooks := .later }
def LexerJoinsCardSaid : Prop := Claim7.holds Tryd.pinned (.plain (OpenSpec.ofChange lexerJoinsSpec)) lexerJoinsCard

/-- THE TIED CARD OF 'schemalenslaw06.LexerLocal'. -/
def lexerLocalCard : Claim7 := { stood := { row := lexerLocalRow, standIns := [], harness := (true, "b571321601a3a14f1c21bfd4ef0f218b6050ade71073201d00c6e152b98e9aa3"), looks := true }, kinds := [], alts := [], laidByText := true, laidKinds := [.data, .widerDeep, .data, .pinned], laidTests := true, laidLooks := .later }
def LexerLocalCardSaid : Prop := Claim7.holds Tryd.pinned (.plain (OpenSpec.ofChange lexerLocalSpec)) lexerLocalCard

/-- THE TIED CARD OF 'schemalenslaw06.LexerLines'. -/
def lexerLinesCard : Claim7 := { stood := { row := lexerLinesRow, standIns := [], harness := (true, "b571321601a3a14f1c21bfd4ef0f218b6050ade71073201d00c6e152b98e9aa3"), looks := true }, kinds := [], alts := [], laidByText := true, laidKinds := [.data, .widerDeep, .data, .pinned], laidTests := true, laidLooks := .later }
def LexerLinesCardSaid : Prop := Claim7.holds Tryd.pinned (.plain (OpenSpec.ofChange lexerLinesSpec)) lexerLinesCard

/-- THE TIED CARD OF 'schemalenslaw06.LexerQuotes'. -/
def lexerQuotesCard : Claim7 := { stood := { row := lexerQuotesRow, standIns := [], harness := (true, "b571321601a3a14f1c21bfd4ef0f218b6050ade71073201d00c6e152b98e9aa3"), looks := true }, kinds := [], alts := [], laidByText := true, laidKinds := [.data, .widerDeep, .data, .pinned], laidTests := true, laidLooks := .later }
def LexerQuotesCardSaid : Prop := Claim7.holds Tryd.pinned (.plain (OpenSpec.ofChange lexerQuotesSpec)) lexerQuotesCard

/-- THE TIED CARD OF 'schemalenslaw06.LexerEdits'. -/
def lexerEditsCard : Claim7 := { stood := { row := lexerEditsRow, standIns := [], harness := (true, "b571321601a3a14f1c21bfd4ef0f218b6050ade71073201d00c6e152b98e9aa3"), looks := true }, kinds := [], alts := [], laidByText := true, laidKinds := [.data, .widerDeep, .data, .pinned], laidTests := true, laidLooks := .later }
def LexerEditsCardSaid : Prop := Claim7.holds Tryd.pinned (.plain (OpenSpec.ofChange lexerEditsSpec)) lexerEditsCard

/-- THE TIED CARD OF 'schemalenslaw06.LexerFits'. -/
def lexerFitsCard : Claim7 := { stood := { row := lexerFitsRow, standIns := [], harness := (true, "b571321601a3a14f1c21bfd4ef0f218b6050ade71073201d00c6e152b98e9aa3"), looks := true }, kinds := [], alts := [], laidByText := true, laidKinds := [.data, .data, .data, .data, .sentinel, .sentinel, .widerDeep, .data, .pinned], laidTests := true, laidLooks := .later }
def LexerFitsCardSaid : Prop := Claim7.holds Tryd.pinned (.plain (OpenSpec.ofChange lexerFitsSpec)) lexerFitsCard

/-- THE SECOND FORM's CARD OF 'schemalenslaw06.LexerTokens'. -/
def lexerTokensUptoCard : Claim7 := { stood := { row := lexerTokensUptoRow, standIns := [], harness := (true, "b571321601a3a14f1c21bfd4ef0f218b6050ade71073201d00c6e152b98e9aa3"), looks := true }, kinds := [], alts := [], laidByText := true, laidKinds := [.data, .widerDeep, .data, .pinned], laidTests := true, laidLooks := .later }
def LexerTokensUptoCardSaid : Prop := Claim7.holds Tryd.pinned (.plain (OpenSpec.upto lexerTokensSpec)) lexerTokensUptoCard

/-- THE SECOND FORM's CARD OF 'schemalenslaw06.LexerWhole'. -/
def lexerWholeUptoCard : Claim7 := { stood := { row := lexerWholeUptoRow, standIns := [], harness := (true, "b571321601a3a14f1c21bfd4ef0f218b6050ade71073201d00c6e152b98e9aa3"), looks := true }, kinds := [], alts := [], laidByText := true, laidKinds := [.data, .widerDeep, .data, .pinned], laidTests := true, laidLooks := .later }
def LexerWholeUptoCardSaid : Prop := Claim7.holds Tryd.pinned (.plain (OpenSpec.upto lexerWholeSpec)) lexerWholeUptoCard

/-- THE SECOND FORM's CARD OF 'schemalenslaw06.LexerJoins'. -/
def lexerJoinsUptoCard : Claim7 := { stood := { row := lexerJoinsUptoRow, standIns := [], harness := (true, "b571321601a3a14f1c21bfd4ef0f218b6050ade71073201d00c6e152b98e9aa3"), looks := true }, kinds := [], alts := [], laidByText := true, laidKinds := [.data, .widerDeep, .data, .pinned], laidTests := true, laidLooks := .later }
def LexerJoinsUptoCardSaid : Prop := Claim7.holds Tryd.pinned (.plain (OpenSpec.upto lexerJoinsSpec)) lexerJoinsUptoCard

/-- THE SECOND FORM's CARD OF 'schemalenslaw06.LexerLocal'. -/
def lexerLocalUptoCard : Claim7 := { stood := { row := lexerLocalUptoRow, standIns := [], harness := (true, "b571321601a3a14f1c21bfd4ef0f218b6050ade71073201d00c6e152b98e9aa3"), looks := true }, kinds := [], alts := [], laidByText := true, laidKinds := [.data, .widerDeep, .data, .pinned], laidTests := true, laidLooks := .later }
def LexerLocalUptoCardSaid : Prop := Claim7.holds Tryd.pinned (.plain (OpenSpec.upto lexerLocalSpec)) lexerLocalUptoCard

/-- THE SECOND FORM's CARD OF 'schemalenslaw06.LexerLines'. -/
def lexerLinesUptoCard : Claim7 := { stood := { row := lexerLinesUptoRow, standIns := [], harness := (true, "b571321601a3a14f1c21bfd4ef0f218b6050ade71073201d00c6e152b98e9aa3"), looks := true }, kinds := [], alts := [], laidByText := true, laidKinds := [.data, .widerDeep, .data, .pinned], laidTests := true, laidLooks := .later }
def LexerLinesUptoCardSaid : Prop := Claim7.holds Tryd.pinned (.plain (OpenSpec.upto lexerLinesSpec)) lexerLinesUptoCard

/-- THE SECOND FORM's CARD OF 'schemalenslaw06.LexerQuotes'. -/
def lexerQuotesUptoCard : Claim7 := { stood := { row := lexerQuotesUptoRow, standIns := [], harness := (true, "b571321601a3a14f1c21bfd4ef0f218b6050ade71073201d00c6e152b98e9aa3"), looks := true }, kinds := [], alts := [], laidByText := true, laidKinds := [.data, .widerDeep, .data, .pinned], laidTests := true, laidLooks := .later }
def LexerQuotesUptoCardSaid : Prop := Claim7.holds Tryd.pinned (.plain (OpenSpec.upto lexerQuotesSpec)) lexerQuotesUptoCard

/-- THE SECOND FORM's CARD OF 'schemalenslaw06.LexerEdits'. -/
def lexerEditsUptoCard : Claim7 := { stood := { row := lexerEditsUptoRow, standIns := [], harness := (true, "b571321601a3a14f1c21bfd4ef0f218b6050ade71073201d00c6e152b98e9aa3"), looks := true }, kinds := [], alts := [], laidByText := true, laidKinds := [.data, .widerDeep, .data, .pinned], laidTests := true, laidLooks := .later }
def LexerEditsUptoCardSaid : Prop := Claim7.holds Tryd.pinned (.plain (OpenSpec.upto lexerEditsSpec)) lexerEditsUptoCard

/-- THE SECOND FORM's CARD OF 'schemalenslaw06.LexerFits'. -/
def lexerFitsUptoCard : Claim7 := { stood := { row := lexerFitsUptoRow, standIns := [], harness := (true, "b571321601a3a14f1c21bfd4ef0f218b6050ade71073201d00c6e152b98e9aa3"), looks := true }, kinds := [], alts := [], laidByText := true, laidKinds := [.data, .data, .data, .data, .sentinel, .sentinel, .widerDeep, .data, .pinned], laidTests := true, laidLooks := .later }
def LexerFitsUptoCardSaid : Prop := Claim7.holds Tryd.pinned (.plain (OpenSpec.upto lexerFitsSpec)) lexerFitsUptoCard
end Rows
end Go.Proofs.YtolgoojlpmgblaaDoor
