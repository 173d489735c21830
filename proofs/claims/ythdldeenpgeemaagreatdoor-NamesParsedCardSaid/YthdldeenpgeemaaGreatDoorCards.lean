/-
  DERIVED. GIVEN WITH THE SEED: THE CARDS: each row of YthdldeenpgeemaaGreatDoorRows.lean that lists a variable, with what it lists TIED to the program's text (the seventh form; the later family's looks); each row that meets fmt, with fmt's text TOLD by the authors' own Lean function (tested against real Go, not proved from fmt's source: count such statements apart). THE CARD IS WHAT COUNTS. Prove the row's statement (the work); the ties are given (YthdldeenpgeemaaGreatDoorTie.lean); close each card by the builder's one call (the guide's Derived/Test/ToyasCard.lean, 'card_holds'). Laid BY PROGRAM, IN A SANDBOX (cutbox-door.mjs). By AI agents, Wed Nov 11 2026. No macro, syntax, notation, axiom, sorry.
-/
import Derived.Test.YthdldeenpgeemaaGreatDoorRows
import GoSem.ClaimSeven
namespace Go.Proofs.YthdldeenpgeemaaGreatDoor
namespace Rows

/-- THE TIED CARD OF 'podiumlaw13.SyntaxSpec'. -/
def syntaxSpecCard : Claim7 := { stood := { row := syntaxSpecRow, standIns := [], harness := (true, "196277dbce83ee7a503208aa3be86eb01b905409c9f9193bba39f13d3a26ed52"), looks := true }, kinds := [], alts := [], laidByText := true, laidKinds := [.data, .data, .data, .sentinel, .sentinel], laidTests := true, laidLooks := .later }
def SyntaxSpecCardSaid : Prop := Claim7.holds Tryz.pinned (.plain (OpenSpec.ofChange syntaxSpecSpec)) syntaxSpecCard

/-- THE TIED CARD OF 'podiumlaw13.SyntaxPrintSpec'. -/
def syntaxPrintSpecCard : Claim7 := { stood := { row := syntaxPrintSpecRow, standIns := [], harness := (true, "196277dbce83ee7a503208aa3be86eb01b905409c9f9193bba39f13d3a26ed52"), looks := true }, kinds := [], alts := [], laidByText := true, laidKinds := [.data, .data, .data, .sentinel, .sentinel], laidTests := true, laidLooks := .later }
def SyntaxPrintSpecCardSaid : Prop := Claim7.holds Tryz.pinned (.plain (OpenSpec.ofChange syntaxPrintSpecSpec)) syntaxPrintSpecCard

/-- THE TIED CARD OF 'podiumlaw13.SyntaxBack'. -/
def syntaxBackCard : Claim7 := { stood := { row := syntaxBackRow, standIns := [], harness := (true, "196277dbce83ee7a503208aa3be86eb01b905409c9f9193bba39f13d3a26ed52"), looks := true }, kinds := [], alts := [], laidByText := true, laidKinds := [.data, .data, .data, .sentinel, .sentinel], laidTests := true, laidLooks := .later }
def SyntaxBackCardSaid : Prop := Claim7.holds Tryz.pinned (.plain (OpenSpec.ofChange syntaxBackSpec)) syntaxBackCard

/-- THE TIED CARD OF 'podiumlaw13.SyntaxChange'. -/
def syntaxChangeCard : Claim7 := { stood := { row := syntaxChangeRow, standIns := [], harness := (true, "196277dbce83ee7a503208aa3be86eb01b905409c9f9193bba39f13d3a26ed52"), looks := true }, kinds := [], alts := [], laidByText := true, laidKinds := [.data, .data, .data, .sentinel, .sentinel], laidTests := true, laidLooks := .later }
def SyntaxChangeCardSaid : Prop := Claim7.holds Tryz.pinned (.plain (OpenSpec.ofChange syntaxChangeSpec)) syntaxChangeCard

/-- THE TIED CARD OF 'podiumlaw13.SyntaxCut'. -/
def syntaxCutCard : Claim7 := { stood := { row := syntaxCutRow, standIns := [], harness := (true, "196277dbce83ee7a503208aa3be86eb01b905409c9f9193bba39f13d3a26ed52"), looks := true }, kinds := [], alts := [], laidByText := true, laidKinds := [.data, .data, .data, .sentinel, .sentinel], laidTests := true, laidLooks := .later }
def SyntaxCutCardSaid : Prop := Claim7.holds Tryz.pinned (.plain (OpenSpec.ofChange syntaxCutSpec)) syntaxCutCard

/-- THE TIED CARD OF 'podiumlaw13.SyntaxBrackets'. -/
def syntaxBracketsCard : Claim7 := { stood := { row := syntaxBracketsRow, standIns := [], harness := (true, "196277dbce83ee7a503208aa3be86eb01b905409c9f9193bba39f13d3a26ed52"), looks := true }, kinds := [], alts := [], laidByText := true, laidKinds := [.data, .data, .data, .sentinel, .sentinel], laidTests := true, laidLooks := .later }
def SyntaxBracketsCardSaid : Prop := Claim7.holds Tryz.pinned (.plain (OpenSpec.ofChange syntaxBracketsSpec)) syntaxBracketsCard

/-- THE TIED CARD OF 'podiumlaw14.NamesParsed'. -/
def namesParsedCard : Claim7 := { stood := { row := namesParsedRow, standIns := [], harness := (true, "196277dbce83ee7a503208aa3be86eb01b905409c9f9193bba39f13d3a26ed52"), looks := true }, kinds := [], alts := [], laidByText := true, laidKinds := [.data, .data, .data, .sentinel, .sentinel, .listed, .data], laidTests := true, laidLooks := .later }
def NamesParsedCardSaid : Prop := Claim7.holds Tryz.pinned (.plain (OpenSpec.ofChange namesParsedSpec)) namesParsedCard

/-- THE SECOND FORM's CARD OF 'podiumlaw13.SyntaxSpec'. -/
def syntaxSpecUptoCard : Claim7 := { stood := { row := syntaxSpecUptoRow, standIns := [], harness := (true, "196277dbce83ee7a503208aa3be86eb01b905409c9f9193bba39f13d3a26ed52"), looks := true }, kinds := [], alts := [], laidByText := true, laidKinds := [.data, .data, .data, .sentinel, .sentinel], laidTests := true, laidLooks := .later }
def SyntaxSpecUptoCardSaid : Prop := Claim7.holds Tryz.pinned (.plain (OpenSpec.upto syntaxSpecSpec)) syntaxSpecUptoCard

/-- THE SECOND FORM's CARD OF 'podiumlaw13.SyntaxPrintSpec'. -/
def syntaxPrintSpecUptoCard : Claim7 := { stood := { row := syntaxPrintSpecUptoRow, standIns := [], harness := (true, "196277dbce83ee7a503208aa3be86eb01b905409c9f9193bba39f13d3a26ed52"), looks := true }, kinds := [], alts := [], laidByText := true, laidKinds := [.data, .data, .data, .sentinel, .sentinel], laidTests := true, laidLooks := .later }
def SyntaxPrintSpecUptoCardSaid : Prop := Claim7.holds Tryz.pinned (.plain (OpenSpec.upto syntaxPrintSpecSpec)) syntaxPrintSpecUptoCard

/-- THE SECOND FORM's CARD OF 'podiumlaw13.SyntaxBack'. -/
def syntaxBackUptoCard : Claim7 := { stood := { row := syntaxBackUptoRow, standIns := [], harness := (true, "196277dbce83ee7a503208aa3be86eb01b905409c9f9193bba39f13d3a26ed52"), looks := true }, kinds := [], alts := [], laidByText := true, laidKinds := [.data, .data, .data, .sentinel, .sentinel], laidTests := true, laidLooks := .later }
def SyntaxBackUptoCardSaid : Prop := Claim7.holds Tryz.pinned (.plain (OpenSpec.upto syntaxBackSpec)) syntaxBackUptoCard

/-- THE SECOND FORM's CARD OF 'podiumlaw13.SyntaxChange'. -/
def syntaxChangeUptoCard : Claim7 := { stood := { row := syntaxChangeUptoRow, standIns := [], harness := (true, "196277dbce83ee7a503208aa3be86eb01b905409c9f9193bba39f13d3a26ed52"), looks := true }, kinds := [], alts := [], laidByText := true, laidKinds := [.data, .data, .data, .sentinel, .sentinel], laidTests := true, laidLooks := .later }
def SyntaxChangeUptoCardSaid : Prop := Claim7.holds Tryz.pinned (.plain (OpenSpec.upto syntaxChangeSpec)) syntaxChangeUptoCard

/-- THE SECOND FORM's CARD OF 'podiumlaw13.SyntaxCut'. -/
def syntaxCutUptoCard : Claim7 := { stood := { row := syntaxCutUptoRow, standIns := [], harness := (true, "196277dbce83ee7a503208aa3be86eb01b905409c9f9193bba39f13d3a26ed52"), looks := true }, kinds := [], alts := [], laidByText := true, laidKinds := [.data, .data, .data, .sentinel, .sentinel], laidTests := true, laidLooks := .later }
def SyntaxCutUptoCardSaid : Prop := Claim7.holds Tryz.pinned (.plain (OpenSpec.upto syntaxCutSpec)) syntaxCutUptoCard

/-- THE SECOND FORM's CARD OF 'podiumlaw13.SyntaxBrackets'. -/
def syntaxBracketsUptoCard : Claim7 := { stood := { row := syntaxBracketsUptoRow, standIns := [], harness := (true, "196277dbce83ee7a503208aa3be86eb01b905409c9f9193bba39f13d3a26ed52"), looks := true }, kinds := [], alts := [], laidByText := true, laidKinds := [.data, .data, .data, .sentinel, .sentinel], laidTests := true, laidLooks := .later }
def SyntaxBracketsUptoCardSaid : Prop := Claim7.holds Tryz.pinned (.plain (OpenSpec.upto syntaxBracketsSpec)) syntaxBracketsUptoCard

/-- THE SECOND FORM's CARD OF 'podiumlaw14.NamesParsed'. -/
def namesParsedUptoCard : Claim7 := { stood := { row := namesParsedUptoRow, standIns := [], harness := (true, "196277dbce83ee7a503208aa3be86eb01b905409c9f9193bba39f13d3a26ed52"), looks := true }, kinds := [], alts := [], laidByText := true, laidKinds := [.data, .data, .data, .sentinel, .sentinel, .listed, .data], laidTests := true, laidLooks := .later }
def NamesParsedUptoCardSaid : Prop := Claim7.holds Tryz.pinned (.plain (OpenSpec.upto namesParsedSpec)) namesParsedUptoCard
end Rows
end Go.Proofs.YthdldeenpgeemaaGreatDoor
