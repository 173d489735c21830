/-
  DERIVED. GIVEN WITH THE SEED: THE CARDS: each row of YthldagplhklbnaaDoorRows.lean that lists a variable, with what it lists TIED to the program's text (the seventh form; the later family's looks); each row that meets fmt, with fmt's text TOLD by the authors' own Lean function (tested against real Go, not proved from fmt's source: count such statements apart). THE CARD IS WHAT COUNTS. Prove the row's statement (the work); the ties are given (YthldagplhklbnaaDoorTie.lean); close each card by the builder's one call (the guide's Derived/Test/ToyasCard.lean, 'card_holds'). Laid BY PROGRAM, IN A SANDBOX (cutbox-door.mjs). By AI agents, Wed Nov 11 2026. No macro, syntax, notation, axiom, sorry.
-/
import Derived.Test.YthldagplhklbnaaDoorRows
import GoSem.ClaimSeven
namespace Go.Proofs.YthldagplhklbnaaDoor
namespace Rows

/-- THE TIED CARD OF 'podiumlaw15.RulesExpanded'. -/
def rulesExpandedCard : Claim7 := { stood := { row := rulesExpandedRow, standIns := [], harness := (true, "3cac5e5c5aaa7430fca2c6a80c24505339bb33c6dbce703d11a088bfab752a28"), looks := false }, kinds := [], alts := [], laidByText := true, laidKinds := [.listed, .data], laidTests := true, laidLooks := .later }
def RulesExpandedCardSaid : Prop := Claim7.holds Tryd.pinned (.plain (OpenSpec.ofChange rulesExpandedSpec)) rulesExpandedCard

/-- THE TIED CARD OF 'podiumlaw15.RulesTotal'. -/
def rulesTotalCard : Claim7 := { stood := { row := rulesTotalRow, standIns := [], harness := (true, "3cac5e5c5aaa7430fca2c6a80c24505339bb33c6dbce703d11a088bfab752a28"), looks := false }, kinds := [], alts := [], laidByText := true, laidKinds := [.listed, .data], laidTests := true, laidLooks := .later }
def RulesTotalCardSaid : Prop := Claim7.holds Tryd.pinned (.plain (OpenSpec.ofChange rulesTotalSpec)) rulesTotalCard

/-- THE TIED CARD OF 'podiumlaw15.RulesLimits'. -/
def rulesLimitsCard : Claim7 := { stood := { row := rulesLimitsRow, standIns := [], harness := (true, "3cac5e5c5aaa7430fca2c6a80c24505339bb33c6dbce703d11a088bfab752a28"), looks := false }, kinds := [], alts := [], laidByText := true, laidKinds := [.listed, .data], laidTests := true, laidLooks := .later }
def RulesLimitsCardSaid : Prop := Claim7.holds Tryd.pinned (.plain (OpenSpec.ofChange rulesLimitsSpec)) rulesLimitsCard

/-- THE TIED CARD OF 'podiumlaw15.RulesFewer'. -/
def rulesFewerCard : Claim7 := { stood := { row := rulesFewerRow, standIns := [], harness := (true, "3cac5e5c5aaa7430fca2c6a80c24505339bb33c6dbce703d11a088bfab752a28"), looks := false }, kinds := [], alts := [], laidByText := true, laidKinds := [.listed, .data], laidTests := true, laidLooks := .later }
def RulesFewerCardSaid : Prop := Claim7.holds Tryd.pinned (.plain (OpenSpec.ofChange rulesFewerSpec)) rulesFewerCard

/-- THE SECOND FORM's CARD OF 'podiumlaw15.RulesExpanded'. -/
def rulesExpandedUptoCard : Claim7 := { stood := { row := rulesExpandedUptoRow, standIns := [], harness := (true, "3cac5e5c5aaa7430fca2c6a80c24505339bb33c6dbce703d11a088bfab752a28"), looks := false }, kinds := [], alts := [], laidByText := true, laidKinds := [.listed, .data], laidTests := true, laidLooks := .later }
def RulesExpandedUptoCardSaid : Prop := Claim7.holds Tryd.pinned (.plain (OpenSpec.upto rulesExpandedSpec)) rulesExpandedUptoCard

/-- THE SECOND FORM's CARD OF 'podiumlaw15.RulesTotal'. -/
def rulesTotalUptoCard : Claim7 := { stood := { row := rulesTotalUptoRow, standIns := [], harness := (true, "3cac5e5c5aaa7430fca2c6a80c24505339bb33c6dbce703d11a088bfab752a28"), looks := false }, kinds := [], alts := [], laidByText := true, laidKinds := [.listed, .data], laidTests := true, laidLooks := .later }
def RulesTotalUptoCardSaid : Prop := Claim7.holds Tryd.pinned (.plain (OpenSpec.upto rulesTotalSpec)) rulesTotalUptoCard

/-- THE SECOND FORM's CARD OF 'podiumlaw15.RulesLimits'. -/
def rulesLimitsUptoCard : Claim7 := { stood := { row := rulesLimitsUptoRow, standIns := [], harness := (true, "3cac5e5c5aaa7430fca2c6a80c24505339bb33c6dbce703d11a088bfab752a28"), looks := false }, kinds := [], alts := [], laidByText := true, laidKinds := [.listed, .data], laidTests := true, laidLooks := .later }
def RulesLimitsUptoCardSaid : Prop := Claim7.holds Tryd.pinned (.plain (OpenSpec.upto rulesLimitsSpec)) rulesLimitsUptoCard

/-- THE SECOND FORM's CARD OF 'podiumlaw15.RulesFewer'. -/
def rulesFewerUptoCard : Claim7 := { stood := { row := rulesFewerUptoRow, standIns := [], harness := (true, "3cac5e5c5aaa7430fca2c6a80c24505339bb33c6dbce703d11a088bfab752a28"), looks := false }, kinds := [], alts := [], laidByText := true, laidKinds := [.listed, .data], laidTests := true, laidLooks := .later }
def RulesFewerUptoCardSaid : Prop := Claim7.holds Tryd.pinned (.plain (OpenSpec.upto rulesFewerSpec)) rulesFewerUptoCard
end Rows
end Go.Proofs.YthldagplhklbnaaDoor
