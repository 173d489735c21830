/-
  DERIVED. GIVEN WITH THE SEED: THE CARDS: each row of YthldagplhklbnaaGreatDoorRows.lean that lists a variable, with what it lists TIED to the program's text (the seventh form; the later family's looks); each row that meets fmt, with fmt's text TOLD by the authors' own Lean function (tested against real Go, not proved from fmt's source: count such statements apart). THE CARD IS WHAT COUNTS. Prove the row's statement (the work); the ties are given (YthldagplhklbnaaGreatDoorTie.lean); close each card by the builder's one call (the guide's Derived/Test/ToyasCard.lean, 'card_holds'). Laid BY PROGRAM, IN A SANDBOX (cutbox-door.mjs). By AI agents, Wed Nov 11 2026. No macro, syntax, notation, axiom, sorry.
-/
import Derived.Test.YthldagplhklbnaaGreatDoorRows
import GoSem.ClaimSeven
namespace Go.Proofs.YthldagplhklbnaaGreatDoor
namespace Rows

/-- THE TIED CARD OF 'podiumlaw15.RulesSpec'. -/
def rulesSpecCard : Claim7 := { stood := { row := rulesSpecRow, standIns := [], harness := (true, "3e779557fadf83ded7facb7e0227aa5718ae4298e5c75a9ebd973307e43b7045"), looks := false }, kinds := [], alts := [], laidByText := true, laidKinds := [.listed, .data], laidTests := true, laidLooks := .later }
def RulesSpecCardSaid : Prop := Claim7.holds Tryz.pinned (.plain (OpenSpec.ofChange rulesSpecSpec)) rulesSpecCard

/-- THE TIED CARD OF 'podiumlaw15.RulesKeysSpec'. -/
def rulesKeysSpecCard : Claim7 := { stood := { row := rulesKeysSpecRow, standIns := [], harness := (true, "3e779557fadf83ded7facb7e0227aa5718ae4298e5c75a9ebd973307e43b7045"), looks := false }, kinds := [], alts := [], laidByText := true, laidKinds := [.listed, .data], laidTests := true, laidLooks := .later }
def RulesKeysSpecCardSaid : Prop := Claim7.holds Tryz.pinned (.plain (OpenSpec.ofChange rulesKeysSpecSpec)) rulesKeysSpecCard

/-- THE TIED CARD OF 'podiumlaw15.RulesOrder'. -/
def rulesOrderCard : Claim7 := { stood := { row := rulesOrderRow, standIns := [], harness := (true, "3e779557fadf83ded7facb7e0227aa5718ae4298e5c75a9ebd973307e43b7045"), looks := false }, kinds := [], alts := [], laidByText := true, laidKinds := [.listed, .data], laidTests := true, laidLooks := .later }
def RulesOrderCardSaid : Prop := Claim7.holds Tryz.pinned (.plain (OpenSpec.ofChange rulesOrderSpec)) rulesOrderCard

/-- THE SECOND FORM's CARD OF 'podiumlaw15.RulesSpec'. -/
def rulesSpecUptoCard : Claim7 := { stood := { row := rulesSpecUptoRow, standIns := [], harness := (true, "3e779557fadf83ded7facb7e0227aa5718ae4298e5c75a9ebd973307e43b7045"), looks := false }, kinds := [], alts := [], laidByText := true, laidKinds := [.listed, .data], laidTests := true, laidLooks := .later }
def RulesSpecUptoCardSaid : Prop := Claim7.holds Tryz.pinned (.plain (OpenSpec.upto rulesSpecSpec)) rulesSpecUptoCard

/-- THE SECOND FORM's CARD OF 'podiumlaw15.RulesKeysSpec'. -/
def rulesKeysSpecUptoCard : Claim7 := { stood := { row := rulesKeysSpecUptoRow, standIns := [], harness := (true, "3e779557fadf83ded7facb7e0227aa5718ae4298e5c75a9ebd973307e43b7045"), looks := false }, kinds := [], alts := [], laidByText := true, laidKinds := [.listed, .data], laidTests := true, laidLooks := .later }
def RulesKeysSpecUptoCardSaid : Prop := Claim7.holds Tryz.pinned (.plain (OpenSpec.upto rulesKeysSpecSpec)) rulesKeysSpecUptoCard

/-- THE SECOND FORM's CARD OF 'podiumlaw15.RulesOrder'. -/
def rulesOrderUptoCard : Claim7 := { stood := { row := rulesOrderUptoRow, standIns := [], harness := (true, "3e779557fadf83ded7facb7e0227aa5718ae4298e5c75a9ebd973307e43b7045"), looks := false }, kinds := [], alts := [], laidByText := true, laidKinds := [.listed, .data], laidTests := true, laidLooks := .later }
def RulesOrderUptoCardSaid : Prop := Claim7.holds Tryz.pinned (.plain (OpenSpec.upto rulesOrderSpec)) rulesOrderUptoCard
end Rows
end Go.Proofs.YthldagplhklbnaaGreatDoor
