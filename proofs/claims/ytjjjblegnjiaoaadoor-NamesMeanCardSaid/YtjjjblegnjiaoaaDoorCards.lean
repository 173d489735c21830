/-
  DERIVED. GIVEN WITH THE SEED: THE CARDS: each row of YtjjjblegnjiaoaaDoorRows.lean that lists a variable, with what it lists TIED to the program's text (the seventh form; the later family's looks); each row that meets fmt, with fmt's text TOLD by the authors' own Lean function (tested against real Go, not proved from fmt's source: count such statements apart). THE CARD IS WHAT COUNTS. Prove the row's statement (the work); the ties are given (YtjjjblegnjiaoaaDoorTie.lean); close each card by the builder's one call (the guide's Derived/Test/ToyasCard.lean, 'card_holds'). Laid BY PROGRAM, IN A SANDBOX (cutbox-door.mjs). By AI agents, Wed Nov 11 2026. No macro, syntax, notation, axiom, sorry.
-/
import Derived.Test.YtjjjblegnjiaoaaDoorRows
import GoSem.ClaimSeven
namespace Go.Proofs.YtjjjblegnjiaoaaDoor
namespace Rows

/-- THE TIED CARD OF 'podiumlaw14.NamesSpec'. -/
def namesSpecCard : Claim7 := { stood := { row := namesSpecRow, standIns := [], harness := (true, "01d4d8f07c2b6f83d44305d5310317ed51640bb4628de7792bf05684c2064d13"), looks := false }, kinds := [], alts := [], laidByText := true, laidKinds := [.listed, .data], laidTests := true, laidLooks := .later }
def NamesSpecCardSaid : Prop := Claim7.holds Tryd.pinned (.plain (OpenSpec.ofChange namesSpecSpec)) namesSpecCard

/-- THE TIED CARD OF 'podiumlaw14.NamesMean'. -/
def namesMeanCard : Claim7 := { stood := { row := namesMeanRow, standIns := [], harness := (true, "01d4d8f07c2b6f83d44305d5310317ed51640bb4628de7792bf05684c2064d13"), looks := false }, kinds := [], alts := [], laidByText := true, laidKinds := [.listed, .data], laidTests := true, laidLooks := .later }
def NamesMeanCardSaid : Prop := Claim7.holds Tryd.pinned (.plain (OpenSpec.ofChange namesMeanSpec)) namesMeanCard

/-- THE TIED CARD OF 'podiumlaw14.NamesTwice'. -/
def namesTwiceCard : Claim7 := { stood := { row := namesTwiceRow, standIns := [], harness := (true, "01d4d8f07c2b6f83d44305d5310317ed51640bb4628de7792bf05684c2064d13"), looks := false }, kinds := [], alts := [], laidByText := true, laidKinds := [.listed, .data], laidTests := true, laidLooks := .later }
def NamesTwiceCardSaid : Prop := Claim7.holds Tryd.pinned (.plain (OpenSpec.ofChange namesTwiceSpec)) namesTwiceCard

/-- THE TIED CARD OF 'podiumlaw14.NamesMoved'. -/
def namesMovedCard : Claim7 := { stood := { row := namesMovedRow, standIns := [], harness := (true, "01d4d8f07c2b6f83d44305d5310317ed51640bb4628de7792bf05684c2064d13"), looks := false }, kinds := [], alts := [], laidByText := true, laidKinds := [.listed, .data], laidTests := true, laidLooks := .later }
def NamesMovedCardSaid : Prop := Claim7.holds Tryd.pinned (.plain (OpenSpec.ofChange namesMovedSpec)) namesMovedCard

/-- THE SECOND FORM's CARD OF 'podiumlaw14.NamesSpec'. -/
def namesSpecUptoCard : Claim7 := { stood := { row := namesSpecUptoRow, standIns := [], harness := (true, "01d4d8f07c2b6f83d44305d5310317ed51640bb4628de7792bf05684c2064d13"), looks := false }, kinds := [], alts := [], laidByText := true, laidKinds := [.listed, .data], laidTests := true, laidLooks := .later }
def NamesSpecUptoCardSaid : Prop := Claim7.holds Tryd.pinned (.plain (OpenSpec.upto namesSpecSpec)) namesSpecUptoCard

/-- THE SECOND FORM's CARD OF 'podiumlaw14.NamesMean'. -/
def namesMeanUptoCard : Claim7 := { stood := { row := namesMeanUptoRow, standIns := [], harness := (true, "01d4d8f07c2b6f83d44305d5310317ed51640bb4628de7792bf05684c2064d13"), looks := false }, kinds := [], alts := [], laidByText := true, laidKinds := [.listed, .data], laidTests := true, laidLooks := .later }
def NamesMeanUptoCardSaid : Prop := Claim7.holds Tryd.pinned (.plain (OpenSpec.upto namesMeanSpec)) namesMeanUptoCard

/-- THE SECOND FORM's CARD OF 'podiumlaw14.NamesTwice'. -/
def namesTwiceUptoCard : Claim7 := { stood := { row := namesTwiceUptoRow, standIns := [], harness := (true, "01d4d8f07c2b6f83d44305d5310317ed51640bb4628de7792bf05684c2064d13"), looks := false }, kinds := [], alts := [], laidByText := true, laidKinds := [.listed, .data], laidTests := true, laidLooks := .later }
def NamesTwiceUptoCardSaid : Prop := Claim7.holds Tryd.pinned (.plain (OpenSpec.upto namesTwiceSpec)) namesTwiceUptoCard

/-- THE SECOND FORM's CARD OF 'podiumlaw14.NamesMoved'. -/
def namesMovedUptoCard : Claim7 := { stood := { row := namesMovedUptoRow, standIns := [], harness := (true, "01d4d8f07c2b6f83d44305d5310317ed51640bb4628de7792bf05684c2064d13"), looks := false }, kinds := [], alts := [], laidByText := true, laidKinds := [.listed, .data], laidTests := true, laidLooks := .later }
def NamesMovedUptoCardSaid : Prop := Claim7.holds Tryd.pinned (.plain (OpenSpec.upto namesMovedSpec)) namesMovedUptoCard
end Rows
end Go.Proofs.YtjjjblegnjiaoaaDoor
