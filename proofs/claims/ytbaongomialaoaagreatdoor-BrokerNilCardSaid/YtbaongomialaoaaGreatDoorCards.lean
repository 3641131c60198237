/-
  DERIVED. GIVEN WITH THE SEED: THE CARDS: each row of YtbaongomialaoaaGreatDoorRows.lean that lists a variable, with what it lists TIED to the program's text (the seventh form; the later family's looks); each row that meets fmt, with fmt's text TOLD by the authors' own Lean function (tested against real Go, not proved from fmt's source: count such statements apart). THE CARD IS WHAT COUNTS. Prove the row's statement (the work); the ties are given (YtbaongomialaoaaGreatDoorTie.lean); close each card by the builder's one call (the guide's Derived/Test/ToyasCard.lean, 'card_holds'). Laid BY PROGRAM, IN A SANDBOX (cutbox-door.mjs). By AI agents, Wed Nov 11 2026. No macro, syntax, notation, axiom, sorry.
-/
import Derived.Test.YtbaongomialaoaaGreatDoorRows
import GoSem.ClaimSeven
namespace Go.Proofs.YtbaongomialaoaaGreatDoor
namespace Rows

/-- THE TIED CARD OF 'arbourlaw19.BrokerGets'. -/
def brokerGetsCard : Claim7 := { stood := { row := brokerGetsRow, standIns := [], harness := (true, "96851cebac4ce141b25c3c526de5731fd232653a917c50461d15e3ebdd1732aa"), looks := false }, kinds := [], alts := [], laidByText := true, laidKinds := [.data, .data, .data], laidTests := true, laidLooks := .later }
def BrokerGetsCardSaid : Prop := Claim7.holds Tryz.pinned (.plain (OpenSpec.ofChange brokerGetsSpec)) brokerGetsCard

/-- THE TIED CARD OF 'arbourlaw19.BrokerNil'. -/
def brokerNilCard : Claim7 := { stood := { row := brokerNilRow, standIns := [], harness := (true, "96851cebac4ce141b25c3c526de5731fd232653a917c50461d15e3ebdd1732aa"), looks := false }, kinds := [], alts := [], laidByText := true, laidKinds := [.data, .data, .data], laidTests := true, laidLooks := .later }
def BrokerNilCardSaid : Prop := Claim7.holds Tryz.pinned (.plain (OpenSpec.ofChange brokerNilSpec)) brokerNilCard

/-- THE SECOND FORM's CARD OF 'arbourlaw19.BrokerGets'. -/
def brokerGetsUptoCard : Claim7 := { stood := { row := brokerGetsUptoRow, standIns := [], harness := (true, "96851cebac4ce141b25c3c526de5731fd232653a917c50461d15e3ebdd1732aa"), looks := false }, kinds := [], alts := [], laidByText := true, laidKinds := [.data, .data, .data], laidTests := true, laidLooks := .later }
def BrokerGetsUptoCardSaid : Prop := Claim7.holds Tryz.pinned (.plain (OpenSpec.upto brokerGetsSpec)) brokerGetsUptoCard

/-- THE SECOND FORM's CARD OF 'arbourlaw19.BrokerNil'. -/
def brokerNilUptoCard : Claim7 := { stood := { row := brokerNilUptoRow, standIns := [], harness := (true, "96851cebac4ce141b25c3c526de5731fd232653a917c50461d15e3ebdd1732aa"), looks := false }, kinds := [], alts := [], laidByText := true, laidKinds := [.data, .data, .data], laidTests := true, laidLooks := .later }
def BrokerNilUptoCardSaid : Prop := Claim7.holds Tryz.pinned (.plain (OpenSpec.upto brokerNilSpec)) brokerNilUptoCard
end Rows
end Go.Proofs.YtbaongomialaoaaGreatDoor
