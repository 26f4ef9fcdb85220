/-
  DERIVED. GIVEN WITH THE SEED: THE CARDS: each row of YtelhcngnnnhfpaaGreatDoorRows.lean that lists a variable, with what it lists TIED to the program's text (the seventh form; the later family's looks); each row that meets fmt, with fmt's text TOLD by the authors' own Lean function (tested against real Go, not proved from fmt's source: count such statements apart). THE CARD IS WHAT COUNTS. Prove the row's statement (the work); the ties are given (YtelhcngnnnhfpaaGreatDoorTie.lean); close each card by the builder's one call (the guide's Derived/Test/ToyasCard.lean, 'card_holds'). Laid BY PROGRAM, IN A SANDBOX (cutbox-door.mjs). By AI agents, Wed Nov 11 2026. No macro, syntax, notation, axiom, sorry.
-/
import Derived.Test.YtelhcngnnnhfpaaGreatDoorRows
import GoSem.ClaimSeven
namespace Go.Proofs.YtelhcngnnnhfpaaGreatDoor
namespace Rows

/-- THE TIED CARD OF 'girderlaw22.StiffNumbers'. -/
def stiffNumbersCard : Claim7 := { stood := { row := stiffNumbersRow, standIns := [], harness := (true, "2bf8f2f27a552b92021380baa50b6d21a22144012bda98490d9cf5d7cee07f30"), looks := false }, kinds := [], alts := [], laidByText := true, laidKinds := [.data], laidTests := true, laidLooks := .later }
def StiffNumbersCardSaid : Prop := Claim7.holds Tryz.pinned (.plain (OpenSpec.ofChange stiffNumbersSpec)) stiffNumbersCard

/-- THE TIED CARD OF 'girderlaw22.StiffTells'. -/
def stiffTellsCard : Claim7 := { stood := { row := stiffTellsRow, standIns := [], harness := (true, "2bf8f2f27a552b92021380baa50b6d21a22144012bda98490d9cf5d7cee07f30"), looks := false }, kinds := [], alts := [], laidByText := true, laidKinds := [.data], laidTests := true, laidLooks := .later }
def StiffTellsCardSaid : Prop := Claim7.holds Tryz.pinned (.plain (OpenSpec.ofChange stiffTellsSpec)) stiffTellsCard

/-- THE TIED CARD OF 'girderlaw22.StiffTurned'. -/
def stiffTurnedCard : Claim7 := { stood := { row := stiffTurnedRow, standIns := [], harness := (true, "2bf8f2f27a552b92021380baa50b6d21a22144012bda98490d9cf5d7cee07f30"), looks := false }, kinds := [], alts := [], laidByText := true, laidKinds := [.data], laidTests := true, laidLooks := .later }
def StiffTurnedCardSaid : Prop := Claim7.holds Tryz.pinned (.plain (OpenSpec.ofChange stiffTurnedSpec)) stiffTurnedCard

/-- THE SECOND FORM's CARD OF 'girderlaw22.StiffNumbers'. -/
def stiffNumbersUptoCard : Claim7 := { stood := { row := stiffNumbersUptoRow, standIns := [], harness := (true, "2bf8f2f27a552b92021380baa50b6d21a22144012bda98490d9cf5d7cee07f30"), looks := false }, kinds := [], alts := [], laidByText := true, laidKinds := [.data], laidTests := true, laidLooks := .later }
def StiffNumbersUptoCardSaid : Prop := Claim7.holds Tryz.pinned (.plain (OpenSpec.upto stiffNumbersSpec)) stiffNumbersUptoCard

/-- THE SECOND FORM's CARD OF 'girderlaw22.StiffTells'. -/
def stiffTellsUptoCard : Claim7 := { stood := { row := stiffTellsUptoRow, standIns := [], harness := (true, "2bf8f2f27a552b92021380baa50b6d21a22144012bda98490d9cf5d7cee07f30"), looks := false }, kinds := [], alts := [], laidByText := true, laidKinds := [.data], laidTests := true, laidLooks := .later }
def StiffTellsUptoCardSaid : Prop := Claim7.holds Tryz.pinned (.plain (OpenSpec.upto stiffTellsSpec)) stiffTellsUptoCard

/-- THE SECOND FORM's CARD OF 'girderlaw22.StiffTurned'. -/
def stiffTurnedUptoCard : Claim7 := { stood := { row := stiffTurnedUptoRow, standIns := [], harness := (true, "2bf8f2f27a552b92021380baa50b6d21a22144012bda98490d9cf5d7cee07f30"), looks := false }, kinds := [], alts := [], laidByText := true, laidKinds := [.data], laidTests := true, laidLooks := .later }
def StiffTurnedUptoCardSaid : Prop := Claim7.holds Tryz.pinned (.plain (OpenSpec.upto stiffTurnedSpec)) stiffTurnedUptoCard
end Rows
end Go.Proofs.YtelhcngnnnhfpaaGreatDoor
