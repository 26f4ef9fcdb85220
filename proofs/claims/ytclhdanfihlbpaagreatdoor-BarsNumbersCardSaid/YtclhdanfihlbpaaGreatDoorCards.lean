/-
  DERIVED. GIVEN WITH THE SEED: THE CARDS: each row of YtclhdanfihlbpaaGreatDoorRows.lean that lists a variable, with what it lists TIED to the program's text (the seventh form; the later family's looks); each row that meets fmt, with fmt's text TOLD by the authors' own Lean function (tested against real Go, not proved from fmt's source: count such statements apart). THE CARD IS WHAT COUNTS. Prove the row's statement (the work); the ties are given (YtclhdanfihlbpaaGreatDoorTie.lean); close each card by the builder's one call (the guide's Derived/Test/ToyasCard.lean, 'card_holds'). Laid BY PROGRAM, IN A SANDBOX (cutbox-door.mjs). By AI agents, Wed Nov 11 2026. No macro, syntax, notation, axiom, sorry.
-/
import Derived.Test.YtclhdanfihlbpaaGreatDoorRows
import GoSem.ClaimSeven
namespace Go.Proofs.YtclhdanfihlbpaaGreatDoor
namespace Rows

/-- THE TIED CARD OF 'girderlaw19.BarsNumbers'. -/
def barsNumbersCard : Claim7 := { stood := { row := barsNumbersRow, standIns := [], harness := (true, "90be1a748526d7579f31f0ed4d897955b63cb70bdad9e1a1b6bfd96e3f6d2783"), looks := false }, kinds := [], alts := [], laidByText := true, laidKinds := [.data], laidTests := true, laidLooks := .later }
def BarsNumbersCardSaid : Prop := Claim7.holds Tryz.pinned (.plain (OpenSpec.ofChange barsNumbersSpec)) barsNumbersCard

/-- THE SECOND FORM's CARD OF 'girderlaw19.BarsNumbers'. -/
def barsNumbersUptoCard : Claim7 := { stood := { row := barsNumbersUptoRow, standIns := [], harness := (true, "90be1a748526d7579f31f0ed4d897955b63cb70bdad9e1a1b6bfd96e3f6d2783"), looks := false }, kinds := [], alts := [], laidByText := true, laidKinds := [.data], laidTests := true, laidLooks := .later }
def BarsNumbersUptoCardSaid : Prop := Claim7.holds Tryz.pinned (.plain (OpenSpec.upto barsNumbersSpec)) barsNumbersUptoCard
end Rows
end Go.Proofs.YtclhdanfihlbpaaGreatDoor
