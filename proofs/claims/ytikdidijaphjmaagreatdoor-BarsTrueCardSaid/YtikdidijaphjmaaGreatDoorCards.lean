/-
  DERIVED. GIVEN WITH THE SEED: THE CARDS: each row of YtikdidijaphjmaaGreatDoorRows.lean that lists a variable, with what it lists TIED to the program's text (the seventh form; the later family's looks); each row that meets fmt, with fmt's text TOLD by the authors' own Lean function (tested against real Go, not proved from fmt's source: count such statements apart). THE CARD IS WHAT COUNTS. Prove the row's statement (the work); the ties are given (YtikdidijaphjmaaGreatDoorTie.lean); close each card by the builder's one call (the guide's Derived/Test/ToyasCard.lean, 'card_holds'). Laid BY PROGRAM, IN A SANDBOX (cutbox-door.mjs). By AI agents, Wed Nov 11 2026. No macro, syntax, notation, axiom, sorry.
-/
import Derived.Test.YtikdidijaphjmaaGreatDoorRows
import GoSem.ClaimSeven
namespace Go.Proofs.YtikdidijaphjmaaGreatDoor
namespace Rows

/-- THE TIED CARD OF 'girderlaw19.BarsTrue'. -/
def barsTrueCard : Claim7 := { stood := { row := barsTrueRow, standIns := [], harness := (true, "13146064e4fd793abb2a14f5253bc322a383066deb4e4022bcb0dc600b10bef7"), looks := false }, kinds := [], alts := [], laidByText := true, laidKinds := [.data], laidTests := true, laidLooks := .later }
def BarsTrueCardSaid : Prop := Claim7.holds Tryz.pinned (.plain (OpenSpec.ofChange barsTrueSpec)) barsTrueCard

/-- THE TIED CARD OF 'girderlaw19.BarsTurned'. -/
def barsTurnedCard : Claim7 := { stood := { row := barsTurnedRow, standIns := [], harness := (true, "13146064e4fd793abb2a14f5253bc322a383066deb4e4022bcb0dc600b10bef7"), looks := false }, kinds := [], alts := [], laidByText := true, laidKinds := [.data], laidTests := true, laidLooks := .later }
def BarsTurnedCardSaid : Prop := Claim7.holds Tryz.pinned (.plain (OpenSpec.ofChange barsTurnedSpec)) barsTurnedCard

/-- THE SECOND FORM's CARD OF 'girderlaw19.BarsTrue'. -/
def barsTrueUptoCard : Claim7 := { stood := { row := barsTrueUptoRow, standIns := [], harness := (true, "13146064e4fd793abb2a14f5253bc322a383066deb4e4022bcb0dc600b10bef7"), looks := false }, kinds := [], alts := [], laidByText := true, laidKinds := [.data], laidTests := true, laidLooks := .later }
def BarsTrueUptoCardSaid : Prop := Claim7.holds Tryz.pinned (.plain (OpenSpec.upto barsTrueSpec)) barsTrueUptoCard

/-- THE SECOND FORM's CARD OF 'girderlaw19.BarsTurned'. -/
def barsTurnedUptoCard : Claim7 := { stood := { row := barsTurnedUptoRow, standIns := [], harness := (true, "13146064e4fd793abb2a14f5253bc322a383066deb4e4022bcb0dc600b10bef7"), looks := false }, kinds := [], alts := [], laidByText := true, laidKinds := [.data], laidTests := true, laidLooks := .later }
def BarsTurnedUptoCardSaid : Prop := Claim7.holds Tryz.pinned (.plain (OpenSpec.upto barsTurnedSpec)) barsTurnedUptoCard
end Rows
end Go.Proofs.YtikdidijaphjmaaGreatDoor
