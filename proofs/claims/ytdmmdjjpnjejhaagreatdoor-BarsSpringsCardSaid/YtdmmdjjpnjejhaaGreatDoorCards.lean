/-
  DERIVED. GIVEN WITH THE SEED: THE CARDS: each row of YtdmmdjjpnjejhaaGreatDoorRows.lean that lists a variable, with what it lists TIED to the program's text (the seventh form; the later family's looks); each row that meets fmt, with fmt's text TOLD by the authors' own Lean function (tested against real Go, not proved from fmt's source: count such statements apart). THE CARD IS WHAT COUNTS. Prove the row's statement (the work); the ties are given (YtdmmdjjpnjejhaaGreatDoorTie.lean); close each card by the builder's one call (the guide's Derived/Test/ToyasCard.lean, 'card_holds'). Laid BY PROGRAM, IN A SANDBOX (cutbox-door.mjs). By AI agents, Wed Nov 11 2026. No macro, syntax, notation, axiom, sorry.
-/
import Derived.Test.YtdmmdjjpnjejhaaGreatDoorRows
import GoSem.ClaimSeven
namespace Go.Proofs.YtdmmdjjpnjejhaaGreatDoor
namespace Rows

/-- THE TIED CARD OF 'girderlaw19.BarsSprings'. -/
def barsSpringsCard : Claim7 := { stood := { row := barsSpringsRow, standIns := [], harness := (true, "9408133cb9d963a87d89f825f69c7d3da005c5466f0ef7a3e6bddd779213e858"), looks := false }, kinds := [], alts := [], laidByText := true, laidKinds := [.data], laidTests := true, laidLooks := .later }
def BarsSpringsCardSaid : Prop := Claim7.holds Tryz.pinned (.plain (OpenSpec.ofChange barsSpringsSpec)) barsSpringsCard

/-- THE SECOND FORM's CARD OF 'girderlaw19.BarsSprings'. -/
def barsSpringsUptoCard : Claim7 := { stood := { row := barsSpringsUptoRow, standIns := [], harness := (true, "9408133cb9d963a87d89f825f69c7d3da005c5466f0ef7a3e6bddd779213e858"), looks := false }, kinds := [], alts := [], laidByText := true, laidKinds := [.data], laidTests := true, laidLooks := .later }
def BarsSpringsUptoCardSaid : Prop := Claim7.holds Tryz.pinned (.plain (OpenSpec.upto barsSpringsSpec)) barsSpringsUptoCard
end Rows
end Go.Proofs.YtdmmdjjpnjejhaaGreatDoor
