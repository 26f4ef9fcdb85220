/-
  DERIVED. GIVEN WITH THE SEED: THE CARDS: each row of YtendagcpfgpcaaaGreatDoorRows.lean that lists a variable, with what it lists TIED to the program's text (the seventh form; the later family's looks); each row that meets fmt, with fmt's text TOLD by the authors' own Lean function (tested against real Go, not proved from fmt's source: count such statements apart). THE CARD IS WHAT COUNTS. Prove the row's statement (the work); the ties are given (YtendagcpfgpcaaaGreatDoorTie.lean); close each card by the builder's one call (the guide's Derived/Test/ToyasCard.lean, 'card_holds'). Laid BY PROGRAM, IN A SANDBOX (cutbox-door.mjs). By AI agents, Wed Nov 11 2026. No macro, syntax, notation, axiom, sorry.
-/
import Derived.Test.YtendagcpfgpcaaaGreatDoorRows
import GoSem.ClaimSeven
namespace Go.Proofs.YtendagcpfgpcaaaGreatDoor
namespace Rows

/-- THE TIED CARD OF 'girderlaw19.BarsChecks'. -/
def barsChecksCard : Claim7 := { stood := { row := barsChecksRow, standIns := [], harness := (true, "269e1ca58f1da9514d972dfc6ea2a3ea815cfdb1308d17086d83e6f051c5d647"), looks := false }, kinds := [], alts := [], laidByText := true, laidKinds := [.data], laidTests := true, laidLooks := .later }
def BarsChecksCardSaid : Prop := Claim7.holds Tryz.pinned (.plain (OpenSpec.ofChange barsChecksSpec)) barsChecksCard

/-- THE SECOND FORM's CARD OF 'girderlaw19.BarsChecks'. -/
def barsChecksUptoCard : Claim7 := { stood := { row := barsChecksUptoRow, standIns := [], harness := (true, "269e1ca58f1da9514d972dfc6ea2a3ea815cfdb1308d17086d83e6f051c5d647"), looks := false }, kinds := [], alts := [], laidByText := true, laidKinds := [.data], laidTests := true, laidLooks := .later }
def BarsChecksUptoCardSaid : Prop := Claim7.holds Tryz.pinned (.plain (OpenSpec.upto barsChecksSpec)) barsChecksUptoCard
end Rows
end Go.Proofs.YtendagcpfgpcaaaGreatDoor
