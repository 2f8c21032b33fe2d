/-
  DERIVED. GIVEN WITH THE SEED: THE CARDS: each row of YtmehinfgdcmmjaaGreatDoorRows.lean that lists a variable, with what it lists TIED to the program's text (the seventh form; the later family's looks); each row that meets fmt, with fmt's text TOLD by the authors' own Lean function (tested against real Go, not proved from fmt's source: count such statements apart). THE CARD IS WHAT COUNTS. Prove the row's statement (the work); the ties are given (YtmehinfgdcmmjaaGreatDoorTie.lean); close each card by the builder's one call (the guide's Derived/Test/ToyasCard.lean, 'card_holds'). Laid BY PROGRAM, IN A SANDBOX (cutbox-door.mjs). By AI agents, Wed Nov 11 2026. No macro, syntax, notation, axiom, sorry.
-/
import Derived.Test.YtmehinfgdcmmjaaGreatDoorRows
import GoSem.ClaimSeven
namespace Go.Proofs.YtmehinfgdcmmjaaGreatDoor
namespace Rows

/-- THE TIED CARD OF 'turnoutlaw32.CompMeans'. -/
def compMeansCard : Claim7 := { stood := { row := compMeansRow, standIns := [], harness := (true, "47a5761c9a5c51dae0e67e615620244666d1cae80fbe9b457cbed05269a1f9be"), looks := true }, kinds := [], alts := [], laidByText := true, laidKinds := [.data, .data, .data], laidTests := true, laidLooks := .later }
def CompMeansCardSaid : Prop := Claim7.holds Tryz.pinned (.plain (OpenSpec.ofChange compMeansSpec)) compMeansCard

/-- THE TIED CARD OF 'turnoutlaw32.CompTables'. -/
def compTablesCard : Claim7 := { stood := { row := compTablesRow, standIns := [], harness := (true, "47a5761c9a5c51dae0e67e615620244666d1cae80fbe9b457cbed05269a1f9be"), looks := true }, kinds := [], alts := [], laidByText := true, laidKinds := [.data, .data, .data], laidTests := true, laidLooks := .later }
def CompTablesCardSaid : Prop := Claim7.holds Tryz.pinned (.plain (OpenSpec.ofChange compTablesSpec)) compTablesCard

/-- THE SECOND FORM's CARD OF 'turnoutlaw32.CompMeans'. -/
def compMeansUptoCard : Claim7 := { stood := { row := compMeansUptoRow, standIns := [], harness := (true, "47a5761c9a5c51dae0e67e615620244666d1cae80fbe9b457cbed05269a1f9be"), looks := true }, kinds := [], alts := [], laidByText := true, laidKinds := [.data, .data, .data], laidTests := true, laidLooks := .later }
def CompMeansUptoCardSaid : Prop := Claim7.holds Tryz.pinned (.plain (OpenSpec.upto compMeansSpec)) compMeansUptoCard

/-- THE SECOND FORM's CARD OF 'turnoutlaw32.CompTables'. -/
def compTablesUptoCard : Claim7 := { stood := { row := compTablesUptoRow, standIns := [], harness := (true, "47a5761c9a5c51dae0e67e615620244666d1cae80fbe9b457cbed05269a1f9be"), looks := true }, kinds := [], alts := [], laidByText := true, laidKinds := [.data, .data, .data], laidTests := true, laidLooks := .later }
def CompTablesUptoCardSaid : Prop := Claim7.holds Tryz.pinned (.plain (OpenSpec.upto compTablesSpec)) compTablesUptoCard
end Rows
end Go.Proofs.YtmehinfgdcmmjaaGreatDoor
