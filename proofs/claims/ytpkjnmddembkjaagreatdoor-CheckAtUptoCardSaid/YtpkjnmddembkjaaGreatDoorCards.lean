/-
  DERIVED. GIVEN WITH THE SEED: THE CARDS: each row of YtpkjnmddembkjaaGreatDoorRows.lean that lists a variable, with what it lists TIED to the program's text (the seventh form; the later family's looks); each row that meets fmt, with fmt's text TOLD by the authors' own Lean function (tested against real Go, not proved from fmt's source: count such statements apart). THE CARD IS WHAT COUNTS. Prove the row's statement (the work); the ties are given (YtpkjnmddembkjaaGreatDoorTie.lean); close each card by the builder's one call (the guide's Derived/Test/ToyasCard.lean, 'card_holds'). Laid BY PROGRAM, IN A SANDBOX (cutbox-door.mjs). By AI agents, Wed Nov 11 2026. No macro, syntax, notation, axiom, sorry.
-/
import Derived.Test.YtpkjnmddembkjaaGreatDoorRows
import GoSem.ClaimSeven
namespace Go.Proofs.YtpkjnmddembkjaaGreatDoor
namespace Rows

/-- THE TIED CARD OF 'turnoutlaw30.CheckTells'. -/
def checkTellsCard : Claim7 := { stood := { row := checkTellsRow, standIns := [], harness := (true, "4a3ec4cc721ee9b2aabb89a8a8b7159443d01c6062d92f77d3b94039e124425f"), looks := false }, kinds := [], alts := [], laidByText := true, laidKinds := [.data, .data, .data], laidTests := true, laidLooks := .later }
def CheckTellsCardSaid : Prop := Claim7.holds Tryz.pinned (.plain (OpenSpec.ofChange checkTellsSpec)) checkTellsCard

/-- THE TIED CARD OF 'turnoutlaw30.CheckCuts'. -/
def checkCutsCard : Claim7 := { stood := { row := checkCutsRow, standIns := [], harness := (true, "4a3ec4cc721ee9b2aabb89a8a8b7159443d01c6062d92f77d3b94039e124425f"), looks := false }, kinds := [], alts := [], laidByText := true, laidKinds := [.data, .data, .data], laidTests := true, laidLooks := .later }
def CheckCutsCardSaid : Prop := Claim7.holds Tryz.pinned (.plain (OpenSpec.ofChange checkCutsSpec)) checkCutsCard

/-- THE TIED CARD OF 'turnoutlaw30.CheckAt'. -/
def checkAtCard : Claim7 := { stood := { row := checkAtRow, standIns := [], harness := (true, "4a3ec4cc721ee9b2aabb89a8a8b7159443d01c6062d92f77d3b94039e124425f"), looks := false }, kinds := [], alts := [], laidByText := true, laidKinds := [.data, .data, .data], laidTests := true, laidLooks := .later }
def CheckAtCardSaid : Prop := Claim7.holds Tryz.pinned (.plain (OpenSpec.ofChange checkAtSpec)) checkAtCard

/-- THE SECOND FORM's CARD OF 'turnoutlaw30.CheckTells'. -/
def checkTellsUptoCard : Claim7 := { stood := { row := checkTellsUptoRow, standIns := [], harness := (true, "4a3ec4cc721ee9b2aabb89a8a8b7159443d01c6062d92f77d3b94039e124425f"), looks := false }, kinds := [], alts := [], laidByText := true, laidKinds := [.data, .data, .data], laidTests := true, laidLooks := .later }
def CheckTellsUptoCardSaid : Prop := Claim7.holds Tryz.pinned (.plain (OpenSpec.upto checkTellsSpec)) checkTellsUptoCard

/-- THE SECOND FORM's CARD OF 'turnoutlaw30.CheckCuts'. -/
def checkCutsUptoCard : Claim7 := { stood := { row := checkCutsUptoRow, standIns := [], harness := (true, "4a3ec4cc721ee9b2aabb89a8a8b7159443d01c6062d92f77d3b94039e124425f"), looks := false }, kinds := [], alts := [], laidByText := true, laidKinds := [.data, .data, .data], laidTests := true, laidLooks := .later }
def CheckCutsUptoCardSaid : Prop := Claim7.holds Tryz.pinned (.plain (OpenSpec.upto checkCutsSpec)) checkCutsUptoCard

/-- THE SECOND FORM's CARD OF 'turnoutlaw30.CheckAt'. -/
def checkAtUptoCard : Claim7 := { stood := { row := checkAtUptoRow, standIns := [], harness := (true, "4a3ec4cc721ee9b2aabb89a8a8b7159443d01c6062d92f77d3b94039e124425f"), looks := false }, kinds := [], alts := [], laidByText := true, laidKinds := [.data, .data, .data], laidTests := true, laidLooks := .later }
def CheckAtUptoCardSaid : Prop := Claim7.holds Tryz.pinned (.plain (OpenSpec.upto checkAtSpec)) checkAtUptoCard
end Rows
end Go.Proofs.YtpkjnmddembkjaaGreatDoor
