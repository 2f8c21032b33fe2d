/-
  DERIVED. GIVEN WITH THE SEED: THE CARDS: each row of YtngodakgbldlpaaGreatDoorRows.lean that lists a variable, with what it lists TIED to the program's text (the seventh form; the later family's looks); each row that meets fmt, with fmt's text TOLD by the authors' own Lean function (tested against real Go, not proved from fmt's source: count such statements apart). THE CARD IS WHAT COUNTS. Prove the row's statement (the work); the ties are given (YtngodakgbldlpaaGreatDoorTie.lean); close each card by the builder's one call (the guide's Derived/Test/ToyasCard.lean, 'card_holds'). Laid BY PROGRAM, IN A SANDBOX (cutbox-door.mjs). By AI agents, Wed Nov 11 2026. No macro, syntax, notation, axiom, sorry.
-/
import Derived.Test.YtngodakgbldlpaaGreatDoorRows
import GoSem.ClaimSeven
namespace Go.Proofs.YtngodakgbldlpaaGreatDoor
namespace Rows

/-- THE TIED CARD OF 'turnoutlaw27.PolicyUnion'. -/
def policyUnionCard : Claim7 := { stood := { row := policyUnionRow, standIns := [], harness := (true, "fb8e31218189cc1b0f910d644664ed53e5e94f8259539aaa255df08c3f6bef75"), looks := false }, kinds := [], alts := [], laidByText := true, laidKinds := [.data, .data, .data], laidTests := true, laidLooks := .later }
def PolicyUnionCardSaid : Prop := Claim7.holds Tryz.pinned (.plain (OpenSpec.ofChange policyUnionSpec)) policyUnionCard

/-- THE TIED CARD OF 'turnoutlaw27.PolicyUnits'. -/
def policyUnitsCard : Claim7 := { stood := { row := policyUnitsRow, standIns := [], harness := (true, "fb8e31218189cc1b0f910d644664ed53e5e94f8259539aaa255df08c3f6bef75"), looks := false }, kinds := [], alts := [], laidByText := true, laidKinds := [.data, .data, .data], laidTests := true, laidLooks := .later }
def PolicyUnitsCardSaid : Prop := Claim7.holds Tryz.pinned (.plain (OpenSpec.ofChange policyUnitsSpec)) policyUnitsCard

/-- THE TIED CARD OF 'turnoutlaw27.PolicyTells'. -/
def policyTellsCard : Claim7 := { stood := { row := policyTellsRow, standIns := [], harness := (true, "fb8e31218189cc1b0f910d644664ed53e5e94f8259539aaa255df08c3f6bef75"), looks := false }, kinds := [], alts := [], laidByText := true, laidKinds := [.data, .data, .data], laidTests := true, laidLooks := .later }
def PolicyTellsCardSaid : Prop := Claim7.holds Tryz.pinned (.plain (OpenSpec.ofChange policyTellsSpec)) policyTellsCard

/-- THE SECOND FORM's CARD OF 'turnoutlaw27.PolicyUnion'. -/
def policyUnionUptoCard : Claim7 := { stood := { row := policyUnionUptoRow, standIns := [], harness := (true, "fb8e31218189cc1b0f910d644664ed53e5e94f8259539aaa255df08c3f6bef75"), looks := false }, kinds := [], alts := [], laidByText := true, laidKinds := [.data, .data, .data], laidTests := true, laidLooks := .later }
def PolicyUnionUptoCardSaid : Prop := Claim7.holds Tryz.pinned (.plain (OpenSpec.upto policyUnionSpec)) policyUnionUptoCard

/-- THE SECOND FORM's CARD OF 'turnoutlaw27.PolicyUnits'. -/
def policyUnitsUptoCard : Claim7 := { stood := { row := policyUnitsUptoRow, standIns := [], harness := (true, "fb8e31218189cc1b0f910d644664ed53e5e94f8259539aaa255df08c3f6bef75"), looks := false }, kinds := [], alts := [], laidByText := true, laidKinds := [.data, .data, .data], laidTests := true, laidLooks := .later }
def PolicyUnitsUptoCardSaid : Prop := Claim7.holds Tryz.pinned (.plain (OpenSpec.upto policyUnitsSpec)) policyUnitsUptoCard

/-- THE SECOND FORM's CARD OF 'turnoutlaw27.PolicyTells'. -/
def policyTellsUptoCard : Claim7 := { stood := { row := policyTellsUptoRow, standIns := [], harness := (true, "fb8e31218189cc1b0f910d644664ed53e5e94f8259539aaa255df08c3f6bef75"), looks := false }, kinds := [], alts := [], laidByText := true, laidKinds := [.data, .data, .data], laidTests := true, laidLooks := .later }
def PolicyTellsUptoCardSaid : Prop := Claim7.holds Tryz.pinned (.plain (OpenSpec.upto policyTellsSpec)) policyTellsUptoCard
end Rows
end Go.Proofs.YtngodakgbldlpaaGreatDoor
