/-
  DERIVED. GIVEN WITH THE SEED: THE CARDS: each row of YtgphhbadnjfbjaaDoorRows.lean that lists a variable, with what it lists TIED to the program's text (the seventh form; the later family's looks); each row that meets fmt, with fmt's text TOLD by the authors' own Lean function (tested against real Go, not proved from fmt's source: count such statements apart). THE CARD IS WHAT COUNTS. Prove the row's statement (the work); the ties are given (YtgphhbadnjfbjaaDoorTie.lean); close each card by the builder's one call (the guide's Derived/Test/ToyasCard.lean, 'card_holds'). Laid BY PROGRAM, IN A SANDBOX (cutbox-door.mjs). By AI agents, Wed Nov 11 2026. No macro, syntax, notation, axiom, sorry.
-/
import Derived.Test.YtgphhbadnjfbjaaDoorRows
import GoSem.ClaimSeven
namespace Go.Proofs.YtgphhbadnjfbjaaDoor
namespace Rows

/-- THE TIED CARD OF 'turnoutlaw40.SetupTells'. -/
def setupTellsCard : Claim7 := { stood := { row := setupTellsRow, standIns := [], harness := (true, "21b07aca38157e64615ba8e535a7eb42b3dacb3a0f56a58c1fb922be5986897c"), looks := true }, kinds := [], alts := [], laidByText := true, laidKinds := [.data, .data, .data, .data, .sentinel, .sentinel, .pinned], laidTests := true, laidLooks := .later }
def SetupTellsCardSaid : Prop := Claim7.holds Tryd.pinned (.plain (OpenSpec.ofChange setupTellsSpec)) setupTellsCard

/-- THE TIED CARD OF 'turnoutlaw40.SetupBack'. -/
def setupBackCard : Claim7 := { stood := { row := setupBackRow, standIns := [], harness := (true, "21b07aca38157e64615ba8e535a7eb42b3dacb3a0f56a58c1fb922be5986897c"), looks := true }, kinds := [], alts := [], laidByText := true, laidKinds := [.data, .data, .data, .data, .sentinel, .sentinel, .pinned], laidTests := true, laidLooks := .later }
def SetupBackCardSaid : Prop := Claim7.holds Tryd.pinned (.plain (OpenSpec.ofChange setupBackSpec)) setupBackCard

/-- THE TIED CARD OF 'turnoutlaw40.SetupAgain'. -/
def setupAgainCard : Claim7 := { stood := { row := setupAgainRow, standIns := [], harness := (true, "21b07aca38157e64615ba8e535a7eb42b3dacb3a0f56a58c1fb922be5986897c"), looks := true }, kinds := [], alts := [], laidByText := true, laidKinds := [.data, .data, .data, .data, .sentinel, .sentinel, .pinned], laidTests := true, laidLooks := .later }
def SetupAgainCardSaid : Prop := Claim7.holds Tryd.pinned (.plain (OpenSpec.ofChange setupAgainSpec)) setupAgainCard

/-- THE SECOND FORM's CARD OF 'turnoutlaw40.SetupTells'. -/
def setupTellsUptoCard : Claim7 := { stood := { row := setupTellsUptoRow, standIns := [], harness := (true, "21b07aca38157e64615ba8e535a7eb42b3dacb3a0f56a58c1fb922be5986897c"), looks := true }, kinds := [], alts := [], laidByText := true, laidKinds := [.data, .data, .data, .data, .sentinel, .sentinel, .pinned], laidTests := true, laidLooks := .later }
def SetupTellsUptoCardSaid : Prop := Claim7.holds Tryd.pinned (.plain (OpenSpec.upto setupTellsSpec)) setupTellsUptoCard

/-- THE SECOND FORM's CARD OF 'turnoutlaw40.SetupBack'. -/
def setupBackUptoCard : Claim7 := { stood := { row := setupBackUptoRow, standIns := [], harness := (true, "21b07aca38157e64615ba8e535a7eb42b3dacb3a0f56a58c1fb922be5986897c"), looks := true }, kinds := [], alts := [], laidByText := true, laidKinds := [.data, .data, .data, .data, .sentinel, .sentinel, .pinned], laidTests := true, laidLooks := .later }
def SetupBackUptoCardSaid : Prop := Claim7.holds Tryd.pinned (.plain (OpenSpec.upto setupBackSpec)) setupBackUptoCard

/-- THE SECOND FORM's CARD OF 'turnoutlaw40.SetupAgain'. -/
def setupAgainUptoCard : Claim7 := { stood := { row := setupAgainUptoRow, standIns := [], harness := (true, "21b07aca38157e64615ba8e535a7eb42b3dacb3a0f56a58c1fb922be5986897c"), looks := true }, kinds := [], alts := [], laidByText := true, laidKinds := [.data, .data, .data, .data, .sentinel, .sentinel, .pinned], laidTests := true, laidLooks := .later }
def SetupAgainUptoCardSaid : Prop := Claim7.holds Tryd.pinned (.plain (OpenSpec.upto setupAgainSpec)) setupAgainUptoCard
end Rows
end Go.Proofs.YtgphhbadnjfbjaaDoor
