/-
  DERIVED. GIVEN WITH THE SEED: THE CARDS: each row of YtfolnkbkojjcbaaDoorRows.lean that lists a variable, with what it lists TIED to the program's text (the seventh form; the later family's looks); each row that meets fmt, with fmt's text TOLD by the authors' own Lean function (tested against real Go, not proved from fmt's source: count such statements apart). THE CARD IS WHAT COUNTS. Prove the row's statement (the work); the ties are given (YtfolnkbkojjcbaaDoorTie.lean); close each card by the builder's one call (the guide's Derived/Test/ToyasCard.lean, 'card_holds'). Laid BY PROGRAM, IN A SANDBOX (cutbox-door.mjs). By AI agents, Wed Nov 11 2026. No macro, syntax, notation, axiom, sorry.
-/
import Derived.Test.YtfolnkbkojjcbaaDoorRows
import GoSem.ClaimSeven
namespace Go.Proofs.YtfolnkbkojjcbaaDoor
namespace Rows

/-- THE TIED CARD OF 'turnoutlaw26.PredApart'. -/
def predApartCard : Claim7 := { stood := { row := predApartRow, standIns := [], harness := (true, "c6e3aac9e18432de9c8fd6f9afeed702026cfd3e083c64270edc882d7ad63b7d"), looks := false }, kinds := [], alts := [], laidByText := true, laidKinds := [.data, .data, .data], laidTests := true, laidLooks := .later }
def PredApartCardSaid : Prop := Claim7.holds Tryd.pinned (.plain (OpenSpec.ofChange predApartSpec)) predApartCard

/-- THE TIED CARD OF 'turnoutlaw26.PredTells'. -/
def predTellsCard : Claim7 := { stood := { row := predTellsRow, standIns := [], harness := (true, "c6e3aac9e18432de9c8fd6f9afeed702026cfd3e083c64270edc882d7ad63b7d"), looks := false }, kinds := [], alts := [], laidByText := true, laidKinds := [.data, .data, .data], laidTests := true, laidLooks := .later }
def PredTellsCardSaid : Prop := Claim7.holds Tryd.pinned (.plain (OpenSpec.ofChange predTellsSpec)) predTellsCard

/-- THE SECOND FORM's CARD OF 'turnoutlaw26.PredApart'. -/
def predApartUptoCard : Claim7 := { stood := { row := predApartUptoRow, standIns := [], harness := (true, "c6e3aac9e18432de9c8fd6f9afeed702026cfd3e083c64270edc882d7ad63b7d"), looks := false }, kinds := [], alts := [], laidByText := true, laidKinds := [.data, .data, .data], laidTests := true, laidLooks := .later }
def PredApartUptoCardSaid : Prop := Claim7.holds Tryd.pinned (.plain (OpenSpec.upto predApartSpec)) predApartUptoCard

/-- THE SECOND FORM's CARD OF 'turnoutlaw26.PredTells'. -/
def predTellsUptoCard : Claim7 := { stood := { row := predTellsUptoRow, standIns := [], harness := (true, "c6e3aac9e18432de9c8fd6f9afeed702026cfd3e083c64270edc882d7ad63b7d"), looks := false }, kinds := [], alts := [], laidByText := true, laidKinds := [.data, .data, .data], laidTests := true, laidLooks := .later }
def PredTellsUptoCardSaid : Prop := Claim7.holds Tryd.pinned (.plain (OpenSpec.upto predTellsSpec)) predTellsUptoCard
end Rows
end Go.Proofs.YtfolnkbkojjcbaaDoor
