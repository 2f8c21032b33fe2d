/-
  DERIVED. GIVEN WITH THE SEED: THE CARDS: each row of YtdalneokgejmjaaDoorRows.lean that lists a variable, with what it lists TIED to the program's text (the seventh form; the later family's looks); each row that meets fmt, with fmt's text TOLD by the authors' own Lean function (tested against real Go, not proved from fmt's source: count such statements apart). THE CARD IS WHAT COUNTS. Prove the row's statement (the work); the ties are given (YtdalneokgejmjaaDoorTie.lean); close each card by the builder's one call (the guide's Derived/Test/ToyasCard.lean, 'card_holds'). Laid BY PROGRAM, IN A SANDBOX (cutbox-door.mjs). By AI agents, Wed Nov 11 2026. No macro, syntax, notation, axiom, sorry.
-/
import Derived.Test.YtdalneokgejmjaaDoorRows
import GoSem.ClaimSeven
namespace Go.Proofs.YtdalneokgejmjaaDoor
namespace Rows

/-- THE TIED CARD OF 'turnoutlaw36.JournalParses'. -/
def journalParsesCard : Claim7 := { stood := { row := journalParsesRow, standIns := [], harness := (true, "55c910d8dbf05821c76d6972b17f1d0b21716536889becc64cdf9f168504cffb"), looks := true }, kinds := [], alts := [], laidByText := true, laidKinds := [.data, .data, .data, .sentinel, .sentinel, .listed, .data], laidTests := true, laidLooks := .later }
def JournalParsesCardSaid : Prop := Claim7.holds Tryd.pinned (.plain (OpenSpec.ofChange journalParsesSpec)) journalParsesCard

/-- THE SECOND FORM's CARD OF 'turnoutlaw36.JournalParses'. -/
def journalParsesUptoCard : Claim7 := { stood := { row := journalParsesUptoRow, standIns := [], harness := (true, "55c910d8dbf05821c76d6972b17f1d0b21716536889becc64cdf9f168504cffb"), looks := true }, kinds := [], alts := [], laidByText := true, laidKinds := [.data, .data, .data, .sentinel, .sentinel, .listed, .data], laidTests := true, laidLooks := .later }
def JournalParsesUptoCardSaid : Prop := Claim7.holds Tryd.pinned (.plain (OpenSpec.upto journalParsesSpec)) journalParsesUptoCard
end Rows
end Go.Proofs.YtdalneokgejmjaaDoor
