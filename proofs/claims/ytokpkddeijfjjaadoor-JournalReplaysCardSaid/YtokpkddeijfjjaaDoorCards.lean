/-
  DERIVED. GIVEN WITH THE SEED: THE CARDS: each row of YtokpkddeijfjjaaDoorRows.lean that lists a variable, with what it lists TIED to the program's text (the seventh form; the later family's looks); each row that meets fmt, with fmt's text TOLD by the authors' own Lean function (tested against real Go, not proved from fmt's source: count such statements apart). THE CARD IS WHAT COUNTS. Prove the row's statement (the work); the ties are given (YtokpkddeijfjjaaDoorTie.lean); close each card by the builder's one call (the guide's Derived/Test/ToyasCard.lean, 'card_holds'). Laid BY PROGRAM, IN A SANDBOX (cutbox-door.mjs). By AI agents, Wed Nov 11 2026. No macro, syntax, notation, axiom, sorry.
-/
import Derived.Test.YtokpkddeijfjjaaDoorRows
import GoSem.ClaimSeven
namespace Go.Proofs.YtokpkddeijfjjaaDoor
namespace Rows

/-- THE TIED CARD OF 'turnoutlaw36.JournalReplays'. -/
def journalReplaysCard : Claim7 := { stood := { row := journalReplaysRow, standIns := [], harness := (true, "9d7a92d8e4edc99d2d9071cd75062d233e5223f592e50625b9124c1ca87fe87f"), looks := true }, kinds := [], alts := [], laidByText := true, laidKinds := [.data, .data, .data], laidTests := true, laidLooks := .later }
def JournalReplaysCardSaid : Prop := Claim7.holds Tryd.pinned (.plain (OpenSpec.ofChange journalReplaysSpec)) journalReplaysCard

/-- THE TIED CARD OF 'turnoutlaw36.JournalOnce'. -/
def journalOnceCard : Claim7 := { stood := { row := journalOnceRow, standIns := [], harness := (true, "9d7a92d8e4edc99d2d9071cd75062d233e5223f592e50625b9124c1ca87fe87f"), looks := true }, kinds := [], alts := [], laidByText := true, laidKinds := [.data, .data, .data], laidTests := true, laidLooks := .later }
def JournalOnceCardSaid : Prop := Claim7.holds Tryd.pinned (.plain (OpenSpec.ofChange journalOnceSpec)) journalOnceCard

/-- THE TIED CARD OF 'turnoutlaw28.LexBack'. -/
def lexBackCard : Claim7 := { stood := { row := lexBackRow, standIns := [], harness := (true, "9d7a92d8e4edc99d2d9071cd75062d233e5223f592e50625b9124c1ca87fe87f"), looks := true }, kinds := [], alts := [], laidByText := true, laidKinds := [.data, .data, .data], laidTests := true, laidLooks := .later }
def LexBackCardSaid : Prop := Claim7.holds Tryd.pinned (.plain (OpenSpec.ofChange lexBackSpec)) lexBackCard

/-- THE TIED CARD OF 'turnoutlaw10.RuleMakes'. -/
def ruleMakesCard : Claim7 := { stood := { row := ruleMakesRow, standIns := [], harness := (true, "9d7a92d8e4edc99d2d9071cd75062d233e5223f592e50625b9124c1ca87fe87f"), looks := true }, kinds := [], alts := [], laidByText := true, laidKinds := [.data, .data, .data], laidTests := true, laidLooks := .later }
def RuleMakesCardSaid : Prop := Claim7.holds Tryd.pinned (.plain (OpenSpec.ofChange ruleMakesSpec)) ruleMakesCard

/-- THE TIED CARD OF 'turnoutlaw10.RuleOverlaps'. -/
def ruleOverlapsCard : Claim7 := { stood := { row := ruleOverlapsRow, standIns := [], harness := (true, "9d7a92d8e4edc99d2d9071cd75062d233e5223f592e50625b9124c1ca87fe87f"), looks := true }, kinds := [], alts := [], laidByText := true, laidKinds := [.data, .data, .data], laidTests := true, laidLooks := .later }
def RuleOverlapsCardSaid : Prop := Claim7.holds Tryd.pinned (.plain (OpenSpec.ofChange ruleOverlapsSpec)) ruleOverlapsCard

/-- THE TIED CARD OF 'turnoutlaw10.RuleTells'. -/
def ruleTellsCard : Claim7 := { stood := { row := ruleTellsRow, standIns := [], harness := (true, "9d7a92d8e4edc99d2d9071cd75062d233e5223f592e50625b9124c1ca87fe87f"), looks := true }, kinds := [], alts := [], laidByText := true, laidKinds := [.data, .data, .data], laidTests := true, laidLooks := .later }
def RuleTellsCardSaid : Prop := Claim7.holds Tryd.pinned (.plain (OpenSpec.ofChange ruleTellsSpec)) ruleTellsCard

/-- THE TIED CARD OF 'turnoutlaw10.RuleReads'. -/
def ruleReadsCard : Claim7 := { stood := { row := ruleReadsRow, standIns := [], harness := (true, "9d7a92d8e4edc99d2d9071cd75062d233e5223f592e50625b9124c1ca87fe87f"), looks := true }, kinds := [], alts := [], laidByText := true, laidKinds := [.data, .data, .data], laidTests := true, laidLooks := .later }
def RuleReadsCardSaid : Prop := Claim7.holds Tryd.pinned (.plain (OpenSpec.ofChange ruleReadsSpec)) ruleReadsCard

/-- THE TIED CARD OF 'turnoutlaw36.JournalParses'. -/
def journalParsesCard : Claim7 := { stood := { row := journalParsesRow, standIns := [], harness := (true, "9d7a92d8e4edc99d2d9071cd75062d233e5223f592e50625b9124c1ca87fe87f"), looks := true }, kinds := [], alts := [], laidByText := true, laidKinds := [.data, .data, .data, .sentinel, .sentinel, .listed, .data], laidTests := true, laidLooks := .later }
def JournalParsesCardSaid : Prop := Claim7.holds Tryd.pinned (.plain (OpenSpec.ofChange journalParsesSpec)) journalParsesCard

/-- THE SECOND FORM's CARD OF 'turnoutlaw36.JournalReplays'. -/
def journalReplaysUptoCard : Claim7 := { stood := { row := journalReplaysUptoRow, standIns := [], harness := (true, "9d7a92d8e4edc99d2d9071cd75062d233e5223f592e50625b9124c1ca87fe87f"), looks := true }, kinds := [], alts := [], laidByText := true, laidKinds := [.data, .data, .data], laidTests := true, laidLooks := .later }
def JournalReplaysUptoCardSaid : Prop := Claim7.holds Tryd.pinned (.plain (OpenSpec.upto journalReplaysSpec)) journalReplaysUptoCard

/-- THE SECOND FORM's CARD OF 'turnoutlaw36.JournalOnce'. -/
def journalOnceUptoCard : Claim7 := { stood := { row := journalOnceUptoRow, standIns := [], harness := (true, "9d7a92d8e4edc99d2d9071cd75062d233e5223f592e50625b9124c1ca87fe87f"), looks := true }, kinds := [], alts := [], laidByText := true, laidKinds := [.data, .data, .data], laidTests := true, laidLooks := .later }
def JournalOnceUptoCardSaid : Prop := Claim7.holds Tryd.pinned (.plain (OpenSpec.upto journalOnceSpec)) journalOnceUptoCard

/-- THE SECOND FORM's CARD OF 'turnoutlaw28.LexBack'. -/
def lexBackUptoCard : Claim7 := { stood := { row := lexBackUptoRow, standIns := [], harness := (true, "9d7a92d8e4edc99d2d9071cd75062d233e5223f592e50625b9124c1ca87fe87f"), looks := true }, kinds := [], alts := [], laidByText := true, laidKinds := [.data, .data, .data], laidTests := true, laidLooks := .later }
def LexBackUptoCardSaid : Prop := Claim7.holds Tryd.pinned (.plain (OpenSpec.upto lexBackSpec)) lexBackUptoCard

/-- THE SECOND FORM's CARD OF 'turnoutlaw10.RuleMakes'. -/
def ruleMakesUptoCard : Claim7 := { stood := { row := ruleMakesUptoRow, standIns := [], harness := (true, "9d7a92d8e4edc99d2d9071cd75062d233e5223f592e50625b9124c1ca87fe87f"), looks := true }, kinds := [], alts := [], laidByText := true, laidKinds := [.data, .data, .data], laidTests := true, laidLooks := .later }
def RuleMakesUptoCardSaid : Prop := Claim7.holds Tryd.pinned (.plain (OpenSpec.upto ruleMakesSpec)) ruleMakesUptoCard

/-- THE SECOND FORM's CARD OF 'turnoutlaw10.RuleOverlaps'. -/
def ruleOverlapsUptoCard : Claim7 := { stood := { row := ruleOverlapsUptoRow, standIns := [], harness := (true, "9d7a92d8e4edc99d2d9071cd75062d233e5223f592e50625b9124c1ca87fe87f"), looks := true }, kinds := [], alts := [], laidByText := true, laidKinds := [.data, .data, .data], laidTests := true, laidLooks := .later }
def RuleOverlapsUptoCardSaid : Prop := Claim7.holds Tryd.pinned (.plain (OpenSpec.upto ruleOverlapsSpec)) ruleOverlapsUptoCard

/-- THE SECOND FORM's CARD OF 'turnoutlaw10.RuleTells'. -/
def ruleTellsUptoCard : Claim7 := { stood := { row := ruleTellsUptoRow, standIns := [], harness := (true, "9d7a92d8e4edc99d2d9071cd75062d233e5223f592e50625b9124c1ca87fe87f"), looks := true }, kinds := [], alts := [], laidByText := true, laidKinds := [.data, .data, .data], laidTests := true, laidLooks := .later }
def RuleTellsUptoCardSaid : Prop := Claim7.holds Tryd.pinned (.plain (OpenSpec.upto ruleTellsSpec)) ruleTellsUptoCard

/-- THE SECOND FORM's CARD OF 'turnoutlaw10.RuleReads'. -/
def ruleReadsUptoCard : Claim7 := { stood := { row := ruleReadsUptoRow, standIns := [], harness := (true, "9d7a92d8e4edc99d2d9071cd75062d233e5223f592e50625b9124c1ca87fe87f"), looks := true }, kinds := [], alts := [], laidByText := true, laidKinds := [.data, .data, .data], laidTests := true, laidLooks := .later }
def RuleReadsUptoCardSaid : Prop := Claim7.holds Tryd.pinned (.plain (OpenSpec.upto ruleReadsSpec)) ruleReadsUptoCard

/-- THE SECOND FORM's CARD OF 'turnoutlaw36.JournalParses'. -/
def journalParsesUptoCard : Claim7 := { stood := { row := journalParsesUptoRow, standIns := [], harness := (true, "9d7a92d8e4edc99d2d9071cd75062d233e5223f592e50625b9124c1ca87fe87f"), looks := true }, kinds := [], alts := [], laidByText := true, laidKinds := [.data, .data, .data, .sentinel, .sentinel, .listed, .data], laidTests := true, laidLooks := .later }
def JournalParsesUptoCardSaid : Prop := Claim7.holds Tryd.pinned (.plain (OpenSpec.upto journalParsesSpec)) journalParsesUptoCard
end Rows
end Go.Proofs.YtokpkddeijfjjaaDoor
