/-
  DERIVED. GIVEN WITH THE SEED: THE CARDS: each row of YtniahabpedamcaaDoorRows.lean that lists a variable, with what it lists TIED to the program's text (the seventh form; the later family's looks); each row that meets fmt, with fmt's text TOLD by the authors' own Lean function (tested against real Go, not proved from fmt's source: count such statements apart). THE CARD IS WHAT COUNTS. Prove the row's statement (the work); the ties are given (YtniahabpedamcaaDoorTie.lean); close each card by the builder's one call (the guide's Derived/Test/ToyasCard.lean, 'card_holds'). Laid BY PROGRAM, IN A SANDBOX (cutbox-door.mjs). By AI agents, Wed Nov 11 2026. No macro, syntax, notation, axiom, sorry.
-/
import Derived.Test.YtniahabpedamcaaDoorRows
import GoSem.ClaimSeven
namespace Go.Proofs.YtniahabpedamcaaDoor
namespace Rows

/-- THE TIED CARD OF 'turnoutlaw41.TraceTells'. -/
def traceTellsCard : Claim7 := { stood := { row := traceTellsRow, standIns := [], harness := (true, "299f47448379b0aeabaa69286bc646b25d729f2da20251cd03bd8082ecec7217"), looks := false }, kinds := [], alts := [], laidByText := true, laidKinds := [.data, .data, .data], laidTests := true, laidLooks := .later }
def TraceTellsCardSaid : Prop := Claim7.holds Tryd.pinned (.plain (OpenSpec.ofChange traceTellsSpec)) traceTellsCard

/-- THE TIED CARD OF 'turnoutlaw41.TraceOwn'. -/
def traceOwnCard : Claim7 := { stood := { row := traceOwnRow, standIns := [], harness := (true, "299f47448379b0aeabaa69286bc646b25d729f2da20251cd03bd8082ecec7217"), looks := false }, kinds := [], alts := [], laidByText := true, laidKinds := [.data, .data, .data], laidTests := true, laidLooks := .later }
def TraceOwnCardSaid : Prop := Claim7.holds Tryd.pinned (.plain (OpenSpec.ofChange traceOwnSpec)) traceOwnCard

/-- THE SECOND FORM's CARD OF 'turnoutlaw41.TraceTells'. -/
def traceTellsUptoCard : Claim7 := { stood := { row := traceTellsUptoRow, standIns := [], harness := (true, "299f47448379b0aeabaa69286bc646b25d729f2da20251cd03bd8082ecec7217"), looks := false }, kinds := [], alts := [], laidByText := true, laidKinds := [.data, .data, .data], laidTests := true, laidLooks := .later }
def TraceTellsUptoCardSaid : Prop := Claim7.holds Tryd.pinned (.plain (OpenSpec.upto traceTellsSpec)) traceTellsUptoCard

/-- THE SECOND FORM's CARD OF 'turnoutlaw41.TraceOwn'. -/
def traceOwnUptoCard : Claim7 := { stood := { row := traceOwnUptoRow, standIns := [], harness := (true, "299f47448379b0aeabaa69286bc646b25d729f2da20251cd03bd8082ecec7217"), looks := false }, kinds := [], alts := [], laidByText := true, laidKinds := [.data, .data, .data], laidTests := true, laidLooks := .later }
def TraceOwnUptoCardSaid : Prop := Claim7.holds Tryd.pinned (.plain (OpenSpec.upto traceOwnSpec)) traceOwnUptoCard
end Rows
end Go.Proofs.YtniahabpedamcaaDoor
