/-
  DERIVED. GIVEN WITH THE SEED: THE CARDS: each row of YtokbckflleaplaaDoorRows.lean that lists a variable, with what it lists TIED to the program's text (the seventh form; the later family's looks); each row that meets fmt, with fmt's text TOLD by the authors' own Lean function (tested against real Go, not proved from fmt's source: count such statements apart). THE CARD IS WHAT COUNTS. Prove the row's statement (the work); the ties are given (YtokbckflleaplaaDoorTie.lean); close each card by the builder's one call (the guide's Derived/Test/ToyasCard.lean, 'card_holds'). Laid BY PROGRAM, IN A SANDBOX (cutbox-door.mjs). By AI agents, Wed Nov 11 2026. No macro, syntax, notation, axiom, sorry.
-/
import Derived.Test.YtokbckflleaplaaDoorRows
import GoSem.ClaimSeven
namespace Go.Proofs.YtokbckflleaplaaDoor
namespace Rows

/-- THE TIED CARD OF 'turnoutlaw08.MatchMeets'. -/
def matchMeetsCard : Claim7 := { stood := { row := matchMeetsRow, standIns := [], harness := (true, "dc7fdafea0345ecb9dbc93dc0842cfac1d7ff671708f20a22a7b1718d61d2141"), looks := true }, kinds := [], alts := [], laidByText := true, laidKinds := [.data, .data, .data], laidTests := true, laidLooks := .later }
def MatchMeetsCardSaid : Prop := Claim7.holds Tryd.pinned (.plain (OpenSpec.ofChange matchMeetsSpec)) matchMeetsCard

/-- THE TIED CARD OF 'turnoutlaw08.MatchWithin'. -/
def matchWithinCard : Claim7 := { stood := { row := matchWithinRow, standIns := [], harness := (true, "dc7fdafea0345ecb9dbc93dc0842cfac1d7ff671708f20a22a7b1718d61d2141"), looks := true }, kinds := [], alts := [], laidByText := true, laidKinds := [.data, .data, .data], laidTests := true, laidLooks := .later }
def MatchWithinCardSaid : Prop := Claim7.holds Tryd.pinned (.plain (OpenSpec.ofChange matchWithinSpec)) matchWithinCard

/-- THE TIED CARD OF 'turnoutlaw09.ActJoins'. -/
def actJoinsCard : Claim7 := { stood := { row := actJoinsRow, standIns := [], harness := (true, "dc7fdafea0345ecb9dbc93dc0842cfac1d7ff671708f20a22a7b1718d61d2141"), looks := true }, kinds := [], alts := [], laidByText := true, laidKinds := [.data, .data, .data], laidTests := true, laidLooks := .later }
def ActJoinsCardSaid : Prop := Claim7.holds Tryd.pinned (.plain (OpenSpec.ofChange actJoinsSpec)) actJoinsCard

/-- THE TIED CARD OF 'turnoutlaw08.MatchTells'. -/
def matchTellsCard : Claim7 := { stood := { row := matchTellsRow, standIns := [], harness := (true, "dc7fdafea0345ecb9dbc93dc0842cfac1d7ff671708f20a22a7b1718d61d2141"), looks := true }, kinds := [], alts := [], laidByText := true, laidKinds := [.data, .data, .data], laidTests := true, laidLooks := .later }
def MatchTellsCardSaid : Prop := Claim7.holds Tryd.pinned (.plain (OpenSpec.ofChange matchTellsSpec)) matchTellsCard

/-- THE TIED CARD OF 'turnoutlaw09.ActFolds'. -/
def actFoldsCard : Claim7 := { stood := { row := actFoldsRow, standIns := [], harness := (true, "dc7fdafea0345ecb9dbc93dc0842cfac1d7ff671708f20a22a7b1718d61d2141"), looks := true }, kinds := [], alts := [], laidByText := true, laidKinds := [.data, .data, .data], laidTests := true, laidLooks := .later }
def ActFoldsCardSaid : Prop := Claim7.holds Tryd.pinned (.plain (OpenSpec.ofChange actFoldsSpec)) actFoldsCard

/-- THE TIED CARD OF 'turnoutlaw09.ActTells'. -/
def actTellsCard : Claim7 := { stood := { row := actTellsRow, standIns := [], harness := (true, "dc7fdafea0345ecb9dbc93dc0842cfac1d7ff671708f20a22a7b1718d61d2141"), looks := true }, kinds := [], alts := [], laidByText := true, laidKinds := [.data, .data, .data], laidTests := true, laidLooks := .later }
def ActTellsCardSaid : Prop := Claim7.holds Tryd.pinned (.plain (OpenSpec.ofChange actTellsSpec)) actTellsCard

/-- THE TIED CARD OF 'turnoutlaw08.MatchReads'. -/
def matchReadsCard : Claim7 := { stood := { row := matchReadsRow, standIns := [], harness := (true, "dc7fdafea0345ecb9dbc93dc0842cfac1d7ff671708f20a22a7b1718d61d2141"), looks := true }, kinds := [], alts := [], laidByText := true, laidKinds := [.data, .data, .data], laidTests := true, laidLooks := .later }
def MatchReadsCardSaid : Prop := Claim7.holds Tryd.pinned (.plain (OpenSpec.ofChange matchReadsSpec)) matchReadsCard

/-- THE TIED CARD OF 'turnoutlaw09.ActReads'. -/
def actReadsCard : Claim7 := { stood := { row := actReadsRow, standIns := [], harness := (true, "dc7fdafea0345ecb9dbc93dc0842cfac1d7ff671708f20a22a7b1718d61d2141"), looks := true }, kinds := [], alts := [], laidByText := true, laidKinds := [.data, .data, .data], laidTests := true, laidLooks := .later }
def ActReadsCardSaid : Prop := Claim7.holds Tryd.pinned (.plain (OpenSpec.ofChange actReadsSpec)) actReadsCard

/-- THE TIED CARD OF 'turnoutlaw07.PacketTells'. -/
def packetTellsCard : Claim7 := { stood := { row := packetTellsRow, standIns := [], harness := (true, "dc7fdafea0345ecb9dbc93dc0842cfac1d7ff671708f20a22a7b1718d61d2141"), looks := true }, kinds := [], alts := [], laidByText := true, laidKinds := [.data, .data, .data, .sentinel, .sentinel], laidTests := true, laidLooks := .later }
def PacketTellsCardSaid : Prop := Claim7.holds Tryd.pinned (.plain (OpenSpec.ofChange packetTellsSpec)) packetTellsCard

/-- THE TIED CARD OF 'turnoutlaw07.PacketReads'. -/
def packetReadsCard : Claim7 := { stood := { row := packetReadsRow, standIns := [], harness := (true, "dc7fdafea0345ecb9dbc93dc0842cfac1d7ff671708f20a22a7b1718d61d2141"), looks := true }, kinds := [], alts := [], laidByText := true, laidKinds := [.data, .data, .data, .sentinel, .sentinel], laidTests := true, laidLooks := .later }
def PacketReadsCardSaid : Prop := Claim7.holds Tryd.pinned (.plain (OpenSpec.ofChange packetReadsSpec)) packetReadsCard

/-- THE TIED CARD OF 'turnoutlaw07.PacketBack'. -/
def packetBackCard : Claim7 := { stood := { row := packetBackRow, standIns := [], harness := (true, "dc7fdafea0345ecb9dbc93dc0842cfac1d7ff671708f20a22a7b1718d61d2141"), looks := true }, kinds := [], alts := [], laidByText := true, laidKinds := [.data, .data, .data, .sentinel, .sentinel], laidTests := true, laidLooks := .later }
def PacketBackCardSaid : Prop := Claim7.holds Tryd.pinned (.plain (OpenSpec.ofChange packetBackSpec)) packetBackCard

/-- THE SECOND FORM's CARD OF 'turnoutlaw08.MatchMeets'. -/
def matchMeetsUptoCard : Claim7 := { stood := { row := matchMeetsUptoRow, standIns := [], harness := (true, "dc7fdafea0345ecb9dbc93dc0842cfac1d7ff671708f20a22a7b1718d61d2141"), looks := true }, kinds := [], alts := [], laidByText := true, laidKinds := [.data, .data, .data], laidTests := true, laidLooks := .later }
def MatchMeetsUptoCardSaid : Prop := Claim7.holds Tryd.pinned (.plain (OpenSpec.upto matchMeetsSpec)) matchMeetsUptoCard

/-- THE SECOND FORM's CARD OF 'turnoutlaw08.MatchWithin'. -/
def matchWithinUptoCard : Claim7 := { stood := { row := matchWithinUptoRow, standIns := [], harness := (true, "dc7fdafea0345ecb9dbc93dc0842cfac1d7ff671708f20a22a7b1718d61d2141"), looks := true }, kinds := [], alts := [], laidByText := true, laidKinds := [.data, .data, .data], laidTests := true, laidLooks := .later }
def MatchWithinUptoCardSaid : Prop := Claim7.holds Tryd.pinned (.plain (OpenSpec.upto matchWithinSpec)) matchWithinUptoCard

/-- THE SECOND FORM's CARD OF 'turnoutlaw09.ActJoins'. -/
def actJoinsUptoCard : Claim7 := { stood := { row := actJoinsUptoRow, standIns := [], harness := (true, "dc7fdafea0345ecb9dbc93dc0842cfac1d7ff671708f20a22a7b1718d61d2141"), looks := true }, kinds := [], alts := [], laidByText := true, laidKinds := [.data, .data, .data], laidTests := true, laidLooks := .later }
def ActJoinsUptoCardSaid : Prop := Claim7.holds Tryd.pinned (.plain (OpenSpec.upto actJoinsSpec)) actJoinsUptoCard

/-- THE SECOND FORM's CARD OF 'turnoutlaw08.MatchTells'. -/
def matchTellsUptoCard : Claim7 := { stood := { row := matchTellsUptoRow, standIns := [], harness := (true, "dc7fdafea0345ecb9dbc93dc0842cfac1d7ff671708f20a22a7b1718d61d2141"), looks := true }, kinds := [], alts := [], laidByText := true, laidKinds := [.data, .data, .data], laidTests := true, laidLooks := .later }
def MatchTellsUptoCardSaid : Prop := Claim7.holds Tryd.pinned (.plain (OpenSpec.upto matchTellsSpec)) matchTellsUptoCard

/-- THE SECOND FORM's CARD OF 'turnoutlaw09.ActFolds'. -/
def actFoldsUptoCard : Claim7 := { stood := { row := actFoldsUptoRow, standIns := [], harness := (true, "dc7fdafea0345ecb9dbc93dc0842cfac1d7ff671708f20a22a7b1718d61d2141"), looks := true }, kinds := [], alts := [], laidByText := true, laidKinds := [.data, .data, .data], laidTests := true, laidLooks := .later }
def ActFoldsUptoCardSaid : Prop := Claim7.holds Tryd.pinned (.plain (OpenSpec.upto actFoldsSpec)) actFoldsUptoCard

/-- THE SECOND FORM's CARD OF 'turnoutlaw09.ActTells'. -/
def actTellsUptoCard : Claim7 := { stood := { row := actTellsUptoRow, standIns := [], harness := (true, "dc7fdafea0345ecb9dbc93dc0842cfac1d7ff671708f20a22a7b1718d61d2141"), looks := true }, kinds := [], alts := [], laidByText := true, laidKinds := [.data, .data, .data], laidTests := true, laidLooks := .later }
def ActTellsUptoCardSaid : Prop := Claim7.holds Tryd.pinned (.plain (OpenSpec.upto actTellsSpec)) actTellsUptoCard

/-- THE SECOND FORM's CARD OF 'turnoutlaw08.MatchReads'. -/
def matchReadsUptoCard : Claim7 := { stood := { row := matchReadsUptoRow, standIns := [], harness := (true, "dc7fdafea0345ecb9dbc93dc0842cfac1d7ff671708f20a22a7b1718d61d2141"), looks := true }, kinds := [], alts := [], laidByText := true, laidKinds := [.data, .data, .data], laidTests := true, laidLooks := .later }
def MatchReadsUptoCardSaid : Prop := Claim7.holds Tryd.pinned (.plain (OpenSpec.upto matchReadsSpec)) matchReadsUptoCard

/-- THE SECOND FORM's CARD OF 'turnoutlaw09.ActReads'. -/
def actReadsUptoCard : Claim7 := { stood := { row := actReadsUptoRow, standIns := [], harness := (true, "dc7fdafea0345ecb9dbc93dc0842cfac1d7ff671708f20a22a7b1718d61d2141"), looks := true }, kinds := [], alts := [], laidByText := true, laidKinds := [.data, .data, .data], laidTests := true, laidLooks := .later }
def ActReadsUptoCardSaid : Prop := Claim7.holds Tryd.pinned (.plain (OpenSpec.upto actReadsSpec)) actReadsUptoCard

/-- THE SECOND FORM's CARD OF 'turnoutlaw07.PacketTells'. -/
def packetTellsUptoCard : Claim7 := { stood := { row := packetTellsUptoRow, standIns := [], harness := (true, "dc7fdafea0345ecb9dbc93dc0842cfac1d7ff671708f20a22a7b1718d61d2141"), looks := true }, kinds := [], alts := [], laidByText := true, laidKinds := [.data, .data, .data, .sentinel, .sentinel], laidTests := true, laidLooks := .later }
def PacketTellsUptoCardSaid : Prop := Claim7.holds Tryd.pinned (.plain (OpenSpec.upto packetTellsSpec)) packetTellsUptoCard

/-- THE SECOND FORM's CARD OF 'turnoutlaw07.PacketReads'. -/
def packetReadsUptoCard : Claim7 := { stood := { row := packetReadsUptoRow, standIns := [], harness := (true, "dc7fdafea0345ecb9dbc93dc0842cfac1d7ff671708f20a22a7b1718d61d2141"), looks := true }, kinds := [], alts := [], laidByText := true, laidKinds := [.data, .data, .data, .sentinel, .sentinel], laidTests := true, laidLooks := .later }
def PacketReadsUptoCardSaid : Prop := Claim7.holds Tryd.pinned (.plain (OpenSpec.upto packetReadsSpec)) packetReadsUptoCard

/-- THE SECOND FORM's CARD OF 'turnoutlaw07.PacketBack'. -/
def packetBackUptoCard : Claim7 := { stood := { row := packetBackUptoRow, standIns := [], harness := (true, "dc7fdafea0345ecb9dbc93dc0842cfac1d7ff671708f20a22a7b1718d61d2141"), looks := true }, kinds := [], alts := [], laidByText := true, laidKinds := [.data, .data, .data, .sentinel, .sentinel], laidTests := true, laidLooks := .later }
def PacketBackUptoCardSaid : Prop := Claim7.holds Tryd.pinned (.plain (OpenSpec.upto packetBackSpec)) packetBackUptoCard
end Rows
end Go.Proofs.YtokbckflleaplaaDoor
