/-
  DERIVED. GIVEN WITH THE SEED: THE CARDS: each row of YtmgmkgnenopelaaDoorRows.lean that lists a variable, with what it lists TIED to the program's text (the seventh form; the later family's looks); each row that meets fmt, with fmt's text TOLD by the authors' own Lean function (tested against real Go, not proved from fmt's source: count such statements apart). THE CARD IS WHAT COUNTS. Prove the row's statement (the work); the ties are given (YtmgmkgnenopelaaDoorTie.lean); close each card by the builder's one call (the guide's Derived/Test/ToyasCard.lean, 'card_holds'). Laid BY PROGRAM, IN A SANDBOX (cutbox-door.mjs). By AI agents, Wed Nov 11 2026. No macro, syntax, notation, axiom, sorry.
-/
import Derived.Test.YtmgmkgnenopelaaDoorRows
import GoSem.ClaimSeven
namespace Go.Proofs.YtmgmkgnenopelaaDoor
namespace Rows

/-- THE TIED CARD OF 'brokerlaw02.MatchTells'. -/
def matchTellsCard : Claim7 := { stood := { row := matchTellsRow, standIns := [], harness := (true, "6e023c8d3beb686a24de03be1c38b3544a9bba11b79c7acbf12b4ddbb93bbb1b"), looks := false }, kinds := [], alts := [], laidByText := true, laidKinds := [.data, .pinned], laidTests := true, laidLooks := .later }
def MatchTellsCardSaid : Prop := Claim7.holds Tryd.pinned (.plain (OpenSpec.ofChange matchTellsSpec)) matchTellsCard

/-- THE TIED CARD OF 'brokerlaw02.MatchPairs'. -/
def matchPairsCard : Claim7 := { stood := { row := matchPairsRow, standIns := [], harness := (true, "6e023c8d3beb686a24de03be1c38b3544a9bba11b79c7acbf12b4ddbb93bbb1b"), looks := false }, kinds := [], alts := [], laidByText := true, laidKinds := [.data, .pinned], laidTests := true, laidLooks := .later }
def MatchPairsCardSaid : Prop := Claim7.holds Tryd.pinned (.plain (OpenSpec.ofChange matchPairsSpec)) matchPairsCard

/-- THE TIED CARD OF 'brokerlaw02.MatchLists'. -/
def matchListsCard : Claim7 := { stood := { row := matchListsRow, standIns := [], harness := (true, "6e023c8d3beb686a24de03be1c38b3544a9bba11b79c7acbf12b4ddbb93bbb1b"), looks := false }, kinds := [], alts := [], laidByText := true, laidKinds := [.data, .pinned], laidTests := true, laidLooks := .later }
def MatchListsCardSaid : Prop := Claim7.holds Tryd.pinned (.plain (OpenSpec.ofChange matchListsSpec)) matchListsCard

/-- THE TIED CARD OF 'brokerlaw02.MatchCovers'. -/
def matchCoversCard : Claim7 := { stood := { row := matchCoversRow, standIns := [], harness := (true, "6e023c8d3beb686a24de03be1c38b3544a9bba11b79c7acbf12b4ddbb93bbb1b"), looks := false }, kinds := [], alts := [], laidByText := true, laidKinds := [.data, .pinned], laidTests := true, laidLooks := .later }
def MatchCoversCardSaid : Prop := Claim7.holds Tryd.pinned (.plain (OpenSpec.ofChange matchCoversSpec)) matchCoversCard

/-- THE TIED CARD OF 'brokerlaw02.MatchMeets'. -/
def matchMeetsCard : Claim7 := { stood := { row := matchMeetsRow, standIns := [], harness := (true, "6e023c8d3beb686a24de03be1c38b3544a9bba11b79c7acbf12b4ddbb93bbb1b"), looks := false }, kinds := [], alts := [], laidByText := true, laidKinds := [.data, .pinned], laidTests := true, laidLooks := .later }
def MatchMeetsCardSaid : Prop := Claim7.holds Tryd.pinned (.plain (OpenSpec.ofChange matchMeetsSpec)) matchMeetsCard

/-- THE TIED CARD OF 'brokerlaw02.MatchNarrow'. -/
def matchNarrowCard : Claim7 := { stood := { row := matchNarrowRow, standIns := [], harness := (true, "6e023c8d3beb686a24de03be1c38b3544a9bba11b79c7acbf12b4ddbb93bbb1b"), looks := false }, kinds := [], alts := [], laidByText := true, laidKinds := [.data, .pinned], laidTests := true, laidLooks := .later }
def MatchNarrowCardSaid : Prop := Claim7.holds Tryd.pinned (.plain (OpenSpec.ofChange matchNarrowSpec)) matchNarrowCard

/-- THE TIED CARD OF 'brokerlaw02.MatchLiteral'. -/
def matchLiteralCard : Claim7 := { stood := { row := matchLiteralRow, standIns := [], harness := (true, "6e023c8d3beb686a24de03be1c38b3544a9bba11b79c7acbf12b4ddbb93bbb1b"), looks := false }, kinds := [], alts := [], laidByText := true, laidKinds := [.data, .pinned], laidTests := true, laidLooks := .later }
def MatchLiteralCardSaid : Prop := Claim7.holds Tryd.pinned (.plain (OpenSpec.ofChange matchLiteralSpec)) matchLiteralCard

/-- THE SECOND FORM's CARD OF 'brokerlaw02.MatchTells'. -/
def matchTellsUptoCard : Claim7 := { stood := { row := matchTellsUptoRow, standIns := [], harness := (true, "6e023c8d3beb686a24de03be1c38b3544a9bba11b79c7acbf12b4ddbb93bbb1b"), looks := false }, kinds := [], alts := [], laidByText := true, laidKinds := [.data, .pinned], laidTests := true, laidLooks := .later }
def MatchTellsUptoCardSaid : Prop := Claim7.holds Tryd.pinned (.plain (OpenSpec.upto matchTellsSpec)) matchTellsUptoCard

/-- THE SECOND FORM's CARD OF 'brokerlaw02.MatchPairs'. -/
def matchPairsUptoCard : Claim7 := { stood := { row := matchPairsUptoRow, standIns := [], harness := (true, "6e023c8d3beb686a24de03be1c38b3544a9bba11b79c7acbf12b4ddbb93bbb1b"), looks := false }, kinds := [], alts := [], laidByText := true, laidKinds := [.data, .pinned], laidTests := true, laidLooks := .later }
def MatchPairsUptoCardSaid : Prop := Claim7.holds Tryd.pinned (.plain (OpenSpec.upto matchPairsSpec)) matchPairsUptoCard

/-- THE SECOND FORM's CARD OF 'brokerlaw02.MatchLists'. -/
def matchListsUptoCard : Claim7 := { stood := { row := matchListsUptoRow, standIns := [], harness := (true, "6e023c8d3beb686a24de03be1c38b3544a9bba11b79c7acbf12b4ddbb93bbb1b"), looks := false }, kinds := [], alts := [], laidByText := true, laidKinds := [.data, .pinned], laidTests := true, laidLooks := .later }
def MatchListsUptoCardSaid : Prop := Claim7.holds Tryd.pinned (.plain (OpenSpec.upto matchListsSpec)) matchListsUptoCard

/-- THE SECOND FORM's CARD OF 'brokerlaw02.MatchCovers'. -/
def matchCoversUptoCard : Claim7 := { stood := { row := matchCoversUptoRow, standIns := [], harness := (true, "6e023c8d3beb686a24de03be1c38b3544a9bba11b79c7acbf12b4ddbb93bbb1b"), looks := false }, kinds := [], alts := [], laidByText := true, laidKinds := [.data, .pinned], laidTests := true, laidLooks := .later }
def MatchCoversUptoCardSaid : Prop := Claim7.holds Tryd.pinned (.plain (OpenSpec.upto matchCoversSpec)) matchCoversUptoCard

/-- THE SECOND FORM's CARD OF 'brokerlaw02.MatchMeets'. -/
def matchMeetsUptoCard : Claim7 := { stood := { row := matchMeetsUptoRow, standIns := [], harness := (true, "6e023c8d3beb686a24de03be1c38b3544a9bba11b79c7acbf12b4ddbb93bbb1b"), looks := false }, kinds := [], alts := [], laidByText := true, laidKinds := [.data, .pinned], laidTests := true, laidLooks := .later }
def MatchMeetsUptoCardSaid : Prop := Claim7.holds Tryd.pinned (.plain (OpenSpec.upto matchMeetsSpec)) matchMeetsUptoCard

/-- THE SECOND FORM's CARD OF 'brokerlaw02.MatchNarrow'. -/
def matchNarrowUptoCard : Claim7 := { stood := { row := matchNarrowUptoRow, standIns := [], harness := (true, "6e023c8d3beb686a24de03be1c38b3544a9bba11b79c7acbf12b4ddbb93bbb1b"), looks := false }, kinds := [], alts := [], laidByText := true, laidKinds := [.data, .pinned], laidTests := true, laidLooks := .later }
def MatchNarrowUptoCardSaid : Prop := Claim7.holds Tryd.pinned (.plain (OpenSpec.upto matchNarrowSpec)) matchNarrowUptoCard

/-- THE SECOND FORM's CARD OF 'brokerlaw02.MatchLiteral'. -/
def matchLiteralUptoCard : Claim7 := { stood := { row := matchLiteralUptoRow, standIns := [], harness := (true, "6e023c8d3beb686a24de03be1c38b3544a9bba11b79c7acbf12b4ddbb93bbb1b"), looks := false }, kinds := [], alts := [], laidByText := true, laidKinds := [.data, .pinned], laidTests := true, laidLooks := .later }
def MatchLiteralUptoCardSaid : Prop := Claim7.holds Tryd.pinned (.plain (OpenSpec.upto matchLiteralSpec)) matchLiteralUptoCard
end Rows
end Go.Proofs.YtmgmkgnenopelaaDoor
