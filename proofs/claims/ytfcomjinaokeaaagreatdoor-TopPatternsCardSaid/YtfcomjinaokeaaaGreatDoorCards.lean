/-
  DERIVED. GIVEN WITH THE SEED: THE CARDS: each row of YtfcomjinaokeaaaGreatDoorRows.lean that lists a variable, with what it lists TIED to the program's text (the seventh form; the later family's looks); each row that meets fmt, with fmt's text TOLD by the authors' own Lean function (tested against real Go, not proved from fmt's source: count such statements apart). THE CARD IS WHAT COUNTS. Prove the row's statement (the work); the ties are given (YtfcomjinaokeaaaGreatDoorTie.lean); close each card by the builder's one call (the guide's Derived/Test/ToyasCard.lean, 'card_holds'). Laid BY PROGRAM, IN A SANDBOX (cutbox-door.mjs). By AI agents, Wed Nov 11 2026. No macro, syntax, notation, axiom, sorry.
-/
import Derived.Test.YtfcomjinaokeaaaGreatDoorRows
import GoSem.ClaimSeven
namespace Go.Proofs.YtfcomjinaokeaaaGreatDoor
namespace Rows

/-- THE TIED CARD OF 'brokertop.TopPatterns'. -/
def topPatternsCard : Claim7 := { stood := { row := topPatternsRow, standIns := [], harness := (true, "eb420d06802c60feaa3e43710dced37c4a2730fc9fa35ace5379bb095ce700a4"), looks := false }, kinds := [], alts := [], laidByText := true, laidKinds := [.data, .pinned], laidTests := true, laidLooks := .later }
def TopPatternsCardSaid : Prop := Claim7.holds Tryz.pinned (.plain (OpenSpec.ofChange topPatternsSpec)) topPatternsCard

/-- THE SECOND FORM's CARD OF 'brokertop.TopPatterns'. -/
def topPatternsUptoCard : Claim7 := { stood := { row := topPatternsUptoRow, standIns := [], harness := (true, "eb420d06802c60feaa3e43710dced37c4a2730fc9fa35ace5379bb095ce700a4"), looks := false }, kinds := [], alts := [], laidByText := true, laidKinds := [.data, .pinned], laidTests := true, laidLooks := .later }
def TopPatternsUptoCardSaid : Prop := Claim7.holds Tryz.pinned (.plain (OpenSpec.upto topPatternsSpec)) topPatternsUptoCard
end Rows
end Go.Proofs.YtfcomjinaokeaaaGreatDoor
