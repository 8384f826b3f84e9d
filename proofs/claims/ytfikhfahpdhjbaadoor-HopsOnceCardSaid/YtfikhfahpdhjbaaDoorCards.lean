/-
  DERIVED. GIVEN WITH THE SEED: THE CARDS: each row of YtfikhfahpdhjbaaDoorRows.lean that lists a variable, with what it lists TIED to the program's text (the seventh form; the later family's looks); each row that meets fmt, with fmt's text TOLD by the authors' own Lean function (tested against real Go, not proved from fmt's source: count such statements apart). THE CARD IS WHAT COUNTS. Prove the row's statement (the work); the ties are given (YtfikhfahpdhjbaaDoorTie.lean); close each card by the builder's one call (the guide's Derived/Test/ToyasCard.lean, 'card_holds'). Laid BY PROGRAM, IN A SANDBOX (cutbox-door.mjs). By AI agents, Wed Nov 11 2026. No macro, syntax, notation, axiom, sorry.
-/
import Derived.Test.YtfikhfahpdhjbaaDoorRows
import GoSem.ClaimSeven
namespace Go.Proofs.YtfikhfahpdhjbaaDoor
namespace Rows

/-- THE TIED CARD OF 'brokerlaw46.HopsPaths'. -/
def hopsPathsCard : Claim7 := { stood := { row := hopsPathsRow, standIns := [], harness := (true, "a0c098b5cdd5b76d07cc7a14b41680219a9c4d6c3578fdbf605e7078309ab0df"), looks := false }, kinds := [], alts := [], laidByText := true, laidKinds := [.data, .pinned], laidTests := true, laidLooks := .later }
def HopsPathsCardSaid : Prop := Claim7.holds Tryd.pinned (.plain (OpenSpec.ofChange hopsPathsSpec)) hopsPathsCard

/-- THE TIED CARD OF 'brokerlaw46.HopsEnters'. -/
def hopsEntersCard : Claim7 := { stood := { row := hopsEntersRow, standIns := [], harness := (true, "a0c098b5cdd5b76d07cc7a14b41680219a9c4d6c3578fdbf605e7078309ab0df"), looks := false }, kinds := [], alts := [], laidByText := true, laidKinds := [.data, .pinned], laidTests := true, laidLooks := .later }
def HopsEntersCardSaid : Prop := Claim7.holds Tryd.pinned (.plain (OpenSpec.ofChange hopsEntersSpec)) hopsEntersCard

/-- THE TIED CARD OF 'brokerlaw46.HopsStrips'. -/
def hopsStripsCard : Claim7 := { stood := { row := hopsStripsRow, standIns := [], harness := (true, "a0c098b5cdd5b76d07cc7a14b41680219a9c4d6c3578fdbf605e7078309ab0df"), looks := false }, kinds := [], alts := [], laidByText := true, laidKinds := [.data, .pinned], laidTests := true, laidLooks := .later }
def HopsStripsCardSaid : Prop := Claim7.holds Tryd.pinned (.plain (OpenSpec.ofChange hopsStripsSpec)) hopsStripsCard

/-- THE TIED CARD OF 'brokerlaw46.HopsOnce'. -/
def hopsOnceCard : Claim7 := { stood := { row := hopsOnceRow, standIns := [], harness := (true, "a0c098b5cdd5b76d07cc7a14b41680219a9c4d6c3578fdbf605e7078309ab0df"), looks := false }, kinds := [], alts := [], laidByText := true, laidKinds := [.data, .pinned], laidTests := true, laidLooks := .later }
def HopsOnceCardSaid : Prop := Claim7.holds Tryd.pinned (.plain (OpenSpec.ofChange hopsOnceSpec)) hopsOnceCard

/-- THE TIED CARD OF 'brokerlaw46.HopsFloods'. -/
def hopsFloodsCard : Claim7 := { stood := { row := hopsFloodsRow, standIns := [], harness := (true, "a0c098b5cdd5b76d07cc7a14b41680219a9c4d6c3578fdbf605e7078309ab0df"), looks := false }, kinds := [], alts := [], laidByText := true, laidKinds := [.data, .pinned], laidTests := true, laidLooks := .later }
def HopsFloodsCardSaid : Prop := Claim7.holds Tryd.pinned (.plain (OpenSpec.ofChange hopsFloodsSpec)) hopsFloodsCard

/-- THE TIED CARD OF 'brokerlaw46.HopsReach'. -/
def hopsReachCard : Claim7 := { stood := { row := hopsReachRow, standIns := [], harness := (true, "a0c098b5cdd5b76d07cc7a14b41680219a9c4d6c3578fdbf605e7078309ab0df"), looks := false }, kinds := [], alts := [], laidByText := true, laidKinds := [.data, .pinned], laidTests := true, laidLooks := .later }
def HopsReachCardSaid : Prop := Claim7.holds Tryd.pinned (.plain (OpenSpec.ofChange hopsReachSpec)) hopsReachCard

/-- THE SECOND FORM's CARD OF 'brokerlaw46.HopsPaths'. -/
def hopsPathsUptoCard : Claim7 := { stood := { row := hopsPathsUptoRow, standIns := [], harness := (true, "a0c098b5cdd5b76d07cc7a14b41680219a9c4d6c3578fdbf605e7078309ab0df"), looks := false }, kinds := [], alts := [], laidByText := true, laidKinds := [.data, .pinned], laidTests := true, laidLooks := .later }
def HopsPathsUptoCardSaid : Prop := Claim7.holds Tryd.pinned (.plain (OpenSpec.upto hopsPathsSpec)) hopsPathsUptoCard

/-- THE SECOND FORM's CARD OF 'brokerlaw46.HopsEnters'. -/
def hopsEntersUptoCard : Claim7 := { stood := { row := hopsEntersUptoRow, standIns := [], harness := (true, "a0c098b5cdd5b76d07cc7a14b41680219a9c4d6c3578fdbf605e7078309ab0df"), looks := false }, kinds := [], alts := [], laidByText := true, laidKinds := [.data, .pinned], laidTests := true, laidLooks := .later }
def HopsEntersUptoCardSaid : Prop := Claim7.holds Tryd.pinned (.plain (OpenSpec.upto hopsEntersSpec)) hopsEntersUptoCard

/-- THE SECOND FORM's CARD OF 'brokerlaw46.HopsStrips'. -/
def hopsStripsUptoCard : Claim7 := { stood := { row := hopsStripsUptoRow, standIns := [], harness := (true, "a0c098b5cdd5b76d07cc7a14b41680219a9c4d6c3578fdbf605e7078309ab0df"), looks := false }, kinds := [], alts := [], laidByText := true, laidKinds := [.data, .pinned], laidTests := true, laidLooks := .later }
def HopsStripsUptoCardSaid : Prop := Claim7.holds Tryd.pinned (.plain (OpenSpec.upto hopsStripsSpec)) hopsStripsUptoCard

/-- THE SECOND FORM's CARD OF 'brokerlaw46.HopsOnce'. -/
def hopsOnceUptoCard : Claim7 := { stood := { row := hopsOnceUptoRow, standIns := [], harness := (true, "a0c098b5cdd5b76d07cc7a14b41680219a9c4d6c3578fdbf605e7078309ab0df"), looks := false }, kinds := [], alts := [], laidByText := true, laidKinds := [.data, .pinned], laidTests := true, laidLooks := .later }
def HopsOnceUptoCardSaid : Prop := Claim7.holds Tryd.pinned (.plain (OpenSpec.upto hopsOnceSpec)) hopsOnceUptoCard

/-- THE SECOND FORM's CARD OF 'brokerlaw46.HopsFloods'. -/
def hopsFloodsUptoCard : Claim7 := { stood := { row := hopsFloodsUptoRow, standIns := [], harness := (true, "a0c098b5cdd5b76d07cc7a14b41680219a9c4d6c3578fdbf605e7078309ab0df"), looks := false }, kinds := [], alts := [], laidByText := true, laidKinds := [.data, .pinned], laidTests := true, laidLooks := .later }
def HopsFloodsUptoCardSaid : Prop := Claim7.holds Tryd.pinned (.plain (OpenSpec.upto hopsFloodsSpec)) hopsFloodsUptoCard

/-- THE SECOND FORM's CARD OF 'brokerlaw46.HopsReach'. -/
def hopsReachUptoCard : Claim7 := { stood := { row := hopsReachUptoRow, standIns := [], harness := (true, "a0c098b5cdd5b76d07cc7a14b41680219a9c4d6c3578fdbf605e7078309ab0df"), looks := false }, kinds := [], alts := [], laidByText := true, laidKinds := [.data, .pinned], laidTests := true, laidLooks := .later }
def HopsReachUptoCardSaid : Prop := Claim7.holds Tryd.pinned (.plain (OpenSpec.upto hopsReachSpec)) hopsReachUptoCard
end Rows
end Go.Proofs.YtfikhfahpdhjbaaDoor
