/-
  DERIVED. GIVEN WITH THE SEED: THE CARDS: each row of YtpnekiledkgfiaaDoorRows.lean that lists a variable, with what it lists TIED to the program's text (the seventh form; the later family's looks); each row that meets fmt, with fmt's text TOLD by the authors' own Lean function (tested against real Go, not proved from fmt's source: count such statements apart). THE CARD IS WHAT COUNTS. Prove the row's statement (the work); the ties are given (YtpnekiledkgfiaaDoorTie.lean); close each card by the builder's one call (the guide's Derived/Test/ToyasCard.lean, 'card_holds'). Laid BY PROGRAM, IN A SANDBOX (cutbox-door.mjs). By AI agents, Wed Nov 11 2026. No macro, syntax, notation, axiom, sorry.
-/
import Derived.Test.YtpnekiledkgfiaaDoorRows
import GoSem.ClaimSeven
namespace Go.Proofs.YtpnekiledkgfiaaDoor
namespace Rows

/-- THE TIED CARD OF 'brokerlaw01.TopicNames'. -/
def topicNamesCard : Claim7 := { stood := { row := topicNamesRow, standIns := [], harness := (true, "c87cbf0c1f6671f2c1705825734a7d44444a6bc148087ab9f729cb5f4966a37c"), looks := false }, kinds := [], alts := [], laidByText := true, laidKinds := [.data, .pinned], laidTests := true, laidLooks := .later }
def TopicNamesCardSaid : Prop := Claim7.holds Tryd.pinned (.plain (OpenSpec.ofChange topicNamesSpec)) topicNamesCard

/-- THE TIED CARD OF 'brokerlaw01.TopicValid'. -/
def topicValidCard : Claim7 := { stood := { row := topicValidRow, standIns := [], harness := (true, "c87cbf0c1f6671f2c1705825734a7d44444a6bc148087ab9f729cb5f4966a37c"), looks := false }, kinds := [], alts := [], laidByText := true, laidKinds := [.data, .pinned], laidTests := true, laidLooks := .later }
def TopicValidCardSaid : Prop := Claim7.holds Tryd.pinned (.plain (OpenSpec.ofChange topicValidSpec)) topicValidCard

/-- THE TIED CARD OF 'brokerlaw01.TopicLevels'. -/
def topicLevelsCard : Claim7 := { stood := { row := topicLevelsRow, standIns := [], harness := (true, "c87cbf0c1f6671f2c1705825734a7d44444a6bc148087ab9f729cb5f4966a37c"), looks := false }, kinds := [], alts := [], laidByText := true, laidKinds := [.data, .pinned], laidTests := true, laidLooks := .later }
def TopicLevelsCardSaid : Prop := Claim7.holds Tryd.pinned (.plain (OpenSpec.ofChange topicLevelsSpec)) topicLevelsCard

/-- THE TIED CARD OF 'brokerlaw01.TopicJoins'. -/
def topicJoinsCard : Claim7 := { stood := { row := topicJoinsRow, standIns := [], harness := (true, "c87cbf0c1f6671f2c1705825734a7d44444a6bc148087ab9f729cb5f4966a37c"), looks := false }, kinds := [], alts := [], laidByText := true, laidKinds := [.data, .pinned], laidTests := true, laidLooks := .later }
def TopicJoinsCardSaid : Prop := Claim7.holds Tryd.pinned (.plain (OpenSpec.ofChange topicJoinsSpec)) topicJoinsCard

/-- THE TIED CARD OF 'brokerlaw01.TopicShared'. -/
def topicSharedCard : Claim7 := { stood := { row := topicSharedRow, standIns := [], harness := (true, "c87cbf0c1f6671f2c1705825734a7d44444a6bc148087ab9f729cb5f4966a37c"), looks := false }, kinds := [], alts := [], laidByText := true, laidKinds := [.data, .pinned], laidTests := true, laidLooks := .later }
def TopicSharedCardSaid : Prop := Claim7.holds Tryd.pinned (.plain (OpenSpec.ofChange topicSharedSpec)) topicSharedCard

/-- THE TIED CARD OF 'brokerlaw01.TopicPlain'. -/
def topicPlainCard : Claim7 := { stood := { row := topicPlainRow, standIns := [], harness := (true, "c87cbf0c1f6671f2c1705825734a7d44444a6bc148087ab9f729cb5f4966a37c"), looks := false }, kinds := [], alts := [], laidByText := true, laidKinds := [.data, .pinned], laidTests := true, laidLooks := .later }
def TopicPlainCardSaid : Prop := Claim7.holds Tryd.pinned (.plain (OpenSpec.ofChange topicPlainSpec)) topicPlainCard

/-- THE SECOND FORM's CARD OF 'brokerlaw01.TopicNames'. -/
def topicNamesUptoCard : Claim7 := { stood := { row := topicNamesUptoRow, standIns := [], harness := (true, "c87cbf0c1f6671f2c1705825734a7d44444a6bc148087ab9f729cb5f4966a37c"), looks := false }, kinds := [], alts := [], laidByText := true, laidKinds := [.data, .pinned], laidTests := true, laidLooks := .later }
def TopicNamesUptoCardSaid : Prop := Claim7.holds Tryd.pinned (.plain (OpenSpec.upto topicNamesSpec)) topicNamesUptoCard

/-- THE SECOND FORM's CARD OF 'brokerlaw01.TopicValid'. -/
def topicValidUptoCard : Claim7 := { stood := { row := topicValidUptoRow, standIns := [], harness := (true, "c87cbf0c1f6671f2c1705825734a7d44444a6bc148087ab9f729cb5f4966a37c"), looks := false }, kinds := [], alts := [], laidByText := true, laidKinds := [.data, .pinned], laidTests := true, laidLooks := .later }
def TopicValidUptoCardSaid : Prop := Claim7.holds Tryd.pinned (.plain (OpenSpec.upto topicValidSpec)) topicValidUptoCard

/-- THE SECOND FORM's CARD OF 'brokerlaw01.TopicLevels'. -/
def topicLevelsUptoCard : Claim7 := { stood := { row := topicLevelsUptoRow, standIns := [], harness := (true, "c87cbf0c1f6671f2c1705825734a7d44444a6bc148087ab9f729cb5f4966a37c"), looks := false }, kinds := [], alts := [], laidByText := true, laidKinds := [.data, .pinned], laidTests := true, laidLooks := .later }
def TopicLevelsUptoCardSaid : Prop := Claim7.holds Tryd.pinned (.plain (OpenSpec.upto topicLevelsSpec)) topicLevelsUptoCard

/-- THE SECOND FORM's CARD OF 'brokerlaw01.TopicJoins'. -/
def topicJoinsUptoCard : Claim7 := { stood := { row := topicJoinsUptoRow, standIns := [], harness := (true, "c87cbf0c1f6671f2c1705825734a7d44444a6bc148087ab9f729cb5f4966a37c"), looks := false }, kinds := [], alts := [], laidByText := true, laidKinds := [.data, .pinned], laidTests := true, laidLooks := .later }
def TopicJoinsUptoCardSaid : Prop := Claim7.holds Tryd.pinned (.plain (OpenSpec.upto topicJoinsSpec)) topicJoinsUptoCard

/-- THE SECOND FORM's CARD OF 'brokerlaw01.TopicShared'. -/
def topicSharedUptoCard : Claim7 := { stood := { row := topicSharedUptoRow, standIns := [], harness := (true, "c87cbf0c1f6671f2c1705825734a7d44444a6bc148087ab9f729cb5f4966a37c"), looks := false }, kinds := [], alts := [], laidByText := true, laidKinds := [.data, .pinned], laidTests := true, laidLooks := .later }
def TopicSharedUptoCardSaid : Prop := Claim7.holds Tryd.pinned (.plain (OpenSpec.upto topicSharedSpec)) topicSharedUptoCard

/-- THE SECOND FORM's CARD OF 'brokerlaw01.TopicPlain'. -/
def topicPlainUptoCard : Claim7 := { stood := { row := topicPlainUptoRow, standIns := [], harness := (true, "c87cbf0c1f6671f2c1705825734a7d44444a6bc148087ab9f729cb5f4966a37c"), looks := false }, kinds := [], alts := [], laidByText := true, laidKinds := [.data, .pinned], laidTests := true, laidLooks := .later }
def TopicPlainUptoCardSaid : Prop := Claim7.holds Tryd.pinned (.plain (OpenSpec.upto topicPlainSpec)) topicPlainUptoCard
end Rows
end Go.Proofs.YtpnekiledkgfiaaDoor
