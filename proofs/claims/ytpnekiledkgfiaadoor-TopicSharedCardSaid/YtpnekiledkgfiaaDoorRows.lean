/-
  NARROWER THAN 'FOR EVERY INPUT', by the rows' own cells (each row's printed sentence says how): TopicNames: laid · TopicValid: laid · TopicLevels: laid · TopicJoins: laid · TopicShared: laid · TopicPlain: laid.
  DERIVED. THE GIVEN ROWS OF THIS SEAT. 6 by the template 'for every input the law returns true; each argument reads behind the call as it read before'; 0 by the template 'total and deterministic' (their statements: YtpnekiledkgfiaaDoorTotals.lean).
  GIVEN WITH THE SEED: the statements are not yours to turn. If you find one false, say at which input.
  Laid BY PROGRAM, IN A SANDBOX (cutbox-rows.mjs): the forced cells as the released guide's own fill.sh prints them over the translation 4cc514ed16bf5655… (all of the seat's roots in one cut). By AI agents, Wed Nov 11 2026. No macro, syntax, notation, axiom, sorry.
-/
import Derived.Test.YtpnekiledkgfiaaDoorChecked
import GoSem.PinnedTables
import GoSem.Claim
import GoSem.ClaimJoined
import GoSem.ClaimMapViews
import Derived.JoinedTies
import Derived.KernelRfl
namespace Go.Proofs.YtpnekiledkgfiaaDoor
/- THE CELL 'sum', in the pinned program and in every row, IS THE sha256 OF THE DUMP (.gsa) THAT YtpnekiledkgfiaaDoorProg.lean LOADS. Nothing in Lean hashes anything: it is a label: what it is worth is what the hold of that sum in a sandbox is worth. -/
noncomputable def Tryd.pinned : Pinned := { name := "ytpnekiledkgfiaadoor", sum := "4cc514ed16bf5655e03c5aef71b6bdd87a6176e8be2ee5ec635e7fdcd92fe32f", checked := Tryd.checked }
namespace Rows
def none {H : Type} : Left H := { results := [], args := [] }

/- WHAT THE LISTED PACKAGE-LEVEL VARIABLES READ AS WHEN THE CALL BEGINS. Each datum BY PROGRAM (the guide's laid-datum.mjs) off the statement by which the dump's own 'gosem.cut.vars' lays the variable. In a bare row this is a premise. The card (YtpnekiledkgfiaaDoorCards.lean) ties it to the program's text. -/
def laid_unicode_utf8_acceptRanges {H : Type} : DataW H := .agg [.agg [.lit (.int .u8 128), .lit (.int .u8 191)], .agg [.lit (.int .u8 160), .lit (.int .u8 191)], .agg [.lit (.int .u8 128), .lit (.int .u8 159)], .agg [.lit (.int .u8 144), .lit (.int .u8 191)], .agg [.lit (.int .u8 128), .lit (.int .u8 143)], .agg [.lit (.int .u8 0), .lit (.int .u8 0)], .agg [.lit (.int .u8 0), .lit (.int .u8 0)], .agg [.lit (.int .u8 0), .lit (.int .u8 0)], .agg [.lit (.int .u8 0), .lit (.int .u8 0)], .agg [.lit (.int .u8 0), .lit (.int .u8 0)], .agg [.lit (.int .u8 0), .lit (.int .u8 0)], .agg [.lit (.int .u8 0), .lit (.int .u8 0)], .agg [.lit (.int .u8 0), .lit (.int .u8 0)], .agg [.lit (.int .u8 0), .lit (.int .u8 0)], .agg [.lit (.int .u8 0), .lit (.int .u8 0)], .agg [.lit (.int .u8 0), .lit (.int .u8 0)]]
/-- One of Go's own tables, pinned by name: the form's constant. -/
def laid_unicode_utf8_first : DataW Unit := Go.Pinned.utf8First

/-- 'brokerlaw01.TopicNames': WHATEVER THE INPUT: true; the input reads as it did. -/
def topicNamesSpec : ChangeSpec := { name := "topicNames", fn := fun _ => fun
  | [d] => { results := [.lit (.bool true)], args := [d] }
  | _ => none }
def topicNamesRow : OpenClaim := { program := "ytpnekiledkgfiaadoor", sum := "4cc514ed16bf5655e03c5aef71b6bdd87a6176e8be2ee5ec635e7fdcd92fe32f", func := "broker/brokerlaw01.TopicNames", spec := "topicNames", inPlace := ["internal/bytealg.IndexByteString", "internal/bytealg.IndexString", "internal/bytealg.CountString", "internal/abi.NoEscape", "internal/bytealg.MakeNoZero"], named := ["internal/bytealg.MaxLen", "unicode/utf8.first", "unicode/utf8.acceptRanges"], apart := false, laid := [("unicode/utf8.acceptRanges", laid_unicode_utf8_acceptRanges), ("unicode/utf8.first", laid_unicode_utf8_first)] }
def TopicNamesSaid : Prop := topicNamesRow.holds Tryd.pinned (OpenSpec.ofChange topicNamesSpec)

/-- ITS FALSE NEIGHBOUR: 'it returns false'. Refute it at one input. -/
def topicNamesWrong : ChangeSpec := { name := "topicNames", fn := fun _ => fun
  | [d] => { results := [.lit (.bool false)], args := [d] }
  | _ => none }
def TopicNamesWrongFalsely : Prop := topicNamesRow.holds Tryd.pinned (OpenSpec.ofChange topicNamesWrong)

/-- 'brokerlaw01.TopicValid': WHATEVER THE INPUT: true; the input reads as it did. -/
def topicValidSpec : ChangeSpec := { name := "topicValid", fn := fun _ => fun
  | [d] => { results := [.lit (.bool true)], args := [d] }
  | _ => none }
def topicValidRow : OpenClaim := { program := "ytpnekiledkgfiaadoor", sum := "4cc514ed16bf5655e03c5aef71b6bdd87a6176e8be2ee5ec635e7fdcd92fe32f", func := "broker/brokerlaw01.TopicValid", spec := "topicValid", inPlace := ["internal/bytealg.IndexByteString", "internal/bytealg.IndexString", "internal/bytealg.CountString", "internal/abi.NoEscape", "internal/bytealg.MakeNoZero"], named := ["internal/bytealg.MaxLen", "unicode/utf8.first", "unicode/utf8.acceptRanges"], apart := false, laid := [("unicode/utf8.acceptRanges", laid_unicode_utf8_acceptRanges), ("unicode/utf8.first", laid_unicode_utf8_first)] }
def TopicValidSaid : Prop := topicValidRow.holds Tryd.pinned (OpenSpec.ofChange topicValidSpec)

/-- ITS FALSE NEIGHBOUR: 'it returns false'. Refute it at one input. -/
def topicValidWrong : ChangeSpec := { name := "topicValid", fn := fun _ => fun
  | [d] => { results := [.lit (.bool false)], args := [d] }
  | _ => none }
def TopicValidWrongFalsely : Prop := topicValidRow.holds Tryd.pinned (OpenSpec.ofChange topicValidWrong)

/-- 'brokerlaw01.TopicLevels': WHATEVER THE INPUT: true; the input reads as it did. -/
def topicLevelsSpec : ChangeSpec := { name := "topicLevels", fn := fun _ => fun
  | [d] => { results := [.lit (.bool true)], args := [d] }
  | _ => none }
def topicLevelsRow : OpenClaim := { program := "ytpnekiledkgfiaadoor", sum := "4cc514ed16bf5655e03c5aef71b6bdd87a6176e8be2ee5ec635e7fdcd92fe32f", func := "broker/brokerlaw01.TopicLevels", spec := "topicLevels", inPlace := ["internal/bytealg.CountString", "internal/bytealg.IndexByteString", "internal/bytealg.IndexString", "internal/abi.NoEscape", "internal/bytealg.MakeNoZero"], named := ["unicode/utf8.first", "unicode/utf8.acceptRanges", "internal/bytealg.MaxLen"], apart := false, laid := [("unicode/utf8.acceptRanges", laid_unicode_utf8_acceptRanges), ("unicode/utf8.first", laid_unicode_utf8_first)] }
def TopicLevelsSaid : Prop := topicLevelsRow.holds Tryd.pinned (OpenSpec.ofChange topicLevelsSpec)

/-- ITS FALSE NEIGHBOUR: 'it returns false'. Refute it at one input. -/
def topicLevelsWrong : ChangeSpec := { name := "topicLevels", fn := fun _ => fun
  | [d] => { results := [.lit (.bool false)], args := [d] }
  | _ => none }
def TopicLevelsWrongFalsely : Prop := topicLevelsRow.holds Tryd.pinned (OpenSpec.ofChange topicLevelsWrong)

/-- 'brokerlaw01.TopicJoins': WHATEVER THE INPUT: true; the input reads as it did. -/
def topicJoinsSpec : ChangeSpec := { name := "topicJoins", fn := fun _ => fun
  | [d] => { results := [.lit (.bool true)], args := [d] }
  | _ => none }
def topicJoinsRow : OpenClaim := { program := "ytpnekiledkgfiaadoor", sum := "4cc514ed16bf5655e03c5aef71b6bdd87a6176e8be2ee5ec635e7fdcd92fe32f", func := "broker/brokerlaw01.TopicJoins", spec := "topicJoins", inPlace := ["internal/bytealg.IndexByteString", "internal/bytealg.IndexString", "internal/bytealg.CountString", "internal/abi.NoEscape", "internal/bytealg.MakeNoZero"], named := ["internal/bytealg.MaxLen", "unicode/utf8.first", "unicode/utf8.acceptRanges"], apart := false, laid := [("unicode/utf8.acceptRanges", laid_unicode_utf8_acceptRanges), ("unicode/utf8.first", laid_unicode_utf8_first)] }
def TopicJoinsSaid : Prop := topicJoinsRow.holds Tryd.pinned (OpenSpec.ofChange topicJoinsSpec)

/-- ITS FALSE NEIGHBOUR: 'it returns false'. Refute it at one input. -/
def topicJoinsWrong : ChangeSpec := { name := "topicJoins", fn := fun _ => fun
  | [d] => { results := [.lit (.bool false)], args := [d] }
  | _ => none }
def TopicJoinsWrongFalsely : Prop := topicJoinsRow.holds Tryd.pinned (OpenSpec.ofChange topicJoinsWrong)

/-- 'brokerlaw01.TopicShared': WHATEVER THE INPUT: true; the input reads as it did. -/
def topicSharedSpec : ChangeSpec := { name := "topicShared", fn := fun _ => fun
  | [d1, d2, d3] => { results := [.lit (.bool true)], args := [d1, d2, d3] }
  | _ => none }
def topicSharedRow : OpenClaim := { program := "ytpnekiledkgfiaadoor", sum := "4cc514ed16bf5655e03c5aef71b6bdd87a6176e8be2ee5ec635e7fdcd92fe32f", func := "broker/brokerlaw01.TopicShared", spec := "topicShared", inPlace := ["internal/bytealg.IndexByteString", "internal/bytealg.IndexString", "internal/bytealg.CountString", "internal/abi.NoEscape", "internal/bytealg.MakeNoZero"], named := ["internal/bytealg.MaxLen", "unicode/utf8.first", "unicode/utf8.acceptRanges"], apart := false, laid := [("unicode/utf8.acceptRanges", laid_unicode_utf8_acceptRanges), ("unicode/utf8.first", laid_unicode_utf8_first)] }
def TopicSharedSaid : Prop := topicSharedRow.holds Tryd.pinned (OpenSpec.ofChange topicSharedSpec)

/-- ITS FALSE NEIGHBOUR: 'it returns false'. Refute it at one input. -/
def topicSharedWrong : ChangeSpec := { name := "topicShared", fn := fun _ => fun
  | [d1, d2, d3] => { results := [.lit (.bool false)], args := [d1, d2, d3] }
  | _ => none }
def TopicSharedWrongFalsely : Prop := topicSharedRow.holds Tryd.pinned (OpenSpec.ofChange topicSharedWrong)

/-- 'brokerlaw01.TopicPlain': WHATEVER THE INPUT: true; the input reads as it did. -/
def topicPlainSpec : ChangeSpec := { name := "topicPlain", fn := fun _ => fun
  | [d] => { results := [.lit (.bool true)], args := [d] }
  | _ => none }
def topicPlainRow : OpenClaim := { program := "ytpnekiledkgfiaadoor", sum := "4cc514ed16bf5655e03c5aef71b6bdd87a6176e8be2ee5ec635e7fdcd92fe32f", func := "broker/brokerlaw01.TopicPlain", spec := "topicPlain", inPlace := ["internal/bytealg.IndexByteString", "internal/bytealg.IndexString", "internal/bytealg.CountString", "internal/abi.NoEscape", "internal/bytealg.MakeNoZero"], named := ["internal/bytealg.MaxLen", "unicode/utf8.first", "unicode/utf8.acceptRanges"], apart := false, laid := [("unicode/utf8.acceptRanges", laid_unicode_utf8_acceptRanges), ("unicode/utf8.first", laid_unicode_utf8_first)] }
def TopicPlainSaid : Prop := topicPlainRow.holds Tryd.pinned (OpenSpec.ofChange topicPlainSpec)

/-- ITS FALSE NEIGHBOUR: 'it returns false'. Refute it at one input. -/
def topicPlainWrong : ChangeSpec := { name := "topicPlain", fn := fun _ => fun
  | [d] => { results := [.lit (.bool false)], args := [d] }
  | _ => none }
def TopicPlainWrongFalsely : Prop := topicPlainRow.holds Tryd.pinned (OpenSpec.ofChange topicPlainWrong)

/- THE SECOND FORM. 'bulk': how many values and letters a reading holds, each counted each time it is reached (what is shared counts as often as it is met; a slice's spare places count too). A statement '..UptoSaid' is the law's where the arguments, and the package variables that the reading takes, are together of bulk at most 1048576: NARROWER than '..Said'. Prove '..Said' where nothing that the law and all that it calls make is longer than what came in: it says more and counts as full. Else prove '..UptoSaid'. A law counts once. -/
mutual
def uptoBulk {H : Type} : DataW H → Nat
  | .lit (.string bytes) => bytes.length + 1
  | .lit _ => 1
  | .nil => 1
  | .ptr d => uptoBulk d + 1
  | .slice elems spare => uptoBulkAll elems + uptoBulkAll spare + 1
  | .agg parts => uptoBulkAll parts + 1
  | .iface _ d => uptoBulk d + 1
  | .map entries => uptoBulkEntries entries + 1
  | .held _ => 1
def uptoBulkAll {H : Type} : List (DataW H) → Nat
  | [] => 0
  | d :: r => uptoBulk d + uptoBulkAll r
def uptoBulkEntries {H : Type} : List (Lit × DataW H) → Nat
  | [] => 0
  | x :: r => uptoBulkEntry x + uptoBulkEntries r
def uptoBulkEntry {H : Type} : Lit × DataW H → Nat
  | (.string bytes, d) => bytes.length + uptoBulk d + 1
  | (_, d) => uptoBulk d + 1
 end
def uptoSmall : (H : Type) → List (DataW H) → Bool := fun _ ds => decide (uptoBulkAll ds ≤ 1048576)
def OpenSpec.upto (s : _root_.Go.ChangeSpec) : _root_.Go.OpenSpec := { _root_.Go.OpenSpec.ofChange s with cond := some uptoSmall }

/-- 'brokerlaw01.TopicNames', WHERE WHAT IT READS IS OF BULK AT MOST 1048576: true; the input reads as it did. -/
def topicNamesUptoRow : OpenClaim := { program := "ytpnekiledkgfiaadoor", sum := "4cc514ed16bf5655e03c5aef71b6bdd87a6176e8be2ee5ec635e7fdcd92fe32f", func := "broker/brokerlaw01.TopicNames", spec := "topicNames", inPlace := ["internal/bytealg.IndexByteString", "internal/bytealg.IndexString", "internal/bytealg.CountString", "internal/abi.NoEscape", "internal/bytealg.MakeNoZero"], named := ["internal/bytealg.MaxLen", "unicode/utf8.first", "unicode/utf8.acceptRanges"], apart := false, laid := [("unicode/utf8.acceptRanges", laid_unicode_utf8_acceptRanges), ("unicode/utf8.first", laid_unicode_utf8_first)], narrowed := true }
def TopicNamesUptoSaid : Prop := topicNamesUptoRow.holds Tryd.pinned (OpenSpec.upto topicNamesSpec)

/-- 'brokerlaw01.TopicValid', WHERE WHAT IT READS IS OF BULK AT MOST 1048576: true; the input reads as it did. -/
def topicValidUptoRow : OpenClaim := { program := "ytpnekiledkgfiaadoor", sum := "4cc514ed16bf5655e03c5aef71b6bdd87a6176e8be2ee5ec635e7fdcd92fe32f", func := "broker/brokerlaw01.TopicValid", spec := "topicValid", inPlace := ["internal/bytealg.IndexByteString", "internal/bytealg.IndexString", "internal/bytealg.CountString", "internal/abi.NoEscape", "internal/bytealg.MakeNoZero"], named := ["internal/bytealg.MaxLen", "unicode/utf8.first", "unicode/utf8.acceptRanges"], apart := false, laid := [("unicode/utf8.acceptRanges", laid_unicode_utf8_acceptRanges), ("unicode/utf8.first", laid_unicode_utf8_first)], narrowed := true }
def TopicValidUptoSaid : Prop := topicValidUptoRow.holds Tryd.pinned (OpenSpec.upto topicValidSpec)

/-- 'brokerlaw01.TopicLevels', WHERE WHAT IT READS IS OF BULK AT MOST 1048576: true; the input reads as it did. -/
def topicLevelsUptoRow : OpenClaim := { program := "ytpnekiledkgfiaadoor", sum := "4cc514ed16bf5655e03c5aef71b6bdd87a6176e8be2ee5ec635e7fdcd92fe32f", func := "broker/brokerlaw01.TopicLevels", spec := "topicLevels", inPlace := ["internal/bytealg.CountString", "internal/bytealg.IndexByteString", "internal/bytealg.IndexString", "internal/abi.NoEscape", "internal/bytealg.MakeNoZero"], named := ["unicode/utf8.first", "unicode/utf8.acceptRanges", "internal/bytealg.MaxLen"], apart := false, laid := [("unicode/utf8.acceptRanges", laid_unicode_utf8_acceptRanges), ("unicode/utf8.first", laid_unicode_utf8_first)], narrowed := true }
def TopicLevelsUptoSaid : Prop := topicLevelsUptoRow.holds Tryd.pinned (OpenSpec.upto topicLevelsSpec)

/-- 'brokerlaw01.TopicJoins', WHERE WHAT IT READS IS OF BULK AT MOST 1048576: true; the input reads as it did. -/
def topicJoinsUptoRow : OpenClaim := { program := "ytpnekiledkgfiaadoor", sum := "4cc514ed16bf5655e03c5aef71b6bdd87a6176e8be2ee5ec635e7fdcd92fe32f", func := "broker/brokerlaw01.TopicJoins", spec := "topicJoins", inPlace := ["internal/bytealg.IndexByteString", "internal/bytealg.IndexString", "internal/bytealg.CountString", "internal/abi.NoEscape", "internal/bytealg.MakeNoZero"], named := ["internal/bytealg.MaxLen", "unicode/utf8.first", "unicode/utf8.acceptRanges"], apart := false, laid := [("unicode/utf8.acceptRanges", laid_unicode_utf8_acceptRanges), ("unicode/utf8.first", laid_unicode_utf8_first)], narrowed := true }
def TopicJoinsUptoSaid : Prop := topicJoinsUptoRow.holds Tryd.pinned (OpenSpec.upto topicJoinsSpec)

/-- 'brokerlaw01.TopicShared', WHERE WHAT IT READS IS OF BULK AT MOST 1048576: true; the input reads as it did. -/
def topicSharedUptoRow : OpenClaim := { program := "ytpnekiledkgfiaadoor", sum := "4cc514ed16bf5655e03c5aef71b6bdd87a6176e8be2ee5ec635e7fdcd92fe32f", func := "broker/brokerlaw01.TopicShared", spec := "topicShared", inPlace := ["internal/bytealg.IndexByteString", "internal/bytealg.IndexString", "internal/bytealg.CountString", "internal/abi.NoEscape", "internal/bytealg.MakeNoZero"], named := ["internal/bytealg.MaxLen", "unicode/utf8.first", "unicode/utf8.acceptRanges"], apart := false, laid := [("unicode/utf8.acceptRanges", laid_unicode_utf8_acceptRanges), ("unicode/utf8.first", laid_unicode_utf8_first)], narrowed := true }
def TopicSharedUptoSaid : Prop := topicSharedUptoRow.holds Tryd.pinned (OpenSpec.upto topicSharedSpec)

/-- 'brokerlaw01.TopicPlain', WHERE WHAT IT READS IS OF BULK AT MOST 1048576: true; the input reads as it did. -/
def topicPlainUptoRow : OpenClaim := { program := "ytpnekiledkgfiaadoor", sum := "4cc514ed16bf5655e03c5aef71b6bdd87a6176e8be2ee5ec635e7fdcd92fe32f", func := "broker/brokerlaw01.TopicPlain", spec := "topicPlain", inPlace := ["internal/bytealg.IndexByteString", "internal/bytealg.IndexString", "internal/bytealg.CountString", "internal/abi.NoEscape", "internal/bytealg.MakeNoZero"], named := ["internal/bytealg.MaxLen", "unicode/utf8.first", "unicode/utf8.acceptRanges"], apart := false, laid := [("unicode/utf8.acceptRanges", laid_unicode_utf8_acceptRanges), ("unicode/utf8.first", laid_unicode_utf8_first)], narrowed := true }
def TopicPlainUptoSaid : Prop := topicPlainUptoRow.holds Tryd.pinned (OpenSpec.upto topicPlainSpec)

end Rows
end Go.Proofs.YtpnekiledkgfiaaDoor
