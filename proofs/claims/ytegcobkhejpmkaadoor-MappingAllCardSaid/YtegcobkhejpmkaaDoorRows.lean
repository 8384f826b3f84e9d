/-
  NARROWER THAN 'FOR EVERY INPUT', by the rows' own cells (each row's printed sentence says how): MappingChecks: laid · MappingApplies: laid · MappingAll: laid · MappingKeys: laid · MappingTopics: laid · MappingApart: laid · MappingSame: laid · MappingBack: laid.
  DERIVED. THE GIVEN ROWS OF THIS SEAT. 8 by the template 'for every input the law returns true; each argument reads behind the call as it read before'; 0 by the template 'total and deterministic' (their statements: YtegcobkhejpmkaaDoorTotals.lean).
  GIVEN WITH THE SEED: the statements are not yours to turn. If you find one false, say at which input.
  Laid BY PROGRAM, IN A SANDBOX (cutbox-rows.mjs): the forced cells as the released guide's own fill.sh prints them over the translation 3f351ca98c332198… (all of the seat's roots in one cut). By AI agents, Wed Nov 11 2026. No macro, syntax, notation, axiom, sorry.
-/
import Derived.Test.YtegcobkhejpmkaaDoorChecked
import GoSem.PinnedTables
import GoSem.Claim
import GoSem.ClaimJoined
import GoSem.ClaimMapViews
import Derived.JoinedTies
import Derived.KernelRfl
namespace Go.Proofs.YtegcobkhejpmkaaDoor
/- THE CELL 'sum', in the pinned program and in every row, IS THE sha256 OF THE DUMP (.gsa) THAT YtegcobkhejpmkaaDoorProg.lean LOADS. Nothing in Lean hashes anything: it is a label: what it is worth is what the hold of that sum in a sandbox is worth. -/
noncomputable def Tryd.pinned : Pinned := { name := "ytegcobkhejpmkaadoor", sum := "3f351ca98c332198bb368bea25812719ddb8b5dd1b8ca98a3d4449eef5734e82", checked := Tryd.checked }
namespace Rows
def none {H : Type} : Left H := { results := [], args := [] }

/- WHAT THE LISTED PACKAGE-LEVEL VARIABLES READ AS WHEN THE CALL BEGINS. Each datum BY PROGRAM (the guide's laid-datum.mjs) off the statement by which the dump's own 'gosem.cut.vars' lays the variable. In a bare row this is a premise. The card (YtegcobkhejpmkaaDoorCards.lean) ties it to the program's text. -/
def laid_unicode_utf8_acceptRanges {H : Type} : DataW H := .agg [.agg [.lit (.int .u8 128), .lit (.int .u8 191)], .agg [.lit (.int .u8 160), .lit (.int .u8 191)], .agg [.lit (.int .u8 128), .lit (.int .u8 159)], .agg [.lit (.int .u8 144), .lit (.int .u8 191)], .agg [.lit (.int .u8 128), .lit (.int .u8 143)], .agg [.lit (.int .u8 0), .lit (.int .u8 0)], .agg [.lit (.int .u8 0), .lit (.int .u8 0)], .agg [.lit (.int .u8 0), .lit (.int .u8 0)], .agg [.lit (.int .u8 0), .lit (.int .u8 0)], .agg [.lit (.int .u8 0), .lit (.int .u8 0)], .agg [.lit (.int .u8 0), .lit (.int .u8 0)], .agg [.lit (.int .u8 0), .lit (.int .u8 0)], .agg [.lit (.int .u8 0), .lit (.int .u8 0)], .agg [.lit (.int .u8 0), .lit (.int .u8 0)], .agg [.lit (.int .u8 0), .lit (.int .u8 0)], .agg [.lit (.int .u8 0), .lit (.int .u8 0)]]
/-- One of Go's own tables, pinned by name: the form's constant. -/
def laid_unicode_utf8_first : DataW Unit := Go.Pinned.utf8First

/-- 'brokerlaw45.MappingChecks': WHATEVER THE INPUT: true; the input reads as it did. -/
def mappingChecksSpec : ChangeSpec := { name := "mappingChecks", fn := fun _ => fun
  | [d] => { results := [.lit (.bool true)], args := [d] }
  | _ => none }
def mappingChecksRow : OpenClaim := { program := "ytegcobkhejpmkaadoor", sum := "3f351ca98c332198bb368bea25812719ddb8b5dd1b8ca98a3d4449eef5734e82", func := "broker/brokerlaw45.MappingChecks", spec := "mappingChecks", inPlace := ["internal/bytealg.CountString", "internal/bytealg.IndexByteString", "internal/bytealg.IndexString", "internal/abi.NoEscape", "internal/bytealg.MakeNoZero"], unfollowed := true, recurses := true, named := ["unicode/utf8.first", "unicode/utf8.acceptRanges", "internal/bytealg.MaxLen"], apart := false, laid := [("unicode/utf8.acceptRanges", laid_unicode_utf8_acceptRanges), ("unicode/utf8.first", laid_unicode_utf8_first)] }
def MappingChecksSaid : Prop := mappingChecksRow.holds Tryd.pinned (OpenSpec.ofChange mappingChecksSpec)

/-- ITS FALSE NEIGHBOUR: 'it returns false'. Refute it at one input. -/
def mappingChecksWrong : ChangeSpec := { name := "mappingChecks", fn := fun _ => fun
  | [d] => { results := [.lit (.bool false)], args := [d] }
  | _ => none }
def MappingChecksWrongFalsely : Prop := mappingChecksRow.holds Tryd.pinned (OpenSpec.ofChange mappingChecksWrong)

/-- 'brokerlaw45.MappingApplies': WHATEVER THE INPUT: true; the input reads as it did. -/
def mappingAppliesSpec : ChangeSpec := { name := "mappingApplies", fn := fun _ => fun
  | [d1, d2] => { results := [.lit (.bool true)], args := [d1, d2] }
  | _ => none }
def mappingAppliesRow : OpenClaim := { program := "ytegcobkhejpmkaadoor", sum := "3f351ca98c332198bb368bea25812719ddb8b5dd1b8ca98a3d4449eef5734e82", func := "broker/brokerlaw45.MappingApplies", spec := "mappingApplies", inPlace := ["internal/bytealg.CountString", "internal/bytealg.IndexByteString", "internal/bytealg.IndexString", "internal/abi.NoEscape", "internal/bytealg.MakeNoZero"], unfollowed := true, recurses := true, named := ["unicode/utf8.first", "unicode/utf8.acceptRanges", "internal/bytealg.MaxLen"], apart := false, laid := [("unicode/utf8.acceptRanges", laid_unicode_utf8_acceptRanges), ("unicode/utf8.first", laid_unicode_utf8_first)] }
def MappingAppliesSaid : Prop := mappingAppliesRow.holds Tryd.pinned (OpenSpec.ofChange mappingAppliesSpec)

/-- ITS FALSE NEIGHBOUR: 'it returns false'. Refute it at one input. -/
def mappingAppliesWrong : ChangeSpec := { name := "mappingApplies", fn := fun _ => fun
  | [d1, d2] => { results := [.lit (.bool false)], args := [d1, d2] }
  | _ => none }
def MappingAppliesWrongFalsely : Prop := mappingAppliesRow.holds Tryd.pinned (OpenSpec.ofChange mappingAppliesWrong)

/-- 'brokerlaw45.MappingAll': WHATEVER THE INPUT: true; the input reads as it did. -/
def mappingAllSpec : ChangeSpec := { name := "mappingAll", fn := fun _ => fun
  | [d1, d2] => { results := [.lit (.bool true)], args := [d1, d2] }
  | _ => none }
def mappingAllRow : OpenClaim := { program := "ytegcobkhejpmkaadoor", sum := "3f351ca98c332198bb368bea25812719ddb8b5dd1b8ca98a3d4449eef5734e82", func := "broker/brokerlaw45.MappingAll", spec := "mappingAll", inPlace := ["internal/bytealg.CountString", "internal/bytealg.IndexByteString", "internal/bytealg.IndexString", "internal/abi.NoEscape", "internal/bytealg.MakeNoZero"], unfollowed := true, recurses := true, named := ["unicode/utf8.first", "unicode/utf8.acceptRanges", "internal/bytealg.MaxLen"], apart := false, laid := [("unicode/utf8.acceptRanges", laid_unicode_utf8_acceptRanges), ("unicode/utf8.first", laid_unicode_utf8_first)] }
def MappingAllSaid : Prop := mappingAllRow.holds Tryd.pinned (OpenSpec.ofChange mappingAllSpec)

/-- ITS FALSE NEIGHBOUR: 'it returns false'. Refute it at one input. -/
def mappingAllWrong : ChangeSpec := { name := "mappingAll", fn := fun _ => fun
  | [d1, d2] => { results := [.lit (.bool false)], args := [d1, d2] }
  | _ => none }
def MappingAllWrongFalsely : Prop := mappingAllRow.holds Tryd.pinned (OpenSpec.ofChange mappingAllWrong)

/-- 'brokerlaw45.MappingKeys': WHATEVER THE INPUT: true; the input reads as it did. -/
def mappingKeysSpec : ChangeSpec := { name := "mappingKeys", fn := fun _ => fun
  | [d1, d2] => { results := [.lit (.bool true)], args := [d1, d2] }
  | _ => none }
def mappingKeysRow : OpenClaim := { program := "ytegcobkhejpmkaadoor", sum := "3f351ca98c332198bb368bea25812719ddb8b5dd1b8ca98a3d4449eef5734e82", func := "broker/brokerlaw45.MappingKeys", spec := "mappingKeys", inPlace := ["internal/bytealg.CountString", "internal/bytealg.IndexByteString", "internal/bytealg.IndexString", "internal/abi.NoEscape", "internal/bytealg.MakeNoZero"], unfollowed := true, recurses := true, named := ["unicode/utf8.first", "unicode/utf8.acceptRanges", "internal/bytealg.MaxLen"], apart := false, laid := [("unicode/utf8.acceptRanges", laid_unicode_utf8_acceptRanges), ("unicode/utf8.first", laid_unicode_utf8_first)] }
def MappingKeysSaid : Prop := mappingKeysRow.holds Tryd.pinned (OpenSpec.ofChange mappingKeysSpec)

/-- ITS FALSE NEIGHBOUR: 'it returns false'. Refute it at one input. -/
def mappingKeysWrong : ChangeSpec := { name := "mappingKeys", fn := fun _ => fun
  | [d1, d2] => { results := [.lit (.bool false)], args := [d1, d2] }
  | _ => none }
def MappingKeysWrongFalsely : Prop := mappingKeysRow.holds Tryd.pinned (OpenSpec.ofChange mappingKeysWrong)

/-- 'brokerlaw45.MappingTopics': WHATEVER THE INPUT: true; the input reads as it did. -/
def mappingTopicsSpec : ChangeSpec := { name := "mappingTopics", fn := fun _ => fun
  | [d] => { results := [.lit (.bool true)], args := [d] }
  | _ => none }
def mappingTopicsRow : OpenClaim := { program := "ytegcobkhejpmkaadoor", sum := "3f351ca98c332198bb368bea25812719ddb8b5dd1b8ca98a3d4449eef5734e82", func := "broker/brokerlaw45.MappingTopics", spec := "mappingTopics", inPlace := ["internal/bytealg.CountString", "internal/bytealg.IndexByteString", "internal/bytealg.IndexString", "internal/abi.NoEscape", "internal/bytealg.MakeNoZero"], unfollowed := true, recurses := true, named := ["unicode/utf8.first", "unicode/utf8.acceptRanges", "internal/bytealg.MaxLen"], apart := false, laid := [("unicode/utf8.acceptRanges", laid_unicode_utf8_acceptRanges), ("unicode/utf8.first", laid_unicode_utf8_first)] }
def MappingTopicsSaid : Prop := mappingTopicsRow.holds Tryd.pinned (OpenSpec.ofChange mappingTopicsSpec)

/-- ITS FALSE NEIGHBOUR: 'it returns false'. Refute it at one input. -/
def mappingTopicsWrong : ChangeSpec := { name := "mappingTopics", fn := fun _ => fun
  | [d] => { results := [.lit (.bool false)], args := [d] }
  | _ => none }
def MappingTopicsWrongFalsely : Prop := mappingTopicsRow.holds Tryd.pinned (OpenSpec.ofChange mappingTopicsWrong)

/-- 'brokerlaw45.MappingApart': WHATEVER THE INPUT: true; the input reads as it did. -/
def mappingApartSpec : ChangeSpec := { name := "mappingApart", fn := fun _ => fun
  | [d1, d2] => { results := [.lit (.bool true)], args := [d1, d2] }
  | _ => none }
def mappingApartRow : OpenClaim := { program := "ytegcobkhejpmkaadoor", sum := "3f351ca98c332198bb368bea25812719ddb8b5dd1b8ca98a3d4449eef5734e82", func := "broker/brokerlaw45.MappingApart", spec := "mappingApart", inPlace := ["internal/bytealg.CountString", "internal/bytealg.IndexByteString", "internal/bytealg.IndexString", "internal/abi.NoEscape", "internal/bytealg.MakeNoZero"], unfollowed := true, recurses := true, named := ["unicode/utf8.first", "unicode/utf8.acceptRanges", "internal/bytealg.MaxLen"], apart := false, laid := [("unicode/utf8.acceptRanges", laid_unicode_utf8_acceptRanges), ("unicode/utf8.first", laid_unicode_utf8_first)] }
def MappingApartSaid : Prop := mappingApartRow.holds Tryd.pinned (OpenSpec.ofChange mappingApartSpec)

/-- ITS FALSE NEIGHBOUR: 'it returns false'. Refute it at one input. -/
def mappingApartWrong : ChangeSpec := { name := "mappingApart", fn := fun _ => fun
  | [d1, d2] => { results := [.lit (.bool false)], args := [d1, d2] }
  | _ => none }
def MappingApartWrongFalsely : Prop := mappingApartRow.holds Tryd.pinned (OpenSpec.ofChange mappingApartWrong)

/-- 'brokerlaw45.MappingSame': WHATEVER THE INPUT: true; the input reads as it did. -/
def mappingSameSpec : ChangeSpec := { name := "mappingSame", fn := fun _ => fun
  | [d1, d2] => { results := [.lit (.bool true)], args := [d1, d2] }
  | _ => none }
def mappingSameRow : OpenClaim := { program := "ytegcobkhejpmkaadoor", sum := "3f351ca98c332198bb368bea25812719ddb8b5dd1b8ca98a3d4449eef5734e82", func := "broker/brokerlaw45.MappingSame", spec := "mappingSame", inPlace := ["internal/bytealg.CountString", "internal/bytealg.IndexByteString", "internal/bytealg.IndexString", "internal/abi.NoEscape", "internal/bytealg.MakeNoZero"], unfollowed := true, recurses := true, named := ["unicode/utf8.first", "unicode/utf8.acceptRanges", "internal/bytealg.MaxLen"], apart := false, laid := [("unicode/utf8.acceptRanges", laid_unicode_utf8_acceptRanges), ("unicode/utf8.first", laid_unicode_utf8_first)] }
def MappingSameSaid : Prop := mappingSameRow.holds Tryd.pinned (OpenSpec.ofChange mappingSameSpec)

/-- ITS FALSE NEIGHBOUR: 'it returns false'. Refute it at one input. -/
def mappingSameWrong : ChangeSpec := { name := "mappingSame", fn := fun _ => fun
  | [d1, d2] => { results := [.lit (.bool false)], args := [d1, d2] }
  | _ => none }
def MappingSameWrongFalsely : Prop := mappingSameRow.holds Tryd.pinned (OpenSpec.ofChange mappingSameWrong)

/-- 'brokerlaw45.MappingBack': WHATEVER THE INPUT: true; the input reads as it did. -/
def mappingBackSpec : ChangeSpec := { name := "mappingBack", fn := fun _ => fun
  | [d1, d2, d3] => { results := [.lit (.bool true)], args := [d1, d2, d3] }
  | _ => none }
def mappingBackRow : OpenClaim := { program := "ytegcobkhejpmkaadoor", sum := "3f351ca98c332198bb368bea25812719ddb8b5dd1b8ca98a3d4449eef5734e82", func := "broker/brokerlaw45.MappingBack", spec := "mappingBack", inPlace := ["internal/bytealg.CountString", "internal/bytealg.IndexByteString", "internal/bytealg.IndexString", "internal/abi.NoEscape", "internal/bytealg.MakeNoZero"], unfollowed := true, recurses := true, named := ["unicode/utf8.first", "unicode/utf8.acceptRanges", "internal/bytealg.MaxLen"], apart := false, laid := [("unicode/utf8.acceptRanges", laid_unicode_utf8_acceptRanges), ("unicode/utf8.first", laid_unicode_utf8_first)] }
def MappingBackSaid : Prop := mappingBackRow.holds Tryd.pinned (OpenSpec.ofChange mappingBackSpec)

/-- ITS FALSE NEIGHBOUR: 'it returns false'. Refute it at one input. -/
def mappingBackWrong : ChangeSpec := { name := "mappingBack", fn := fun _ => fun
  | [d1, d2, d3] => { results := [.lit (.bool false)], args := [d1, d2, d3] }
  | _ => none }
def MappingBackWrongFalsely : Prop := mappingBackRow.holds Tryd.pinned (OpenSpec.ofChange mappingBackWrong)

/- THE SECOND FORM. 'bulk': how many values and letters a reading holds, each counted each time it is reached (what is shared counts as often as it is met; a slice's spare places count too). A statement '..UptoSaid' is the law's where the arguments, and the package variables that the reading takes, are together of bulk at most 1048576: NARROWER than '..Said'. Prove '..Said' where nothing that the law and all that it calls make is longer than what came in: it says more and counts as full. Else prove '..UptoSaid'. A law counts once. -/
mutual
def uptoBulk {H : Type} : DataW H → Nat
  | .lit (.string bytes) => bytes.length + 1
  | .lit _ => 1
  | .nil => 1
  | .ptr d => uptoBulk d + 1
  | .slice elems spare => uptoBulkAll elems + uptoBulkAll spare + 1
  | .agg parts => uptoBulkAll parts + 1
  | .iface _ d => uptoBulk d + 1
  | .map entries => uptoBulkEntries entries + 1
  | .held _ => 1
def uptoBulkAll {H : Type} : List (DataW H) → Nat
  | [] => 0
  | d :: r => uptoBulk d + uptoBulkAll r
def uptoBulkEntries {H : Type} : List (Lit × DataW H) → Nat
  | [] => 0
  | x :: r => uptoBulkEntry x + uptoBulkEntries r
def uptoBulkEntry {H : Type} : Lit × DataW H → Nat
  | (.string bytes, d) => bytes.length + uptoBulk d + 1
  | (_, d) => uptoBulk d + 1
 end
def uptoSmall : (H : Type) → List (DataW H) → Bool := fun _ ds => decide (uptoBulkAll ds ≤ 1048576)
def OpenSpec.upto (s : _root_.Go.ChangeSpec) : _root_.Go.OpenSpec := { _root_.Go.OpenSpec.ofChange s with cond := some uptoSmall }

/-- 'brokerlaw45.MappingChecks', WHERE WHAT IT READS IS OF BULK AT MOST 1048576: true; the input reads as it did. -/
def mappingChecksUptoRow : OpenClaim := { program := "ytegcobkhejpmkaadoor", sum := "3f351ca98c332198bb368bea25812719ddb8b5dd1b8ca98a3d4449eef5734e82", func := "broker/brokerlaw45.MappingChecks", spec := "mappingChecks", inPlace := ["internal/bytealg.CountString", "internal/bytealg.IndexByteString", "internal/bytealg.IndexString", "internal/abi.NoEscape", "internal/bytealg.MakeNoZero"], unfollowed := true, recurses := true, named := ["unicode/utf8.first", "unicode/utf8.acceptRanges", "internal/bytealg.MaxLen"], apart := false, laid := [("unicode/utf8.acceptRanges", laid_unicode_utf8_acceptRanges), ("unicode/utf8.first", laid_unicode_utf8_first)], narrowed := true }
def MappingChecksUptoSaid : Prop := mappingChecksUptoRow.holds Tryd.pinned (OpenSpec.upto mappingChecksSpec)

/-- 'brokerlaw45.MappingApplies', WHERE WHAT IT READS IS OF BULK AT MOST 1048576: true; the input reads as it did. -/
def mappingAppliesUptoRow : OpenClaim := { program := "ytegcobkhejpmkaadoor", sum := "3f351ca98c332198bb368bea25812719ddb8b5dd1b8ca98a3d4449eef5734e82", func := "broker/brokerlaw45.MappingApplies", spec := "mappingApplies", inPlace := ["internal/bytealg.CountString", "internal/bytealg.IndexByteString", "internal/bytealg.IndexString", "internal/abi.NoEscape", "internal/bytealg.MakeNoZero"], unfollowed := true, recurses := true, named := ["unicode/utf8.first", "unicode/utf8.acceptRanges", "internal/bytealg.MaxLen"], apart := false, laid := [("unicode/utf8.acceptRanges", laid_unicode_utf8_acceptRanges), ("unicode/utf8.first", laid_unicode_utf8_first)], narrowed := true }
def MappingAppliesUptoSaid : Prop := mappingAppliesUptoRow.holds Tryd.pinned (OpenSpec.upto mappingAppliesSpec)

/-- 'brokerlaw45.MappingAll', WHERE WHAT IT READS IS OF BULK AT MOST 1048576: true; the input reads as it did. -/
def mappingAllUptoRow : OpenClaim := { program := "ytegcobkhejpmkaadoor", sum := "3f351ca98c332198bb368bea25812719ddb8b5dd1b8ca98a3d4449eef5734e82", func := "broker/brokerlaw45.MappingAll", spec := "mappingAll", inPlace := ["internal/bytealg.CountString", "internal/bytealg.IndexByteString", "internal/bytealg.IndexString", "internal/abi.NoEscape", "internal/bytealg.MakeNoZero"], unfollowed := true, recurses := true, named := ["unicode/utf8.first", "unicode/utf8.acceptRanges", "internal/bytealg.MaxLen"], apart := false, laid := [("unicode/utf8.acceptRanges", laid_unicode_utf8_acceptRanges), ("unicode/utf8.first", laid_unicode_utf8_first)], narrowed := true }
def MappingAllUptoSaid : Prop := mappingAllUptoRow.holds Tryd.pinned (OpenSpec.upto mappingAllSpec)

/-- 'brokerlaw45.MappingKeys', WHERE WHAT IT READS IS OF BULK AT MOST 1048576: true; the input reads as it did. -/
def mappingKeysUptoRow : OpenClaim := { program := "ytegcobkhejpmkaadoor", sum := "3f351ca98c332198bb368bea25812719ddb8b5dd1b8ca98a3d4449eef5734e82", func := "broker/brokerlaw45.MappingKeys", spec := "mappingKeys", inPlace := ["internal/bytealg.CountString", "internal/bytealg.IndexByteString", "internal/bytealg.IndexString", "internal/abi.NoEscape", "internal/bytealg.MakeNoZero"], unfollowed := true, recurses := true, named := ["unicode/utf8.first", "unicode/utf8.acceptRanges", "internal/bytealg.MaxLen"], apart := false, laid := [("unicode/utf8.acceptRanges", laid_unicode_utf8_acceptRanges), ("unicode/utf8.first", laid_unicode_utf8_first)], narrowed := true }
def MappingKeysUptoSaid : Prop := mappingKeysUptoRow.holds Tryd.pinned (OpenSpec.upto mappingKeysSpec)

/-- 'brokerlaw45.MappingTopics', WHERE WHAT IT READS IS OF BULK AT MOST 1048576: true; the input reads as it did. -/
def mappingTopicsUptoRow : OpenClaim := { program := "ytegcobkhejpmkaadoor", sum := "3f351ca98c332198bb368bea25812719ddb8b5dd1b8ca98a3d4449eef5734e82", func := "broker/brokerlaw45.MappingTopics", spec := "mappingTopics", inPlace := ["internal/bytealg.CountString", "internal/bytealg.IndexByteString", "internal/bytealg.IndexString", "internal/abi.NoEscape", "internal/bytealg.MakeNoZero"], unfollowed := true, recurses := true, named := ["unicode/utf8.first", "unicode/utf8.acceptRanges", "internal/bytealg.MaxLen"], apart := false, laid := [("unicode/utf8.acceptRanges", laid_unicode_utf8_acceptRanges), ("unicode/utf8.first", laid_unicode_utf8_first)], narrowed := true }
def MappingTopicsUptoSaid : Prop := mappingTopicsUptoRow.holds Tryd.pinned (OpenSpec.upto mappingTopicsSpec)

/-- 'brokerlaw45.MappingApart', WHERE WHAT IT READS IS OF BULK AT MOST 1048576: true; the input reads as it did. -/
def mappingApartUptoRow : OpenClaim := { program := "ytegcobkhejpmkaadoor", sum := "3f351ca98c332198bb368bea25812719ddb8b5dd1b8ca98a3d4449eef5734e82", func := "broker/brokerlaw45.MappingApart", spec := "mappingApart", inPlace := ["internal/bytealg.CountString", "internal/bytealg.IndexByteString", "internal/bytealg.IndexString", "internal/abi.NoEscape", "internal/bytealg.MakeNoZero"], unfollowed := true, recurses := true, named := ["unicode/utf8.first", "unicode/utf8.acceptRanges", "internal/bytealg.MaxLen"], apart := false, laid := [("unicode/utf8.acceptRanges", laid_unicode_utf8_acceptRanges), ("unicode/utf8.first", laid_unicode_utf8_first)], narrowed := true }
def MappingApartUptoSaid : Prop := mappingApartUptoRow.holds Tryd.pinned (OpenSpec.upto mappingApartSpec)

/-- 'brokerlaw45.MappingSame', WHERE WHAT IT READS IS OF BULK AT MOST 1048576: true; the input reads as it did. -/
def mappingSameUptoRow : OpenClaim := { program := "ytegcobkhejpmkaadoor", sum := "3f351ca98c332198bb368bea25812719ddb8b5dd1b8ca98a3d4449eef5734e82", func := "broker/brokerlaw45.MappingSame", spec := "mappingSame", inPlace := ["internal/bytealg.CountString", "internal/bytealg.IndexByteString", "internal/bytealg.IndexString", "internal/abi.NoEscape", "internal/bytealg.MakeNoZero"], unfollowed := true, recurses := true, named := ["unicode/utf8.first", "unicode/utf8.acceptRanges", "internal/bytealg.MaxLen"], apart := false, laid := [("unicode/utf8.acceptRanges", laid_unicode_utf8_acceptRanges), ("unicode/utf8.first", laid_unicode_utf8_first)], narrowed := true }
def MappingSameUptoSaid : Prop := mappingSameUptoRow.holds Tryd.pinned (OpenSpec.upto mappingSameSpec)

/-- 'brokerlaw45.MappingBack', WHERE WHAT IT READS IS OF BULK AT MOST 1048576: true; the input reads as it did. -/
def mappingBackUptoRow : OpenClaim := { program := "ytegcobkhejpmkaadoor", sum := "3f351ca98c332198bb368bea25812719ddb8b5dd1b8ca98a3d4449eef5734e82", func := "broker/brokerlaw45.MappingBack", spec := "mappingBack", inPlace := ["internal/bytealg.CountString", "internal/bytealg.IndexByteString", "internal/bytealg.IndexString", "internal/abi.NoEscape", "internal/bytealg.MakeNoZero"], unfollowed := true, recurses := true, named := ["unicode/utf8.first", "unicode/utf8.acceptRanges", "internal/bytealg.MaxLen"], apart := false, laid := [("unicode/utf8.acceptRanges", laid_unicode_utf8_acceptRanges), ("unicode/utf8.first", laid_unicode_utf8_first)], narrowed := true }
def MappingBackUptoSaid : Prop := mappingBackUptoRow.holds Tryd.pinned (OpenSpec.upto mappingBackSpec)

end Rows
end Go.Proofs.YtegcobkhejpmkaaDoor
