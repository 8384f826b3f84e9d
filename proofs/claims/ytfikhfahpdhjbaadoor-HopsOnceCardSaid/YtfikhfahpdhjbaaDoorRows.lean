/-
  NARROWER THAN 'FOR EVERY INPUT', by the rows' own cells (each row's printed sentence says how): HopsPaths: laid · HopsEnters: laid · HopsStrips: laid · HopsOnce: laid · HopsFloods: laid · HopsReach: laid.
  DERIVED. THE GIVEN ROWS OF THIS SEAT. 6 by the template 'for every input the law returns true; each argument reads behind the call as it read before'; 0 by the template 'total and deterministic' (their statements: YtfikhfahpdhjbaaDoorTotals.lean).
  GIVEN WITH THE SEED: the statements are not yours to turn. If you find one false, say at which input.
  Laid BY PROGRAM, IN A SANDBOX (cutbox-rows.mjs): the forced cells as the released guide's own fill.sh prints them over the translation a017670626adcb3e… (all of the seat's roots in one cut). By AI agents, Wed Nov 11 2026. No macro, syntax, notation, axiom, sorry.
-/
import Derived.Test.YtfikhfahpdhjbaaDoorChecked
import GoSem.PinnedTables
import GoSem.Claim
import GoSem.ClaimJoined
import GoSem.ClaimMapViews
import Derived.JoinedTies
import Derived.KernelRfl
namespace Go.Proofs.YtfikhfahpdhjbaaDoor
/- THE CELL 'sum', in the pinned program and in every row, IS THE sha256 OF THE DUMP (.gsa) THAT YtfikhfahpdhjbaaDoorProg.lean LOADS. Nothing in Lean hashes anything: it is a label: what it is worth is what the hold of that sum in a sandbox is worth. -/
noncomputable def Tryd.pinned : Pinned := { name := "ytfikhfahpdhjbaadoor", sum := "a017670626adcb3e684291059982ba21ef5f2cc206adefe9cf9b94cb17811c5b", checked := Tryd.checked }
namespace Rows
def none {H : Type} : Left H := { results := [], args := [] }

/- WHAT THE LISTED PACKAGE-LEVEL VARIABLES READ AS WHEN THE CALL BEGINS. Each datum BY PROGRAM (the guide's laid-datum.mjs) off the statement by which the dump's own 'gosem.cut.vars' lays the variable. In a bare row this is a premise. The card (YtfikhfahpdhjbaaDoorCards.lean) ties it to the program's text. -/
def laid_unicode_utf8_acceptRanges {H : Type} : DataW H := .agg [.agg [.lit (.int .u8 128), .lit (.int .u8 191)], .agg [.lit (.int .u8 160), .lit (.int .u8 191)], .agg [.lit (.int .u8 128), .lit (.int .u8 159)], .agg [.lit (.int .u8 144), .lit (.int .u8 191)], .agg [.lit (.int .u8 128), .lit (.int .u8 143)], .agg [.lit (.int .u8 0), .lit (.int .u8 0)], .agg [.lit (.int .u8 0), .lit (.int .u8 0)], .agg [.lit (.int .u8 0), .lit (.int .u8 0)], .agg [.lit (.int .u8 0), .lit (.int .u8 0)], .agg [.lit (.int .u8 0), .lit (.int .u8 0)], .agg [.lit (.int .u8 0), .lit (.int .u8 0)], .agg [.lit (.int .u8 0), .lit (.int .u8 0)], .agg [.lit (.int .u8 0), .lit (.int .u8 0)], .agg [.lit (.int .u8 0), .lit (.int .u8 0)], .agg [.lit (.int .u8 0), .lit (.int .u8 0)], .agg [.lit (.int .u8 0), .lit (.int .u8 0)]]
/-- One of Go's own tables, pinned by name: the form's constant. -/
def laid_unicode_utf8_first : DataW Unit := Go.Pinned.utf8First

/-- 'brokerlaw46.HopsPaths': WHATEVER THE INPUT: true; the input reads as it did. -/
def hopsPathsSpec : ChangeSpec := { name := "hopsPaths", fn := fun _ => fun
  | [d1, d2] => { results := [.lit (.bool true)], args := [d1, d2] }
  | _ => none }
def hopsPathsRow : OpenClaim := { program := "ytfikhfahpdhjbaadoor", sum := "a017670626adcb3e684291059982ba21ef5f2cc206adefe9cf9b94cb17811c5b", func := "broker/brokerlaw46.HopsPaths", spec := "hopsPaths", inPlace := ["internal/bytealg.CountString", "internal/bytealg.IndexByteString", "internal/bytealg.IndexString", "internal/abi.NoEscape", "internal/bytealg.MakeNoZero"], unfollowed := true, recurses := true, named := ["unicode/utf8.first", "unicode/utf8.acceptRanges", "internal/bytealg.MaxLen"], apart := false, laid := [("unicode/utf8.acceptRanges", laid_unicode_utf8_acceptRanges), ("unicode/utf8.first", laid_unicode_utf8_first)] }
def HopsPathsSaid : Prop := hopsPathsRow.holds Tryd.pinned (OpenSpec.ofChange hopsPathsSpec)

/-- ITS FALSE NEIGHBOUR: 'it returns false'. Refute it at one input. -/
def hopsPathsWrong : ChangeSpec := { name := "hopsPaths", fn := fun _ => fun
  | [d1, d2] => { results := [.lit (.bool false)], args := [d1, d2] }
  | _ => none }
def HopsPathsWrongFalsely : Prop := hopsPathsRow.holds Tryd.pinned (OpenSpec.ofChange hopsPathsWrong)

/-- 'brokerlaw46.HopsEnters': WHATEVER THE INPUT: true; the input reads as it did. -/
def hopsEntersSpec : ChangeSpec := { name := "hopsEnters", fn := fun _ => fun
  | [d1, d2] => { results := [.lit (.bool true)], args := [d1, d2] }
  | _ => none }
def hopsEntersRow : OpenClaim := { program := "ytfikhfahpdhjbaadoor", sum := "a017670626adcb3e684291059982ba21ef5f2cc206adefe9cf9b94cb17811c5b", func := "broker/brokerlaw46.HopsEnters", spec := "hopsEnters", inPlace := ["internal/bytealg.CountString", "internal/bytealg.IndexByteString", "internal/bytealg.IndexString", "internal/abi.NoEscape", "internal/bytealg.MakeNoZero"], unfollowed := true, recurses := true, named := ["unicode/utf8.first", "unicode/utf8.acceptRanges", "internal/bytealg.MaxLen"], apart := false, laid := [("unicode/utf8.acceptRanges", laid_unicode_utf8_acceptRanges), ("unicode/utf8.first", laid_unicode_utf8_first)] }
def HopsEntersSaid : Prop := hopsEntersRow.holds Tryd.pinned (OpenSpec.ofChange hopsEntersSpec)

/-- ITS FALSE NEIGHBOUR: 'it returns false'. Refute it at one input. -/
def hopsEntersWrong : ChangeSpec := { name := "hopsEnters", fn := fun _ => fun
  | [d1, d2] => { results := [.lit (.bool false)], args := [d1, d2] }
  | _ => none }
def HopsEntersWrongFalsely : Prop := hopsEntersRow.holds Tryd.pinned (OpenSpec.ofChange hopsEntersWrong)

/-- 'brokerlaw46.HopsStrips': WHATEVER THE INPUT: true; the input reads as it did. -/
def hopsStripsSpec : ChangeSpec := { name := "hopsStrips", fn := fun _ => fun
  | [d1, d2] => { results := [.lit (.bool true)], args := [d1, d2] }
  | _ => none }
def hopsStripsRow : OpenClaim := { program := "ytfikhfahpdhjbaadoor", sum := "a017670626adcb3e684291059982ba21ef5f2cc206adefe9cf9b94cb17811c5b", func := "broker/brokerlaw46.HopsStrips", spec := "hopsStrips", inPlace := ["internal/bytealg.CountString", "internal/bytealg.IndexByteString", "internal/bytealg.IndexString", "internal/abi.NoEscape", "internal/bytealg.MakeNoZero"], unfollowed := true, recurses := true, named := ["unicode/utf8.first", "unicode/utf8.acceptRanges", "internal/bytealg.MaxLen"], apart := false, laid := [("unicode/utf8.acceptRanges", laid_unicode_utf8_acceptRanges), ("unicode/utf8.first", laid_unicode_utf8_first)] }
def HopsStripsSaid : Prop := hopsStripsRow.holds Tryd.pinned (OpenSpec.ofChange hopsStripsSpec)

/-- ITS FALSE NEIGHBOUR: 'it returns false'. Refute it at one input. -/
def hopsStripsWrong : ChangeSpec := { name := "hopsStrips", fn := fun _ => fun
  | [d1, d2] => { results := [.lit (.bool false)], args := [d1, d2] }
  | _ => none }
def HopsStripsWrongFalsely : Prop := hopsStripsRow.holds Tryd.pinned (OpenSpec.ofChange hopsStripsWrong)

/-- 'brokerlaw46.HopsOnce': WHATEVER THE INPUT: true; the input reads as it did. -/
def hopsOnceSpec : ChangeSpec := { name := "hopsOnce", fn := fun _ => fun
  | [d] => { results := [.lit (.bool true)], args := [d] }
  | _ => none }
def hopsOnceRow : OpenClaim := { program := "ytfikhfahpdhjbaadoor", sum := "a017670626adcb3e684291059982ba21ef5f2cc206adefe9cf9b94cb17811c5b", func := "broker/brokerlaw46.HopsOnce", spec := "hopsOnce", inPlace := ["internal/bytealg.CountString", "internal/bytealg.IndexByteString", "internal/bytealg.IndexString", "internal/abi.NoEscape", "internal/bytealg.MakeNoZero"], unfollowed := true, recurses := true, named := ["unicode/utf8.first", "unicode/utf8.acceptRanges", "internal/bytealg.MaxLen"], apart := false, laid := [("unicode/utf8.acceptRanges", laid_unicode_utf8_acceptRanges), ("unicode/utf8.first", laid_unicode_utf8_first)] }
def HopsOnceSaid : Prop := hopsOnceRow.holds Tryd.pinned (OpenSpec.ofChange hopsOnceSpec)

/-- ITS FALSE NEIGHBOUR: 'it returns false'. Refute it at one input. -/
def hopsOnceWrong : ChangeSpec := { name := "hopsOnce", fn := fun _ => fun
  | [d] => { results := [.lit (.bool false)], args := [d] }
  | _ => none }
def HopsOnceWrongFalsely : Prop := hopsOnceRow.holds Tryd.pinned (OpenSpec.ofChange hopsOnceWrong)

/-- 'brokerlaw46.HopsFloods': WHATEVER THE INPUT: true; the input reads as it did. -/
def hopsFloodsSpec : ChangeSpec := { name := "hopsFloods", fn := fun _ => fun
  | [d1, d2, d3] => { results := [.lit (.bool true)], args := [d1, d2, d3] }
  | _ => none }
def hopsFloodsRow : OpenClaim := { program := "ytfikhfahpdhjbaadoor", sum := "a017670626adcb3e684291059982ba21ef5f2cc206adefe9cf9b94cb17811c5b", func := "broker/brokerlaw46.HopsFloods", spec := "hopsFloods", inPlace := ["internal/bytealg.CountString", "internal/bytealg.IndexByteString", "internal/bytealg.IndexString", "internal/abi.NoEscape", "internal/bytealg.MakeNoZero"], unfollowed := true, recurses := true, named := ["unicode/utf8.first", "unicode/utf8.acceptRanges", "internal/bytealg.MaxLen"], apart := false, laid := [("unicode/utf8.acceptRanges", laid_unicode_utf8_acceptRanges), ("unicode/utf8.first", laid_unicode_utf8_first)] }
def HopsFloodsSaid : Prop := hopsFloodsRow.holds Tryd.pinned (OpenSpec.ofChange hopsFloodsSpec)

/-- ITS FALSE NEIGHBOUR: 'it returns false'. Refute it at one input. -/
def hopsFloodsWrong : ChangeSpec := { name := "hopsFloods", fn := fun _ => fun
  | [d1, d2, d3] => { results := [.lit (.bool false)], args := [d1, d2, d3] }
  | _ => none }
def HopsFloodsWrongFalsely : Prop := hopsFloodsRow.holds Tryd.pinned (OpenSpec.ofChange hopsFloodsWrong)

/-- 'brokerlaw46.HopsReach': WHATEVER THE INPUT: true; the input reads as it did. -/
def hopsReachSpec : ChangeSpec := { name := "hopsReach", fn := fun _ => fun
  | [d1, d2, d3] => { results := [.lit (.bool true)], args := [d1, d2, d3] }
  | _ => none }
def hopsReachRow : OpenClaim := { program := "ytfikhfahpdhjbaadoor", sum := "a017670626adcb3e684291059982ba21ef5f2cc206adefe9cf9b94cb17811c5b", func := "broker/brokerlaw46.HopsReach", spec := "hopsReach", inPlace := ["internal/bytealg.CountString", "internal/bytealg.IndexByteString", "internal/bytealg.IndexString", "internal/abi.NoEscape", "internal/bytealg.MakeNoZero"], unfollowed := true, recurses := true, named := ["unicode/utf8.first", "unicode/utf8.acceptRanges", "internal/bytealg.MaxLen"], apart := false, laid := [("unicode/utf8.acceptRanges", laid_unicode_utf8_acceptRanges), ("unicode/utf8.first", laid_unicode_utf8_first)] }
def HopsReachSaid : Prop := hopsReachRow.holds Tryd.pinned (OpenSpec.ofChange hopsReachSpec)

/-- ITS FALSE NEIGHBOUR: 'it returns false'. Refute it at one input. -/
def hopsReachWrong : ChangeSpec := { name := "hopsReach", fn := fun _ => fun
  | [d1, d2, d3] => { results := [.lit (.bool false)], args := [d1, d2, d3] }
  | _ => none }
def HopsReachWrongFalsely : Prop := hopsReachRow.holds Tryd.pinned (OpenSpec.ofChange hopsReachWrong)

/- THE SECOND FORM. 'bulk': how many values and letters a reading holds, each counted each time it is reached (what is shared counts as often as it is met; a slice's spare places count too). A statement '..UptoSaid' is the law's where the arguments, and the package variables that the reading takes, are together of bulk at most 1048576: NARROWER than '..Said'. Prove '..Said' where nothing that the law and all that it calls make is longer than what came in: it says more and counts as full. Else prove '..UptoSaid'. A law counts once. -/
mutual
def uptoBulk {H : Type} : DataW H → Nat
  | .lit (.string bytes) => bytes.length + 1
  | .lit _ => 1
  | .nil => 1
  | .ptr d => uptoBulk d + 1
  | .slice elems spare => uptoBulkAll elems + uptoBulkAll spare + 1
  | .agg parts => uptoBulkAll parts + 1
  | .iface _ d => uptoBulk d + 1
  | .map entries => uptoBulkEntries entries + 1
  | .held _ => 1
def uptoBulkAll {H : Type} : List (DataW H) → Nat
  | [] => 0
  | d :: r => uptoBulk d + uptoBulkAll r
def uptoBulkEntries {H : Type} : List (Lit × DataW H) → Nat
  | [] => 0
  | x :: r => uptoBulkEntry x + uptoBulkEntries r
def uptoBulkEntry {H : Type} : Lit × DataW H → Nat
  | (.string bytes, d) => bytes.length + uptoBulk d + 1
  | (_, d) => uptoBulk d + 1
 end
def uptoSmall : (H : Type) → List (DataW H) → Bool := fun _ ds => decide (uptoBulkAll ds ≤ 1048576)
def OpenSpec.upto (s : _root_.Go.ChangeSpec) : _root_.Go.OpenSpec := { _root_.Go.OpenSpec.ofChange s with cond := some uptoSmall }

/-- 'brokerlaw46.HopsPaths', WHERE WHAT IT READS IS OF BULK AT MOST 1048576: true; the input reads as it did. -/
def hopsPathsUptoRow : OpenClaim := { program := "ytfikhfahpdhjbaadoor", sum := "a017670626adcb3e684291059982ba21ef5f2cc206adefe9cf9b94cb17811c5b", func := "broker/brokerlaw46.HopsPaths", spec := "hopsPaths", inPlace := ["internal/bytealg.CountString", "internal/bytealg.IndexByteString", "internal/bytealg.IndexString", "internal/abi.NoEscape", "internal/bytealg.MakeNoZero"], unfollowed := true, recurses := true, named := ["unicode/utf8.first", "unicode/utf8.acceptRanges", "internal/bytealg.MaxLen"], apart := false, laid := [("unicode/utf8.acceptRanges", laid_unicode_utf8_acceptRanges), ("unicode/utf8.first", laid_unicode_utf8_first)], narrowed := true }
def HopsPathsUptoSaid : Prop := hopsPathsUptoRow.holds Tryd.pinned (OpenSpec.upto hopsPathsSpec)

/-- 'brokerlaw46.HopsEnters', WHERE WHAT IT READS IS OF BULK AT MOST 1048576: true; the input reads as it did. -/
def hopsEntersUptoRow : OpenClaim := { program := "ytfikhfahpdhjbaadoor", sum := "a017670626adcb3e684291059982ba21ef5f2cc206adefe9cf9b94cb17811c5b", func := "broker/brokerlaw46.HopsEnters", spec := "hopsEnters", inPlace := ["internal/bytealg.CountString", "internal/bytealg.IndexByteString", "internal/bytealg.IndexString", "internal/abi.NoEscape", "internal/bytealg.MakeNoZero"], unfollowed := true, recurses := true, named := ["unicode/utf8.first", "unicode/utf8.acceptRanges", "internal/bytealg.MaxLen"], apart := false, laid := [("unicode/utf8.acceptRanges", laid_unicode_utf8_acceptRanges), ("unicode/utf8.first", laid_unicode_utf8_first)], narrowed := true }
def HopsEntersUptoSaid : Prop := hopsEntersUptoRow.holds Tryd.pinned (OpenSpec.upto hopsEntersSpec)

/-- 'brokerlaw46.HopsStrips', WHERE WHAT IT READS IS OF BULK AT MOST 1048576: true; the input reads as it did. -/
def hopsStripsUptoRow : OpenClaim := { program := "ytfikhfahpdhjbaadoor", sum := "a017670626adcb3e684291059982ba21ef5f2cc206adefe9cf9b94cb17811c5b", func := "broker/brokerlaw46.HopsStrips", spec := "hopsStrips", inPlace := ["internal/bytealg.CountString", "internal/bytealg.IndexByteString", "internal/bytealg.IndexString", "internal/abi.NoEscape", "internal/bytealg.MakeNoZero"], unfollowed := true, recurses := true, named := ["unicode/utf8.first", "unicode/utf8.acceptRanges", "internal/bytealg.MaxLen"], apart := false, laid := [("unicode/utf8.acceptRanges", laid_unicode_utf8_acceptRanges), ("unicode/utf8.first", laid_unicode_utf8_first)], narrowed := true }
def HopsStripsUptoSaid : Prop := hopsStripsUptoRow.holds Tryd.pinned (OpenSpec.upto hopsStripsSpec)

/-- 'brokerlaw46.HopsOnce', WHERE WHAT IT READS IS OF BULK AT MOST 1048576: true; the input reads as it did. -/
def hopsOnceUptoRow : OpenClaim := { program := "ytfikhfahpdhjbaadoor", sum := "a017670626adcb3e684291059982ba21ef5f2cc206adefe9cf9b94cb17811c5b", func := "broker/brokerlaw46.HopsOnce", spec := "hopsOnce", inPlace := ["internal/bytealg.CountString", "internal/bytealg.IndexByteString", "internal/bytealg.IndexString", "internal/abi.NoEscape", "internal/bytealg.MakeNoZero"], unfollowed := true, recurses := true, named := ["unicode/utf8.first", "unicode/utf8.acceptRanges", "internal/bytealg.MaxLen"], apart := false, laid := [("unicode/utf8.acceptRanges", laid_unicode_utf8_acceptRanges), ("unicode/utf8.first", laid_unicode_utf8_first)], narrowed := true }
def HopsOnceUptoSaid : Prop := hopsOnceUptoRow.holds Tryd.pinned (OpenSpec.upto hopsOnceSpec)

/-- 'brokerlaw46.HopsFloods', WHERE WHAT IT READS IS OF BULK AT MOST 1048576: true; the input reads as it did. -/
def hopsFloodsUptoRow : OpenClaim := { program := "ytfikhfahpdhjbaadoor", sum := "a017670626adcb3e684291059982ba21ef5f2cc206adefe9cf9b94cb17811c5b", func := "broker/brokerlaw46.HopsFloods", spec := "hopsFloods", inPlace := ["internal/bytealg.CountString", "internal/bytealg.IndexByteString", "internal/bytealg.IndexString", "internal/abi.NoEscape", "internal/bytealg.MakeNoZero"], unfollowed := true, recurses := true, named := ["unicode/utf8.first", "unicode/utf8.acceptRanges", "internal/bytealg.MaxLen"], apart := false, laid := [("unicode/utf8.acceptRanges", laid_unicode_utf8_acceptRanges), ("unicode/utf8.first", laid_unicode_utf8_first)], narrowed := true }
def HopsFloodsUptoSaid : Prop := hopsFloodsUptoRow.holds Tryd.pinned (OpenSpec.upto hopsFloodsSpec)

/-- 'brokerlaw46.HopsReach', WHERE WHAT IT READS IS OF BULK AT MOST 1048576: true; the input reads as it did. -/
def hopsReachUptoRow : OpenClaim := { program := "ytfikhfahpdhjbaadoor", sum := "a017670626adcb3e684291059982ba21ef5f2cc206adefe9cf9b94cb17811c5b", func := "broker/brokerlaw46.HopsReach", spec := "hopsReach", inPlace := ["internal/bytealg.CountString", "internal/bytealg.IndexByteString", "internal/bytealg.IndexString", "internal/abi.NoEscape", "internal/bytealg.MakeNoZero"], unfollowed := true, recurses := true, named := ["unicode/utf8.first", "unicode/utf8.acceptRanges", "internal/bytealg.MaxLen"], apart := false, laid := [("unicode/utf8.acceptRanges", laid_unicode_utf8_acceptRanges), ("unicode/utf8.first", laid_unicode_utf8_first)], narrowed := true }
def HopsReachUptoSaid : Prop := hopsReachUptoRow.holds Tryd.pinned (OpenSpec.upto hopsReachSpec)

end Rows
end Go.Proofs.YtfikhfahpdhjbaaDoor
