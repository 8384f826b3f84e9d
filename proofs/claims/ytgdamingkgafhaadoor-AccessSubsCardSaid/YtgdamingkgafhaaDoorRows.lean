/-
  NARROWER THAN 'FOR EVERY INPUT', by the rows' own cells (each row's printed sentence says how): AccessChecks: laid · AccessExpands: laid · AccessAllows: laid · AccessSubs: laid · AccessShadows: laid · AccessNever: laid · AccessIncluded: laid · AccessFirst: laid.
  DERIVED. THE GIVEN ROWS OF THIS SEAT. 8 by the template 'for every input the law returns true; each argument reads behind the call as it read before'; 0 by the template 'total and deterministic' (their statements: YtgdamingkgafhaaDoorTotals.lean).
  GIVEN WITH THE SEED: the statements are not yours to turn. If you find one false, say at which input.
  Laid BY PROGRAM, IN A SANDBOX (cutbox-rows.mjs): the forced cells as the released guide's own fill.sh prints them over the translation d07225a51d9a08bf… (all of the seat's roots in one cut). By AI agents, Wed Nov 11 2026. No macro, syntax, notation, axiom, sorry.
-/
import Derived.Test.YtgdamingkgafhaaDoorChecked
import GoSem.PinnedTables
import GoSem.Claim
import GoSem.ClaimJoined
import GoSem.ClaimMapViews
import Derived.JoinedTies
import Derived.KernelRfl
namespace Go.Proofs.YtgdamingkgafhaaDoor
/- THE CELL 'sum', in the pinned program and in every row, IS THE sha256 OF THE DUMP (.gsa) THAT YtgdamingkgafhaaDoorProg.lean LOADS. Nothing in Lean hashes anything: it is a label: what it is worth is what the hold of that sum in a sandbox is worth. -/
noncomputable def Tryd.pinned : Pinned := { name := "ytgdamingkgafhaadoor", sum := "d07225a51d9a08bf66e66b753a3e58ca86ee96f58c20705cdbbcffe65e00b0f0", checked := Tryd.checked }
namespace Rows
def none {H : Type} : Left H := { results := [], args := [] }

/- WHAT THE LISTED PACKAGE-LEVEL VARIABLES READ AS WHEN THE CALL BEGINS. Each datum BY PROGRAM (the guide's laid-datum.mjs) off the statement by which the dump's own 'gosem.cut.vars' lays the variable. In a bare row this is a premise. The card (YtgdamingkgafhaaDoorCards.lean) ties it to the program's text. -/
def laid_unicode_utf8_acceptRanges {H : Type} : DataW H := .agg [.agg [.lit (.int .u8 128), .lit (.int .u8 191)], .agg [.lit (.int .u8 160), .lit (.int .u8 191)], .agg [.lit (.int .u8 128), .lit (.int .u8 159)], .agg [.lit (.int .u8 144), .lit (.int .u8 191)], .agg [.lit (.int .u8 128), .lit (.int .u8 143)], .agg [.lit (.int .u8 0), .lit (.int .u8 0)], .agg [.lit (.int .u8 0), .lit (.int .u8 0)], .agg [.lit (.int .u8 0), .lit (.int .u8 0)], .agg [.lit (.int .u8 0), .lit (.int .u8 0)], .agg [.lit (.int .u8 0), .lit (.int .u8 0)], .agg [.lit (.int .u8 0), .lit (.int .u8 0)], .agg [.lit (.int .u8 0), .lit (.int .u8 0)], .agg [.lit (.int .u8 0), .lit (.int .u8 0)], .agg [.lit (.int .u8 0), .lit (.int .u8 0)], .agg [.lit (.int .u8 0), .lit (.int .u8 0)], .agg [.lit (.int .u8 0), .lit (.int .u8 0)]]
/-- One of Go's own tables, pinned by name: the form's constant. -/
def laid_unicode_utf8_first : DataW Unit := Go.Pinned.utf8First

/-- 'brokerlaw20.AccessChecks': WHATEVER THE INPUT: true; the input reads as it did. -/
def accessChecksSpec : ChangeSpec := { name := "accessChecks", fn := fun _ => fun
  | [d] => { results := [.lit (.bool true)], args := [d] }
  | _ => none }
def accessChecksRow : OpenClaim := { program := "ytgdamingkgafhaadoor", sum := "d07225a51d9a08bf66e66b753a3e58ca86ee96f58c20705cdbbcffe65e00b0f0", func := "broker/brokerlaw20.AccessChecks", spec := "accessChecks", inPlace := ["internal/bytealg.CountString", "internal/bytealg.IndexByteString", "internal/bytealg.IndexString", "internal/abi.NoEscape", "internal/bytealg.MakeNoZero"], unfollowed := true, recurses := true, named := ["unicode/utf8.first", "unicode/utf8.acceptRanges", "internal/bytealg.MaxLen"], apart := false, laid := [("unicode/utf8.acceptRanges", laid_unicode_utf8_acceptRanges), ("unicode/utf8.first", laid_unicode_utf8_first)] }
def AccessChecksSaid : Prop := accessChecksRow.holds Tryd.pinned (OpenSpec.ofChange accessChecksSpec)

/-- ITS FALSE NEIGHBOUR: 'it returns false'. Refute it at one input. -/
def accessChecksWrong : ChangeSpec := { name := "accessChecks", fn := fun _ => fun
  | [d] => { results := [.lit (.bool false)], args := [d] }
  | _ => none }
def AccessChecksWrongFalsely : Prop := accessChecksRow.holds Tryd.pinned (OpenSpec.ofChange accessChecksWrong)

/-- 'brokerlaw20.AccessExpands': WHATEVER THE INPUT: true; the input reads as it did. -/
def accessExpandsSpec : ChangeSpec := { name := "accessExpands", fn := fun _ => fun
  | [d1, d2] => { results := [.lit (.bool true)], args := [d1, d2] }
  | _ => none }
def accessExpandsRow : OpenClaim := { program := "ytgdamingkgafhaadoor", sum := "d07225a51d9a08bf66e66b753a3e58ca86ee96f58c20705cdbbcffe65e00b0f0", func := "broker/brokerlaw20.AccessExpands", spec := "accessExpands", inPlace := ["internal/bytealg.CountString", "internal/bytealg.IndexByteString", "internal/bytealg.IndexString", "internal/abi.NoEscape", "internal/bytealg.MakeNoZero"], unfollowed := true, recurses := true, named := ["unicode/utf8.first", "unicode/utf8.acceptRanges", "internal/bytealg.MaxLen"], apart := false, laid := [("unicode/utf8.acceptRanges", laid_unicode_utf8_acceptRanges), ("unicode/utf8.first", laid_unicode_utf8_first)] }
def AccessExpandsSaid : Prop := accessExpandsRow.holds Tryd.pinned (OpenSpec.ofChange accessExpandsSpec)

/-- ITS FALSE NEIGHBOUR: 'it returns false'. Refute it at one input. -/
def accessExpandsWrong : ChangeSpec := { name := "accessExpands", fn := fun _ => fun
  | [d1, d2] => { results := [.lit (.bool false)], args := [d1, d2] }
  | _ => none }
def AccessExpandsWrongFalsely : Prop := accessExpandsRow.holds Tryd.pinned (OpenSpec.ofChange accessExpandsWrong)

/-- 'brokerlaw20.AccessAllows': WHATEVER THE INPUT: true; the input reads as it did. -/
def accessAllowsSpec : ChangeSpec := { name := "accessAllows", fn := fun _ => fun
  | [d1, d2, d3, d4] => { results := [.lit (.bool true)], args := [d1, d2, d3, d4] }
  | _ => none }
def accessAllowsRow : OpenClaim := { program := "ytgdamingkgafhaadoor", sum := "d07225a51d9a08bf66e66b753a3e58ca86ee96f58c20705cdbbcffe65e00b0f0", func := "broker/brokerlaw20.AccessAllows", spec := "accessAllows", inPlace := ["internal/bytealg.CountString", "internal/bytealg.IndexByteString", "internal/bytealg.IndexString", "internal/abi.NoEscape", "internal/bytealg.MakeNoZero"], unfollowed := true, recurses := true, named := ["unicode/utf8.first", "unicode/utf8.acceptRanges", "internal/bytealg.MaxLen"], apart := false, laid := [("unicode/utf8.acceptRanges", laid_unicode_utf8_acceptRanges), ("unicode/utf8.first", laid_unicode_utf8_first)] }
def AccessAllowsSaid : Prop := accessAllowsRow.holds Tryd.pinned (OpenSpec.ofChange accessAllowsSpec)

/-- ITS FALSE NEIGHBOUR: 'it returns false'. Refute it at one input. -/
def accessAllowsWrong : ChangeSpec := { name := "accessAllows", fn := fun _ => fun
  | [d1, d2, d3, d4] => { results := [.lit (.bool false)], args := [d1, d2, d3, d4] }
  | _ => none }
def AccessAllowsWrongFalsely : Prop := accessAllowsRow.holds Tryd.pinned (OpenSpec.ofChange accessAllowsWrong)

/-- 'brokerlaw20.AccessSubs': WHATEVER THE INPUT: true; the input reads as it did. -/
def accessSubsSpec : ChangeSpec := { name := "accessSubs", fn := fun _ => fun
  | [d1, d2, d3] => { results := [.lit (.bool true)], args := [d1, d2, d3] }
  | _ => none }
def accessSubsRow : OpenClaim := { program := "ytgdamingkgafhaadoor", sum := "d07225a51d9a08bf66e66b753a3e58ca86ee96f58c20705cdbbcffe65e00b0f0", func := "broker/brokerlaw20.AccessSubs", spec := "accessSubs", inPlace := ["internal/bytealg.CountString", "internal/bytealg.IndexByteString", "internal/bytealg.IndexString", "internal/abi.NoEscape", "internal/bytealg.MakeNoZero"], unfollowed := true, recurses := true, named := ["unicode/utf8.first", "unicode/utf8.acceptRanges", "internal/bytealg.MaxLen"], apart := false, laid := [("unicode/utf8.acceptRanges", laid_unicode_utf8_acceptRanges), ("unicode/utf8.first", laid_unicode_utf8_first)] }
def AccessSubsSaid : Prop := accessSubsRow.holds Tryd.pinned (OpenSpec.ofChange accessSubsSpec)

/-- ITS FALSE NEIGHBOUR: 'it returns false'. Refute it at one input. -/
def accessSubsWrong : ChangeSpec := { name := "accessSubs", fn := fun _ => fun
  | [d1, d2, d3] => { results := [.lit (.bool false)], args := [d1, d2, d3] }
  | _ => none }
def AccessSubsWrongFalsely : Prop := accessSubsRow.holds Tryd.pinned (OpenSpec.ofChange accessSubsWrong)

/-- 'brokerlaw20.AccessShadows': WHATEVER THE INPUT: true; the input reads as it did. -/
def accessShadowsSpec : ChangeSpec := { name := "accessShadows", fn := fun _ => fun
  | [d] => { results := [.lit (.bool true)], args := [d] }
  | _ => none }
def accessShadowsRow : OpenClaim := { program := "ytgdamingkgafhaadoor", sum := "d07225a51d9a08bf66e66b753a3e58ca86ee96f58c20705cdbbcffe65e00b0f0", func := "broker/brokerlaw20.AccessShadows", spec := "accessShadows", inPlace := ["internal/bytealg.CountString", "internal/bytealg.IndexByteString", "internal/bytealg.IndexString", "internal/abi.NoEscape", "internal/bytealg.MakeNoZero"], unfollowed := true, recurses := true, named := ["unicode/utf8.first", "unicode/utf8.acceptRanges", "internal/bytealg.MaxLen"], apart := false, laid := [("unicode/utf8.acceptRanges", laid_unicode_utf8_acceptRanges), ("unicode/utf8.first", laid_unicode_utf8_first)] }
def AccessShadowsSaid : Prop := accessShadowsRow.holds Tryd.pinned (OpenSpec.ofChange accessShadowsSpec)

/-- ITS FALSE NEIGHBOUR: 'it returns false'. Refute it at one input. -/
def accessShadowsWrong : ChangeSpec := { name := "accessShadows", fn := fun _ => fun
  | [d] => { results := [.lit (.bool false)], args := [d] }
  | _ => none }
def AccessShadowsWrongFalsely : Prop := accessShadowsRow.holds Tryd.pinned (OpenSpec.ofChange accessShadowsWrong)

/-- 'brokerlaw20.AccessNever': WHATEVER THE INPUT: true; the input reads as it did. -/
def accessNeverSpec : ChangeSpec := { name := "accessNever", fn := fun _ => fun
  | [d1, d2, d3, d4, d5] => { results := [.lit (.bool true)], args := [d1, d2, d3, d4, d5] }
  | _ => none }
def accessNeverRow : OpenClaim := { program := "ytgdamingkgafhaadoor", sum := "d07225a51d9a08bf66e66b753a3e58ca86ee96f58c20705cdbbcffe65e00b0f0", func := "broker/brokerlaw20.AccessNever", spec := "accessNever", inPlace := ["internal/bytealg.CountString", "internal/bytealg.IndexByteString", "internal/bytealg.IndexString", "internal/abi.NoEscape", "internal/bytealg.MakeNoZero"], unfollowed := true, recurses := true, named := ["unicode/utf8.first", "unicode/utf8.acceptRanges", "internal/bytealg.MaxLen"], apart := false, laid := [("unicode/utf8.acceptRanges", laid_unicode_utf8_acceptRanges), ("unicode/utf8.first", laid_unicode_utf8_first)] }
def AccessNeverSaid : Prop := accessNeverRow.holds Tryd.pinned (OpenSpec.ofChange accessNeverSpec)

/-- ITS FALSE NEIGHBOUR: 'it returns false'. Refute it at one input. -/
def accessNeverWrong : ChangeSpec := { name := "accessNever", fn := fun _ => fun
  | [d1, d2, d3, d4, d5] => { results := [.lit (.bool false)], args := [d1, d2, d3, d4, d5] }
  | _ => none }
def AccessNeverWrongFalsely : Prop := accessNeverRow.holds Tryd.pinned (OpenSpec.ofChange accessNeverWrong)

/-- 'brokerlaw20.AccessIncluded': WHATEVER THE INPUT: true; the input reads as it did. -/
def accessIncludedSpec : ChangeSpec := { name := "accessIncluded", fn := fun _ => fun
  | [d1, d2, d3, d4] => { results := [.lit (.bool true)], args := [d1, d2, d3, d4] }
  | _ => none }
def accessIncludedRow : OpenClaim := { program := "ytgdamingkgafhaadoor", sum := "d07225a51d9a08bf66e66b753a3e58ca86ee96f58c20705cdbbcffe65e00b0f0", func := "broker/brokerlaw20.AccessIncluded", spec := "accessIncluded", inPlace := ["internal/bytealg.CountString", "internal/bytealg.IndexByteString", "internal/bytealg.IndexString", "internal/abi.NoEscape", "internal/bytealg.MakeNoZero"], unfollowed := true, recurses := true, named := ["unicode/utf8.first", "unicode/utf8.acceptRanges", "internal/bytealg.MaxLen"], apart := false, laid := [("unicode/utf8.acceptRanges", laid_unicode_utf8_acceptRanges), ("unicode/utf8.first", laid_unicode_utf8_first)] }
def AccessIncludedSaid : Prop := accessIncludedRow.holds Tryd.pinned (OpenSpec.ofChange accessIncludedSpec)

/-- ITS FALSE NEIGHBOUR: 'it returns false'. Refute it at one input. -/
def accessIncludedWrong : ChangeSpec := { name := "accessIncluded", fn := fun _ => fun
  | [d1, d2, d3, d4] => { results := [.lit (.bool false)], args := [d1, d2, d3, d4] }
  | _ => none }
def AccessIncludedWrongFalsely : Prop := accessIncludedRow.holds Tryd.pinned (OpenSpec.ofChange accessIncludedWrong)

/-- 'brokerlaw20.AccessFirst': WHATEVER THE INPUT: true; the input reads as it did. -/
def accessFirstSpec : ChangeSpec := { name := "accessFirst", fn := fun _ => fun
  | [d1, d2, d3, d4, d5] => { results := [.lit (.bool true)], args := [d1, d2, d3, d4, d5] }
  | _ => none }
def accessFirstRow : OpenClaim := { program := "ytgdamingkgafhaadoor", sum := "d07225a51d9a08bf66e66b753a3e58ca86ee96f58c20705cdbbcffe65e00b0f0", func := "broker/brokerlaw20.AccessFirst", spec := "accessFirst", inPlace := ["internal/bytealg.CountString", "internal/bytealg.IndexByteString", "internal/bytealg.IndexString", "internal/abi.NoEscape", "internal/bytealg.MakeNoZero"], unfollowed := true, recurses := true, named := ["unicode/utf8.first", "unicode/utf8.acceptRanges", "internal/bytealg.MaxLen"], apart := false, laid := [("unicode/utf8.acceptRanges", laid_unicode_utf8_acceptRanges), ("unicode/utf8.first", laid_unicode_utf8_first)] }
def AccessFirstSaid : Prop := accessFirstRow.holds Tryd.pinned (OpenSpec.ofChange accessFirstSpec)

/-- ITS FALSE NEIGHBOUR: 'it returns false'. Refute it at one input. -/
def accessFirstWrong : ChangeSpec := { name := "accessFirst", fn := fun _ => fun
  | [d1, d2, d3, d4, d5] => { results := [.lit (.bool false)], args := [d1, d2, d3, d4, d5] }
  | _ => none }
def AccessFirstWrongFalsely : Prop := accessFirstRow.holds Tryd.pinned (OpenSpec.ofChange accessFirstWrong)

/- THE SECOND FORM. 'bulk': how many values and letters a reading holds, each counted each time it is reached (what is shared counts as often as it is met; a slice's spare places count too). A statement '..UptoSaid' is the law's where the arguments, and the package variables that the reading takes, are together of bulk at most 1048576: NARROWER than '..Said'. Prove '..Said' where nothing that the law and all that it calls make is longer than what came in: it says more and counts as full. Else prove '..UptoSaid'. A law counts once. -/
mutual
def uptoBulk {H : Type} : DataW H → Nat
  | .lit (.string bytes) => bytes.length + 1
  | .lit _ => 1
  | .nil => 1
  | .ptr d => uptoBulk d + 1
  | .slice elems spare => uptoBulkAll elems + uptoBulkAll spare + 1
  | .agg parts => uptoBulkAll parts + 1
  | .iface _ d => uptoBulk d + 1
  | .map entries => uptoBulkEntries entries + 1
  | .held _ => 1
def uptoBulkAll {H : Type} : List (DataW H) → Nat
  | [] => 0
  | d :: r => uptoBulk d + uptoBulkAll r
def uptoBulkEntries {H : Type} : List (Lit × DataW H) → Nat
  | [] => 0
  | x :: r => uptoBulkEntry x + uptoBulkEntries r
def uptoBulkEntry {H : Type} : Lit × DataW H → Nat
  | (.string bytes, d) => bytes.length + uptoBulk d + 1
  | (_, d) => uptoBulk d + 1
 end
def uptoSmall : (H : Type) → List (DataW H) → Bool := fun _ ds => decide (uptoBulkAll ds ≤ 1048576)
def OpenSpec.upto (s : _root_.Go.ChangeSpec) : _root_.Go.OpenSpec := { _root_.Go.OpenSpec.ofChange s with cond := some uptoSmall }

/-- 'brokerlaw20.AccessChecks', WHERE WHAT IT READS IS OF BULK AT MOST 1048576: true; the input reads as it did. -/
def accessChecksUptoRow : OpenClaim := { program := "ytgdamingkgafhaadoor", sum := "d07225a51d9a08bf66e66b753a3e58ca86ee96f58c20705cdbbcffe65e00b0f0", func := "broker/brokerlaw20.AccessChecks", spec := "accessChecks", inPlace := ["internal/bytealg.CountString", "internal/bytealg.IndexByteString", "internal/bytealg.IndexString", "internal/abi.NoEscape", "internal/bytealg.MakeNoZero"], unfollowed := true, recurses := true, named := ["unicode/utf8.first", "unicode/utf8.acceptRanges", "internal/bytealg.MaxLen"], apart := false, laid := [("unicode/utf8.acceptRanges", laid_unicode_utf8_acceptRanges), ("unicode/utf8.first", laid_unicode_utf8_first)], narrowed := true }
def AccessChecksUptoSaid : Prop := accessChecksUptoRow.holds Tryd.pinned (OpenSpec.upto accessChecksSpec)

/-- 'brokerlaw20.AccessExpands', WHERE WHAT IT READS IS OF BULK AT MOST 1048576: true; the input reads as it did. -/
def accessExpandsUptoRow : OpenClaim := { program := "ytgdamingkgafhaadoor", sum := "d07225a51d9a08bf66e66b753a3e58ca86ee96f58c20705cdbbcffe65e00b0f0", func := "broker/brokerlaw20.AccessExpands", spec := "accessExpands", inPlace := ["internal/bytealg.CountString", "internal/bytealg.IndexByteString", "internal/bytealg.IndexString", "internal/abi.NoEscape", "internal/bytealg.MakeNoZero"], unfollowed := true, recurses := true, named := ["unicode/utf8.first", "unicode/utf8.acceptRanges", "internal/bytealg.MaxLen"], apart := false, laid := [("unicode/utf8.acceptRanges", laid_unicode_utf8_acceptRanges), ("unicode/utf8.first", laid_unicode_utf8_first)], narrowed := true }
def AccessExpandsUptoSaid : Prop := accessExpandsUptoRow.holds Tryd.pinned (OpenSpec.upto accessExpandsSpec)

/-- 'brokerlaw20.AccessAllows', WHERE WHAT IT READS IS OF BULK AT MOST 1048576: true; the input reads as it did. -/
def accessAllowsUptoRow : OpenClaim := { program := "ytgdamingkgafhaadoor", sum := "d07225a51d9a08bf66e66b753a3e58ca86ee96f58c20705cdbbcffe65e00b0f0", func := "broker/brokerlaw20.AccessAllows", spec := "accessAllows", inPlace := ["internal/bytealg.CountString", "internal/bytealg.IndexByteString", "internal/bytealg.IndexString", "internal/abi.NoEscape", "internal/bytealg.MakeNoZero"], unfollowed := true, recurses := true, named := ["unicode/utf8.first", "unicode/utf8.acceptRanges", "internal/bytealg.MaxLen"], apart := false, laid := [("unicode/utf8.acceptRanges", laid_unicode_utf8_acceptRanges), ("unicode/utf8.first", laid_unicode_utf8_first)], narrowed := true }
def AccessAllowsUptoSaid : Prop := accessAllowsUptoRow.holds Tryd.pinned (OpenSpec.upto accessAllowsSpec)

/-- 'brokerlaw20.AccessSubs', WHERE WHAT IT READS IS OF BULK AT MOST 1048576: true; the input reads as it did. -/
def accessSubsUptoRow : OpenClaim := { program := "ytgdamingkgafhaadoor", sum := "d07225a51d9a08bf66e66b753a3e58ca86ee96f58c20705cdbbcffe65e00b0f0", func := "broker/brokerlaw20.AccessSubs", spec := "accessSubs", inPlace := ["internal/bytealg.CountString", "internal/bytealg.IndexByteString", "internal/bytealg.IndexString", "internal/abi.NoEscape", "internal/bytealg.MakeNoZero"], unfollowed := true, recurses := true, named := ["unicode/utf8.first", "unicode/utf8.acceptRanges", "internal/bytealg.MaxLen"], apart := false, laid := [("unicode/utf8.acceptRanges", laid_unicode_utf8_acceptRanges), ("unicode/utf8.first", laid_unicode_utf8_first)], narrowed := true }
def AccessSubsUptoSaid : Prop := accessSubsUptoRow.holds Tryd.pinned (OpenSpec.upto accessSubsSpec)

/-- 'brokerlaw20.AccessShadows', WHERE WHAT IT READS IS OF BULK AT MOST 1048576: true; the input reads as it did. -/
def accessShadowsUptoRow : OpenClaim := { program := "ytgdamingkgafhaadoor", sum := "d07225a51d9a08bf66e66b753a3e58ca86ee96f58c20705cdbbcffe65e00b0f0", func := "broker/brokerlaw20.AccessShadows", spec := "accessShadows", inPlace := ["internal/bytealg.CountString", "internal/bytealg.IndexByteString", "internal/bytealg.IndexString", "internal/abi.NoEscape", "internal/bytealg.MakeNoZero"], unfollowed := true, recurses := true, named := ["unicode/utf8.first", "unicode/utf8.acceptRanges", "internal/bytealg.MaxLen"], apart := false, laid := [("unicode/utf8.acceptRanges", laid_unicode_utf8_acceptRanges), ("unicode/utf8.first", laid_unicode_utf8_first)], narrowed := true }
def AccessShadowsUptoSaid : Prop := accessShadowsUptoRow.holds Tryd.pinned (OpenSpec.upto accessShadowsSpec)

/-- 'brokerlaw20.AccessNever', WHERE WHAT IT READS IS OF BULK AT MOST 1048576: true; the input reads as it did. -/
def accessNeverUptoRow : OpenClaim := { program := "ytgdamingkgafhaadoor", sum := "d07225a51d9a08bf66e66b753a3e58ca86ee96f58c20705cdbbcffe65e00b0f0", func := "broker/brokerlaw20.AccessNever", spec := "accessNever", inPlace := ["internal/bytealg.CountString", "internal/bytealg.IndexByteString", "internal/bytealg.IndexString", "internal/abi.NoEscape", "internal/bytealg.MakeNoZero"], unfollowed := true, recurses := true, named := ["unicode/utf8.first", "unicode/utf8.acceptRanges", "internal/bytealg.MaxLen"], apart := false, laid := [("unicode/utf8.acceptRanges", laid_unicode_utf8_acceptRanges), ("unicode/utf8.first", laid_unicode_utf8_first)], narrowed := true }
def AccessNeverUptoSaid : Prop := accessNeverUptoRow.holds Tryd.pinned (OpenSpec.upto accessNeverSpec)

/-- 'brokerlaw20.AccessIncluded', WHERE WHAT IT READS IS OF BULK AT MOST 1048576: true; the input reads as it did. -/
def accessIncludedUptoRow : OpenClaim := { program := "ytgdamingkgafhaadoor", sum := "d07225a51d9a08bf66e66b753a3e58ca86ee96f58c20705cdbbcffe65e00b0f0", func := "broker/brokerlaw20.AccessIncluded", spec := "accessIncluded", inPlace := ["internal/bytealg.CountString", "internal/bytealg.IndexByteString", "internal/bytealg.IndexString", "internal/abi.NoEscape", "internal/bytealg.MakeNoZero"], unfollowed := true, recurses := true, named := ["unicode/utf8.first", "unicode/utf8.acceptRanges", "internal/bytealg.MaxLen"], apart := false, laid := [("unicode/utf8.acceptRanges", laid_unicode_utf8_acceptRanges), ("unicode/utf8.first", laid_unicode_utf8_first)], narrowed := true }
def AccessIncludedUptoSaid : Prop := accessIncludedUptoRow.holds Tryd.pinned (OpenSpec.upto accessIncludedSpec)

/-- 'brokerlaw20.AccessFirst', WHERE WHAT IT READS IS OF BULK AT MOST 1048576: true; the input reads as it did. -/
def accessFirstUptoRow : OpenClaim := { program := "ytgdamingkgafhaadoor", sum := "d07225a51d9a08bf66e66b753a3e58ca86ee96f58c20705cdbbcffe65e00b0f0", func := "broker/brokerlaw20.AccessFirst", spec := "accessFirst", inPlace := ["internal/bytealg.CountString", "internal/bytealg.IndexByteString", "internal/bytealg.IndexString", "internal/abi.NoEscape", "internal/bytealg.MakeNoZero"], unfollowed := true, recurses := true, named := ["unicode/utf8.first", "unicode/utf8.acceptRanges", "internal/bytealg.MaxLen"], apart := false, laid := [("unicode/utf8.acceptRanges", laid_unicode_utf8_acceptRanges), ("unicode/utf8.first", laid_unicode_utf8_first)], narrowed := true }
def AccessFirstUptoSaid : Prop := accessFirstUptoRow.holds Tryd.pinned (OpenSpec.upto accessFirstSpec)

end Rows
end Go.Proofs.YtgdamingkgafhaaDoor
