/-
  No cell of these rows narrows 'for every input' (looked for: loops, veiled, ifaces, maps, wideKeys, modest, calm, conditions, laid).
  DERIVED. THE GIVEN ROWS OF THIS SEAT. 6 by the template 'for every input the law returns true; each argument reads behind the call as it read before'; 0 by the template 'total and deterministic' (their statements: YtdaleecijlemhaaTotals.lean).
  GIVEN WITH THE SEED: the statements are not yours to turn. If you find one false, say at which input.
  Laid BY PROGRAM, IN A SANDBOX (cutbox-rows.mjs): the forced cells as the released guide's own fill.sh prints them over the translation 05df7113a444669c… (all of the seat's roots in one cut). By AI agents, Wed Nov 11 2026. No macro, syntax, notation, axiom, sorry.
-/
import Derived.Test.YtdaleecijlemhaaChecked
import GoSem.Claim
import GoSem.ClaimJoined
import GoSem.ClaimMapViews
import Derived.JoinedTies
import Derived.KernelRfl
namespace Go.Proofs.Ytdaleecijlemhaa
/- THE CELL 'sum', in the pinned program and in every row, IS THE sha256 OF THE DUMP (.gsa) THAT YtdaleecijlemhaaProg.lean LOADS. Nothing in Lean hashes anything: it is a label: what it is worth is what the hold of that sum in a sandbox is worth. -/
noncomputable def Try.pinned : Pinned := { name := "ytdaleecijlemhaa", sum := "05df7113a444669c61b2f6b8c0fef23422e319649ab08cb15458e7d875103ac5", checked := Try.checked }
namespace Rows
def none {H : Type} : Left H := { results := [], args := [] }

/-- 'brokerlaw16.FlowBack': WHATEVER THE INPUT: true; the input reads as it did. -/
def flowBackSpec : ChangeSpec := { name := "flowBack", fn := fun _ => fun
  | [d] => { results := [.lit (.bool true)], args := [d] }
  | _ => none }
def flowBackRow : OpenClaim := { program := "ytdaleecijlemhaa", sum := "05df7113a444669c61b2f6b8c0fef23422e319649ab08cb15458e7d875103ac5", func := "broker/brokerlaw16.FlowBack", spec := "flowBack", apart := false }
def FlowBackSaid : Prop := flowBackRow.holds Try.pinned (OpenSpec.ofChange flowBackSpec)

/-- ITS FALSE NEIGHBOUR: 'it returns false'. Refute it at one input. -/
def flowBackWrong : ChangeSpec := { name := "flowBack", fn := fun _ => fun
  | [d] => { results := [.lit (.bool false)], args := [d] }
  | _ => none }
def FlowBackWrongFalsely : Prop := flowBackRow.holds Try.pinned (OpenSpec.ofChange flowBackWrong)

/-- 'brokerlaw16.FlowNext': WHATEVER THE INPUT: true; the input reads as it did. -/
def flowNextSpec : ChangeSpec := { name := "flowNext", fn := fun _ => fun
  | [d1, d2] => { results := [.lit (.bool true)], args := [d1, d2] }
  | _ => none }
def flowNextRow : OpenClaim := { program := "ytdaleecijlemhaa", sum := "05df7113a444669c61b2f6b8c0fef23422e319649ab08cb15458e7d875103ac5", func := "broker/brokerlaw16.FlowNext", spec := "flowNext", apart := false }
def FlowNextSaid : Prop := flowNextRow.holds Try.pinned (OpenSpec.ofChange flowNextSpec)

/-- ITS FALSE NEIGHBOUR: 'it returns false'. Refute it at one input. -/
def flowNextWrong : ChangeSpec := { name := "flowNext", fn := fun _ => fun
  | [d1, d2] => { results := [.lit (.bool false)], args := [d1, d2] }
  | _ => none }
def FlowNextWrongFalsely : Prop := flowNextRow.holds Try.pinned (OpenSpec.ofChange flowNextWrong)

/-- 'brokerlaw16.FlowRounds': WHATEVER THE INPUT: true; the input reads as it did. -/
def flowRoundsSpec : ChangeSpec := { name := "flowRounds", fn := fun _ => fun
  | [d1, d2, d3] => { results := [.lit (.bool true)], args := [d1, d2, d3] }
  | _ => none }
def flowRoundsRow : OpenClaim := { program := "ytdaleecijlemhaa", sum := "05df7113a444669c61b2f6b8c0fef23422e319649ab08cb15458e7d875103ac5", func := "broker/brokerlaw16.FlowRounds", spec := "flowRounds", apart := false }
def FlowRoundsSaid : Prop := flowRoundsRow.holds Try.pinned (OpenSpec.ofChange flowRoundsSpec)

/-- ITS FALSE NEIGHBOUR: 'it returns false'. Refute it at one input. -/
def flowRoundsWrong : ChangeSpec := { name := "flowRounds", fn := fun _ => fun
  | [d1, d2, d3] => { results := [.lit (.bool false)], args := [d1, d2, d3] }
  | _ => none }
def FlowRoundsWrongFalsely : Prop := flowRoundsRow.holds Try.pinned (OpenSpec.ofChange flowRoundsWrong)

/-- 'brokerlaw16.FlowFair': WHATEVER THE INPUT: true; the input reads as it did. -/
def flowFairSpec : ChangeSpec := { name := "flowFair", fn := fun _ => fun
  | [d1, d2, d3] => { results := [.lit (.bool true)], args := [d1, d2, d3] }
  | _ => none }
def flowFairRow : OpenClaim := { program := "ytdaleecijlemhaa", sum := "05df7113a444669c61b2f6b8c0fef23422e319649ab08cb15458e7d875103ac5", func := "broker/brokerlaw16.FlowFair", spec := "flowFair", apart := false }
def FlowFairSaid : Prop := flowFairRow.holds Try.pinned (OpenSpec.ofChange flowFairSpec)

/-- ITS FALSE NEIGHBOUR: 'it returns false'. Refute it at one input. -/
def flowFairWrong : ChangeSpec := { name := "flowFair", fn := fun _ => fun
  | [d1, d2, d3] => { results := [.lit (.bool false)], args := [d1, d2, d3] }
  | _ => none }
def FlowFairWrongFalsely : Prop := flowFairRow.holds Try.pinned (OpenSpec.ofChange flowFairWrong)

/-- 'brokerlaw16.FlowSplits': WHATEVER THE INPUT: true; the input reads as it did. -/
def flowSplitsSpec : ChangeSpec := { name := "flowSplits", fn := fun _ => fun
  | [d1, d2, d3, d4] => { results := [.lit (.bool true)], args := [d1, d2, d3, d4] }
  | _ => none }
def flowSplitsRow : OpenClaim := { program := "ytdaleecijlemhaa", sum := "05df7113a444669c61b2f6b8c0fef23422e319649ab08cb15458e7d875103ac5", func := "broker/brokerlaw16.FlowSplits", spec := "flowSplits", apart := false }
def FlowSplitsSaid : Prop := flowSplitsRow.holds Try.pinned (OpenSpec.ofChange flowSplitsSpec)

/-- ITS FALSE NEIGHBOUR: 'it returns false'. Refute it at one input. -/
def flowSplitsWrong : ChangeSpec := { name := "flowSplits", fn := fun _ => fun
  | [d1, d2, d3, d4] => { results := [.lit (.bool false)], args := [d1, d2, d3, d4] }
  | _ => none }
def FlowSplitsWrongFalsely : Prop := flowSplitsRow.holds Try.pinned (OpenSpec.ofChange flowSplitsWrong)

/-- 'brokerlaw16.FlowUnits': WHATEVER THE INPUT: true; the input reads as it did. -/
def flowUnitsSpec : ChangeSpec := { name := "flowUnits", fn := fun _ => fun
  | [d1, d2] => { results := [.lit (.bool true)], args := [d1, d2] }
  | _ => none }
def flowUnitsRow : OpenClaim := { program := "ytdaleecijlemhaa", sum := "05df7113a444669c61b2f6b8c0fef23422e319649ab08cb15458e7d875103ac5", func := "broker/brokerlaw16.FlowUnits", spec := "flowUnits", apart := false }
def FlowUnitsSaid : Prop := flowUnitsRow.holds Try.pinned (OpenSpec.ofChange flowUnitsSpec)

/-- ITS FALSE NEIGHBOUR: 'it returns false'. Refute it at one input. -/
def flowUnitsWrong : ChangeSpec := { name := "flowUnits", fn := fun _ => fun
  | [d1, d2] => { results := [.lit (.bool false)], args := [d1, d2] }
  | _ => none }
def FlowUnitsWrongFalsely : Prop := flowUnitsRow.holds Try.pinned (OpenSpec.ofChange flowUnitsWrong)

/- THE SECOND FORM. 'bulk': how many values and letters a reading holds, each counted each time it is reached (what is shared counts as often as it is met; a slice's spare places count too). A statement '..UptoSaid' is the law's where the arguments, and the package variables that the reading takes, are together of bulk at most 1048576: NARROWER than '..Said'. Prove '..Said' where nothing that the law and all that it calls make is longer than what came in: it says more and counts as full. Else prove '..UptoSaid'. A law counts once. -/
mutual
def uptoBulk {H : Type} : DataW H → Nat
  | .lit (.string bytes) => bytes.length + 1
  | .lit _ => 1
  | .nil => 1
  | .ptr d => uptoBulk d + 1
  | .slice elems spare => uptoBulkAll elems + uptoBulkAll spare + 1
  | .agg parts => uptoBulkAll parts + 1
  | .iface _ d => uptoBulk d + 1
  | .map entries => uptoBulkEntries entries + 1
  | .held _ => 1
def uptoBulkAll {H : Type} : List (DataW H) → Nat
  | [] => 0
  | d :: r => uptoBulk d + uptoBulkAll r
def uptoBulkEntries {H : Type} : List (Lit × DataW H) → Nat
  | [] => 0
  | x :: r => uptoBulkEntry x + uptoBulkEntries r
def uptoBulkEntry {H : Type} : Lit × DataW H → Nat
  | (.string bytes, d) => bytes.length + uptoBulk d + 1
  | (_, d) => uptoBulk d + 1
 end
def uptoSmall : (H : Type) → List (DataW H) → Bool := fun _ ds => decide (uptoBulkAll ds ≤ 1048576)
def OpenSpec.upto (s : _root_.Go.ChangeSpec) : _root_.Go.OpenSpec := { _root_.Go.OpenSpec.ofChange s with cond := some uptoSmall }

/-- 'brokerlaw16.FlowBack', WHERE WHAT IT READS IS OF BULK AT MOST 1048576: true; the input reads as it did. -/
def flowBackUptoRow : OpenClaim := { program := "ytdaleecijlemhaa", sum := "05df7113a444669c61b2f6b8c0fef23422e319649ab08cb15458e7d875103ac5", func := "broker/brokerlaw16.FlowBack", spec := "flowBack", apart := false, narrowed := true }
def FlowBackUptoSaid : Prop := flowBackUptoRow.holds Try.pinned (OpenSpec.upto flowBackSpec)

/-- 'brokerlaw16.FlowNext', WHERE WHAT IT READS IS OF BULK AT MOST 1048576: true; the input reads as it did. -/
def flowNextUptoRow : OpenClaim := { program := "ytdaleecijlemhaa", sum := "05df7113a444669c61b2f6b8c0fef23422e319649ab08cb15458e7d875103ac5", func := "broker/brokerlaw16.FlowNext", spec := "flowNext", apart := false, narrowed := true }
def FlowNextUptoSaid : Prop := flowNextUptoRow.holds Try.pinned (OpenSpec.upto flowNextSpec)

/-- 'brokerlaw16.FlowRounds', WHERE WHAT IT READS IS OF BULK AT MOST 1048576: true; the input reads as it did. -/
def flowRoundsUptoRow : OpenClaim := { program := "ytdaleecijlemhaa", sum := "05df7113a444669c61b2f6b8c0fef23422e319649ab08cb15458e7d875103ac5", func := "broker/brokerlaw16.FlowRounds", spec := "flowRounds", apart := false, narrowed := true }
def FlowRoundsUptoSaid : Prop := flowRoundsUptoRow.holds Try.pinned (OpenSpec.upto flowRoundsSpec)

/-- 'brokerlaw16.FlowFair', WHERE WHAT IT READS IS OF BULK AT MOST 1048576: true; the input reads as it did. -/
def flowFairUptoRow : OpenClaim := { program := "ytdaleecijlemhaa", sum := "05df7113a444669c61b2f6b8c0fef23422e319649ab08cb15458e7d875103ac5", func := "broker/brokerlaw16.FlowFair", spec := "flowFair", apart := false, narrowed := true }
def FlowFairUptoSaid : Prop := flowFairUptoRow.holds Try.pinned (OpenSpec.upto flowFairSpec)

/-- 'brokerlaw16.FlowSplits', WHERE WHAT IT READS IS OF BULK AT MOST 1048576: true; the input reads as it did. -/
def flowSplitsUptoRow : OpenClaim := { program := "ytdaleecijlemhaa", sum := "05df7113a444669c61b2f6b8c0fef23422e319649ab08cb15458e7d875103ac5", func := "broker/brokerlaw16.FlowSplits", spec := "flowSplits", apart := false, narrowed := true }
def FlowSplitsUptoSaid : Prop := flowSplitsUptoRow.holds Try.pinned (OpenSpec.upto flowSplitsSpec)

/-- 'brokerlaw16.FlowUnits', WHERE WHAT IT READS IS OF BULK AT MOST 1048576: true; the input reads as it did. -/
def flowUnitsUptoRow : OpenClaim := { program := "ytdaleecijlemhaa", sum := "05df7113a444669c61b2f6b8c0fef23422e319649ab08cb15458e7d875103ac5", func := "broker/brokerlaw16.FlowUnits", spec := "flowUnits", apart := false, narrowed := true }
def FlowUnitsUptoSaid : Prop := flowUnitsUptoRow.holds Try.pinned (OpenSpec.upto flowUnitsSpec)

end Rows
end Go.Proofs.Ytdaleecijlemhaa
