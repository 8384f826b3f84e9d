/- Printed by a program of this session (wip/tools) over the translation: Go functions as plain Lean functions, and their contracts. -/
import Derived.Test.YtegcobkhejpmkaaDoorHandA
import Derived.Test.YtegcobkhejpmkaaDoorPx0
import Derived.Test.YtegcobkhejpmkaaDoorPx3
namespace Go.Proofs.YtegcobkhejpmkaaDoor.P
open Go.RowKit Go.Proofs.YtegcobkhejpmkaaDoorW.PrintWords Go.Proofs.YtegcobkhejpmkaaDoorW.PrintLast Go.Proofs.YtegcobkhejpmkaaDoorW.PrintMore
attribute [local go_sem] max2_int min2_int max_two min_two max_three min_three max_four min_four   -- for this text's walks alone
set_option linter.unusedVariables false
set_option linter.unusedSimpArgs false

/-! ### mapping_Apply: function 14, by hand -/
def mapping_Apply.f (k : Nat) (a0_0 : ByteArray) (a0_1 : ByteArray) (a1 : ByteArray) : Option (ByteArray × Bool) := applyF k a0_0 a0_1 a1
theorem mapping_Apply.mono : ∀ a0 a1 a2 k, LeO (mapping_Apply.f k a0 a1 a2) (mapping_Apply.f (k + 1) a0 a1 a2) := by
 intro a0 a1 a2 k
 unfold mapping_Apply.f applyF
 refine LeO.bind (match_Matches.mono _ _ k) (fun _ => LeO.ite (LeO.bind (mapping_taken.mono _ _ k) (fun _ => LeO.refl _)) (LeO.refl _))
theorem mapping_Apply.calls (k : Nat) (a0_0 : ByteArray) (a0_1 : ByteArray) (a1 : ByteArray) (r1 : ByteArray) (r2 : Bool) (w : World) (h : mapping_Apply.f k a0_0 a0_1 a1 = some (r1, r2)) :
  Calls Tryd.prog 14 #[.agg #[.string a0_0, .string a0_1], .string a1] w fun e w' => e = .returned (.tuple #[.string r1, .bool r2]) ∧ Below w.heap.size w w' := Apply_calls k a0_0 a0_1 a1 r1 r2 w h


end Go.Proofs.YtegcobkhejpmkaaDoor.P
