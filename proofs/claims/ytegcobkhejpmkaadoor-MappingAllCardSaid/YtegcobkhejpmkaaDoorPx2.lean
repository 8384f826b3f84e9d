/- Printed by a program of this session (wip/tools) over the translation: Go functions as plain Lean functions, and their contracts. -/
import Derived.Test.YtegcobkhejpmkaaDoorHandC
import Derived.Test.YtegcobkhejpmkaaDoorPx0
namespace Go.Proofs.YtegcobkhejpmkaaDoor.P
open Go.RowKit Go.Proofs.YtegcobkhejpmkaaDoorW.PrintWords Go.Proofs.YtegcobkhejpmkaaDoorW.PrintLast Go.Proofs.YtegcobkhejpmkaaDoorW.PrintMore
attribute [local go_sem] max2_int min2_int max_two min_two max_three min_three max_four min_four   -- for this text's walks alone
set_option linter.unusedVariables false
set_option linter.unusedSimpArgs false

/-! ### mapping_check: function 30, by hand -/
def mapping_check.f (a0_0 : ByteArray) (a0_1 : ByteArray) : Option (Int) := checkF a0_0 a0_1
theorem mapping_check.calls (a0_0 : ByteArray) (a0_1 : ByteArray) (r : Int) (w : World) (h : mapping_check.f a0_0 a0_1 = some r) :
  Calls Tryd.prog 30 #[.agg #[.string a0_0, .string a0_1]] w fun e w' => e = .returned (.int .i64 r) ∧ Below w.heap.size w w' := check_calls a0_0 a0_1 r w h


end Go.Proofs.YtegcobkhejpmkaaDoor.P
