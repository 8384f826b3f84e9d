/- Printed by a program of this session (wip/tools) over the translation: Go functions as plain Lean functions, and their contracts. -/
import Derived.Test.YtgdamingkgafhaaDoorPx0
import Derived.Test.YtgdamingkgafhaaDoorPx2
import Derived.Test.YtgdamingkgafhaaDoorHandC
import Derived.Test.YtgdamingkgafhaaDoorHandD
import Derived.Test.YtgdamingkgafhaaDoorHandE
namespace Go.Proofs.YtgdamingkgafhaaDoor.P
open Go.RowKit Go.Proofs.YtgdamingkgafhaaDoorW.PrintWords Go.Proofs.YtgdamingkgafhaaDoorW.PrintLast Go.Proofs.YtgdamingkgafhaaDoorW.PrintMore
attribute [local go_sem] max2_int min2_int max_two min_two max_three min_three max_four min_four   -- for this text's walks alone
set_option linter.unusedVariables false
set_option linter.unusedSimpArgs false

/-! ### access_Allowed: function 17, by hand -/
def access_Allowed.f (k : Nat) (l0 : List (S42)) (a1_0 : ByteArray) (a1_1 : ByteArray) (a2 : Int) (a3 : ByteArray) : Option (Bool) := allF (fun r => ruleF k a1_0 a1_1 a2 r (fun e => match_Matches.f k e a3)) l0 (fun r => some r.f0)
theorem access_Allowed.mono : ∀ a0 a1 a2 a3 a4 k, LeO (access_Allowed.f k a0 a1 a2 a3 a4) (access_Allowed.f (k + 1) a0 a1 a2 a3 a4) := by
 intro a0 a1 a2 a3 a4 k
 exact allF_mono (fun r => ruleF_mono a1 a2 a3 r k fun s => match_Matches.mono _ _ k) fun r => LeO.refl _
theorem access_Allowed.calls (k : Nat) (A0 : Option Addr) (c0 : Nat) (l0 : List (S42)) (a1_0 : ByteArray) (a1_1 : ByteArray) (a2 : Int) (a3 : ByteArray) (r : Bool) (w : World) (hr0 : Kd.C k42 w A0 l0.length l0) (hc0 : l0.length ≤ c0) (h : access_Allowed.f k l0 a1_0 a1_1 a2 a3 = some r) :
  Calls Tryd.prog 17 #[.slice A0 l0.length c0, .agg #[.string a1_0, .string a1_1], .int .i64 a2, .string a3] w fun e w' => e = .returned (.bool r) ∧ Below w.heap.size w w' := by
 exact Allowed_calls k A0 c0 l0 a1_0 a1_1 a2 a3 r w hr0 hc0 h


end Go.Proofs.YtgdamingkgafhaaDoor.P
