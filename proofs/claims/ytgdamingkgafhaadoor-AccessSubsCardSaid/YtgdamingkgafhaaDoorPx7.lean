/- Printed by a program of this session (wip/tools) over the translation: Go functions as plain Lean functions, and their contracts. -/
import Derived.Test.YtgdamingkgafhaaDoorPx0
import Derived.Test.YtgdamingkgafhaaDoorPx1
import Derived.Test.YtgdamingkgafhaaDoorPx4
import Derived.Test.YtgdamingkgafhaaDoorHandD
import Derived.Test.YtgdamingkgafhaaDoorHandE
namespace Go.Proofs.YtgdamingkgafhaaDoor.P
open Go.RowKit Go.Proofs.YtgdamingkgafhaaDoorW.PrintWords Go.Proofs.YtgdamingkgafhaaDoorW.PrintLast Go.Proofs.YtgdamingkgafhaaDoorW.PrintMore
attribute [local go_sem] max2_int min2_int max_two min_two max_three min_three max_four min_four   -- for this text's walks alone
set_option linter.unusedVariables false
set_option linter.unusedSimpArgs false

/-! ### access_Subscribes: function 19, by hand -/
def access_Subscribes.f (k : Nat) (l0 : List (S42)) (a1_0 : ByteArray) (a1_1 : ByteArray) (a2 : ByteArray) : Option (Bool) := allF (fun r => ruleF k a1_0 a1_1 2 r (fun e => match_Meets.f k e a2)) l0 (fun r => if r.f0 = true then (access_Expand.f k r.f3 a1_0 a1_1).bind fun e => match_Covers.f k e a2 else some false)
theorem access_Subscribes.mono : ∀ a0 a1 a2 a3 k, LeO (access_Subscribes.f k a0 a1 a2 a3) (access_Subscribes.f (k + 1) a0 a1 a2 a3) := by
 intro a0 a1 a2 a3 k
 exact allF_mono (fun r => ruleF_mono a1 a2 2 r k fun s => match_Meets.mono _ _ k) fun r => LeO.ite (LeO.bind (access_Expand.mono _ _ _ k) fun e => match_Covers.mono _ _ k) (LeO.refl _)
theorem access_Subscribes.calls (k : Nat) (A0 : Option Addr) (c0 : Nat) (l0 : List (S42)) (a1_0 : ByteArray) (a1_1 : ByteArray) (a2 : ByteArray) (r : Bool) (w : World) (hr0 : Kd.C k42 w A0 l0.length l0) (hc0 : l0.length ≤ c0) (h : access_Subscribes.f k l0 a1_0 a1_1 a2 = some r) :
  Calls Tryd.prog 19 #[.slice A0 l0.length c0, .agg #[.string a1_0, .string a1_1], .string a2] w fun e w' => e = .returned (.bool r) ∧ Below w.heap.size w w' := by
 exact Subscribes_calls k A0 c0 l0 a1_0 a1_1 a2 r w hr0 hc0 h


/-! ### access_Shadowed: function 22, by hand -/
def access_Shadowed.f (k : Nat) (l0 : List (S42)) : Option (List Int) := shadF k l0
theorem access_Shadowed.mono : ∀ a0 k, LeO (access_Shadowed.f k a0) (access_Shadowed.f (k + 1) a0) := by
 intro a0 k
 exact shadG_mono k a0 _ _ _
theorem access_Shadowed.calls (k : Nat) (A0 : Option Addr) (c0 : Nat) (l0 : List (S42)) (r : List Int) (w : World) (hr0 : Kd.C k42 w A0 l0.length l0) (hc0 : l0.length ≤ c0) (h : access_Shadowed.f k l0 = some r) :
  Calls Tryd.prog 22 #[.slice A0 l0.length c0] w fun e w' => ∃ v0_ : Value, e = .returned (v0_) ∧ Kd.R (Kd.int .i64) 3 w' w.heap.size (fun _ => True) v0_ r ∧ Below w.heap.size w w' := by
 exact Shadowed_calls k A0 c0 l0 r w hr0 hc0 h


end Go.Proofs.YtgdamingkgafhaaDoor.P
