
/- What the printed functions of the reference of match answer: wild and System. -/
import Derived.Test.YtegcobkhejpmkaaDoorPx18
import Derived.Test.YtegcobkhejpmkaaDoorPureM
namespace Go.Proofs.YtegcobkhejpmkaaDoor.Pure
open Go.RowKit Go.Proofs.YtegcobkhejpmkaaDoor.P Go.Proofs.YtegcobkhejpmkaaDoorW.PrintWords Go.Proofs.YtegcobkhejpmkaaDoorW.PrintLast Go.Proofs.YtegcobkhejpmkaaDoor.Ext

theorem refsystem_val (s : BA) : brokerref01_System.f s = some (sysB s) := system_val s
theorem refwild_val (l : List BA) (h : l ≠ []) : brokerref02_wild.f l = some (wildL l) := by
  unfold brokerref02_wild.f
  cases l with
  | nil => exact absurd rfl h
  | cons a ar =>
    rw [if_pos (by simp only [List.length_cons]; omega)]
    show (if a.toList = [43] then some true else some (a.toList == ([35] : List UInt8))) = some (isP a || isR a)
    cases hp : isP a
    · rw [if_neg (isP_not hp), beqR]; rfl
    · rw [if_pos (isP_is hp)]; rfl
end Go.Proofs.YtegcobkhejpmkaaDoor.Pure
