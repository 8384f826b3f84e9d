/- The examples that every statement of the layer holds. -/
import Derived.Test.YtegcobkhejpmkaaDoorPx13
import Derived.Test.YtegcobkhejpmkaaDoorStr
-- needs: brokerlaw45_awake
namespace Go.Proofs.YtegcobkhejpmkaaDoor.Pure
open Go.RowKit Go.Proofs.YtegcobkhejpmkaaDoor.P Go.Proofs.YtegcobkhejpmkaaDoorW.PrintWords Go.Proofs.YtegcobkhejpmkaaDoorW.PrintLast Go.Proofs.YtegcobkhejpmkaaDoor.Ext
theorem awake_ev : Ev (fun k => brokerlaw45_awake.f k) true := by
  refine Ev.of (k := 200) ?_ (by decide +kernel)
  intro k
  exact brokerlaw45_awake.mono k
end Go.Proofs.YtegcobkhejpmkaaDoor.Pure
