/- The examples that every statement of the layer holds. -/
import Derived.Test.YtfikhfahpdhjbaaDoorPx7
import Derived.Test.YtfikhfahpdhjbaaDoorStr
-- needs: brokerlaw46_awake
namespace Go.Proofs.YtfikhfahpdhjbaaDoor.Pure
open Go.RowKit Go.Proofs.YtfikhfahpdhjbaaDoor.P Go.Proofs.YtfikhfahpdhjbaaDoorW.PrintWords Go.Proofs.YtfikhfahpdhjbaaDoorW.PrintLast Go.Proofs.YtfikhfahpdhjbaaDoor.Ext
theorem awake_ev : Ev (fun k => brokerlaw46_awake.f k) true := by
  refine Ev.of (k := 60) ?_ (by decide +kernel)
  intro k
  exact brokerlaw46_awake.mono k
end Go.Proofs.YtfikhfahpdhjbaaDoor.Pure
