/- The laws MatchCovers and MatchLiteral over the printed functions. -/
import Derived.Test.YtmgmkgnenopelaaDoorPureM
import Derived.Test.YtmgmkgnenopelaaDoorPx7
namespace Go.Proofs.YtmgmkgnenopelaaDoor.Pure
open Go.RowKit Go.Proofs.YtmgmkgnenopelaaDoor.P Go.Proofs.YtmgmkgnenopelaaDoorW.PrintWords Go.Proofs.YtmgmkgnenopelaaDoorW.PrintLast Go.Proofs.YtmgmkgnenopelaaDoor.Ext

theorem awake_ev : Ev (fun k => brokerlaw02_awake.f k) true := by
  refine Ev.of (k := 40) ?_ (by decide +kernel)
  intro k
  exact brokerlaw02_awake.mono k
end Go.Proofs.YtmgmkgnenopelaaDoor.Pure
