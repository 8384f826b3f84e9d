/- The law MatchTells over the printed functions. -/
import Derived.Test.YtmgmkgnenopelaaDoorPureA
import Derived.Test.YtmgmkgnenopelaaDoorPureR
namespace Go.Proofs.YtmgmkgnenopelaaDoor.Pure
open Go.RowKit Go.Proofs.YtmgmkgnenopelaaDoor.P Go.Proofs.YtmgmkgnenopelaaDoorW.PrintWords Go.Proofs.YtmgmkgnenopelaaDoorW.PrintLast Go.Proofs.YtmgmkgnenopelaaDoor.Ext

theorem MatchTells' (a : BA) (ha : a.size ≤ 140737488351232) (b : BA) (hb : b.size ≤ 140737488351232) : ∃ k, brokerlaw02_MatchTells.f k a b = some true := by
  suffices h : Ev (fun k => brokerlaw02_MatchTells.f k a b) true from h.rounds
  simp only [brokerlaw02_MatchTells.f]
  refine ev_bind awake_ev (ev_tt ?_)
  exact ev_bind (matches_ev a b (by omega) (by omega)) (ev_bind (refmatches_ev a b (by omega) (by omega)) (ev_some (by simp)))
end Go.Proofs.YtmgmkgnenopelaaDoor.Pure
