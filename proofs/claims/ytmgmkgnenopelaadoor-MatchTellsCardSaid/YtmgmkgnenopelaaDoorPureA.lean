/- The laws MatchCovers and MatchLiteral over the printed functions. -/
import Derived.Test.YtmgmkgnenopelaaDoorPureM
import Derived.Test.YtmgmkgnenopelaaDoorPx7
namespace Go.Proofs.YtmgmkgnenopelaaDoor.Pure
open Go.RowKit Go.Proofs.YtmgmkgnenopelaaDoor.P Go.Proofs.YtmgmkgnenopelaaDoorW.PrintWords Go.Proofs.YtmgmkgnenopelaaDoorW.PrintLast Go.Proofs.YtmgmkgnenopelaaDoor.Ext

theorem awake_ev : Ev (fun k => brokerlaw02_awake.f k) true := by
  refine Ev.of (k := 40) ?_ (by decide +kernel)
  intro k
  exact brokerlaw02_awake.mono k
theorem MatchCovers' (a : BA) (ha : a.size ≤ 140737488351232) (b : BA) (hb : b.size ≤ 140737488351232) (n : BA) (hn : n.size ≤ 140737488351232) : ∃ k, brokerlaw02_MatchCovers.f k a b n = some true := by
  suffices h : Ev (fun k => brokerlaw02_MatchCovers.f k a b n) true from h.rounds
  simp only [brokerlaw02_MatchCovers.f]
  refine ev_bind awake_ev (ev_tt ?_)
  refine ev_bind (covers_ev a b (by omega) (by omega)) (ev_if (fun h => ?_) (fun _ => ev_some rfl))
  refine ev_bind (matches_ev b n (by omega) (by omega)) (ev_if (fun k => ?_) (fun _ => ev_some rfl))
  exact ev_bind (matches_ev a n (by omega) (by omega)) (ev_some (by rw [cover_matchB h k]))
theorem MatchLiteral' (a : BA) (ha : a.size ≤ 140737488351232) (b : BA) (hb : b.size ≤ 140737488351232) : ∃ k, brokerlaw02_MatchLiteral.f k a b = some true := by
  suffices h : Ev (fun k => brokerlaw02_MatchLiteral.f k a b) true from h.rounds
  simp only [brokerlaw02_MatchLiteral.f]
  refine ev_bind awake_ev (ev_tt ?_)
  refine ev_const (topic_valid a (by omega)) (ev_if (fun hv => ?_) (fun hv => ?_))
  · refine ev_bind (matches_ev a a (by omega) (by omega)) ?_
    rw [literal_self hv]
    refine ev_tt (ev_const (topic_valid a (by omega)) ?_)
    rw [hv]
    refine ev_tt ?_
    by_cases e : a.toList = b.toList
    · exact ev_pos e (ev_some rfl)
    · refine ev_neg e (ev_bind (matches_ev a b (by omega) (by omega)) (ev_some ?_))
      rw [literal_other hv (fun h => e (by rw [h]))]
      rfl
  · refine ev_const (topic_valid a (by omega)) ?_
    rw [hv]
    exact ev_ff (ev_some rfl)
end Go.Proofs.YtmgmkgnenopelaaDoor.Pure
