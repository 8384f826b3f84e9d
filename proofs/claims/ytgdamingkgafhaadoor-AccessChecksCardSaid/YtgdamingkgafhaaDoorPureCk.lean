/- The law AccessChecks over the printed functions. -/
import Derived.Test.YtgdamingkgafhaaDoorPx12
import Derived.Test.YtgdamingkgafhaaDoorPureX
-- needs: brokerlaw20_AccessChecks
namespace Go.Proofs.YtgdamingkgafhaaDoor.Pure
open Go.RowKit Go.Proofs.YtgdamingkgafhaaDoor.P Go.Proofs.YtgdamingkgafhaaDoorW.PrintWords Go.Proofs.YtgdamingkgafhaaDoorW.PrintLast Go.Proofs.YtgdamingkgafhaaDoor.Ext
theorem AccessChecks' (l : List S42) {N : Nat} (h : l.length ≤ N ∧ l.length ≤ maxLen ∧ ∀ x ∈ l, True ∧ (x.f1.size ≤ N ∧ x.f1.size ≤ maxLen) ∧ (Lit.int .i64 x.f2).wf = true ∧ (x.f3.size ≤ N ∧ x.f3.size ≤ maxLen)) :
    ∃ k, brokerlaw20_AccessChecks.f k l = some true := by
  suffices h : Ev (fun k => brokerlaw20_AccessChecks.f k l) true from h.rounds
  simp only [brokerlaw20_AccessChecks.f]
  refine ev_bind awake_ev (ev_tt (ev_bind (check_ev l fun r hr => ?_) (ev_bind (refcheck_ev l) (ev_some ?_))))
  · obtain ⟨_, h1, _, h3⟩ := h.2.2 r hr
    exact ⟨h1.2, h3.2⟩
  · simp
end Go.Proofs.YtgdamingkgafhaaDoor.Pure
