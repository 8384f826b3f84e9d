/- The law AccessExpands over the printed functions. -/
import Derived.Test.YtgdamingkgafhaaDoorPx17
import Derived.Test.YtgdamingkgafhaaDoorPureRx
import Derived.Test.YtgdamingkgafhaaDoorKinds
-- needs: brokerlaw20_AccessExpands
namespace Go.Proofs.YtgdamingkgafhaaDoor.Pure
open Go.RowKit Go.Proofs.YtgdamingkgafhaaDoor.P Go.Proofs.YtgdamingkgafhaaDoorW.PrintWords Go.Proofs.YtgdamingkgafhaaDoorW.PrintLast Go.Proofs.YtgdamingkgafhaaDoor.Ext

theorem light_is {c u s : BA} (h : lightB c u s = true) : c.size ≤ 64 ∧ u.size ≤ 64 ∧ s.size ≤ 1000 := of_decide_eq_true h
theorem AccessExpands' (f : BA) (_ : f.size ≤ 140737488351232) (w : Br.S28) {N : Nat} (_ : (w.f0.size ≤ N ∧ w.f0.size ≤ maxLen) ∧ (w.f1.size ≤ N ∧ w.f1.size ≤ maxLen)) :
    ∃ k, brokerlaw20_AccessExpands.f k f w.f0 w.f1 = some true := by
  suffices h : Ev (fun k => brokerlaw20_AccessExpands.f k f w.f0 w.f1) true from h.rounds
  simp only [brokerlaw20_AccessExpands.f]
  refine ev_const (light_val w.f0 w.f1 f) (ev_if (fun h => ?_) (fun h => ev_bind awake_ev (ev_some rfl)))
  obtain ⟨h0, h1, h2⟩ := light_is h
  exact ev_bind awake_ev (ev_tt (ev_bind (expand_ev f w.f0 w.f1 h2 h0 h1) (ev_bind (refexpand_ev f w.f0 w.f1 h2 h0 h1) (ev_some (by simp)))))
end Go.Proofs.YtgdamingkgafhaaDoor.Pure
