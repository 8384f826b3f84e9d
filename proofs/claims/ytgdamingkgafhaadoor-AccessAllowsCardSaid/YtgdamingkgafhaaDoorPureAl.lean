/- The law AccessAllows over the printed functions. -/
import Derived.Test.YtgdamingkgafhaaDoorPx24
import Derived.Test.YtgdamingkgafhaaDoorPureRa
import Derived.Test.YtgdamingkgafhaaDoorKinds
-- needs: brokerlaw20_AccessAllows
namespace Go.Proofs.YtgdamingkgafhaaDoor.Pure
open Go.RowKit Go.Proofs.YtgdamingkgafhaaDoor.P Go.Proofs.YtgdamingkgafhaaDoorW.PrintWords Go.Proofs.YtgdamingkgafhaaDoorW.PrintLast Go.Proofs.YtgdamingkgafhaaDoor.Ext

theorem AccessAllows' (l : List S42) {N : Nat} (_ : l.length ≤ N ∧ l.length ≤ maxLen ∧ ∀ x ∈ l, True ∧ (x.f1.size ≤ N ∧ x.f1.size ≤ maxLen) ∧ (Lit.int .i64 x.f2).wf = true ∧ (x.f3.size ≤ N ∧ x.f3.size ≤ maxLen))
    (w : Br.S28) {M : Nat} (_ : (w.f0.size ≤ M ∧ w.f0.size ≤ maxLen) ∧ (w.f1.size ≤ M ∧ w.f1.size ≤ maxLen)) (a : Int) (_ : (Lit.int .i64 a).wf = true) (o : BA) (_ : o.size ≤ 140737488351232) :
    ∃ k, brokerlaw20_AccessAllows.f k l w.f0 w.f1 a o = some true := by
  suffices h : Ev (fun k => brokerlaw20_AccessAllows.f k l w.f0 w.f1 a o) true from h.rounds
  have done : Ev (fun k => brokerlaw20_AccessAllows.j0 k l a o true w.f0 w.f1) true := by
    refine ev_succ ?_
    simp only [brokerlaw20_AccessAllows.j0, if_true]
    exact ev_bind awake_ev (ev_some rfl)
  simp only [brokerlaw20_AccessAllows.f]
  refine ev_bind (refcheck_ev l) ?_
  by_cases hk : chkB l = 0
  · refine ev_pos hk (ev_const (light_val w.f0 w.f1 o) ?_)
    have g := good_of hk
    cases hL : lightB w.f0 w.f1 o
    · exact done
    · obtain ⟨h0, h1, h2⟩ := light_is hL
      refine ev_succ ?_
      simp only [brokerlaw20_AccessAllows.j0, Bool.not_true]
      refine ev_ff (ev_bind awake_ev (ev_tt (ev_bind (allowed_ev l (good_short g) w.f0 w.f1 a o h0 h1 (by omega)) (ev_bind (refallowed_ev l (by have := g.1; omega) (good_short g) w.f0 w.f1 a o h0 h1 (by omega)) (ev_some (by simp))))))
  · exact ev_neg hk done
end Go.Proofs.YtgdamingkgafhaaDoor.Pure
