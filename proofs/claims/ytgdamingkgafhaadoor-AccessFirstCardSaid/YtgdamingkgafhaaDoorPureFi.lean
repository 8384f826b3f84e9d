/- The law AccessFirst over the printed functions. -/
import Derived.Test.YtgdamingkgafhaaDoorPx25
import Derived.Test.YtgdamingkgafhaaDoorPureRa
import Derived.Test.YtgdamingkgafhaaDoorKinds
-- needs: brokerlaw20_AccessFirst
namespace Go.Proofs.YtgdamingkgafhaaDoor.Pure
open Go.RowKit Go.Proofs.YtgdamingkgafhaaDoor.P Go.Proofs.YtgdamingkgafhaaDoorW.PrintWords Go.Proofs.YtgdamingkgafhaaDoorW.PrintLast Go.Proofs.YtgdamingkgafhaaDoor.Ext

theorem AccessFirst' (l : List S42) {N : Nat} (_ : l.length ≤ N ∧ l.length ≤ maxLen ∧ ∀ x ∈ l, True ∧ (x.f1.size ≤ N ∧ x.f1.size ≤ maxLen) ∧ (Lit.int .i64 x.f2).wf = true ∧ (x.f3.size ≤ N ∧ x.f3.size ≤ maxLen))
    (r : S42) {N2 : Nat} (_ : True ∧ (r.f1.size ≤ N2 ∧ r.f1.size ≤ maxLen) ∧ (Lit.int .i64 r.f2).wf = true ∧ (r.f3.size ≤ N2 ∧ r.f3.size ≤ maxLen))
    (w : Br.S28) {M : Nat} (_ : (w.f0.size ≤ M ∧ w.f0.size ≤ maxLen) ∧ (w.f1.size ≤ M ∧ w.f1.size ≤ maxLen)) (a : Int) (_ : (Lit.int .i64 a).wf = true) (o : BA) (_ : o.size ≤ 140737488351232) :
    ∃ k, brokerlaw20_AccessFirst.f k l r.f0 r.f1 r.f2 r.f3 w.f0 w.f1 a o = some true := by
  suffices h : Ev (fun k => brokerlaw20_AccessFirst.f k l r.f0 r.f1 r.f2 r.f3 w.f0 w.f1 a o) true from h.rounds
  have awake : Ev (fun k => (brokerlaw20_awake.f k).bind fun t => some t) true := ev_bind awake_ev (ev_some rfl)
  have done : Ev (fun k => brokerlaw20_AccessFirst.j0 k l a o ([r] ++ l) true r.f0 r.f1 r.f2 r.f3 w.f0 w.f1) true := by
    refine ev_succ ?_
    simp only [brokerlaw20_AccessFirst.j0, if_true]
    exact awake
  simp only [brokerlaw20_AccessFirst.f]
  by_cases hn : (l.length : Int) > 31
  · exact ev_pos hn awake
  · refine ev_neg hn (ev_const (a := [r]) rfl (ev_pos (by simp; omega) (ev_const (a := [r] ++ l) rfl (ev_bind (refcheck_ev ([r] ++ l)) ?_))))
    by_cases hk : chkB ([r] ++ l) = 0
    · refine ev_pos hk (ev_const (light_val w.f0 w.f1 o) ?_)
      have g := good_of hk
      cases hL : lightB w.f0 w.f1 o
      · exact done
      · obtain ⟨h0, h1, h2⟩ := light_is hL
        have sh := good_short g
        have shl : Short l := fun x hx => sh x (List.mem_append_right _ hx)
        have sh1 : Short [(⟨true, r.f1, r.f2, r.f3⟩ : S42)] := fun x hx => by
          obtain rfl := List.mem_singleton.1 hx
          exact sh r (List.mem_append_left _ (List.mem_singleton.2 rfl))
        refine ev_succ ?_
        simp only [brokerlaw20_AccessFirst.j0, Bool.not_true]
        refine ev_ff (ev_bind (allowed_ev ([r] ++ l) sh w.f0 w.f1 a o h0 h1 (by omega)) (ev_bind (refallowed_ev [(⟨true, r.f1, r.f2, r.f3⟩ : S42)] (by simp) sh1 w.f0 w.f1 a o h0 h1 (by omega)) ?_))
        have e1 : allowB w.f0 w.f1 a o [(⟨true, r.f1, r.f2, r.f3⟩ : S42)] = allowP w.f0 w.f1 a o r := by
          rw [show allowB w.f0 w.f1 a o [(⟨true, r.f1, r.f2, r.f3⟩ : S42)] = if allowP w.f0 w.f1 a o (⟨true, r.f1, r.f2, r.f3⟩ : S42) = true then true else allowB w.f0 w.f1 a o [] from first_cons _ _ _ _]
          rw [show allowP w.f0 w.f1 a o (⟨true, r.f1, r.f2, r.f3⟩ : S42) = allowP w.f0 w.f1 a o r from rfl, show allowB w.f0 w.f1 a o [] = false from rfl]
          cases allowP w.f0 w.f1 a o r <;> rfl
        have e2 : allowB w.f0 w.f1 a o ([r] ++ l) = if allowP w.f0 w.f1 a o r = true then r.f0 else allowB w.f0 w.f1 a o l := first_cons _ _ _ _
        rw [e1, e2]
        refine ev_if (fun hp => ?_) (fun hp => ?_)
        · refine ev_bind awake_ev (ev_tt (ev_some ?_))
          rw [if_pos hp]
          simp
        · refine ev_bind awake_ev (ev_tt (ev_bind (allowed_ev l shl w.f0 w.f1 a o h0 h1 (by omega)) (ev_some ?_)))
          rw [if_neg (by rw [hp]; decide)]
          simp
    · exact ev_neg hk done
end Go.Proofs.YtgdamingkgafhaaDoor.Pure
