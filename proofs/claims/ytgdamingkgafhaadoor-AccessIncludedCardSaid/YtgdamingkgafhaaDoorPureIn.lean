/- The law AccessIncluded over the printed functions. -/
import Derived.Test.YtgdamingkgafhaaDoorPx21
import Derived.Test.YtgdamingkgafhaaDoorPureY
import Derived.Test.YtgdamingkgafhaaDoorPureR
import Derived.Test.YtgdamingkgafhaaDoorKinds
-- needs: brokerlaw20_AccessIncluded
namespace Go.Proofs.YtgdamingkgafhaaDoor.Pure
open Go.RowKit Go.Proofs.YtgdamingkgafhaaDoor.P Go.Proofs.YtgdamingkgafhaaDoorW.PrintWords Go.Proofs.YtgdamingkgafhaaDoorW.PrintLast Go.Proofs.YtgdamingkgafhaaDoor.Ext

theorem light_is {c u s : BA} (h : lightB c u s = true) : c.size ≤ 64 ∧ u.size ≤ 64 ∧ s.size ≤ 1000 := of_decide_eq_true h
theorem first_cons (p fin : S42 → Bool) (a : S42) (ar : List S42) : firstB p fin (a :: ar) = if p a = true then fin a else firstB p fin ar := by
  unfold firstB
  rw [List.find?]
  cases p a <;> rfl
/-- Who may subscribe is allowed to. -/
theorem included (c u f n : BA) (hm : matchB f n = true) : ∀ l : List S42, subB c u f l = true → allowB c u 2 n l = true
  | [], h => by cases h
  | r :: rs, h => by
    unfold subB at h
    unfold allowB
    rw [first_cons] at h ⊢
    cases hs : subP c u f r
    · rw [hs, if_neg (by decide)] at h
      have : allowP c u 2 n r = false := Bool.eq_false_iff.2 fun ha => by
        unfold allowP at ha
        unfold subP at hs
        rw [Bool.and_eq_true] at ha
        rw [ha.1, Bool.true_and, match_meetB ha.2 hm] at hs
        cases hs
      rw [this, if_neg (by decide)]
      exact included c u f n hm rs h
    · rw [hs, if_pos rfl, Bool.and_eq_true] at h
      unfold subP at hs
      rw [Bool.and_eq_true] at hs
      have : allowP c u 2 n r = true := by
        unfold allowP
        rw [hs.1, cover_matchB h.2 hm]
        rfl
      rw [this, if_pos rfl]
      exact h.1
theorem AccessIncluded' (l : List S42) {N : Nat} (_ : l.length ≤ N ∧ l.length ≤ maxLen ∧ ∀ x ∈ l, True ∧ (x.f1.size ≤ N ∧ x.f1.size ≤ maxLen) ∧ (Lit.int .i64 x.f2).wf = true ∧ (x.f3.size ≤ N ∧ x.f3.size ≤ maxLen))
    (w : Br.S28) {M : Nat} (_ : (w.f0.size ≤ M ∧ w.f0.size ≤ maxLen) ∧ (w.f1.size ≤ M ∧ w.f1.size ≤ maxLen)) (f : BA) (_ : f.size ≤ 140737488351232) (n : BA) (_ : n.size ≤ 140737488351232) :
    ∃ k, brokerlaw20_AccessIncluded.f k l w.f0 w.f1 f n = some true := by
  suffices h : Ev (fun k => brokerlaw20_AccessIncluded.f k l w.f0 w.f1 f n) true from h.rounds
  have done : Ev (fun k => brokerlaw20_AccessIncluded.j0 k l f n true w.f0 w.f1) true := by
    refine ev_succ ?_
    simp only [brokerlaw20_AccessIncluded.j0, if_true]
    exact ev_bind awake_ev (ev_some rfl)
  simp only [brokerlaw20_AccessIncluded.f]
  refine ev_bind (refcheck_ev l) ?_
  by_cases hk : chkB l = 0
  · have g := good_of hk
    refine ev_pos hk (ev_const (light_val w.f0 w.f1 f) (ev_if (fun hL => ?_) (fun _ => done)))
    obtain ⟨h0, h1, h2⟩ := light_is hL
    refine ev_const (light_val w.f0 w.f1 n) ?_
    cases hL2 : lightB w.f0 w.f1 n
    · exact done
    · obtain ⟨_, _, h3⟩ := light_is hL2
      have none_ : Ev (fun k => brokerlaw20_AccessIncluded.j1 k l f n true w.f0 w.f1) true := by
        refine ev_succ ?_
        simp only [brokerlaw20_AccessIncluded.j1, if_true]
        refine ev_bind awake_ev (ev_tt (ev_bind (subscribes_ev [] (fun _ h => by cases h) w.f0 w.f1 f h0 h1 (by omega)) ?_))
        refine ev_neg (fun h => by cases h) (ev_bind (allowed_ev [] (fun _ h => by cases h) w.f0 w.f1 2 n h0 h1 (by omega)) (ev_some rfl))
      refine ev_succ ?_
      simp only [brokerlaw20_AccessIncluded.j0, Bool.not_true]
      refine ev_ff (ev_bind (subscribes_ev l (good_short g) w.f0 w.f1 f h0 h1 (by omega)) (ev_if (fun hs => ?_) (fun _ => none_)))
      refine ev_bind (refmatches_ev f n (by omega) (by omega)) ?_
      cases hm : matchB f n
      · exact none_
      · refine ev_succ ?_
        simp only [brokerlaw20_AccessIncluded.j1, Bool.not_true]
        refine ev_ff (ev_bind awake_ev (ev_tt (ev_bind (allowed_ev l (good_short g) w.f0 w.f1 2 n h0 h1 (by omega)) (ev_some ?_))))
        rw [included w.f0 w.f1 f n hm l hs]
  · exact ev_neg hk done
end Go.Proofs.YtgdamingkgafhaaDoor.Pure
