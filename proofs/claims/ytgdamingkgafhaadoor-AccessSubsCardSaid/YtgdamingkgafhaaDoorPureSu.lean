/- The reference's Subscribes, and the law AccessSubs over the printed functions. -/
import Derived.Test.YtgdamingkgafhaaDoorPx22
import Derived.Test.YtgdamingkgafhaaDoorPx35
import Derived.Test.YtgdamingkgafhaaDoorPx36
import Derived.Test.YtgdamingkgafhaaDoorPureY
import Derived.Test.YtgdamingkgafhaaDoorPureRx
import Derived.Test.YtgdamingkgafhaaDoorPureE
import Derived.Test.YtgdamingkgafhaaDoorKinds
-- needs: brokerlaw20_AccessSubs brokerref20_Subscribes brokerref20_applies
namespace Go.Proofs.YtgdamingkgafhaaDoor.Pure
open Go.RowKit Go.Proofs.YtgdamingkgafhaaDoor.P Go.Proofs.YtgdamingkgafhaaDoorW.PrintWords Go.Proofs.YtgdamingkgafhaaDoorW.PrintLast Go.Proofs.YtgdamingkgafhaaDoor.Ext

theorem refapplies_val (r : S42) (u : BA) (a : Int) : brokerref20_applies.f r.f0 r.f1 r.f2 r.f3 u a = some (appliesB u a r) := by
  have act : (if r.f2 = 0 then some true else some (r.f2 == a)) = some (decide (r.f2 = 0) || decide (r.f2 = a)) := by
    by_cases h : r.f2 = 0
    · rw [if_pos h, decide_eq_true h]; rfl
    · rw [if_neg h, decide_eq_false h, Bool.false_or]; rfl
  unfold brokerref20_applies.f appliesB
  by_cases h1 : r.f1.toList = ([42] : List UInt8)
  · rw [if_pos h1, act, decide_eq_true h1]; rfl
  · rw [if_neg h1]
    by_cases h2 : r.f1.toList = u.toList
    · rw [if_pos h2, act, decide_eq_true h2, decide_eq_false h1]; rfl
    · rw [if_neg h2, decide_eq_false h1, decide_eq_false h2]; rfl
theorem first_cons (p fin : S42 → Bool) (a : S42) (ar : List S42) : firstB p fin (a :: ar) = if p a = true then fin a else firstB p fin ar := by
  unfold firstB
  rw [List.find?]
  cases p a <;> rfl
theorem refsubs_l0 (l : List S42) (hn : l.length ≤ 1000000) (hl : Short l) (c u : BA) (f : BA) (hc : c.size ≤ 64) (hu : u.size ≤ 64) (hf : f.size ≤ 9223372036854775806) : ∀ (rs : List S42) (i : Nat), l.drop i = rs → i ≤ l.length →
    Ev (fun k => brokerref20_Subscribes.l0 k l f (i : Int) c u) (subB c u f rs) := by
  intro rs
  induction rs with
  | nil =>
    intro i hd hi
    have := drop_nil hd
    refine ev_succ ?_
    simp only [brokerref20_Subscribes.l0]
    exact ev_neg (by omega) (ev_some rfl)
  | cons r ar ih =>
    intro i hd hi
    obtain ⟨hlt, ha, hd2⟩ := drop_cons z42 hd
    have hm : r ∈ l := List.mem_of_mem_drop (by rw [hd]; exact List.mem_cons_self ..)
    have next := ih (i + 1) hd2 (by omega)
    have hsz := expB_size r.f3 c u (by have := hl r hm; omega) hc hu
    refine ev_succ ?_
    simp only [brokerref20_Subscribes.l0, rdT, ha]
    refine ev_pos (by omega) (ev_pos (by omega) (ev_bind (refexpand_ev r.f3 c u (by have := hl r hm; omega) hc hu) (ev_const (refapplies_val r u 2) ?_)))
    rw [w64 (by omega) (by omega), show (i : Int) + 1 = ((i + 1 : Nat) : Int) from by omega]
    rw [show subB c u f (r :: ar) = if subP c u f r = true then (r.f0 && coverB (expB c u r.f3) f) else subB c u f ar from first_cons _ _ _ _]
    unfold subP
    refine ev_if (fun hp => ?_) (fun hp => ?_)
    · rw [hp, Bool.true_and]
      refine ev_bind (refmeets_ev _ f hsz hf) ?_
      cases meetB (expB c u r.f3) f
      · exact ev_ff next
      · refine ev_tt ?_
        cases r.f0
        · exact ev_ff (ev_some rfl)
        · exact ev_tt (ev_bind (refcovers_ev _ f hsz hf) (ev_some rfl))
    · rw [hp, Bool.false_and]
      exact next
theorem light_is {c u s : BA} (h : lightB c u s = true) : c.size ≤ 64 ∧ u.size ≤ 64 ∧ s.size ≤ 1000 := of_decide_eq_true h
theorem AccessSubs' (l : List S42) {N : Nat} (_ : l.length ≤ N ∧ l.length ≤ maxLen ∧ ∀ x ∈ l, True ∧ (x.f1.size ≤ N ∧ x.f1.size ≤ maxLen) ∧ (Lit.int .i64 x.f2).wf = true ∧ (x.f3.size ≤ N ∧ x.f3.size ≤ maxLen))
    (w : Br.S28) {M : Nat} (_ : (w.f0.size ≤ M ∧ w.f0.size ≤ maxLen) ∧ (w.f1.size ≤ M ∧ w.f1.size ≤ maxLen)) (f : BA) (_ : f.size ≤ 140737488351232) :
    ∃ k, brokerlaw20_AccessSubs.f k l w.f0 w.f1 f = some true := by
  suffices h : Ev (fun k => brokerlaw20_AccessSubs.f k l w.f0 w.f1 f) true from h.rounds
  have done : Ev (fun k => brokerlaw20_AccessSubs.j0 k l f true w.f0 w.f1) true := by
    refine ev_succ ?_
    simp only [brokerlaw20_AccessSubs.j0, if_true]
    exact ev_bind awake_ev (ev_some rfl)
  simp only [brokerlaw20_AccessSubs.f]
  refine ev_bind (refcheck_ev l) ?_
  by_cases hk : chkB l = 0
  · refine ev_pos hk (ev_const (light_val w.f0 w.f1 f) ?_)
    have g := good_of hk
    cases hL : lightB w.f0 w.f1 f
    · exact done
    · obtain ⟨h0, h1, h2⟩ := light_is hL
      refine ev_succ ?_
      simp only [brokerlaw20_AccessSubs.j0, Bool.not_true]
      refine ev_ff (ev_bind awake_ev (ev_tt (ev_bind (subscribes_ev l (good_short g) w.f0 w.f1 f h0 h1 (by omega)) (ev_bind (a := subB w.f0 w.f1 f l) ?_ (ev_some (by simp))))))
      simp only [brokerref20_Subscribes.f]
      exact refsubs_l0 l (by have := g.1; omega) (good_short g) w.f0 w.f1 f h0 h1 (by omega) l 0 rfl (Nat.zero_le _)
  · exact ev_neg hk done
end Go.Proofs.YtgdamingkgafhaaDoor.Pure
