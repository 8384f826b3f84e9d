/- The references of Narrow and Select, and the law MatchLists over the printed functions. -/
import Derived.Test.YtmgmkgnenopelaaDoorPureD
import Derived.Test.YtmgmkgnenopelaaDoorPureC
import Derived.Test.YtmgmkgnenopelaaDoorPureR
import Derived.Test.YtmgmkgnenopelaaDoorPx11
import Derived.Test.YtmgmkgnenopelaaDoorPx13
namespace Go.Proofs.YtmgmkgnenopelaaDoor.Pure
open Go.RowKit Go.Proofs.YtmgmkgnenopelaaDoor.P Go.Proofs.YtmgmkgnenopelaaDoorW.PrintWords Go.Proofs.YtmgmkgnenopelaaDoorW.PrintLast Go.Proofs.YtmgmkgnenopelaaDoor.Ext

theorem stays_l0 (l : List BA) (hl : Lights l) (i : Nat) (hi : i < l.length) : ∀ d m, m + d = l.length → Ev (fun k => brokerref02_stays.l0 k l (i : Int) (m : Int)) (!anyD (drops l i) m d) := by
  obtain ⟨hn, hs⟩ := hl
  intro d
  induction d with
  | zero =>
    intro m hm
    refine ev_succ ?_
    simp only [brokerref02_stays.l0]
    exact ev_neg (by omega) (ev_some rfl)
  | succ d ih =>
    intro m hm
    have next := ih (m + 1) (by omega)
    have si := hs i hi
    have sm := hs m (by omega)
    rw [show anyD (drops l i) m (d + 1) = (drops l i m || anyD (drops l i) (m + 1) d) from rfl]
    refine ev_succ ?_
    simp only [brokerref02_stays.l0, rd_g]
    refine ev_pos (by omega) ?_
    rw [up1 m (by omega)]
    by_cases e : m = i
    · subst e
      rw [show drops l m m = false by simp [drops]]
      exact ev_pos rfl next
    · refine ev_neg (by omega) (ev_pos (by omega) (ev_pos (by omega) (ev_pos (by omega) ?_)))
      refine ev_bind (refcovers_ev _ _ (by omega) (by omega)) (ev_if (fun h => ?_) (fun h => ?_))
      · by_cases c : m < i
        · refine ev_pos (by omega) (ev_some ?_)
          rw [show drops l i m = true by simp [drops, e, c, h]]
          rfl
        · refine ev_neg (by omega) ?_
          cases hq : eqB (g l m) (g l i)
          · refine ev_neg (eqB_not hq) (ev_some ?_)
            rw [show drops l i m = true by simp [drops, e, hq, h]]
            rfl
          · rw [show drops l i m = false by simp [drops, c, hq]]
            exact ev_pos (eqB_is hq) next
      · rw [show drops l i m = false by simp [drops, h]]
        exact next
theorem refnarrow_l0 (l : List BA) (hl : Lights l) : ∀ d m out, m + d = l.length → out.length ≤ m → Ev (fun k => brokerref02_Narrow.l0 k l out (m : Int)) (out ++ selD (stayB l) l m d) := by
  have hl' := hl
  obtain ⟨hn, hs⟩ := hl'
  intro d
  induction d with
  | zero =>
    intro m out hm _
    refine ev_succ ?_
    simp only [brokerref02_Narrow.l0]
    exact ev_neg (by omega) (ev_some (congrArg some (List.append_nil _).symm))
  | succ d ih =>
    intro m out hm hout
    have sm := hs m (by omega)
    refine ev_succ ?_
    simp only [brokerref02_Narrow.l0, rd_g]
    refine ev_pos (by omega) ?_
    rw [up1 m (by omega)]
    have st : Ev (fun k => brokerref02_stays.f k l (m : Int)) (stayB l m) := by
      simp only [brokerref02_stays.f, rd_g]
      refine ev_pos (by omega) (ev_pos (by omega) (ev_bind (reffilter_ev _ (by omega)) ?_))
      unfold stayB
      refine ev_if (fun h => ?_) (fun h => ?_)
      · rw [show filterB (g l m) = true from h]
        exact stays_l0 l hl m (by omega) l.length 0 (by omega)
      · rw [show filterB (g l m) = false from h]
        exact ev_some rfl
    refine ev_bind st (ev_if (fun h => ?_) (fun h => ?_))
    · rw [show selD (stayB l) l m (d + 1) = g l m :: selD (stayB l) l (m + 1) d by simp [selD, h]]
      have := ih (m + 1) (out ++ [g l m]) (by omega) (by rw [List.length_append]; simp only [List.length_cons, List.length_nil]; omega)
      rw [List.append_assoc] at this
      exact ev_pos (by omega) (ev_pos (by omega) this)
    · rw [show selD (stayB l) l m (d + 1) = selD (stayB l) l (m + 1) d by simp [selD, h]]
      exact ih (m + 1) out (by omega) (by omega)
theorem refnarrow_ev (l : List BA) (hl : Lights l) : Ev (fun k => brokerref02_Narrow.f k l) (narrowB l) := by
  simp only [brokerref02_Narrow.f]
  exact refnarrow_l0 l hl l.length 0 [] (by omega) (Nat.le_refl _)
theorem refselect_l0 (f : BA) (hf : f.size ≤ 9223372036854775806) (l : List BA) (hl : Lights l) : ∀ d m out, m + d = l.length → out.length ≤ m → Ev (fun k => brokerref02_Select.l0 k f l out (m : Int)) (out ++ selD (fun m => matchB f (g l m)) l m d) := by
  obtain ⟨hn, hs⟩ := hl
  intro d
  induction d with
  | zero =>
    intro m out hm _
    refine ev_succ ?_
    simp only [brokerref02_Select.l0]
    exact ev_neg (by omega) (ev_some (congrArg some (List.append_nil _).symm))
  | succ d ih =>
    intro m out hm hout
    have sm := hs m (by omega)
    refine ev_succ ?_
    simp only [brokerref02_Select.l0, rd_g]
    refine ev_pos (by omega) (ev_pos (by omega) ?_)
    rw [up1 m (by omega)]
    refine ev_bind (refmatches_ev f _ hf (by omega)) (ev_if (fun h => ?_) (fun h => ?_))
    · rw [show selD (fun m => matchB f (g l m)) l m (d + 1) = g l m :: selD (fun m => matchB f (g l m)) l (m + 1) d by rw [selD, if_pos h]]
      have := ih (m + 1) (out ++ [g l m]) (by omega) (by rw [List.length_append]; simp only [List.length_cons, List.length_nil]; omega)
      rw [List.append_assoc] at this
      exact ev_pos (by omega) this
    · rw [show selD (fun m => matchB f (g l m)) l m (d + 1) = selD (fun m => matchB f (g l m)) l (m + 1) d by rw [selD, if_neg (by rw [show matchB f (g l m) = false from h]; decide)]]
      exact ih (m + 1) out (by omega) (by omega)
theorem refselect_ev (f : BA) (hf : f.size ≤ 9223372036854775806) (l : List BA) (hl : Lights l) : Ev (fun k => brokerref02_Select.f k f l) (selectB f l) := by
  simp only [brokerref02_Select.f]
  exact refselect_l0 f hf l hl l.length 0 [] (by omega) (Nat.le_refl _)
theorem MatchLists' (l : List BA) {N : Nat} (_ : l.length ≤ N ∧ l.length ≤ maxLen ∧ ∀ x ∈ l, x.size ≤ N ∧ x.size ≤ maxLen) (hb : l.length * 16 ≤ 140737488351232) (f : BA) (hf : f.size ≤ 140737488351232) : ∃ k, brokerlaw02_MatchLists.f k l f = some true := by
  suffices h : Ev (fun k => brokerlaw02_MatchLists.f k l f) true from h.rounds
  simp only [brokerlaw02_MatchLists.f]
  obtain ⟨b, hbl, hlight⟩ := light_ev l (by omega)
  refine ev_bind hbl (ev_if (fun h => ?_) (fun _ => ev_bind awake_ev (ev_some rfl)))
  have hl : Lights l := hlight h
  have l1 := selD_len (stayB l) l l.length 0
  have l2 := selD_len (fun m => matchB f (g l m)) l l.length 0
  have hn := hl.1
  refine ev_bind awake_ev (ev_tt (ev_bind (narrow_ev l hl) (ev_bind (refnarrow_ev l hl) (ev_bind (same_ev _ (by unfold narrowB; omega)) (ev_tt ?_)))))
  exact ev_bind (select_ev f (by omega) l hl) (ev_bind (refselect_ev f (by omega) l hl) (ev_bind (same_ev _ (by unfold selectB; omega)) (ev_some rfl)))
end Go.Proofs.YtmgmkgnenopelaaDoor.Pure
