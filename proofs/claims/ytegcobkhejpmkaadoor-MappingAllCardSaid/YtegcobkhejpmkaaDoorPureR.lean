
/- What the printed functions of the reference of match answer: Matches. -/
import Derived.Test.YtegcobkhejpmkaaDoorPx14
import Derived.Test.YtegcobkhejpmkaaDoorPx18
import Derived.Test.YtegcobkhejpmkaaDoorPureW
namespace Go.Proofs.YtegcobkhejpmkaaDoor.Pure
open Go.RowKit Go.Proofs.YtegcobkhejpmkaaDoor.P Go.Proofs.YtegcobkhejpmkaaDoorW.PrintWords Go.Proofs.YtegcobkhejpmkaaDoorW.PrintLast Go.Proofs.YtegcobkhejpmkaaDoor.Ext

theorem refvalid_ev (s : ByteArray) (hs : s.size ≤ 9223372036854775806) : Ev (fun k => brokerref01_Valid.f k s) (validB s) := by
  simp only [brokerref01_Valid.f]
  refine ev_bind (refsized_ev s hs) (ev_if (fun h => ?_) (fun h => ev_some ?_))
  · have e : validB s = decide (∀ i, i < s.size → by_ s i ≠ 43 ∧ by_ s i ≠ 35) := by unfold validB; rw [h]; rfl
    refine ev_bind (has_ev s 43 hs) (ev_if (fun h43 => ev_some ?_) (fun h43 => ev_bind (has_ev s 35 hs) (ev_some ?_)))
    · rw [e]
      congr 1
      obtain ⟨i, hi, h⟩ := of_decide_eq_true h43
      exact (decide_eq_false (fun h2 => (h2 i hi).1 h)).symm
    · rw [e]
      congr 1
      cases h35 : hasB s 35 with
      | true =>
        obtain ⟨i, hi, h⟩ := of_decide_eq_true h35
        exact (decide_eq_false (fun h2 => (h2 i hi).2 h)).symm
      | false => exact (decide_eq_true (fun i hi => ⟨has_no h43 i hi, has_no h35 i hi⟩)).symm
  · unfold validB
    rw [h]
    rfl
theorem reflevels_ev (F N : List BA) (hF : F.length ≤ 1000) : ∀ (f n : List BA) (i : Nat), F.drop i = f → N.drop i = n → i ≤ F.length → i ≤ N.length →
    Ev (fun k => brokerref02_levels.f k F N (i : Int) (i : Int)) (matchL f n) := by
  intro f
  induction f with
  | nil =>
    intro n i hf hn h1 h2
    have := drop_nil hf
    refine ev_succ ?_
    simp only [brokerref02_levels.f]
    refine ev_neg (by omega) (ev_succ ?_)
    simp only [brokerref02_levels.j0]
    refine ev_ff (ev_pos (by omega) (ev_some ?_))
    congr 1
    cases n with
    | nil =>
      have := drop_nil hn
      rw [show i = N.length by omega]
      exact beq_self_eq_true _
    | cons x n =>
      have := (drop_cons ByteArray.empty hn).1
      exact beq_eq_false_iff_ne.2 (by omega)
  | cons a ar ih =>
    intro n i hf hn h1 h2
    obtain ⟨hi, ha, hd⟩ := drop_cons ByteArray.empty hf
    refine ev_succ ?_
    simp only [brokerref02_levels.f, rd_get, ha]
    refine ev_pos (by omega) (ev_pos (by omega) ?_)
    rw [beqR]
    refine ev_succ ?_
    simp only [brokerref02_levels.j0, rd_get, ha]
    cases hr : isR a
    · refine ev_ff (ev_neg (by omega) ?_)
      cases n with
      | nil =>
        have := drop_nil hn
        exact ev_pos (by omega) (ev_some (by simp [matchL, hr]))
      | cons x n =>
        obtain ⟨hj, hx, he⟩ := drop_cons ByteArray.empty hn
        refine ev_neg (by omega) (ev_pos (by omega) (ev_pos (by omega) ?_))
        rw [up1 i (by omega), hx]
        have next := ih n (i + 1) hd he (by omega) (by omega)
        cases hp : isP a
        · refine ev_neg (isP_not hp) (ev_pos (by omega) (ev_pos (by omega) ?_))
          cases hq : eqB a x
          · exact ev_neg (eqB_not hq) (ev_some (by simp [matchL, hr, hp, hq]))
          · rw [show matchL (a :: ar) (x :: n) = matchL ar n by simp [matchL, hr, hp, hq]]
            exact ev_pos (eqB_is hq) (ev_bind next (ev_some rfl))
        · rw [show matchL (a :: ar) (x :: n) = matchL ar n by simp [matchL, hr, hp]]
          exact ev_pos (isP_is hp) (ev_bind next (ev_some rfl))
    · exact ev_tt (ev_some (by rw [match_R hr]))
theorem refmatches_ev (f n : BA) (hf : f.size ≤ 9223372036854775806) (hn : n.size ≤ 9223372036854775806) : Ev (fun k => brokerref02_Matches.f k f n) (matchB f n) := by
  simp only [brokerref02_Matches.f]
  have j1 : Ev (fun k => brokerref02_Matches.j0 k f n true) false := by
    refine ev_succ ?_
    simp only [brokerref02_Matches.j0, if_true]
    exact ev_some rfl
  unfold matchB
  refine ev_bind (reffilter_ev f hf) (ev_if (fun c => ?_) (fun c => by rw [c]; exact j1))
  refine ev_bind (refvalid_ev n hn) ?_
  cases d : validB n
  · rw [c]
    exact j1
  · have z1 := filter_size c
    have z2 := valid_size d
    have l1 := lev_len z1
    have l2 := lev_len z2
    have go : Ev (fun k => (brokerref01_Levels.f k n).bind fun t => (brokerref02_levels.f k (levels f) t 0 0).bind fun u => some u) (matchL (levels f) (levels n)) := by
      refine ev_bind (lev_ev n (by omega)) (ev_bind ?_ (ev_some rfl))
      exact reflevels_ev _ _ (by omega) _ _ 0 rfl rfl (Nat.zero_le _) (Nat.zero_le _)
    refine ev_succ ?_
    simp only [brokerref02_Matches.j0]
    refine ev_ff (ev_bind (lev_ev f (by omega)) (ev_const (refwild_val _ (levels_ne f)) ?_))
    rw [c]
    refine ev_if (fun e => ?_) (fun e => ?_)
    · refine ev_const (refsystem_val n) (ev_if (fun g => ?_) (fun g => ?_))
      · exact ev_some (by rw [e, g]; rfl)
      · rw [e, g]
        exact go
    · rw [e]
      exact go
end Go.Proofs.YtegcobkhejpmkaaDoor.Pure
