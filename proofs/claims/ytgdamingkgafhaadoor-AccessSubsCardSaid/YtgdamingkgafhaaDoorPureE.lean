/- What the printed functions of the reference of match answer: Meets. -/
import Derived.Test.YtgdamingkgafhaaDoorPureC
import Derived.Test.YtgdamingkgafhaaDoorPx34
namespace Go.Proofs.YtgdamingkgafhaaDoor.Pure
open Go.RowKit Go.Proofs.YtgdamingkgafhaaDoor.P Go.Proofs.YtgdamingkgafhaaDoorW.PrintWords Go.Proofs.YtgdamingkgafhaaDoorW.PrintLast Go.Proofs.YtgdamingkgafhaaDoor.Ext

theorem refmeets_l0 (A B : List BA) (hA : A.length ≤ 1000) : ∀ (a b : List BA) (i : Nat), A.drop i = a → B.drop i = b → i ≤ A.length → i ≤ B.length →
    Ev (fun k => brokerref02_meets.f k A B (i : Int)) (meetL a b) := by
  have jt : ∀ i : Int, Ev (fun k => brokerref02_meets.j0 k A B i true) true := by
    intro i
    refine ev_succ ?_
    simp only [brokerref02_meets.j0, if_true]
    exact ev_some rfl
  intro a
  induction a with
  | nil =>
    intro b i ha hb h1 h2
    have := drop_nil ha
    refine ev_succ ?_
    simp only [brokerref02_meets.f]
    refine ev_neg (by omega) ?_
    cases b with
    | nil =>
      have := drop_nil hb
      refine ev_neg (by omega) (ev_succ ?_)
      simp only [brokerref02_meets.j0]
      refine ev_ff (ev_pos (by omega) (ev_some ?_))
      rw [show i = B.length by omega]
      exact congrArg some (beq_self_eq_true _)
    | cons b bq =>
      obtain ⟨hj, hy, _⟩ := drop_cons ByteArray.empty hb
      rw [rd_get, hy, beqR]
      refine ev_pos (by omega) (ev_pos (by omega) ?_)
      cases hr : isR b
      · rw [show meetL [] (b :: bq) = false from hr]
        refine ev_succ ?_
        simp only [brokerref02_meets.j0]
        exact ev_ff (ev_pos (by omega) (ev_some (congrArg some (beq_eq_false_iff_ne.2 (by omega)))))
      · rw [show meetL [] (b :: bq) = true from hr]
        exact jt _
  | cons a ar ih =>
    intro b i ha hb h1 h2
    obtain ⟨hi, hx, hd⟩ := drop_cons ByteArray.empty ha
    refine ev_succ ?_
    simp only [brokerref02_meets.f, rd_get, hx]
    refine ev_pos (by omega) (ev_pos (by omega) ?_)
    cases hr : isR a
    · refine ev_neg (isR_not hr) ?_
      cases b with
      | nil =>
        have := drop_nil hb
        refine ev_neg (by omega) (ev_succ ?_)
        simp only [brokerref02_meets.j0]
        exact ev_ff (ev_neg (by omega) (ev_pos (by omega) (ev_some (by simp [meetL, hr]))))
      | cons b bq =>
        obtain ⟨hj, hy, he⟩ := drop_cons ByteArray.empty hb
        rw [hy, beqR]
        refine ev_pos (by omega) ?_
        cases hs : isR b
        · refine ev_succ ?_
          simp only [brokerref02_meets.j0, rd_get, hx, hy]
          refine ev_ff (ev_neg (by omega) (ev_neg (by omega) (ev_pos (by omega) (ev_pos (by omega) (ev_pos (by omega) ?_)))))
          rw [up1 i (by omega)]
          have next := ih bq (i + 1) hd he (by omega) (by omega)
          cases hq : eqB a b
          · refine ev_neg (eqB_not hq) ?_
            cases hp : isP a
            · refine ev_neg (isP_not hp) ?_
              cases hpb : isP b
              · exact ev_neg (isP_not hpb) (ev_some (by simp [meetL, hr, hs, hq, hp, hpb]))
              · rw [show meetL (a :: ar) (b :: bq) = meetL ar bq by simp [meetL, hr, hs, hpb]]
                exact ev_pos (isP_is hpb) (ev_bind next (ev_some rfl))
            · rw [show meetL (a :: ar) (b :: bq) = meetL ar bq by simp [meetL, hr, hs, hp]]
              exact ev_pos (isP_is hp) (ev_bind next (ev_some rfl))
          · rw [show meetL (a :: ar) (b :: bq) = meetL ar bq by simp [meetL, hr, hs, hq]]
            exact ev_pos (eqB_is hq) (ev_bind next (ev_some rfl))
        · rw [show meetL (a :: ar) (b :: bq) = true by simp [meetL, hs]]
          exact jt _
    · refine ev_pos (isR_is hr) ?_
      rw [show meetL (a :: ar) b = true by cases b <;> simp [meetL, hr]]
      exact jt _
theorem refmeets_ev (a b : BA) (ha : a.size ≤ 9223372036854775806) (hb : b.size ≤ 9223372036854775806) : Ev (fun k => brokerref02_Meets.f k a b) (meetB a b) := by
  simp only [brokerref02_Meets.f]
  have j1 : Ev (fun k => brokerref02_Meets.j0 k a b true) false := by
    refine ev_succ ?_
    simp only [brokerref02_Meets.j0, if_true]
    exact ev_some rfl
  unfold meetB
  refine ev_bind (reffilter_ev a ha) (ev_if (fun c => ?_) (fun c => by rw [c]; exact j1))
  refine ev_bind (reffilter_ev b hb) ?_
  cases d : filterB b
  · rw [c]
    exact j1
  · have z1 := filter_size c
    have z2 := filter_size d
    have l1 := lev_len z1
    have l2 := lev_len z2
    have go : Ev (fun k => (brokerref02_meets.f k (levels a) (levels b) 0).bind fun u => some u) (meetL (levels a) (levels b)) :=
      ev_bind (refmeets_l0 _ _ (by omega) _ _ 0 rfl rfl (Nat.zero_le _) (Nat.zero_le _)) (ev_some rfl)
    have sec : Ev (fun k => (brokerref02_wild.f (levels b)).bind fun t => if t = true then (brokerref01_System.f a).bind fun u => if u = true then some false else (brokerref02_meets.f k (levels a) (levels b) 0).bind fun v => some v else (brokerref02_meets.f k (levels a) (levels b) 0).bind fun v => some v) (meetL (levels a) (levels b) && !(wildL (levels b) && sysB a)) := by
      refine ev_const (refwild_val _ (levels_ne b)) (ev_if (fun e => ?_) (fun e => ?_))
      · refine ev_const (refsystem_val a) (ev_if (fun g => ?_) (fun g => ?_))
        · exact ev_some (by rw [e, g]; simp)
        · rw [e, g]
          simpa using go
      · rw [e]
        simpa using go
    refine ev_succ ?_
    simp only [brokerref02_Meets.j0]
    refine ev_ff (ev_bind (lev_ev a (by omega)) (ev_bind (lev_ev b (by omega)) (ev_const (refwild_val _ (levels_ne a)) ?_)))
    rw [c]
    refine ev_if (fun e => ?_) (fun e => ?_)
    · refine ev_const (refsystem_val b) (ev_if (fun g => ?_) (fun g => ?_))
      · exact ev_some (by rw [e, g]; simp)
      · rw [e, g]
        simpa using sec
    · rw [e]
      simpa using sec

end Go.Proofs.YtgdamingkgafhaaDoor.Pure
