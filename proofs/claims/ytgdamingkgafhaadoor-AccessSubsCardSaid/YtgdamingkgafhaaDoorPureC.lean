/- What the printed functions of the reference of match answer: Covers. -/
import Derived.Test.YtgdamingkgafhaaDoorPureW
import Derived.Test.YtgdamingkgafhaaDoorPx28
namespace Go.Proofs.YtgdamingkgafhaaDoor.Pure
open Go.RowKit Go.Proofs.YtgdamingkgafhaaDoor.P Go.Proofs.YtgdamingkgafhaaDoorW.PrintWords Go.Proofs.YtgdamingkgafhaaDoorW.PrintLast Go.Proofs.YtgdamingkgafhaaDoor.Ext

theorem refcovers_l0 (A B : List BA) (hA : A.length ≤ 1000) : ∀ (a b : List BA) (i : Nat), A.drop i = a → B.drop i = b → i ≤ A.length → i ≤ B.length →
    Ev (fun k => brokerref02_covers.f k A B (i : Int)) (coverL a b) := by
  intro a
  induction a with
  | nil =>
    intro b i ha hb h1 h2
    have := drop_nil ha
    refine ev_succ ?_
    simp only [brokerref02_covers.f]
    refine ev_neg (by omega) (ev_succ ?_)
    simp only [brokerref02_covers.j0]
    refine ev_ff (ev_pos (by omega) (ev_succ ?_))
    simp only [brokerref02_covers.j1, if_true]
    refine ev_pos (by omega) (ev_some ?_)
    congr 1
    cases b with
    | nil =>
      have := drop_nil hb
      rw [show i = B.length by omega]
      exact beq_self_eq_true _
    | cons x b =>
      have := (drop_cons ByteArray.empty hb).1
      exact beq_eq_false_iff_ne.2 (by omega)
  | cons a ar ih =>
    intro b i ha hb h1 h2
    obtain ⟨hi, hx, hd⟩ := drop_cons ByteArray.empty ha
    refine ev_succ ?_
    simp only [brokerref02_covers.f, rd_get, hx]
    refine ev_pos (by omega) (ev_pos (by omega) ?_)
    rw [beqR]
    refine ev_succ ?_
    simp only [brokerref02_covers.j0]
    cases hr : isR a
    · refine ev_ff (ev_neg (by omega) (ev_succ ?_))
      simp only [brokerref02_covers.j1, rd_get, hx]
      cases b with
      | nil =>
        have := drop_nil hb
        rw [show ((i : Int) == (B.length : Int)) = true by rw [show i = B.length by omega]; exact beq_self_eq_true _]
        exact ev_tt (ev_neg (by omega) (ev_some (by simp [coverL, hr])))
      | cons b bq =>
        obtain ⟨hj, hy, he⟩ := drop_cons ByteArray.empty hb
        rw [show ((i : Int) == (B.length : Int)) = false from beq_eq_false_iff_ne.2 (by omega), up1 i (by omega)]
        simp only [hy]
        refine ev_ff (ev_pos (by omega) (ev_pos (by omega) ?_))
        have next := ih bq (i + 1) hd he (by omega) (by omega)
        cases hp : isP a
        · refine ev_neg (isP_not hp) (ev_pos (by omega) ?_)
          cases hq : eqB a b
          · exact ev_neg (eqB_not hq) (ev_some (by simp [coverL, hr, hp, hq]))
          · rw [show coverL (a :: ar) (b :: bq) = coverL ar bq by obtain rfl := eqB_eq hq; simp [coverL, hr, hp, hq]]
            exact ev_pos (eqB_is hq) (ev_bind next (ev_some rfl))
        · refine ev_pos (isP_is hp) (ev_pos (by omega) ?_)
          cases hs : isR b
          · rw [show coverL (a :: ar) (b :: bq) = coverL ar bq by simp [coverL, hr, hp, hs]]
            exact ev_neg (isR_not hs) (ev_bind next (ev_some rfl))
          · exact ev_pos (isR_is hs) (ev_some (by simp [coverL, hr, hs]))
    · exact ev_tt (ev_some (by cases b <;> simp [coverL, hr]))
theorem refcovers_ev (a b : BA) (ha : a.size ≤ 9223372036854775806) (hb : b.size ≤ 9223372036854775806) : Ev (fun k => brokerref02_Covers.f k a b) (coverB a b) := by
  simp only [brokerref02_Covers.f]
  have j1 : Ev (fun k => brokerref02_Covers.j0 k a b true) false := by
    refine ev_succ ?_
    simp only [brokerref02_Covers.j0, if_true]
    exact ev_some rfl
  unfold coverB
  refine ev_bind (reffilter_ev a ha) (ev_if (fun c => ?_) (fun c => by rw [c]; exact j1))
  refine ev_bind (reffilter_ev b hb) ?_
  cases d : filterB b
  · rw [c]
    exact j1
  · have z1 := filter_size c
    have z2 := filter_size d
    have l1 := lev_len z1
    have l2 := lev_len z2
    have go : Ev (fun k => (brokerref01_Levels.f k b).bind fun t => (brokerref02_covers.f k (levels a) t 0).bind fun u => some u) (coverL (levels a) (levels b)) := by
      refine ev_bind (lev_ev b (by omega)) (ev_bind ?_ (ev_some rfl))
      exact refcovers_l0 _ _ (by omega) _ _ 0 rfl rfl (Nat.zero_le _) (Nat.zero_le _)
    refine ev_succ ?_
    simp only [brokerref02_Covers.j0]
    refine ev_ff (ev_bind (lev_ev a (by omega)) (ev_const (refwild_val _ (levels_ne a)) ?_))
    rw [c]
    refine ev_if (fun e => ?_) (fun e => ?_)
    · refine ev_const (refsystem_val b) (ev_if (fun g => ?_) (fun g => ?_))
      · exact ev_some (by rw [e, g]; simp)
      · rw [e, g]
        simpa using go
    · rw [e]
      simpa using go
end Go.Proofs.YtgdamingkgafhaaDoor.Pure
