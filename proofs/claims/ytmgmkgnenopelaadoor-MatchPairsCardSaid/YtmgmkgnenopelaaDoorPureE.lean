/- What the printed functions of the reference of match answer: Meets. -/
import Derived.Test.YtmgmkgnenopelaaDoorPureC
import Derived.Test.YtmgmkgnenopelaaDoorPx10
namespace Go.Proofs.YtmgmkgnenopelaaDoor.Pure
open Go.RowKit Go.Proofs.YtmgmkgnenopelaaDoor.P Go.Proofs.YtmgmkgnenopelaaDoorW.PrintWords Go.Proofs.YtmgmkgnenopelaaDoorW.PrintLast Go.Proofs.YtmgmkgnenopelaaDoor.Ext

theorem refmeets_l0 (A B : List BA) (hA : A.length ≤ 1000) : ∀ (a b : List BA) (i : Nat), A.drop i = a → B.drop i = b → i ≤ A.length → i ≤ B.length →
    Ev (fun k => brokerref02_meets.f k A B (i : Int)) (meetL a b) := by
  have jt : ∀ i : Int, Ev (fun k => brokerref02_meets.j0 k A B i true) true := by
    intro i
    refine ev_succ ?_
    simp only [brokerref02_meets.j0, if_true]
    exact ev_some rfl
  intro a
  induction a with
  | nil =>
    intro b i ha hb h1 h2
    have := drop_nil ha
    refine ev_succ ?_
    simp only [brokerref02_meets.f]
    refine ev_neg (by omega) ?_
    cases b with
    | nil =>
      have := drop_nil hb
      refine ev_neg (by omega) (ev_succ ?_)
      simp only [brokerref02_meets.j0]
      refine ev_ff (ev_pos (by omega) (ev_some ?_))
      rw [show i = B.length by omega]
      exact congrArg some (beq_self_eq_true _)
    | cons b bq =>
      obtain ⟨hj, hy, _⟩ := drop_cons ByteArray.empty hb
      rw [rd_get, hy, beqR]
      refine ev_pos (by omega) (ev_pos (by omega) ?_)
      cases hr : isR b
      · rw [show meetL [] (b :: bq) = false from hr]
        refine ev_succ ?_
        simp only [brokerref02_meets.j0]
        exact ev_ff (ev_pos (by omega) (ev_some (congrArg some (beq_eq_false_iff_ne.2 (by omega)))))
      · rw [show meetL [] (b :: bq) = true from hr]
        exact jt _
  | cons a ar ih =>
    intro b i ha hb h1 h2
    obtain ⟨hi, hx, hd⟩ := drop_cons ByteArray.empty ha
    refine ev_succ ?_
    simp only [brokerref02_meets.f, rd_get, hx]
    refine ev_pos (by omega) (ev_pos (by omega) ?_)
    cases hr : isR a
    · refine ev_neg (isR_not hr) ?_
      cases b with
      | nil =>
        have := drop_nil hb
        refine ev_neg (by omega) (ev_succ ?_)
        simp only [brokerref02_meets.j0]
        exact ev_ff (ev_neg (by omega) (ev_pos (by omega) (ev_some (by simp [meetL, hr]))))
      | cons b bq =>
        obtain ⟨hj, hy, he⟩ := drop_cons ByteArray.empty hb
        rw [hy, beqR]
        refine ev_pos (by omega) ?_
        cases hs : isR b
        · refine ev_succ ?_
          simp only [brokerref02_meets.j0, rd_get, hx, hy]
          refine ev_ff (ev_neg (by omega) (ev_neg (by omega) (ev_pos (by omega) (ev_pos (by omega) (ev_pos (by omega) ?_)))))
          rw [up1 i (by omega)]
          have next := ih bq (i + 1) hd he (by omega) (by omega)
          cases hq : eqB a b
          · refine ev_neg (eqB_not hq) ?_
            cases hp : isP a
            · refine ev_neg (isP_not hp) ?_
              cases hpb : isP b
              · exact ev_neg (isP_not hpb) (ev_some (by simp [meetL, hr, hs, hq, hp, hpb]))
              · rw [show meetL (a :: ar) (b :: bq) = meetL ar bq by simp [meetL, hr, hs, hpb]]
                exact ev_pos (isP_is hpb) (ev_bind next (ev_some rfl))
            · rw [show meetL (a :: ar) (b :: bq) = meetL ar bq by simp [meetL, hr, hs, hp]]
              exact ev_pos (isP_is hp) (ev_bind next (ev_some rfl))
          · rw [show meetL (a :: ar) (b :: bq) = meetL ar bq by simp [meetL, hr, hs, hq]]
            exact ev_pos (eqB_is hq) (ev_bind next (ev_some rfl))
        · rw [show meetL (a :: ar) (b :: bq) = true by simp [meetL, hs]]
          exact jt _
    · refine ev_pos (isR_is hr) ?_
      rw [show meetL (a :: ar) b = true by cases b <;> simp [meetL, hr]]
      exact jt _
theorem refmeets_ev (a b : BA) (ha : a.size ≤ 9223372036854775806) (hb : b.size ≤ 9223372036854775806) : Ev (fun k => brokerref02_Meets.f k a b) (meetB a b) := by
  simp only [brokerref02_Meets.f]
  have j1 : Ev (fun k => brokerref02_Meets.j0 k a b true) false := by
    refine ev_succ ?_
    simp only [brokerref02_Meets.j0, if_true]
    exact ev_some rfl
  unfold meetB
  refine ev_bind (reffilter_ev a ha) (ev_if (fun c => ?_) (fun c => by rw [c]; exact j1))
  refine ev_bind (reffilter_ev b hb) ?_
  cases d : filterB b
  · rw [c]
    exact j1
  · have z1 := filter_size c
    have z2 := filter_size d
    have l1 := lev_len z1
    have l2 := lev_len z2
    have go : Ev (fun k => (brokerref02_meets.f k (levels a) (levels b) 0).bind fun u => some u) (meetL (levels a) (levels b)) :=
      ev_bind (refmeets_l0 _ _ (by omega) _ _ 0 rfl rfl (Nat.zero_le _) (Nat.zero_le _)) (ev_some rfl)
    have sec : Ev (fun k => (brokerref02_wild.f (levels b)).bind fun t => if t = true then (brokerref01_System.f a).bind fun u => if u = true then some false else (brokerref02_meets.f k (levels a) (levels b) 0).bind fun v => some v else (brokerref02_meets.f k (levels a) (levels b) 0).bind fun v => some v) (meetL (levels a) (levels b) && !(wildL (levels b) && sysB a)) := by
      refine ev_const (refwild_val _ (levels_ne b)) (ev_if (fun e => ?_) (fun e => ?_))
      · refine ev_const (refsystem_val a) (ev_if (fun g => ?_) (fun g => ?_))
        · exact ev_some (by rw [e, g]; simp)
        · rw [e, g]
          simpa using go
      · rw [e]
        simpa using go
    refine ev_succ ?_
    simp only [brokerref02_Meets.j0]
    refine ev_ff (ev_bind (lev_ev a (by omega)) (ev_bind (lev_ev b (by omega)) (ev_const (refwild_val _ (levels_ne a)) ?_)))
    rw [c]
    refine ev_if (fun e => ?_) (fun e => ?_)
    · refine ev_const (refsystem_val b) (ev_if (fun g => ?_) (fun g => ?_))
      · exact ev_some (by rw [e, g]; simp)
      · rw [e, g]
        simpa using sec
    · rw [e]
      simpa using sec

theorem refjoin_l0 (l : List ByteArray) (hl : l.length ≤ 64) (hx : ∀ i, i < l.length → (l.getD i ByteArray.empty).size ≤ 4096) : ∀ d, d ≤ l.length →
    Ev (fun k => brokerref01_Join.l0 k l (mkB (Lib.join ((l.take (l.length - d)).map toL) [47])) ((l.length - d : Nat) : Int)) (mkB (Lib.join (l.map toL) [47])) := by
  intro d
  induction d with
  | zero =>
    intro _
    refine ev_succ ?_
    simp only [brokerref01_Join.l0]
    refine ev_neg (by omega) (ev_some ?_)
    rw [Nat.sub_zero, List.take_length]
  | succ d ih =>
    intro hd
    have ih' := ih (by omega)
    have hi : l.length - (d + 1) < l.length := by omega
    have hxi := hx _ hi
    have erd : rdOf ByteArray.empty l ((l.length - (d + 1) : Nat) : Int) = l.getD (l.length - (d + 1)) ByteArray.empty := rfl
    have etk : l.take (l.length - d) = l.take (l.length - (d + 1)) ++ [l.getD (l.length - (d + 1)) ByteArray.empty] := by
      rw [show l.length - d = (l.length - (d + 1)) + 1 by omega, List.take_succ_eq_append_getElem hi, List.getD_eq_getElem?_getD, List.getElem?_eq_getElem hi]
      rfl
    have hlen : (Lib.join ((l.take (l.length - (d + 1))).map toL) [47]).length ≤ 4097 * 64 := by
      have := joined_len ((l.take (l.length - (d + 1))).map toL) 47 4096 (fun x hxm => by
        obtain ⟨s, hs, rfl⟩ := List.mem_map.1 hxm
        obtain ⟨j, hj⟩ := List.mem_iff_getElem?.1 (List.mem_of_mem_take hs)
        have hjl := (List.getElem?_eq_some_iff.1 hj).1
        have := hx j hjl
        rw [List.getD_eq_getElem?_getD, hj] at this
        rw [toL_len]
        exact this)
      rw [List.length_map, List.length_take] at this
      refine Nat.le_trans this (Nat.mul_le_mul_left _ (by omega))
    refine ev_succ ?_
    simp only [brokerref01_Join.l0]
    refine ev_pos (by omega) ?_
    rw [erd, w64 (by omega) (by omega), show (((l.length - (d + 1) : Nat) : Int) + 1) = ((l.length - d : Nat) : Int) by omega]
    rw [etk, List.map_append] at ih'
    by_cases h0 : 0 < l.length - (d + 1)
    · have hne : (l.take (l.length - (d + 1))).map toL ≠ [] := by
        intro h
        have := congrArg List.length h
        rw [List.length_map, List.length_take] at this
        simp at this
        omega
      refine ev_pos (by omega) (ev_pos (by rw [size_mk]; omega) (ev_pos (by omega) (ev_pos ?_ ?_)))
      · rw [append_eq, size_mk, List.length_append, toL_mk, toL_len]
        show _ + 1 + _ ≤ _
        omega
      · have e : (mkB (Lib.join ((l.take (l.length - (d + 1))).map toL) [47]) ++ (⟨#[47]⟩ : ByteArray)) ++ l.getD (l.length - (d + 1)) ByteArray.empty = mkB (Lib.join ((l.take (l.length - (d + 1))).map toL ++ [l.getD (l.length - (d + 1)) ByteArray.empty].map toL) [47]) := by
          rw [show [l.getD (l.length - (d + 1)) ByteArray.empty].map toL = [toL (l.getD (l.length - (d + 1)) ByteArray.empty)] from rfl, join_snoc _ _ _ hne, append_eq, append_eq, toL_mk, toL_mk]
          congr 1
          show (_ ++ [47]) ++ _ = _
          simp
        rw [e]
        exact ih'
    · have hz : l.length - (d + 1) = 0 := by omega
      refine ev_neg (by omega) (ev_pos (by omega) (ev_pos ?_ ?_))
      · rw [size_mk]; omega
      · have e : mkB (Lib.join ((l.take (l.length - (d + 1))).map toL) [47]) ++ l.getD (l.length - (d + 1)) ByteArray.empty = mkB (Lib.join ((l.take (l.length - (d + 1))).map toL ++ [l.getD (l.length - (d + 1)) ByteArray.empty].map toL) [47]) := by
          rw [hz, List.take_zero, append_eq, toL_mk]
          congr 1
          show Lib.join [] [47] ++ _ = Lib.join ([] ++ [toL _]) [47]
          rw [Lib.join_nil, List.nil_append, List.nil_append, Lib.join_one]
        rw [e]
        exact ih'
theorem refjoin_ev (l : List ByteArray) (hl : l.length ≤ 64) (hx : ∀ i, i < l.length → (l.getD i ByteArray.empty).size ≤ 4096) : Ev (fun k => brokerref01_Join.f k l) (mkB (Lib.join (l.map toL) [47])) := by
  have := refjoin_l0 l hl hx l.length (Nat.le_refl _)
  rw [Nat.sub_self, List.take_zero] at this
  simp only [brokerref01_Join.f]
  exact this
end Go.Proofs.YtmgmkgnenopelaaDoor.Pure
