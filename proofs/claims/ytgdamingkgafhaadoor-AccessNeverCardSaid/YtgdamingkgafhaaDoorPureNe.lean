/- The law AccessNever over the printed functions. -/
import Derived.Test.YtgdamingkgafhaaDoorPx13
import Derived.Test.YtgdamingkgafhaaDoorPx14
import Derived.Test.YtgdamingkgafhaaDoorPureZ
import Derived.Test.YtgdamingkgafhaaDoorKinds
-- needs: brokerlaw20_AccessNever brokerlaw20_without
namespace Go.Proofs.YtgdamingkgafhaaDoor.Pure
open Go.RowKit Go.Proofs.YtgdamingkgafhaaDoor.P Go.Proofs.YtgdamingkgafhaaDoorW.PrintWords Go.Proofs.YtgdamingkgafhaaDoorW.PrintLast Go.Proofs.YtgdamingkgafhaaDoor.Ext

theorem light_is {c u s : BA} (h : lightB c u s = true) : c.size ≤ 64 ∧ u.size ≤ 64 ∧ s.size ≤ 1000 := of_decide_eq_true h
/-! ### A filter that covers another one meets what it meets -/
theorem cover_meet : ∀ a b f, coverL a b = true → meetL b f = true → meetL a f = true
  | [], b, f, h, k => by
    cases b with
    | nil => exact k
    | cons b bq => simp [coverL] at h
  | a :: ar, b, f, h, k => by
    cases hr : isR a
    · cases b with
      | nil => simp [coverL, hr] at h
      | cons b bq =>
        simp only [coverL, hr, Bool.false_or, Bool.and_eq_true, Bool.not_eq_true', Bool.or_eq_true] at h
        obtain ⟨⟨h1, h2⟩, h3⟩ := h
        cases f with
        | nil => simp [meetL, h1] at k
        | cons x fr =>
          simp only [meetL, h1, Bool.false_or, Bool.or_eq_true, Bool.and_eq_true] at k
          simp only [meetL, hr, Bool.false_or, Bool.or_eq_true, Bool.and_eq_true]
          rcases k with k | ⟨k1, k2⟩
          · exact Or.inl k
          · refine Or.inr ⟨?_, cover_meet ar bq fr h3 k2⟩
            rcases h2 with h2 | h2
            · exact Or.inl (Or.inr h2)
            · rw [eqB_eq h2]; exact k1
    · cases f <;> simp [meetL, hr]
/-- Who covers a filter that begins so begins so, or with a wildcard. -/
theorem cover_sys {a b : BA} (h : coverL (levels a) (levels b) = true) (hs : sysB a = true) : sysB b = true := by
  have hw := sys_not_wild hs
  obtain ⟨y, yr, e⟩ := levels_cons a
  obtain ⟨x, xr, d⟩ := levels_cons b
  rw [e] at hw h
  rw [d] at h
  have hw' : (isP y || isR y) = false := hw
  rw [Bool.or_eq_false_iff] at hw'
  simp only [coverL, hw'.1, hw'.2, Bool.false_or, Bool.and_eq_true] at h
  have hyx := eqB_eq h.1.2
  subst hyx
  exact (sys_level d).2 ((sys_level e).1 hs)
theorem meet_sys {b f : BA} (h : meetL (levels b) (levels f) = true) (hs : sysB f = true) (hw : wildL (levels b) = false) : sysB b = true := by
  have hv := sys_not_wild hs
  obtain ⟨y, yr, e⟩ := levels_cons b
  obtain ⟨x, xr, d⟩ := levels_cons f
  rw [e] at hw h
  rw [d] at hv h
  have hw' : (isP y || isR y) = false := hw
  have hv' : (isP x || isR x) = false := hv
  rw [Bool.or_eq_false_iff] at hw' hv'
  simp only [meetL, hw'.1, hw'.2, hv'.1, hv'.2, Bool.false_or, Bool.or_false, Bool.and_eq_true] at h
  have hyx := eqB_eq h.1
  subst hyx
  exact (sys_level e).2 ((sys_level d).1 hs)
theorem cover_meetB {a b f : BA} (h : coverB a b = true) (k : meetB b f = true) : meetB a f = true := by
  obtain ⟨fa, fb, hc, hw⟩ := coverB_split h
  obtain ⟨_, ff, km, k1, k2⟩ := meetB_split k
  unfold meetB
  rw [fa, ff, cover_meet _ _ _ hc km]
  have e1 : (wildL (levels a) && sysB f) = false := by
    cases wa : wildL (levels a)
    · rfl
    · cases sf : sysB f
      · rfl
      · rw [sf, Bool.and_true] at k1
        rw [wa, Bool.true_and, meet_sys km sf k1] at hw
        cases hw
  have e2 : (wildL (levels f) && sysB a) = false := by
    cases sa : sysB a
    · exact Bool.and_false _
    · rw [cover_sys hc sa] at k2
      exact k2
  rw [e1, e2]
  rfl

/-! ### A rule that is shadowed never decides -/
theorem shad_parts {a b : S42} (h : shadR b a = true) : preB a b = true ∧ (a.f3 = b.f3 ∨ (coverB a.f3 b.f3 = true ∧ steadyB a.f3 = true ∧ steadyB b.f3 = true)) := by
  unfold shadR at h
  rw [Bool.and_eq_true, Bool.and_eq_true, Bool.or_eq_true, Bool.and_eq_true] at h
  obtain ⟨h1, h2, h3⟩ := h
  refine ⟨h1, ?_⟩
  rcases h3 with h3 | h3
  · exact Or.inl (toList_inj (of_decide_eq_true h3))
  · exact Or.inr ⟨h2, h3⟩
theorem pre_applies {a b : S42} {u : BA} {x : Int} (h : preB a b = true) (k : appliesB u x b = true) : appliesB u x a = true := by
  unfold preB at h
  rw [Bool.and_eq_true, Bool.or_eq_true, Bool.or_eq_true, decide_eq_true_iff, decide_eq_true_iff, decide_eq_true_iff, decide_eq_true_iff] at h
  obtain ⟨h1, h2⟩ := h
  obtain ⟨k1, k2⟩ := applies_iff.1 k
  refine applies_iff.2 ⟨?_, ?_⟩
  · rcases h1 with h1 | h1
    · exact Or.inl h1
    · rw [h1]; exact k1
  · rcases h2 with h2 | h2
    · exact Or.inl h2
    · rw [h2]; exact k2
theorem shad_allow {a b : S42} (h : shadR b a = true) (c u : BA) (x : Int) (o : BA) (k : allowP c u x o b = true) : allowP c u x o a = true := by
  obtain ⟨hp, hf⟩ := shad_parts h
  unfold allowP at k ⊢
  rw [Bool.and_eq_true] at k
  rw [pre_applies hp k.1, Bool.true_and]
  rcases hf with hf | ⟨h1, h2, h3⟩
  · rw [hf]; exact k.2
  · rw [exp_steady h2]
    rw [exp_steady h3] at k
    exact cover_matchB h1 k.2
theorem shad_sub {a b : S42} (h : shadR b a = true) (c u f : BA) (k : subP c u f b = true) : subP c u f a = true := by
  obtain ⟨hp, hf⟩ := shad_parts h
  unfold subP at k ⊢
  rw [Bool.and_eq_true] at k
  rw [pre_applies hp k.1, Bool.true_and]
  rcases hf with hf | ⟨h1, h2, h3⟩
  · rw [hf]; exact k.2
  · rw [exp_steady h2]
    rw [exp_steady h3] at k
    exact cover_meetB h1 k.2
theorem first_same (p fin : S42 → Bool) (A B : List S42) (r : S42) (h : ∃ x ∈ A, p r = true → p x = true) : firstB p fin (A ++ B) = firstB p fin (A ++ r :: B) := by
  have e : (A ++ B).find? p = (A ++ r :: B).find? p := by
    rw [List.find?_append, List.find?_append]
    cases hA : A.find? p with
    | some y => rfl
    | none =>
      obtain ⟨x, hx, hp⟩ := h
      have hn := List.find?_eq_none.1 hA x hx
      have hr : p r = false := Bool.eq_false_iff.2 fun hr => hn (hp hr)
      rw [List.find?_cons, hr]
  unfold firstB
  rw [e]
theorem split_at (l : List S42) (i : Nat) (h : i < l.length) : l = l.take i ++ l.getD i z42 :: l.drop (i + 1) := by
  rw [List.getD_eq_getElem?_getD, List.getElem?_eq_getElem h]
  exact (List.take_append_drop i l).symm.trans (by rw [List.drop_eq_getElem_cons h]; rfl)
theorem never_same {l : List S42} {i : Nat} (hi : i < l.length) (hh : hidB l i = true) (p fin : S42 → Bool) (hp : ∀ a b, shadR b a = true → p b = true → p a = true) : firstB p fin (l.take i ++ l.drop (i + 1)) = firstB p fin l := by
  obtain ⟨x, hx, hs⟩ := List.any_eq_true.1 hh
  refine (first_same p fin (l.take i) (l.drop (i + 1)) (l.getD i z42) ⟨x, hx, hp x _ hs⟩).trans ?_
  rw [← split_at l i hi]
theorem without_val (l : List S42) (i : Nat) (hi : i < l.length) (hn : l.length ≤ 32) : brokerlaw20_without.f l (i : Int) = some (l.take i ++ l.drop (i + 1)) := by
  unfold brokerlaw20_without.f
  rw [w64 (by omega) (by omega), show (i : Int) + 1 = ((i + 1 : Nat) : Int) from by omega]
  simp only [Option.bind_some, Int.toNat_natCast, List.nil_append, List.length_nil, List.length_take, List.length_drop]
  rw [if_pos (by omega), if_pos (by omega), if_pos (by omega), if_pos (by omega), if_pos (by omega), if_pos (by omega)]
theorem rdI (l : List Int) (i : Nat) : rd l (i : Int) = l.getD i 0 := rfl
theorem AccessNever' (l : List S42) {N : Nat} (_ : l.length ≤ N ∧ l.length ≤ maxLen ∧ ∀ x ∈ l, True ∧ (x.f1.size ≤ N ∧ x.f1.size ≤ maxLen) ∧ (Lit.int .i64 x.f2).wf = true ∧ (x.f3.size ≤ N ∧ x.f3.size ≤ maxLen))
    (w : Br.S28) {M : Nat} (_ : (w.f0.size ≤ M ∧ w.f0.size ≤ maxLen) ∧ (w.f1.size ≤ M ∧ w.f1.size ≤ maxLen)) (a : Int) (_ : (Lit.int .i64 a).wf = true) (o : BA) (_ : o.size ≤ 140737488351232) (f : BA) (_ : f.size ≤ 140737488351232) :
    ∃ k, brokerlaw20_AccessNever.f k l w.f0 w.f1 a o f = some true := by
  suffices h : Ev (fun k => brokerlaw20_AccessNever.f k l w.f0 w.f1 a o f) true from h.rounds
  have done : Ev (fun k => brokerlaw20_AccessNever.j0 k l a o f true w.f0 w.f1) true := by
    refine ev_succ ?_
    simp only [brokerlaw20_AccessNever.j0, if_true]
    exact ev_bind awake_ev (ev_some rfl)
  simp only [brokerlaw20_AccessNever.f]
  refine ev_bind (refcheck_ev l) ?_
  by_cases hk : chkB l = 0
  · have g := good_of hk
    have hn := g.1
    have sh := good_short g
    refine ev_pos hk (ev_const (light_val w.f0 w.f1 o) (ev_if (fun hL => ?_) (fun _ => done)))
    obtain ⟨h0, h1, h2⟩ := light_is hL
    refine ev_const (light_val w.f0 w.f1 f) ?_
    cases hL2 : lightB w.f0 w.f1 f
    · exact done
    · obtain ⟨_, _, h3⟩ := light_is hL2
      have hlen := shIdx_len l l.length 0
      have hmem := shIdx_mem l l.length 0
      have loop : ∀ (d i : Nat), i + d = (shIdx l l.length 0).length → Ev (fun k => brokerlaw20_AccessNever.l0 k l a o f (shIdx l l.length 0) (i : Int) w.f0 w.f1) true := by
        intro d
        induction d with
        | zero =>
          intro i hi
          refine ev_succ ?_
          simp only [brokerlaw20_AccessNever.l0]
          exact ev_neg (by omega) (ev_bind awake_ev (ev_some rfl))
        | succ d ih =>
          intro i hi
          have hil : i < (shIdx l l.length 0).length := by omega
          obtain ⟨j, _, hj, ej, hh⟩ := hmem ((shIdx l l.length 0).getD i 0) (by rw [List.getD_eq_getElem?_getD, List.getElem?_eq_getElem hil]; exact List.getElem_mem hil)
          have hjl : j < l.length := by omega
          have hj1 : 1 ≤ j := by
            cases j with
            | zero => exact absurd hh (by unfold hidB; simp)
            | succ j => omega
          have srest : Short (l.take j ++ l.drop (j + 1)) := fun x hx => by
            rcases List.mem_append.1 hx with hx | hx
            · exact sh x (List.mem_of_mem_take hx)
            · exact sh x (List.mem_of_mem_drop hx)
          have ea : allowB w.f0 w.f1 a o (l.take j ++ l.drop (j + 1)) = allowB w.f0 w.f1 a o l := never_same hjl hh _ _ fun x y hs hp => shad_allow hs w.f0 w.f1 a o hp
          have es : subB w.f0 w.f1 f (l.take j ++ l.drop (j + 1)) = subB w.f0 w.f1 f l := never_same hjl hh _ _ fun x y hs hp => shad_sub hs w.f0 w.f1 f hp
          have j2 : Ev (fun k => brokerlaw20_AccessNever.j2 k l a o f (shIdx l l.length 0) (i : Int) false w.f0 w.f1) true := by
            refine ev_succ ?_
            simp only [brokerlaw20_AccessNever.j2, rdI, ej]
            refine ev_ff (ev_pos (by omega) (ev_pos (by omega) (ev_const (without_val l j hjl hn) ?_)))
            refine ev_bind (allowed_ev _ srest w.f0 w.f1 a o h0 h1 (by omega)) (ev_bind (allowed_ev l sh w.f0 w.f1 a o h0 h1 (by omega)) ?_)
            rw [ea]
            refine ev_neg (by simp) (ev_bind (subscribes_ev _ srest w.f0 w.f1 f h0 h1 (by omega)) (ev_bind (subscribes_ev l sh w.f0 w.f1 f h0 h1 (by omega)) ?_))
            rw [es, w64 (by omega) (by omega), show (i : Int) + 1 = ((i + 1 : Nat) : Int) from by omega]
            exact ev_neg (by simp) (ih (i + 1) (by omega))
          refine ev_succ ?_
          simp only [brokerlaw20_AccessNever.l0, rdI, ej]
          refine ev_pos (by omega) (ev_pos (by omega) (ev_neg (by omega) ?_))
          rw [show decide ((j : Int) ≥ (l.length : Int)) = false from decide_eq_false (by omega)]
          exact j2
      refine ev_succ ?_
      simp only [brokerlaw20_AccessNever.j0, Bool.not_true]
      exact ev_ff (ev_bind (shadowed_ev l sh (by omega)) (loop (shIdx l l.length 0).length 0 (by omega)))
  · exact ev_neg hk done
end Go.Proofs.YtgdamingkgafhaaDoor.Pure
