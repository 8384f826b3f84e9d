/- What the printed functions of access answer: shadows and Shadowed. -/
import Derived.Test.YtgdamingkgafhaaDoorPx4
import Derived.Test.YtgdamingkgafhaaDoorPx5
import Derived.Test.YtgdamingkgafhaaDoorPx7
import Derived.Test.YtgdamingkgafhaaDoorPureY
-- needs: access_Shadowed access_shadows slices_Contains_string_string
namespace Go.Proofs.YtgdamingkgafhaaDoor.Pure
open Go.RowKit Go.Proofs.YtgdamingkgafhaaDoor.P Go.Proofs.YtgdamingkgafhaaDoorW.PrintWords Go.Proofs.YtgdamingkgafhaaDoorW.PrintLast Go.Proofs.YtgdamingkgafhaaDoor.Ext

/-! ### Which levels stand for the client and the user -/
def hasL (x : BA) (L : List BA) : Bool := L.any fun s => decide (x.toList = s.toList)
theorem index_l0 (L : List BA) (x : BA) (hL : L.length ≤ 1000000) : ∀ (r : List BA) (i : Nat), L.drop i = r → i ≤ L.length →
    ∃ v : Int, Ev (fun k => slices_Index_string_string.l0 k L x (L.length : Int) (i : Int)) v ∧ decide (v ≥ 0) = hasL x r := by
  intro r
  induction r with
  | nil =>
    intro i hd hi
    have := drop_nil hd
    refine ⟨-1, ev_succ ?_, rfl⟩
    simp only [slices_Index_string_string.l0]
    exact ev_neg (by omega) (ev_some rfl)
  | cons a ar ih =>
    intro i hd hi
    obtain ⟨hlt, ha, hd2⟩ := drop_cons ByteArray.empty hd
    by_cases h : x.toList = a.toList
    · refine ⟨(i : Int), ev_succ ?_, ?_⟩
      · simp only [slices_Index_string_string.l0, rd_get, ha]
        exact ev_pos (by omega) (ev_pos (by omega) (ev_pos (by omega) (ev_pos h (ev_some rfl))))
      · rw [decide_eq_true (by omega)]
        unfold hasL
        rw [List.any_cons, decide_eq_true h]
        rfl
    · obtain ⟨v, hv, e⟩ := ih (i + 1) hd2 (by omega)
      refine ⟨v, ev_succ ?_, ?_⟩
      · simp only [slices_Index_string_string.l0, rd_get, ha]
        refine ev_pos (by omega) (ev_pos (by omega) (ev_pos (by omega) (ev_neg h ?_)))
        rw [w64 (by omega) (by omega), show (i : Int) + 1 = ((i + 1 : Nat) : Int) from by omega]
        exact hv
      · rw [e]
        unfold hasL
        rw [List.any_cons, decide_eq_false h, Bool.false_or]
theorem contains_ev (L : List BA) (x : BA) (hL : L.length ≤ 1000000) : Ev (fun k => slices_Contains_string_string.f k L x) (hasL x L) := by
  obtain ⟨v, hv, e⟩ := index_l0 L x hL L 0 rfl (Nat.zero_le _)
  simp only [slices_Contains_string_string.f, slices_Index_string_string.f]
  exact ev_bind hv (ev_some (by rw [e]))
def cB : BA := ⟨#[37, 99]⟩
def uB : BA := ⟨#[37, 117]⟩
/-- No level stands for the client or the user. -/
def steadyB (f : BA) : Bool := !hasL cB (levels f) && !hasL uB (levels f)
theorem fixed_ev (f : BA) (hf : f.size ≤ 64) : Ev (fun k => access_fixed.f k f) (steadyB f) := by
  have hl := lev_len hf
  simp only [access_fixed.f]
  refine ev_const (topic_levels f (by omega)) (ev_bind (contains_ev (levels f) cB (by omega)) ?_)
  unfold steadyB
  refine ev_if (fun h => ?_) (fun h => ?_)
  · rw [h]; exact ev_some rfl
  · rw [h, Bool.not_false, Bool.true_and]
    exact ev_bind (contains_ev (levels f) uB (by omega)) (ev_some rfl)
theorem exp_steady {c u f : BA} (h : steadyB f = true) : expB c u f = f := by
  unfold steadyB at h
  rw [Bool.and_eq_true, Bool.not_eq_true', Bool.not_eq_true'] at h
  have same : expL c u (levels f) = levels f := by
    unfold expL
    refine (List.map_congr_left fun s hs => ?_).trans (List.map_id' _)
    unfold exp1
    rw [if_neg fun e => ?_, if_neg fun e => ?_]
    · have := List.any_eq_false.1 h.2 s hs
      exact this (decide_eq_true (show uB.toList = s.toList from by rw [e, toList_toL]; rfl))
    · have := List.any_eq_false.1 h.1 s hs
      exact this (decide_eq_true (show cB.toList = s.toList from by rw [e, toList_toL]; rfl))
  unfold expB
  rw [same, show (levels f).map toL = pieces 47 (toL f) from map_toL _, join_pieces, mk_toL]

/-! ### Which rule hides which -/
def preB (a b : S42) : Bool := (decide (a.f1.toList = ([42] : List UInt8)) || decide (a.f1.toList = b.f1.toList)) && (decide (a.f2 = 0) || decide (a.f2 = b.f2))
def sameB (a b : S42) : Bool := decide (a.f3.toList = b.f3.toList)
def shadR (b a : S42) : Bool := preB a b && (coverB a.f3 b.f3 && (sameB a b || (steadyB a.f3 && steadyB b.f3)))
theorem shadows_ev (a b : S42) (ha : a.f3.size ≤ 64) (hb : b.f3.size ≤ 64) : Ev (fun k => shP k b a) (shadR b a) := by
  have j : ∀ p : Bool, Ev (fun k => access_shadows.j0 k (!p) a.f0 a.f1 a.f2 a.f3 b.f0 b.f1 b.f2 b.f3) (p && (coverB a.f3 b.f3 && (sameB a b || (steadyB a.f3 && steadyB b.f3)))) := by
    intro p
    refine ev_succ ?_
    cases p
    · simp only [access_shadows.j0, Bool.not_false, if_true]
      exact ev_some rfl
    · simp only [access_shadows.j0, Bool.not_true]
      refine ev_ff (ev_bind (covers_ev a.f3 b.f3 (by omega) (by omega)) (ev_if (fun hc => ?_) (fun hc => ?_)))
      · rw [hc, Bool.true_and, Bool.true_and]
        by_cases hs : a.f3.toList = b.f3.toList
        · rw [show sameB a b = true from decide_eq_true hs]
          exact ev_pos hs (ev_some rfl)
        · rw [show sameB a b = false from decide_eq_false hs, Bool.false_or]
          refine ev_neg hs (ev_bind (fixed_ev a.f3 ha) (ev_if (fun h1 => ?_) (fun h1 => ?_)))
          · rw [h1, Bool.true_and]
            exact ev_bind (fixed_ev b.f3 hb) (ev_some rfl)
          · rw [h1]; exact ev_some rfl
      · rw [hc]; exact ev_some rfl
  have act : Ev (fun k => if a.f2 = 0 then access_shadows.j0 k false a.f0 a.f1 a.f2 a.f3 b.f0 b.f1 b.f2 b.f3 else access_shadows.j0 k (a.f2 != b.f2) a.f0 a.f1 a.f2 a.f3 b.f0 b.f1 b.f2 b.f3) ((decide (a.f2 = 0) || decide (a.f2 = b.f2)) && (coverB a.f3 b.f3 && (sameB a b || (steadyB a.f3 && steadyB b.f3)))) := by
    by_cases h : a.f2 = 0
    · rw [decide_eq_true h, Bool.true_or]
      exact ev_pos h (j true)
    · rw [decide_eq_false h, Bool.false_or]
      refine ev_neg h ?_
      have := j (decide (a.f2 = b.f2))
      rw [show (!decide (a.f2 = b.f2)) = (a.f2 != b.f2) from rfl] at this
      exact this
  unfold shP shadR preB
  simp only [access_shadows.f]
  by_cases h1 : a.f1.toList = ([42] : List UInt8)
  · rw [decide_eq_true h1, Bool.true_or, Bool.true_and]
    exact ev_pos h1 act
  · rw [decide_eq_false h1, Bool.false_or]
    refine ev_neg h1 ?_
    by_cases h2 : a.f1.toList = b.f1.toList
    · rw [decide_eq_true h2, Bool.true_and]
      exact ev_pos h2 act
    · rw [decide_eq_false h2, Bool.false_and]
      exact ev_neg h2 (j false)
/-- An earlier rule shadows the i-th one. -/
def hidB (l : List S42) (i : Nat) : Bool := (l.take i).any fun x => shadR (l.getD i z42) x
def shIdx (l : List S42) : Nat → Nat → List Int
  | 0, _ => []
  | d + 1, i => if hidB l i = true then (i : Int) :: shIdx l d (i + 1) else shIdx l d (i + 1)
theorem shadB_ev (l : List S42) (hl : Short l) (i : Nat) (hi : i < l.length) : Ev (fun k => shadB k l i) (hidB l i) := by
  have hm : l.getD i z42 ∈ l := by rw [List.getD_eq_getElem?_getD, List.getElem?_eq_getElem hi]; exact List.getElem_mem hi
  obtain ⟨K, h⟩ := ev_all (P := fun k x => shP k (l.getD i z42) x) (p := fun x => shadR (l.getD i z42) x) (l.take i) (fun r hr => shadows_ev r (l.getD i z42) (hl r (List.mem_of_mem_take hr)) (hl _ hm))
  refine ⟨K, fun k hk => ?_⟩
  have e := h k hk
  show shadB k l i = _
  unfold shadB hidB
  rw [if_pos (List.all_eq_true.2 fun x hx => by rw [e x hx]; rfl)]
  congr 1
  have : ∀ m : List S42, (∀ x ∈ m, shP k (l.getD i z42) x = some (shadR (l.getD i z42) x)) → (m.any fun x => (shP k (l.getD i z42) x).getD false) = m.any fun x => shadR (l.getD i z42) x := by
    intro m
    induction m with
    | nil => intro _; rfl
    | cons x xs ih =>
      intro hm
      simp only [List.any_cons]
      rw [hm x (List.mem_cons_self ..), ih fun y hy => hm y (List.mem_cons_of_mem _ hy)]
      rfl
  exact this _ e
theorem shadG_ev (l : List S42) (hl : Short l) (hn : l.length ≤ 1000000) : ∀ (d i : Nat) (out : List Int), i + d = l.length → out.length ≤ i → Ev (fun k => shadG k l d i out) (out ++ shIdx l d i)
  | 0, i, out, _, _ => by
    simp only [shadG, shIdx, List.append_nil]
    exact ev_some rfl
  | d + 1, i, out, h, ho => by
    simp only [shadG, shIdx]
    refine ev_bind (shadB_ev l hl i (by omega)) (ev_if (fun hh => ?_) (fun hh => ?_))
    · rw [if_pos hh]
      refine ev_pos (by omega) ?_
      have := shadG_ev l hl hn d (i + 1) (out ++ [(i : Int)]) (by omega) (by simp; omega)
      rw [List.append_assoc] at this
      exact this
    · rw [if_neg (by rw [hh]; decide)]
      exact shadG_ev l hl hn d (i + 1) out (by omega) (by omega)
theorem shadowed_ev (l : List S42) (hl : Short l) (hn : l.length ≤ 1000000) : Ev (fun k => access_Shadowed.f k l) (shIdx l l.length 0) := by
  simp only [access_Shadowed.f, shadF]
  exact shadG_ev l hl hn l.length 0 [] (by omega) (Nat.le_refl _)
theorem shIdx_len (l : List S42) : ∀ d i, (shIdx l d i).length ≤ d
  | 0, _ => Nat.le_refl _
  | d + 1, i => by
    unfold shIdx
    have := shIdx_len l d (i + 1)
    split
    · simp only [List.length_cons]; omega
    · omega
theorem shIdx_mem (l : List S42) : ∀ d i x, x ∈ shIdx l d i → ∃ j, i ≤ j ∧ j < i + d ∧ x = (j : Int) ∧ hidB l j = true
  | 0, _, _, h => by cases h
  | d + 1, i, x, h => by
    unfold shIdx at h
    have rest : x ∈ shIdx l d (i + 1) → ∃ j, i ≤ j ∧ j < i + (d + 1) ∧ x = (j : Int) ∧ hidB l j = true := fun h => by
      obtain ⟨j, h1, h2, h3⟩ := shIdx_mem l d (i + 1) x h
      exact ⟨j, by omega, by omega, h3⟩
    split at h
    · rename_i hh
      rcases List.mem_cons.1 h with rfl | h
      · exact ⟨i, Nat.le_refl _, by omega, rfl, hh⟩
      · exact rest h
    · exact rest h
end Go.Proofs.YtgdamingkgafhaaDoor.Pure
