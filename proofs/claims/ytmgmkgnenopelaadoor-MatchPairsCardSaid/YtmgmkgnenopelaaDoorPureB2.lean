/- Common's reference, and the law MatchPairs over the printed functions. -/
import Derived.Test.YtmgmkgnenopelaaDoorPureB
import Derived.Test.YtmgmkgnenopelaaDoorPureE
import Derived.Test.YtmgmkgnenopelaaDoorPx11
import Derived.Test.YtmgmkgnenopelaaDoorPx13
namespace Go.Proofs.YtmgmkgnenopelaaDoor.Pure
open Go.RowKit Go.Proofs.YtmgmkgnenopelaaDoor.P Go.Proofs.YtmgmkgnenopelaaDoorW.PrintWords Go.Proofs.YtmgmkgnenopelaaDoorW.PrintLast Go.Proofs.YtmgmkgnenopelaaDoor.Ext

/-! ### The reference -/
theorem refrest_l0 (L : List BA) (hL : L.length ≤ 64) : ∀ (r out : List BA) (i : Nat), L.drop i = r → i ≤ L.length → out.length + r.length ≤ 64 →
    Ev (fun k => brokerref02_rest.l0 k L (i : Int) out) (out ++ restL r) := by
  intro r
  induction r with
  | nil =>
    intro out i hr hi _
    have := drop_nil hr
    refine ev_succ ?_
    simp only [brokerref02_rest.l0]
    rw [show out ++ restL [] = out from List.append_nil _]
    exact ev_neg (by omega) (ev_some rfl)
  | cons a ar ih =>
    intro out i hr hi hlen
    obtain ⟨hlt, ha, hd⟩ := drop_cons ByteArray.empty hr
    rw [List.length_cons] at hlen
    refine ev_succ ?_
    simp only [brokerref02_rest.l0, rd_get, ha]
    refine ev_pos (by omega) (ev_pos (by omega) ?_)
    rw [up1 i (by omega)]
    have add : isR a = false → Ev (fun k => brokerref02_rest.l0 k L ((i + 1 : Nat) : Int) (out ++ [plainB a])) (out ++ restL (a :: ar)) := by
      intro hR
      have := ih (out ++ [plainB a]) (i + 1) hd (by omega) (by rw [List.length_append]; simp only [List.length_cons, List.length_nil]; omega)
      rw [List.append_assoc] at this
      rw [show restL (a :: ar) = plainB a :: restL ar by simp [restL, hR]]
      exact this
    cases hp : isP a
    · refine ev_neg (isP_not hp) ?_
      cases hR : isR a
      · refine ev_neg (isR_not hR) (ev_pos (by omega) ?_)
        have := add hR
        rw [plain_not hp] at this
        exact this
      · rw [show restL (a :: ar) = restL ar by simp [restL, hR]]
        exact ev_pos (isR_is hR) (ih out (i + 1) hd (by omega) (by omega))
    · refine ev_pos (isP_is hp) (ev_pos (by omega) ?_)
      have hR : isR a = false := by
        cases hR : isR a
        · rfl
        · exact (RP hR hp).elim
      have := add hR
      rw [show plainB a = (⟨#[120]⟩ : ByteArray) by unfold plainB; rw [if_pos hp]; rfl] at this
      exact this
theorem rest_small {l : List BA} (h : small l) : small (restL l) := fun x hx => by
  rcases rest_mem l x hx with rfl | c
  · exact small_x
  · exact h x c
theorem refjoin_small (l : List BA) (hl : l.length ≤ 64) (hs : small l) : Ev (fun k => brokerref01_Join.f k l) (mkB (Lib.join (l.map toL) [47])) := by
  refine refjoin_ev l hl (fun i hi => hs _ ?_)
  rw [List.getD_eq_getElem?_getD, List.getElem?_eq_getElem hi]
  exact List.getElem_mem hi
theorem ref_fin (L : List BA) (hl : L.length ≤ 64) (hs : small L) : Ev (fun k => if (L.length : Int) = 0 then (if L.length < 8796093022208 then ((brokerref01_Join.f k (L ++ [(⟨#[120]⟩ : ByteArray)])).bind fun t => (some (t, true))) else (none)) else ((brokerref01_Join.f k L).bind fun t => (some (t, true)))) (comRes L) := by
  unfold comRes fixL
  by_cases e : L = []
  · subst e
    rw [if_pos rfl]
    exact ev_pos rfl (ev_pos (by decide) (ev_bind (refjoin_small [xB] (by decide) (small_one small_x)) (ev_some rfl)))
  · rw [if_neg e]
    have hne : L.length ≠ 0 := fun h => e (List.length_eq_zero_iff.1 h)
    exact ev_neg (by omega) (ev_bind (refjoin_small L hl hs) (ev_some rfl))
theorem ref_j2 (A B : List BA) (hA : A.length ≤ 16) (hB : B.length ≤ 16) (sA : small A) (sB : small B) (out : List BA) (i : Nat) (hi : i ≤ A.length) (hj : i ≤ B.length) (hlen : out.length ≤ 32) (ho : small out) (c : Bool) :
    Ev (fun k => brokerref02_Common.j2 k A B out (i : Int) c) (comRes (out ++ restL (if c = true then B.drop i else A.drop i))) := by
  have sdrop : ∀ {l : List BA}, small l → small (l.drop i) := fun h x hx => h x (List.mem_of_mem_drop hx)
  refine ev_succ ?_
  simp only [brokerref02_Common.j2, brokerref02_rest.f]
  have fin : ∀ L : List BA, L.length ≤ 16 → small L → i ≤ L.length → (restL (L.drop i)).length ≤ 16 ∧ Ev (fun k => brokerref02_rest.l0 k L (i : Int) []) (restL (L.drop i)) ∧ small (out ++ restL (L.drop i)) := by
    intro L hL sL hiL
    refine ⟨?_, ?_, small_app ho (rest_small (sdrop sL))⟩
    · have := rest_len (L.drop i)
      rw [List.length_drop] at this
      omega
    · have := refrest_l0 L (by omega) (L.drop i) [] i rfl hiL (by simp only [List.length_nil, List.length_drop]; omega)
      simpa using this
  refine ev_if (fun h => ?_) (fun h => ?_)
  · rw [if_pos h]
    obtain ⟨h1, h2, h3⟩ := fin B hB sB hj
    exact ev_bind h2 (ev_pos (by omega) (ev_const rfl (ref_fin _ (by rw [List.length_append]; omega) h3)))
  · rw [if_neg (by simp [h])]
    obtain ⟨h1, h2, h3⟩ := fin A hA sA hi
    exact ev_bind h2 (ev_pos (by omega) (ev_const rfl (ref_fin _ (by rw [List.length_append]; omega) h3)))
theorem ref_tail (A B : List BA) (hA : A.length ≤ 16) (hB : B.length ≤ 16) (sA : small A) (sB : small B) (out a : List BA) (i : Nat) (ha : A.drop i = a) (hi : i ≤ A.length) (hj : i ≤ B.length) (hlen : out.length ≤ 32) (ho : small out) :
    Ev (fun k => brokerref02_Common.j1 k A B out (i : Int) false) (comRes (out ++ tailL a (B.drop i))) := by
  refine ev_succ ?_
  simp only [brokerref02_Common.j1]
  refine ev_ff ?_
  cases a with
  | nil =>
    have := drop_nil ha
    refine ev_neg (by omega) ?_
    have := ref_j2 A B hA hB sA sB out i hi hj hlen ho false
    rw [if_neg (by decide), ha] at this
    exact this
  | cons a ar =>
    obtain ⟨hlt, hx, _⟩ := drop_cons ByteArray.empty ha
    simp only [rd_get, hx, beqR]
    refine ev_pos (by omega) (ev_pos (by omega) ?_)
    have := ref_j2 A B hA hB sA sB out i hi hj hlen ho (isR a)
    rw [tail_cons]
    rw [ha] at this
    cases hR : isR a
    · rw [hR, if_neg (by decide)] at this
      rw [if_neg (by decide)]
      exact this
    · rw [hR, if_pos rfl] at this
      rw [if_pos rfl]
      exact this
theorem refcommon_l0 (A B : List BA) (hA : A.length ≤ 16) (hB : B.length ≤ 16) (sA : small A) (sB : small B) : ∀ (a b out : List BA) (i : Nat), A.drop i = a → B.drop i = b → i ≤ A.length → i ≤ B.length → out.length ≤ i → small out →
    Ev (fun k => brokerref02_Common.l0 k A B out (i : Int)) (comRes (out ++ comL a b)) := by
  intro a
  induction a with
  | nil =>
    intro b out i ha hb hi hj hlen ho
    have := drop_nil ha
    refine ev_succ ?_
    simp only [brokerref02_Common.l0]
    exact ev_neg (by omega) (ref_tail A B hA hB sA sB out [] i ha hi hj (by omega) ho)
  | cons a ar ih =>
    intro b out i ha hb hi hj hlen ho
    obtain ⟨hlt, hx, hd⟩ := drop_cons ByteArray.empty ha
    have tail := ref_tail A B hA hB sA sB out (a :: ar) i ha hi hj (by omega) ho
    rw [hb] at tail
    refine ev_succ ?_
    simp only [brokerref02_Common.l0, rd_get, hx]
    refine ev_pos (by omega) ?_
    cases b with
    | nil =>
      have := drop_nil hb
      rw [← tail_nil]
      exact ev_neg (by omega) tail
    | cons b bq =>
      obtain ⟨hlt2, hy, he⟩ := drop_cons ByteArray.empty hb
      simp only [hy, bneR]
      refine ev_pos (by omega) (ev_pos (by omega) ?_)
      cases hr : isR a
      · refine ev_neg (isR_not hr) ?_
        cases hs : isR b
        · rw [show comL (a :: ar) (b :: bq) = pick a b :: comL ar bq by simp [comL, hr, hs]]
          refine ev_succ ?_
          simp only [brokerref02_Common.j1, rd_get, hx, hy, Bool.not_false, if_true]
          refine ev_pos (by omega) (ev_pos (by omega) ?_)
          rw [up1 i (by omega)]
          have sa : a.size ≤ 4096 := sA a (List.mem_of_mem_drop (by rw [ha]; exact List.mem_cons_self ..))
          have sb : b.size ≤ 4096 := sB b (List.mem_of_mem_drop (by rw [hb]; exact List.mem_cons_self ..))
          have next : ∀ x : BA, x.size ≤ 4096 → Ev (fun k => brokerref02_Common.l0 k A B (out ++ [x]) ((i + 1 : Nat) : Int)) (comRes (out ++ x :: comL ar bq)) := by
            intro x hx
            have := ih bq (out ++ [x]) (i + 1) hd he (by omega) (by omega) (by rw [List.length_append]; simp only [List.length_cons, List.length_nil]; omega) (small_app ho (small_one hx))
            rw [List.append_assoc] at this
            exact this
          unfold pick
          cases hp : isP a
          · rw [if_neg (by decide)]
            exact ev_neg (isP_not hp) (ev_pos (by omega) (next a sa))
          · rw [if_pos rfl]
            refine ev_pos (isP_is hp) (ev_pos (by omega) ?_)
            cases hq : isP b
            · rw [plain_not hq]
              exact ev_neg (isP_not hq) (ev_pos (by omega) (next b sb))
            · rw [show plainB b = (⟨#[120]⟩ : ByteArray) by unfold plainB; rw [if_pos hq]; rfl]
              exact ev_pos (isP_is hq) (ev_pos (by omega) (next _ small_x))
        · rw [show comL (a :: ar) (b :: bq) = tailL (a :: ar) (b :: bq) by simp [comL, tailL, hr, hs]]
          exact tail
      · rw [show comL (a :: ar) (b :: bq) = tailL (a :: ar) (b :: bq) by simp [comL, tailL, hr]]
        exact ev_pos (isR_is hr) tail
theorem refcommon_ev (a b : BA) (ha : a.size ≤ 9223372036854775806) (hb : b.size ≤ 9223372036854775806) : Ev (fun k => brokerref02_Common.f k a b) (comB a b) := by
  simp only [brokerref02_Common.f]
  unfold comB
  refine ev_bind (refmeets_ev a b ha hb) (ev_if (fun h => ?_) (fun h => ev_some (by rw [if_neg (by simp [h])])))
  rw [if_pos h]
  obtain ⟨fa, fb, _⟩ := meetB_split h
  have z1 := filter_size fa
  have z2 := filter_size fb
  have l1 := filter_len fa
  have l2 := filter_len fb
  exact ev_bind (lev_ev a (by omega)) (ev_bind (lev_ev b (by omega)) (refcommon_l0 _ _ (by omega) (by omega) (fun x hx => level_size z1 hx) (fun x hx => level_size z2 hx) _ _ [] 0 rfl rfl (Nat.zero_le _) (Nat.zero_le _) (Nat.le_refl _) small_nil))

theorem MatchPairs' (a : BA) (ha : a.size ≤ 140737488351232) (b : BA) (hb : b.size ≤ 140737488351232) : ∃ k, brokerlaw02_MatchPairs.f k a b = some true := by
  suffices h : Ev (fun k => brokerlaw02_MatchPairs.f k a b) true from h.rounds
  have ha' : a.size ≤ 9223372036854775806 := by omega
  have hb' : b.size ≤ 9223372036854775806 := by omega
  simp only [brokerlaw02_MatchPairs.f]
  refine ev_bind (common_ev a b ha' hb') (ev_bind (refcommon_ev a b ha' hb') (ev_bind awake_ev (ev_tt ?_)))
  refine ev_bind (covers_ev a b ha' hb') (ev_bind (refcovers_ev a b ha' hb') (ev_pos (by simp) ?_))
  refine ev_bind (covers_ev b a hb' ha') (ev_bind (refcovers_ev b a hb' ha') (ev_pos (by simp) ?_))
  refine ev_bind (meets_ev a b ha' hb') (ev_bind (refmeets_ev a b ha' hb') (ev_pos (by simp) ?_))
  refine ev_bind (meets_ev b a hb' ha') (ev_bind (meets_ev a b ha' hb') (ev_pos (by rw [meetB_comm]; simp) ?_))
  exact ev_pos rfl (ev_some (by simp))
end Go.Proofs.YtmgmkgnenopelaaDoor.Pure
