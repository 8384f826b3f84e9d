/- Common, and the law MatchMeets over the printed functions. -/
import Derived.Test.YtmgmkgnenopelaaDoorPureA
import Derived.Test.YtmgmkgnenopelaaDoorPx4
namespace Go.Proofs.YtmgmkgnenopelaaDoor.Pure
open Go.RowKit Go.Proofs.YtmgmkgnenopelaaDoor.P Go.Proofs.YtmgmkgnenopelaaDoorW.PrintWords Go.Proofs.YtmgmkgnenopelaaDoorW.PrintLast Go.Proofs.YtmgmkgnenopelaaDoor.Ext

theorem filter_len {s : BA} (h : filterB s = true) : (levels s).length ≤ 8 := by
  unfold filterB at h
  rw [Bool.and_eq_true] at h
  have := (of_decide_eq_true h.1).2.2.2
  rw [cnt_all] at this
  rw [levels_length]
  omega
theorem level_size {s x : BA} (hs : s.size ≤ 64) (h : x ∈ levels s) : x.size ≤ 4096 := by
  have := levels_size s x h
  omega
def comRes (l : List BA) : BA × Bool := (mkB (Lib.join ((fixL l).map toL) [47]), true)
def small (l : List BA) : Prop := ∀ x ∈ l, x.size ≤ 4096
theorem small_x : (xB).size ≤ 4096 := by decide
theorem plain_small {x : BA} (h : x.size ≤ 4096) : (plainB x).size ≤ 4096 := by
  unfold plainB
  split
  · exact small_x
  · exact h
theorem topic_join (l : List BA) (hl : l.length ≤ 64) (hx : small l) : topic_Join.f l = some (mkB (Lib.join (l.map toL) [47])) := by
  have := joined_len (l.map toL) 47 4096 (fun x h => by
    obtain ⟨y, hy, rfl⟩ := List.mem_map.1 h
    rw [toL_len]
    exact hx y hy)
  rw [List.length_map] at this
  unfold topic_Join.f strings_Join.f
  rw [joinF_eq l 47 (by omega) (by omega)]
  rfl
theorem plain_val (a : BA) : match_plain.f a = some (plainB a) := by
  unfold match_plain.f plainB
  cases hp : isP a
  · rw [if_neg (isP_not hp), if_neg (by decide)]
  · rw [if_pos (isP_is hp), if_pos rfl]; rfl
theorem bneR (a : BA) : (a.toList != ([35] : List UInt8)) = !isR a := by rw [← beqR]; rfl
theorem small_nil : small [] := fun _ h => by cases h
theorem small_app {l m : List BA} (h : small l) (k : small m) : small (l ++ m) := fun x hx => by
  rcases List.mem_append.1 hx with c | c
  · exact h x c
  · exact k x c
theorem small_one {x : BA} (h : x.size ≤ 4096) : small [x] := fun y hy => by
  rw [List.mem_singleton.1 hy]; exact h
theorem small_cons {x : BA} {l : List BA} (h : small (x :: l)) : x.size ≤ 4096 ∧ small l := ⟨h x (List.mem_cons_self ..), fun y hy => h y (List.mem_cons_of_mem _ hy)⟩

theorem common_l1 (rem : List BA) (hrem : rem.length ≤ 64) : ∀ (r out : List BA) (i : Nat), rem.drop i = r → i ≤ rem.length → out.length + r.length ≤ 64 → small out → small r →
    Ev (fun k => match_Common.l1 k out rem (rem.length : Int) (i : Int)) (comRes (out ++ restL r)) := by
  intro r
  induction r with
  | nil =>
    intro out i hr hi hlen ho _
    have := drop_nil hr
    refine ev_succ ?_
    simp only [match_Common.l1]
    refine ev_neg (by omega) ?_
    rw [show out ++ restL [] = out from List.append_nil _]
    unfold comRes fixL
    by_cases e : out = []
    · subst e
      rw [if_pos rfl]
      exact ev_pos rfl (ev_const (topic_join [xB] (by decide) (small_one small_x)) (ev_some rfl))
    · rw [if_neg e]
      have hne : out.length ≠ 0 := fun h => e (List.length_eq_zero_iff.1 h)
      exact ev_neg (by omega) (ev_const (topic_join out (by simpa using hlen) ho) (ev_some rfl))
  | cons a ar ih =>
    intro out i hr hi hlen ho hs
    obtain ⟨hlt, ha, hd⟩ := drop_cons ByteArray.empty hr
    rw [List.length_cons] at hlen
    refine ev_succ ?_
    simp only [match_Common.l1, rd_get, ha]
    refine ev_pos (by omega) (ev_pos (by omega) (ev_pos (by omega) ?_))
    rw [up1 i (by omega)]
    cases hR : isR a
    · refine ev_neg (isR_not hR) (ev_const (plain_val a) (ev_pos (by omega) ?_))
      have := ih (out ++ [plainB a]) (i + 1) hd (by omega) (by rw [List.length_append]; simp only [List.length_cons, List.length_nil]; omega) (small_app ho (small_one (plain_small (small_cons hs).1))) (small_cons hs).2
      rw [show restL (a :: ar) = plainB a :: restL ar by simp [restL, hR]]
      rw [List.append_assoc] at this
      exact this
    · rw [show restL (a :: ar) = restL ar by simp [restL, hR]]
      exact ev_pos (isR_is hR) (ih out (i + 1) hd (by omega) (by omega) ho (small_cons hs).2)
theorem common_j3 (out rem : List BA) (hlen : out.length + rem.length ≤ 64) (ho : small out) (hr : small rem) : Ev (fun k => match_Common.j3 k out rem) (comRes (out ++ restL rem)) := by
  refine ev_succ ?_
  simp only [match_Common.j3]
  exact common_l1 rem (by omega) rem out 0 rfl (Nat.zero_le _) hlen ho hr
def tailL : List BA → List BA → List BA
  | [], _ => []
  | a :: ar, b => if isR a = true then restL b else restL (a :: ar)
theorem tail_cons (a : BA) (ar b : List BA) : tailL (a :: ar) b = if isR a = true then restL b else restL (a :: ar) := rfl
theorem common_tail (a b out : List BA) (hlen : out.length + a.length + b.length ≤ 64) (ho : small out) (ha : small a) (hb : small b) : Ev (fun k => match_Common.j1 k a b out false) (comRes (out ++ tailL a b)) := by
  refine ev_succ ?_
  simp only [match_Common.j1]
  refine ev_ff ?_
  cases a with
  | nil =>
    refine ev_neg (by decide) (ev_succ ?_)
    simp only [match_Common.j2]
    exact ev_ff (common_j3 out [] (by simp only [List.length_nil] at *; omega) ho ha)
  | cons a ar =>
    rw [List.length_cons] at hlen
    have e1 : rdOf ByteArray.empty (a :: ar) 0 = a := rfl
    simp only [List.length_cons, e1, beqR]
    refine ev_pos (by omega) (ev_pos (by omega) (ev_succ ?_))
    simp only [match_Common.j2]
    rw [tail_cons]
    refine ev_if (fun h => ?_) (fun h => ?_)
    · rw [if_pos h]
      exact common_j3 out b (by omega) ho hb
    · rw [if_neg (by simp [h])]
      exact common_j3 out (a :: ar) (by rw [List.length_cons]; omega) ho ha
theorem tail_nil (a : BA) (ar : List BA) : tailL (a :: ar) [] = comL (a :: ar) [] := by unfold tailL comL; rfl
theorem common_l0 : ∀ (a b out : List BA), out.length + a.length + b.length ≤ 64 → small out → small a → small b → Ev (fun k => match_Common.l0 k a b out) (comRes (out ++ comL a b))
  | [], b, out, hlen, ho, ha, hb => by
    refine ev_succ ?_
    simp only [match_Common.l0, List.length_nil]
    exact ev_neg (by decide) (common_tail [] b out hlen ho ha hb)
  | a :: ar, [], out, hlen, ho, ha, hb => by
    refine ev_succ ?_
    simp only [match_Common.l0, List.length_nil, List.length_cons]
    rw [← tail_nil]
    exact ev_pos (by omega) (ev_neg (by decide) (common_tail _ [] out hlen ho ha hb))
  | a :: ar, b :: bq, out, hlen, ho, ha, hb => by
    have e1 : rdOf ByteArray.empty (a :: ar) 0 = a := rfl
    have e2 : rdOf ByteArray.empty (b :: bq) 0 = b := rfl
    have hlen' := hlen
    simp only [List.length_cons] at hlen'
    refine ev_succ ?_
    simp only [match_Common.l0, List.length_cons, e1, e2, bneR]
    refine ev_pos (by omega) (ev_pos (by omega) (ev_pos (by omega) ?_))
    cases hr : isR a
    · refine ev_neg (isR_not hr) (ev_pos (by omega) ?_)
      cases hs : isR b
      · rw [show comL (a :: ar) (b :: bq) = pick a b :: comL ar bq by simp [comL, hr, hs]]
        refine ev_succ ?_
        simp only [match_Common.j1, List.length_cons, e1, e2, Bool.not_false, if_true]
        refine ev_pos (by omega) ?_
        have next : ∀ x : BA, x.size ≤ 4096 → Ev (fun k => match_Common.l0 k ((a :: ar).drop (1 : Int).toNat) ((b :: bq).drop (1 : Int).toNat) (out ++ [x])) (comRes (out ++ x :: comL ar bq)) := by
          intro x hx
          have := common_l0 ar bq (out ++ [x]) (by rw [List.length_append]; simp only [List.length_cons, List.length_nil]; omega) (small_app ho (small_one hx)) (small_cons ha).2 (small_cons hb).2
          rw [List.append_assoc] at this
          exact this
        unfold pick
        cases hp : isP a
        · rw [if_neg (by decide)]
          refine ev_neg (isP_not hp) (ev_const (plain_val a) (ev_pos (by omega) (ev_pos (by omega) (ev_pos (by omega) ?_))))
          rw [plain_not hp]
          exact next a (small_cons ha).1
        · rw [if_pos rfl]
          exact ev_pos (isP_is hp) (ev_pos (by omega) (ev_const (plain_val b) (ev_pos (by omega) (ev_pos (by omega) (ev_pos (by omega) (next _ (plain_small (small_cons hb).1)))))))
      · rw [show comL (a :: ar) (b :: bq) = tailL (a :: ar) (b :: bq) by simp [comL, tailL, hr, hs]]
        exact common_tail _ _ out hlen ho ha hb
    · rw [show comL (a :: ar) (b :: bq) = tailL (a :: ar) (b :: bq) by simp [comL, tailL, hr]]
      exact ev_pos (isR_is hr) (common_tail _ _ out hlen ho ha hb)
def comB (a b : BA) : BA × Bool := if meetB a b = true then comRes (comL (levels a) (levels b)) else (⟨#[]⟩, false)
theorem common_ev (a b : BA) (ha : a.size ≤ 9223372036854775806) (hb : b.size ≤ 9223372036854775806) : Ev (fun k => match_Common.f k a b) (comB a b) := by
  simp only [match_Common.f]
  unfold comB
  refine ev_bind (meets_ev a b ha hb) (ev_if (fun h => ?_) (fun h => ev_some (by rw [if_neg (by simp [h])])))
  rw [if_pos h]
  obtain ⟨fa, fb, _⟩ := meetB_split h
  have z1 := filter_size fa
  have z2 := filter_size fb
  have l1 := filter_len fa
  have l2 := filter_len fb
  exact ev_const (topic_levels a (by omega)) (ev_const (topic_levels b (by omega)) (common_l0 _ _ [] (by simp only [List.length_nil]; omega) small_nil (fun x hx => level_size z1 hx) (fun x hx => level_size z2 hx)))

/-! ### What is common is matched by both -/
end Go.Proofs.YtmgmkgnenopelaaDoor.Pure
