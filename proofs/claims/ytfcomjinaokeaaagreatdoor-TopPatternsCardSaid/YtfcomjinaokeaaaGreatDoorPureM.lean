
/- What the printed functions of match and of its reference answer, as the plain functions of lists of levels. -/
import Derived.Test.YtfcomjinaokeaaaGreatDoorPx7
import Derived.Test.YtfcomjinaokeaaaGreatDoorPureL
namespace Go.Proofs.YtfcomjinaokeaaaGreatDoor.Pure
open Go.RowKit Go.Proofs.YtfcomjinaokeaaaGreatDoor.P Go.Proofs.YtfcomjinaokeaaaGreatDoorW.PrintWords Go.Proofs.YtfcomjinaokeaaaGreatDoorW.PrintLast Go.Proofs.YtfcomjinaokeaaaGreatDoor.Ext

theorem drop_cons {α : Type} {l : List α} {i : Nat} {a : α} {ar : List α} (d : α) (h : l.drop i = a :: ar) : i < l.length ∧ l.getD i d = a ∧ l.drop (i + 1) = ar := by
  have hi : i < l.length := by
    rcases Nat.lt_or_ge i l.length with c | c
    · exact c
    · rw [List.drop_eq_nil_of_le c] at h; cases h
  rw [List.drop_eq_getElem_cons hi] at h
  injection h with h1 h2
  exact ⟨hi, by rw [List.getD_eq_getElem?_getD, List.getElem?_eq_getElem hi]; exact h1, h2⟩
theorem drop_nil {α : Type} {l : List α} {i : Nat} (h : l.drop i = []) : l.length ≤ i := by
  have := congrArg List.length h
  rw [List.length_drop] at this
  simp only [List.length_nil] at this
  omega
theorem up1 (i : Nat) (h : i ≤ 1000000) : wrap64 ((i : Int) + 1) = ((i + 1 : Nat) : Int) := by
  rw [w64 (by omega) (by omega)]
  omega
theorem rd_get (l : List BA) (i : Nat) : rdOf ByteArray.empty l (i : Int) = l.getD i ByteArray.empty := rfl
theorem isR_not {a : BA} (h : isR a = false) : ¬ a.toList = [35] := fun e => by rw [show isR a = true from decide_eq_true e] at h; cases h
theorem isP_not {a : BA} (h : isP a = false) : ¬ a.toList = [43] := fun e => by rw [show isP a = true from decide_eq_true e] at h; cases h
theorem eqB_not {a b : BA} (h : eqB a b = false) : ¬ a.toList = b.toList := fun e => by rw [show eqB a b = true from decide_eq_true e] at h; cases h
theorem isR_is {a : BA} (h : isR a = true) : a.toList = [35] := of_decide_eq_true h
theorem isP_is {a : BA} (h : isP a = true) : a.toList = [43] := of_decide_eq_true h
theorem eqB_is {a b : BA} (h : eqB a b = true) : a.toList = b.toList := of_decide_eq_true h
theorem beqR (a : BA) : (a.toList == ([35] : List UInt8)) = isR a := by
  unfold isR
  by_cases h : a.toList = [35]
  · rw [decide_eq_true h, h]; rfl
  · rw [decide_eq_false h]; exact beq_eq_false_iff_ne.2 h

/-! ### Matches -/
theorem match_l0 (F N : List BA) (hF : F.length ≤ 1000) : ∀ (f n : List BA) (i : Nat), F.drop i = f → N.drop i = n → i ≤ F.length → i ≤ N.length →
    Ev (fun k => match_Matches.l0 k F N F (F.length : Int) (i : Int)) (matchL f n) := by
  intro f
  induction f with
  | nil =>
    intro n i hf hn h1 h2
    have := drop_nil hf
    refine ev_succ ?_
    simp only [match_Matches.l0]
    refine ev_neg (by omega) (ev_some ?_)
    congr 1
    cases n with
    | nil =>
      have := drop_nil hn
      rw [show F.length = N.length by omega]
      exact beq_self_eq_true _
    | cons x n =>
      have := (drop_cons ByteArray.empty hn).1
      exact beq_eq_false_iff_ne.2 (by omega)
  | cons a ar ih =>
    intro n i hf hn h1 h2
    obtain ⟨hi, ha, hd⟩ := drop_cons ByteArray.empty hf
    refine ev_succ ?_
    simp only [match_Matches.l0, rd_get, ha]
    refine ev_pos (by omega) (ev_pos (by omega) (ev_pos (by omega) ?_))
    cases hr : isR a
    · refine ev_neg (isR_not hr) ?_
      cases n with
      | nil =>
        have := drop_nil hn
        refine ev_pos (by omega) (ev_some ?_)
        simp [matchL, hr]
      | cons x n =>
        obtain ⟨hj, hx, he⟩ := drop_cons ByteArray.empty hn
        refine ev_neg (by omega) ?_
        rw [up1 i (by omega), hx]
        have next := ih n (i + 1) hd he (by omega) (by omega)
        cases hp : isP a
        · refine ev_neg (isP_not hp) (ev_pos (by omega) ?_)
          cases hq : eqB a x
          · exact ev_neg (eqB_not hq) (ev_some (by simp [matchL, hr, hp, hq]))
          · rw [show matchL (a :: ar) (x :: n) = matchL ar n by simp [matchL, hr, hp, hq]]
            exact ev_pos (eqB_is hq) next
        · rw [show matchL (a :: ar) (x :: n) = matchL ar n by simp [matchL, hr, hp]]
          exact ev_pos (isP_is hp) next
    · refine ev_pos (isR_is hr) (ev_some ?_)
      rw [match_R hr]

def sysB (s : BA) : Bool := (topic_System.f s).getD false
theorem system_val (s : BA) : topic_System.f s = some (sysB s) := by
  have : ∃ b, topic_System.f s = some b := by
    unfold topic_System.f
    split
    · exact ⟨_, rfl⟩
    · exact ⟨_, rfl⟩
  obtain ⟨b, hb⟩ := this
  unfold sysB
  rw [hb]
  rfl
def wildL : List BA → Bool
  | [] => false
  | a :: _ => isP a || isR a
theorem levels_ne (s : BA) : levels s ≠ [] := by
  intro h
  have := congrArg List.length h
  rw [levels_length] at this
  cases this
theorem wild_val (a : BA) : match_wild.f a = some (isP a || isR a) := by
  unfold match_wild.f
  cases hp : isP a
  · rw [if_neg (isP_not hp), beqR]; rfl
  · rw [if_pos (isP_is hp)]; rfl
theorem barred_val (f s : BA) (hf : f.size < 4294967281) : match_barred.f f s = some (wildL (levels f) && sysB s) := by
  unfold match_barred.f
  rw [topic_levels f hf, Option.bind_some]
  cases h : levels f with
  | nil => exact absurd h (levels_ne f)
  | cons a ar =>
    rw [if_pos (by simp only [List.length_cons]; omega)]
    show (match_wild.f a).bind _ = _
    rw [wild_val, Option.bind_some]
    rw [show wildL (a :: ar) = (isP a || isR a) from rfl]
    cases isP a || isR a
    · rfl
    · rw [if_pos rfl, system_val]; rfl

theorem filter_size {s : BA} (h : filterB s = true) : s.size ≤ 64 := by
  unfold filterB at h
  rw [Bool.and_eq_true] at h
  exact (sized_size h.1).2
theorem valid_size {s : BA} (h : validB s = true) : s.size ≤ 64 := by
  unfold validB at h
  rw [Bool.and_eq_true] at h
  exact (sized_size h.1).2
theorem lev_len {s : BA} (h : s.size ≤ 64) : (levels s).length ≤ 65 := by
  have := levels_len s
  omega

def matchB (f n : BA) : Bool := filterB f && validB n && !(wildL (levels f) && sysB n) && matchL (levels f) (levels n)
theorem matches_ev (f n : BA) (hf : f.size ≤ 9223372036854775806) (hn : n.size ≤ 9223372036854775806) : Ev (fun k => match_Matches.f k f n) (matchB f n) := by
  simp only [match_Matches.f]
  have j1 : Ev (fun k => match_Matches.j0 k f n true) false := by
    refine ev_succ ?_
    simp only [match_Matches.j0, if_true]
    exact ev_some rfl
  refine ev_const (topic_filter f (by omega)) (ev_if (fun c => ?_) (fun c => ?_))
  · refine ev_const (topic_valid n (by omega)) (ev_if (fun d => ?_) (fun d => ?_))
    · have z1 := filter_size c
      have z2 := valid_size d
      refine ev_const (barred_val f n (by omega)) ?_
      unfold matchB
      rw [c, d]
      cases hb : wildL (levels f) && sysB n
      · refine ev_succ ?_
        simp only [match_Matches.j0]
        refine ev_ff (ev_const (topic_levels f (by omega)) (ev_const (topic_levels n (by omega)) ?_))
        have l1 := lev_len z1
        have l2 := lev_len z2
        exact match_l0 _ _ (by omega) _ _ 0 rfl rfl (Nat.zero_le _) (Nat.zero_le _)
      · exact j1
    · unfold matchB
      rw [c, d]
      exact j1
  · unfold matchB
    rw [c]
    exact j1

/-! ### Covers -/
def coverB (a b : BA) : Bool := filterB a && filterB b && coverL (levels a) (levels b) && !(wildL (levels a) && sysB b)
/-! ### Meets -/
theorem beqlen {α β : Type} (a : List α) (b : List β) : ((a.length : Int) == (b.length : Int)) = decide (a.length = b.length) := by
  by_cases h : a.length = b.length
  · rw [decide_eq_true h, h]; exact beq_self_eq_true _
  · rw [decide_eq_false h]; exact beq_eq_false_iff_ne.2 (by omega)
def meetB (a b : BA) : Bool := filterB a && filterB b && meetL (levels a) (levels b) && !(wildL (levels a) && sysB b) && !(wildL (levels b) && sysB a)
theorem sys_head (s : BA) : sysB s = true ↔ (toL s).head? = some 36 := by
  have hz := toL_len s
  unfold sysB topic_System.f
  cases h : toL s with
  | nil =>
    rw [h] at hz
    rw [if_neg (by simp only [List.length_nil] at hz; omega)]
    simp
  | cons c cs =>
    rw [h] at hz
    simp only [List.length_cons] at hz
    rw [if_pos (by omega), if_pos (by omega)]
    have hb : bt s 0 = (by_ s 0 : Int) := bt_by s 0
    have hc : by_ s 0 = c.toNat := by rw [by_toL, h]; rfl
    rw [hb, hc]
    simp only [Option.getD_some, List.head?_cons, Option.some.injEq, beq_iff_eq]
    constructor
    · intro e
      have e' : c.toNat = 36 := by omega
      exact u8_eq e' (by decide)
    · rintro rfl
      rfl
theorem pieces_head (c : UInt8) (hc : c ≠ 47) (l p : List UInt8) (r : List (List UInt8)) (h : pieces 47 l = p :: r) : l.head? = some c ↔ p.head? = some c := by
  cases l with
  | nil =>
    simp only [pieces, List.cons.injEq] at h
    rw [← h.1]
  | cons b l =>
    unfold pieces at h
    split at h
    · rename_i e
      simp only [List.cons.injEq] at h
      rw [← h.1, e]
      simp only [List.head?_cons, List.head?_nil, Option.some.injEq, reduceCtorEq, iff_false]
      exact fun e => hc e.symm
    · cases hp : pieces 47 l with
      | nil => exact absurd hp (pieces_ne 47 l)
      | cons q t =>
        rw [hp] at h
        simp only [onto, List.cons.injEq] at h
        rw [← h.1]
        rfl
theorem sys_level {s a : BA} {ar : List BA} (h : levels s = a :: ar) : sysB s = true ↔ (toL a).head? = some 36 := by
  rw [sys_head]
  unfold levels at h
  cases hp : pieces 47 (toL s) with
  | nil => exact absurd hp (pieces_ne 47 _)
  | cons p r =>
    rw [hp] at h
    simp only [List.map_cons, List.cons.injEq] at h
    rw [← h.1, toL_mk]
    exact pieces_head 36 (by decide) _ _ _ hp
theorem levels_cons (s : BA) : ∃ a ar, levels s = a :: ar := by
  cases h : levels s with
  | nil => exact absurd h (levels_ne s)
  | cons a ar => exact ⟨a, ar, rfl⟩
theorem sys_not_wild {s : BA} (h : sysB s = true) : wildL (levels s) = false := by
  obtain ⟨a, ar, e⟩ := levels_cons s
  rw [sys_level e] at h
  rw [e]
  show (isP a || isR a) = false
  cases hp : isP a
  · cases hr : isR a
    · rfl
    · have := isR_is hr
      rw [toList_toL] at this
      rw [this] at h
      exact absurd h (by decide)
  · have := isP_is hp
    rw [toList_toL] at this
    rw [this] at h
    exact absurd h (by decide)
theorem sys_same {b n : BA} (hw : wildL (levels b) = false) (h : matchL (levels b) (levels n) = true) : sysB b = sysB n := by
  obtain ⟨y, yr, e⟩ := levels_cons b
  obtain ⟨x, xr, d⟩ := levels_cons n
  rw [e] at hw h
  rw [d] at h
  have hw' : (isP y || isR y) = false := hw
  rw [Bool.or_eq_false_iff] at hw'
  simp only [matchL, hw'.1, hw'.2, Bool.false_or, Bool.and_eq_true] at h
  have hyx := eqB_eq h.1
  subst hyx
  rw [Bool.eq_iff_iff, sys_level e, sys_level d]

theorem matchB_split {f n : BA} (h : matchB f n = true) : filterB f = true ∧ validB n = true ∧ (wildL (levels f) && sysB n) = false ∧ matchL (levels f) (levels n) = true := by
  unfold matchB at h
  simp only [Bool.and_eq_true, Bool.not_eq_true'] at h
  exact ⟨h.1.1.1, h.1.1.2, h.1.2, h.2⟩
theorem matchB_join {f n : BA} (h1 : filterB f = true) (h2 : validB n = true) (h3 : (wildL (levels f) && sysB n) = false) (h4 : matchL (levels f) (levels n) = true) : matchB f n = true := by
  unfold matchB
  rw [h1, h2, h3, h4]
  rfl
theorem coverB_split {a b : BA} (h : coverB a b = true) : filterB a = true ∧ filterB b = true ∧ coverL (levels a) (levels b) = true ∧ (wildL (levels a) && sysB b) = false := by
  unfold coverB at h
  simp only [Bool.and_eq_true, Bool.not_eq_true'] at h
  exact ⟨h.1.1.1, h.1.1.2, h.1.2, h.2⟩
theorem meetB_split {a b : BA} (h : meetB a b = true) : filterB a = true ∧ filterB b = true ∧ meetL (levels a) (levels b) = true ∧ (wildL (levels a) && sysB b) = false ∧ (wildL (levels b) && sysB a) = false := by
  unfold meetB at h
  simp only [Bool.and_eq_true, Bool.not_eq_true'] at h
  exact ⟨h.1.1.1.1, h.1.1.1.2, h.1.1.2, h.1.2, h.2⟩

/-- A filter that covers another one matches what it matches. -/
theorem cover_matchB {a b n : BA} (h : coverB a b = true) (k : matchB b n = true) : matchB a n = true := by
  obtain ⟨fa, fb, hc, hw⟩ := coverB_split h
  obtain ⟨_, vn, kw, km⟩ := matchB_split k
  refine matchB_join fa vn ?_ (cover_match _ _ _ hc km)
  cases wa : wildL (levels a)
  · rfl
  · cases sn : sysB n
    · rfl
    · rw [wa, Bool.true_and] at hw
      rw [sn, Bool.and_true] at kw
      rw [sys_same kw km, sn] at hw
      cases hw
/-- Filters that match the same name meet. -/
theorem match_meetB {a b n : BA} (h : matchB a n = true) (k : matchB b n = true) : meetB a b = true := by
  obtain ⟨fa, vn, hw, hm⟩ := matchB_split h
  obtain ⟨fb, _, kw, km⟩ := matchB_split k
  have bar : ∀ {x y : BA}, (wildL (levels x) && sysB n) = false → (wildL (levels y) && sysB n) = false → matchL (levels y) (levels n) = true → (wildL (levels x) && sysB y) = false := by
    intro x y h1 h2 h3
    cases sy : sysB y
    · exact Bool.and_false _
    · have := sys_same (sys_not_wild sy) h3
      rw [sy] at this
      rw [← this] at h1
      exact h1
  unfold meetB
  rw [fa, fb, match_meet _ _ _ hm km, bar hw kw km, bar kw hw hm]
  rfl
theorem meetB_comm (a b : BA) : meetB a b = meetB b a := by
  unfold meetB
  rw [meetL_comm (levels a) (levels b)]
  cases filterB a <;> cases filterB b <;> cases meetL (levels b) (levels a) <;> cases wildL (levels a) && sysB b <;> cases wildL (levels b) && sysB a <;> rfl

/-! ### Topic names taken as filters -/
theorem levels_inj {a b : BA} (h : levels a = levels b) : a = b := by
  have e : ∀ s : BA, Lib.join ((levels s).map toL) [47] = toL s := by
    intro s
    rw [show (levels s).map toL = pieces 47 (toL s) from map_toL _, join_pieces]
  exact toL_inj (by rw [← e a, ← e b, h])
theorem level_byte {s x : BA} (hx : x ∈ levels s) {j : Nat} (hj : j < x.size) : ∃ m, m < s.size ∧ by_ s m = by_ x j := by
  obtain ⟨p, hp, e⟩ := List.mem_map.1 hx
  obtain ⟨c, hc, ec⟩ := toL_at hj
  have hcs : c ∈ toL s := pieces_sub 47 _ p hp c (by rw [← toL_mk p, e]; exact List.mem_of_getElem? hc)
  obtain ⟨m, hm⟩ := List.mem_iff_getElem?.1 hcs
  have hml : m < s.size := by rw [← toL_len]; exact (List.getElem?_eq_some_iff.1 hm).1
  exact ⟨m, hml, by rw [by_toL, hm, ← ec]; rfl⟩
theorem valid_free {s : BA} (h : validB s = true) : ∀ x ∈ levels s, isR x = false ∧ isP x = false := by
  unfold validB at h
  rw [Bool.and_eq_true] at h
  have hb := of_decide_eq_true h.2
  intro x hx
  have no : ∀ c : UInt8, x.toList = [c] → c ≠ 43 ∧ c ≠ 35 := by
    intro c e
    rw [toList_toL] at e
    have hz : x.size = 1 := by rw [← toL_len, e]; rfl
    obtain ⟨m, hm, em⟩ := level_byte hx (j := 0) (by omega)
    have h0 : by_ x 0 = c.toNat := by rw [by_toL, e]; rfl
    have := hb m hm
    rw [em, h0] at this
    exact ⟨fun e => this.1 (by rw [e]; rfl), fun e => this.2 (by rw [e]; rfl)⟩
  refine ⟨decide_eq_false (fun e => (no 35 e).2 rfl), decide_eq_false (fun e => (no 43 e).1 rfl)⟩
theorem valid_wild {s : BA} (h : validB s = true) : wildL (levels s) = false := by
  obtain ⟨a, ar, e⟩ := levels_cons s
  obtain ⟨h1, h2⟩ := valid_free h a (by rw [e]; exact List.mem_cons_self ..)
  rw [e]
  show (isP a || isR a) = false
  rw [h1, h2]
  rfl
theorem literal_self {a : BA} (h : validB a = true) : matchB a a = true :=
  matchB_join (valid_filter h) h (by rw [valid_wild h]; rfl) (match_self _)
theorem literal_other {a b : BA} (h : validB a = true) (hne : a ≠ b) : matchB a b = false := by
  cases k : matchB a b
  · rfl
  · exact absurd (levels_inj (match_lit _ _ (valid_free h) (matchB_split k).2.2.2)) hne

/-! ### Filters have the sign for the rest last -/
theorem byte_one {x : BA} {c : UInt8} (h : x.toList = [c]) : hasB x c.toNat = true := by
  rw [toList_toL] at h
  have hz : x.size = 1 := by rw [← toL_len, h]; rfl
  exact decide_eq_true ⟨0, by omega, by rw [by_toL, h]; rfl⟩
theorem okL_of : ∀ (l p : List BA), (∀ i, i < (p ++ l).length → hasB ((p ++ l).getD i ByteArray.empty) 35 = true → i + 1 = (p ++ l).length) → okL l
  | [], _, _ => trivial
  | a :: ar, p, h => by
    refine ⟨fun hr => ?_, okL_of ar (p ++ [a]) (by simpa using h)⟩
    have hlen : (p ++ a :: ar).length = p.length + (ar.length + 1) := by rw [List.length_append, List.length_cons]
    have := h p.length (by omega) (by
      rw [List.getD_eq_getElem?_getD, List.getElem?_append_right (Nat.le_refl _), Nat.sub_self]
      exact byte_one (isR_is hr))
    exact List.length_eq_zero_iff.1 (by omega)
theorem filter_ok {s : BA} (h : filterB s = true) : okL (levels s) := by
  unfold filterB at h
  rw [Bool.and_eq_true, levels_split, goodL_eq] at h
  have := of_decide_eq_true h.2
  refine okL_of _ [] (fun i hi h35 => ((this i ?_).2 ?_).2)
  · simpa using hi
  · simpa using h35
theorem coverB_cost {a b : BA} (h : coverB a b = true) : cost (levels a) ≤ cost (levels b) ∧ (cost (levels a) = cost (levels b) → a = b) := by
  obtain ⟨fa, fb, hc, _⟩ := coverB_split h
  obtain ⟨h1, h2⟩ := cover_cost _ _ (filter_ok fa) (filter_ok fb) hc
  exact ⟨h1, fun e => levels_inj (h2 e)⟩
end Go.Proofs.YtfcomjinaokeaaaGreatDoor.Pure
