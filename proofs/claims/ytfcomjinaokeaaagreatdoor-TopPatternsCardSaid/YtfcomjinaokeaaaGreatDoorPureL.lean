
/- The plain laws of layer 2 over lists of levels: no program in sight. -/
import Derived.Test.YtfcomjinaokeaaaGreatDoorPx1
import Derived.Test.YtfcomjinaokeaaaGreatDoorPx5
import Derived.Test.YtfcomjinaokeaaaGreatDoorPureT
namespace Go.Proofs.YtfcomjinaokeaaaGreatDoor.Pure
open Go.RowKit Go.Proofs.YtfcomjinaokeaaaGreatDoor.P Go.Proofs.YtfcomjinaokeaaaGreatDoorW.PrintWords Go.Proofs.YtfcomjinaokeaaaGreatDoorW.PrintLast Go.Proofs.YtfcomjinaokeaaaGreatDoor.Ext

abbrev BA := ByteArray
def isR (x : BA) : Bool := decide (x.toList = [35])
def isP (x : BA) : Bool := decide (x.toList = [43])
def eqB (x y : BA) : Bool := decide (x.toList = y.toList)
theorem toList_inj {x y : BA} (h : x.toList = y.toList) : x = y := toL_inj (by rw [← toList_toL, ← toList_toL, h])
theorem eqB_eq {x y : BA} (h : eqB x y = true) : x = y := toList_inj (of_decide_eq_true h)
theorem eqB_self (x : BA) : eqB x x = true := decide_eq_true rfl
theorem RP {x : BA} (h : isR x = true) (k : isP x = true) : False := by
  have h1 := of_decide_eq_true h
  have h2 := of_decide_eq_true k
  rw [h1] at h2
  exact absurd h2 (by decide)
theorem isP_eq {x y : BA} (h : isP x = true) (k : isP y = true) : x = y := toList_inj ((of_decide_eq_true h).trans (of_decide_eq_true k).symm)
theorem isR_eq {x y : BA} (h : isR x = true) (k : isR y = true) : x = y := toList_inj ((of_decide_eq_true h).trans (of_decide_eq_true k).symm)

def matchL : List BA → List BA → Bool
  | [], n => n.isEmpty
  | a :: _, [] => isR a
  | a :: f, x :: n => isR a || ((isP a || eqB a x) && matchL f n)
def coverL : List BA → List BA → Bool
  | [], b => b.isEmpty
  | a :: _, [] => isR a
  | a :: ar, b :: bq => isR a || (!isR b && (isP a || eqB a b) && coverL ar bq)
def meetL : List BA → List BA → Bool
  | [], [] => true
  | [], b :: _ => isR b
  | a :: _, [] => isR a
  | a :: ar, b :: bq => isR a || isR b || ((eqB a b || isP a || isP b) && meetL ar bq)
def xB : BA := ⟨#[120]⟩
def plainB (x : BA) : BA := if isP x = true then xB else x
def restL : List BA → List BA
  | [] => []
  | a :: ar => if isR a = true then restL ar else plainB a :: restL ar
def pick (a b : BA) : BA := if isP a = true then plainB b else a
def comL : List BA → List BA → List BA
  | [], _ => []
  | a :: ar, [] => if isR a = true then [] else restL (a :: ar)
  | a :: ar, b :: bq => if isR a = true then restL (b :: bq) else if isR b = true then restL (a :: ar) else pick a b :: comL ar bq
def fixL (l : List BA) : List BA := if l = [] then [xB] else l
/-- A sign that stands for the rest stands last. -/
def okL : List BA → Prop
  | [] => True
  | a :: ar => (isR a = true → ar = []) ∧ okL ar

theorem meetL_comm : ∀ a b, meetL a b = meetL b a
  | [], [] => rfl
  | [], _ :: _ => rfl
  | _ :: _, [] => rfl
  | a :: ar, b :: bq => by
    have e : eqB a b = eqB b a := by unfold eqB; exact decide_eq_decide.2 ⟨Eq.symm, Eq.symm⟩
    simp only [meetL, meetL_comm ar bq, e]
    cases isR a <;> cases isR b <;> cases isP a <;> cases isP b <;> simp

theorem cover_match : ∀ a b n, coverL a b = true → matchL b n = true → matchL a n = true
  | [], b, n, h, k => by
    cases b with
    | nil => exact k
    | cons b bq => simp [coverL] at h
  | a :: ar, b, n, h, k => by
    cases hr : isR a
    · cases b with
      | nil => simp [coverL, hr] at h
      | cons b bq =>
        simp only [coverL, hr, Bool.false_or, Bool.and_eq_true, Bool.not_eq_true', Bool.or_eq_true] at h
        obtain ⟨⟨h1, h2⟩, h3⟩ := h
        cases n with
        | nil => simp [matchL, h1] at k
        | cons x n =>
          simp only [matchL, h1, Bool.false_or, Bool.and_eq_true, Bool.or_eq_true] at k
          obtain ⟨k1, k2⟩ := k
          simp only [matchL, hr, Bool.false_or, Bool.and_eq_true, Bool.or_eq_true]
          refine ⟨?_, cover_match ar bq n h3 k2⟩
          rcases h2 with h2 | h2
          · exact Or.inl h2
          · rw [eqB_eq h2]; exact k1
    · cases n <;> simp [matchL, hr]

theorem match_meet : ∀ a b n, matchL a n = true → matchL b n = true → meetL a b = true
  | [], b, n, h, k => by
    cases n with
    | nil => cases b with
      | nil => rfl
      | cons b bq => simpa [matchL, meetL] using k
    | cons x n => simp [matchL] at h
  | a :: ar, b, n, h, k => by
    cases b with
    | nil => cases n with
      | nil => simpa [matchL, meetL] using h
      | cons x n => simp [matchL] at k
    | cons b bq =>
      cases ha : isR a
      · cases hb : isR b
        · cases n with
          | nil => simp [matchL, ha] at h
          | cons x n =>
            simp only [matchL, ha, hb, Bool.false_or, Bool.and_eq_true, Bool.or_eq_true] at h k
            simp only [meetL, ha, hb, Bool.false_or, Bool.and_eq_true, Bool.or_eq_true]
            refine ⟨?_, match_meet ar bq n h.2 k.2⟩
            rcases h.1 with c | c
            · exact Or.inl (Or.inr c)
            · rcases k.1 with d | d
              · exact Or.inr d
              · rw [eqB_eq c, eqB_eq d]; exact Or.inl (Or.inl (eqB_self _))
        · simp [meetL, ha, hb]
      · simp [meetL, ha]

theorem plain_not {x : BA} (h : isP x = false) : plainB x = x := by unfold plainB; rw [h]; rfl
theorem match_rest : ∀ l, matchL l (restL l) = true
  | [] => rfl
  | a :: ar => by
    cases hr : isR a
    · simp only [restL, hr, Bool.false_eq_true, if_false, matchL, Bool.false_or, Bool.and_eq_true, Bool.or_eq_true]
      refine ⟨?_, match_rest ar⟩
      cases hp : isP a
      · rw [plain_not hp]; exact Or.inr (eqB_self a)
      · exact Or.inl rfl
    · generalize restL (a :: ar) = n
      cases n <;> simp [matchL, hr]
theorem match_R {a : BA} {ar : List BA} (h : isR a = true) (n : List BA) : matchL (a :: ar) n = true := by cases n <;> simp [matchL, h]
theorem com_match : ∀ a b, meetL a b = true → matchL a (comL a b) = true ∧ matchL b (comL a b) = true
  | [], [], _ => ⟨rfl, rfl⟩
  | [], b :: bq, h => ⟨rfl, match_R h _⟩
  | a :: ar, [], h => by
    have e : comL (a :: ar) [] = [] := by unfold comL; rw [if_pos (show isR a = true from h)]
    rw [e]
    exact ⟨match_R h _, rfl⟩
  | a :: ar, b :: bq, h => by
    unfold comL
    cases ha : isR a
    · rw [if_neg (by decide)]
      cases hb : isR b
      · rw [if_neg (by decide)]
        simp only [meetL, ha, hb, Bool.false_or, Bool.and_eq_true, Bool.or_eq_true] at h
        obtain ⟨h1, h2⟩ := h
        obtain ⟨i1, i2⟩ := com_match ar bq h2
        simp only [matchL, ha, hb, i1, i2, Bool.false_or, Bool.and_true, Bool.or_eq_true]
        unfold pick
        cases pa : isP a
        · rw [if_neg (by decide)]
          refine ⟨Or.inr (eqB_self a), ?_⟩
          rw [pa] at h1
          rcases h1 with (c | c) | c
          · rw [eqB_eq c]; exact Or.inr (eqB_self b)
          · cases c
          · exact Or.inl c
        · rw [if_pos rfl]
          refine ⟨Or.inl rfl, ?_⟩
          cases pb : isP b
          · rw [plain_not pb]; exact Or.inr (eqB_self b)
          · exact Or.inl rfl
      · rw [if_pos rfl]
        exact ⟨match_rest _, match_R hb _⟩
    · rw [if_pos rfl]
      exact ⟨match_R ha _, match_rest _⟩
theorem com_nil : ∀ {a b : List BA}, a ≠ [] → b ≠ [] → meetL a b = true → comL a b = [] → okL b → okL a → ∀ n, matchL a n = true ∧ matchL b n = true
  | [], _, h, _, _, _, _, _, _ => absurd rfl h
  | _ :: _, [], _, h, _, _, _, _, _ => absurd rfl h
  | a :: ar, b :: bq, _, _, _, e, _, _, n => by
    unfold comL at e
    cases ha : isR a
    · rw [ha, if_neg (by decide)] at e
      cases hb : isR b
      · rw [hb, if_neg (by decide)] at e; cases e
      · rw [hb, if_pos rfl] at e
        unfold restL at e
        rw [ha, if_neg (by decide)] at e
        cases e
    · rw [ha, if_pos rfl] at e
      unfold restL at e
      cases hb : isR b
      · rw [hb, if_neg (by decide)] at e; cases e
      · exact ⟨match_R ha n, match_R hb n⟩
theorem com_fix {a b : List BA} (ha : a ≠ []) (hb : b ≠ []) (h : meetL a b = true) (oa : okL a) (ob : okL b) : matchL a (fixL (comL a b)) = true ∧ matchL b (fixL (comL a b)) = true := by
  unfold fixL
  split
  · rename_i e
    exact com_nil ha hb h e ob oa _
  · exact com_match a b h

theorem rest_mem : ∀ (l : List BA) x, x ∈ restL l → x = xB ∨ x ∈ l
  | [], x, h => by cases h
  | a :: ar, x, h => by
    unfold restL at h
    split at h
    · exact (rest_mem ar x h).imp_right (List.mem_cons_of_mem _)
    · rcases List.mem_cons.1 h with rfl | h
      · unfold plainB
        split
        · exact Or.inl rfl
        · exact Or.inr (List.mem_cons_self ..)
      · exact (rest_mem ar x h).imp_right (List.mem_cons_of_mem _)
theorem com_mem : ∀ (a b : List BA) x, x ∈ comL a b → x = xB ∨ x ∈ a ∨ x ∈ b
  | [], b, x, h => by cases h
  | a :: ar, [], x, h => by
    unfold comL at h
    split at h
    · cases h
    · exact (rest_mem _ x h).imp_right Or.inl
  | a :: ar, b :: bq, x, h => by
    unfold comL at h
    split at h
    · exact (rest_mem _ x h).imp_right Or.inr
    · split at h
      · exact (rest_mem _ x h).imp_right Or.inl
      · rcases List.mem_cons.1 h with rfl | h
        · unfold pick plainB
          split
          · split
            · exact Or.inl rfl
            · exact Or.inr (Or.inr (List.mem_cons_self ..))
          · exact Or.inr (Or.inl (List.mem_cons_self ..))
        · rcases com_mem ar bq x h with c | c | c
          · exact Or.inl c
          · exact Or.inr (Or.inl (List.mem_cons_of_mem _ c))
          · exact Or.inr (Or.inr (List.mem_cons_of_mem _ c))
theorem rest_len : ∀ l, (restL l).length ≤ l.length
  | [] => Nat.le_refl _
  | a :: ar => by
    have := rest_len ar
    unfold restL
    split
    · exact Nat.le_succ_of_le this
    · exact Nat.succ_le_succ this
theorem com_len : ∀ a b, (comL a b).length ≤ a.length + b.length
  | [], b => Nat.zero_le _
  | a :: ar, [] => by
    unfold comL
    split
    · exact Nat.zero_le _
    · exact rest_len _
  | a :: ar, b :: bq => by
    have := com_len ar bq
    have h1 := rest_len (a :: ar)
    have h2 := rest_len (b :: bq)
    unfold comL
    split
    · omega
    · split
      · omega
      · simp only [List.length_cons] at *; omega

/-- What a list of levels costs: the lower, the more it covers. -/
def cost : List BA → Nat
  | [] => 1
  | a :: ar => if isR a = true then 0 else (if isP a = true then 1 else 2) + cost ar
theorem cost_cons {a : BA} (ar : List BA) (h : isR a = false) : cost (a :: ar) = (if isP a = true then 1 else 2) + cost ar := by
  rw [cost, h, if_neg (by decide)]
theorem cost_pos {a : BA} (ar : List BA) (h : isR a = false) : 0 < cost (a :: ar) := by
  unfold cost
  rw [h, if_neg (by decide)]
  split <;> omega
theorem cover_cost : ∀ a b, okL a → okL b → coverL a b = true → cost a ≤ cost b ∧ (cost a = cost b → a = b)
  | [], b, _, _, h => by
    cases b with
    | nil => exact ⟨Nat.le_refl _, fun _ => rfl⟩
    | cons b bq => simp [coverL] at h
  | a :: ar, [], oa, _, h => by
    have ha : isR a = true := h
    unfold cost
    rw [if_pos ha]
    exact ⟨Nat.zero_le _, fun e => by cases e⟩
  | a :: ar, b :: bq, oa, ob, h => by
    cases ha : isR a
    · simp only [coverL, ha, Bool.false_or, Bool.and_eq_true, Bool.not_eq_true', Bool.or_eq_true] at h
      obtain ⟨⟨h1, h2⟩, h3⟩ := h
      obtain ⟨i1, i2⟩ := cover_cost ar bq oa.2 ob.2 h3
      rw [cost_cons ar ha, cost_cons bq h1]
      cases pa : isP a
      · rw [pa] at h2
        rcases h2 with c | c
        · cases c
        · obtain rfl := eqB_eq c
          rw [pa]
          refine ⟨Nat.add_le_add_left i1 _, fun e => ?_⟩
          rw [i2 (Nat.add_left_cancel e)]
      · rw [if_pos rfl]
        cases pb : isP b
        · rw [if_neg (by decide)]
          exact ⟨by omega, fun e => by omega⟩
        · rw [if_pos rfl]
          refine ⟨Nat.add_le_add_left i1 _, fun e => ?_⟩
          rw [i2 (Nat.add_left_cancel e), isP_eq pa pb]
    · have e0 : cost (a :: ar) = 0 := by unfold cost; rw [if_pos ha]
      rw [e0]
      refine ⟨Nat.zero_le _, fun e => ?_⟩
      cases hb : isR b
      · have := cost_pos bq hb
        omega
      · rw [oa.1 ha, ob.1 hb, isR_eq ha hb]

theorem match_self : ∀ l : List BA, matchL l l = true
  | [] => rfl
  | a :: ar => by simp [matchL, eqB_self, match_self ar]
theorem match_lit : ∀ (l n : List BA), (∀ x ∈ l, isR x = false ∧ isP x = false) → matchL l n = true → l = n
  | [], n, _, h => by
    cases n with
    | nil => rfl
    | cons x n => simp [matchL] at h
  | a :: ar, [], hl, h => by
    have := (hl a (List.mem_cons_self ..)).1
    rw [show matchL (a :: ar) [] = isR a from rfl, this] at h
    cases h
  | a :: ar, x :: n, hl, h => by
    obtain ⟨h1, h2⟩ := hl a (List.mem_cons_self ..)
    simp only [matchL, h1, h2, Bool.false_or, Bool.and_eq_true] at h
    rw [eqB_eq h.1, match_lit ar n (fun y hy => hl y (List.mem_cons_of_mem _ hy)) h.2]

theorem join_levels (s : ByteArray) (hs : s.size ≤ 1000000000) : topic_Join.f (levels s) = some s := by
  unfold topic_Join.f strings_Join.f
  have e : (levels s).map toL = pieces 47 (toL s) := map_toL _
  have hc := List.count_le_length (a := (47 : UInt8)) (l := toL s)
  rw [toL_len] at hc
  rw [joinF_eq _ 47 (by rw [e, join_pieces, toL_len]; omega) (by rw [levels_length]; omega), e, join_pieces]
  rfl
theorem levels_len (s : ByteArray) : (levels s).length ≤ s.size + 1 := by
  have hc := List.count_le_length (a := (47 : UInt8)) (l := toL s)
  rw [toL_len] at hc
  rw [levels_length]
  omega
theorem goodL_free (s : ByteArray) (h : ∀ i, i < s.size → by_ s i ≠ 43 ∧ by_ s i ≠ 35) : goodL (levels s) = true := by
  refine decide_eq_true (fun i hi j hj => ?_)
  have hm : (levels s).getD i ByteArray.empty ∈ levels s := by rw [List.getD_eq_getElem?_getD, List.getElem?_eq_getElem hi]; exact List.getElem_mem hi
  obtain ⟨p, hp, e⟩ := List.mem_map.1 hm
  obtain ⟨c, hc, ec⟩ := toL_at hj
  have hcs : c ∈ toL s := pieces_sub 47 _ p hp c (by rw [← toL_mk p, e]; exact List.mem_of_getElem? hc)
  obtain ⟨m, hm⟩ := List.mem_iff_getElem?.1 hcs
  have hml : m < s.size := by rw [← toL_len]; exact (List.getElem?_eq_some_iff.1 hm).1
  have hb : by_ s m = by_ ((levels s).getD i ByteArray.empty) j := by rw [by_toL, hm, ← ec]; rfl
  have := h m hml
  rw [hb] at this
  exact ⟨fun h => absurd h this.1, fun h => absurd h this.2⟩
theorem valid_filter {s : ByteArray} (h : validB s = true) : filterB s = true := by
  unfold validB at h
  rw [Bool.and_eq_true] at h
  unfold filterB
  rw [h.1, levels_split, goodL_free s (of_decide_eq_true h.2)]
  rfl
/-- What was joined of the first i elements. -/
theorem joined_len (xs : List (List UInt8)) (c : UInt8) (B : Nat) (h : ∀ x ∈ xs, x.length ≤ B) : (Lib.join xs [c]).length ≤ (B + 1) * xs.length := by
  induction xs with
  | nil => simp [Lib.join_nil]
  | cons x r ih =>
    cases r with
    | nil => rw [Lib.join_one]; have := h x List.mem_cons_self; simp; omega
    | cons y r =>
      rw [join_cons2]
      have h1 := ih (fun z hz => h z (List.mem_cons_of_mem _ hz))
      have h2 := h x List.mem_cons_self
      simp only [List.length_append, List.length_cons] at h1 ⊢
      rw [Nat.mul_add]
      omega
theorem join_snoc (xs : List (List UInt8)) (x : List UInt8) (c : UInt8) (h : xs ≠ []) : Lib.join (xs ++ [x]) [c] = Lib.join xs [c] ++ c :: x := by
  induction xs with
  | nil => exact absurd rfl h
  | cons a r ih =>
    cases r with
    | nil => show Lib.join [a, x] [c] = _; rw [join_cons2, Lib.join_one, Lib.join_one]
    | cons b r =>
      show Lib.join (a :: b :: (r ++ [x])) [c] = _
      rw [join_cons2, join_cons2]
      have := ih (by simp)
      show a ++ c :: Lib.join ((b :: r) ++ [x]) [c] = _
      rw [this]
      simp
theorem mk_append (a b : List UInt8) : mkB a ++ mkB b = mkB (a ++ b) := by
  apply toL_inj
  show (mkB a ++ mkB b).data.toList = _
  simp [mkB, toL]
theorem append_eq (a b : ByteArray) : a ++ b = mkB (toL a ++ toL b) := by rw [← mk_append, mk_toL, mk_toL]
end Go.Proofs.YtfcomjinaokeaaaGreatDoor.Pure
