/- The specification's match of a binding key and a routing key, by its table; on patterns and keys of filters and names it is the topics' match. -/
import Derived.Test.YtegcobkhejpmkaaDoorPx18
import Derived.Test.YtegcobkhejpmkaaDoorPx36
import Derived.Test.YtegcobkhejpmkaaDoorPx37
import Derived.Test.YtegcobkhejpmkaaDoorPureWh
-- needs: brokerref24_words brokerref24_Text brokerref24_Matches brokerref02_Matches
namespace Go.Proofs.YtegcobkhejpmkaaDoor.Pure
open Go.RowKit Go.Proofs.YtegcobkhejpmkaaDoor.P Go.Proofs.YtegcobkhejpmkaaDoorW.PrintWords Go.Proofs.YtegcobkhejpmkaaDoorW.PrintLast Go.Proofs.YtegcobkhejpmkaaDoor.Ext

/-- A sign for any number of words. -/
def hashA (f : List BA → Bool) : List BA → Bool
  | [] => f []
  | x :: n => f (x :: n) || hashA f n
def amq : List BA → List BA → Bool
  | [], n => n.isEmpty
  | a :: p, n => if a.toList = [35] then hashA (amq p) n else match n with
    | [] => false
    | x :: n' => if a.toList = [42] then amq p n' else decide (a.toList = x.toList) && amq p n'
theorem amq_hash {a : BA} (h : a.toList = [35]) (p n : List BA) : amq (a :: p) n = hashA (amq p) n := by
  unfold amq
  rw [if_pos h]
theorem amq_end {a : BA} (h : ¬ a.toList = [35]) (p : List BA) : amq (a :: p) [] = false := by
  unfold amq
  rw [if_neg h]
theorem amq_star {a : BA} (h : a.toList = [42]) (p : List BA) (x : BA) (n : List BA) : amq (a :: p) (x :: n) = amq p n := by
  have h5 : ¬ a.toList = [35] := by rw [h]; decide
  conv => lhs; unfold amq
  rw [if_neg h5]
  show (if a.toList = [42] then _ else _) = _
  rw [if_pos h]
theorem amq_word {a : BA} (h : ¬ a.toList = [35]) (h2 : ¬ a.toList = [42]) (p : List BA) (x : BA) (n : List BA) : amq (a :: p) (x :: n) = (decide (a.toList = x.toList) && amq p n) := by
  conv => lhs; unfold amq
  rw [if_neg h]
  show (if a.toList = [42] then _ else _) = _
  rw [if_neg h2]
/-- A row of the table. -/
def rowOk (g : List BA → Bool) (n : List BA) (x : List Bool) (d : Nat) : Prop := x.length = n.length + 1 ∧ ∀ j, d ≤ j → j ≤ n.length → x.getD j false = g (n.drop j)
theorem row_set {g : List BA → Bool} {n : List BA} {x : List Bool} {d : Nat} (h : rowOk g n x (d + 1)) (hd : d ≤ n.length) {b : Bool} (hb : b = g (n.drop d)) : rowOk g n (x.set d b) d := by
  refine ⟨by rw [List.length_set]; exact h.1, fun j h0 h1 => ?_⟩
  have hl := h.1
  rw [List.getD_eq_getElem?_getD, List.getElem?_set]
  by_cases e : d = j
  · subst e
    rw [if_pos rfl, if_pos (by omega)]
    exact hb
  · rw [if_neg e, ← List.getD_eq_getElem?_getD]
    exact h.2 j (by omega) h1
theorem rdB (x : List Bool) (i : Nat) : rdOf false x (i : Int) = x.getD i false := rfl
theorem down1 (d : Nat) (h : d ≤ 1000000) : wrap64 (((d + 1 : Nat) : Int) - 1 - 1) = (d : Int) - 1 := by
  rw [w64 (by omega) (by omega)]
  omega
theorem drop_get {n : List BA} {d : Nat} (h : d < n.length) : n.drop d = n.getD d ByteArray.empty :: n.drop (d + 1) := by
  rw [List.drop_eq_getElem_cons h, List.getD_eq_getElem?_getD, List.getElem?_eq_getElem h]
  rfl
theorem words_l1 (P n : List BA) (_ : P.length ≤ 1000) (hn : n.length ≤ 1000) (i : Nat) (a : BA) (p : List BA) (hi : P.drop i = a :: p) (x5 : List Bool) (hx : rowOk (amq p) n x5 0) (r : Bool)
    (hgo : ∀ x7, rowOk (amq (a :: p)) n x7 0 → Ev (fun k => brokerref24_words.l0 k P n x7 (wrap64 ((i : Int) - 1))) r) :
    ∀ (d : Nat) (x7 : List Bool), d ≤ n.length + 1 → rowOk (amq (a :: p)) n x7 d → Ev (fun k => brokerref24_words.l1 k P n x5 (i : Int) x7 ((d : Int) - 1)) r := by
  obtain ⟨i1, i2, i3⟩ := drop_cons ByteArray.empty hi
  intro d
  induction d with
  | zero =>
    intro x7 _ h
    refine ev_succ ?_
    simp only [brokerref24_words.l1]
    exact ev_neg (by omega) (hgo x7 h)
  | succ d ih =>
    intro x7 hd h
    have hl5 := hx.1
    have hl7 := h.1
    have x5d := hx.2 d (Nat.zero_le _) (by omega)
    have put : ∀ b : Bool, b = amq (a :: p) (n.drop d) → Ev (fun k => brokerref24_words.l1 k P n x5 (i : Int) (x7.set d b) ((d : Int) - 1)) r := fun b hb => ih _ (by omega) (row_set h (by omega) hb)
    have ed : ((d + 1 : Nat) : Int) - 1 = (d : Int) := by omega
    have edn : ((d : Int)).toNat = d := Int.toNat_natCast d
    have ew : wrap64 ((d : Int) - 1) = (d : Int) - 1 := w64 (by omega) (by omega)
    have eu : wrap64 ((d : Int) + 1) = ((d + 1 : Nat) : Int) := up1 d (by omega)
    refine ev_succ ?_
    simp only [brokerref24_words.l1]
    rw [ed, edn, ew, eu, rd_get, rd_get, i2, rdB, rdB, rdB, x5d]
    clear ew eu
    refine ev_pos (by omega) (ev_pos (by omega) (ev_pos (by omega) ?_))
    by_cases c : a.toList = [35]
    · refine ev_pos c (ev_pos (by omega) (ev_pos (by omega) ?_))
      by_cases c2 : amq p (n.drop d) = true
      · refine ev_pos c2 (ev_pos (by omega) (put true ?_))
        rw [amq_hash c]
        cases hn' : n.drop d with
        | nil =>
          rw [hn'] at c2
          exact c2.symm
        | cons x m =>
          rw [hn'] at c2
          show _ = (amq p (x :: m) || _)
          rw [c2]
          rfl
      · have c2' := Bool.eq_false_iff.2 c2
        refine ev_neg c2 ?_
        by_cases c3 : d < n.length
        · refine ev_pos (by omega) (ev_pos (by omega) (ev_pos (by omega) (ev_pos (by omega) (put _ ?_))))
          rw [h.2 (d + 1) (Nat.le_refl _) (by omega), amq_hash c, amq_hash c, drop_get c3]
          rw [drop_get c3] at c2'
          show _ = (amq p _ || hashA _ _)
          rw [c2']
          rfl
        · refine ev_neg (by omega) (ev_pos (by omega) (put false ?_))
          have : n.drop d = [] := List.drop_eq_nil_of_le (by omega)
          rw [amq_hash c]
          rw [this] at c2' ⊢
          exact c2'.symm
    · refine ev_neg c ?_
      by_cases c3 : d < n.length
      · refine ev_pos (by omega) ?_
        have x5e := hx.2 (d + 1) (Nat.zero_le _) (by omega)
        rw [x5e]
        by_cases c2 : a.toList = [42]
        · refine ev_pos c2 (ev_pos (by omega) (ev_pos (by omega) (ev_pos (by omega) (ev_pos (by omega) (put _ ?_)))))
          rw [drop_get c3, amq_star c2]
        · refine ev_neg c2 (ev_pos (by omega) ?_)
          by_cases c4 : a.toList = (n.getD d ByteArray.empty).toList
          · refine ev_pos c4 (ev_pos (by omega) (ev_pos (by omega) (ev_pos (by omega) (put _ ?_))))
            rw [drop_get c3, amq_word c c2, decide_eq_true c4]
            rfl
          · refine ev_neg c4 (ev_pos (by omega) (put _ ?_))
            rw [drop_get c3, amq_word c c2, decide_eq_false c4]
            rfl
      · refine ev_neg (by omega) (ev_pos (by omega) (ev_pos (by omega) (put false ?_)))
        have : n.drop d = [] := List.drop_eq_nil_of_le (by omega)
        rw [this, amq_end c]
theorem words_l0 (P n : List BA) (hP : P.length ≤ 1000) (hn : n.length ≤ 1000) : ∀ (i : Nat) (x5 : List Bool), i ≤ P.length → rowOk (amq (P.drop i)) n x5 0 → Ev (fun k => brokerref24_words.l0 k P n x5 ((i : Int) - 1)) (amq P n) := by
  intro i
  induction i with
  | zero =>
    intro x5 _ h
    have hl := h.1
    have h0 := h.2 0 (Nat.le_refl _) (Nat.zero_le _)
    refine ev_succ ?_
    simp only [brokerref24_words.l0]
    refine ev_neg (by omega) (ev_pos (by omega) (ev_some ?_))
    show some (x5.getD 0 false) = _
    rw [h0]
    rfl
  | succ i ih =>
    intro x5 hi h
    have hlt : i < P.length := by omega
    have hl := h.1
    have hd := drop_get hlt
    have eu : wrap64 ((n.length : Int) + 1) = ((n.length + 1 : Nat) : Int) := up1 _ (by omega)
    have ei : ((i + 1 : Nat) : Int) - 1 = (i : Int) := by omega
    have en : (((n.length + 1 : Nat) : Int)).toNat = n.length + 1 := Int.toNat_natCast _
    refine ev_succ ?_
    simp only [brokerref24_words.l0]
    rw [eu, ei, en]
    clear eu
    refine ev_pos (by omega) (ev_pos (by omega) (ev_pos (by omega) ?_))
    have := words_l1 P n hP hn i _ _ hd x5 h (amq P n) (fun x7 h7 => by
      rw [w64 (by omega) (by omega)]
      exact ih x7 (by omega) (by rw [hd]; exact h7)) (n.length + 1) (List.replicate (n.length + 1) false) (Nat.le_refl _) ⟨List.length_replicate, fun j h0 h1 => by omega⟩
    rw [show (((n.length + 1 : Nat) : Int) - 1) = (n.length : Int) by omega] at this
    exact this
theorem words_ev (P n : List BA) (hP : P.length ≤ 1000) (hn : n.length ≤ 1000) : Ev (fun k => brokerref24_words.f k P n) (amq P n) := by
  have eu : wrap64 ((n.length : Int) + 1) = ((n.length + 1 : Nat) : Int) := up1 _ (by omega)
  have ep : wrap64 ((P.length : Int) - 1) = (P.length : Int) - 1 := w64 (by omega) (by omega)
  have en : (((n.length + 1 : Nat) : Int)).toNat = n.length + 1 := Int.toNat_natCast _
  have el : ((n.length : Int)).toNat = n.length := Int.toNat_natCast _
  simp only [brokerref24_words.f]
  rw [eu, ep, en, el]
  clear eu ep
  refine ev_pos (by omega) (ev_pos (by omega) (ev_const rfl (ev_pos (by omega) (ev_pos ?_ ?_))))
  · rw [List.length_replicate]
    omega
  · refine words_l0 P n hP hn P.length _ (Nat.le_refl _) ⟨by rw [List.length_set, List.length_replicate], fun j _ h1 => ?_⟩
    rw [List.drop_of_length_le (Nat.le_refl P.length), List.getD_eq_getElem?_getD, List.getElem?_set]
    by_cases e : n.length = j
    · subst e
      rw [if_pos rfl, if_pos (by rw [List.length_replicate]; omega), List.drop_of_length_le (Nat.le_refl n.length)]
      rfl
    · rw [if_neg e, List.getElem?_replicate, if_pos (by omega), drop_get (by omega)]
      rfl
/-! ### text -/
theorem cont_no {l : List UInt8} (h : (0 : UInt8) ∉ l) : strings_Contains.f (mkB l) (⟨#[0]⟩ : ByteArray) = some false := by
  unfold strings_Contains.f contF
  rw [if_pos (show (⟨#[0]⟩ : ByteArray).size = 1 from rfl)]
  show some (decide (0 ≤ Lib.indexByte l 0)) = _
  rw [indexByte_miss 0 l h]
  rfl
theorem text_val {l : List UInt8} (h : (0 : UInt8) ∉ l) (hl : l.length ≤ 64) : brokerref24_Text.f (mkB l) = some 0 := by
  unfold brokerref24_Text.f
  rw [if_neg (by rw [size_mk]; omega), cont_no h, Option.bind_some]
  rfl
/-! ### the same match -/
theorem hash_any : ∀ n : List BA, hashA (amq []) n = true
  | [] => rfl
  | x :: n => by
    show (_ || hashA (amq []) n) = true
    rw [hash_any n, Bool.or_true]
theorem pat_hash {a : BA} (h : isR a = true) : (patB1 a).toList = [35] := by
  have h' := isR_is h
  rw [toList_toL] at h' ⊢
  unfold patB1 patL
  rw [if_neg (by rw [h']; decide), if_pos h']
  rfl
theorem pat_star {a : BA} (h : isP a = true) : (patB1 a).toList = [42] := by
  have h' := isP_is h
  rw [toList_toL] at h' ⊢
  unfold patB1 patL
  rw [if_pos h']
  rfl
theorem pat_word {a : BA} (h : isR a = false) (k : isP a = false) : (patB1 a).toList = wordL (toL a) := by
  have h' := isR_not h
  have k' := isP_not k
  rw [toList_toL] at h' k' ⊢
  unfold patB1 patL
  rw [if_neg k', if_neg h']
  rfl
theorem amq_match : ∀ (f n : List BA), okL f → amq (f.map patB1) (n.map wordB) = matchL f n
  | [], n, _ => by
    cases n <;> rfl
  | a :: f, n, ho => by
    obtain ⟨o1, o2⟩ := ho
    rw [List.map_cons]
    cases hr : isR a with
    | true =>
      obtain rfl := o1 hr
      rw [amq_hash (pat_hash hr)]
      rw [show ([] : List BA).map patB1 = [] from rfl, hash_any, match_R hr]
    | false =>
      cases hp : isP a with
      | true =>
        have h42 := pat_star hp
        cases n with
        | nil =>
          rw [show ([] : List BA).map wordB = [] from rfl, amq_end (by rw [h42]; decide)]
          show false = isR a
          exact hr.symm
        | cons x n =>
          rw [List.map_cons, amq_star h42, amq_match f n o2]
          show _ = (isR a || ((isP a || eqB a x) && matchL f n))
          rw [hr, hp]
          rfl
      | false =>
        have hw := pat_word hr hp
        have n35 : ¬ (patB1 a).toList = [35] := by
          rw [hw]
          intro e
          exact isR_not hr (by rw [toList_toL]; exact word_35 e)
        have n42 : ¬ (patB1 a).toList = [42] := by
          rw [hw]
          exact word_42 _
        cases n with
        | nil =>
          rw [show ([] : List BA).map wordB = [] from rfl, amq_end n35]
          show false = isR a
          exact hr.symm
        | cons x n =>
          rw [List.map_cons, amq_word n35 n42, amq_match f n o2]
          show _ = (isR a || ((isP a || eqB a x) && matchL f n))
          rw [hr, hp, hw, toList_toL]
          have e : decide (wordL (toL a) = toL (wordB x)) = eqB a x := by
            unfold eqB
            refine decide_eq_decide.2 ⟨fun h => ?_, fun h => ?_⟩
            · rw [toList_toL, toList_toL]
              exact word_inj h
            · rw [toList_toL, toList_toL] at h
              show _ = wordL (toL x)
              rw [h]
          rw [e]
          rfl
end Go.Proofs.YtegcobkhejpmkaaDoor.Pure
