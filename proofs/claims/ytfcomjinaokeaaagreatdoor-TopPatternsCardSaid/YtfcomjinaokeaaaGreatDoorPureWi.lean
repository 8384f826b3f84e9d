
/- The specification's match of a binding key and a routing key, by its table; on patterns and keys of filters and names it is the topics' match. -/
import Derived.Test.YtfcomjinaokeaaaGreatDoorPx7
import Derived.Test.YtfcomjinaokeaaaGreatDoorPureWh
-- needs: brokerref24_words brokerref24_Text brokerref24_Matches brokerref02_Matches
namespace Go.Proofs.YtfcomjinaokeaaaGreatDoor.Pure
open Go.RowKit Go.Proofs.YtfcomjinaokeaaaGreatDoor.P Go.Proofs.YtfcomjinaokeaaaGreatDoorW.PrintWords Go.Proofs.YtfcomjinaokeaaaGreatDoorW.PrintLast Go.Proofs.YtfcomjinaokeaaaGreatDoor.Ext

/-- A sign for any number of words. -/
def hashA (f : List BA → Bool) : List BA → Bool
  | [] => f []
  | x :: n => f (x :: n) || hashA f n
def amq : List BA → List BA → Bool
  | [], n => n.isEmpty
  | a :: p, n => if a.toList = [35] then hashA (amq p) n else match n with
    | [] => false
    | x :: n' => if a.toList = [42] then amq p n' else decide (a.toList = x.toList) && amq p n'
theorem amq_hash {a : BA} (h : a.toList = [35]) (p n : List BA) : amq (a :: p) n = hashA (amq p) n := by
  unfold amq
  rw [if_pos h]
theorem amq_end {a : BA} (h : ¬ a.toList = [35]) (p : List BA) : amq (a :: p) [] = false := by
  unfold amq
  rw [if_neg h]
theorem amq_star {a : BA} (h : a.toList = [42]) (p : List BA) (x : BA) (n : List BA) : amq (a :: p) (x :: n) = amq p n := by
  have h5 : ¬ a.toList = [35] := by rw [h]; decide
  conv => lhs; unfold amq
  rw [if_neg h5]
  show (if a.toList = [42] then _ else _) = _
  rw [if_pos h]
theorem amq_word {a : BA} (h : ¬ a.toList = [35]) (h2 : ¬ a.toList = [42]) (p : List BA) (x : BA) (n : List BA) : amq (a :: p) (x :: n) = (decide (a.toList = x.toList) && amq p n) := by
  conv => lhs; unfold amq
  rw [if_neg h]
  show (if a.toList = [42] then _ else _) = _
  rw [if_neg h2]
/-- A row of the table. -/
def rowOk (g : List BA → Bool) (n : List BA) (x : List Bool) (d : Nat) : Prop := x.length = n.length + 1 ∧ ∀ j, d ≤ j → j ≤ n.length → x.getD j false = g (n.drop j)
theorem row_set {g : List BA → Bool} {n : List BA} {x : List Bool} {d : Nat} (h : rowOk g n x (d + 1)) (hd : d ≤ n.length) {b : Bool} (hb : b = g (n.drop d)) : rowOk g n (x.set d b) d := by
  refine ⟨by rw [List.length_set]; exact h.1, fun j h0 h1 => ?_⟩
  have hl := h.1
  rw [List.getD_eq_getElem?_getD, List.getElem?_set]
  by_cases e : d = j
  · subst e
    rw [if_pos rfl, if_pos (by omega)]
    exact hb
  · rw [if_neg e, ← List.getD_eq_getElem?_getD]
    exact h.2 j (by omega) h1
theorem rdB (x : List Bool) (i : Nat) : rdOf false x (i : Int) = x.getD i false := rfl
theorem down1 (d : Nat) (h : d ≤ 1000000) : wrap64 (((d + 1 : Nat) : Int) - 1 - 1) = (d : Int) - 1 := by
  rw [w64 (by omega) (by omega)]
  omega
theorem drop_get {n : List BA} {d : Nat} (h : d < n.length) : n.drop d = n.getD d ByteArray.empty :: n.drop (d + 1) := by
  rw [List.drop_eq_getElem_cons h, List.getD_eq_getElem?_getD, List.getElem?_eq_getElem h]
  rfl
/-! ### text -/
theorem cont_no {l : List UInt8} (h : (0 : UInt8) ∉ l) : strings_Contains.f (mkB l) (⟨#[0]⟩ : ByteArray) = some false := by
  unfold strings_Contains.f contF
  rw [if_pos (show (⟨#[0]⟩ : ByteArray).size = 1 from rfl)]
  show some (decide (0 ≤ Lib.indexByte l 0)) = _
  rw [indexByte_miss 0 l h]
  rfl
/-! ### the same match -/
theorem hash_any : ∀ n : List BA, hashA (amq []) n = true
  | [] => rfl
  | x :: n => by
    show (_ || hashA (amq []) n) = true
    rw [hash_any n, Bool.or_true]
theorem pat_hash {a : BA} (h : isR a = true) : (patB1 a).toList = [35] := by
  have h' := isR_is h
  rw [toList_toL] at h' ⊢
  unfold patB1 patL
  rw [if_neg (by rw [h']; decide), if_pos h']
  rfl
theorem pat_star {a : BA} (h : isP a = true) : (patB1 a).toList = [42] := by
  have h' := isP_is h
  rw [toList_toL] at h' ⊢
  unfold patB1 patL
  rw [if_pos h']
  rfl
theorem pat_word {a : BA} (h : isR a = false) (k : isP a = false) : (patB1 a).toList = wordL (toL a) := by
  have h' := isR_not h
  have k' := isP_not k
  rw [toList_toL] at h' k' ⊢
  unfold patB1 patL
  rw [if_neg k', if_neg h']
  rfl
theorem amq_match : ∀ (f n : List BA), okL f → amq (f.map patB1) (n.map wordB) = matchL f n
  | [], n, _ => by
    cases n <;> rfl
  | a :: f, n, ho => by
    obtain ⟨o1, o2⟩ := ho
    rw [List.map_cons]
    cases hr : isR a with
    | true =>
      obtain rfl := o1 hr
      rw [amq_hash (pat_hash hr)]
      rw [show ([] : List BA).map patB1 = [] from rfl, hash_any, match_R hr]
    | false =>
      cases hp : isP a with
      | true =>
        have h42 := pat_star hp
        cases n with
        | nil =>
          rw [show ([] : List BA).map wordB = [] from rfl, amq_end (by rw [h42]; decide)]
          show false = isR a
          exact hr.symm
        | cons x n =>
          rw [List.map_cons, amq_star h42, amq_match f n o2]
          show _ = (isR a || ((isP a || eqB a x) && matchL f n))
          rw [hr, hp]
          rfl
      | false =>
        have hw := pat_word hr hp
        have n35 : ¬ (patB1 a).toList = [35] := by
          rw [hw]
          intro e
          exact isR_not hr (by rw [toList_toL]; exact word_35 e)
        have n42 : ¬ (patB1 a).toList = [42] := by
          rw [hw]
          exact word_42 _
        cases n with
        | nil =>
          rw [show ([] : List BA).map wordB = [] from rfl, amq_end n35]
          show false = isR a
          exact hr.symm
        | cons x n =>
          rw [List.map_cons, amq_word n35 n42, amq_match f n o2]
          show _ = (isR a || ((isP a || eqB a x) && matchL f n))
          rw [hr, hp, hw, toList_toL]
          have e : decide (wordL (toL a) = toL (wordB x)) = eqB a x := by
            unfold eqB
            refine decide_eq_decide.2 ⟨fun h => ?_, fun h => ?_⟩
            · rw [toList_toL, toList_toL]
              exact word_inj h
            · rw [toList_toL, toList_toL] at h
              show _ = wordL (toL x)
              rw [h]
          rw [e]
          rfl
end Go.Proofs.YtfcomjinaokeaaaGreatDoor.Pure
