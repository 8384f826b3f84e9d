/- The program's match of a routing pattern and a routing key, by its table; on patterns and keys of filters and names it is the topics' match. -/
import Derived.Test.YtfcomjinaokeaaaGreatDoorPx1
import Derived.Test.YtfcomjinaokeaaaGreatDoorPx7
import Derived.Test.YtfcomjinaokeaaaGreatDoorPureWi
-- needs: exchange_Matches exchange_plain strings_Split strings_Contains
namespace Go.Proofs.YtfcomjinaokeaaaGreatDoor.Pure
open Go.RowKit Go.Proofs.YtfcomjinaokeaaaGreatDoor.P Go.Proofs.YtfcomjinaokeaaaGreatDoorW.PrintWords Go.Proofs.YtfcomjinaokeaaaGreatDoorW.PrintLast Go.Proofs.YtfcomjinaokeaaaGreatDoor.Ext

/-- The next row of the table, place by place. -/
def nextF (p : BA) (n : List BA) (x : List Bool) : Nat → Bool
  | 0 => if p.toList = [35] then x.getD 0 false else false
  | k + 1 => if p.toList = [35] then x.getD (k + 1) false || nextF p n x k else x.getD k false && (decide (p.toList = [42]) || decide (p.toList = (n.getD k ByteArray.empty).toList))
theorem next_hash0 {p : BA} (h : p.toList = [35]) (n : List BA) (x : List Bool) : nextF p n x 0 = x.getD 0 false := by
  unfold nextF
  rw [if_pos h]
theorem next_hash {p : BA} (h : p.toList = [35]) (n : List BA) (x : List Bool) (k : Nat) : nextF p n x (k + 1) = (x.getD (k + 1) false || nextF p n x k) := by
  conv => lhs; unfold nextF
  rw [if_pos h]
theorem next_zero {p : BA} (h : ¬ p.toList = [35]) (n : List BA) (x : List Bool) : nextF p n x 0 = false := by
  unfold nextF
  rw [if_neg h]
theorem next_word {p : BA} (h : ¬ p.toList = [35]) (n : List BA) (x : List Bool) (k : Nat) : nextF p n x (k + 1) = (x.getD k false && (decide (p.toList = [42]) || decide (p.toList = (n.getD k ByteArray.empty).toList))) := by
  conv => lhs; unfold nextF
  rw [if_neg h]

theorem em_l1 (P n : List BA) (hn : n.length ≤ 1000) (p : BA) (x : List Bool) (hx : x.length = n.length + 1) (i : Nat) (r : Bool)
    (hgo : ∀ y, y.length = n.length + 1 → (∀ j, j ≤ n.length → y.getD j false = nextF p n x j) → Ev (fun k => exchange_Matches.l0 k n y P (P.length : Int) (wrap64 ((i : Int) + 1))) r) :
    ∀ (d j : Nat) (y : List Bool), j + d = n.length + 1 → y.length = n.length + 1 → (∀ a, a < j → y.getD a false = nextF p n x a) → (∀ a, j ≤ a → y.getD a false = false) →
      Ev (fun k => exchange_Matches.l1 k n x p y P (P.length : Int) (i : Int) ((n.length + 1 : Nat) : Int) (j : Int)) r := by
  intro d
  induction d with
  | zero =>
    intro j y hj hy h1 _
    refine ev_succ ?_
    simp only [exchange_Matches.l1]
    exact ev_neg (by omega) (hgo y hy (fun a ha => h1 a (by omega)))
  | succ d ih =>
    intro j y hj hy h1 h2
    have put : ∀ b : Bool, b = nextF p n x j → Ev (fun k => exchange_Matches.l1 k n x p (y.set j b) P (P.length : Int) (i : Int) ((n.length + 1 : Nat) : Int) ((j + 1 : Nat) : Int)) r := by
      intro b hb
      refine ih (j + 1) _ (by omega) (by rw [List.length_set]; exact hy) (fun a ha => ?_) (fun a ha => ?_)
      · rw [List.getD_eq_getElem?_getD, List.getElem?_set]
        by_cases e : j = a
        · subst e
          rw [if_pos rfl, if_pos (by omega)]
          exact hb
        · rw [if_neg e, ← List.getD_eq_getElem?_getD]
          exact h1 a (by omega)
      · rw [List.getD_eq_getElem?_getD, List.getElem?_set, if_neg (by omega), ← List.getD_eq_getElem?_getD]
        exact h2 a (by omega)
    have eu : wrap64 ((j : Int) + 1) = ((j + 1 : Nat) : Int) := up1 j (by omega)
    have ej : ((j : Int)).toNat = j := Int.toNat_natCast j
    refine ev_succ ?_
    simp only [exchange_Matches.l1]
    rw [eu, ej]
    clear eu
    refine ev_pos (by omega) ?_
    by_cases c : p.toList = [35]
    · refine ev_pos c (ev_pos (by omega) (ev_pos (by omega) ?_))
      rw [show rdOf false x (j : Int) = x.getD j false from rfl]
      by_cases c2 : x.getD j false = true
      · refine ev_pos c2 (ev_pos (by omega) (put true ?_))
        cases j with
        | zero => rw [next_hash0 c, c2]
        | succ j => rw [next_hash c, c2, Bool.true_or]
      · have c2' := Bool.eq_false_iff.2 c2
        refine ev_neg c2 ?_
        cases j with
        | zero =>
          refine ev_neg (by omega) (ev_pos (by omega) (put false ?_))
          rw [next_hash0 c, c2']
        | succ j =>
          have ew : wrap64 (((j + 1 : Nat) : Int) - 1) = (j : Int) := by
            rw [w64 (by omega) (by omega)]
            omega
          rw [ew]
          clear ew
          refine ev_pos (by omega) (ev_pos (by omega) (ev_pos (by omega) (ev_pos (by omega) (put _ ?_))))
          rw [next_hash c, c2', Bool.false_or]
          exact h1 j (by omega)
    · refine ev_neg c ?_
      cases j with
      | zero =>
        refine ev_neg (by omega) (ih 1 y (by omega) hy (fun a ha => ?_) (fun a ha => h2 a (by omega)))
        obtain rfl : a = 0 := by omega
        rw [next_zero c]
        exact h2 0 (Nat.le_refl _)
      | succ j =>
        have ew : wrap64 (((j + 1 : Nat) : Int) - 1) = (j : Int) := by
          rw [w64 (by omega) (by omega)]
          omega
        rw [ew]
        clear ew
        refine ev_pos (by omega) (ev_pos (by omega) (ev_pos (by omega) ?_))
        rw [show rdOf false x (j : Int) = x.getD j false from rfl, show rdOf ByteArray.empty n (j : Int) = n.getD j ByteArray.empty from rfl]
        by_cases c2 : x.getD j false = true
        · refine ev_pos c2 ?_
          by_cases c3 : p.toList = [42]
          · refine ev_pos c3 (ev_pos (by omega) (ev_pos (by omega) (put true ?_)))
            rw [next_word c, c2, decide_eq_true c3]
            rfl
          · refine ev_neg c3 (ev_pos (by omega) (ev_pos (by omega) (ev_pos (by omega) (put _ ?_))))
            rw [next_word c, c2, decide_eq_false c3, Bool.true_and, Bool.false_or]
            rw [Bool.eq_iff_iff, beq_iff_eq, decide_eq_true_iff]
        · have c2' := Bool.eq_false_iff.2 c2
          refine ev_neg c2 (ev_pos (by omega) (ev_pos (by omega) (put false ?_)))
          rw [next_word c, c2', Bool.false_and]
/-- What the table says so far: the pattern matches from some place on that it has reached. -/
def inv (P n : List BA) (x : List Bool) (rest : List BA) : Prop := amq P n = true ↔ ∃ k, k ≤ n.length ∧ x.getD k false = true ∧ amq rest (n.drop k) = true
theorem hashA_iff (f : List BA → Bool) : ∀ n : List BA, hashA f n = true ↔ ∃ j, j ≤ n.length ∧ f (n.drop j) = true
  | [] => by
    constructor
    · intro h
      exact ⟨0, Nat.le_refl _, h⟩
    · rintro ⟨j, hj, h⟩
      rw [List.drop_nil] at h
      exact h
  | a :: n => by
    show (f (a :: n) || hashA f n) = true ↔ _
    rw [Bool.or_eq_true, hashA_iff f n]
    constructor
    · rintro (h | ⟨j, hj, h⟩)
      · exact ⟨0, Nat.zero_le _, h⟩
      · exact ⟨j + 1, by rw [List.length_cons]; omega, h⟩
    · rintro ⟨j, hj, h⟩
      cases j with
      | zero => exact .inl h
      | succ j => exact .inr ⟨j, by rw [List.length_cons] at hj; omega, h⟩
theorem next_any {p : BA} (h : p.toList = [35]) (n : List BA) (x : List Bool) : ∀ j, nextF p n x j = true ↔ ∃ k, k ≤ j ∧ x.getD k false = true
  | 0 => by
    rw [next_hash0 h]
    constructor
    · intro e
      exact ⟨0, Nat.le_refl _, e⟩
    · rintro ⟨k, hk, e⟩
      obtain rfl : k = 0 := by omega
      exact e
  | j + 1 => by
    rw [next_hash h, Bool.or_eq_true, next_any h n x j]
    constructor
    · rintro (e | ⟨k, hk, e⟩)
      · exact ⟨j + 1, Nat.le_refl _, e⟩
      · exact ⟨k, by omega, e⟩
    · rintro ⟨k, hk, e⟩
      by_cases c : k = j + 1
      · subst c
        exact .inl e
      · exact .inr ⟨k, by omega, e⟩
theorem inv_step {P n : List BA} {x y : List Bool} {p : BA} {rest : List BA} (h : inv P n x (p :: rest)) (hy : ∀ j, j ≤ n.length → y.getD j false = nextF p n x j) : inv P n y rest := by
  refine h.trans ?_
  by_cases c : p.toList = [35]
  · constructor
    · rintro ⟨k, hk, h1, h2⟩
      rw [amq_hash c, hashA_iff] at h2
      obtain ⟨j, hj, h3⟩ := h2
      rw [List.length_drop] at hj
      rw [List.drop_drop] at h3
      refine ⟨k + j, by omega, ?_, h3⟩
      rw [hy _ (by omega), next_any c]
      exact ⟨k, by omega, h1⟩
    · rintro ⟨k, hk, h1, h2⟩
      rw [hy _ hk, next_any c] at h1
      obtain ⟨j, hj, h3⟩ := h1
      refine ⟨j, by omega, h3, ?_⟩
      rw [amq_hash c, hashA_iff]
      refine ⟨k - j, by rw [List.length_drop]; omega, ?_⟩
      rw [List.drop_drop, show j + (k - j) = k by omega]
      exact h2
  · constructor
    · rintro ⟨k, hk, h1, h2⟩
      by_cases hlt : k < n.length
      · rw [drop_get hlt] at h2
        refine ⟨k + 1, by omega, ?_, ?_⟩
        · rw [hy _ (by omega), next_word c, h1, Bool.true_and, Bool.or_eq_true, decide_eq_true_iff, decide_eq_true_iff]
          by_cases c2 : p.toList = [42]
          · exact .inl c2
          · rw [amq_word c c2, Bool.and_eq_true, decide_eq_true_iff] at h2
            exact .inr h2.1
        · by_cases c2 : p.toList = [42]
          · rw [amq_star c2] at h2
            exact h2
          · rw [amq_word c c2, Bool.and_eq_true] at h2
            exact h2.2
      · rw [List.drop_eq_nil_of_le (by omega), amq_end c] at h2
        cases h2
    · rintro ⟨k, hk, h1, h2⟩
      rw [hy _ hk] at h1
      cases k with
      | zero =>
        rw [next_zero c] at h1
        cases h1
      | succ k =>
        rw [next_word c, Bool.and_eq_true, Bool.or_eq_true, decide_eq_true_iff, decide_eq_true_iff] at h1
        refine ⟨k, by omega, h1.1, ?_⟩
        rw [drop_get (by omega)]
        by_cases c2 : p.toList = [42]
        · rw [amq_star c2]
          exact h2
        · rw [amq_word c c2, Bool.and_eq_true, decide_eq_true_iff]
          refine ⟨h1.2.resolve_left c2, h2⟩
theorem em_l0 (P n : List BA) (hP : P.length ≤ 1000) (hn : n.length ≤ 1000) : ∀ (d i : Nat) (x : List Bool), i + d = P.length → x.length = n.length + 1 → inv P n x (P.drop i) →
    Ev (fun k => exchange_Matches.l0 k n x P (P.length : Int) (i : Int)) (amq P n) := by
  intro d
  induction d with
  | zero =>
    intro i x hi hx h
    refine ev_succ ?_
    simp only [exchange_Matches.l0]
    refine ev_neg (by omega) (ev_pos (by omega) (ev_pos (by omega) (ev_some ?_)))
    show some (x.getD n.length false) = _
    congr 1
    rw [Bool.eq_iff_iff]
    refine Iff.trans ?_ h.symm
    rw [List.drop_eq_nil_of_le (by omega)]
    constructor
    · intro e
      refine ⟨n.length, Nat.le_refl _, e, ?_⟩
      rw [List.drop_eq_nil_of_le (Nat.le_refl _)]
      rfl
    · rintro ⟨k, hk, h1, h2⟩
      have : (n.drop k).isEmpty = true := h2
      rw [List.isEmpty_iff, List.drop_eq_nil_iff] at this
      rw [show n.length = k by omega]
      exact h1
  | succ d ih =>
    intro i x hi hx h
    have hd := drop_get (n := P) (d := i) (by omega)
    have en : ((x.length : Int)).toNat = n.length + 1 := by rw [hx]; exact Int.toNat_natCast _
    refine ev_succ ?_
    simp only [exchange_Matches.l0]
    rw [en, show ((x.length : Int)) = ((n.length + 1 : Nat) : Int) by rw [hx]]
    refine ev_pos (by omega) (ev_pos (by omega) (ev_pos (by omega) (ev_pos (by omega) (ev_pos (by omega) ?_))))
    refine em_l1 P n hn (P.getD i ByteArray.empty) x hx i (amq P n) (fun y hy hv => ?_) (n.length + 1) 0 _ (by omega) List.length_replicate (fun a ha => by omega) (fun a _ => ?_)
    · rw [w64 (by omega) (by omega)]
      have := ih (i + 1) y (by omega) hy (by
        refine inv_step ?_ hv
        rw [← hd]
        exact h)
      exact this
    · rw [List.getD_eq_getElem?_getD, List.getElem?_replicate]
      split <;> rfl
theorem plain_ok {s : BA} (h0 : (0 : UInt8) ∉ toL s) (hs : s.size ≤ 64) : exchange_plain.f s = some 0 := by
  unfold exchange_plain.f
  rw [if_neg (by omega), show s = mkB (toL s) from (mk_toL s).symm, cont_no h0, Option.bind_some]
  rfl
theorem em_ev {p k : BA} {P n : List BA} (hp0 : (0 : UInt8) ∉ toL p) (hk0 : (0 : UInt8) ∉ toL k) (hp : p.size ≤ 64) (hk : k.size ≤ 64) (sp : strings_Split.f p (⟨#[46]⟩ : ByteArray) = some P) (sk : strings_Split.f k (⟨#[46]⟩ : ByteArray) = some n) (lP : P.length ≤ 1000) (ln : n.length ≤ 1000) :
    Ev (fun m => exchange_Matches.f m p k) (amq P n) := by
  have eu : wrap64 ((n.length : Int) + 1) = ((n.length + 1 : Nat) : Int) := up1 _ (by omega)
  have en : (((n.length + 1 : Nat) : Int)).toNat = n.length + 1 := Int.toNat_natCast _
  simp only [exchange_Matches.f]
  refine ev_const (plain_ok hp0 hp) (ev_pos rfl (ev_const (plain_ok hk0 hk) ?_))
  refine ev_succ ?_
  simp only [exchange_Matches.j0]
  refine ev_neg (by decide) (ev_const sk ?_)
  rw [eu, en]
  clear eu
  refine ev_pos (by omega) (ev_pos (by omega) (ev_const rfl (ev_pos ?_ (ev_const sp ?_))))
  · rw [List.length_replicate]
    omega
  · refine em_l0 P n lP ln P.length 0 _ (by omega) (by rw [List.length_set, List.length_replicate]) ?_
    unfold inv
    rw [List.drop_zero]
    constructor
    · intro e
      refine ⟨0, Nat.zero_le _, ?_, e⟩
      rw [List.getD_eq_getElem?_getD, List.getElem?_set]
      rfl
    · rintro ⟨k, hk, h1, h2⟩
      cases k with
      | zero => exact h2
      | succ k =>
        exfalso
        rw [List.getD_eq_getElem?_getD, List.getElem?_set, if_neg (by omega), List.getElem?_replicate] at h1
        split at h1 <;> cases h1
end Go.Proofs.YtfcomjinaokeaaaGreatDoor.Pure
