/- mapping's check of a rule is the specification's. -/
import Derived.Test.YtegcobkhejpmkaaDoorPx15
import Derived.Test.YtegcobkhejpmkaaDoorPx2
import Derived.Test.YtegcobkhejpmkaaDoorPx3
import Derived.Test.YtegcobkhejpmkaaDoorPureWr
-- needs: mapping_check mapping_Check brokerref45_rule
namespace Go.Proofs.YtegcobkhejpmkaaDoor.Pure
open Go.RowKit Go.Proofs.YtegcobkhejpmkaaDoor.P Go.Proofs.YtegcobkhejpmkaaDoorW.PrintWords Go.Proofs.YtegcobkhejpmkaaDoorW.PrintLast Go.Proofs.YtegcobkhejpmkaaDoor.Ext

theorem drop_get2 {n : List BA} {d : Nat} (h : d < n.length) : n.drop d = n.getD d ByteArray.empty :: n.drop (d + 1) := by
  rw [List.drop_eq_getElem_cons h, List.getD_eq_getElem?_getD, List.getElem?_eq_getElem h]
  rfl
theorem drop_back (l : List BA) (d : Nat) (h : d + 1 ≤ l.length) : l.drop (l.length - (d + 1)) = l.getD (l.length - (d + 1)) ByteArray.empty :: l.drop (l.length - d) := by
  rw [drop_get2 (by omega), show l.length - (d + 1) + 1 = l.length - d by omega]
theorem set_get (x : List Bool) (i k : Nat) (hi : i < x.length) : (x.set i true).getD k false = (x.getD k false || decide (k = i)) := by
  rw [List.getD_eq_getElem?_getD, List.getElem?_set, List.getD_eq_getElem?_getD]
  by_cases e : i = k
  · rw [if_pos e, if_pos hi, decide_eq_true e.symm, Bool.or_true]
    rfl
  · rw [if_neg e, decide_eq_false (fun h => e h.symm), Bool.or_false]
theorem want_get (l : List BA) : ∀ (d n : Nat) (x : List Bool), d ≤ l.length → n + d ≤ 9 → x.length = 10 → (wantD l d n x).length = 10 ∧ ∀ k, (wantD l d n x).getD k false = (x.getD k false || decide (n < k ∧ k ≤ n + (l.drop (l.length - d)).countP wildM)) := by
  intro d
  induction d with
  | zero =>
    intro n x _ _ hx
    refine ⟨hx, fun k => ?_⟩
    rw [Nat.sub_zero, List.drop_length, List.countP_nil, decide_eq_false (by omega), Bool.or_false]
    rfl
  | succ d ih =>
    intro n x hd hn hx
    have e := drop_back l d hd
    unfold wantD
    rw [rd_get, e]
    cases hw : wildM (l.getD (l.length - (d + 1)) ByteArray.empty) with
    | true =>
      rw [if_pos rfl, List.countP_cons_of_pos hw]
      obtain ⟨h1, h2⟩ := ih (n + 1) (x.set (n + 1) true) (by omega) (by omega) (by rw [List.length_set]; exact hx)
      refine ⟨h1, fun k => ?_⟩
      rw [h2 k, set_get x (n + 1) k (by omega), Bool.or_assoc]
      congr 1
      rw [← Bool.decide_or]
      exact decide_eq_decide.2 (by omega)
    | false =>
      rw [if_neg (by decide), List.countP_cons_of_neg (by rw [hw]; decide)]
      exact ih n x (by omega) (by omega) hx
theorem used_get (m : List BA) : ∀ (d : Nat) (x : List Bool), d ≤ m.length → x.length = 10 → (usedD m d x).length = 10 ∧ ∀ k : Nat, (usedD m d x).getD k false = (x.getD k false || (decide (0 < k) && refsB (m.drop (m.length - d)) (k : Int))) := by
  intro d
  induction d with
  | zero =>
    intro x _ hx
    refine ⟨hx, fun k => ?_⟩
    rw [Nat.sub_zero, List.drop_length]
    show x.getD k false = (x.getD k false || (decide (0 < k) && false))
    rw [Bool.and_false, Bool.or_false]
  | succ d ih =>
    intro x hd hx
    have e := drop_back m d hd
    unfold usedD
    rw [rd_get, e]
    generalize m.getD (m.length - (d + 1)) ByteArray.empty = a
    obtain ⟨r1, r2⟩ := refM_in a
    have er : ∀ k : Nat, refsB (a :: m.drop (m.length - d)) (k : Int) = (decide (refM a = (k : Int)) || refsB (m.drop (m.length - d)) (k : Int)) := fun k => rfl
    by_cases c : refM a > 0
    · rw [if_pos c]
      obtain ⟨h1, h2⟩ := ih (x.set (refM a).toNat true) (by omega) (by rw [List.length_set]; exact hx)
      refine ⟨h1, fun k => ?_⟩
      rw [h2 k, set_get x (refM a).toNat k (by omega), Bool.or_assoc, er]
      congr 1
      by_cases ek : k = (refM a).toNat
      · rw [decide_eq_true ek, decide_eq_true (show refM a = (k : Int) by omega), decide_eq_true (show 0 < k by omega)]
        rfl
      · rw [decide_eq_false ek, decide_eq_false (show ¬ refM a = (k : Int) by omega), Bool.false_or, Bool.false_or]
    · rw [if_neg c]
      obtain ⟨h1, h2⟩ := ih x (by omega) hx
      refine ⟨h1, fun k => ?_⟩
      rw [h2 k, er]
      congr 1
      by_cases ek : 0 < k
      · rw [decide_eq_false (show ¬ refM a = (k : Int) by omega), Bool.false_or]
      · rw [decide_eq_false ek, Bool.false_and, Bool.false_and]
theorem rule_zero (m : List BA) (w : Int) : ∀ d, d ≤ 9 → (ruleN m w d = 0 ∨ ruleN m w d = 1) ∧ (ruleN m w d = 0 ↔ ∀ j : Nat, 10 - d ≤ j → j ≤ 9 → refsB m (j : Int) = decide ((j : Int) ≤ w)) := by
  intro d
  induction d with
  | zero =>
    intro _
    exact ⟨.inl rfl, fun _ j h1 h2 => by omega, fun _ => rfl⟩
  | succ d ih =>
    intro hd
    obtain ⟨h1, h2⟩ := ih (by omega)
    unfold ruleN
    by_cases c : (refsB m ((9 - d : Nat) : Int) != decide (((9 - d : Nat) : Int) ≤ w)) = true
    · rw [if_pos c]
      refine ⟨.inr rfl, ⟨fun h => absurd h (by decide), fun h => ?_⟩⟩
      exact absurd (h (9 - d) (by omega) (by omega)) (bne_iff_ne.1 c)
    · rw [if_neg c]
      have c' : refsB m ((9 - d : Nat) : Int) = decide (((9 - d : Nat) : Int) ≤ w) := by
        cases hx : refsB m ((9 - d : Nat) : Int) <;> cases hy : decide (((9 - d : Nat) : Int) ≤ w) <;> first | rfl | (rw [hx, hy] at c; exact absurd rfl c)
      refine ⟨h1, h2.trans ⟨fun h j j1 j2 => ?_, fun h j j1 j2 => h j (by omega) j2⟩⟩
      by_cases e : j = 9 - d
      · rw [e]
        exact c'
      · exact h j (by omega) j2
theorem zero_get (k : Nat) : zeroB.getD k false = false := by
  unfold zeroB
  rw [List.getD_eq_getElem?_getD, List.getElem?_replicate]
  split <;> rfl
theorem marks_eq (l m : List BA) (hl : l.length ≤ 8) : (wantD l l.length 0 zeroB = usedD m m.length zeroB) ↔ ruleN m ((l.countP wildM : Nat) : Int) 9 = 0 := by
  obtain ⟨w1, w2⟩ := want_get l l.length 0 zeroB (Nat.le_refl _) (by omega) rfl
  obtain ⟨u1, u2⟩ := used_get m m.length zeroB (Nat.le_refl _) rfl
  rw [(rule_zero m _ 9 (Nat.le_refl _)).2]
  constructor
  · intro h j j1 j2
    have a := w2 j
    rw [h, u2 j, zero_get, Bool.false_or, Bool.false_or, Nat.sub_self, Nat.sub_self, List.drop_zero, List.drop_zero, decide_eq_true (show 0 < j by omega), Bool.true_and] at a
    rw [a]
    exact decide_eq_decide.2 (by omega)
  · intro h
    refine List.ext_getElem (by rw [w1, u1]) (fun k k1 k2 => ?_)
    have a := w2 k
    have b := u2 k
    rw [List.getD_eq_getElem?_getD, List.getElem?_eq_getElem k1] at a
    rw [List.getD_eq_getElem?_getD, List.getElem?_eq_getElem k2] at b
    replace a : (wantD l l.length 0 zeroB)[k] = _ := a
    replace b : (usedD m m.length zeroB)[k] = _ := b
    rw [a, b, zero_get, Bool.false_or, Bool.false_or, Nat.sub_self, Nat.sub_self, List.drop_zero, List.drop_zero]
    by_cases e : 0 < k
    · rw [decide_eq_true e, Bool.true_and, h k (by omega) (by omega)]
      exact decide_eq_decide.2 (by omega)
    · rw [decide_eq_false e, Bool.false_and]
      exact decide_eq_false (by omega)
theorem lev8 {s : BA} (h : sizedB s = true) : (levels s).length ≤ 8 := by
  have h4 := (of_decide_eq_true h).2.2.2
  rw [cnt_all] at h4
  rw [levels_length]
  omega
theorem sized_f {s : BA} (h : filterB s = true) : sizedB s = true := by
  unfold filterB at h
  rw [Bool.and_eq_true] at h
  exact h.1
theorem sized_v {s : BA} (h : validB s = true) : sizedB s = true := by
  unfold validB at h
  rw [Bool.and_eq_true] at h
  exact h.1
theorem check_val (a b : BA) (ha : a.size ≤ 9223372036854775807) (hb : b.size ≤ 9223372036854775807) : mapping_check.f a b = some (ruleV a b) := by
  unfold mapping_check.f checkF ruleV
  rw [topic_filter a ha, Option.bind_some]
  by_cases hf : filterB a = true
  · rw [if_pos hf, if_pos hf, topic_valid b hb, Option.bind_some]
    by_cases hv : validB b = true
    · have z1 := filter_size hf
      have z2 := valid_size hv
      have l1 := lev8 (sized_f hf)
      have l2 := lev8 (sized_v hv)
      rw [if_pos hv, if_pos hv, topic_levels a (by omega), Option.bind_some, topic_levels b (by omega), Option.bind_some, if_pos l1, if_pos (by omega)]
      congr 1
      have hm := marks_eq (levels a) (levels b) l1
      obtain ⟨hz, _⟩ := rule_zero (levels b) (((levels a).countP wildM : Nat) : Int) 9 (Nat.le_refl _)
      by_cases c : wantD (levels a) (levels a).length 0 zeroB = usedD (levels b) (levels b).length zeroB
      · rw [if_pos c, hm.1 c]
      · rw [if_neg c]
        rcases hz with hz | hz
        · exact absurd (hm.2 hz) c
        · exact hz.symm
    · rw [if_neg hv, if_neg hv]
  · rw [if_neg hf, if_neg hf]
theorem pcheck_l0 (l : List S28) (hl : l.length ≤ 1000) (hb : ∀ x ∈ l, x.f0.size ≤ 9223372036854775807 ∧ x.f1.size ≤ 9223372036854775807) : ∀ (r : List S28) (i : Nat), l.drop i = r → i ≤ l.length → Ev (fun k => mapping_Check.l0 k l (l.length : Int) (i : Int)) (firstV r) := by
  intro r
  induction r with
  | nil =>
    intro i h hi
    have hz := drop_nil h
    refine ev_succ ?_
    simp only [mapping_Check.l0]
    exact ev_neg (by omega) (ev_some rfl)
  | cons a r ih =>
    intro i h hi
    obtain ⟨h1, h2, h3⟩ := drop_cons z28 h
    have hm : a ∈ l := List.mem_of_mem_drop (by rw [h]; exact List.mem_cons_self ..)
    obtain ⟨b0, b1⟩ := hb a hm
    have er : rd_T28 l (i : Int) = a := h2
    refine ev_succ ?_
    simp only [mapping_Check.l0]
    refine ev_pos (by omega) (ev_pos (by omega) (ev_pos (by omega) ?_))
    rw [er, up1 i (by omega)]
    refine ev_const (check_val a.f0 a.f1 (by omega) (by omega)) ?_
    unfold firstV
    by_cases c : ruleV a.f0 a.f1 = 0
    · rw [if_pos c]
      exact ev_pos c (ih (i + 1) h3 (by omega))
    · rw [if_neg c]
      exact ev_neg c (ev_some rfl)
theorem pcheck_ev (l : List S28) (hb : ∀ x ∈ l, x.f0.size ≤ 9223372036854775807 ∧ x.f1.size ≤ 9223372036854775807) : Ev (fun k => mapping_Check.f k l) (refCheckV l) := by
  simp only [mapping_Check.f]
  unfold refCheckV
  by_cases h : l.length > 32
  · rw [if_pos h]
    exact ev_pos (by omega) (ev_some rfl)
  · rw [if_neg h]
    exact ev_neg (by omega) (pcheck_l0 l (by omega) hb l 0 rfl (Nat.zero_le _))
end Go.Proofs.YtegcobkhejpmkaaDoor.Pure
