/- What the specification's rule and Check answer. -/
import Derived.Test.YtegcobkhejpmkaaDoorPx1
import Derived.Test.YtegcobkhejpmkaaDoorPx14
import Derived.Test.YtegcobkhejpmkaaDoorPx15
import Derived.Test.YtegcobkhejpmkaaDoorPx16
import Derived.Test.YtegcobkhejpmkaaDoorPureR
import Derived.Test.YtegcobkhejpmkaaDoorHandC
-- needs: brokerref45_rule brokerref45_Check brokerref45_wilds brokerref45_refers mapping_wild mapping_reference
namespace Go.Proofs.YtegcobkhejpmkaaDoor.Pure
open Go.RowKit Go.Proofs.YtegcobkhejpmkaaDoor.P Go.Proofs.YtegcobkhejpmkaaDoorW.PrintWords Go.Proofs.YtegcobkhejpmkaaDoorW.PrintLast Go.Proofs.YtegcobkhejpmkaaDoor.Ext

theorem refref_val (s : BA) : brokerref45_reference.f s = some (refM s) := refM_val s
theorem refwild45_val (s : BA) : brokerref45_wild.f s = some (wildM s) := wildM_val s
theorem wilds_l0 (l : List BA) (hl : l.length ≤ 1000) : ∀ (r : List BA) (i c : Nat), l.drop i = r → c ≤ i → i ≤ l.length → Ev (fun k => brokerref45_wilds.l0 k l (c : Int) (i : Int)) ((c + r.countP wildM : Nat) : Int) := by
  intro r
  induction r with
  | nil =>
    intro i c h hc hi
    have hz := drop_nil h
    refine ev_succ ?_
    simp only [brokerref45_wilds.l0]
    exact ev_neg (by omega) (ev_some rfl)
  | cons a r ih =>
    intro i c h hc hi
    obtain ⟨h1, h2, h3⟩ := drop_cons ByteArray.empty h
    refine ev_succ ?_
    simp only [brokerref45_wilds.l0]
    refine ev_pos (by omega) (ev_pos (by omega) ?_)
    rw [rd_get, h2, up1 i (by omega), up1 c (by omega)]
    refine ev_const (refwild45_val a) ?_
    cases hw : wildM a with
    | true =>
      have := ih (i + 1) (c + 1) h3 (by omega) (by omega)
      rw [List.countP_cons_of_pos hw, show c + (r.countP wildM + 1) = c + 1 + r.countP wildM by omega]
      exact ev_tt this
    | false =>
      have := ih (i + 1) c h3 (by omega) (by omega)
      rw [List.countP_cons_of_neg (by rw [hw]; decide)]
      exact ev_ff this
theorem wilds_ev (l : List BA) (hl : l.length ≤ 1000) : Ev (fun k => brokerref45_wilds.f k l) ((l.countP wildM : Nat) : Int) := by
  have := wilds_l0 l hl l 0 0 rfl (Nat.le_refl _) (Nat.zero_le _)
  rw [Nat.zero_add] at this
  simp only [brokerref45_wilds.f]
  exact this
def refsB (m : List BA) (n : Int) : Bool := m.any fun x => decide (refM x = n)
theorem refers_l0 (m : List BA) (hm : m.length ≤ 1000) (n : Int) : ∀ (r : List BA) (i : Nat), m.drop i = r → i ≤ m.length → Ev (fun k => brokerref45_refers.l0 k m n (i : Int)) (refsB r n) := by
  intro r
  induction r with
  | nil =>
    intro i h hi
    have hz := drop_nil h
    refine ev_succ ?_
    simp only [brokerref45_refers.l0]
    exact ev_neg (by omega) (ev_some rfl)
  | cons a r ih =>
    intro i h hi
    obtain ⟨h1, h2, h3⟩ := drop_cons ByteArray.empty h
    refine ev_succ ?_
    simp only [brokerref45_refers.l0]
    refine ev_pos (by omega) (ev_pos (by omega) ?_)
    rw [rd_get, h2, up1 i (by omega)]
    refine ev_const (refref_val a) ?_
    have e : refsB (a :: r) n = (decide (refM a = n) || refsB r n) := rfl
    rw [e]
    by_cases c : refM a = n
    · rw [decide_eq_true c]
      exact ev_pos c (ev_some rfl)
    · rw [decide_eq_false c]
      exact ev_neg c (ih (i + 1) h3 (by omega))
theorem refers_ev (m : List BA) (hm : m.length ≤ 1000) (n : Int) : Ev (fun k => brokerref45_refers.f k m n) (refsB m n) := by
  simp only [brokerref45_refers.f]
  exact refers_l0 m hm n m 0 rfl (Nat.zero_le _)
def ruleN (m : List BA) (w : Int) : Nat → Int
  | 0 => 0
  | d + 1 => if (refsB m ((9 - d : Nat) : Int) != decide (((9 - d : Nat) : Int) ≤ w)) = true then 1 else ruleN m w d
theorem rule_l0 (m : List BA) (hm : m.length ≤ 1000) (w : Int) : ∀ d, d ≤ 9 → Ev (fun k => brokerref45_rule.l0 k w m ((10 - d : Nat) : Int)) (ruleN m w d) := by
  intro d
  induction d with
  | zero =>
    intro _
    refine ev_succ ?_
    simp only [brokerref45_rule.l0]
    exact ev_neg (by omega) (ev_some rfl)
  | succ d ih =>
    intro hd
    refine ev_succ ?_
    simp only [brokerref45_rule.l0]
    rw [show ((10 - (d + 1) : Nat) : Int) = ((9 - d : Nat) : Int) by omega, up1 (9 - d) (by omega), show 9 - d + 1 = 10 - d by omega]
    refine ev_pos (by omega) (ev_bind (refers_ev m hm _) ?_)
    unfold ruleN
    by_cases c : (refsB m ((9 - d : Nat) : Int) != decide (((9 - d : Nat) : Int) ≤ w)) = true
    · rw [if_pos c]
      exact ev_pos c (ev_some rfl)
    · rw [if_neg c]
      exact ev_neg c (ih (by omega))
def ruleV (a b : BA) : Int := if filterB a = true then (if validB b = true then ruleN (levels b) (((levels a).countP wildM : Nat) : Int) 9 else 12) else 13
theorem refvalid_all (s : BA) : Ev (fun k => brokerref01_Valid.f k s) (validB s) := by
  by_cases h : s.size ≤ 9223372036854775806
  · exact refvalid_ev s h
  · have hz : sizedB s = false := by
      cases hs : sizedB s with
      | false => rfl
      | true =>
        have := (sized_size hs).2
        omega
    have e : validB s = false := by
      unfold validB
      rw [hz]
      rfl
    have hr := refsized_all s
    rw [hz] at hr
    rw [e]
    simp only [brokerref01_Valid.f]
    exact ev_bind hr (ev_ff (ev_some rfl))
theorem rule_ev (a b : BA) (_ : b.size ≤ 9223372036854775807) : Ev (fun k => brokerref45_rule.f k a b) (ruleV a b) := by
  simp only [brokerref45_rule.f]
  unfold ruleV
  refine ev_bind (reffilter_all a) ?_
  by_cases hf : filterB a = true
  · rw [if_pos hf]
    refine ev_pos hf (ev_bind (refvalid_all b) ?_)
    by_cases hv : validB b = true
    · rw [if_pos hv]
      have z1 := filter_size hf
      have z2 := valid_size hv
      have l1 := lev_len z1
      have l2 := lev_len z2
      exact ev_pos hv (ev_bind (lev_ev a (by omega)) (ev_bind (wilds_ev _ (by omega)) (ev_bind (lev_ev b (by omega)) (rule_l0 _ (by omega) _ 9 (Nat.le_refl _)))))
    · rw [if_neg hv]
      exact ev_neg hv (ev_some rfl)
  · rw [if_neg hf]
    exact ev_neg hf (ev_some rfl)
def firstV : List S28 → Int
  | [] => 0
  | r :: t => if ruleV r.f0 r.f1 = 0 then firstV t else ruleV r.f0 r.f1
theorem refcheck_l0 (l : List S28) (hl : l.length ≤ 1000) (hb : ∀ x ∈ l, x.f1.size ≤ 9223372036854775807) : ∀ (r : List S28) (i : Nat), l.drop i = r → i ≤ l.length → Ev (fun k => brokerref45_Check.l0 k l (i : Int)) (firstV r) := by
  intro r
  induction r with
  | nil =>
    intro i h hi
    have hz := drop_nil h
    refine ev_succ ?_
    simp only [brokerref45_Check.l0]
    exact ev_neg (by omega) (ev_some rfl)
  | cons a r ih =>
    intro i h hi
    obtain ⟨h1, h2, h3⟩ := drop_cons a h
    have hm : a ∈ l := List.mem_of_mem_drop (by rw [h]; exact List.mem_cons_self ..)
    have er : rd_T28 l (i : Int) = a := by
      have : l[i]? = some a := by
        have e := congrArg (fun x => x[0]?) h
        simpa using e
      unfold rd_T28
      first
        | (rw [Int.toNat_natCast, this]; rfl)
        | (simp [this])
    refine ev_succ ?_
    simp only [brokerref45_Check.l0]
    refine ev_pos (by omega) (ev_pos (by omega) ?_)
    rw [er, up1 i (by omega)]
    refine ev_bind (rule_ev a.f0 a.f1 (hb a hm)) ?_
    unfold firstV
    by_cases c : ruleV a.f0 a.f1 = 0
    · rw [if_pos c]
      exact ev_pos c (ih (i + 1) h3 (by omega))
    · rw [if_neg c]
      exact ev_neg c (ev_some rfl)
def refCheckV (l : List S28) : Int := if l.length > 32 then 5 else firstV l
theorem refcheck_ev (l : List S28) (hb : ∀ x ∈ l, x.f1.size ≤ 9223372036854775807) : Ev (fun k => brokerref45_Check.f k l) (refCheckV l) := by
  simp only [brokerref45_Check.f]
  unfold refCheckV
  by_cases h : l.length > 32
  · rw [if_pos h]
    exact ev_pos (by omega) (ev_some rfl)
  · rw [if_neg h]
    exact ev_neg (by omega) (refcheck_l0 l (by omega) hb l 0 rfl (Nat.zero_le _))
end Go.Proofs.YtegcobkhejpmkaaDoor.Pure
