/- What the specification's rule and Check answer; what Apply answers. -/
import Derived.Test.YtegcobkhejpmkaaDoorPx1
import Derived.Test.YtegcobkhejpmkaaDoorPx14
import Derived.Test.YtegcobkhejpmkaaDoorPx15
import Derived.Test.YtegcobkhejpmkaaDoorPx16
import Derived.Test.YtegcobkhejpmkaaDoorPx3
import Derived.Test.YtegcobkhejpmkaaDoorPx4
import Derived.Test.YtegcobkhejpmkaaDoorPureWh
import Derived.Test.YtegcobkhejpmkaaDoorHandA
-- needs: brokerref45_rule brokerref45_Check brokerref45_wilds brokerref45_refers mapping_taken mapping_Apply mapping_wild mapping_reference match_Matches
namespace Go.Proofs.YtegcobkhejpmkaaDoor.Pure
open Go.RowKit Go.Proofs.YtegcobkhejpmkaaDoor.P Go.Proofs.YtegcobkhejpmkaaDoorW.PrintWords Go.Proofs.YtegcobkhejpmkaaDoorW.PrintLast Go.Proofs.YtegcobkhejpmkaaDoor.Ext

theorem refref_val (s : BA) : brokerref45_reference.f s = some (refM s) := refM_val s
theorem refwild45_val (s : BA) : brokerref45_wild.f s = some (wildM s) := wildM_val s
theorem wilds_l0 (l : List BA) (hl : l.length ≤ 1000) : ∀ (r : List BA) (i c : Nat), l.drop i = r → c ≤ i → i ≤ l.length → Ev (fun k => brokerref45_wilds.l0 k l (c : Int) (i : Int)) ((c + r.countP wildM : Nat) : Int) := by
  intro r
  induction r with
  | nil =>
    intro i c h hc hi
    have hz := drop_nil h
    refine ev_succ ?_
    simp only [brokerref45_wilds.l0]
    exact ev_neg (by omega) (ev_some rfl)
  | cons a r ih =>
    intro i c h hc hi
    obtain ⟨h1, h2, h3⟩ := drop_cons ByteArray.empty h
    refine ev_succ ?_
    simp only [brokerref45_wilds.l0]
    refine ev_pos (by omega) (ev_pos (by omega) ?_)
    rw [rd_get, h2, up1 i (by omega), up1 c (by omega)]
    refine ev_const (refwild45_val a) ?_
    cases hw : wildM a with
    | true =>
      have := ih (i + 1) (c + 1) h3 (by omega) (by omega)
      rw [List.countP_cons_of_pos hw, show c + (r.countP wildM + 1) = c + 1 + r.countP wildM by omega]
      exact ev_tt this
    | false =>
      have := ih (i + 1) c h3 (by omega) (by omega)
      rw [List.countP_cons_of_neg (by rw [hw]; decide)]
      exact ev_ff this
theorem wilds_ev (l : List BA) (hl : l.length ≤ 1000) : Ev (fun k => brokerref45_wilds.f k l) ((l.countP wildM : Nat) : Int) := by
  have := wilds_l0 l hl l 0 0 rfl (Nat.le_refl _) (Nat.zero_le _)
  rw [Nat.zero_add] at this
  simp only [brokerref45_wilds.f]
  exact this
def refsB (m : List BA) (n : Int) : Bool := m.any fun x => decide (refM x = n)
theorem refers_l0 (m : List BA) (hm : m.length ≤ 1000) (n : Int) : ∀ (r : List BA) (i : Nat), m.drop i = r → i ≤ m.length → Ev (fun k => brokerref45_refers.l0 k m n (i : Int)) (refsB r n) := by
  intro r
  induction r with
  | nil =>
    intro i h hi
    have hz := drop_nil h
    refine ev_succ ?_
    simp only [brokerref45_refers.l0]
    exact ev_neg (by omega) (ev_some rfl)
  | cons a r ih =>
    intro i h hi
    obtain ⟨h1, h2, h3⟩ := drop_cons ByteArray.empty h
    refine ev_succ ?_
    simp only [brokerref45_refers.l0]
    refine ev_pos (by omega) (ev_pos (by omega) ?_)
    rw [rd_get, h2, up1 i (by omega)]
    refine ev_const (refref_val a) ?_
    have e : refsB (a :: r) n = (decide (refM a = n) || refsB r n) := rfl
    rw [e]
    by_cases c : refM a = n
    · rw [decide_eq_true c]
      exact ev_pos c (ev_some rfl)
    · rw [decide_eq_false c]
      exact ev_neg c (ih (i + 1) h3 (by omega))
theorem refers_ev (m : List BA) (hm : m.length ≤ 1000) (n : Int) : Ev (fun k => brokerref45_refers.f k m n) (refsB m n) := by
  simp only [brokerref45_refers.f]
  exact refers_l0 m hm n m 0 rfl (Nat.zero_le _)
def ruleN (m : List BA) (w : Int) : Nat → Int
  | 0 => 0
  | d + 1 => if (refsB m ((9 - d : Nat) : Int) != decide (((9 - d : Nat) : Int) ≤ w)) = true then 1 else ruleN m w d
theorem rule_l0 (m : List BA) (hm : m.length ≤ 1000) (w : Int) : ∀ d, d ≤ 9 → Ev (fun k => brokerref45_rule.l0 k w m ((10 - d : Nat) : Int)) (ruleN m w d) := by
  intro d
  induction d with
  | zero =>
    intro _
    refine ev_succ ?_
    simp only [brokerref45_rule.l0]
    exact ev_neg (by omega) (ev_some rfl)
  | succ d ih =>
    intro hd
    refine ev_succ ?_
    simp only [brokerref45_rule.l0]
    rw [show ((10 - (d + 1) : Nat) : Int) = ((9 - d : Nat) : Int) by omega, up1 (9 - d) (by omega), show 9 - d + 1 = 10 - d by omega]
    refine ev_pos (by omega) (ev_bind (refers_ev m hm _) ?_)
    unfold ruleN
    by_cases c : (refsB m ((9 - d : Nat) : Int) != decide (((9 - d : Nat) : Int) ≤ w)) = true
    · rw [if_pos c]
      exact ev_pos c (ev_some rfl)
    · rw [if_neg c]
      exact ev_neg c (ih (by omega))
def ruleV (a b : BA) : Int := if filterB a = true then (if validB b = true then ruleN (levels b) (((levels a).countP wildM : Nat) : Int) 9 else 12) else 13
theorem rule_ev (a b : BA) (hb : b.size ≤ 9223372036854775806) : Ev (fun k => brokerref45_rule.f k a b) (ruleV a b) := by
  simp only [brokerref45_rule.f]
  unfold ruleV
  refine ev_bind (reffilter_all a) ?_
  by_cases hf : filterB a = true
  · rw [if_pos hf]
    refine ev_pos hf (ev_bind (refvalid_ev b hb) ?_)
    by_cases hv : validB b = true
    · rw [if_pos hv]
      have z1 := filter_size hf
      have z2 := valid_size hv
      have l1 := lev_len z1
      have l2 := lev_len z2
      exact ev_pos hv (ev_bind (lev_ev a (by omega)) (ev_bind (wilds_ev _ (by omega)) (ev_bind (lev_ev b (by omega)) (rule_l0 _ (by omega) _ 9 (Nat.le_refl _)))))
    · rw [if_neg hv]
      exact ev_neg hv (ev_some rfl)
  · rw [if_neg hf]
    exact ev_neg hf (ev_some rfl)
def firstV : List S28 → Int
  | [] => 0
  | r :: t => if ruleV r.f0 r.f1 = 0 then firstV t else ruleV r.f0 r.f1
theorem refcheck_l0 (l : List S28) (hl : l.length ≤ 1000) (hb : ∀ x ∈ l, x.f1.size ≤ 9223372036854775806) : ∀ (r : List S28) (i : Nat), l.drop i = r → i ≤ l.length → Ev (fun k => brokerref45_Check.l0 k l (i : Int)) (firstV r) := by
  intro r
  induction r with
  | nil =>
    intro i h hi
    have hz := drop_nil h
    refine ev_succ ?_
    simp only [brokerref45_Check.l0]
    exact ev_neg (by omega) (ev_some rfl)
  | cons a r ih =>
    intro i h hi
    obtain ⟨h1, h2, h3⟩ := drop_cons a h
    have hm : a ∈ l := List.mem_of_mem_drop (by rw [h]; exact List.mem_cons_self ..)
    have er : rd_T28 l (i : Int) = a := by
      have : l[i]? = some a := by
        have e := congrArg (fun x => x[0]?) h
        simpa using e
      unfold rd_T28
      first
        | (rw [Int.toNat_natCast, this]; rfl)
        | (simp [this])
    refine ev_succ ?_
    simp only [brokerref45_Check.l0]
    refine ev_pos (by omega) (ev_pos (by omega) ?_)
    rw [er, up1 i (by omega)]
    refine ev_bind (rule_ev a.f0 a.f1 (hb a hm)) ?_
    unfold firstV
    by_cases c : ruleV a.f0 a.f1 = 0
    · rw [if_pos c]
      exact ev_pos c (ih (i + 1) h3 (by omega))
    · rw [if_neg c]
      exact ev_neg c (ev_some rfl)
def refCheckV (l : List S28) : Int := if l.length > 32 then 5 else firstV l
theorem refcheck_ev (l : List S28) (hb : ∀ x ∈ l, x.f1.size ≤ 9223372036854775806) : Ev (fun k => brokerref45_Check.f k l) (refCheckV l) := by
  simp only [brokerref45_Check.f]
  unfold refCheckV
  by_cases h : l.length > 32
  · rw [if_pos h]
    exact ev_pos (by omega) (ev_some rfl)
  · rw [if_neg h]
    exact ev_neg (by omega) (refcheck_l0 l (by omega) hb l 0 rfl (Nat.zero_le _))
/-! ### Apply -/
def takenF (ns : List BA) : List BA → Nat → List (List BA)
  | [], _ => []
  | x :: r, i => if isP x = true then (ns.take (i + 1)).drop i :: takenF ns r (i + 1) else if isR x = true then ns.drop (min i ns.length) :: takenF ns r (i + 1) else takenF ns r (i + 1)
theorem mn_nat (i n : Nat) : mn (i : Int) (n : Int) = ((min i n : Nat) : Int) := by
  unfold mn
  first
    | (split <;> omega)
    | omega
theorem taken_l0 (ns ls : List BA) (hn : ns.length ≤ 1000) (hl : ls.length ≤ 1000) : ∀ (r : List BA) (acc : List (List BA)) (i : Nat), ls.drop i = r → acc.length ≤ i → i ≤ ls.length → okL r → (r = [] ∨ matchL r (ns.drop i) = true) →
    Ev (fun k => mapping_taken.l0 k acc ns ls (ls.length : Int) (i : Int)) (acc ++ takenF ns r i) := by
  intro r
  induction r with
  | nil =>
    intro acc i h ha hi ho hm
    have hz := drop_nil h
    refine ev_succ ?_
    simp only [mapping_taken.l0]
    refine ev_neg (by omega) (ev_some ?_)
    show _ = some (acc ++ [])
    rw [List.append_nil]
  | cons a r ih =>
    intro acc i h ha hi ho hm
    obtain ⟨h1, h2, h3⟩ := drop_cons ByteArray.empty h
    obtain ⟨o1, o2⟩ := ho
    have hm' : matchL (a :: r) (ns.drop i) = true := by
      rcases hm with hm | hm
      · cases hm
      · exact hm
    refine ev_succ ?_
    simp only [mapping_taken.l0]
    refine ev_pos (by omega) (ev_pos (by omega) (ev_pos (by omega) ?_))
    rw [rd_get, h2, up1 i (by omega), mn_nat, Int.toNat_natCast, Int.toNat_natCast, Int.toNat_natCast]
    unfold takenF
    cases hr : isR a with
    | true =>
      have hp : isP a = false := by
        cases hp : isP a with
        | false => rfl
        | true => exact (RP hr hp).elim
      rw [if_neg (by rw [hp]; decide), if_pos rfl]
      have hmin : min i ns.length ≤ ns.length := Nat.min_le_right _ _
      have := ih (acc ++ [ns.drop (min i ns.length)]) (i + 1) h3 (by rw [List.length_append]; show _ + 1 ≤ _; omega) (by omega) o2 (.inl (o1 hr))
      rw [List.append_assoc] at this
      exact ev_neg (isP_not hp) (ev_pos (isR_is hr) (ev_pos (by omega) (ev_pos (by omega) (ev_pos (by omega) this))))
    | false =>
      cases hd : ns.drop i with
      | nil =>
        rw [hd] at hm'
        replace hm' : isR a = true := hm'
        rw [hr] at hm'
        cases hm'
      | cons x m =>
        obtain ⟨d1, d2, d3⟩ := drop_cons ByteArray.empty hd
        rw [hd] at hm'
        replace hm' : (isR a || ((isP a || eqB a x) && matchL r m)) = true := hm'
        rw [hr, Bool.false_or, Bool.and_eq_true] at hm'
        have hnext : r = [] ∨ matchL r (ns.drop (i + 1)) = true := .inr (by rw [d3]; exact hm'.2)
        cases hp : isP a with
        | true =>
          rw [if_pos rfl]
          have := ih (acc ++ [(ns.take (i + 1)).drop i]) (i + 1) h3 (by rw [List.length_append]; show _ + 1 ≤ _; omega) (by omega) o2 hnext
          rw [List.append_assoc] at this
          exact ev_pos (isP_is hp) (ev_pos (by omega) (ev_pos (by omega) (ev_pos (by omega) this)))
        | false =>
          rw [if_neg (by decide), if_neg (by decide)]
          exact ev_neg (isP_not hp) (ev_neg (isR_not hr) (ih acc (i + 1) h3 (by omega) (by omega) o2 hnext))
theorem taken_ev {a n : BA} (hf : filterB a = true) (hn : validB n = true) (hm : matchL (levels a) (levels n) = true) : Ev (fun k => mapping_taken.f k a n) (takenF (levels n) (levels a) 0) := by
  have z1 := filter_size hf
  have z2 := valid_size hn
  have l1 := lev_len z1
  have l2 := lev_len z2
  simp only [mapping_taken.f]
  exact ev_const (topic_levels n (by omega)) (ev_const (topic_levels a (by omega)) (taken_l0 (levels n) (levels a) (by omega) (by omega) (levels a) [] 0 rfl (Nat.le_refl _) (Nat.zero_le _) (filter_ok hf) (.inr hm)))
def applyV (a b n : BA) : BA × Bool := if matchB a n = true then (if validB (slash ((seqM (takenF (levels n) (levels a) 0) (levels b)).map toL)) = true then (slash ((seqM (takenF (levels n) (levels a) 0) (levels b)).map toL), true) else (⟨#[]⟩, false)) else (⟨#[]⟩, false)
theorem apply_ev (a b n : BA) (ha : a.size ≤ 9223372036854775806) (hn : n.size ≤ 9223372036854775806) (hb : b.size ≤ 1000000)
    (hfit : matchB a n = true → fits (takenF (levels n) (levels a) 0) (levels b) ∧ (seqM (takenF (levels n) (levels a) 0) (levels b)).length ≤ 2048 ∧ ∀ x ∈ seqM (takenF (levels n) (levels a) 0) (levels b), x.size ≤ 4096) :
    Ev (fun k => mapping_Apply.f k a b n) (applyV a b n) := by
  simp only [mapping_Apply.f, applyF]
  unfold applyV
  refine ev_bind (matches_ev a n (by omega) (by omega)) ?_
  by_cases hm : matchB a n = true
  · rw [if_pos hm]
    obtain ⟨f1, f2, f3⟩ := hfit hm
    obtain ⟨m1, m2, m3, m4⟩ := matchB_split hm
    have hsz := slash_size f2 f3
    refine ev_pos hm (ev_bind (taken_ev m1 m2 m4) (ev_const (topic_levels b (by omega)) (ev_pos f1 (ev_const (join_val f2 f3) (ev_const (topic_valid _ (by omega)) ?_)))))
    by_cases hv : validB (slash ((seqM (takenF (levels n) (levels a) 0) (levels b)).map toL)) = true
    · rw [if_pos hv, if_pos hv]
      exact ev_some rfl
    · rw [if_neg hv, if_neg hv]
      exact ev_some rfl
  · rw [if_neg hm]
    exact ev_neg hm (ev_some rfl)
end Go.Proofs.YtegcobkhejpmkaaDoor.Pure
