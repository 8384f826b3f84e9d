/- Narrow and Select, and the law MatchNarrow over the printed functions. -/
import Derived.Test.YtmgmkgnenopelaaDoorPureA
import Derived.Test.YtmgmkgnenopelaaDoorPx6
import Derived.Test.YtmgmkgnenopelaaDoorPx7
namespace Go.Proofs.YtmgmkgnenopelaaDoor.Pure
open Go.RowKit Go.Proofs.YtmgmkgnenopelaaDoor.P Go.Proofs.YtmgmkgnenopelaaDoorW.PrintWords Go.Proofs.YtmgmkgnenopelaaDoorW.PrintLast Go.Proofs.YtmgmkgnenopelaaDoor.Ext

theorem light_l0 (l : List ByteArray) (hl : l.length ≤ 9223372036854775806) : ∀ d, d ≤ l.length → ∃ b, Ev (fun k => brokerlaw02_light.l0 k l ((l.length - d : Nat) : Int)) b ∧ (b = true → ∀ i, l.length - d ≤ i → i < l.length → i < 32 ∧ (l.getD i ByteArray.empty).size ≤ 4096) := by
  intro d
  induction d with
  | zero =>
    intro _
    refine ⟨true, ?_, fun _ i h0 h1 => by omega⟩
    refine ev_succ ?_
    simp only [brokerlaw02_light.l0]
    exact ev_neg (by omega) (ev_some rfl)
  | succ d ih =>
    intro hd
    obtain ⟨b, hb, hall⟩ := ih (by omega)
    have erd : rdOf ByteArray.empty l ((l.length - (d + 1) : Nat) : Int) = l.getD (l.length - (d + 1)) ByteArray.empty := rfl
    by_cases h1 : l.length - (d + 1) < 32
    · by_cases h2 : (l.getD (l.length - (d + 1)) ByteArray.empty).size ≤ 4096
      · refine ⟨b, ?_, fun hbt i h3 h4 => ?_⟩
        · refine ev_succ ?_
          simp only [brokerlaw02_light.l0]
          refine ev_pos (by omega) (ev_neg (by omega) (ev_pos (by omega) (ev_neg (by rw [erd]; omega) ?_)))
          rw [w64 (by omega) (by omega), show (((l.length - (d + 1) : Nat) : Int) + 1) = ((l.length - d : Nat) : Int) by omega]
          exact hb
        · by_cases e : i = l.length - (d + 1)
          · subst e; exact ⟨h1, h2⟩
          · exact hall hbt i (by omega) h4
      · refine ⟨false, ?_, fun h => by cases h⟩
        refine ev_succ ?_
        simp only [brokerlaw02_light.l0]
        exact ev_pos (by omega) (ev_neg (by omega) (ev_pos (by omega) (ev_pos (by rw [erd]; omega) (ev_some rfl))))
    · refine ⟨false, ?_, fun h => by cases h⟩
      refine ev_succ ?_
      simp only [brokerlaw02_light.l0]
      exact ev_pos (by omega) (ev_pos (by omega) (ev_some rfl))
theorem light_ev (l : List ByteArray) (hl : l.length ≤ 9223372036854775806) : ∃ b, Ev (fun k => brokerlaw02_light.f k l) b ∧ (b = true → l.length ≤ 32 ∧ ∀ i, i < l.length → (l.getD i ByteArray.empty).size ≤ 4096) := by
  obtain ⟨b, hb, hall⟩ := light_l0 l hl l.length (Nat.le_refl _)
  rw [Nat.sub_self] at hb hall
  refine ⟨b, ?_, fun h => ⟨?_, fun i hi => (hall h i (Nat.zero_le _) hi).2⟩⟩
  · simp only [brokerlaw02_light.f]
    exact hb
  · by_cases hle : l.length ≤ 32
    · exact hle
    · have := (hall h (l.length - 1) (Nat.zero_le _) (by omega)).1
      omega

/-! ### Loops over a list -/
def g (l : List BA) (i : Nat) : BA := l.getD i ByteArray.empty
theorem rd_g (l : List BA) (i : Nat) : rdOf ByteArray.empty l (i : Int) = g l i := rfl
def anyD (p : Nat → Bool) : Nat → Nat → Bool
  | _, 0 => false
  | m, d + 1 => p m || anyD p (m + 1) d
theorem anyD_iff (p : Nat → Bool) : ∀ d m, anyD p m d = true ↔ ∃ i, m ≤ i ∧ i < m + d ∧ p i = true
  | 0, m => by
    constructor
    · exact fun h => by cases h
    · rintro ⟨i, h1, h2, _⟩; omega
  | d + 1, m => by
    rw [show anyD p m (d + 1) = (p m || anyD p (m + 1) d) from rfl, Bool.or_eq_true, anyD_iff p d (m + 1)]
    constructor
    · rintro (h | ⟨i, h1, h2, h3⟩)
      · exact ⟨m, Nat.le_refl _, by omega, h⟩
      · exact ⟨i, by omega, by omega, h3⟩
    · rintro ⟨i, h1, h2, h3⟩
      by_cases e : i = m
      · subst e; exact Or.inl h3
      · exact Or.inr ⟨i, by omega, by omega, h3⟩
def selD (p : Nat → Bool) (l : List BA) : Nat → Nat → List BA
  | _, 0 => []
  | m, d + 1 => if p m = true then g l m :: selD p l (m + 1) d else selD p l (m + 1) d
theorem selD_len (p : Nat → Bool) (l : List BA) : ∀ d m, (selD p l m d).length ≤ d
  | 0, _ => Nat.le_refl _
  | d + 1, m => by
    have := selD_len p l d (m + 1)
    unfold selD
    split
    · simp only [List.length_cons]; omega
    · omega
theorem selD_mem (p : Nat → Bool) (l : List BA) : ∀ d m x, x ∈ selD p l m d ↔ ∃ i, m ≤ i ∧ i < m + d ∧ p i = true ∧ x = g l i
  | 0, m, x => by
    constructor
    · exact fun h => by cases h
    · rintro ⟨i, h1, h2, _⟩; omega
  | d + 1, m, x => by
    have ih := selD_mem p l d (m + 1) x
    unfold selD
    constructor
    · intro h
      split at h
      · rename_i hp
        rcases List.mem_cons.1 h with e | h
        · exact ⟨m, Nat.le_refl _, by omega, hp, e⟩
        · obtain ⟨i, h1, h2, h3⟩ := ih.1 h
          exact ⟨i, by omega, by omega, h3⟩
      · obtain ⟨i, h1, h2, h3⟩ := ih.1 h
        exact ⟨i, by omega, by omega, h3⟩
    · rintro ⟨i, h1, h2, h3, h4⟩
      by_cases e : i = m
      · subst e
        rw [if_pos h3, h4]
        exact List.mem_cons_self ..
      · have := ih.2 ⟨i, by omega, by omega, h3, h4⟩
        split
        · exact List.mem_cons_of_mem _ this
        · exact this

/-- Does an element drop another one? -/
def drops (l : List BA) (i k : Nat) : Bool := decide (k ≠ i) && (!eqB (g l k) (g l i) || decide (k < i)) && coverB (g l k) (g l i)
def stayB (l : List BA) (i : Nat) : Bool := filterB (g l i) && !anyD (drops l i) 0 l.length
def narrowB (l : List BA) : List BA := selD (stayB l) l 0 l.length
def selectB (f : BA) (l : List BA) : List BA := selD (fun m => matchB f (g l m)) l 0 l.length
def Lights (l : List BA) : Prop := l.length ≤ 32 ∧ ∀ i, i < l.length → (g l i).size ≤ 4096

theorem covered_l0 (l : List BA) (hl : Lights l) (i : Nat) (hi : i < l.length) : ∀ d m, m + d = l.length → Ev (fun k => match_covered.l0 k l (i : Int) l (l.length : Int) (m : Int)) (anyD (drops l i) m d) := by
  obtain ⟨hn, hs⟩ := hl
  intro d
  induction d with
  | zero =>
    intro m hm
    refine ev_succ ?_
    simp only [match_covered.l0]
    exact ev_neg (by omega) (ev_some rfl)
  | succ d ih =>
    intro m hm
    have next := ih (m + 1) (by omega)
    have si := hs i hi
    have sm := hs m (by omega)
    rw [show anyD (drops l i) m (d + 1) = (drops l i m || anyD (drops l i) (m + 1) d) from rfl]
    refine ev_succ ?_
    simp only [match_covered.l0, rd_g]
    refine ev_pos (by omega) (ev_pos (by omega) (ev_pos (by omega) ?_))
    rw [up1 m (by omega)]
    have cov : ∀ b : Bool, drops l i m = (b && coverB (g l m) (g l i)) → b = true → Ev (fun k => (match_Covers.f k (g l m) (g l i)).bind fun t => if t = true then some true else match_covered.l0 k l (i : Int) l (l.length : Int) ((m + 1 : Nat) : Int)) (drops l i m || anyD (drops l i) (m + 1) d) := by
      intro b hb hbt
      rw [hb, hbt, Bool.true_and]
      refine ev_bind (covers_ev _ _ (by omega) (by omega)) (ev_if (fun h => ev_some ?_) (fun h => ?_))
      · rw [h]; rfl
      · rw [h]; exact next
    by_cases e : m = i
    · subst e
      rw [show drops l m m = false by simp [drops]]
      exact ev_pos rfl next
    · refine ev_neg (by omega) (ev_pos (by omega) (ev_pos (by omega) ?_))
      cases hq : eqB (g l m) (g l i)
      · exact ev_neg (eqB_not hq) (cov true (by simp [drops, e, hq]) rfl)
      · refine ev_pos (eqB_is hq) ?_
        by_cases c : m < i
        · exact ev_pos (by omega) (cov true (by simp [drops, e, c]) rfl)
        · rw [show drops l i m = false by simp [drops, c, hq]]
          exact ev_neg (by omega) next
theorem narrow_l0 (l : List BA) (hl : Lights l) : ∀ d m out, m + d = l.length → out.length ≤ m → Ev (fun k => match_Narrow.l0 k l out l (l.length : Int) (m : Int)) (out ++ selD (stayB l) l m d) := by
  have hl' := hl
  obtain ⟨hn, hs⟩ := hl'
  intro d
  induction d with
  | zero =>
    intro m out hm _
    refine ev_succ ?_
    simp only [match_Narrow.l0]
    exact ev_neg (by omega) (ev_some (congrArg some (List.append_nil _).symm))
  | succ d ih =>
    intro m out hm hout
    have sm := hs m (by omega)
    have skip : stayB l m = false → Ev (fun k => match_Narrow.l0 k l out l (l.length : Int) ((m + 1 : Nat) : Int)) (out ++ selD (stayB l) l m (d + 1)) := by
      intro h
      rw [show selD (stayB l) l m (d + 1) = selD (stayB l) l (m + 1) d by simp [selD, h]]
      exact ih (m + 1) out (by omega) (by omega)
    refine ev_succ ?_
    simp only [match_Narrow.l0, rd_g]
    refine ev_pos (by omega) (ev_pos (by omega) (ev_pos (by omega) ?_))
    rw [up1 m (by omega)]
    refine ev_const (topic_filter _ (by omega)) (ev_if (fun hf => ?_) (fun hf => ?_))
    · simp only [match_covered.f]
      refine ev_bind (covered_l0 l hl m (by omega) l.length 0 (by omega)) (ev_if (fun hc => ?_) (fun hc => ?_))
      · exact skip (by simp [stayB, hc])
      · have hst : stayB l m = true := by
          unfold stayB
          rw [show filterB (g l m) = true from hf, hc]
          rfl
        rw [show selD (stayB l) l m (d + 1) = g l m :: selD (stayB l) l (m + 1) d by simp [selD, hst]]
        have := ih (m + 1) (out ++ [g l m]) (by omega) (by rw [List.length_append]; simp only [List.length_cons, List.length_nil]; omega)
        rw [List.append_assoc] at this
        exact ev_pos (by omega) this
    · exact skip (by
        unfold stayB
        rw [show filterB (g l m) = false from hf]
        rfl)
theorem narrow_ev (l : List BA) (hl : Lights l) : Ev (fun k => match_Narrow.f k l) (narrowB l) := by
  simp only [match_Narrow.f]
  exact narrow_l0 l hl l.length 0 [] (by omega) (Nat.le_refl _)
theorem select_l0 (f : BA) (hf : f.size ≤ 9223372036854775806) (l : List BA) (hl : Lights l) : ∀ d m out, m + d = l.length → out.length ≤ m → Ev (fun k => match_Select.l0 k f out l (l.length : Int) (m : Int)) (out ++ selD (fun m => matchB f (g l m)) l m d) := by
  obtain ⟨hn, hs⟩ := hl
  intro d
  induction d with
  | zero =>
    intro m out hm _
    refine ev_succ ?_
    simp only [match_Select.l0]
    exact ev_neg (by omega) (ev_some (congrArg some (List.append_nil _).symm))
  | succ d ih =>
    intro m out hm hout
    have sm := hs m (by omega)
    refine ev_succ ?_
    simp only [match_Select.l0, rd_g]
    refine ev_pos (by omega) (ev_pos (by omega) (ev_pos (by omega) ?_))
    rw [up1 m (by omega)]
    refine ev_bind (matches_ev f _ hf (by omega)) (ev_if (fun h => ?_) (fun h => ?_))
    · rw [show selD (fun m => matchB f (g l m)) l m (d + 1) = g l m :: selD (fun m => matchB f (g l m)) l (m + 1) d by rw [selD, if_pos h]]
      have := ih (m + 1) (out ++ [g l m]) (by omega) (by rw [List.length_append]; simp only [List.length_cons, List.length_nil]; omega)
      rw [List.append_assoc] at this
      exact ev_pos (by omega) this
    · rw [show selD (fun m => matchB f (g l m)) l m (d + 1) = selD (fun m => matchB f (g l m)) l (m + 1) d by rw [selD, if_neg (by rw [show matchB f (g l m) = false from h]; decide)]]
      exact ih (m + 1) out (by omega) (by omega)
theorem select_ev (f : BA) (hf : f.size ≤ 9223372036854775806) (l : List BA) (hl : Lights l) : Ev (fun k => match_Select.f k f l) (selectB f l) := by
  simp only [match_Select.f]
  exact select_l0 f hf l hl l.length 0 [] (by omega) (Nat.le_refl _)
/-! ### What is dropped is covered by what stays -/
end Go.Proofs.YtmgmkgnenopelaaDoor.Pure
