/- Round is fair: what each was given, how much in all, and how far apart; FlowFair. -/
import Derived.Test.YtdaleecijlemhaaPureRound
import Derived.Test.YtdaleecijlemhaaPx6
namespace Go.Proofs.Ytdaleecijlemhaa.Pure
open Go.RowKit Go.Proofs.Ytdaleecijlemhaa.P Go.Proofs.YtdaleecijlemhaaW.PrintWords Go.Proofs.YtdaleecijlemhaaW.PrintLast

def lft (x : S23) : Int := if x.f1 < x.f0 then x.f0 - x.f1 else 0
theorem left_ev {a b : Int} (h : Vd a b) : flow_Left.f a b = some (lft ⟨a, b⟩) := by
  unfold Vd at h
  unfold flow_Left.f lft mx
  rw [w64 (by omega) (by omega)]
  dsimp only
  split <;> split <;> first | rfl | (congr 1; omega)

def dist (n a b : Nat) : Nat := if a ≤ b then b - a else b + n - a
def nrm (n f : Nat) : Nat := if f = n then 0 else f
theorem modc {n f t : Nat} (hf : f ≤ n) (ht : t < n) : (f + t) % n = if n ≤ f + t then f + t - n else f + t := by
  split
  · rename_i h
    rw [Nat.mod_eq_sub_mod h, Nat.mod_eq_of_lt (by omega)]
  · exact Nat.mod_eq_of_lt (by omega)

theorem scan_some (m : List S23) (f : Nat) : ∀ d i, scan m f d = some i → d ≤ m.length →
    ∃ t, m.length - d ≤ t ∧ t < m.length ∧ i = (f + t) % m.length ∧ ∀ t', m.length - d ≤ t' → t' < t → ¬ crd m ((f + t') % m.length) := by
  intro d
  induction d with
  | zero => intro i h; cases h
  | succ d ih =>
    intro i h hd
    unfold scan at h
    split at h
    · injection h with h
      exact ⟨m.length - (d + 1), Nat.le_refl _, by omega, h.symm, fun t' h0 h1 => by omega⟩
    · rename_i hc
      obtain ⟨t, h0, h1, h2, h3⟩ := ih i h (by omega)
      refine ⟨t, by omega, h1, h2, fun t' h4 h5 => ?_⟩
      by_cases e : t' = m.length - (d + 1)
      · subst e; exact hc
      · exact h3 t' (by omega) h5
theorem scan_none (m : List S23) (f : Nat) : ∀ d, scan m f d = none → d ≤ m.length → ∀ t, m.length - d ≤ t → t < m.length → ¬ crd m ((f + t) % m.length) := by
  intro d
  induction d with
  | zero => intro _ _ t h0 h1; omega
  | succ d ih =>
    intro h hd t h0 h1
    unfold scan at h
    split at h
    · cases h
    · rename_i hc
      by_cases e : t = m.length - (d + 1)
      · subst e; exact hc
      · exact ih h (by omega) t (by omega) h1
theorem first_some {m : List S23} {f i : Nat} (hf : f ≤ m.length) (h : scan m f m.length = some i) : i < m.length ∧ crd m i ∧ ∀ j, j < m.length → dist m.length (nrm m.length f) j < dist m.length (nrm m.length f) i → ¬ crd m j := by
  obtain ⟨hi, hc⟩ := scan_lt m f _ i h (Nat.le_refl _)
  obtain ⟨t, _, ht, e, hall⟩ := scan_some m f _ i h (Nat.le_refl _)
  refine ⟨hi, hc, fun j hj hd => ?_⟩
  rw [modc hf ht] at e
  have hdi : dist m.length (nrm m.length f) i = t := by
    unfold dist nrm
    split at e <;> split <;> split <;> omega
  have := hall (dist m.length (nrm m.length f) j) (by omega) (by omega)
  rw [modc hf (by omega)] at this
  have ej : (if m.length ≤ f + dist m.length (nrm m.length f) j then f + dist m.length (nrm m.length f) j - m.length else f + dist m.length (nrm m.length f) j) = j := by
    unfold dist nrm
    split <;> split <;> split <;> omega
  rw [ej] at this
  exact this
theorem first_none {m : List S23} {f : Nat} (hf : f ≤ m.length) (h : scan m f m.length = none) : ∀ j, j < m.length → ¬ crd m j := by
  intro j hj
  have hd : dist m.length (nrm m.length f) j < m.length := by
    unfold dist nrm
    split <;> split <;> omega
  have := scan_none m f _ h (Nat.le_refl _) (dist m.length (nrm m.length f) j) (by omega) hd
  rw [modc hf hd] at this
  have ej : (if m.length ≤ f + dist m.length (nrm m.length f) j then f + dist m.length (nrm m.length f) j - m.length else f + dist m.length (nrm m.length f) j) = j := by
    unfold dist nrm
    split <;> split <;> split <;> omega
  rw [ej] at this
  exact this

/-- The credits now are the credits l with g used up besides. -/
structure Inv (l m : List S23) (g : List Int) : Prop where
  lm : m.length = l.length
  lg : g.length = l.length
  at0 : ∀ j, j < l.length → (at_ m j).f0 = (at_ l j).f0 ∧ (at_ m j).f1 = (at_ l j).f1 + g.getD j 0
  pos : ∀ j, j < l.length → 0 ≤ g.getD j 0
  top : ∀ j, j < l.length → g.getD j 0 ≤ lft (at_ l j)
theorem inv_crd {l m : List S23} {g : List Int} (h : Inv l m g) {j : Nat} (hj : j < l.length) : crd m j ↔ g.getD j 0 < lft (at_ l j) := by
  obtain ⟨e0, e1⟩ := h.at0 j hj
  have hp := h.pos j hj
  unfold crd lft
  rw [e0, e1]
  split <;> omega
theorem inv_step {l m : List S23} {g : List Int} (h : Inv l m g) {i : Nat} (hi : i < l.length) (hc : crd m i) : Inv l (m.set i (up (at_ m i))) (g.set i (g.getD i 0 + 1)) where
  lm := by rw [List.length_set]; exact h.lm
  lg := by rw [List.length_set]; exact h.lg
  at0 := fun j hj => by
    rw [at_set m i j _ (by rw [h.lm]; exact hi), g_set g i j _ (by rw [h.lg]; exact hi)]
    obtain ⟨e0, e1⟩ := h.at0 j hj
    split
    · rename_i e
      subst e
      unfold up
      dsimp only
      omega
    · exact ⟨e0, e1⟩
  pos := fun j hj => by
    rw [g_set g i j _ (by rw [h.lg]; exact hi)]
    have := h.pos j hj
    have := h.pos i hi
    split <;> omega
  top := fun j hj => by
    rw [g_set g i j _ (by rw [h.lg]; exact hi)]
    have h1 := h.top j hj
    have h2 := (inv_crd h hi).1 hc
    split
    · rename_i e
      subst e
      omega
    · exact h1

def psum (g : List Int) : Nat → Int
  | 0 => 0
  | i + 1 => psum g i + g.getD i 0
theorem psum_set (g : List Int) (i : Nat) (hi : i < g.length) : ∀ n, psum (g.set i (g.getD i 0 + 1)) n = psum g n + if i < n then 1 else 0
  | 0 => by simp [psum]
  | n + 1 => by
    unfold psum
    rw [psum_set g i hi n, g_set g i n _ hi]
    split <;> split <;> split <;> first | omega | (rename_i h1 h2 h3; subst h2; omega)
theorem psum_zero (n k : Nat) : psum (List.replicate n (0 : Int)) k = 0 := by
  induction k with
  | zero => rfl
  | succ k ih =>
    unfold psum
    rw [ih, List.getD_eq_getElem?_getD, List.getElem?_replicate]
    split <;> simp

/-- Fair so far: q rounds whole, and those up to where the next look begins once more. -/
def Fr (n s : Nat) (m : List S23) (g : List Int) (last : Int) (q : Int) : Prop :=
  ∀ j, j < n → (crd m j → g.getD j 0 = q + if dist n s j < dist n s (nrm n (fst_ n last)) then 1 else 0) ∧ g.getD j 0 ≤ q + if dist n s j < dist n s (nrm n (fst_ n last)) then 1 else 0

theorem dist_lt {n a b : Nat} (ha : a < n) (hb : b < n) : dist n a b < n := by unfold dist; split <;> omega
theorem dist_rel {n s f j : Nat} (hs : s < n) (hf : f < n) (hj : j < n) : dist n f j = if dist n s f ≤ dist n s j then dist n s j - dist n s f else dist n s j + n - dist n s f := by
  unfold dist
  split <;> split <;> split <;> split <;> omega
theorem dist_next {n s i : Nat} (hs : s < n) (hi : i < n) : dist n s (nrm n (i + 1)) = if dist n s i + 1 = n then 0 else dist n s i + 1 := by
  unfold dist nrm
  split <;> split <;> split <;> split <;> omega
theorem dist_inj {n s i j : Nat} (hs : s < n) (hi : i < n) (hj : j < n) (h : dist n s i = dist n s j) : i = j := by
  unfold dist at h
  split at h <;> split at h <;> omega
theorem fair_step {l m : List S23} {g : List Int} {last q : Int} {s i : Nat} (hs : s < m.length) (h : Inv l m g) (hf : Fr m.length s m g last q) (hsc : scan m (fst_ m.length last) m.length = some i) :
    ∃ q', Fr m.length s (m.set i (up (at_ m i))) (g.set i (g.getD i 0 + 1)) (i : Int) q' := by
  obtain ⟨hi, hc, hall⟩ := first_some (fst_le _ _) hsc
  have hlm := h.lm
  have hlg := h.lg
  have hfle := fst_le m.length last
  have en : fst_ m.length (i : Int) = i + 1 := by unfold fst_; rw [if_pos (by omega)]; rfl
  have hgi := (hf i hi).1 hc
  have hN : nrm m.length (fst_ m.length last) < m.length := by unfold nrm; split <;> omega
  have hcj : ∀ j, j ≠ i → (crd (m.set i (up (at_ m i))) j ↔ crd m j) := by
    intro j hj
    unfold crd
    rw [at_set m i j _ hi, if_neg hj]
  have hpi := dist_lt hs hi
  have hp := dist_lt hs hN
  refine ⟨if dist m.length s i < dist m.length s (nrm m.length (fst_ m.length last)) ∨ dist m.length s i + 1 = m.length then q + 1 else q, fun j hj => ?_⟩
  rw [g_set g i j _ (by omega), en, dist_next hs hi]
  have hfj := hf j hj
  have hno := hall j hj
  have hdj := hcj j
  have hpj := dist_lt hs hj
  have hne := dist_inj hs hi hj
  rw [dist_rel hs hN hj, dist_rel hs hN hi] at hno
  clear hf hall hcj h
  generalize dist m.length s (nrm m.length (fst_ m.length last)) = p at *
  by_cases e : j = i
  · subst e
    clear hne hfj hno hdj
    rw [if_pos rfl]
    generalize dist m.length s j = pi at *
    have key : (if pi < p ∨ pi + 1 = m.length then q + 1 else q) + (if pi < (if pi + 1 = m.length then 0 else pi + 1) then 1 else 0) = g.getD j 0 + 1 := by
      rw [hgi]
      split <;> split <;> split <;> split <;> omega
    rw [key]
    exact ⟨fun _ => rfl, Int.le_refl _⟩
  · rw [if_neg e]
    generalize dist m.length s i = pi at *
    have hne' : pi ≠ dist m.length s j := fun h => e (hne h).symm
    generalize dist m.length s j = pj at *
    have le : g.getD j 0 ≤ (if pi < p ∨ pi + 1 = m.length then q + 1 else q) + (if pj < (if pi + 1 = m.length then 0 else pi + 1) then 1 else 0) := by
      refine Int.le_trans hfj.2 ?_
      clear hno hfj hgi hne
      split <;> split <;> split <;> split <;> omega
    refine ⟨fun hcr => ?_, le⟩
    have hcr' := (hdj e).1 hcr
    have hd : ¬ (if p ≤ pj then pj - p else pj + m.length - p) < (if p ≤ pi then pi - p else pi + m.length - p) := fun h => hno h hcr'
    rw [hfj.1 hcr']
    clear hno hfj hgi le hne hdj hcr hcr'
    split at hd <;> split at hd <;> split <;> split <;> split <;> split <;> omega

/-- What the rounds leave. -/
theorem rr_fair (l : List S23) (s : Nat) : ∀ (d : Nat) (m : List S23) (g : List Int) (last q : Int), (0 < m.length → s < m.length) → Inv l m g → Fr m.length s m g last q →
    ∃ m' q', Inv l m' (rr d m g last).1 ∧ Fr m'.length s m' (rr d m g last).1 (rr d m g last).2 q' ∧ psum g l.length ≤ psum (rr d m g last).1 l.length ∧ psum (rr d m g last).1 l.length ≤ psum g l.length + d ∧
      (psum (rr d m g last).1 l.length = psum g l.length + d ∨ ∀ j, j < l.length → ¬ crd m' j) := by
  intro d
  induction d with
  | zero => exact fun m g last q hs h hf => ⟨m, q, h, hf, Int.le_refl _, by simp [rr], .inl (by simp [rr])⟩
  | succ d ih =>
    intro m g last q hs h hf
    unfold rr
    cases hsc : scan m (fst_ m.length last) m.length with
    | none => exact ⟨m, q, h, hf, Int.le_refl _, by dsimp only; omega, .inr (by rw [← h.lm]; exact first_none (fst_le _ _) hsc)⟩
    | some i =>
      obtain ⟨hi, hc, _⟩ := first_some (fst_le _ _) hsc
      have hs' := hs (by omega)
      obtain ⟨q', hf'⟩ := fair_step hs' h hf hsc
      have h' := inv_step h (by rw [← h.lm]; exact hi) hc
      have hlen : (m.set i (up (at_ m i))).length = m.length := List.length_set
      rw [← hlen] at hf' hs'
      obtain ⟨m2, q2, r1, r2, r3, r4, r5⟩ := ih _ _ _ q' (fun _ => hs') h' hf'
      have e := psum_set g i (by rw [h.lg, ← h.lm]; exact hi) l.length
      rw [if_pos (by rw [← h.lm]; exact hi)] at e
      refine ⟨m2, q2, r1, r2, ?_, ?_, ?_⟩
      · dsimp only; omega
      · dsimp only; omega
      · rcases r5 with r5 | r5
        · left; dsimp only; omega
        · exact .inr r5

theorem nth_zero (n j : Nat) : (List.replicate n (0 : Int)).getD j 0 = 0 := by
  rw [List.getD_eq_getElem?_getD, List.getElem?_replicate]
  split <;> simp
theorem inv_zero (l : List S23) : Inv l l (List.replicate l.length 0) where
  lm := rfl
  lg := by simp
  at0 := fun j _ => ⟨rfl, by rw [nth_zero]; omega⟩
  pos := fun j _ => by rw [nth_zero]; omega
  top := fun j _ => by rw [nth_zero]; unfold lft; split <;> omega
theorem dist_self (n a : Nat) : dist n a a = 0 := by unfold dist; rw [if_pos (Nat.le_refl _)]; omega
theorem fr_zero (l : List S23) (last : Int) : Fr l.length (nrm l.length (fst_ l.length last)) l (List.replicate l.length 0) last 0 := by
  intro j hj
  rw [dist_self, nth_zero, if_neg (by omega)]
  exact ⟨fun _ => rfl, by omega⟩

/-- What Round answers: how many, how much to each, how much in all, how far apart. -/
theorem round_law (l : List S23) (last : Int) (T : Nat) : ∃ g last', rr T l (List.replicate l.length 0) last = (g, last') ∧ g.length = l.length ∧ (∀ j, j < l.length → 0 ≤ g.getD j 0 ∧ g.getD j 0 ≤ lft (at_ l j)) ∧
    psum g l.length ≤ T ∧ (psum g l.length = T ∨ ∀ j, j < l.length → ¬ g.getD j 0 < lft (at_ l j)) ∧ (∀ i k, i < l.length → k < l.length → g.getD i 0 < lft (at_ l i) → g.getD k 0 ≤ g.getD i 0 + 1) := by
  have hf := fst_le l.length last
  obtain ⟨m', q', r1, r2, r3, r4, r5⟩ := rr_fair l (nrm l.length (fst_ l.length last)) T l (List.replicate l.length 0) last 0 (fun h => by unfold nrm; split <;> omega) (inv_zero l) (fr_zero l last)
  rw [psum_zero] at r4 r5
  refine ⟨_, _, rfl, r1.lg, fun j hj => ⟨r1.pos j hj, r1.top j hj⟩, by omega, ?_, ?_⟩
  · rcases r5 with r5 | r5
    · left; omega
    · exact .inr (fun j hj h => r5 j hj ((inv_crd r1 hj).2 h))
  · intro i k hi hk hlt
    rw [r1.lm] at r2
    have h1 := (r2 i hi).1 ((inv_crd r1 hi).2 hlt)
    have h2 := (r2 k hk).2
    split at h1 <;> split at h2 <;> omega

section
variable (l : List S23) (g : List Int) (T : Nat)
/-- Whether one of the first i has credit left. -/
def more : Nat → Bool
  | 0 => false
  | i + 1 => if more i = true then true else decide (g.getD i 0 < lft (at_ l i))
theorem more_no : ∀ i, (∀ j, j < i → ¬ g.getD j 0 < lft (at_ l j)) → more l g i = false
  | 0, _ => rfl
  | i + 1, h => by
    unfold more
    rw [more_no i (fun j hj => h j (by omega)), if_neg (by decide), decide_eq_false (h i (by omega))]

theorem fair_l2 (hl : l.length ≤ 40) (hv : Vl l) (hg : g.length = l.length) (hb : ∀ j, j < l.length → 0 ≤ g.getD j 0 ∧ g.getD j 0 ≤ lft (at_ l j))
    (hfar : ∀ i k, i < l.length → k < l.length → g.getD i 0 < lft (at_ l i) → g.getD k 0 ≤ g.getD i 0 + 1) (x7 x10 : Int) (x11 : Bool) (i : Nat) (hi : i < l.length)
    (h : Ev (fun k => brokerlaw16_FlowFair.l1 k l x7 g x10 x11 ((i + 1 : Nat) : Int)) true) : ∀ d, d ≤ l.length → Ev (fun k => brokerlaw16_FlowFair.l2 k l x7 g x10 x11 (i : Int) ((l.length - d : Nat) : Int)) true := by
  have hlb : lft (at_ l i) ≤ 1099511627776 := by
    have := hv i hi
    unfold Vd at this
    unfold lft
    split <;> omega
  have hbi := hb i hi
  intro d
  induction d with
  | zero =>
    intro _
    refine ev_succ ?_
    simp only [brokerlaw16_FlowFair.l2]
    refine ev_neg (by omega) ?_
    rw [w64 (by omega) (by omega), show ((i : Nat) : Int) + 1 = ((i + 1 : Nat) : Int) by omega]
    exact h
  | succ d ih =>
    intro hd
    have ih' := ih (by omega)
    refine ev_succ ?_
    simp only [brokerlaw16_FlowFair.l2]
    refine ev_pos (by omega) (ev_pos (by omega) (ev_pos (by omega) (ev_pos (by omega) ?_)))
    rw [rd_at, w64 (x := ((l.length - (d + 1) : Nat) : Int) + 1) (by omega) (by omega), show (((l.length - (d + 1) : Nat) : Int) + 1) = ((l.length - d : Nat) : Int) by omega]
    refine ev_const (left_ev (hv i hi)) ?_
    by_cases hc : g.getD i 0 < lft (at_ l i)
    · refine ev_pos hc (ev_pos (by omega) (ev_pos (by omega) ?_))
      have := hfar i (l.length - (d + 1)) hi (by omega) hc
      have e : rd g (i : Int) = g.getD i 0 := rfl
      have e2 : rd g ((l.length - (d + 1) : Nat) : Int) = g.getD (l.length - (d + 1)) 0 := rfl
      rw [e, e2, w64 (by omega) (by omega)]
      exact ev_neg (by omega) ih'
    · exact ev_neg hc ih'
theorem fair_l1 (hl : l.length ≤ 40) (hv : Vl l) (hg : g.length = l.length) (hb : ∀ j, j < l.length → 0 ≤ g.getD j 0 ∧ g.getD j 0 ≤ lft (at_ l j))
    (hfar : ∀ i k, i < l.length → k < l.length → g.getD i 0 < lft (at_ l i) → g.getD k 0 ≤ g.getD i 0 + 1) (x7 x10 : Int) (x11 : Bool) (hs : x10 ≤ x7) (hx : x10 = x7 ∨ x11 = false) :
    ∀ d, d ≤ l.length → Ev (fun k => brokerlaw16_FlowFair.l1 k l x7 g x10 x11 ((l.length - d : Nat) : Int)) true := by
  intro d
  induction d with
  | zero =>
    intro _
    refine ev_succ ?_
    simp only [brokerlaw16_FlowFair.l1]
    refine ev_neg (by omega) (ev_bind awake_ev ?_)
    simp only [if_true]
    refine ev_pos hs ?_
    by_cases e : x10 = x7
    · exact ev_pos e (ev_some rfl)
    · rcases hx with hx | hx
      · exact absurd hx e
      · subst hx
        exact ev_neg e (ev_some rfl)
  | succ d ih =>
    intro hd
    refine ev_succ ?_
    simp only [brokerlaw16_FlowFair.l1]
    refine ev_pos (by omega) ?_
    have := fair_l2 l g hl hv hg hb hfar x7 x10 x11 (l.length - (d + 1)) (by omega) (by rw [show l.length - (d + 1) + 1 = l.length - d by omega]; exact ih (by omega)) l.length (Nat.le_refl _)
    rw [Nat.sub_self] at this
    exact this
theorem psum_range (hb : ∀ j, j < l.length → 0 ≤ g.getD j 0 ∧ g.getD j 0 ≤ lft (at_ l j)) (hv : Vl l) : ∀ i, i ≤ l.length → 0 ≤ psum g i ∧ psum g i ≤ 1099511627776 * (i : Int)
  | 0, _ => by simp [psum]
  | i + 1, h => by
    have ih := psum_range hb hv i (by omega)
    have h1 := hb i (by omega)
    have h2 := hv i (by omega)
    unfold Vd at h2
    have h3 : lft (at_ l i) ≤ 1099511627776 := by unfold lft; split <;> omega
    unfold psum
    omega
theorem fair_l0 (hl : l.length ≤ 40) (hv : Vl l) (hg : g.length = l.length) (hb : ∀ j, j < l.length → 0 ≤ g.getD j 0 ∧ g.getD j 0 ≤ lft (at_ l j)) (x7 : Int)
    (h : Ev (fun k => brokerlaw16_FlowFair.l1 k l x7 g (psum g l.length) (more l g l.length) 0) true) :
    ∀ d, d ≤ l.length → Ev (fun k => brokerlaw16_FlowFair.l0 k l x7 g (psum g (l.length - d)) (more l g (l.length - d)) ((l.length - d : Nat) : Int)) true := by
  intro d
  induction d with
  | zero =>
    intro _
    refine ev_succ ?_
    simp only [brokerlaw16_FlowFair.l0, Nat.sub_zero]
    exact ev_neg (by omega) h
  | succ d ih =>
    intro hd
    have ih' := ih (by omega)
    have hb1 := hb (l.length - (d + 1)) (by omega)
    have r1 := psum_range l g hb hv (l.length - (d + 1)) (by omega)
    have r2 := psum_range l g hb hv (l.length - d) (by omega)
    have es : l.length - d = (l.length - (d + 1)) + 1 := by omega
    rw [es] at ih' r2
    simp only [psum] at ih' r2
    refine ev_succ ?_
    simp only [brokerlaw16_FlowFair.l0]
    refine ev_pos (by omega) (ev_pos (by omega) (ev_pos (by omega) ?_))
    have e2 : rd g ((l.length - (d + 1) : Nat) : Int) = g.getD (l.length - (d + 1)) 0 := rfl
    rw [rd_at, e2]
    refine ev_neg (by omega) (ev_const (left_ev (hv _ (by omega))) (ev_neg (by show ¬ _ > lft (at_ l (l.length - (d + 1))); omega) ?_))
    rw [w64 (x := ((l.length - (d + 1) : Nat) : Int) + 1) (by omega) (by omega), show (((l.length - (d + 1) : Nat) : Int) + 1) = ((l.length - (d + 1) + 1 : Nat) : Int) by omega, w64 (by omega) (by omega)]
    by_cases hm : more l g (l.length - (d + 1)) = true
    · refine ev_pos hm ?_
      rw [more, if_pos hm] at ih'
      exact ih'
    · refine ev_neg hm (ev_const (left_ev (hv _ (by omega))) ?_)
      rw [more, if_neg hm] at ih'
      exact ih'
end

theorem FlowFair (l : List S23) (last n : Int) (hn : (Lit.int .u16 n).wf = true) : ∃ k, brokerlaw16_FlowFair.f k l last n = some true := by
  have hx : 0 ≤ n ∧ n ≤ 65535 := by simpa [Lit.wf, IntKind.min, IntKind.max, IntKind.signed, IntKind.bits] using hn
  suffices h : Ev (fun k => brokerlaw16_FlowFair.f k l last n) true from h.rounds
  simp only [brokerlaw16_FlowFair.f]
  obtain ⟨b, hb, hall⟩ := valid_ev l
  refine ev_bind hb ?_
  cases b with
  | false => exact ev_ff (ev_bind awake_ev (ev_some rfl))
  | true =>
    obtain ⟨hl, hv⟩ := hall rfl
    simp only [if_true]
    rw [w64 (by omega) (by omega)]
    have fin : Ev (fun k => brokerlaw16_FlowFair.j0 k l last n ((rounds_ n : Nat) : Int)) true := by
      refine ev_succ ?_
      simp only [brokerlaw16_FlowFair.j0]
      rw [w64 (by omega) (by omega)]
      have he := round_ev l last n (by omega) hv
      obtain ⟨g, last', e, hg, hb, hs, hx, hfar⟩ := round_law l last (rounds_ n)
      rw [e] at he
      refine ev_bind he (ev_pos (by rw [hg]) ?_)
      have h1 := fair_l1 l g hl hv hg hb hfar (rounds_ n : Int) (psum g l.length) (more l g l.length) hs (hx.imp id (more_no l g l.length)) l.length (Nat.le_refl _)
      rw [Nat.sub_self] at h1
      have h0 := fair_l0 l g hl hv hg hb (rounds_ n : Int) h1 l.length (Nat.le_refl _)
      rw [Nat.sub_self] at h0
      exact h0
    by_cases hm : n > 1024
    · refine ev_pos hm ?_
      have e : ((rounds_ n : Nat) : Int) = 1024 := by rw [rounds_int]; unfold mn mx; (repeat' split) <;> omega
      rw [e] at fin
      exact fin
    · refine ev_neg hm ?_
      have e : ((rounds_ n : Nat) : Int) = n := by rw [rounds_int]; unfold mn mx; (repeat' split) <;> omega
      rw [e] at fin
      exact fin
theorem FlowFair' (l : List S23) {N : Nat} (_ : l.length ≤ N ∧ l.length ≤ maxLen ∧ ∀ x ∈ l, (Lit.int .i64 x.f0).wf = true ∧ (Lit.int .i64 x.f1).wf = true) (last : Int) (_ : (Lit.int .i64 last).wf = true) (n : Int) (hn : (Lit.int .u16 n).wf = true) : ∃ k, brokerlaw16_FlowFair.f k l last n = some true := FlowFair _ _ _ hn
end Go.Proofs.Ytdaleecijlemhaa.Pure
