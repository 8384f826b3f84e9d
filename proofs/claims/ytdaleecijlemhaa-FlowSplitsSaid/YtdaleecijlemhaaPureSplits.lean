/- To distribute a units and then b more is to distribute all of them; FlowSplits. -/
import Derived.Test.YtdaleecijlemhaaPureFair
import Derived.Test.YtdaleecijlemhaaPx7
namespace Go.Proofs.Ytdaleecijlemhaa.Pure
open Go.RowKit Go.Proofs.Ytdaleecijlemhaa.P Go.Proofs.YtdaleecijlemhaaW.PrintWords Go.Proofs.YtdaleecijlemhaaW.PrintLast

/-- The credits behind the rounds. -/
def rrm : Nat → List S23 → Int → List S23
  | 0, m, _ => m
  | d + 1, m, last => match scan m (fst_ m.length last) m.length with
    | none => m
    | some i => rrm d (m.set i (up (at_ m i))) (i : Int)

theorem rr_none {m : List S23} {last : Int} (h : scan m (fst_ m.length last) m.length = none) (d : Nat) (g : List Int) : rr (d + 1) m g last = (g, last) := by simp only [rr, h]
theorem rr_some {m : List S23} {last : Int} {i : Nat} (h : scan m (fst_ m.length last) m.length = some i) (d : Nat) (g : List Int) : rr (d + 1) m g last = rr d (m.set i (up (at_ m i))) (g.set i (g.getD i 0 + 1)) (i : Int) := by simp only [rr, h]
theorem rrm_none {m : List S23} {last : Int} (h : scan m (fst_ m.length last) m.length = none) (d : Nat) : rrm (d + 1) m last = m := by simp only [rrm, h]
theorem rrm_some {m : List S23} {last : Int} {i : Nat} (h : scan m (fst_ m.length last) m.length = some i) (d : Nat) : rrm (d + 1) m last = rrm d (m.set i (up (at_ m i))) (i : Int) := by simp only [rrm, h]
theorem rr_stuck {m : List S23} {last : Int} (h : scan m (fst_ m.length last) m.length = none) (b : Nat) (g : List Int) : rr b m g last = (g, last) := by
  cases b with
  | zero => rfl
  | succ b => exact rr_none h b g
theorem rr_add (b : Nat) : ∀ (a : Nat) (m : List S23) (g : List Int) (last : Int), rr (a + b) m g last = rr b (rrm a m last) (rr a m g last).1 (rr a m g last).2 := by
  intro a
  induction a with
  | zero => intro m g last; rw [Nat.zero_add]; rfl
  | succ a ih =>
    intro m g last
    rw [show a + 1 + b = (a + b) + 1 by omega]
    cases hs : scan m (fst_ m.length last) m.length with
    | none => rw [rr_none hs, rrm_none hs, rr_none hs]; exact (rr_stuck hs b g).symm
    | some i => rw [rr_some hs, rrm_some hs, rr_some hs]; exact ih _ _ _

def add (g h : List Int) : List Int := List.zipWith (· + ·) g h
theorem add_length {g h : List Int} (e : g.length = h.length) : (add g h).length = h.length := by unfold add; rw [List.length_zipWith]; omega
theorem add_at {g h : List Int} (e : g.length = h.length) (j : Nat) : (add g h).getD j 0 = g.getD j 0 + h.getD j 0 := by
  unfold add
  simp only [List.getD_eq_getElem?_getD, List.getElem?_zipWith]
  by_cases hj : j < h.length
  · rw [List.getElem?_eq_getElem hj, List.getElem?_eq_getElem (by omega)]
    rfl
  · rw [List.getElem?_eq_none (by omega), List.getElem?_eq_none (by omega)]
    rfl
theorem g_ext {g h : List Int} (e : g.length = h.length) (hj : ∀ j, j < g.length → g.getD j 0 = h.getD j 0) : g = h := by
  refine List.ext_getElem e (fun j h0 h1 => ?_)
  have := hj j h0
  rw [List.getD_eq_getElem?_getD, List.getD_eq_getElem?_getD, List.getElem?_eq_getElem h0, List.getElem?_eq_getElem h1] at this
  exact this
theorem m_ext {g h : List S23} (e : g.length = h.length) (hj : ∀ j, j < g.length → at_ g j = at_ h j) : g = h := by
  refine List.ext_getElem e (fun j h0 h1 => ?_)
  have := hj j h0
  unfold at_ at this
  rw [List.getD_eq_getElem?_getD, List.getD_eq_getElem?_getD, List.getElem?_eq_getElem h0, List.getElem?_eq_getElem h1] at this
  exact this
theorem add_set {g h : List Int} (e : g.length = h.length) {i : Nat} (hi : i < h.length) : (add g h).set i ((add g h).getD i 0 + 1) = add g (h.set i (h.getD i 0 + 1)) := by
  refine g_ext ?_ (fun j hj => ?_)
  · rw [List.length_set, add_length e, add_length (by rw [List.length_set]; exact e), List.length_set]
  · rw [g_set _ _ _ _ (by rw [add_length e]; exact hi), add_at e i, add_at e j, add_at (g := g) (h := h.set i (h.getD i 0 + 1)) (by rw [List.length_set]; exact e) j, g_set _ _ _ _ hi]
    split
    · rename_i h0
      subst h0
      omega
    · rfl
theorem rr_off (one : List Int) : ∀ (b : Nat) (m : List S23) (h : List Int) (last : Int), one.length = h.length → h.length = m.length →
    rr b m (add one h) last = (add one (rr b m h last).1, (rr b m h last).2) := by
  intro b
  induction b with
  | zero => intro m h last _ _; rfl
  | succ b ih =>
    intro m h last e e2
    unfold rr
    cases hs : scan m (fst_ m.length last) m.length with
    | none => rfl
    | some i =>
      obtain ⟨hi, _⟩ := scan_lt m _ _ i hs (Nat.le_refl _)
      dsimp only
      rw [add_set e (by omega)]
      exact ih _ _ _ (by rw [List.length_set]; exact e) (by rw [List.length_set, List.length_set]; exact e2)
theorem add_zero (g : List Int) : add g (List.replicate g.length 0) = g := by
  refine g_ext ?_ (fun j _ => ?_)
  · rw [add_length (by simp)]; simp
  · rw [add_at (by simp), nth_zero]; omega
theorem inv_rrm (l : List S23) : ∀ (d : Nat) (m : List S23) (g : List Int) (last : Int), Inv l m g → Inv l (rrm d m last) (rr d m g last).1 := by
  intro d
  induction d with
  | zero => exact fun m g last h => h
  | succ d ih =>
    intro m g last h
    unfold rr rrm
    cases hs : scan m (fst_ m.length last) m.length with
    | none => exact h
    | some i =>
      obtain ⟨hi, hc⟩ := scan_lt m _ _ i hs (Nat.le_refl _)
      exact ih _ _ _ (inv_step h (by rw [← h.lm]; exact hi) hc)
theorem vl_rrm : ∀ (d : Nat) (m : List S23) (last : Int), Vl m → Vl (rrm d m last) := by
  intro d
  induction d with
  | zero => exact fun m last h => h
  | succ d ih =>
    intro m last h
    unfold rrm
    cases hs : scan m (fst_ m.length last) m.length with
    | none => exact h
    | some i =>
      obtain ⟨hi, hc⟩ := scan_lt m _ _ i hs (Nat.le_refl _)
      exact ih _ _ (vl_set h hi hc)

theorem rounds_small {n : Int} (h0 : 0 ≤ n) (h1 : n ≤ 1024) : rounds_ n = n.toNat := by unfold rounds_ mn mx; (repeat' split) <;> omega

section
variable (l : List S23) (last a b : Int) (one two all : List Int) (at' end' : Int)
theorem splits_l1 (hl : l.length ≤ 40) (h1 : one.length = l.length) (h2 : two.length = l.length) (h3 : all.length = l.length) (hall : all = add one two) (hb : ∀ j, j < l.length → 0 ≤ one.getD j 0 ∧ one.getD j 0 ≤ 1099511627776 ∧ 0 ≤ two.getD j 0 ∧ two.getD j 0 ≤ 1099511627776) :
    ∀ d, d ≤ l.length → Ev (fun k => brokerlaw16_FlowSplits.l1 k l one two end' all end' ((l.length - d : Nat) : Int)) true := by
  intro d
  induction d with
  | zero =>
    intro _
    refine ev_succ ?_
    simp only [brokerlaw16_FlowSplits.l1]
    refine ev_neg (by omega) (ev_bind awake_ev ?_)
    simp only [if_true]
    exact ev_some (by simp)
  | succ d ih =>
    intro hd
    have hj := hb (l.length - (d + 1)) (by omega)
    refine ev_succ ?_
    simp only [brokerlaw16_FlowSplits.l1]
    refine ev_pos (by omega) (ev_pos (by omega) (ev_pos (by omega) (ev_pos (by omega) (ev_pos (by omega) (ev_pos ?_ ?_)))))
    · have e1 : rd one ((l.length - (d + 1) : Nat) : Int) = one.getD (l.length - (d + 1)) 0 := rfl
      have e2 : rd two ((l.length - (d + 1) : Nat) : Int) = two.getD (l.length - (d + 1)) 0 := rfl
      have e3 : rd all ((l.length - (d + 1) : Nat) : Int) = all.getD (l.length - (d + 1)) 0 := rfl
      rw [e1, e2, e3, hall, add_at (by omega), w64 (by omega) (by omega)]
    · rw [w64 (by omega) (by omega), show (((l.length - (d + 1) : Nat) : Int) + 1) = ((l.length - d : Nat) : Int) by omega]
      exact ih (by omega)

/-- The rest as far as it is made. -/
def Rest (m R : List S23) (i : Nat) : Prop := R.length = l.length ∧ ∀ j, j < l.length → at_ R j = if j < i then at_ m j else at_ l j
theorem splits_l0 (m : List S23) (hl : l.length ≤ 40) (hv : Vl l) (hi : Inv l m one) (x10 : Int)
    (h : Ev (fun k => (flow_Round.f k m x10 (wrap64 b)).bind fun bt286 => ((flow_Round.f k l last (wrap64 ((wrap64 a) + (wrap64 b)))).bind fun bt290 => (if (bt286.1.length : Int) = (l.length : Int) then (brokerlaw16_FlowSplits.j1 k l one bt286.1 bt286.2 bt290.1 bt290.2 ((bt290.1.length : Int) != (l.length : Int))) else (brokerlaw16_FlowSplits.j1 k l one bt286.1 bt286.2 bt290.1 bt290.2 true)))) true) :
    ∀ d, d ≤ l.length → ∀ R, Rest l m R (l.length - d) → Ev (fun k => brokerlaw16_FlowSplits.l0 k l last a b one x10 R ((l.length - d : Nat) : Int)) true := by
  have h1 := hi.lg
  have h2 := hi.lm
  intro d
  induction d with
  | zero =>
    intro _ R hR
    have e : R = m := by
      refine m_ext (by rw [hR.1, h2]) (fun j hj => ?_)
      rw [hR.2 j (by rw [← hR.1]; exact hj), if_pos (by have := hR.1; omega)]
    subst e
    refine ev_succ ?_
    simp only [brokerlaw16_FlowSplits.l0]
    exact ev_neg (by omega) h
  | succ d ih =>
    intro hd R hR
    have p := hi.pos (l.length - (d + 1)) (by omega)
    have t := hi.top (l.length - (d + 1)) (by omega)
    obtain ⟨e0, e1⟩ := hi.at0 (l.length - (d + 1)) (by omega)
    have v := hv (l.length - (d + 1)) (by omega)
    unfold Vd at v
    have tl : lft (at_ l (l.length - (d + 1))) ≤ 1099511627776 := by unfold lft; split <;> omega
    refine ev_succ ?_
    simp only [brokerlaw16_FlowSplits.l0]
    refine ev_pos (by omega) (ev_pos (by omega) (ev_pos (by omega) ?_))
    have r1 : rd one ((l.length - (d + 1) : Nat) : Int) = one.getD (l.length - (d + 1)) 0 := rfl
    have r2 : (((l.length - (d + 1) : Nat) : Int)).toNat = l.length - (d + 1) := rfl
    rw [rd_at, rd_at, r1, r2]
    refine ev_neg (by omega) (ev_const (left_ref (hv _ (by omega))) (ev_neg ?_ ?_))
    · show ¬ _ > lft (at_ l (l.length - (d + 1)))
      omega
    · refine ev_pos (by have := hR.1; omega) ?_
      have eR : at_ R (l.length - (d + 1)) = at_ l (l.length - (d + 1)) := by rw [hR.2 _ (by omega), if_neg (by omega)]
      rw [eR, w64 (by omega) (by omega), w64 (by omega) (by omega), show (((l.length - (d + 1) : Nat) : Int) + 1) = ((l.length - d : Nat) : Int) by omega]
      refine ih (by omega) _ ⟨by rw [List.length_set]; exact hR.1, fun j hj => ?_⟩
      rw [at_set _ _ _ _ (by have := hR.1; omega), hR.2 j hj]
      by_cases e : j = l.length - (d + 1)
      · subst e
        rw [if_pos rfl, if_pos (by omega)]
        show (⟨_, _⟩ : S23) = ⟨(at_ m (l.length - (d + 1))).f0, (at_ m (l.length - (d + 1))).f1⟩
        rw [e0, e1]
      · rw [if_neg e]
        by_cases e2 : j < l.length - (d + 1)
        · rw [if_pos e2, if_pos (by omega)]
        · rw [if_neg e2, if_neg (by omega)]
end

theorem FlowSplits (l : List S23) (last a b : Int) (ha : (Lit.int .u8 a).wf = true) (hb : (Lit.int .u8 b).wf = true) : ∃ k, brokerlaw16_FlowSplits.f k l last a b = some true := by
  have hxa : 0 ≤ a ∧ a ≤ 255 := by simpa [Lit.wf, IntKind.min, IntKind.max, IntKind.signed, IntKind.bits] using ha
  have hxb : 0 ≤ b ∧ b ≤ 255 := by simpa [Lit.wf, IntKind.min, IntKind.max, IntKind.signed, IntKind.bits] using hb
  suffices h : Ev (fun k => brokerlaw16_FlowSplits.f k l last a b) true from h.rounds
  simp only [brokerlaw16_FlowSplits.f]
  obtain ⟨c, hc, hall⟩ := valid_ev l
  refine ev_bind hc ?_
  cases c with
  | false => exact ev_ff (ev_bind awake_ev (ev_some rfl))
  | true =>
    obtain ⟨hl, hv⟩ := hall rfl
    simp only [if_true]
    have e1 := round_ev l last a (by omega) hv
    have inv := inv_rrm l (rounds_ a) l (List.replicate l.length 0) last (inv_zero l)
    have vm := vl_rrm (rounds_ a) l last hv
    have hadd := rr_add (rounds_ b) (rounds_ a) l (List.replicate l.length 0) last
    rw [w64 (by omega) (by omega)]
    refine ev_bind e1 ?_
    generalize rr (rounds_ a) l (List.replicate l.length 0) last = p1 at *
    generalize rrm (rounds_ a) l last = m at *
    obtain ⟨one, at'⟩ := p1
    dsimp only at inv hadd ⊢
    refine ev_pos (by have := inv.lg; omega) (ev_const rfl (ev_pos (by simp only [List.length_nil]; omega) ?_))
    have e2 := round_ev m at' b (by have := inv.lm; omega) vm
    have e3 := round_ev l last (a + b) (by omega) hv
    have hoff := rr_off one (rounds_ b) m (List.replicate m.length 0) at' (by rw [inv.lg, List.length_replicate, inv.lm]) (by simp)
    have hz : add one (List.replicate m.length 0) = one := by rw [inv.lm, ← inv.lg]; exact add_zero one
    rw [hz] at hoff
    rw [rounds_small (n := a + b) (by omega) (by omega), show (a + b).toNat = rounds_ a + rounds_ b by rw [rounds_small (n := a) (by omega) (by omega), rounds_small (n := b) (by omega) (by omega)]; omega, hadd, hoff] at e3
    obtain ⟨g2, l2, eg, hg2, hb2, _, _, _⟩ := round_law m at' (rounds_ b)
    have len2 := hg2.trans inv.lm
    rw [eg] at e2 e3
    dsimp only at e3
    have hlen : (add one g2).length = l.length := by rw [add_length (by rw [inv.lg, len2]), len2]
    have last_ : Ev (fun k => brokerlaw16_FlowSplits.l1 k l one g2 l2 (add one g2) l2 0) true := by
      have := splits_l1 l one g2 (add one g2) l2 hl inv.lg len2 hlen rfl (fun j hj => by
        have p := inv.pos j hj
        have t := inv.top j hj
        have q := hb2 j (by rw [inv.lm]; exact hj)
        have v := hv j hj
        have v2 := vm j (by rw [inv.lm]; exact hj)
        unfold Vd at v v2
        have t1 : lft (at_ l j) ≤ 1099511627776 := by unfold lft; split <;> omega
        have t2 : lft (at_ m j) ≤ 1099511627776 := by unfold lft; split <;> omega
        omega) l.length (Nat.le_refl _)
      rw [Nat.sub_self] at this
      exact this
    have := splits_l0 l last a b one m hl hv inv at' (by
      rw [w64 (x := a) (by omega) (by omega), w64 (x := b) (by omega) (by omega), w64 (by omega) (by omega)]
      refine ev_bind e2 (ev_bind e3 (ev_pos (by dsimp only; omega) ?_))
      dsimp only
      rw [show (((add one g2).length : Int) != (l.length : Int)) = false by rw [hlen]; simp]
      refine ev_succ ?_
      simp only [brokerlaw16_FlowSplits.j1]
      exact ev_ff last_) l.length (Nat.le_refl _) l ⟨rfl, fun j hj => by rw [if_neg (by omega)]⟩
    rw [Nat.sub_self] at this
    exact this
theorem FlowSplits' (l : List S23) {N : Nat} (_ : l.length ≤ N ∧ l.length ≤ maxLen ∧ ∀ x ∈ l, (Lit.int .i64 x.f0).wf = true ∧ (Lit.int .i64 x.f1).wf = true) (last : Int) (_ : (Lit.int .i64 last).wf = true) (a : Int) (ha : (Lit.int .u8 a).wf = true) (b : Int) (hb : (Lit.int .u8 b).wf = true) : ∃ k, brokerlaw16_FlowSplits.f k l last a b = some true := FlowSplits _ _ _ _ ha hb
end Go.Proofs.Ytdaleecijlemhaa.Pure
