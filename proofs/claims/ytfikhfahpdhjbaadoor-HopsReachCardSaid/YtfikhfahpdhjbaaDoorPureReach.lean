/- HopsReach, plain: the loops of joined and of the law itself over what PureGraph says. -/
import Derived.Test.YtfikhfahpdhjbaaDoorPx24
import Derived.Test.YtfikhfahpdhjbaaDoorPx25
import Derived.Test.YtfikhfahpdhjbaaDoorPx5
import Derived.Test.YtfikhfahpdhjbaaDoorPureFl
import Derived.Test.YtfikhfahpdhjbaaDoorPureAw
import Derived.Test.YtfikhfahpdhjbaaDoorPureGraph
-- needs: brokerlaw46_HopsReach brokerlaw46_joined hops_Flood
namespace Go.Proofs.YtfikhfahpdhjbaaDoor.Pure
open Go.RowKit Go.Proofs.YtfikhfahpdhjbaaDoor.P Go.Proofs.YtfikhfahpdhjbaaDoorW.PrintWords Go.Proofs.YtfikhfahpdhjbaaDoorW.PrintLast Go.Proofs.YtfikhfahpdhjbaaDoor.Ext

theorem cntB_P (l : S48) (n : Int) : cntB l n = cntP n (pr l) := by
  unfold cntB cntP Fl.insideB pr
  simp only [Bool.and_assoc]
theorem pr_at (links : List S48) (j : Nat) (h : j < links.length) : (links.map pr).getD j (0, 0) = pr (rd_T48 links (j : Int)) := by
  show _ = pr (links.getD j z48)
  rw [List.getD_eq_getElem?_getD, List.getElem?_map, List.getD_eq_getElem?_getD, List.getElem?_eq_getElem h]
  rfl
theorem ats_rd (s : List Bool) (v : Int) : rdOf false s v = ats s v := rfl

/-- The inner loop of joined. -/
theorem joined_l1 (links : List S48) (hL : links.length ≤ 60) (n : Int) (s0 : List Bool) (hs : (s0.length : Int) = n) (x8 : Int) (r : List Bool)
    (hgo : Ev (fun k => brokerlaw46_joined.l0 k links n (mergeN n (links.map pr) s0 links.length) (wrap64 (x8 + 1))) r) :
    ∀ d j : Nat, j + d = links.length → Ev (fun k => brokerlaw46_joined.l1 k links n (mergeN n (links.map pr) s0 j) x8 (j : Int)) r := by
  intro d
  induction d with
  | zero =>
    intro j hj
    refine ev_succ ?_
    simp only [brokerlaw46_joined.l1]
    refine ev_neg (by omega) ?_
    rw [show j = links.length from by omega]
    exact hgo
  | succ d ih =>
    intro j hj
    refine ev_succ ?_
    simp only [brokerlaw46_joined.l1]
    refine ev_pos (by omega) (ev_pos (by omega) (ev_const (counts_val _ n) ?_))
    rw [up1 j (by omega)]
    have ih' := ih (j + 1) (by omega)
    have hlen : ((mergeN n (links.map pr) s0 j).length : Int) = n := by rw [mergeN_len]; exact hs
    have hstep : mergeN n (links.map pr) s0 (j + 1) = merge1 n (mergeN n (links.map pr) s0 j) (pr (rd_T48 links (j : Int))) := by
      rw [← pr_at links j (by omega)]
      rfl
    rw [hstep] at ih'
    generalize mergeN n (links.map pr) s0 j = s at hlen ih'
    generalize rd_T48 links (j : Int) = l at ih'
    unfold merge1 at ih'
    rw [cntB_P]
    cases hc : cntP n (pr l) with
    | false =>
      rw [if_neg (by rw [hc]; simp)] at ih'
      exact ev_ff ih'
    | true =>
      obtain ⟨h0, h1, h2⟩ := (cntP_iff n (pr l)).1 hc
      have a0 : 0 ≤ l.f0 ∧ l.f0 < n := h0
      have a1 : 0 ≤ l.f1 ∧ l.f1 < n := h1
      refine ev_tt (ev_pos a0.1 (ev_pos (by omega) ?_))
      by_cases b0 : rdOf false s l.f0 = true
      · rw [if_pos ⟨hc, .inl b0⟩] at ih'
        exact ev_pos b0 (ev_pos a1.1 (ev_pos (by omega) ih'))
      · refine ev_neg b0 (ev_pos a1.1 (ev_pos (by omega) ?_))
        by_cases b1 : rdOf false s l.f1 = true
        · rw [if_pos ⟨hc, .inr b1⟩] at ih'
          exact ev_pos b1 ih'
        · rw [if_neg (fun e => e.2.elim b0 b1)] at ih'
          exact ev_neg b1 ih'
theorem joined_l0 (links : List S48) (hL : links.length ≤ 60) (m : Nat) (hm : m ≤ 1000000) (s0 : List Bool) (hs : s0.length = m) : ∀ d j : Nat, j + d = m → Ev (fun k => brokerlaw46_joined.l0 k links (m : Int) (rounds (m : Int) (links.map pr) s0 j) (j : Int)) (rounds (m : Int) (links.map pr) s0 m) := by
  intro d
  induction d with
  | zero =>
    intro j hj
    refine ev_succ ?_
    simp only [brokerlaw46_joined.l0]
    refine ev_neg (by omega) (ev_some ?_)
    rw [show j = m from by omega]
  | succ d ih =>
    intro j hj
    refine ev_succ ?_
    simp only [brokerlaw46_joined.l0]
    refine ev_pos (by omega) ?_
    have h := ih (j + 1) (by omega)
    have hr : rounds (m : Int) (links.map pr) s0 (j + 1) = mergeN (m : Int) (links.map pr) (rounds (m : Int) (links.map pr) s0 j) links.length := by
      show mergeN (m : Int) (links.map pr) (rounds (m : Int) (links.map pr) s0 j) (links.map pr).length = _
      rw [List.length_map]
    rw [hr, ← up1 j (by omega)] at h
    exact joined_l1 links hL (m : Int) _ (by rw [rounds_len]; omega) (j : Int) _ h links.length 0 (by omega)
def first (m : Nat) (a : Nat) : List Bool := (List.replicate m false).set a true
theorem joined_ev (links : List S48) (hL : links.length ≤ 60) (m a : Nat) (hm : m ≤ 1000000) (ha : a < m) : Ev (fun k => brokerlaw46_joined.f k links (m : Int) (a : Int)) (rounds (m : Int) (links.map pr) (first m a) m) := by
  simp only [brokerlaw46_joined.f]
  refine ev_pos (by omega) (ev_pos (by omega) ?_)
  show Ev (fun k => if (0 : Int) ≤ (a : Int) then (if (a : Int) < ((List.replicate m false).length : Int) then brokerlaw46_joined.l0 k links (m : Int) (first m a) 0 else none) else none) _
  refine ev_pos (by omega) (ev_pos (by rw [List.length_replicate]; omega) ?_)
  exact joined_l0 links hL m hm (first m a) (by unfold first; rw [List.length_set, List.length_replicate]) m 0 (by omega)
theorem first_at (m a : Nat) (ha : a < m) (j : Nat) : (first m a).getD j false = true ↔ (j : Int) = (a : Int) := by
  unfold first
  rw [get_set_true, List.length_replicate, List.getD_eq_getElem?_getD, List.getElem?_replicate]
  constructor
  · rintro (h | ⟨h, _⟩)
    · split at h <;> cases h
    · omega
  · intro h
    exact .inr ⟨by omega, by omega⟩

/-! ### The law's own loops -/
/-- The nodes that are reached come once each, and are in. -/
theorem reach_l0 (links : List S48) (a n : Int) (l : List Int) (sent : Int) (s : List Bool) (hl : l.length ≤ 1000000) (hn : (s.length : Int) = n) (hnd : l.Nodup) (hin : ∀ v ∈ l, (0 ≤ v ∧ v < n) ∧ rdOf false s v = true) (r : Bool)
    (hgo : Ev (fun k => brokerlaw46_HopsReach.l1 k links a n l sent s 0 0 0) r) :
    ∀ (d i : Nat) (seen : List Bool), i + d = l.length → (seen.length : Int) = n → (∀ v : Int, 0 ≤ v → rdOf false seen v = true → v ∈ l.take i) → Ev (fun k => brokerlaw46_HopsReach.l0 k links a n l sent s seen (i : Int)) r := by
  intro d
  induction d with
  | zero =>
    intro i seen hi hs hv
    refine ev_succ ?_
    simp only [brokerlaw46_HopsReach.l0]
    exact ev_neg (by omega) hgo
  | succ d ih =>
    intro i seen hi hs hv
    have hlt : i < l.length := by omega
    have hrd : rd l (i : Int) = l[i] := by
      show l.getD i 0 = _
      rw [List.getD_eq_getElem?_getD, List.getElem?_eq_getElem hlt]
      rfl
    obtain ⟨⟨h0, h1⟩, h2⟩ := hin l[i] (List.getElem_mem hlt)
    refine ev_succ ?_
    simp only [brokerlaw46_HopsReach.l0]
    rw [hrd]
    refine ev_pos (by omega) (ev_pos (by omega) (ev_neg (by omega) (ev_neg (by omega) (ev_pos h0 (ev_pos (by omega) (ev_pos h2 (ev_pos (by omega) (ev_neg (fun e => ?_) ?_))))))))
    · have hm := hv _ h0 e
      obtain ⟨j, hj, e2⟩ := List.mem_iff_getElem.1 hm
      rw [List.length_take] at hj
      rw [List.getElem_take] at e2
      exact (List.pairwise_iff_getElem.1 hnd) j i (by omega) hlt (by omega) e2
    · rw [up1 i (by omega)]
      refine ih (i + 1) _ (by omega) (by rw [List.length_set]; exact hs) (fun v hv0 hvs => ?_)
      have hvs' : (seen.set (l[i]).toNat true).getD v.toNat false = true := hvs
      rw [List.take_succ_eq_append_getElem hlt]
      rcases (get_set_true _ _ _).1 hvs' with h | ⟨h, _⟩
      · exact List.mem_append_left _ (hv v hv0 h)
      · exact List.mem_append_right _ (List.mem_singleton.2 (by omega))
theorem reach_l1 (links : List S48) (a : Int) (m : Nat) (hm : m ≤ 1000000) (l : List Int) (sent : Int) (s : List Bool) (hs : s.length = m) (r : Bool)
    (hgo : Ev (fun k => brokerlaw46_HopsReach.l2 k links a (m : Int) l sent s (manyN s m : Int) 0 0) r) :
    ∀ d i : Nat, i + d = m → Ev (fun k => brokerlaw46_HopsReach.l1 k links a (m : Int) l sent s (manyN s i : Int) 0 (i : Int)) r := by
  intro d
  induction d with
  | zero =>
    intro i hi
    refine ev_succ ?_
    simp only [brokerlaw46_HopsReach.l1]
    rw [show i = m from by omega]
    exact ev_neg (by omega) hgo
  | succ d ih =>
    intro i hi
    have hle : manyN s i ≤ i := by
      rw [manyN_filter]
      have := List.length_filter_le (fun j => s.getD j false) (List.range i)
      rw [List.length_range] at this
      exact this
    have ih' := ih (i + 1) (by omega)
    have hst : manyN s (i + 1) = manyN s i + (if s.getD i false = true then 1 else 0) := rfl
    have hrd : rdOf false s (i : Int) = s.getD i false := rfl
    refine ev_succ ?_
    simp only [brokerlaw46_HopsReach.l1]
    refine ev_pos (by omega) (ev_pos (by omega) (ev_pos (by omega) ?_))
    rw [up1 i (by omega), up1 (manyN s i) (by omega)]
    by_cases h : rdOf false s (i : Int) = true
    · rw [hst, if_pos (hrd ▸ h)] at ih'
      exact ev_pos h ih'
    · rw [hst, if_neg (hrd ▸ h)] at ih'
      exact ev_neg h ih'
theorem insN_le (n : Int) (links : List (Int × Int)) (I : Int → Bool) : ∀ i, insN n links I i ≤ i
  | 0 => Nat.le_refl _
  | i + 1 => by
    have := insN_le n links I i
    show insN n links I i + _ ≤ _
    split <;> omega
theorem insN_congr (n : Int) (links : List (Int × Int)) (I J : Int → Bool) (h : ∀ l, cntP n l = true → I l.1 = J l.1) : ∀ i, insN n links I i = insN n links J i
  | 0 => rfl
  | i + 1 => by
    show insN n links I i + (if cntP n (links.getD i (0, 0)) = true ∧ I (links.getD i (0, 0)).1 = true then 1 else 0) = insN n links J i + (if cntP n (links.getD i (0, 0)) = true ∧ J (links.getD i (0, 0)).1 = true then 1 else 0)
    rw [insN_congr n links I J h i]
    congr 1
    by_cases hc : cntP n (links.getD i (0, 0)) = true
    · simp only [h _ hc]
    · rw [if_neg (fun e => hc e.1), if_neg (fun e => hc e.1)]
theorem reach_l2 (links : List S48) (hL : links.length ≤ 60) (a n : Int) (l : List Int) (sent : Int) (s : List Bool) (hs : (s.length : Int) = n) (many : Int)
    (h1 : (l.length : Int) = many) (h2 : 0 < l.length) (h3 : rd l 0 = a) (h4 : sent = 2 * (insN n (links.map pr) (ats s) links.length : Int) - many + 1) (hb : many ≤ 1000000) :
    ∀ d i : Nat, i + d = links.length → Ev (fun k => brokerlaw46_HopsReach.l2 k links a n l sent s many (insN n (links.map pr) (ats s) i : Int) (i : Int)) true := by
  intro d
  induction d with
  | zero =>
    intro i hi
    obtain rfl : i = links.length := by omega
    have hle := insN_le n (links.map pr) (ats s) links.length
    refine ev_succ ?_
    simp only [brokerlaw46_HopsReach.l2]
    refine ev_neg (by omega) (ev_bind awake_ev (ev_tt (ev_pos h1 (ev_pos (by omega) (ev_pos h3 (ev_some ?_))))))
    congr 1
    rw [beq_iff_eq, h4]
    generalize insN n (links.map pr) (ats s) links.length = q at hle
    rw [w64 (x := 2 * (q : Int)) (by omega) (by omega), w64 (x := 2 * (q : Int) - many) (by omega) (by omega), w64 (x := 2 * (q : Int) - many + 1) (by omega) (by omega)]
  | succ d ih =>
    intro i hi
    have hle := insN_le n (links.map pr) (ats s) i
    have ih' := ih (i + 1) (by omega)
    have hst : insN n (links.map pr) (ats s) (i + 1) = insN n (links.map pr) (ats s) i + (if cntP n (pr (rd_T48 links (i : Int))) = true ∧ ats s (pr (rd_T48 links (i : Int))).1 = true then 1 else 0) := by
      rw [← pr_at links i (by omega)]
      rfl
    rw [hst] at ih'
    refine ev_succ ?_
    simp only [brokerlaw46_HopsReach.l2]
    refine ev_pos (by omega) (ev_pos (by omega) (ev_const (counts_val _ n) ?_))
    rw [up1 i (by omega), cntB_P, up1 (insN n (links.map pr) (ats s) i) (by omega)]
    generalize rd_T48 links (i : Int) = x at ih'
    cases hc : cntP n (pr x) with
    | false =>
      rw [if_neg (by rw [hc]; simp)] at ih'
      exact ev_ff ih'
    | true =>
      obtain ⟨h0, _, _⟩ := (cntP_iff n (pr x)).1 hc
      have a0 : 0 ≤ x.f0 ∧ x.f0 < n := h0
      refine ev_tt (ev_pos a0.1 (ev_pos (by omega) ?_))
      by_cases b0 : rdOf false s x.f0 = true
      · rw [if_pos ⟨hc, b0⟩] at ih'
        exact ev_pos b0 ih'
      · rw [if_neg (fun e => b0 e.2)] at ih'
        exact ev_neg b0 ih'
/-- What Flood gives, and that what it gives is what PureGraph speaks of. -/
theorem flood_ev (links : List S48) (hL : links.length ≤ 60) (nodes a : Int) (h : 0 ≤ a ∧ a < Fl.clampN nodes) : ∃ (k : Nat) (r : List Int × List (Int × Int)), Fl.flood (Fl.clampN nodes) (links.map pr) k 0 ([], [(a, -1)]) = some r ∧ r.1.length ≤ 1921 ∧ r.2.length ≤ 1921 ∧ Ev (fun k => hops_Flood.f k links nodes a) (r.1, (r.2.length : Int) - 1) := by
  obtain ⟨n0, n1⟩ := clamp_in nodes
  have hin : Fl.insideB (Fl.clampN nodes) a = true := by
    unfold Fl.insideB
    rw [decide_eq_true h.1, decide_eq_true h.2]
    rfl
  have hrep : frees (List.replicate (Fl.clampN nodes).toNat false) = (Fl.clampN nodes).toNat := by
    unfold frees
    rw [List.count_replicate_self]
  have hmul : (Fl.clampN nodes).toNat * links.length ≤ 32 * 60 := Nat.mul_le_mul (by omega) hL
  obtain ⟨r, ⟨k, hk⟩, hr2, hr1, _⟩ := flood_both links hL (Fl.clampN nodes) _ (List.replicate (Fl.clampN nodes).toNat false) [] [⟨a, -1⟩] 0 (Nat.le_refl _) (Nat.zero_le _) (by rw [List.length_replicate]; omega) (Nat.zero_le _) (by rw [hrep]; show 1 + _ ≤ _; omega)
    (fun x hx => by rw [List.mem_singleton.1 hx]; exact h) (fun v hv => by rw [List.getD_eq_getElem?_getD, List.getElem?_replicate]; split <;> rfl)
  have hk' : Fl.flood (Fl.clampN nodes) (links.map pr) k 0 ([], [(a, -1)]) = some r := hk
  refine ⟨k, r, hk', hr1, hr2, Ev.of (fun k => hops_Flood.mono _ _ _ k) (k := k) ?_⟩
  show Fl.floodF k (links.map pr) nodes a = _
  unfold Fl.floodF
  rw [hin, if_pos rfl, if_pos (by rw [List.length_map]; omega), hk']
  exact if_pos (by show r.2.length ≤ 1000000; omega)
theorem HopsReach' (links : List S48) {N : Nat} (_ : links.length ≤ N ∧ links.length ≤ maxLen ∧ ∀ x ∈ links, (Lit.int .i64 x.f0).wf = true ∧ (Lit.int .i64 x.f1).wf = true) (nodes : Int) (_ : (Lit.int .i64 nodes).wf = true) (a : Int) (_ : (Lit.int .i64 a).wf = true) : ∃ k, brokerlaw46_HopsReach.f k links nodes a = some true := by
  suffices h : Ev (fun k => brokerlaw46_HopsReach.f k links nodes a) true from h.rounds
  simp only [brokerlaw46_HopsReach.f]
  by_cases h60 : (links.length : Int) > 60
  · exact ev_pos h60 (ev_bind awake_ev (ev_some rfl))
  refine ev_neg h60 (ev_const (nodes_val nodes) ?_)
  have hL : links.length ≤ 60 := by omega
  obtain ⟨n0, n1⟩ := clamp_in nodes
  by_cases h : 0 ≤ a ∧ a < Fl.clampN nodes
  · obtain ⟨k, r, hk, hr1, hr2, hev⟩ := flood_ev links hL nodes a h
    refine ev_bind hev (ev_neg (by omega) ?_)
    rw [decide_eq_false (by omega)]
    obtain ⟨⟨t, ht⟩, hnd, hrng, hcl, hleast, heq⟩ := flood_says h.1 h.2 hk
    generalize hn : Fl.clampN nodes = n at *
    obtain ⟨m, rfl⟩ : ∃ m : Nat, n = (m : Int) := ⟨n.toNat, by omega⟩
    obtain ⟨b, rfl⟩ : ∃ b : Nat, a = (b : Int) := ⟨a.toNat, by omega⟩
    have hfl : (first m b).length = m := by unfold first; rw [List.length_set, List.length_replicate]
    have hiff := joined_iff (n := (m : Int)) (links := links.map pr) (start := (b : Int)) (s := first m b) (by rw [hfl]) h.1 (first_at m b (by omega)) hcl hleast (by rw [ht]; exact List.mem_cons_self)
    rw [hfl] at hiff
    have hsl : (rounds (m : Int) (links.map pr) (first m b) m).length = m := by rw [rounds_len]; exact hfl
    refine ev_succ ?_
    simp only [brokerlaw46_HopsReach.j0]
    refine ev_ff (ev_bind (joined_ev links hL m b (by omega) (by omega)) (ev_pos (by omega) (ev_pos (by omega) ?_)))
    generalize hS : rounds (m : Int) (links.map pr) (first m b) m = s at hiff hsl
    have hmem : ∀ v : Int, v ∈ r.1 ↔ (0 ≤ v ∧ v < (m : Int) ∧ ats s v = true) := fun v =>
      ⟨fun hv => ⟨(hrng v hv).1, (hrng v hv).2, (hiff v (hrng v hv).1).2 hv⟩, fun hv => (hiff v hv.1).1 hv.2.2⟩
    have hmany := many_out s m r.1 hnd hmem
    -- a total test of membership
    have hdeg := sum_deg (m : Int) (links.map pr) r.1 hnd hcl (fun v => decide (v ∈ r.1)) (fun v => decide_eq_true_iff) links.length (by rw [List.length_map]; exact Nat.le_refl _)
    have hins : ∀ i, insN (m : Int) (links.map pr) (fun v => decide (v ∈ r.1)) i = insN (m : Int) (links.map pr) (ats s) i := insN_congr _ _ _ _ fun l hc => by
      obtain ⟨c0, _, _⟩ := (cntP_iff _ _).1 hc
      cases hv : ats s l.1 with
      | true => exact decide_eq_true ((hmem _).2 ⟨c0.1, c0.2, hv⟩)
      | false => exact decide_eq_false (fun hm => by have := ((hmem _).1 hm).2.2; rw [hv] at this; cases this)
    have hpos : 1 ≤ r.1.length := by rw [ht]; simp
    refine reach_l0 links (b : Int) (m : Int) r.1 ((r.2.length : Int) - 1) s (by omega) (by omega) hnd (fun v hv => ⟨hrng v hv, ((hmem v).1 hv).2.2⟩) true ?_ r.1.length 0 _ (by omega) (by rw [List.length_replicate]; omega) ?_
    · refine reach_l1 links (b : Int) m (by omega) r.1 _ s hsl true ?_ m 0 (by omega)
      refine reach_l2 links hL (b : Int) (m : Int) r.1 _ s (by omega) (manyN s m : Int) (by rw [hmany]) (by omega) (by rw [ht]; rfl) ?_ (by rw [hmany]; omega) links.length 0 (by omega)
      rw [List.length_map, hdeg, hins] at heq
      rw [hmany]
      omega
    · intro v hv0 hvs
      exfalso
      have hvs' : (List.replicate (m : Int).toNat false).getD v.toNat false = true := hvs
      rw [List.getD_eq_getElem?_getD, List.getElem?_replicate] at hvs'
      split at hvs' <;> cases hvs'
  · have hin : Fl.insideB (Fl.clampN nodes) a = false := by
      unfold Fl.insideB
      rw [← Bool.decide_and]
      exact decide_eq_false h
    have hev : Ev (fun k => hops_Flood.f k links nodes a) ([], 0) := by
      refine ⟨0, fun k _ => ?_⟩
      show Fl.floodF k (links.map pr) nodes a = _
      unfold Fl.floodF
      rw [hin]
      rfl
    have e : Ev (fun k => brokerlaw46_HopsReach.j0 k links a (Fl.clampN nodes) [] 0 true) true := by
      refine ev_succ ?_
      simp only [brokerlaw46_HopsReach.j0]
      exact ev_bind awake_ev (ev_tt (ev_pos rfl (ev_some rfl)))
    refine ev_bind hev ?_
    by_cases ha : a < 0
    · exact ev_pos ha e
    · refine ev_neg ha ?_
      rw [decide_eq_true (by omega)]
      exact e
end Go.Proofs.YtfikhfahpdhjbaaDoor.Pure
