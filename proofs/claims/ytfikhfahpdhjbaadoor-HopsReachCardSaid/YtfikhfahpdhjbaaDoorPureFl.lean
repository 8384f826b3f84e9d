/- hops.Flood and the specification's: what they give is the same. -/
import Derived.Test.YtfikhfahpdhjbaaDoorPx22
import Derived.Test.YtfikhfahpdhjbaaDoorPx5
import Derived.Test.YtfikhfahpdhjbaaDoorPx6
import Derived.Test.YtfikhfahpdhjbaaDoorStr
-- needs: brokerref46_Flood brokerref13_Ints hops_Flood
namespace Go.Proofs.YtfikhfahpdhjbaaDoor.Pure
open Go.RowKit Go.Proofs.YtfikhfahpdhjbaaDoor.P Go.Proofs.YtfikhfahpdhjbaaDoorW.PrintWords Go.Proofs.YtfikhfahpdhjbaaDoorW.PrintLast Go.Proofs.YtfikhfahpdhjbaaDoor.Ext

def pr (l : S48) : Int × Int := (l.f0, l.f1)
def pw (x : S74) : Int × Int := (x.f0, x.f1)
theorem up1 (i : Nat) (h : i ≤ 1000000) : wrap64 ((i : Int) + 1) = ((i + 1 : Nat) : Int) := by
  unfold wrap64
  omega

/-! ### one's own lists -/
theorem ints_ev (l : List Int) (h : l.length ≤ 1000000) : Ev (fun k => brokerref13_Ints.f k l l) true := by
  simp only [brokerref13_Ints.f]
  refine ev_pos trivial ?_
  have : ∀ d i : Nat, i + d = l.length → Ev (fun k => brokerref13_Ints.l0 k l l (i : Int)) true := by
    intro d
    induction d with
    | zero =>
      intro i hi
      refine ev_succ ?_
      simp only [brokerref13_Ints.l0]
      exact ev_neg (by omega) (ev_some rfl)
    | succ d ih =>
      intro i hi
      refine ev_succ ?_
      simp only [brokerref13_Ints.l0]
      refine ev_pos (by omega) (ev_pos (by omega) (ev_pos (by omega) (ev_pos trivial ?_)))
      rw [up1 i (by omega)]
      exact ih (i + 1) (by omega)
  exact this l.length 0 (by omega)

/-! ### what counts -/
def cntB (l : S48) (n : Int) : Bool := decide (0 ≤ l.f0) && decide (l.f0 < n) && decide (0 ≤ l.f1) && decide (l.f1 < n) && decide (l.f0 ≠ l.f1)
theorem counts_val (l : S48) (n : Int) : brokerref46_Counts.f l.f0 l.f1 n = some (cntB l n) := by
  unfold brokerref46_Counts.f cntB
  by_cases h0 : 0 ≤ l.f0
  · rw [if_pos h0, decide_eq_true h0]
    by_cases h1 : l.f0 < n
    · rw [if_pos h1, decide_eq_true h1]
      by_cases h2 : 0 ≤ l.f1
      · rw [if_pos h2, decide_eq_true h2]
        by_cases h3 : l.f1 < n
        · rw [if_pos h3, decide_eq_true h3]
          by_cases h4 : l.f0 = l.f1
          · rw [decide_eq_false (by simpa using h4)]
            congr 1
            simpa using h4
          · rw [decide_eq_true h4]
            congr 1
            simpa using h4
        · rw [if_neg h3, decide_eq_false h3]
          simp
      · rw [if_neg h2, decide_eq_false h2]
        simp
    · rw [if_neg h1, decide_eq_false h1]
      simp
  · rw [if_neg h0, decide_eq_false h0]
    simp
def otherI (l : S48) (m : Int) : Int := if l.f0 = m then l.f1 else if l.f1 = m then l.f0 else -1
theorem other_val (l : S48) (m : Int) : brokerref46_other.f l.f0 l.f1 m = some (otherI l m) := by
  unfold brokerref46_other.f otherI
  split
  · rfl
  · split <;> rfl
/-- What a node sends over a link: the two texts say the same. -/
theorem send_same (n : Int) (x : S74) (i : Nat) (l : S48) :
    Fl.sendOne n (pw x) i (pr l) = if (i : Int) = x.f1 then [] else if cntB l n = true then (if otherI l x.f0 ≥ 0 then [(otherI l x.f0, (i : Int))] else []) else [] := by
  unfold Fl.sendOne cntB otherI Fl.insideB pw pr
  dsimp only
  by_cases h : (i : Int) = x.f1
  · rw [if_pos h, if_pos h]
  · rw [if_neg h, if_neg h]
    by_cases h1 : l.f0 = l.f1
    · rw [if_pos h1]
      simp [h1]
    · rw [if_neg h1]
      by_cases h2 : 0 ≤ l.f0 ∧ l.f0 < n
      · have i0 : (decide (0 ≤ l.f0) && decide (l.f0 < n)) = true := by rw [decide_eq_true h2.1, decide_eq_true h2.2]; rfl
        by_cases h3 : 0 ≤ l.f1 ∧ l.f1 < n
        · have i1 : (decide (0 ≤ l.f1) && decide (l.f1 < n)) = true := by rw [decide_eq_true h3.1, decide_eq_true h3.2]; rfl
          have hc : (decide (0 ≤ l.f0) && decide (l.f0 < n) && decide (0 ≤ l.f1) && decide (l.f1 < n) && decide (l.f0 ≠ l.f1)) = true := by rw [decide_eq_true h2.1, decide_eq_true h2.2, decide_eq_true h3.1, decide_eq_true h3.2, decide_eq_true h1]; rfl
          rw [hc, i0, i1, if_neg (by decide), if_neg (by decide), if_pos rfl]
          by_cases h4 : x.f0 = l.f0
          · rw [if_pos h4, if_pos h4.symm, if_pos h3.1]
          · rw [if_neg h4, if_neg (show ¬ l.f0 = x.f0 from fun e => h4 e.symm)]
            by_cases h5 : x.f0 = l.f1
            · rw [if_pos h5, if_pos h5.symm, if_pos h2.1]
            · rw [if_neg h5, if_neg (show ¬ l.f1 = x.f0 from fun e => h5 e.symm), if_neg (by decide)]
        · have i1 : (decide (0 ≤ l.f1) && decide (l.f1 < n)) = false := by rw [← Bool.decide_and]; exact decide_eq_false h3
          have hc : (decide (0 ≤ l.f0) && decide (l.f0 < n) && decide (0 ≤ l.f1) && decide (l.f1 < n) && decide (l.f0 ≠ l.f1)) = false := by
            refine Bool.eq_false_iff.2 fun e => h3 ?_
            simp only [Bool.and_eq_true, decide_eq_true_eq] at e
            exact ⟨e.1.1.2, e.1.2⟩
          rw [hc, i0, i1, if_neg (by decide), if_pos rfl, if_neg (by decide)]
      · have i0 : (decide (0 ≤ l.f0) && decide (l.f0 < n)) = false := by rw [← Bool.decide_and]; exact decide_eq_false h2
        have hc : (decide (0 ≤ l.f0) && decide (l.f0 < n) && decide (0 ≤ l.f1) && decide (l.f1 < n) && decide (l.f0 ≠ l.f1)) = false := by
          refine Bool.eq_false_iff.2 fun e => h2 ?_
          simp only [Bool.and_eq_true, decide_eq_true_eq] at e
          exact ⟨e.1.1.1.1, e.1.1.1.2⟩
        rw [hc, i0, if_pos rfl, if_neg (by decide)]

/-! ### how many are not reached -/
def frees (s : List Bool) : Nat := s.count false
theorem frees_set : ∀ (s : List Bool) (i : Nat), s[i]? = some false → frees (s.set i true) + 1 = frees s
  | [], i, h => by cases h
  | b :: s, 0, h => by
    have : b = false := Option.some.inj h
    subst this
    show (true :: s).count false + 1 = (false :: s).count false
    rw [List.count_cons, List.count_cons]
    simp
  | b :: s, i + 1, h => by
    have ih := frees_set s i h
    show (b :: s.set i true).count false + 1 = (b :: s).count false
    unfold frees at ih
    rw [List.count_cons, List.count_cons]
    omega
theorem frees_le (s : List Bool) : frees s ≤ s.length := List.count_le_length

/-- The inner loop: what a node sends is put behind the way. -/
theorem send_l1 (links : List S48) (hL : links.length ≤ 60) (n : Int) (seen : List Bool) (out : List Int) (way : List S74) (i : Nat) (hi : i < way.length) (hw : way.length + links.length ≤ 1000000) (r : List Int × Int) :
    ∀ (d j : Nat) (acc : List S74), j + d = links.length → acc.map pw = Fl.sendN n (pw (way.getD i z74)) (links.map pr) j →
      (∀ acc' : List S74, acc'.map pw = Fl.sendN n (pw (way.getD i z74)) (links.map pr) links.length → Ev (fun k => brokerref46_Flood.l0 k links n seen out (((way ++ acc').length : Int) - 1) (way ++ acc') ((i + 1 : Nat) : Int)) r) →
      Ev (fun k => brokerref46_Flood.l1 k links n seen out (((way ++ acc).length : Int) - 1) (way ++ acc) (i : Int) (way.getD i z74).f0 (j : Int)) r := by
  intro d
  induction d with
  | zero =>
    intro j acc hj hacc hgo
    refine ev_succ ?_
    simp only [brokerref46_Flood.l1]
    refine ev_neg (by omega) ?_
    rw [up1 i (by omega)]
    exact hgo acc (by rw [hacc, show j = links.length from by omega])
  | succ d ih =>
    intro j acc hj hacc hgo
    have hlen := Fl.sendN_len n (pw (way.getD i z74)) (links.map pr) j
    rw [← hacc, List.length_map] at hlen
    have hrd : rd_T74 (way ++ acc) (i : Int) = way.getD i z74 := by
      show (way ++ acc).getD i z74 = way.getD i z74
      rw [List.getD_eq_getElem?_getD, List.getD_eq_getElem?_getD, List.getElem?_append_left hi]
    have hrl : rd_T48 links (j : Int) = links.getD j z48 := rfl
    have hgl : (links.map pr).getD j (0, 0) = pr (links.getD j z48) := by
      rw [List.getD_eq_getElem?_getD, List.getElem?_map, List.getD_eq_getElem?_getD, List.getElem?_eq_getElem (by omega)]
      rfl
    have hnx : Fl.sendN n (pw (way.getD i z74)) (links.map pr) (j + 1) = Fl.sendN n (pw (way.getD i z74)) (links.map pr) j ++ Fl.sendOne n (pw (way.getD i z74)) j (pr (links.getD j z48)) := by rw [← hgl]; rfl
    rw [send_same] at hnx
    refine ev_succ ?_
    simp only [brokerref46_Flood.l1]
    rw [hrd, hrl]
    have hal : (way ++ acc).length = way.length + acc.length := List.length_append
    refine ev_pos (by omega) (ev_pos (by omega) (ev_pos (by omega) ?_))
    rw [up1 j (by omega)]
    by_cases h1 : (j : Int) = (way.getD i z74).f1
    · rw [if_pos h1, List.append_nil] at hnx
      exact ev_pos h1 (ih (j + 1) acc (by omega) (hacc.trans hnx.symm) hgo)
    · rw [if_neg h1] at hnx
      refine ev_neg h1 (ev_pos (by omega) (ev_const (counts_val _ n) ?_))
      cases h2 : cntB (links.getD j z48) n with
      | false =>
        rw [h2, if_neg (by decide), List.append_nil] at hnx
        exact ev_ff (ih (j + 1) acc (by omega) (hacc.trans hnx.symm) hgo)
      | true =>
        rw [h2, if_pos rfl] at hnx
        refine ev_tt (ev_const (other_val _ _) ?_)
        by_cases h3 : otherI (links.getD j z48) (way.getD i z74).f0 ≥ 0
        · rw [if_pos h3] at hnx
          refine ev_pos h3 (ev_const (other_val _ _) (ev_pos (by omega) ?_))
          have e1 : wrap64 (((way ++ acc).length : Int) - 1 + 1) = ((way ++ (acc ++ [(⟨otherI (links.getD j z48) (way.getD i z74).f0, (j : Int)⟩ : S74)])).length : Int) - 1 := by
            simp only [List.length_append, List.length_cons, List.length_nil]
            unfold wrap64
            omega
          rw [e1, List.append_assoc]
          refine ih (j + 1) (acc ++ [⟨otherI (links.getD j z48) (way.getD i z74).f0, (j : Int)⟩]) (by omega) ?_ hgo
          rw [List.map_append, hacc, hnx]
          rfl
        · rw [if_neg h3, List.append_nil] at hnx
          exact ev_neg h3 (ih (j + 1) acc (by omega) (hacc.trans hnx.symm) hgo)

theorem sendOne_in (n : Int) (x : Int × Int) (i : Nat) (l : Int × Int) : ∀ p ∈ Fl.sendOne n x i l, 0 ≤ p.1 ∧ p.1 < n := by
  intro p hp
  unfold Fl.sendOne at hp
  split at hp
  · cases hp
  · split at hp
    · cases hp
    · split at hp
      · cases hp
      · rename_i h1
        split at hp
        · cases hp
        · rename_i h2
          unfold Fl.insideB at h1 h2
          simp only [Bool.not_eq_false, Bool.and_eq_true, decide_eq_true_eq] at h1 h2
          split at hp
          · rw [List.mem_singleton.1 hp]; exact h2
          · split at hp
            · rw [List.mem_singleton.1 hp]; exact h1
            · cases hp
theorem sendN_in (n : Int) (x : Int × Int) (links : List (Int × Int)) : ∀ i, ∀ p ∈ Fl.sendN n x links i, 0 ≤ p.1 ∧ p.1 < n
  | 0 => fun p hp => by cases hp
  | i + 1 => fun p hp => (List.mem_append.1 hp).elim (sendN_in n x links i p) (sendOne_in n x i _ p)

/-- The outer loop: both texts take the same arrivals, and end. -/
theorem flood_both (links : List S48) (hL : links.length ≤ 60) (n : Int) : ∀ (m : Nat) (seen : List Bool) (out : List Int) (way : List S74) (i : Nat), frees seen * (links.length + 1) + (way.length - i) ≤ m → i ≤ way.length → (seen.length : Int) = n → out.length ≤ i → way.length + frees seen * links.length ≤ 1921 →
    (∀ x ∈ way, 0 ≤ x.f0 ∧ x.f0 < n) → (∀ v : Nat, (v : Int) < n → seen.getD v false = out.contains (v : Int)) →
    ∃ r : List Int × List (Int × Int), (∃ k, Fl.flood n (links.map pr) k i (out, way.map pw) = some r) ∧ r.2.length ≤ 1921 ∧ r.1.length ≤ 1921 ∧ Ev (fun k => brokerref46_Flood.l0 k links n seen out ((way.length : Int) - 1) way (i : Int)) (r.1, (r.2.length : Int) - 1) := by
  intro m
  induction m with
  | zero =>
    intro seen out way i hm hi hs ho hw hx hv
    have hi2 : i = way.length := by omega
    refine ⟨(out, way.map pw), ⟨1, ?_⟩, by rw [List.length_map]; omega, by show out.length ≤ 1921; omega, ?_⟩
    · unfold Fl.flood
      rw [if_neg (by rw [List.length_map]; omega)]
    · refine ev_succ ?_
      simp only [brokerref46_Flood.l0]
      exact ev_neg (by omega) (ev_some (by rw [List.length_map]))
  | succ m ih =>
    intro seen out way i hm hi hs ho hw hx hv
    by_cases hlt : i < way.length
    · have hrd : rd_T74 way (i : Int) = way.getD i z74 := rfl
      have hmem : way.getD i z74 ∈ way := by
        rw [List.getD_eq_getElem?_getD, List.getElem?_eq_getElem hlt]
        exact List.getElem_mem hlt
      obtain ⟨h0, h1⟩ := hx _ hmem
      have hpw : (way.map pw).getD i (0, 0) = pw (way.getD i z74) := by
        rw [List.getD_eq_getElem?_getD, List.getElem?_map, List.getD_eq_getElem?_getD, List.getElem?_eq_getElem hlt]
        rfl
      have hsv : rdOf false seen (way.getD i z74).f0 = out.contains (way.getD i z74).f0 := by
        have := hv (way.getD i z74).f0.toNat (by omega)
        rw [show (((way.getD i z74).f0.toNat : Nat) : Int) = (way.getD i z74).f0 from by omega] at this
        exact this
      have hfr := frees_le seen
      cases hc : out.contains (way.getD i z74).f0 with
      | true =>
        obtain ⟨r, ⟨k, hk⟩, hr2, hr1, hev⟩ := ih seen out way (i + 1) (by omega) hlt hs (by omega) hw hx hv
        refine ⟨r, ⟨k + 1, ?_⟩, hr2, hr1, ?_⟩
        · unfold Fl.flood
          rw [if_pos (by rw [List.length_map]; exact hlt)]
          dsimp only
          rw [hpw]
          have : Fl.stepSt n (links.map pr) (out, way.map pw) (pw (way.getD i z74)) = (out, way.map pw) := by
            unfold Fl.stepSt
            exact if_pos hc
          rw [this]
          exact hk
        · refine ev_succ ?_
          simp only [brokerref46_Flood.l0]
          rw [hrd]
          refine ev_pos (by omega) (ev_pos (by omega) (ev_pos h0 (ev_pos (by omega) (ev_pos (hsv.trans hc) ?_))))
          rw [up1 i (by omega)]
          exact hev
      | false =>
        have hat : seen[(way.getD i z74).f0.toNat]? = some false := by
          have h2 := hsv.trans hc
          rw [rdOf, List.getD_eq_getElem?_getD, List.getElem?_eq_getElem (by omega)] at h2
          rw [List.getElem?_eq_getElem (by omega)]
          exact congrArg some h2
        have hset := frees_set seen _ hat
        have hsl := Fl.sendN_len n (pw (way.getD i z74)) (links.map pr) links.length
        obtain ⟨acc, hacc, hin⟩ : ∃ acc : List S74, acc.map pw = Fl.sendN n (pw (way.getD i z74)) (links.map pr) links.length ∧ ∀ x ∈ acc, 0 ≤ x.f0 ∧ x.f0 < n := by
          refine ⟨(Fl.sendN n (pw (way.getD i z74)) (links.map pr) links.length).map fun p => ⟨p.1, p.2⟩, ?_, ?_⟩
          · rw [List.map_map]
            exact List.map_id _
          · intro x hx'
            obtain ⟨p, hp, rfl⟩ := List.mem_map.1 hx'
            exact sendN_in n _ _ _ p hp
        have hal : acc.length ≤ links.length := by
          have := congrArg List.length hacc
          rw [List.length_map] at this
          omega
        have hmul : frees seen * (links.length + 1) = frees (seen.set (way.getD i z74).f0.toNat true) * (links.length + 1) + (links.length + 1) := by rw [← hset, Nat.succ_mul]
        have hmul2 : frees seen * links.length = frees (seen.set (way.getD i z74).f0.toNat true) * links.length + links.length := by rw [← hset, Nat.succ_mul]
        obtain ⟨r, ⟨k, hk⟩, hr2, hr1, hev⟩ := ih (seen.set (way.getD i z74).f0.toNat true) (out ++ [(way.getD i z74).f0]) (way ++ acc) (i + 1) (by rw [List.length_append]; omega) (by rw [List.length_append]; omega) (by rw [List.length_set]; exact hs) (by rw [List.length_append, List.length_singleton]; omega) (by rw [List.length_append]; omega)
          (fun x hx' => (List.mem_append.1 hx').elim (hx x) (hin x)) (fun v hvn => by
            rw [List.getD_eq_getElem?_getD, List.getElem?_set]
            by_cases e : (way.getD i z74).f0.toNat = v
            · subst e
              rw [if_pos rfl, if_pos (by omega)]
              have : (((way.getD i z74).f0.toNat : Nat) : Int) = (way.getD i z74).f0 := by omega
              rw [this]
              simp
            · rw [if_neg e, ← List.getD_eq_getElem?_getD, hv v hvn]
              have : ¬ (v : Int) = (way.getD i z74).f0 := by omega
              generalize (way.getD i z74).f0 = q at this
              simp [this])
        refine ⟨r, ⟨k + 1, ?_⟩, hr2, hr1, ?_⟩
        · unfold Fl.flood
          rw [if_pos (by rw [List.length_map]; exact hlt)]
          dsimp only
          rw [hpw]
          have : Fl.stepSt n (links.map pr) (out, way.map pw) (pw (way.getD i z74)) = (out ++ [(way.getD i z74).f0], (way ++ acc).map pw) := by
            unfold Fl.stepSt
            rw [if_neg (by show ¬ out.contains (way.getD i z74).f0 = true; rw [hc]; decide), List.map_append, hacc, List.length_map]
            rfl
          rw [this]
          exact hk
        · refine ev_succ ?_
          simp only [brokerref46_Flood.l0]
          rw [hrd]
          refine ev_pos (by omega) (ev_pos (by omega) (ev_pos h0 (ev_pos (by omega) (ev_neg (by rw [hsv, hc]; decide) (ev_pos (by omega) ?_)))))
          have hl := send_l1 links hL n (seen.set (way.getD i z74).f0.toNat true) (out ++ [(way.getD i z74).f0]) way i hlt (by omega) (r.1, (r.2.length : Int) - 1) links.length 0 [] (by omega) rfl fun acc' hacc' => by
            have : acc' = acc := by
              have h3 := congrArg (List.map fun p : Int × Int => (⟨p.1, p.2⟩ : S74)) (hacc'.trans hacc.symm)
              rw [List.map_map, List.map_map] at h3
              exact (List.map_id acc').symm.trans (h3.trans (List.map_id acc))
            rw [this]
            exact hev
          rw [List.append_nil] at hl
          exact hl
    · have hi2 : i = way.length := by omega
      refine ⟨(out, way.map pw), ⟨1, ?_⟩, by rw [List.length_map]; omega, by show out.length ≤ 1921; omega, ?_⟩
      · unfold Fl.flood
        rw [if_neg (by rw [List.length_map]; omega)]
      · refine ev_succ ?_
        simp only [brokerref46_Flood.l0]
        exact ev_neg (by omega) (ev_some (by rw [List.length_map]))
theorem nodes_val (a : Int) : brokerref46_Nodes.f a = some (Fl.clampN a) := by
  unfold brokerref46_Nodes.f Fl.clampN
  split
  · congr 1; omega
  · split <;> (congr 1; omega)
theorem clamp_in (a : Int) : 0 ≤ Fl.clampN a ∧ Fl.clampN a ≤ 32 := by
  unfold Fl.clampN
  omega
/-- Flood is what the specification says. -/
theorem floods_both (links : List S48) (hL : links.length ≤ 60) (nodes a : Int) : ∃ r : List Int × Int, r.1.length ≤ 1921 ∧ Ev (fun k => hops_Flood.f k links nodes a) r ∧ Ev (fun k => brokerref46_Flood.f k links nodes a) r := by
  obtain ⟨n0, n1⟩ := clamp_in nodes
  by_cases h : 0 ≤ a ∧ a < Fl.clampN nodes
  · have hin : Fl.insideB (Fl.clampN nodes) a = true := by
      unfold Fl.insideB
      rw [decide_eq_true h.1, decide_eq_true h.2]
      rfl
    have hrep : frees (List.replicate (Fl.clampN nodes).toNat false) = (Fl.clampN nodes).toNat := by
      unfold frees
      rw [List.count_replicate_self]
    have hmul : (Fl.clampN nodes).toNat * links.length ≤ 32 * 60 := Nat.mul_le_mul (by omega) hL
    obtain ⟨r, ⟨k, hk⟩, hr2, hr1, hev⟩ := flood_both links hL (Fl.clampN nodes) _ (List.replicate (Fl.clampN nodes).toNat false) [] [⟨a, -1⟩] 0 (Nat.le_refl _) (Nat.zero_le _) (by rw [List.length_replicate]; omega) (Nat.zero_le _) (by rw [hrep]; show 1 + _ ≤ _; omega)
      (fun x hx => by rw [List.mem_singleton.1 hx]; exact h) (fun v hv => by rw [List.getD_eq_getElem?_getD, List.getElem?_replicate]; split <;> rfl)
    refine ⟨(r.1, (r.2.length : Int) - 1), hr1, Ev.of (fun k => hops_Flood.mono _ _ _ k) (k := k) ?_, ?_⟩
    · show Fl.floodF k (links.map pr) nodes a = _
      unfold Fl.floodF
      have hk' : Fl.flood (Fl.clampN nodes) (links.map pr) k 0 ([], [(a, -1)]) = some r := hk
      rw [hin, if_pos rfl, if_pos (by rw [List.length_map]; omega), hk']
      exact if_pos (by show r.2.length ≤ 1000000; omega)
    · simp only [brokerref46_Flood.f]
      refine ev_const (nodes_val nodes) (ev_neg (by omega) ?_)
      rw [decide_eq_false (by omega)]
      refine ev_succ ?_
      simp only [brokerref46_Flood.j0]
      exact ev_ff (ev_pos n0 (ev_pos (by omega) hev))
  · have hin : Fl.insideB (Fl.clampN nodes) a = false := by
      unfold Fl.insideB
      rw [← Bool.decide_and]
      exact decide_eq_false h
    refine ⟨([], 0), Nat.zero_le _, ⟨0, fun k _ => ?_⟩, ?_⟩
    · show Fl.floodF k (links.map pr) nodes a = _
      unfold Fl.floodF
      rw [hin]
      rfl
    · simp only [brokerref46_Flood.f]
      refine ev_const (nodes_val nodes) ?_
      have e : Ev (fun k => brokerref46_Flood.j0 k links a (Fl.clampN nodes) true) ([], 0) := by
        refine ev_succ ?_
        simp only [brokerref46_Flood.j0]
        exact ev_some rfl
      by_cases ha : a < 0
      · exact ev_pos ha e
      · refine ev_neg ha ?_
        rw [decide_eq_true (by omega)]
        exact e
end Go.Proofs.YtfikhfahpdhjbaaDoor.Pure
