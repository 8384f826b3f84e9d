/- Name of layer 1 and Same of lists of texts, over the printed functions. -/
import Derived.Test.YtfikhfahpdhjbaaDoorPx12
import Derived.Test.YtfikhfahpdhjbaaDoorPx2
import Derived.Test.YtfikhfahpdhjbaaDoorStr
-- needs: brokerref01_Name brokerref01_Same topic_Name
namespace Go.Proofs.YtfikhfahpdhjbaaDoor.Pure
open Go.RowKit Go.Proofs.YtfikhfahpdhjbaaDoor.P Go.Proofs.YtfikhfahpdhjbaaDoorW.PrintWords Go.Proofs.YtfikhfahpdhjbaaDoorW.PrintLast Go.Proofs.YtfikhfahpdhjbaaDoor.Ext
open Classical
theorem low_ev (s : ByteArray) (i : Nat) : brokerref01_lower.f (bt s (i : Int)) = some (low (by_ s i)) := by
  rw [bt_by]
  unfold brokerref01_lower.f low
  split
  · congr 1
    exact decide_eq_decide.2 (by omega)
  · congr 1
    exact (decide_eq_false (by omega)).symm
theorem digit_ev (s : ByteArray) (i : Nat) : brokerref01_digit.f (bt s (i : Int)) = some (decide (48 ≤ by_ s i ∧ by_ s i ≤ 57)) := by
  rw [bt_by]
  unfold brokerref01_digit.f
  split
  · congr 1
    exact decide_eq_decide.2 (by omega)
  · congr 1
    exact (decide_eq_false (by omega)).symm
theorem name_l0 (s : ByteArray) (hs : s.size ≤ 16) : ∀ d, d ≤ s.size → Ev (fun k => brokerref01_Name.l0 k s ((s.size - d : Nat) : Int)) (decide (∀ i, s.size - d ≤ i → i < s.size → sign (by_ s i) = true)) := by
  intro d
  induction d with
  | zero =>
    intro _
    refine ev_succ ?_
    simp only [brokerref01_Name.l0]
    refine ev_neg (by omega) (ev_some ?_)
    congr 1
    exact (decide_eq_true (fun i h0 h1 => by omega)).symm
  | succ d ih =>
    intro hd
    refine ev_succ ?_
    simp only [brokerref01_Name.l0]
    refine ev_pos (by omega) (ev_pos (by omega) (ev_const (low_ev s _) ?_))
    have next : sign (by_ s (s.size - (d + 1))) = true → Ev (fun k => brokerref01_Name.l0 k s (wrap64 (((s.size - (d + 1) : Nat) : Int) + 1))) (decide (∀ i, s.size - (d + 1) ≤ i → i < s.size → sign (by_ s i) = true)) := by
      intro hsg
      rw [w64 (by omega) (by omega), show (((s.size - (d + 1) : Nat) : Int) + 1) = ((s.size - d : Nat) : Int) by omega]
      have e : decide (∀ i, s.size - (d + 1) ≤ i → i < s.size → sign (by_ s i) = true) = decide (∀ i, s.size - d ≤ i → i < s.size → sign (by_ s i) = true) := by
        refine decide_eq_decide.2 ⟨fun h i h0 h1 => h i (by omega) h1, fun h i h0 h1 => ?_⟩
        by_cases e : i = s.size - (d + 1)
        · subst e; exact hsg
        · exact h i (by omega) h1
      rw [e]
      exact ih (by omega)
    refine ev_if (fun hl => next (by unfold sign; rw [hl]; rfl)) (fun hl => ?_)
    refine ev_const (digit_ev s _) (ev_if (fun hdg => next (by unfold sign; rw [hdg]; simp)) (fun hdg => ?_))
    rw [bt_by]
    by_cases h45 : by_ s (s.size - (d + 1)) = 45
    · exact ev_pos (by omega) (next (by unfold sign; rw [h45]; rfl))
    · refine ev_neg (by omega) (ev_some ?_)
      congr 1
      refine (decide_eq_false (fun h => ?_)).symm
      have := h (s.size - (d + 1)) (Nat.le_refl _) (by omega)
      unfold sign at this
      rw [hl, hdg, decide_eq_false h45] at this
      cases this
/-- The reference's Name is the plain one. -/
theorem refname_all (s : ByteArray) : Ev (fun k => brokerref01_Name.f k s) (nameB s) := by
  have no : ¬ (1 ≤ s.size ∧ s.size ≤ 16) → Ev (fun k => brokerref01_Name.j0 k s true) (nameB s) := by
    intro h
    refine ev_succ ?_
    simp only [brokerref01_Name.j0, if_true]
    refine ev_some ?_
    congr 1
    exact (decide_eq_false (fun h2 => h ⟨h2.1, h2.2.1⟩)).symm
  simp only [brokerref01_Name.f]
  by_cases h1 : (s.size : Int) < 1
  · exact ev_pos h1 (no (by omega))
  · refine ev_neg h1 ?_
    by_cases h2 : (s.size : Int) > 16
    · exact ev_pos h2 (no (by omega))
    · refine ev_neg h2 (ev_pos (by omega) (ev_const (low_ev s 0) ?_))
      by_cases hl : low (by_ s 0) = true
      · rw [hl]
        refine ev_succ ?_
        simp only [brokerref01_Name.j0, Bool.not_true]
        refine ev_ff ?_
        have := name_l0 s (by omega) s.size (Nat.le_refl _)
        rw [Nat.sub_self] at this
        have e : nameB s = decide (∀ i, 0 ≤ i → i < s.size → sign (by_ s i) = true) := by
          refine decide_eq_decide.2 ⟨fun h i _ hi => ?_, fun h => ⟨by omega, by omega, fun i hi => ?_⟩⟩
          · have := h.2.2 i hi
            unfold nameAt at this
            split at this
            · unfold sign; rw [this]; rfl
            · exact this
          · unfold nameAt
            split
            · rename_i e; subst e; exact hl
            · exact h i (Nat.zero_le _) hi
        rw [e]
        exact this
      · have hl' : low (by_ s 0) = false := by simpa using hl
        rw [hl']
        refine ev_succ ?_
        simp only [brokerref01_Name.j0, Bool.not_false, if_true]
        refine ev_some ?_
        congr 1
        exact (name_no s 0 (by omega) (by unfold nameAt; rw [if_pos rfl]; exact hl')).symm
theorem refname_ev (s : ByteArray) (_ : s.size ≤ 9223372036854775806) : Ev (fun k => brokerref01_Name.f k s) (nameB s) := refname_all s
/-- A list of texts is the same as itself. -/
theorem same_l0 (l : List ByteArray) (hl : l.length ≤ 1000000000) : ∀ d, d ≤ l.length → Ev (fun k => brokerref01_Same.l0 k l l ((l.length - d : Nat) : Int)) true := by
  intro d
  induction d with
  | zero =>
    intro _
    refine ev_succ ?_
    simp only [brokerref01_Same.l0]
    exact ev_neg (by omega) (ev_some rfl)
  | succ d ih =>
    intro hd
    refine ev_succ ?_
    simp only [brokerref01_Same.l0]
    refine ev_pos (by omega) (ev_pos (by omega) (ev_pos (by omega) (ev_pos trivial ?_)))
    rw [w64 (by omega) (by omega), show (((l.length - (d + 1) : Nat) : Int) + 1) = ((l.length - d : Nat) : Int) by omega]
    exact ih (by omega)
theorem same_ev (l : List ByteArray) (hl : l.length ≤ 1000000000) : Ev (fun k => brokerref01_Same.f k l l) true := by
  have := same_l0 l hl l.length (Nat.le_refl _)
  rw [Nat.sub_self] at this
  simp only [brokerref01_Same.f]
  exact ev_pos trivial this
theorem topic_name (s : ByteArray) (hs : s.size ≤ 9223372036854775807) : topic_Name.f s = some (nameB s) := by unfold topic_Name.f; rw [if_pos hs]
end Go.Proofs.YtfikhfahpdhjbaaDoor.Pure
