/- MappingSame: the rule of all names to the first reference keeps a name; a rule without wildcards maps its own name alone. -/
import Derived.Test.YtegcobkhejpmkaaDoorPx16
import Derived.Test.YtegcobkhejpmkaaDoorPx18
import Derived.Test.YtegcobkhejpmkaaDoorPx35
import Derived.Test.YtegcobkhejpmkaaDoorPx4
import Derived.Test.YtegcobkhejpmkaaDoorPureWk
import Derived.Test.YtegcobkhejpmkaaDoorPureW
import Derived.Test.YtegcobkhejpmkaaDoorPureAw
-- needs: brokerlaw45_MappingSame brokerref45_Check mapping_Apply brokerref01_System
namespace Go.Proofs.YtegcobkhejpmkaaDoor.Pure
open Go.RowKit Go.Proofs.YtegcobkhejpmkaaDoor.P Go.Proofs.YtegcobkhejpmkaaDoorW.PrintWords Go.Proofs.YtegcobkhejpmkaaDoorW.PrintLast Go.Proofs.YtegcobkhejpmkaaDoor.Ext

def rB : BA := ⟨#[35]⟩
def dB : BA := ⟨#[36, 49]⟩
theorem rB_lev : levels rB = [rB] := rfl
theorem dB_lev : levels dB = [dB] := rfl
theorem rB_R : isR rB = true := decide_eq_true (by rw [toList_toL]; rfl)
theorem rB_P : isP rB = false := decide_eq_false (by rw [toList_toL]; decide)
theorem rB_filter : filterB rB = true := by decide +kernel
theorem dB_ref : refM dB = 1 := by decide +kernel
theorem slash_levels (a : BA) : slash ((levels a).map toL) = a := by
  have e : (levels a).map toL = pieces 47 (toL a) := map_toL _
  rw [e]
  unfold slash
  rw [join_pieces, mk_toL]
theorem all_match {a : BA} (h : validB a = true) : matchB rB a = !sysB a := by
  unfold matchB
  rw [rB_filter, h, rB_lev, match_R rB_R]
  show (true && true && !((isP rB || isR rB) && sysB a) && true) = _
  rw [rB_R, Bool.or_true]
  cases sysB a <;> rfl
theorem all_taken (ns : List BA) : takenF ns (levels rB) 0 = [ns] := by
  rw [rB_lev]
  show (if isP rB = true then _ else if isR rB = true then ns.drop (min 0 ns.length) :: takenF ns [] 1 else _) = _
  rw [if_neg (by rw [rB_P]; decide), if_pos rB_R, Nat.zero_min]
  rfl
theorem all_seq (ns : List BA) : seqM [ns] (levels dB) = ns := by
  rw [dB_lev]
  show repl [ns] dB ++ [] = ns
  rw [List.append_nil]
  unfold repl
  rw [dB_ref, if_pos ⟨by decide, by show (1 : Int) ≤ 1; omega⟩]
  rfl
theorem free_taken (ns : List BA) : ∀ (l : List BA) (i : Nat), (∀ x ∈ l, isR x = false ∧ isP x = false) → takenF ns l i = []
  | [], _, _ => rfl
  | x :: r, i, h => by
    obtain ⟨h1, h2⟩ := h x (List.mem_cons_self ..)
    unfold takenF
    rw [if_neg (by rw [h2]; decide), if_neg (by rw [h1]; decide)]
    exact free_taken ns r (i + 1) (fun y hy => h y (List.mem_cons_of_mem _ hy))
theorem seq_nil : ∀ l : List BA, seqM [] l = l
  | [] => rfl
  | x :: r => by
    have e : repl [] x = [x] := by
      unfold repl
      rw [if_neg]
      rintro ⟨h1, h2⟩
      have : (([] : List (List BA)).length : Int) = 0 := rfl
      omega
    show repl [] x ++ seqM [] r = _
    rw [e, seq_nil r]
    rfl
theorem apply_all {a : BA} (h : validB a = true) : Ev (fun k => mapping_Apply.f k rB dB a) (if sysB a = true then ((⟨#[]⟩ : ByteArray), false) else (a, true)) := by
  have hz := valid_size h
  have hl := lev_len hz
  obtain ⟨s1, s2⟩ := lev_small hz
  have := apply_ev rB dB a (by decide) (by omega) (by decide) (fun _ => by
    rw [all_taken, all_seq]
    refine ⟨⟨by show 1 ≤ _; omega, by rw [dB_lev]; show 1 ≤ _; omega, fun p hp => by rw [List.mem_singleton.1 hp]; omega, by rw [all_seq]; omega⟩, s1, fun x hx => ?_⟩
    have := s2 x hx
    omega)
  unfold applyV at this
  rw [all_match h, all_taken, all_seq, slash_levels, if_pos h] at this
  cases hs : sysB a with
  | true =>
    rw [hs] at this
    exact this
  | false =>
    rw [hs] at this
    exact this
theorem apply_own {a : BA} (h : validB a = true) (b : BA) (hb : b.size ≤ 9223372036854775806) : Ev (fun k => mapping_Apply.f k a a b) (if b = a then (a, true) else ((⟨#[]⟩ : ByteArray), false)) := by
  have hz := valid_size h
  have hl := lev_len hz
  obtain ⟨s1, s2⟩ := lev_small hz
  have ht : takenF (levels b) (levels a) 0 = [] := free_taken _ _ 0 (valid_free h)
  have := apply_ev a a b (by omega) hb (by omega) (fun _ => by
    rw [ht, seq_nil]
    refine ⟨⟨Nat.zero_le _, by omega, (fun p hp => nomatch hp), (by rw [seq_nil]; omega)⟩, s1, fun x hx => ?_⟩
    have := s2 x hx
    omega)
  unfold applyV at this
  rw [ht, seq_nil, slash_levels, if_pos h] at this
  by_cases e : b = a
  · subst e
    rw [literal_self h, if_pos rfl] at this
    rw [if_pos rfl]
    exact this
  · rw [literal_other h (fun k => e k.symm), if_neg (by decide)] at this
    rw [if_neg e]
    exact this
theorem MappingSame' (a : ByteArray) (ha : a.size ≤ 140737488351232) (b : ByteArray) (hb : b.size ≤ 140737488351232) : ∃ k, brokerlaw45_MappingSame.f k a b = some true := by
  have j0 : validB a = true → Ev (fun k => brokerlaw45_MappingSame.j0 k a b false) true := by
    intro h
    refine ev_succ ?_
    simp only [brokerlaw45_MappingSame.j0]
    refine ev_neg (by decide) (ev_bind (refcheck_ev [(⟨a, a⟩ : S28)] (fun x hx => by rw [List.mem_singleton.1 hx]; show a.size ≤ _; omega)) ?_)
    by_cases hc : refCheckV [(⟨a, a⟩ : S28)] = 0
    · refine ev_pos hc (ev_bind (apply_own h b (by omega)) (ev_bind awake_ev (ev_tt ?_)))
      by_cases e : b = a
      · rw [if_pos e, e]
        refine ev_pos ?_ (ev_tt (ev_some ?_))
        · rw [beq_self_eq_true]
          rfl
        · rw [beq_self_eq_true]
      · rw [if_neg e]
        have n1 : (b.toList == a.toList) = false := beq_eq_false_iff_ne.2 (fun h => e (toList_inj h))
        rw [n1]
        exact ev_pos rfl (ev_ff (ev_some rfl))
    · exact ev_neg hc (ev_bind awake_ev (ev_some rfl))
  have : Ev (fun k => brokerlaw45_MappingSame.f k a b) true := by
    simp only [brokerlaw45_MappingSame.f]
    refine ev_bind (refvalid_ev a (by omega)) ?_
    by_cases h : validB a = true
    · refine ev_pos h (ev_bind (apply_all h) (ev_const (refsystem_val a) ?_))
      cases hs : sysB a with
      | true =>
        rw [if_pos rfl]
        exact ev_neg (show ¬ ((false != !true) = true) by decide) (ev_ff (j0 h))
      | false =>
        rw [if_neg (show ¬ (false = true) by decide)]
        refine ev_neg (show ¬ ((true != !false) = true) by decide) (ev_tt ?_)
        have : (a.toList != a.toList) = false := by
          rw [bne, beq_self_eq_true]
          rfl
        show Ev (fun n => brokerlaw45_MappingSame.j0 n a b (a.toList != a.toList)) true
        rw [this]
        exact j0 h
    · exact ev_neg h (ev_bind awake_ev (ev_some rfl))
  obtain ⟨k, hk⟩ := this
  exact ⟨k, hk k (Nat.le_refl _)⟩
end Go.Proofs.YtegcobkhejpmkaaDoor.Pure
