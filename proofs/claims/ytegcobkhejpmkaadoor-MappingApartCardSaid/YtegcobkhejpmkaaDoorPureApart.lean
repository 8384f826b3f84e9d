/- MappingApart: names of the same key are the same. -/
import Derived.Test.YtegcobkhejpmkaaDoorPx34
import Derived.Test.YtegcobkhejpmkaaDoorPureWh
import Derived.Test.YtegcobkhejpmkaaDoorPureAw
-- needs: brokerlaw45_MappingApart
namespace Go.Proofs.YtegcobkhejpmkaaDoor.Pure
open Go.RowKit Go.Proofs.YtegcobkhejpmkaaDoor.P Go.Proofs.YtegcobkhejpmkaaDoorW.PrintWords Go.Proofs.YtegcobkhejpmkaaDoorW.PrintLast Go.Proofs.YtegcobkhejpmkaaDoor.Ext
theorem key_none {a : BA} (h : ¬ validB a = true) : keyB a = ⟨#[]⟩ := by
  unfold keyB
  rw [if_neg h]
theorem MappingApart' (a : ByteArray) (ha : a.size ≤ 140737488351232) (b : ByteArray) (hb : b.size ≤ 140737488351232) : ∃ k, brokerlaw45_MappingApart.f k a b = some true := by
  have j1 : Ev (fun k => brokerlaw45_MappingApart.j0 k a b true) true := by
    refine ev_succ ?_
    simp only [brokerlaw45_MappingApart.j0]
    refine ev_pos trivial (ev_bind awake_ev (ev_tt (ev_bind (refvalid_ev a (by omega)) ?_)))
    by_cases h : validB a = true
    · exact ev_pos h (ev_some rfl)
    · refine ev_neg h (ev_bind (key_ev a (by omega)) (ev_some ?_))
      rw [key_none h, toList_toL]
      rfl
  have : Ev (fun k => brokerlaw45_MappingApart.f k a b) true := by
    simp only [brokerlaw45_MappingApart.f]
    refine ev_bind (refvalid_ev a (by omega)) ?_
    by_cases h : validB a = true
    · refine ev_pos h (ev_bind (refvalid_ev b (by omega)) ?_)
      by_cases k : validB b = true
      · rw [k]
        refine ev_succ ?_
        simp only [brokerlaw45_MappingApart.j0]
        refine ev_neg (by decide) (ev_bind awake_ev (ev_tt (ev_bind (key_ev a (by omega)) (ev_bind (key_ev b (by omega)) (ev_some ?_)))))
        by_cases e : a = b
        · rw [e, beq_self_eq_true, beq_self_eq_true]
          rfl
        · have n1 : (a.toList == b.toList) = false := beq_eq_false_iff_ne.2 (fun h => e (toList_inj h))
          have n2 : ((keyB a).toList == (keyB b).toList) = false := beq_eq_false_iff_ne.2 (fun hh => e (key_inj h k (toList_inj hh)))
          rw [n1, n2]
          rfl
      · rw [Bool.eq_false_iff.2 k]
        exact j1
    · exact ev_neg h j1
  obtain ⟨k, hk⟩ := this
  exact ⟨k, hk k (Nat.le_refl _)⟩
end Go.Proofs.YtegcobkhejpmkaaDoor.Pure
