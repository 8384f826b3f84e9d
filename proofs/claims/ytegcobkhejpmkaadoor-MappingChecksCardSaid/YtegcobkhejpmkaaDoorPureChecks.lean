/- MappingChecks: Check is the specification's. -/
import Derived.Test.YtegcobkhejpmkaaDoorPx17
import Derived.Test.YtegcobkhejpmkaaDoorPureWl
import Derived.Test.YtegcobkhejpmkaaDoorPureAw
import Derived.Test.YtegcobkhejpmkaaDoorKinds
-- needs: brokerlaw45_MappingChecks
namespace Go.Proofs.YtegcobkhejpmkaaDoor.Pure
open Go.RowKit Go.Proofs.YtegcobkhejpmkaaDoor.P Go.Proofs.YtegcobkhejpmkaaDoorW.PrintWords Go.Proofs.YtegcobkhejpmkaaDoorW.PrintLast Go.Proofs.YtegcobkhejpmkaaDoor.Ext

theorem MappingChecks' {N : Nat} (l : List S28) (h : l.length ≤ N ∧ l.length ≤ maxLen ∧ ∀ x ∈ l, (x.f0.size ≤ N ∧ x.f0.size ≤ maxLen) ∧ (x.f1.size ≤ N ∧ x.f1.size ≤ maxLen)) : ∃ k, brokerlaw45_MappingChecks.f k l = some true := by
  have hM : maxLen ≤ 9223372036854775807 := by decide
  have : Ev (fun k => brokerlaw45_MappingChecks.f k l) true := by
    simp only [brokerlaw45_MappingChecks.f]
    refine ev_bind awake_ev (ev_tt (ev_bind (pcheck_ev l (fun x hx => ?_)) (ev_bind (refcheck_ev l (fun x hx => ?_)) (ev_some ?_))))
    · obtain ⟨⟨_, a⟩, _, b⟩ := h.2.2 x hx
      exact ⟨Nat.le_trans a hM, Nat.le_trans b hM⟩
    · obtain ⟨_, _, b⟩ := h.2.2 x hx
      exact Nat.le_trans b hM
    · rw [beq_self_eq_true]
  obtain ⟨k, hk⟩ := this
  exact ⟨k, hk k (Nat.le_refl _)⟩
end Go.Proofs.YtegcobkhejpmkaaDoor.Pure
