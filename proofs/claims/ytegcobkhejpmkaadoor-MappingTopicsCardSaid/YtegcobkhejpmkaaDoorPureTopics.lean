/- MappingTopics: Topic is the specification's. -/
import Derived.Test.YtegcobkhejpmkaaDoorPx33
import Derived.Test.YtegcobkhejpmkaaDoorPureWh
import Derived.Test.YtegcobkhejpmkaaDoorPureAw
-- needs: brokerlaw45_MappingTopics
namespace Go.Proofs.YtegcobkhejpmkaaDoor.Pure
open Go.RowKit Go.Proofs.YtegcobkhejpmkaaDoor.P Go.Proofs.YtegcobkhejpmkaaDoorW.PrintWords Go.Proofs.YtegcobkhejpmkaaDoorW.PrintLast Go.Proofs.YtegcobkhejpmkaaDoor.Ext
theorem MappingTopics' (a : ByteArray) (ha : a.size ≤ 140737488351232) : ∃ k, brokerlaw45_MappingTopics.f k a = some true := by
  have : Ev (fun k => brokerlaw45_MappingTopics.f k a) true := by
    simp only [brokerlaw45_MappingTopics.f]
    by_cases hz : (a.size : Int) > 1000
    · exact ev_pos hz (ev_bind awake_ev (ev_some rfl))
    · have h2 := reftopic_ev a (by omega)
      rw [← topics_same] at h2
      refine ev_neg hz (ev_bind (topicm_ev a (by omega)) (ev_bind h2 (ev_bind awake_ev (ev_tt (ev_pos rfl (ev_some ?_))))))
      cases (finT a (decAll (pieces 46 (toL a)))).2 <;> rfl
  obtain ⟨k, hk⟩ := this
  exact ⟨k, hk k (Nat.le_refl _)⟩
end Go.Proofs.YtegcobkhejpmkaaDoor.Pure
