/- MappingKeys: Key and Pattern are the specification's. -/
import Derived.Test.YtegcobkhejpmkaaDoorPx30
import Derived.Test.YtegcobkhejpmkaaDoorPureWf
import Derived.Test.YtegcobkhejpmkaaDoorPureAw
-- needs: brokerlaw45_MappingKeys
namespace Go.Proofs.YtegcobkhejpmkaaDoor.Pure
open Go.RowKit Go.Proofs.YtegcobkhejpmkaaDoor.P Go.Proofs.YtegcobkhejpmkaaDoorW.PrintWords Go.Proofs.YtegcobkhejpmkaaDoorW.PrintLast Go.Proofs.YtegcobkhejpmkaaDoor.Ext
theorem MappingKeys : brokerlaw45_MappingKeys.Pure := by
  intro a b ha hb
  have : Ev (fun k => brokerlaw45_MappingKeys.f k a b) true := by
    simp only [brokerlaw45_MappingKeys.f]
    refine ev_bind (pattern_ev b (by omega)) (ev_bind (refpattern_ev b (by omega)) (ev_bind awake_ev (ev_tt (ev_bind (key_ev a (by omega)) (ev_bind (refkey_ev a (by omega)) (ev_pos rfl (ev_pos rfl (ev_some ?_))))))))
    cases (patsB b).2 <;> rfl
  obtain ⟨k, hk⟩ := this
  exact ⟨k, hk k (Nat.le_refl _)⟩
theorem MappingKeys' (a : ByteArray) (ha : a.size ≤ 140737488351232) (b : ByteArray) (hb : b.size ≤ 140737488351232) : ∃ k, brokerlaw45_MappingKeys.f k a b = some true := MappingKeys a b ha hb
end Go.Proofs.YtegcobkhejpmkaaDoor.Pure
