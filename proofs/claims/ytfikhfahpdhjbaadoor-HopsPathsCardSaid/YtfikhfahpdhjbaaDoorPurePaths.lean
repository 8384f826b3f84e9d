/- HopsPaths, HopsEnters, HopsStrips, plain. -/
import Derived.Test.YtfikhfahpdhjbaaDoorPx11
import Derived.Test.YtfikhfahpdhjbaaDoorPureHops
import Derived.Test.YtfikhfahpdhjbaaDoorPureAw
import Derived.Test.YtfikhfahpdhjbaaDoorKinds
-- needs: brokerlaw46_HopsPaths
namespace Go.Proofs.YtfikhfahpdhjbaaDoor.Pure
open Go Go.RowKit Go.Proofs.YtfikhfahpdhjbaaDoor.P Go.Proofs.YtfikhfahpdhjbaaDoorW.PrintWords Go.Proofs.YtfikhfahpdhjbaaDoorW.PrintLast Go.Proofs.YtfikhfahpdhjbaaDoor.Ext
theorem HopsPaths' (m : Br.S24) {N : Nat} (_ : (m.f0.size ≤ N ∧ m.f0.size ≤ maxLen) ∧ (m.f1.size ≤ N ∧ m.f1.size ≤ maxLen) ∧ (Lit.int .i64 m.f2).wf = true ∧ True ∧ (Lit.int .i64 m.f4).wf = true ∧ (Lit.int .i64 m.f5).wf = true ∧ (m.f6.size ≤ N ∧ m.f6.size ≤ maxLen) ∧ (Lit.int .i64 m.f7).wf = true ∧ (m.f8.length ≤ N ∧ m.f8.length ≤ maxLen ∧ ∀ y ∈ m.f8, (y.f0.size ≤ N ∧ y.f0.size ≤ maxLen) ∧ (y.f1.size ≤ N ∧ y.f1.size ≤ maxLen))) (x : ByteArray) (_ : x.size ≤ 140737488351232) :
    ∃ k, brokerlaw46_HopsPaths.f k m.f0 m.f1 m.f2 m.f3 m.f4 m.f5 m.f6 m.f7 m.f8 x = some true := by
  suffices h : Ev (fun k => brokerlaw46_HopsPaths.f k m.f0 m.f1 m.f2 m.f3 m.f4 m.f5 m.f6 m.f7 m.f8 x) true from h.rounds
  obtain ⟨a, b, c, d, e, f, g, h, l⟩ := m
  dsimp only
  simp only [brokerlaw46_HopsPaths.f]
  refine ev_bind (light_ev a b c d e f g h l) (ev_if (fun hlt => ?_) (fun _ => ev_bind awake_ev (ev_some rfl)))
  have hl := light_len hlt
  have hv := val_small (light_val hlt)
  have hp := path_len hv
  exact ev_bind awake_ev (ev_tt (ev_bind (path_ev a b c d e f g h l (by omega) hv) (ev_bind (refpath_ev a b c d e f g h l (by omega) hv) (ev_bind (same_ev (pathL l) (by omega)) (ev_tt (ev_bind (passed_ev a b c d e f g h l x (by omega) hv) (ev_bind (refpassed_ev a b c d e f g h l x (by omega) hv) (ev_some (by rw [beq_self_eq_true])))))))))
end Go.Proofs.YtfikhfahpdhjbaaDoor.Pure
