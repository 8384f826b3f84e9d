/- HopsFloods, plain. -/
import Derived.Test.YtfikhfahpdhjbaaDoorPx23
import Derived.Test.YtfikhfahpdhjbaaDoorPureFl
import Derived.Test.YtfikhfahpdhjbaaDoorPureAw
-- needs: brokerlaw46_HopsFloods
namespace Go.Proofs.YtfikhfahpdhjbaaDoor.Pure
open Go.RowKit Go.Proofs.YtfikhfahpdhjbaaDoor.P Go.Proofs.YtfikhfahpdhjbaaDoorW.PrintWords Go.Proofs.YtfikhfahpdhjbaaDoorW.PrintLast Go.Proofs.YtfikhfahpdhjbaaDoor.Ext
theorem HopsFloods' (links : List S48) {N : Nat} (_ : links.length ≤ N ∧ links.length ≤ maxLen ∧ ∀ x ∈ links, (Lit.int .i64 x.f0).wf = true ∧ (Lit.int .i64 x.f1).wf = true) (nodes : Int) (_ : (Lit.int .i64 nodes).wf = true) (a : Int) (_ : (Lit.int .i64 a).wf = true) : ∃ k, brokerlaw46_HopsFloods.f k links nodes a = some true := by
  suffices h : Ev (fun k => brokerlaw46_HopsFloods.f k links nodes a) true from h.rounds
  simp only [brokerlaw46_HopsFloods.f]
  by_cases h : (links.length : Int) > 60
  · exact ev_pos h (ev_bind awake_ev (ev_some rfl))
  · obtain ⟨r, hr, h1, h2⟩ := floods_both links (by omega) nodes a
    exact ev_neg h (ev_bind h1 (ev_bind h2 (ev_bind awake_ev (ev_tt (ev_bind (ints_ev r.1 (by omega)) (ev_tt (ev_some (by simp))))))))
end Go.Proofs.YtfikhfahpdhjbaaDoor.Pure
