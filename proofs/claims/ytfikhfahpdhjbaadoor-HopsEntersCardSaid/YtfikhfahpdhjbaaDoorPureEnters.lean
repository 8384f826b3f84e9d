/- HopsEnters, plain. -/
import Derived.Test.YtfikhfahpdhjbaaDoorPx16
import Derived.Test.YtfikhfahpdhjbaaDoorPureHops
import Derived.Test.YtfikhfahpdhjbaaDoorPureAw
import Derived.Test.YtfikhfahpdhjbaaDoorKinds
-- needs: brokerlaw46_HopsEnters
namespace Go.Proofs.YtfikhfahpdhjbaaDoor.Pure
open Go Go.RowKit Go.Proofs.YtfikhfahpdhjbaaDoor.P Go.Proofs.YtfikhfahpdhjbaaDoorW.PrintWords Go.Proofs.YtfikhfahpdhjbaaDoorW.PrintLast Go.Proofs.YtfikhfahpdhjbaaDoor.Ext
theorem HopsEnters' (m : Br.S24) {N : Nat} (_ : (m.f0.size ≤ N ∧ m.f0.size ≤ maxLen) ∧ (m.f1.size ≤ N ∧ m.f1.size ≤ maxLen) ∧ (Lit.int .i64 m.f2).wf = true ∧ True ∧ (Lit.int .i64 m.f4).wf = true ∧ (Lit.int .i64 m.f5).wf = true ∧ (m.f6.size ≤ N ∧ m.f6.size ≤ maxLen) ∧ (Lit.int .i64 m.f7).wf = true ∧ (m.f8.length ≤ N ∧ m.f8.length ≤ maxLen ∧ ∀ y ∈ m.f8, (y.f0.size ≤ N ∧ y.f0.size ≤ maxLen) ∧ (y.f1.size ≤ N ∧ y.f1.size ≤ maxLen))) (x : ByteArray) (hx : x.size ≤ 140737488351232) :
    ∃ k, brokerlaw46_HopsEnters.f k m.f0 m.f1 m.f2 m.f3 m.f4 m.f5 m.f6 m.f7 m.f8 x = some true := by
  suffices h : Ev (fun k => brokerlaw46_HopsEnters.f k m.f0 m.f1 m.f2 m.f3 m.f4 m.f5 m.f6 m.f7 m.f8 x) true from h.rounds
  obtain ⟨a, b, c, d, e, f, g, h, l⟩ := m
  dsimp only
  simp only [brokerlaw46_HopsEnters.f]
  refine ev_bind (light_ev a b c d e f g h l) (ev_if (fun hlt => ?_) (fun _ => ev_bind awake_ev (ev_some rfl)))
  have hl := light_len hlt
  have hv := val_small (light_val hlt)
  have hlen : (enterR a b c d e f g h l x).2.2.2.2.2.2.2.2.1.length ≤ 2000 := by
    unfold enterR
    split
    · have := setL_len pathK ⟨pathK, newV l x⟩ l
      show (setL pathK ⟨pathK, newV l x⟩ l).length ≤ 2000
      omega
    · exact Nat.zero_le _
  have hend : (enterR a b c d e f g h l x).2.2.2.2.2.2.2.2.2 = 0 → Ev (fun k => hops_Passed.f k (enterR a b c d e f g h l x).1 (enterR a b c d e f g h l x).2.1 (enterR a b c d e f g h l x).2.2.1 (enterR a b c d e f g h l x).2.2.2.1 (enterR a b c d e f g h l x).2.2.2.2.1 (enterR a b c d e f g h l x).2.2.2.2.2.1 (enterR a b c d e f g h l x).2.2.2.2.2.2.1 (enterR a b c d e f g h l x).2.2.2.2.2.2.2.1 (enterR a b c d e f g h l x).2.2.2.2.2.2.2.2.1 x) true := by
    intro h0
    have hE : enterE l x = 0 := by
      unfold enterR at h0
      split at h0
      · assumption
      · exact h0
    obtain ⟨hn, _, h8, hs⟩ := enter_ok hE
    have hR : enterR a b c d e f g h l x = (a, b, c, d, e, f, g, h, setL pathK ⟨pathK, newV l x⟩ l, 0) := by
      unfold enterR
      rw [if_pos hE]
    rw [hR]
    dsimp only
    have hvs := val_setL l (newV l x)
    have hsl := setL_len pathK ⟨pathK, newV l x⟩ l
    have hpn := path_new l x hn _ hvs
    have := passed_ev a b c d e f g h (setL pathK ⟨pathK, newV l x⟩ l) x (by omega) (by rw [hvs]; omega)
    rw [hpn] at this
    have e : inB x (pathL l ++ [x]) = true := by
      unfold inB
      rw [List.any_append, List.any_cons, beq_self_eq_true, Bool.true_or, Bool.or_true]
    rw [e] at this
    exact this
  refine ev_bind (enter_ev a b c d e f g h l x (by omega) hv (by omega)) (ev_bind (refenter_ev a b c d e f g h l x (by omega) hv) (ev_bind awake_ev (ev_tt (ev_pos rfl (ev_bind (msame_ev _ _ _ _ _ _ _ _ _ hlen) (ev_tt ?_))))))
  by_cases h0 : (enterR a b c d e f g h l x).2.2.2.2.2.2.2.2.2 = 0
  · exact ev_pos h0 (ev_bind (hend h0) (ev_some rfl))
  · exact ev_neg h0 (ev_some rfl)
end Go.Proofs.YtfikhfahpdhjbaaDoor.Pure
