/- HopsStrips, plain. -/
import Derived.Test.YtfikhfahpdhjbaaDoorPx18
import Derived.Test.YtfikhfahpdhjbaaDoorPureHops
import Derived.Test.YtfikhfahpdhjbaaDoorPureAw
import Derived.Test.YtfikhfahpdhjbaaDoorKinds
-- needs: brokerlaw46_HopsStrips
namespace Go.Proofs.YtfikhfahpdhjbaaDoor.Pure
open Go Go.RowKit Go.Proofs.YtfikhfahpdhjbaaDoor.P Go.Proofs.YtfikhfahpdhjbaaDoorW.PrintWords Go.Proofs.YtfikhfahpdhjbaaDoorW.PrintLast Go.Proofs.YtfikhfahpdhjbaaDoor.Ext
theorem HopsStrips' (m : Br.S24) {N : Nat} (_ : (m.f0.size ≤ N ∧ m.f0.size ≤ maxLen) ∧ (m.f1.size ≤ N ∧ m.f1.size ≤ maxLen) ∧ (Lit.int .i64 m.f2).wf = true ∧ True ∧ (Lit.int .i64 m.f4).wf = true ∧ (Lit.int .i64 m.f5).wf = true ∧ (m.f6.size ≤ N ∧ m.f6.size ≤ maxLen) ∧ (Lit.int .i64 m.f7).wf = true ∧ (m.f8.length ≤ N ∧ m.f8.length ≤ maxLen ∧ ∀ y ∈ m.f8, (y.f0.size ≤ N ∧ y.f0.size ≤ maxLen) ∧ (y.f1.size ≤ N ∧ y.f1.size ≤ maxLen))) (x : ByteArray) (hx : x.size ≤ 140737488351232) :
    ∃ k, brokerlaw46_HopsStrips.f k m.f0 m.f1 m.f2 m.f3 m.f4 m.f5 m.f6 m.f7 m.f8 x = some true := by
  suffices h : Ev (fun k => brokerlaw46_HopsStrips.f k m.f0 m.f1 m.f2 m.f3 m.f4 m.f5 m.f6 m.f7 m.f8 x) true from h.rounds
  obtain ⟨a, b, c, d, e, f, g, h, l⟩ := m
  dsimp only
  simp only [brokerlaw46_HopsStrips.f]
  refine ev_bind (light_ev a b c d e f g h l) (ev_if (fun hlt => ?_) (fun _ => ev_bind awake_ev (ev_some rfl)))
  have hl := light_len hlt
  have hv := val_small (light_val hlt)
  have hfl : (l.filter (keeps pathK)).length ≤ 60 := Nat.le_trans (List.length_filter_le _ _) hl
  have hfv : valL (l.filter (keeps pathK)) = ⟨#[]⟩ := by
    unfold valL getR
    rw [getL_strip]
  have hfp : pathL (l.filter (keeps pathK)) = [] := by
    unfold pathL
    rw [hfv, toList_toL]
    rfl
  refine ev_bind (refstrip_ev a b c d e f g h l (by omega)) (ev_bind (enter_ev a b c d e f g h l x (by omega) hv (by omega)) (ev_bind awake_ev (ev_tt (ev_const (strip_ev a b c d e f g h l (by omega)) (ev_bind (msame_ev a b c d e f g h (l.filter (keeps pathK)) (by omega)) (ev_tt (ev_const (strip_ev a b c d e f g h l (by omega)) (ev_bind (path_ev a b c d e f g h (l.filter (keeps pathK)) (by omega) (by rw [hfv]; exact Nat.zero_le _)) ?_))))))))
  rw [hfp]
  refine ev_pos (by rfl) ?_
  by_cases hE : enterE l x = 0
  · obtain ⟨hn, hs, h8, _⟩ := enter_ok hE
    have hR : enterR a b c d e f g h l x = (a, b, c, d, e, f, g, h, setL pathK ⟨pathK, newV l x⟩ l, 0) := by
      unfold enterR
      rw [if_pos hE]
    have hsl := setL_len pathK ⟨pathK, newV l x⟩ l
    rw [hR]
    dsimp only
    refine ev_pos rfl (ev_const (strip_ev a b c d e f g h _ (by omega)) (ev_bind (a := true) ?_ (ev_some rfl)))
    dsimp only
    rw [strip_setL _ _ _ hs]
    exact msame_ev a b c d e f g h _ (by omega)
  · have hR : (enterR a b c d e f g h l x).2.2.2.2.2.2.2.2.2 = enterE l x := by
      unfold enterR
      rw [if_neg hE]
    rw [hR]
    exact ev_neg hE (ev_some rfl)
end Go.Proofs.YtfikhfahpdhjbaaDoor.Pure
