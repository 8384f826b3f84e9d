
/- What the printed reference's Join answers. -/
import Derived.Test.YtegcobkhejpmkaaDoorPx20
import Derived.Test.YtegcobkhejpmkaaDoorPureM
namespace Go.Proofs.YtegcobkhejpmkaaDoor.Pure
open Go.RowKit Go.Proofs.YtegcobkhejpmkaaDoor.P Go.Proofs.YtegcobkhejpmkaaDoorW.PrintWords Go.Proofs.YtegcobkhejpmkaaDoorW.PrintLast Go.Proofs.YtegcobkhejpmkaaDoor.Ext

theorem refjoin_l0 (l : List ByteArray) (hl : l.length ≤ 2048) (hx : ∀ i, i < l.length → (l.getD i ByteArray.empty).size ≤ 4096) : ∀ d, d ≤ l.length →
    Ev (fun k => brokerref01_Join.l0 k l (mkB (Lib.join ((l.take (l.length - d)).map toL) [47])) ((l.length - d : Nat) : Int)) (mkB (Lib.join (l.map toL) [47])) := by
  intro d
  induction d with
  | zero =>
    intro _
    refine ev_succ ?_
    simp only [brokerref01_Join.l0]
    refine ev_neg (by omega) (ev_some ?_)
    rw [Nat.sub_zero, List.take_length]
  | succ d ih =>
    intro hd
    have ih' := ih (by omega)
    have hi : l.length - (d + 1) < l.length := by omega
    have hxi := hx _ hi
    have erd : rdOf ByteArray.empty l ((l.length - (d + 1) : Nat) : Int) = l.getD (l.length - (d + 1)) ByteArray.empty := rfl
    have etk : l.take (l.length - d) = l.take (l.length - (d + 1)) ++ [l.getD (l.length - (d + 1)) ByteArray.empty] := by
      rw [show l.length - d = (l.length - (d + 1)) + 1 by omega, List.take_succ_eq_append_getElem hi, List.getD_eq_getElem?_getD, List.getElem?_eq_getElem hi]
      rfl
    have hlen : (Lib.join ((l.take (l.length - (d + 1))).map toL) [47]).length ≤ 4097 * 2048 := by
      have := joined_len ((l.take (l.length - (d + 1))).map toL) 47 4096 (fun x hxm => by
        obtain ⟨s, hs, rfl⟩ := List.mem_map.1 hxm
        obtain ⟨j, hj⟩ := List.mem_iff_getElem?.1 (List.mem_of_mem_take hs)
        have hjl := (List.getElem?_eq_some_iff.1 hj).1
        have := hx j hjl
        rw [List.getD_eq_getElem?_getD, hj] at this
        rw [toL_len]
        exact this)
      rw [List.length_map, List.length_take] at this
      refine Nat.le_trans this (Nat.mul_le_mul_left _ (by omega))
    refine ev_succ ?_
    simp only [brokerref01_Join.l0]
    refine ev_pos (by omega) ?_
    rw [erd, w64 (by omega) (by omega), show (((l.length - (d + 1) : Nat) : Int) + 1) = ((l.length - d : Nat) : Int) by omega]
    rw [etk, List.map_append] at ih'
    by_cases h0 : 0 < l.length - (d + 1)
    · have hne : (l.take (l.length - (d + 1))).map toL ≠ [] := by
        intro h
        have := congrArg List.length h
        rw [List.length_map, List.length_take] at this
        simp at this
        omega
      refine ev_pos (by omega) (ev_pos (by rw [size_mk]; omega) (ev_pos (by omega) (ev_pos ?_ ?_)))
      · rw [append_eq, size_mk, List.length_append, toL_mk, toL_len]
        show _ + 1 + _ ≤ _
        omega
      · have e : (mkB (Lib.join ((l.take (l.length - (d + 1))).map toL) [47]) ++ (⟨#[47]⟩ : ByteArray)) ++ l.getD (l.length - (d + 1)) ByteArray.empty = mkB (Lib.join ((l.take (l.length - (d + 1))).map toL ++ [l.getD (l.length - (d + 1)) ByteArray.empty].map toL) [47]) := by
          rw [show [l.getD (l.length - (d + 1)) ByteArray.empty].map toL = [toL (l.getD (l.length - (d + 1)) ByteArray.empty)] from rfl, join_snoc _ _ _ hne, append_eq, append_eq, toL_mk, toL_mk]
          congr 1
          show (_ ++ [47]) ++ _ = _
          simp
        rw [e]
        exact ih'
    · have hz : l.length - (d + 1) = 0 := by omega
      refine ev_neg (by omega) (ev_pos (by omega) (ev_pos ?_ ?_))
      · rw [size_mk]; omega
      · have e : mkB (Lib.join ((l.take (l.length - (d + 1))).map toL) [47]) ++ l.getD (l.length - (d + 1)) ByteArray.empty = mkB (Lib.join ((l.take (l.length - (d + 1))).map toL ++ [l.getD (l.length - (d + 1)) ByteArray.empty].map toL) [47]) := by
          rw [hz, List.take_zero, append_eq, toL_mk]
          congr 1
          show Lib.join [] [47] ++ _ = Lib.join ([] ++ [toL _]) [47]
          rw [Lib.join_nil, List.nil_append, List.nil_append, Lib.join_one]
        rw [e]
        exact ih'
theorem refjoin_ev (l : List ByteArray) (hl : l.length ≤ 2048) (hx : ∀ i, i < l.length → (l.getD i ByteArray.empty).size ≤ 4096) : Ev (fun k => brokerref01_Join.f k l) (mkB (Lib.join (l.map toL) [47])) := by
  have := refjoin_l0 l hl hx l.length (Nat.le_refl _)
  rw [Nat.sub_self, List.take_zero] at this
  simp only [brokerref01_Join.f]
  exact this
end Go.Proofs.YtegcobkhejpmkaaDoor.Pure
