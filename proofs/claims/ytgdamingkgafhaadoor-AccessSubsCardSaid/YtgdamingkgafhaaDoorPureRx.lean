/- What the printed reference's Expand answers. -/
import Derived.Test.YtgdamingkgafhaaDoorPx16
import Derived.Test.YtgdamingkgafhaaDoorPureX
import Derived.Test.YtgdamingkgafhaaDoorPureJ
-- needs: brokerref20_Expand
namespace Go.Proofs.YtgdamingkgafhaaDoor.Pure
open Go.RowKit Go.Proofs.YtgdamingkgafhaaDoor.P Go.Proofs.YtgdamingkgafhaaDoorW.PrintWords Go.Proofs.YtgdamingkgafhaaDoorW.PrintLast Go.Proofs.YtgdamingkgafhaaDoor.Ext

theorem refexpand_l0 (c u : BA) (L : List BA) (hL : L.length ≤ 2048) (hc : c.size ≤ 4096) (hu : u.size ≤ 4096) (hs : ∀ x ∈ L, x.size ≤ 4096) : ∀ (r : List BA) (i : Nat) (out : List BA), L.drop i = r → i ≤ L.length → out = expL c u (L.take i) →
    Ev (fun k => brokerref20_Expand.l0 k L out (i : Int) c u) (mkB (Lib.join ((expL c u L).map toL) [47])) := by
  intro r
  induction r with
  | nil =>
    intro i out hd hi ho
    have := drop_nil hd
    have hlen : out.length ≤ 2048 := by rw [ho, expL, List.length_map, List.length_take]; omega
    have hsm : ∀ x ∈ out, x.size ≤ 4096 := by rw [ho]; exact exp_small hc hu (fun x hx => hs x (List.mem_of_mem_take hx))
    refine ev_succ ?_
    simp only [brokerref20_Expand.l0]
    refine ev_neg (by omega) (ev_bind (refjoin_ev out hlen (fun j hj => ?_)) (ev_some ?_))
    · rw [List.getD_eq_getElem?_getD, List.getElem?_eq_getElem hj]
      exact hsm _ (List.getElem_mem hj)
    · rw [ho, List.take_of_length_le this]
  | cons a ar ih =>
    intro i out hd hi ho
    obtain ⟨hlt, ha, hd2⟩ := drop_cons ByteArray.empty hd
    have hlen : out.length ≤ 2048 := by rw [ho, expL, List.length_map, List.length_take]; omega
    have hout : out ++ [exp1 c u a] = expL c u (L.take (i + 1)) := by
      rw [ho, List.take_succ_eq_append_getElem hlt, expL, expL, List.map_append]
      congr 1
      rw [List.getD_eq_getElem?_getD, List.getElem?_eq_getElem hlt] at ha
      have ha' : L[i] = a := ha
      rw [ha']
      rfl
    have next := ih (i + 1) _ hd2 (by omega) hout
    refine ev_succ ?_
    simp only [brokerref20_Expand.l0, rd_get, ha]
    refine ev_pos (by omega) (ev_pos (by omega) ?_)
    rw [w64 (by omega) (by omega), show (i : Int) + 1 = ((i + 1 : Nat) : Int) from by omega]
    by_cases h1 : a.toList = ([37, 99] : List UInt8)
    · refine ev_pos h1 (ev_pos (by omega) ?_)
      rw [show exp1 c u a = c from by unfold exp1; rw [if_pos h1]] at next
      exact next
    · refine ev_neg h1 ?_
      by_cases h2 : a.toList = ([37, 117] : List UInt8)
      · refine ev_pos h2 (ev_pos (by omega) ?_)
        rw [show exp1 c u a = u from by unfold exp1; rw [if_neg h1, if_pos h2]] at next
        exact next
      · refine ev_neg h2 (ev_pos (by omega) ?_)
        rw [show exp1 c u a = a from by unfold exp1; rw [if_neg h1, if_neg h2]] at next
        exact next
theorem refexpand_ev (f c u : BA) (hf : f.size ≤ 1000) (hc : c.size ≤ 64) (hu : u.size ≤ 64) : Ev (fun k => brokerref20_Expand.f k f c u) (expB c u f) := by
  have hl : (levels f).length ≤ 1001 := by have := levels_len f; omega
  simp only [brokerref20_Expand.f]
  refine ev_bind (lev_ev f (by omega)) ?_
  exact refexpand_l0 c u (levels f) (by omega) (by omega) (by omega) (fun x hx => by have := levels_size f x hx; omega) (levels f) 0 _ rfl (Nat.zero_le _) rfl
end Go.Proofs.YtgdamingkgafhaaDoor.Pure
