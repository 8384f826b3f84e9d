/- The reference's Shadowed, and the law AccessShadows over the printed functions. -/
import Derived.Test.YtgdamingkgafhaaDoorPx26
import Derived.Test.YtgdamingkgafhaaDoorPx29
import Derived.Test.YtgdamingkgafhaaDoorPx30
import Derived.Test.YtgdamingkgafhaaDoorPx31
import Derived.Test.YtgdamingkgafhaaDoorPx32
import Derived.Test.YtgdamingkgafhaaDoorPureZ
import Derived.Test.YtgdamingkgafhaaDoorPureC
-- needs: brokerlaw20_AccessShadows brokerref20_Shadowed brokerref20_hides brokerref20_plain brokerref13_Ints
namespace Go.Proofs.YtgdamingkgafhaaDoor.Pure
open Go.RowKit Go.Proofs.YtgdamingkgafhaaDoor.P Go.Proofs.YtgdamingkgafhaaDoorW.PrintWords Go.Proofs.YtgdamingkgafhaaDoorW.PrintLast Go.Proofs.YtgdamingkgafhaaDoor.Ext

theorem plain_l0 (L : List BA) (hL : L.length ≤ 1000000) : ∀ (r : List BA) (i : Nat), L.drop i = r → i ≤ L.length →
    Ev (fun k => brokerref20_plain.l0 k L (i : Int)) (!hasL cB r && !hasL uB r) := by
  intro r
  induction r with
  | nil =>
    intro i hd hi
    have := drop_nil hd
    refine ev_succ ?_
    simp only [brokerref20_plain.l0]
    exact ev_neg (by omega) (ev_some rfl)
  | cons a ar ih =>
    intro i hd hi
    obtain ⟨hlt, ha, hd2⟩ := drop_cons ByteArray.empty hd
    have next := ih (i + 1) hd2 (by omega)
    refine ev_succ ?_
    simp only [brokerref20_plain.l0, rd_get, ha]
    refine ev_pos (by omega) (ev_pos (by omega) ?_)
    rw [w64 (by omega) (by omega), show (i : Int) + 1 = ((i + 1 : Nat) : Int) from by omega]
    have ec : cB.toList = ([37, 99] : List UInt8) := by rw [toList_toL]; rfl
    have eu : uB.toList = ([37, 117] : List UInt8) := by rw [toList_toL]; rfl
    unfold hasL at next ⊢
    rw [List.any_cons, List.any_cons, ec, eu]
    by_cases h1 : a.toList = ([37, 99] : List UInt8)
    · rw [h1]
      exact ev_pos rfl (ev_some (by simp))
    · refine ev_neg h1 ?_
      rw [decide_eq_false fun h => h1 h.symm, Bool.false_or]
      by_cases h2 : a.toList = ([37, 117] : List UInt8)
      · rw [h2]
        exact ev_pos rfl (ev_some (by simp))
      · refine ev_neg h2 ?_
        rw [decide_eq_false fun h => h2 h.symm, Bool.false_or]
        rw [ec, eu] at next
        exact next
theorem plain_ev (f : BA) (hf : f.size ≤ 64) : Ev (fun k => brokerref20_plain.f k f) (steadyB f) := by
  have hl := lev_len hf
  simp only [brokerref20_plain.f]
  exact ev_bind (lev_ev f (by omega)) (plain_l0 (levels f) (by omega) (levels f) 0 rfl (Nat.zero_le _))
def hideR (b a : S42) : Bool := preB a b && (sameB a b || (steadyB a.f3 && (steadyB b.f3 && coverB a.f3 b.f3)))
theorem hides_ev (a b : S42) (ha : a.f3.size ≤ 64) (hb : b.f3.size ≤ 64) : Ev (fun k => brokerref20_hides.f k a.f0 a.f1 a.f2 a.f3 b.f0 b.f1 b.f2 b.f3) (hideR b a) := by
  have j : ∀ p : Bool, Ev (fun k => brokerref20_hides.j0 k (!p) a.f0 a.f1 a.f2 a.f3 b.f0 b.f1 b.f2 b.f3) (p && (sameB a b || (steadyB a.f3 && (steadyB b.f3 && coverB a.f3 b.f3)))) := by
    intro p
    refine ev_succ ?_
    cases p
    · simp only [brokerref20_hides.j0, Bool.not_false, if_true]
      exact ev_some rfl
    · simp only [brokerref20_hides.j0, Bool.not_true]
      refine ev_ff ?_
      rw [Bool.true_and]
      by_cases hs : a.f3.toList = b.f3.toList
      · rw [show sameB a b = true from decide_eq_true hs]
        exact ev_pos hs (ev_some rfl)
      · rw [show sameB a b = false from decide_eq_false hs, Bool.false_or]
        refine ev_neg hs (ev_bind (plain_ev a.f3 ha) (ev_if (fun h1 => ?_) (fun h1 => ?_)))
        · rw [h1, Bool.true_and]
          refine ev_bind (plain_ev b.f3 hb) (ev_if (fun h2 => ?_) (fun h2 => ?_))
          · rw [h2, Bool.true_and]
            exact ev_bind (refcovers_ev a.f3 b.f3 (by omega) (by omega)) (ev_some rfl)
          · rw [h2]; exact ev_some rfl
        · rw [h1]; exact ev_some rfl
  have act : Ev (fun k => if a.f2 = 0 then brokerref20_hides.j0 k false a.f0 a.f1 a.f2 a.f3 b.f0 b.f1 b.f2 b.f3 else brokerref20_hides.j0 k (a.f2 != b.f2) a.f0 a.f1 a.f2 a.f3 b.f0 b.f1 b.f2 b.f3) ((decide (a.f2 = 0) || decide (a.f2 = b.f2)) && (sameB a b || (steadyB a.f3 && (steadyB b.f3 && coverB a.f3 b.f3)))) := by
    by_cases h : a.f2 = 0
    · rw [decide_eq_true h, Bool.true_or]
      exact ev_pos h (j true)
    · rw [decide_eq_false h, Bool.false_or]
      refine ev_neg h ?_
      have := j (decide (a.f2 = b.f2))
      rw [show (!decide (a.f2 = b.f2)) = (a.f2 != b.f2) from rfl] at this
      exact this
  unfold hideR preB
  simp only [brokerref20_hides.f]
  by_cases h1 : a.f1.toList = ([42] : List UInt8)
  · rw [decide_eq_true h1, Bool.true_or, Bool.true_and]
    exact ev_pos h1 act
  · rw [decide_eq_false h1, Bool.false_or]
    refine ev_neg h1 ?_
    by_cases h2 : a.f1.toList = b.f1.toList
    · rw [decide_eq_true h2, Bool.true_and]
      exact ev_pos h2 act
    · rw [decide_eq_false h2, Bool.false_and]
      exact ev_neg h2 (j false)
theorem coverL_self : ∀ l : List BA, coverL l l = true
  | [] => rfl
  | a :: ar => by
    unfold coverL
    rw [coverL_self ar, eqB_self a]
    cases isR a <;> cases isP a <;> rfl
theorem coverB_self {f : BA} (h : filterB f = true) : coverB f f = true := by
  unfold coverB
  rw [h, coverL_self]
  cases hs : sysB f
  · rw [Bool.and_false]; rfl
  · rw [sys_not_wild hs]; rfl
theorem hide_shad {a b : S42} (ha : filterB a.f3 = true) : hideR b a = shadR b a := by
  unfold hideR shadR
  congr 1
  by_cases hs : a.f3.toList = b.f3.toList
  · have e : a.f3 = b.f3 := toList_inj hs
    rw [show sameB a b = true from decide_eq_true hs, ← e, coverB_self ha]
    rfl
  · rw [show sameB a b = false from decide_eq_false hs, Bool.false_or, Bool.false_or]
    cases coverB a.f3 b.f3 <;> cases steadyB a.f3 <;> cases steadyB b.f3 <;> rfl
theorem refshad_l (l : List S42) (g : Good l) : ∀ (d i : Nat) (out : List Int), i + d = l.length → out.length ≤ i → Ev (fun k => brokerref20_Shadowed.l0 k l out (i : Int)) (out ++ shIdx l d i)
  | 0, i, out, h, _ => by
    refine ev_succ ?_
    simp only [brokerref20_Shadowed.l0, shIdx, List.append_nil]
    exact ev_neg (by omega) (ev_some rfl)
  | d + 1, i, out, h, ho => by
    have hn := g.1
    have sh := good_short g
    have hi : i < l.length := by omega
    have hm : l.getD i z42 ∈ l := by rw [List.getD_eq_getElem?_getD, List.getElem?_eq_getElem hi]; exact List.getElem_mem hi
    have inner : ∀ (e j : Nat), j + e = i → Ev (fun k => brokerref20_Shadowed.l1 k l out (i : Int) (j : Int)) (if (((l.take i).drop j).any fun x => shadR (l.getD i z42) x) = true then (out ++ [(i : Int)]) ++ shIdx l d (i + 1) else out ++ shIdx l d (i + 1)) := by
      intro e
      induction e with
      | zero =>
        intro j hj
        refine ev_succ ?_
        simp only [brokerref20_Shadowed.l1]
        refine ev_neg (by omega) ?_
        rw [List.drop_eq_nil_of_le (by rw [List.length_take]; omega), w64 (by omega) (by omega), show (i : Int) + 1 = ((i + 1 : Nat) : Int) from by omega]
        exact refshad_l l g d (i + 1) out (by omega) (by omega)
      | succ e ih =>
        intro j hj
        have hjl : j < l.length := by omega
        have hjm : l.getD j z42 ∈ l := by rw [List.getD_eq_getElem?_getD, List.getElem?_eq_getElem hjl]; exact List.getElem_mem hjl
        have hcons : (l.take i).drop j = l.getD j z42 :: (l.take i).drop (j + 1) := by
          rw [List.drop_eq_getElem_cons (by rw [List.length_take]; omega), List.getElem_take, List.getD_eq_getElem?_getD, List.getElem?_eq_getElem hjl]
          rfl
        refine ev_succ ?_
        simp only [brokerref20_Shadowed.l1, rdT]
        refine ev_pos (by omega) (ev_pos (by omega) (ev_pos (by omega) (ev_pos (by omega) (ev_pos (by omega) (ev_bind (hides_ev (l.getD j z42) (l.getD i z42) (sh _ hjm) (sh _ hm)) ?_)))))
        rw [hide_shad (g.2 _ hjm), hcons, List.any_cons]
        refine ev_if (fun hh => ?_) (fun hh => ?_)
        · rw [hh, Bool.true_or, if_pos rfl, w64 (by omega) (by omega), show (i : Int) + 1 = ((i + 1 : Nat) : Int) from by omega]
          exact ev_pos (by omega) (refshad_l l g d (i + 1) (out ++ [(i : Int)]) (by omega) (by simp; omega))
        · rw [hh, Bool.false_or, w64 (by omega) (by omega), show (j : Int) + 1 = ((j + 1 : Nat) : Int) from by omega]
          exact ih (j + 1) (by omega)
    have := inner i 0 (by omega)
    rw [List.drop_zero] at this
    refine ev_succ ?_
    simp only [brokerref20_Shadowed.l0, shIdx]
    refine ev_pos (by omega) ?_
    rw [show (if hidB l i = true then (i : Int) :: shIdx l d (i + 1) else shIdx l d (i + 1)) = (if ((l.take i).any fun x => shadR (l.getD i z42) x) = true then [(i : Int)] ++ shIdx l d (i + 1) else shIdx l d (i + 1)) from rfl]
    cases hh : (l.take i).any fun x => shadR (l.getD i z42) x
    · rw [hh] at this
      exact this
    · rw [hh] at this
      rw [if_pos rfl] at this ⊢
      rw [← List.append_assoc]
      exact this
theorem ints_l0 (a : List Int) (hn : a.length ≤ 1000000) : ∀ (d i : Nat), i + d = a.length → Ev (fun k => brokerref13_Ints.l0 k a a (i : Int)) true
  | 0, i, h => by
    refine ev_succ ?_
    simp only [brokerref13_Ints.l0]
    exact ev_neg (by omega) (ev_some rfl)
  | d + 1, i, h => by
    refine ev_succ ?_
    simp only [brokerref13_Ints.l0]
    refine ev_pos (by omega) (ev_pos (by omega) (ev_pos (by omega) (ev_pos trivial ?_)))
    rw [w64 (by omega) (by omega), show (i : Int) + 1 = ((i + 1 : Nat) : Int) from by omega]
    exact ints_l0 a hn d (i + 1) (by omega)
theorem AccessShadows' (l : List S42) {N : Nat} (_ : l.length ≤ N ∧ l.length ≤ maxLen ∧ ∀ x ∈ l, True ∧ (x.f1.size ≤ N ∧ x.f1.size ≤ maxLen) ∧ (Lit.int .i64 x.f2).wf = true ∧ (x.f3.size ≤ N ∧ x.f3.size ≤ maxLen)) :
    ∃ k, brokerlaw20_AccessShadows.f k l = some true := by
  suffices h : Ev (fun k => brokerlaw20_AccessShadows.f k l) true from h.rounds
  simp only [brokerlaw20_AccessShadows.f]
  refine ev_bind (refcheck_ev l) ?_
  by_cases hk : chkB l = 0
  · have g := good_of hk
    have hn := g.1
    refine ev_pos hk (ev_bind awake_ev (ev_tt (ev_bind (shadowed_ev l (good_short g) (by omega)) (ev_bind (a := shIdx l l.length 0) ?_ (ev_bind (a := true) ?_ (ev_some rfl))))))
    · simp only [brokerref20_Shadowed.f]
      exact refshad_l l g l.length 0 [] (by omega) (Nat.le_refl _)
    · have := shIdx_len l l.length 0
      simp only [brokerref13_Ints.f]
      exact ev_pos trivial (ints_l0 (shIdx l l.length 0) (by omega) (shIdx l l.length 0).length 0 (by omega))
  · exact ev_neg hk (ev_bind awake_ev (ev_some rfl))
end Go.Proofs.YtgdamingkgafhaaDoor.Pure
