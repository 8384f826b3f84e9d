/- What the printed reference's Allowed answers. -/
import Derived.Test.YtgdamingkgafhaaDoorPx22
import Derived.Test.YtgdamingkgafhaaDoorPx23
import Derived.Test.YtgdamingkgafhaaDoorPureY
import Derived.Test.YtgdamingkgafhaaDoorPureRx
import Derived.Test.YtgdamingkgafhaaDoorPureR
-- needs: brokerref20_Allowed brokerref20_applies
namespace Go.Proofs.YtgdamingkgafhaaDoor.Pure
open Go.RowKit Go.Proofs.YtgdamingkgafhaaDoor.P Go.Proofs.YtgdamingkgafhaaDoorW.PrintWords Go.Proofs.YtgdamingkgafhaaDoorW.PrintLast Go.Proofs.YtgdamingkgafhaaDoor.Ext

theorem refapplies_val (r : S42) (u : BA) (a : Int) : brokerref20_applies.f r.f0 r.f1 r.f2 r.f3 u a = some (appliesB u a r) := by
  have act : (if r.f2 = 0 then some true else some (r.f2 == a)) = some (decide (r.f2 = 0) || decide (r.f2 = a)) := by
    by_cases h : r.f2 = 0
    · rw [if_pos h, decide_eq_true h]; rfl
    · rw [if_neg h, decide_eq_false h, Bool.false_or]; rfl
  unfold brokerref20_applies.f appliesB
  by_cases h1 : r.f1.toList = ([42] : List UInt8)
  · rw [if_pos h1, act, decide_eq_true h1]; rfl
  · rw [if_neg h1]
    by_cases h2 : r.f1.toList = u.toList
    · rw [if_pos h2, act, decide_eq_true h2, decide_eq_false h1]; rfl
    · rw [if_neg h2, decide_eq_false h1, decide_eq_false h2]; rfl
theorem first_cons (p fin : S42 → Bool) (a : S42) (ar : List S42) : firstB p fin (a :: ar) = if p a = true then fin a else firstB p fin ar := by
  unfold firstB
  rw [List.find?]
  cases p a <;> rfl
theorem refallowed_l0 (l : List S42) (hn : l.length ≤ 1000000) (hl : Short l) (c u : BA) (a : Int) (o : BA) (hc : c.size ≤ 64) (hu : u.size ≤ 64) (ho : o.size ≤ 9223372036854775806) : ∀ (rs : List S42) (i : Nat), l.drop i = rs → i ≤ l.length →
    Ev (fun k => brokerref20_Allowed.l0 k l a o (i : Int) c u) (allowB c u a o rs) := by
  intro rs
  induction rs with
  | nil =>
    intro i hd hi
    have := drop_nil hd
    refine ev_succ ?_
    simp only [brokerref20_Allowed.l0]
    exact ev_neg (by omega) (ev_some rfl)
  | cons r ar ih =>
    intro i hd hi
    obtain ⟨hlt, ha, hd2⟩ := drop_cons z42 hd
    have hm : r ∈ l := List.mem_of_mem_drop (by rw [hd]; exact List.mem_cons_self ..)
    have next := ih (i + 1) hd2 (by omega)
    refine ev_succ ?_
    simp only [brokerref20_Allowed.l0, rdT, ha]
    refine ev_pos (by omega) (ev_pos (by omega) (ev_const (refapplies_val r u a) ?_))
    rw [w64 (by omega) (by omega), show (i : Int) + 1 = ((i + 1 : Nat) : Int) from by omega]
    rw [show allowB c u a o (r :: ar) = if allowP c u a o r = true then r.f0 else allowB c u a o ar from first_cons _ _ _ _]
    unfold allowP
    refine ev_if (fun hp => ?_) (fun hp => ?_)
    · rw [hp, Bool.true_and]
      refine ev_bind (refexpand_ev r.f3 c u (by have := hl r hm; omega) hc hu) (ev_bind (refmatches_ev _ o (expB_size r.f3 c u (by have := hl r hm; omega) hc hu) ho) ?_)
      cases matchB (expB c u r.f3) o
      · exact ev_ff next
      · exact ev_tt (ev_some rfl)
    · rw [hp, Bool.false_and]
      exact next
theorem refallowed_ev (l : List S42) (hn : l.length ≤ 1000000) (hl : Short l) (c u : BA) (a : Int) (o : BA) (hc : c.size ≤ 64) (hu : u.size ≤ 64) (ho : o.size ≤ 9223372036854775806) : Ev (fun k => brokerref20_Allowed.f k l c u a o) (allowB c u a o l) := by
  simp only [brokerref20_Allowed.f]
  exact refallowed_l0 l hn hl c u a o hc hu ho l 0 rfl (Nat.zero_le _)
theorem light_is {c u s : BA} (h : lightB c u s = true) : c.size ≤ 64 ∧ u.size ≤ 64 ∧ s.size ≤ 1000 := of_decide_eq_true h
end Go.Proofs.YtgdamingkgafhaaDoor.Pure
