/- What the printed functions of access answer: Allowed and Subscribes. -/
import Derived.Test.YtgdamingkgafhaaDoorPureX
namespace Go.Proofs.YtgdamingkgafhaaDoor.Pure
open Go.RowKit Go.Proofs.YtgdamingkgafhaaDoor.P Go.Proofs.YtgdamingkgafhaaDoorW.PrintWords Go.Proofs.YtgdamingkgafhaaDoorW.PrintLast Go.Proofs.YtgdamingkgafhaaDoor.Ext

def appliesB (u : BA) (a : Int) (r : S42) : Bool := (decide (r.f1.toList = ([42] : List UInt8)) || decide (r.f1.toList = u.toList)) && (decide (r.f2 = 0) || decide (r.f2 = a))
theorem applies_iff {u : BA} {a : Int} {r : S42} : appliesB u a r = true ↔ (r.f1.toList = ([42] : List UInt8) ∨ r.f1.toList = u.toList) ∧ (r.f2 = 0 ∨ r.f2 = a) := by
  unfold appliesB
  rw [Bool.and_eq_true, Bool.or_eq_true, Bool.or_eq_true, decide_eq_true_iff, decide_eq_true_iff, decide_eq_true_iff, decide_eq_true_iff]
/-- The first element that answers true gives its word. -/
def firstB (p : S42 → Bool) (fin : S42 → Bool) (l : List S42) : Bool := match l.find? p with | none => false | some r => fin r
def allowP (c u : BA) (a : Int) (o : BA) (r : S42) : Bool := appliesB u a r && matchB (expB c u r.f3) o
def subP (c u : BA) (f : BA) (r : S42) : Bool := appliesB u 2 r && meetB (expB c u r.f3) f
def allowB (c u : BA) (a : Int) (o : BA) (l : List S42) : Bool := firstB (allowP c u a o) (fun r => r.f0) l
def subB (c u : BA) (f : BA) (l : List S42) : Bool := firstB (subP c u f) (fun r => r.f0 && coverB (expB c u r.f3) f) l

theorem rule_ev (c u : BA) (a : Int) (r : S42) (q : Nat → BA → Option Bool) (b : BA → Bool) (hr : r.f3.size ≤ 64) (hc : c.size ≤ 64) (hu : u.size ≤ 64) (hq : Ev (fun k => q k (expB c u r.f3)) (b (expB c u r.f3))) :
    Ev (fun k => ruleF k c u a r (q k)) (appliesB u a r && b (expB c u r.f3)) := by
  simp only [ruleF]
  by_cases h1 : r.f1.toList = ([42] : List UInt8) ∨ r.f1.toList = u.toList
  · refine ev_pos h1 ?_
    by_cases h2 : r.f2 = 0 ∨ r.f2 = a
    · rw [show appliesB u a r = true from applies_iff.2 ⟨h1, h2⟩, Bool.true_and]
      exact ev_pos h2 (ev_bind (expand_ev r.f3 c u (by omega) hc hu) hq)
    · rw [show appliesB u a r = false from Bool.eq_false_iff.2 fun h => h2 (applies_iff.1 h).2]
      exact ev_neg h2 (ev_some rfl)
  · rw [show appliesB u a r = false from Bool.eq_false_iff.2 fun h => h1 (applies_iff.1 h).1]
    exact ev_neg h1 (ev_some rfl)
/-- Finitely many answers come together. -/
theorem ev_all {α : Type} {P : Nat → S42 → Option α} {p : S42 → α} : ∀ (l : List S42), (∀ r ∈ l, Ev (fun k => P k r) (p r)) → ∃ K, ∀ k, K ≤ k → ∀ r ∈ l, P k r = some (p r)
  | [], _ => ⟨0, fun _ _ _ h => by cases h⟩
  | x :: xs, h => by
    obtain ⟨K1, h1⟩ := h x (List.mem_cons_self ..)
    obtain ⟨K2, h2⟩ := ev_all xs fun r hr => h r (List.mem_cons_of_mem _ hr)
    refine ⟨K1 + K2, fun k hk r hr => ?_⟩
    rcases List.mem_cons.1 hr with rfl | hr
    · exact h1 k (by omega)
    · exact h2 k (by omega) r hr
theorem find_same {P : S42 → Option Bool} {p : S42 → Bool} : ∀ (l : List S42), (∀ r ∈ l, P r = some (p r)) → l.find? (fun r => (P r).getD false) = l.find? p
  | [], _ => rfl
  | x :: xs, h => by
    simp only [List.find?]
    rw [h x (List.mem_cons_self ..), find_same xs fun r hr => h r (List.mem_cons_of_mem _ hr)]
    rfl
theorem all_ev (l : List S42) {P : Nat → S42 → Option Bool} {p : S42 → Bool} {F : Nat → S42 → Option Bool} {fin : S42 → Bool} (h : ∀ r ∈ l, Ev (fun k => P k r) (p r)) (hf : ∀ r ∈ l, Ev (fun k => F k r) (fin r)) :
    Ev (fun k => allF (P k) l (F k)) (firstB p fin l) := by
  obtain ⟨K1, h1⟩ := ev_all l h
  obtain ⟨K2, h2⟩ := ev_all l hf
  refine ⟨K1 + K2, fun k hk => ?_⟩
  have e := h1 k (by omega)
  show allF (P k) l (F k) = _
  unfold allF firstB
  rw [if_pos (List.all_eq_true.2 fun x hx => by rw [e x hx]; rfl), find_same l e]
  cases hx : l.find? p with
  | none => rfl
  | some r => exact h2 k (by omega) r (List.mem_of_find?_eq_some hx)
/-- The rules' filters are short. -/
def Short (l : List S42) : Prop := ∀ r ∈ l, r.f3.size ≤ 64
theorem good_short {l : List S42} (h : Good l) : Short l := fun r hr => filter_size (h.2 r hr)
theorem allowed_ev (l : List S42) (hl : Short l) (c u : BA) (a : Int) (o : BA) (hc : c.size ≤ 64) (hu : u.size ≤ 64) (ho : o.size ≤ 9223372036854775806) : Ev (fun k => access_Allowed.f k l c u a o) (allowB c u a o l) := by
  simp only [access_Allowed.f]
  refine all_ev l (P := fun k r => ruleF k c u a r (fun e => match_Matches.f k e o)) (F := fun _ r => some r.f0) (fun r hr => ?_) (fun r _ => ev_some rfl)
  exact rule_ev c u a r (fun k e => match_Matches.f k e o) (fun e => matchB e o) (hl r hr) hc hu (matches_ev _ o (expB_size r.f3 c u (by have := hl r hr; omega) hc hu) ho)
theorem subscribes_ev (l : List S42) (hl : Short l) (c u : BA) (f : BA) (hc : c.size ≤ 64) (hu : u.size ≤ 64) (hf : f.size ≤ 9223372036854775806) : Ev (fun k => access_Subscribes.f k l c u f) (subB c u f l) := by
  simp only [access_Subscribes.f]
  refine all_ev l (P := fun k r => ruleF k c u 2 r (fun e => match_Meets.f k e f)) (F := fun k r => if r.f0 = true then (access_Expand.f k r.f3 c u).bind fun e => match_Covers.f k e f else some false) (fun r hr => ?_) (fun r hr => ?_)
  · exact rule_ev c u 2 r (fun k e => match_Meets.f k e f) (fun e => meetB e f) (hl r hr) hc hu (meets_ev _ f (expB_size r.f3 c u (by have := hl r hr; omega) hc hu) hf)
  · cases r.f0
    · exact ev_ff (ev_some rfl)
    · exact ev_tt (ev_bind (expand_ev r.f3 c u (by have := hl r hr; omega) hc hu) (covers_ev _ f (expB_size r.f3 c u (by have := hl r hr; omega) hc hu) hf))
end Go.Proofs.YtgdamingkgafhaaDoor.Pure
