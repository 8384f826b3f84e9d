/- access.Allowed, walked. -/
import Derived.Test.YtgdamingkgafhaaDoorPx2
import Derived.Test.YtgdamingkgafhaaDoorHandB
-- needs: match_Matches
namespace Go.Proofs.YtgdamingkgafhaaDoor.P
open Go.RowKit Go.Proofs.YtgdamingkgafhaaDoorW.PrintWords Go.Proofs.YtgdamingkgafhaaDoorW.PrintLast Go.Proofs.YtgdamingkgafhaaDoorW.PrintMore
attribute [local go_sem] max2_int min2_int max_two min_two max_three min_three max_four min_four   -- for this text's walks alone
set_option linter.unusedVariables false
set_option linter.unusedSimpArgs false

/-- What the first element that answers true gives; none if one has no answer. -/
def allF (P : S42 → Option Bool) (l : List S42) (fin : S42 → Option Bool) : Option Bool :=
  if l.all (fun r => (P r).isSome) = true then (match l.find? (fun r => (P r).getD false) with | none => some false | some r => fin r) else none
theorem allF_mono {P P' : S42 → Option Bool} {l : List S42} {fin fin' : S42 → Option Bool} (h : ∀ r, LeO (P r) (P' r)) (hf : ∀ r, LeO (fin r) (fin' r)) : LeO (allF P l fin) (allF P' l fin') := by
  intro r hr
  unfold allF at hr ⊢
  split at hr
  · rename_i ha
    have same : ∀ x ∈ l, P' x = P x := fun x hx => by
      have := List.all_eq_true.1 ha x hx
      obtain ⟨b, hb⟩ := Option.isSome_iff_exists.1 this
      rw [hb]
      exact h x b hb
    have e1 : l.all (fun r => (P' r).isSome) = true := List.all_eq_true.2 fun x hx => by rw [same x hx]; exact List.all_eq_true.1 ha x hx
    have e2 : ∀ m : List S42, (∀ x ∈ m, P' x = P x) → m.find? (fun r => (P' r).getD false) = m.find? (fun r => (P r).getD false) := by
      intro m
      induction m with
      | nil => intro _; rfl
      | cons x xs ih =>
        intro hm
        simp only [List.find?]
        rw [hm x (List.mem_cons_self ..), ih fun y hy => hm y (List.mem_cons_of_mem _ hy)]
    rw [if_pos e1, e2 l same]
    split at hr
    · exact hr
    · rename_i x hx
      exact hf x r hr
  · cases hr
theorem ruleF_mono (c u : ByteArray) (a : Int) (r : S42) (k : Nat) {q q' : ByteArray → Option Bool} (h : ∀ s, LeO (q s) (q' s)) : LeO (ruleF k c u a r q) (ruleF (k + 1) c u a r q') := by
  unfold ruleF
  refine LeO.ite (LeO.ite (LeO.bind (access_Expand.mono _ _ _ k) h) (LeO.refl _)) (LeO.refl _)

theorem allowed1 (k : Nat) (obj : ByteArray) (B : Nat) (w : World) (hB : B < w.heap.size) (hc : w.cell? ⟨B, 0, none⟩ = some (.string obj)) (W : World) (s : ByteArray) (b : Bool) (hb : Below w.heap.size w W) (h : match_Matches.f k s obj = some b) :
    Calls Tryd.prog 35 (#[.string s] ++ #[.pointer (some ⟨B, 0, none⟩)]) W fun e w' => e = .returned (.bool b) ∧ Below W.heap.size W w' := by
  have hc' : W.cell? ⟨B, 0, none⟩ = some (.string obj) := (hb.cell (p := ⟨B, 0, none⟩) hB).trans hc
  show Calls Tryd.prog 35 #[.string s, .pointer (some ⟨B, 0, none⟩)] W _
  clear hb hc hB
  go_enter Tryd.func35, Tryd.ntmps35
  go_wp2_with (go_at_call 36; refine (match_Matches.calls k s obj b _ h).mono ?_; rintro e w' ⟨rfl, hb⟩)
  go_ret
  exact ⟨rfl, hb⟩

theorem Allowed_calls (k : Nat) (A0 : Option Addr) (c0 : Nat) (l0 : List S42) (a1_0 a1_1 : ByteArray) (a2 : Int) (a3 : ByteArray) (r : Bool) (w : World) (hr0 : Kd.C k42 w A0 l0.length l0) (hc0 : l0.length ≤ c0)
    (h : allF (fun r => ruleF k a1_0 a1_1 a2 r (fun e => match_Matches.f k e a3)) l0 (fun r => some r.f0) = some r) :
    Calls Tryd.prog 17 #[.slice A0 l0.length c0, .agg #[.string a1_0, .string a1_1], .int .i64 a2, .string a3] w fun e w' => e = .returned (.bool r) ∧ Below w.heap.size w w' := by
  have e35 : ∀ args W, (callFunc 35 args).run Tryd.prog W = .ok (.enter 35 args) W := enters_of Tryd.func35 (by kernel_rfl) rfl
  obtain ⟨W1, hW1⟩ : ∃ W1, W1 = w.alloc (.cells #[.string a1_0, .string a1_1] 28) := ⟨_, rfl⟩
  obtain ⟨W2, hW2⟩ : ∃ W2, W2 = W1.alloc (.cells #[.string a3] 9) := ⟨_, rfl⟩
  have s1 : W1.heap.size = w.heap.size + 1 := by rw [hW1]; simp
  have s2 : W2.heap.size = w.heap.size + 2 := by rw [hW2]; simp [s1]
  have hb1 : Below w.heap.size w W1 := hW1 ▸ (Below.refl _ w).alloc (Nat.le_refl _) _
  have hb2 : Below w.heap.size w W2 := hW2 ▸ hb1.alloc (by omega) _
  have c2 : W2.cell? ⟨w.heap.size + 1, 0, none⟩ = some (.string a3) := by rw [hW2, ← s1]; simp
  unfold allF at h
  split at h
  · rename_i ha
    have hc := first_calls k a1_0 a1_1 a2 (fun e => match_Matches.f k e a3) 35 #[.pointer (some ⟨w.heap.size + 1, 0, none⟩)] e35 A0 c0 l0 W2 (Kd.C_below hr0 hb2) hc0 (fun W s b hb hs => allowed1 k a3 (w.heap.size + 1) W2 (by omega) c2 W s b hb hs) (List.all_eq_true.1 ha)
    have hfin : r = (((l0.find? fun x => (ruleF k a1_0 a1_1 a2 x (fun e => match_Matches.f k e a3)).getD false).isSome) && ((l0.find? fun x => (ruleF k a1_0 a1_1 a2 x (fun e => match_Matches.f k e a3)).getD false).getD z42).f0) := by
      split at h
      · rename_i hn
        rw [hn]
        exact (Option.some.inj h).symm
      · rename_i x hx
        rw [hx]
        exact (Option.some.inj h).symm
    generalize l0.find? (fun x => (ruleF k a1_0 a1_1 a2 x (fun e => match_Matches.f k e a3)).getD false) = o at hc hfin
    have hres : ∀ w', Below W2.heap.size W2 w' → Below w.heap.size w w' := fun w' hb => hb2.trans (hb.mono (by omega))
    generalize hx : o.getD z42 = x at hc hfin
    generalize o.isSome = m at hc hfin
    subst hW2; subst hW1
    clear h ha c2 hb1 hb2 s1 s2
    subst hfin
    replace hc : Calls Tryd.prog 34 _ _ fun e w' => e = .returned (.tuple #[.agg #[.bool x.f0, .string x.f1, .int .i64 x.f2, .string x.f3], .bool m]) ∧ Below _ _ w' := hc
    go_enter Tryd.func17, Tryd.ntmps17
    cases m with
    | true =>
      go_wp2_with (go_at_call 34; refine hc.mono ?_; rintro e w' ⟨rfl, hb'⟩; have hbw := hres _ hb'; clear hb' hres hc)
      go_ret
      exact ⟨rfl, hbw.alloc hbw.size _⟩
    | false =>
      go_wp2_with (go_at_call 34; refine hc.mono ?_; rintro e w' ⟨rfl, hb'⟩; have hbw := hres _ hb'; clear hb' hres hc)
      go_ret
      exact ⟨rfl, hbw.alloc hbw.size _⟩
  · cases h
end Go.Proofs.YtgdamingkgafhaaDoor.P
