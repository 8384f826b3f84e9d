/- Printed by a program of this session (wip/tools) over the translation: Go functions as plain Lean functions, and their contracts. -/
import Derived.Test.YtmgmkgnenopelaaDoorPx0
import Derived.Test.YtmgmkgnenopelaaDoorPx1
import Derived.Test.YtmgmkgnenopelaaDoorPx3
namespace Go.Proofs.YtmgmkgnenopelaaDoor.P
open Go.RowKit Go.Proofs.YtmgmkgnenopelaaDoorW.PrintWords Go.Proofs.YtmgmkgnenopelaaDoorW.PrintLast Go.Proofs.YtmgmkgnenopelaaDoorW.PrintMore
attribute [local go_sem] max2_int min2_int max_two min_two max_three min_three max_four min_four   -- for this text's walks alone
set_option linter.unusedVariables false
set_option linter.unusedSimpArgs false

/-! ### match_Common: function 13 -/
mutual
def match_Common.l0 : Nat → List ByteArray → List ByteArray → List ByteArray → Option (ByteArray × Bool)
 | 0, _, _, _ => none
 | k + 1, x6, x7, x8 => if (x6.length : Int) > 0 then (if (x7.length : Int) > 0 then (if 0 < (x6.length : Int) then (if (rdOf ByteArray.empty x6 0).toList = ([35] : List UInt8) then (match_Common.j1 k x6 x7 x8 false) else (if 0 < (x7.length : Int) then (match_Common.j1 k x6 x7 x8 ((rdOf ByteArray.empty x7 0).toList != ([35] : List UInt8))) else (none))) else (none)) else (match_Common.j1 k x6 x7 x8 false)) else (match_Common.j1 k x6 x7 x8 false)
def match_Common.j1 : Nat → List ByteArray → List ByteArray → List ByteArray → Bool → Option (ByteArray × Bool)
 | 0, _, _, _, _ => none
 | k + 1, x6, x7, x8, x40 => if x40 = true then (if 0 < (x6.length : Int) then (if (rdOf ByteArray.empty x6 0).toList = ([43] : List UInt8) then (if 0 < (x7.length : Int) then ((match_plain.f (rdOf ByteArray.empty x7 0)).bind fun t181 => (if x8.length < 8796093022208 then (if 1 ≤ (x6.length : Int) then (if 1 ≤ (x7.length : Int) then (match_Common.l0 k (x6.drop (1 : Int).toNat) (x7.drop (1 : Int).toNat) (x8 ++ [t181])) else (none)) else (none)) else (none))) else (none)) else ((match_plain.f (rdOf ByteArray.empty x6 0)).bind fun t191 => (if x8.length < 8796093022208 then (if 1 ≤ (x6.length : Int) then (if 1 ≤ (x7.length : Int) then (match_Common.l0 k (x6.drop (1 : Int).toNat) (x7.drop (1 : Int).toNat) (x8 ++ [t191])) else (none)) else (none)) else (none)))) else (none)) else (if (x6.length : Int) > 0 then (if 0 < (x6.length : Int) then (match_Common.j2 k x7 x8 x6 ((rdOf ByteArray.empty x6 0).toList == ([35] : List UInt8))) else (none)) else (match_Common.j2 k x7 x8 x6 false))
def match_Common.j2 : Nat → List ByteArray → List ByteArray → List ByteArray → Bool → Option (ByteArray × Bool)
 | 0, _, _, _, _ => none
 | k + 1, x7, x8, x10, x67 => if x67 = true then (match_Common.j3 k x8 x7) else (match_Common.j3 k x8 x10)
def match_Common.j3 : Nat → List ByteArray → List ByteArray → Option (ByteArray × Bool)
 | 0, _, _ => none
 | k + 1, x8, x10 => match_Common.l1 k x8 x10 (x10.length : Int) 0
def match_Common.l1 : Nat → List ByteArray → List ByteArray → Int → Int → Option (ByteArray × Bool)
 | 0, _, _, _, _ => none
 | k + 1, x8, x69, x70, x71 => if x71 < x70 then (if 0 ≤ x71 then (if x71 < (x69.length : Int) then (if (rdOf ByteArray.empty x69 x71).toList = ([35] : List UInt8) then (match_Common.l1 k x8 x69 x70 (wrap64 (x71 + 1))) else ((match_plain.f (rdOf ByteArray.empty x69 x71)).bind fun t203 => (if x8.length < 8796093022208 then (match_Common.l1 k (x8 ++ [t203]) x69 x70 (wrap64 (x71 + 1))) else (none)))) else (none)) else (none)) else (if (x8.length : Int) = 0 then ((topic_Join.f (([(⟨#[120]⟩ : ByteArray)] : List ByteArray))).bind fun t210 => (some (t210, true))) else ((topic_Join.f x8).bind fun t211 => (some (t211, true))))
end
def match_Common.f (k : Nat) (a0 : ByteArray) (a1 : ByteArray) : Option (ByteArray × Bool) := (match_Meets.f k a0 a1).bind fun t170 => (if t170 = true then ((topic_Levels.f a0).bind fun t171 => ((topic_Levels.f a1).bind fun t174 => (match_Common.l0 k t171 t174 ([] : List ByteArray)))) else (some ((⟨#[]⟩ : ByteArray), false)))
theorem match_Common.mono_l : ∀ k, (∀ y0 y1 y2, LeO (match_Common.l0 k y0 y1 y2) (match_Common.l0 (k + 1) y0 y1 y2)) ∧ (∀ y0 y1 y2 y3, LeO (match_Common.j1 k y0 y1 y2 y3) (match_Common.j1 (k + 1) y0 y1 y2 y3)) ∧ (∀ y0 y1 y2 y3, LeO (match_Common.j2 k y0 y1 y2 y3) (match_Common.j2 (k + 1) y0 y1 y2 y3)) ∧ (∀ y0 y1, LeO (match_Common.j3 k y0 y1) (match_Common.j3 (k + 1) y0 y1)) ∧ (∀ y0 y1 y2 y3, LeO (match_Common.l1 k y0 y1 y2 y3) (match_Common.l1 (k + 1) y0 y1 y2 y3))
 | 0 => ⟨fun _ _ _ r h => by simp [match_Common.l0] at h, fun _ _ _ _ r h => by simp [match_Common.j1] at h, fun _ _ _ _ r h => by simp [match_Common.j2] at h, fun _ _ r h => by simp [match_Common.j3] at h, fun _ _ _ _ r h => by simp [match_Common.l1] at h⟩
 | k + 1 => by
  obtain ⟨ih0, ih1, ih2, ih3, ih4⟩ := match_Common.mono_l k
  refine ⟨?_, ?_, ?_, ?_, ?_⟩
  ·intro y0 y1 y2
   unfold match_Common.l0
   repeat' first
   | (with_reducible exact ih0 _ _ _)
   | (with_reducible exact ih1 _ _ _ _)
   | (with_reducible exact ih2 _ _ _ _)
   | (with_reducible exact ih3 _ _)
   | (with_reducible exact ih4 _ _ _ _)
   | (with_reducible exact match_Meets.mono _ _ _)
   | (with_reducible exact LeO.refl _)
   | (with_reducible exact LeO.none _)
   | (with_reducible refine LeO.ite ?_ ?_)
   | (with_reducible refine LeO.bind ?_ (fun _ => ?_))
   | exact ih0 _ _ _
   | exact ih1 _ _ _ _
   | exact ih2 _ _ _ _
   | exact ih3 _ _
   | exact ih4 _ _ _ _
   | exact match_Meets.mono _ _ _
   | exact LeO.none _
   | refine LeO.ite ?_ ?_
   | refine LeO.bind ?_ (fun _ => ?_)
  ·intro y0 y1 y2 y3
   unfold match_Common.j1
   repeat' first
   | (with_reducible exact ih0 _ _ _)
   | (with_reducible exact ih1 _ _ _ _)
   | (with_reducible exact ih2 _ _ _ _)
   | (with_reducible exact ih3 _ _)
   | (with_reducible exact ih4 _ _ _ _)
   | (with_reducible exact match_Meets.mono _ _ _)
   | (with_reducible exact LeO.refl _)
   | (with_reducible exact LeO.none _)
   | (with_reducible refine LeO.ite ?_ ?_)
   | (with_reducible refine LeO.bind ?_ (fun _ => ?_))
   | exact ih0 _ _ _
   | exact ih1 _ _ _ _
   | exact ih2 _ _ _ _
   | exact ih3 _ _
   | exact ih4 _ _ _ _
   | exact match_Meets.mono _ _ _
   | exact LeO.none _
   | refine LeO.ite ?_ ?_
   | refine LeO.bind ?_ (fun _ => ?_)
  ·intro y0 y1 y2 y3
   unfold match_Common.j2
   repeat' first
   | (with_reducible exact ih0 _ _ _)
   | (with_reducible exact ih1 _ _ _ _)
   | (with_reducible exact ih2 _ _ _ _)
   | (with_reducible exact ih3 _ _)
   | (with_reducible exact ih4 _ _ _ _)
   | (with_reducible exact match_Meets.mono _ _ _)
   | (with_reducible exact LeO.refl _)
   | (with_reducible exact LeO.none _)
   | (with_reducible refine LeO.ite ?_ ?_)
   | (with_reducible refine LeO.bind ?_ (fun _ => ?_))
   | exact ih0 _ _ _
   | exact ih1 _ _ _ _
   | exact ih2 _ _ _ _
   | exact ih3 _ _
   | exact ih4 _ _ _ _
   | exact match_Meets.mono _ _ _
   | exact LeO.none _
   | refine LeO.ite ?_ ?_
   | refine LeO.bind ?_ (fun _ => ?_)
  ·intro y0 y1
   unfold match_Common.j3
   repeat' first
   | (with_reducible exact ih0 _ _ _)
   | (with_reducible exact ih1 _ _ _ _)
   | (with_reducible exact ih2 _ _ _ _)
   | (with_reducible exact ih3 _ _)
   | (with_reducible exact ih4 _ _ _ _)
   | (with_reducible exact match_Meets.mono _ _ _)
   | (with_reducible exact LeO.refl _)
   | (with_reducible exact LeO.none _)
   | (with_reducible refine LeO.ite ?_ ?_)
   | (with_reducible refine LeO.bind ?_ (fun _ => ?_))
   | exact ih0 _ _ _
   | exact ih1 _ _ _ _
   | exact ih2 _ _ _ _
   | exact ih3 _ _
   | exact ih4 _ _ _ _
   | exact match_Meets.mono _ _ _
   | exact LeO.none _
   | refine LeO.ite ?_ ?_
   | refine LeO.bind ?_ (fun _ => ?_)
  ·intro y0 y1 y2 y3
   unfold match_Common.l1
   repeat' first
   | (with_reducible exact ih0 _ _ _)
   | (with_reducible exact ih1 _ _ _ _)
   | (with_reducible exact ih2 _ _ _ _)
   | (with_reducible exact ih3 _ _)
   | (with_reducible exact ih4 _ _ _ _)
   | (with_reducible exact match_Meets.mono _ _ _)
   | (with_reducible exact LeO.refl _)
   | (with_reducible exact LeO.none _)
   | (with_reducible refine LeO.ite ?_ ?_)
   | (with_reducible refine LeO.bind ?_ (fun _ => ?_))
   | exact ih0 _ _ _
   | exact ih1 _ _ _ _
   | exact ih2 _ _ _ _
   | exact ih3 _ _
   | exact ih4 _ _ _ _
   | exact match_Meets.mono _ _ _
   | exact LeO.none _
   | refine LeO.ite ?_ ?_
   | refine LeO.bind ?_ (fun _ => ?_)
theorem match_Common.mono : ∀ a0 a1 k, LeO (match_Common.f k a0 a1) (match_Common.f (k + 1) a0 a1) := by
 intro a0 a1 k
 obtain ⟨ih0, ih1, ih2, ih3, ih4⟩ := match_Common.mono_l k
 unfold match_Common.f
 repeat' first
   | (with_reducible exact ih0 _ _ _)
   | (with_reducible exact ih1 _ _ _ _)
   | (with_reducible exact ih2 _ _ _ _)
   | (with_reducible exact ih3 _ _)
   | (with_reducible exact ih4 _ _ _ _)
   | (with_reducible exact match_Meets.mono _ _ _)
   | (with_reducible exact LeO.refl _)
   | (with_reducible exact LeO.none _)
   | (with_reducible refine LeO.ite ?_ ?_)
   | (with_reducible refine LeO.bind ?_ (fun _ => ?_))
   | exact ih0 _ _ _
   | exact ih1 _ _ _ _
   | exact ih2 _ _ _ _
   | exact ih3 _ _
   | exact ih4 _ _ _ _
   | exact match_Meets.mono _ _ _
   | exact LeO.none _
   | refine LeO.ite ?_ ?_
   | refine LeO.bind ?_ (fun _ => ?_)
set_option maxHeartbeats 8000000 in
set_option maxRecDepth 100000 in
theorem match_Common.calls (k : Nat) (a0 : ByteArray) (a1 : ByteArray) (r1 : ByteArray) (r2 : Bool) (w : World) (h : match_Common.f k a0 a1 = some (r1, r2)) :
  Calls Tryd.prog 13 #[.string a0, .string a1] w fun e w' => e = .returned (.tuple #[.string r1, .bool r2]) ∧ Below w.heap.size w w' := by
 have HB := Aside0.mk (Below.refl w.heap.size w)
 have H : ((match_Meets.f k a0 a1).bind fun t170 => (if t170 = true then ((topic_Levels.f a0).bind fun t171 => ((topic_Levels.f a1).bind fun t174 => (match_Common.l0 k t171 t174 ([] : List ByteArray)))) else (some ((⟨#[]⟩ : ByteArray), false)))) = some (r1, r2) := h
 clear h
 replace H := Option.bind_eq_some_iff.mp H
 obtain ⟨t170, A30, H⟩ := H
 replace H : (if t170 = true then ((topic_Levels.f a0).bind fun t171 => ((topic_Levels.f a1).bind fun t174 => (match_Common.l0 k t171 t174 ([] : List ByteArray)))) else (some ((⟨#[]⟩ : ByteArray), false))) = some (r1, r2) := H
 have A3 := Aside0.mk A30
 clear A30
 by_cases c4 : t170 = true
 ·subst c4
  have H1 : ((topic_Levels.f a0).bind fun t171 => ((topic_Levels.f a1).bind fun t174 => (match_Common.l0 k t171 t174 ([] : List ByteArray)))) = some (r1, r2) := by rw [if_pos rfl] at H; exact H
  clear H
  have H := H1
  clear H1
  replace H := Option.bind_eq_some_iff.mp H
  obtain ⟨t171, A50, H⟩ := H
  replace H : ((topic_Levels.f a1).bind fun t174 => (match_Common.l0 k t171 t174 ([] : List ByteArray))) = some (r1, r2) := H
  have A5 := Aside0.mk A50
  clear A50
  replace H := Option.bind_eq_some_iff.mp H
  obtain ⟨t174, A60, H⟩ := H
  replace H : (match_Common.l0 k t171 t174 ([] : List ByteArray)) = some (r1, r2) := H
  have A6 := Aside0.mk A60
  clear A60
  have H' := Aside0.mk H
  clear H
  go_enter Tryd.func13, Tryd.ntmps13
  go_wp2_with (first | (go_at_call 17; (with_reducible refine (match_Meets.calls k a0 a1 true _ A3.out).mono ?_); rintro e w7 ⟨rfl, hb⟩; have n0_ := Aside0.mk (below_step (by repeat (first | (with_reducible first | exact HB.out | apply below_alloc | apply pw_below_drewN | apply below_drew1) | exact HB.out)) hb); clear HB; have HB := n0_; clear n0_; (try clear hb); (try clear hb2); (try clear hk); (try clear hi)) | (go_at_call 28; (with_reducible refine (topic_Levels.calls a0 t171 _ A5.out).mono ?_); rintro e w8 ⟨v172, rfl, ho0, hb⟩; have n0_ := Aside0.mk (Kd.R_lower ho0 (below_size (by repeat (first | (with_reducible first | exact HB.out | apply below_alloc | apply pw_below_drewN | apply below_drew1) | exact HB.out)))); have n1_ := Aside0.mk (below_step (by repeat (first | (with_reducible first | exact HB.out | apply below_alloc | apply pw_below_drewN | apply below_drew1) | exact HB.out)) hb); clear HB; have HO173 := n0_; have HB := n1_; clear n0_ n1_; (try clear hb); (try clear hb2); (try clear hk); (try clear hi); (try clear ho0)) | (go_at_call 28; (with_reducible refine (topic_Levels.calls a1 t174 _ A6.out).mono ?_); rintro e w9 ⟨v175, rfl, ho0, hb⟩; have n0_ := Aside0.mk (Kd.R_elder' (by (with_reducible repeat (first | apply Kd.R_alloc | apply Kd.R_drewN | apply Kd.R_drew)); exact HO173.out) (Kd.R_base ho0) hb); have n1_ := Aside0.mk (Kd.R_lower (Kd.R_new' ho0 (Kd.R_lt (by (with_reducible repeat (first | apply Kd.R_alloc | apply Kd.R_drewN | apply Kd.R_drew)); exact HO173.out))) (below_size (by repeat (first | (with_reducible first | exact HB.out | apply below_alloc | apply pw_below_drewN | apply below_drew1) | exact HB.out)))); have n2_ := Aside0.mk (below_step (by repeat (first | (with_reducible first | exact HB.out | apply below_alloc | apply pw_below_drewN | apply below_drew1) | exact HB.out)) hb); clear HO173; clear HB; have HO173 := n0_; have HO176 := n1_; have HB := n2_; clear n0_ n1_ n2_; (try clear hb); (try clear hb2); (try clear hk); (try clear hi); (try clear ho0)))
  repeat (go_quiet (first | (go_at_call 17; (with_reducible refine (match_Meets.calls k a0 a1 true _ A3.out).mono ?_); rintro e w7 ⟨rfl, hb⟩; have n0_ := Aside0.mk (below_step (by repeat (first | (with_reducible first | exact HB.out | apply below_alloc | apply pw_below_drewN | apply below_drew1) | exact HB.out)) hb); clear HB; have HB := n0_; clear n0_; (try clear hb); (try clear hb2); (try clear hk); (try clear hi)) | (go_at_call 28; (with_reducible refine (topic_Levels.calls a0 t171 _ A5.out).mono ?_); rintro e w8 ⟨v172, rfl, ho0, hb⟩; have n0_ := Aside0.mk (Kd.R_lower ho0 (below_size (by repeat (first | (with_reducible first | exact HB.out | apply below_alloc | apply pw_below_drewN | apply below_drew1) | exact HB.out)))); have n1_ := Aside0.mk (below_step (by repeat (first | (with_reducible first | exact HB.out | apply below_alloc | apply pw_below_drewN | apply below_drew1) | exact HB.out)) hb); clear HB; have HO173 := n0_; have HB := n1_; clear n0_ n1_; (try clear hb); (try clear hb2); (try clear hk); (try clear hi); (try clear ho0)) | (go_at_call 28; (with_reducible refine (topic_Levels.calls a1 t174 _ A6.out).mono ?_); rintro e w9 ⟨v175, rfl, ho0, hb⟩; have n0_ := Aside0.mk (Kd.R_elder' (by (with_reducible repeat (first | apply Kd.R_alloc | apply Kd.R_drewN | apply Kd.R_drew)); exact HO173.out) (Kd.R_base ho0) hb); have n1_ := Aside0.mk (Kd.R_lower (Kd.R_new' ho0 (Kd.R_lt (by (with_reducible repeat (first | apply Kd.R_alloc | apply Kd.R_drewN | apply Kd.R_drew)); exact HO173.out))) (below_size (by repeat (first | (with_reducible first | exact HB.out | apply below_alloc | apply pw_below_drewN | apply below_drew1) | exact HB.out)))); have n2_ := Aside0.mk (below_step (by repeat (first | (with_reducible first | exact HB.out | apply below_alloc | apply pw_below_drewN | apply below_drew1) | exact HB.out)) hb); clear HO173; clear HB; have HO173 := n0_; have HO176 := n1_; have HB := n2_; clear n0_ n1_ n2_; (try clear hb); (try clear hb2); (try clear hk); (try clear hi); (try clear ho0))); try go_wp2_with (first | (go_at_call 17; (with_reducible refine (match_Meets.calls k a0 a1 true _ A3.out).mono ?_); rintro e w7 ⟨rfl, hb⟩; have n0_ := Aside0.mk (below_step (by repeat (first | (with_reducible first | exact HB.out | apply below_alloc | apply pw_below_drewN | apply below_drew1) | exact HB.out)) hb); clear HB; have HB := n0_; clear n0_; (try clear hb); (try clear hb2); (try clear hk); (try clear hi)) | (go_at_call 28; (with_reducible refine (topic_Levels.calls a0 t171 _ A5.out).mono ?_); rintro e w8 ⟨v172, rfl, ho0, hb⟩; have n0_ := Aside0.mk (Kd.R_lower ho0 (below_size (by repeat (first | (with_reducible first | exact HB.out | apply below_alloc | apply pw_below_drewN | apply below_drew1) | exact HB.out)))); have n1_ := Aside0.mk (below_step (by repeat (first | (with_reducible first | exact HB.out | apply below_alloc | apply pw_below_drewN | apply below_drew1) | exact HB.out)) hb); clear HB; have HO173 := n0_; have HB := n1_; clear n0_ n1_; (try clear hb); (try clear hb2); (try clear hk); (try clear hi); (try clear ho0)) | (go_at_call 28; (with_reducible refine (topic_Levels.calls a1 t174 _ A6.out).mono ?_); rintro e w9 ⟨v175, rfl, ho0, hb⟩; have n0_ := Aside0.mk (Kd.R_elder' (by (with_reducible repeat (first | apply Kd.R_alloc | apply Kd.R_drewN | apply Kd.R_drew)); exact HO173.out) (Kd.R_base ho0) hb); have n1_ := Aside0.mk (Kd.R_lower (Kd.R_new' ho0 (Kd.R_lt (by (with_reducible repeat (first | apply Kd.R_alloc | apply Kd.R_drewN | apply Kd.R_drew)); exact HO173.out))) (below_size (by repeat (first | (with_reducible first | exact HB.out | apply below_alloc | apply pw_below_drewN | apply below_drew1) | exact HB.out)))); have n2_ := Aside0.mk (below_step (by repeat (first | (with_reducible first | exact HB.out | apply below_alloc | apply pw_below_drewN | apply below_drew1) | exact HB.out)) hb); clear HO173; clear HB; have HO173 := n0_; have HO176 := n1_; have HB := n2_; clear n0_ n1_ n2_; (try clear hb); (try clear hb2); (try clear hk); (try clear hi); (try clear ho0))))
  go_loopg [6, 7, 8] k (fun kq v6 v7 v8 w' => ∃ (x6_1 : List ByteArray) (x7_1 : List ByteArray) (x8_1 : List ByteArray), Aside0 (match_Common.l0 kq x6_1 x7_1 x8_1 = some (r1, r2)) ∧ Aside0 (kq ≤ k) ∧ Aside0 (Kd.Q Kd.string 9 w' w.heap.size (fun k_ => some k_ ≠ (v7 : Value).ownBlock ∧ some k_ ≠ (v8 : Value).ownBlock) v6 x6_1) ∧ Aside0 (Kd.Q Kd.string 9 w' w.heap.size (fun k_ => some k_ ≠ (v6 : Value).ownBlock ∧ some k_ ≠ (v8 : Value).ownBlock) v7 x7_1) ∧ Aside0 (Kd.R Kd.string 9 w' w.heap.size (fun k_ => some k_ ≠ (v6 : Value).ownBlock ∧ some k_ ≠ (v7 : Value).ownBlock) v8 x8_1) ∧ Aside0 (Below w.heap.size w w'))
  case atStart => exact ⟨(t171), (t174), (([] : List ByteArray)), H', ⟨Nat.le_refl _⟩, ⟨Kd.Q_of_R (by (with_reducible repeat (first | apply Kd.R_alloc | apply Kd.R_drewN | apply Kd.R_drew)); exact Kd.R_mono HO173.out (fun _ hk => ⟨hk.2, (by simp [Value.ownBlock])⟩))⟩, ⟨Kd.Q_of_R (by (with_reducible repeat (first | apply Kd.R_alloc | apply Kd.R_drewN | apply Kd.R_drew)); exact Kd.R_mono HO176.out (fun _ hk => ⟨hk.2, (by simp [Value.ownBlock])⟩))⟩, ⟨by first | exact Kd.R_nil _ _ _ _ _ | exact Kd.N_nil _ _ _ _ _ | exact Kd.V_nil _ _ _ _ _ | exact Kd.Q_nil _ _ _ _ _ | exact Kd.S_nil _ _ _ _ _⟩, ⟨by repeat (first | (with_reducible first | exact HB.out | apply below_alloc | apply pw_below_drewN | apply below_drew1) | exact HB.out)⟩⟩
  case round =>
   clear H'
   try clear c1
   try clear p2
   try clear c4
   obtain ⟨x6_1, x7_1, x8_1, HA, HK1, HO_6, HO_7, HO_8, HB⟩ := hrel
   cases gk with
   | zero => exact absurd HA.out (by simp [match_Common.l0])
   | succ k1 =>
    have H := HA.out
    clear HA
    simp only [match_Common.l0] at H
    have HC10 := Aside0.mk H
    clear H
    go_upto_region 5 with (fail)
    repeat (go_quiet (fail); go_upto_region 5 with (fail))
    go_cut [40] (fun v40 wc => ∃ (kq : Nat) (x40_9 : Bool), v40 = .bool x40_9 ∧ Aside0 (match_Common.j1 kq x6_1 x7_1 x8_1 x40_9 = some (r1, r2)) ∧ Aside0 (kq ≤ k1) ∧ Aside0 (Kd.Q Kd.string 9 wc w.heap.size (fun k_ => some k_ ≠ (u7 : Value).ownBlock ∧ some k_ ≠ (u8 : Value).ownBlock) u6 x6_1) ∧ Aside0 (Kd.Q Kd.string 9 wc w.heap.size (fun k_ => some k_ ≠ (u6 : Value).ownBlock ∧ some k_ ≠ (u8 : Value).ownBlock) u7 x7_1) ∧ Aside0 (Kd.R Kd.string 9 wc w.heap.size (fun k_ => some k_ ≠ (u6 : Value).ownBlock ∧ some k_ ≠ (u7 : Value).ownBlock) u8 x8_1) ∧ Aside0 (Below w.heap.size w wc))
    case first =>
     have H := HC10.out
     clear HC10
     by_cases c11 : (x6_1.length : Int) > 0
     ·rw [if_pos c11] at H
      have c11b0 : decide (0 < (x6_1.length : Int)) = true := decide_eq_true c11
      have c11b1 : decide (0 < x6_1.length) = true := decide_eq_true (by omega)
      clear c11
      (first | rw [c11b0] | (simp only [i64_w, i32_w]; rw [c11b0]) | skip)
      by_cases c12 : (x7_1.length : Int) > 0
      ·rw [if_pos c12] at H
       have c12b0 : decide (0 < (x7_1.length : Int)) = true := decide_eq_true c12
       have c12b1 : decide (0 < x7_1.length) = true := decide_eq_true (by omega)
       clear c12
       by_cases c13 : 0 < (x6_1.length : Int)
       ·rw [if_pos c13] at H
        have c13b0 : decide (0 < (x6_1.length : Int)) = true := decide_eq_true c13
        have c13b1 : decide (0 < x6_1.length) = true := decide_eq_true (by omega)
        clear c13
        by_cases c14 : (rdOf ByteArray.empty x6_1 0).toList = ([35] : List UInt8)
        ·rw [if_pos c14] at H
         have c14b0 : ((rdOf ByteArray.empty x6_1 0).toList == ([35] : List UInt8)) = true := beq_iff_eq.mpr c14
         have c14b1 : ((rdOf ByteArray.empty x6_1 0).toList != ([35] : List UInt8)) = false := bne_eq_false_iff_eq.mpr c14
         clear c14
         have H' := Aside0.mk H
         clear H
         obtain ⟨Ao15, co15, eo15, _⟩ := Kd.Q_slice HO_6.out
         subst eo15
         obtain ⟨Ao16, co16, eo16, _⟩ := Kd.Q_slice HO_7.out
         subst eo16
         have p177 : 0 ≤ (0 : Int) := (by omega)
         have q177 : 0 < (x6_1.length : Int) := of_decide_eq_true (by first | (with_reducible assumption) | assumption)
         obtain ⟨ad177, e177, hx177_0⟩ := Kd.at_string (Kd.Q_reads' HO_6.out).2.2 0 p177 q177
         cases e177
         have qi177 : (0 < x6_1.length) = True := eq_true (by omega)
         (try rw [show ((0 : Int)).toNat = 0 from rfl] at hx177_0)
         (try rw [Addr.add_zero'] at hx177_0)
         replace p177 := eq_true p177
         replace q177 := eq_true q177
         go_wp2
         repeat (go_quiet (fail); try go_wp2)
         go_meet
         case rel => exact ⟨_, (false), (by first | rfl | (simp; done) | (simp [*]; done)), H', ⟨by have := HK1.out; first | omega | exact Nat.le_refl _⟩, ⟨by (with_reducible repeat (first | apply Kd.Q_alloc | apply Kd.Q_drewN | apply Kd.Q_drew)); exact HO_6.out⟩, ⟨by (with_reducible repeat (first | apply Kd.Q_alloc | apply Kd.Q_drewN | apply Kd.Q_drew)); exact HO_7.out⟩, ⟨by (with_reducible repeat (first | apply Kd.R_alloc | apply Kd.R_drewN | apply Kd.R_drew)); exact HO_8.out⟩, ⟨by repeat (first | (with_reducible first | exact HB.out | apply below_alloc | apply pw_below_drewN | apply below_drew1) | exact HB.out)⟩⟩
        ·rw [if_neg c14] at H
         have c14b0 : ((rdOf ByteArray.empty x6_1 0).toList == ([35] : List UInt8)) = false := beq_eq_false_iff_ne.mpr c14
         have c14b1 : ((rdOf ByteArray.empty x6_1 0).toList != ([35] : List UInt8)) = true := bne_iff_ne.mpr c14
         by_cases c17 : 0 < (x7_1.length : Int)
         ·rw [if_pos c17] at H
          have c17b0 : decide (0 < (x7_1.length : Int)) = true := decide_eq_true c17
          have c17b1 : decide (0 < x7_1.length) = true := decide_eq_true (by omega)
          clear c17
          have H' := Aside0.mk H
          clear H
          obtain ⟨Ao18, co18, eo18, _⟩ := Kd.Q_slice HO_6.out
          subst eo18
          obtain ⟨Ao19, co19, eo19, _⟩ := Kd.Q_slice HO_7.out
          subst eo19
          have p177 : 0 ≤ (0 : Int) := (by omega)
          have q177 : 0 < (x6_1.length : Int) := of_decide_eq_true (by first | (with_reducible assumption) | assumption)
          obtain ⟨ad177, e177, hx177_0⟩ := Kd.at_string (Kd.Q_reads' HO_6.out).2.2 0 p177 q177
          cases e177
          have qi177 : (0 < x6_1.length) = True := eq_true (by omega)
          (try rw [show ((0 : Int)).toNat = 0 from rfl] at hx177_0)
          (try rw [Addr.add_zero'] at hx177_0)
          replace p177 := eq_true p177
          replace q177 := eq_true q177
          have p178 : 0 ≤ (0 : Int) := (by omega)
          have q178 : 0 < (x7_1.length : Int) := of_decide_eq_true (by first | (with_reducible assumption) | assumption)
          obtain ⟨ad178, e178, hx178_0⟩ := Kd.at_string (Kd.Q_reads' HO_7.out).2.2 0 p178 q178
          cases e178
          have qi178 : (0 < x7_1.length) = True := eq_true (by omega)
          (try rw [show ((0 : Int)).toNat = 0 from rfl] at hx178_0)
          (try rw [Addr.add_zero'] at hx178_0)
          replace p178 := eq_true p178
          replace q178 := eq_true q178
          go_wp2
          repeat (go_quiet (fail); try go_wp2)
          go_meet
          case rel => exact ⟨_, (((rdOf ByteArray.empty x7_1 0).toList != ([35] : List UInt8))), (by first | rfl | (simp; done) | (simp [*]; done)), H', ⟨by have := HK1.out; first | omega | exact Nat.le_refl _⟩, ⟨by (with_reducible repeat (first | apply Kd.Q_alloc | apply Kd.Q_drewN | apply Kd.Q_drew)); exact HO_6.out⟩, ⟨by (with_reducible repeat (first | apply Kd.Q_alloc | apply Kd.Q_drewN | apply Kd.Q_drew)); exact HO_7.out⟩, ⟨by (with_reducible repeat (first | apply Kd.R_alloc | apply Kd.R_drewN | apply Kd.R_drew)); exact HO_8.out⟩, ⟨by repeat (first | (with_reducible first | exact HB.out | apply below_alloc | apply pw_below_drewN | apply below_drew1) | exact HB.out)⟩⟩
         ·rw [if_neg c17] at H
          exact absurd H (by simp)
       ·rw [if_neg c13] at H
        exact absurd H (by simp)
      ·rw [if_neg c12] at H
       have c12b0 : decide (0 < (x7_1.length : Int)) = false := decide_eq_false c12
       have c12b1 : decide (0 < x7_1.length) = false := decide_eq_false (by omega)
       clear c12
       have H' := Aside0.mk H
       clear H
       obtain ⟨Ao20, co20, eo20, _⟩ := Kd.Q_slice HO_6.out
       subst eo20
       obtain ⟨Ao21, co21, eo21, _⟩ := Kd.Q_slice HO_7.out
       subst eo21
       go_wp2
       repeat (go_quiet (fail); try go_wp2)
       go_meet
       case rel => exact ⟨_, (false), (by first | rfl | (simp; done) | (simp [*]; done)), H', ⟨by have := HK1.out; first | omega | exact Nat.le_refl _⟩, ⟨by (with_reducible repeat (first | apply Kd.Q_alloc | apply Kd.Q_drewN | apply Kd.Q_drew)); exact HO_6.out⟩, ⟨by (with_reducible repeat (first | apply Kd.Q_alloc | apply Kd.Q_drewN | apply Kd.Q_drew)); exact HO_7.out⟩, ⟨by (with_reducible repeat (first | apply Kd.R_alloc | apply Kd.R_drewN | apply Kd.R_drew)); exact HO_8.out⟩, ⟨by repeat (first | (with_reducible first | exact HB.out | apply below_alloc | apply pw_below_drewN | apply below_drew1) | exact HB.out)⟩⟩
     ·rw [if_neg c11] at H
      have c11b0 : decide (0 < (x6_1.length : Int)) = false := decide_eq_false c11
      have c11b1 : decide (0 < x6_1.length) = false := decide_eq_false (by omega)
      clear c11
      (first | rw [c11b0] | (simp only [i64_w, i32_w]; rw [c11b0]) | skip)
      have H' := Aside0.mk H
      clear H
      obtain ⟨Ao22, co22, eo22, _⟩ := Kd.Q_slice HO_6.out
      subst eo22
      go_wp2
      repeat (go_quiet (fail); try go_wp2)
      go_meet
      case rel => exact ⟨_, (false), (by first | rfl | (simp; done) | (simp [*]; done)), H', ⟨by have := HK1.out; first | omega | exact Nat.le_refl _⟩, ⟨by (with_reducible repeat (first | apply Kd.Q_alloc | apply Kd.Q_drewN | apply Kd.Q_drew)); exact HO_6.out⟩, ⟨by (with_reducible repeat (first | apply Kd.Q_alloc | apply Kd.Q_drewN | apply Kd.Q_drew)); exact HO_7.out⟩, ⟨by (with_reducible repeat (first | apply Kd.R_alloc | apply Kd.R_drewN | apply Kd.R_drew)); exact HO_8.out⟩, ⟨by repeat (first | (with_reducible first | exact HB.out | apply below_alloc | apply pw_below_drewN | apply below_drew1) | exact HB.out)⟩⟩
    case rest =>
     clear HC10
     try clear c1
     try clear p1
     try clear q1
     try clear hx1
     try clear qi1
     try clear p2
     try clear c4
     try clear c11
     try clear c11b0
     try clear c11b1
     try clear c12
     try clear c12b0
     try clear c12b1
     try clear c13
     try clear c13b0
     try clear c13b1
     try clear c14
     try clear c14b0
     try clear c14b1
     try clear c17
     try clear c17b0
     try clear c17b1
     try clear p17
     try clear q17
     try clear hx17
     try clear qi17
     try clear hx177_0
     try clear hx178_0
     try clear p177
     try clear p178
     try clear p2
     try clear q177
     try clear q178
     obtain ⟨kq, x40_9, rfl, HA, HJ9, HO_6, HO_7, HO_8, HB⟩ := hcut
     cases kq with
     | zero => exact absurd HA.out (by simp [match_Common.j1])
     | succ kj9 =>
      have H := HA.out
      clear HA
      simp only [match_Common.j1] at H
      by_cases c23 : x40_9 = true
      ·subst c23
       have H1 : (if 0 < (x6_1.length : Int) then (if (rdOf ByteArray.empty x6_1 0).toList = ([43] : List UInt8) then (if 0 < (x7_1.length : Int) then ((match_plain.f (rdOf ByteArray.empty x7_1 0)).bind fun t181 => (if x8_1.length < 8796093022208 then (if 1 ≤ (x6_1.length : Int) then (if 1 ≤ (x7_1.length : Int) then (match_Common.l0 kj9 (x6_1.drop (1 : Int).toNat) (x7_1.drop (1 : Int).toNat) (x8_1 ++ [t181])) else (none)) else (none)) else (none))) else (none)) else ((match_plain.f (rdOf ByteArray.empty x6_1 0)).bind fun t191 => (if x8_1.length < 8796093022208 then (if 1 ≤ (x6_1.length : Int) then (if 1 ≤ (x7_1.length : Int) then (match_Common.l0 kj9 (x6_1.drop (1 : Int).toNat) (x7_1.drop (1 : Int).toNat) (x8_1 ++ [t191])) else (none)) else (none)) else (none)))) else (none)) = some (r1, r2) := by rw [if_pos rfl] at H; exact H
       clear H
       have H := H1
       clear H1
       by_cases c24 : 0 < (x6_1.length : Int)
       ·rw [if_pos c24] at H
        have c24b0 : decide (0 < (x6_1.length : Int)) = true := decide_eq_true c24
        have c24b1 : decide (0 < x6_1.length) = true := decide_eq_true (by omega)
        clear c24
        by_cases c25 : (rdOf ByteArray.empty x6_1 0).toList = ([43] : List UInt8)
        ·rw [if_pos c25] at H
         have c25b0 : ((rdOf ByteArray.empty x6_1 0).toList == ([43] : List UInt8)) = true := beq_iff_eq.mpr c25
         have c25b1 : ((rdOf ByteArray.empty x6_1 0).toList != ([43] : List UInt8)) = false := bne_eq_false_iff_eq.mpr c25
         clear c25
         by_cases c26 : 0 < (x7_1.length : Int)
         ·rw [if_pos c26] at H
          have c26b0 : decide (0 < (x7_1.length : Int)) = true := decide_eq_true c26
          have c26b1 : decide (0 < x7_1.length) = true := decide_eq_true (by omega)
          clear c26
          replace H := Option.bind_eq_some_iff.mp H
          obtain ⟨t181, A270, H⟩ := H
          replace H : (if x8_1.length < 8796093022208 then (if 1 ≤ (x6_1.length : Int) then (if 1 ≤ (x7_1.length : Int) then (match_Common.l0 kj9 (x6_1.drop (1 : Int).toNat) (x7_1.drop (1 : Int).toNat) (x8_1 ++ [t181])) else (none)) else (none)) else (none)) = some (r1, r2) := H
          have A27 := Aside0.mk A270
          clear A270
          by_cases c28 : x8_1.length < 8796093022208
          ·rw [if_pos c28] at H
           have LMc28 := Aside0.mk c28
           clear c28
           obtain ⟨y182, hy182⟩ : ∃ y_ : List ByteArray, y_ = (x8_1 ++ [t181]) := ⟨_, rfl⟩
           replace H : (if 1 ≤ (x6_1.length : Int) then (if 1 ≤ (x7_1.length : Int) then (match_Common.l0 kj9 (x6_1.drop (1 : Int).toNat) (x7_1.drop (1 : Int).toNat) y182) else (none)) else (none)) = some (r1, r2) := by first | (rw [hy182]; with_reducible exact H) | (have H2_ := (Option.bind_some _ _).symm.trans H; rw [hy182]; with_reducible exact H2_) | (have H2_ := (Option.bind_some _ _).symm.trans H; with_reducible exact H2_) | with_reducible exact H | (rw [hy182]; exact H) | exact H
           have Ny182 := Aside0.mk hy182
           clear hy182
           by_cases c29 : 1 ≤ (x6_1.length : Int)
           ·rw [if_pos c29] at H
            have c29b0 := eq_true c29
            have c29b1 : decide (1 ≤ (x6_1.length : Int)) = true := decide_eq_true c29
            clear c29
            obtain ⟨y185, hy185⟩ : ∃ y_ : List ByteArray, y_ = (x6_1.drop (1 : Int).toNat) := ⟨_, rfl⟩
            replace H : (if 1 ≤ (x7_1.length : Int) then (match_Common.l0 kj9 y185 (x7_1.drop (1 : Int).toNat) y182) else (none)) = some (r1, r2) := by first | (rw [hy185]; with_reducible exact H) | (have H2_ := (Option.bind_some _ _).symm.trans H; rw [hy185]; with_reducible exact H2_) | (have H2_ := (Option.bind_some _ _).symm.trans H; with_reducible exact H2_) | with_reducible exact H | (rw [hy185]; exact H) | exact H
            have Ny185 := Aside0.mk hy185
            clear hy185
            by_cases c30 : 1 ≤ (x7_1.length : Int)
            ·rw [if_pos c30] at H
             have c30b0 := eq_true c30
             have c30b1 : decide (1 ≤ (x7_1.length : Int)) = true := decide_eq_true c30
             clear c30
             obtain ⟨y188, hy188⟩ : ∃ y_ : List ByteArray, y_ = (x7_1.drop (1 : Int).toNat) := ⟨_, rfl⟩
             replace H : (match_Common.l0 kj9 y185 y188 y182) = some (r1, r2) := by first | (rw [hy188]; with_reducible exact H) | (have H2_ := (Option.bind_some _ _).symm.trans H; rw [hy188]; with_reducible exact H2_) | (have H2_ := (Option.bind_some _ _).symm.trans H; with_reducible exact H2_) | with_reducible exact H | (rw [hy188]; exact H) | exact H
             have Ny188 := Aside0.mk hy188
             clear hy188
             have H' := Aside0.mk H
             clear H
             obtain ⟨Ao31, co31, eo31, _⟩ := Kd.Q_slice HO_6.out
             subst eo31
             have p179 : 0 ≤ (0 : Int) := (by omega)
             have q179 : 0 < (x6_1.length : Int) := of_decide_eq_true (by first | (with_reducible assumption) | assumption)
             obtain ⟨ad179, e179, hx179_0⟩ := Kd.at_string (Kd.Q_reads' HO_6.out).2.2 0 p179 q179
             cases e179
             have qi179 : (0 < x6_1.length) = True := eq_true (by omega)
             (try rw [show ((0 : Int)).toNat = 0 from rfl] at hx179_0)
             (try rw [Addr.add_zero'] at hx179_0)
             replace p179 := eq_true p179
             replace q179 := eq_true q179
             obtain ⟨Ao32, co32, eo32, _⟩ := Kd.Q_slice HO_7.out
             subst eo32
             have p180 : 0 ≤ (0 : Int) := (by omega)
             have q180 : 0 < (x7_1.length : Int) := of_decide_eq_true (by first | (with_reducible assumption) | assumption)
             obtain ⟨ad180, e180, hx180_0⟩ := Kd.at_string (Kd.Q_reads' HO_7.out).2.2 0 p180 q180
             cases e180
             have qi180 : (0 < x7_1.length) = True := eq_true (by omega)
             (try rw [show ((0 : Int)).toNat = 0 from rfl] at hx180_0)
             (try rw [Addr.add_zero'] at hx180_0)
             replace p180 := eq_true p180
             replace q180 := eq_true q180
             go_wp2_with (first | (go_at_call 35; (with_reducible refine (match_plain.calls (rdOf ByteArray.empty x7_1 0) t181 _ A27.out).mono ?_); rintro e w' ⟨rfl, ⟨nd, rfl⟩⟩; (try first | exact ⟨rfl, _, World.drewN_drewN _ _ _⟩ | exact ⟨rfl, _, Eq.trans (World.drewN_drewN _ _ _) (congrArg (World.drewN _) (Nat.add_assoc _ _ _))⟩)) | ((with_reducible refine gate_builtin (b := .append) (xs := #[.tmp 49, .tmp 52]) rfl ?_); (try (refine gate_guard (by rfl) ?_; dsimp only)); at_builtin; refine Kd.R_append Kd.string (w0 := w) w.heap.size rfl (.tmp 49) (.tmp 52) 26 9 (.string ⟨#[]⟩) 16 rfl Tryd.underlying26 info9 rfl (by decide) (by omega) u8 x8_1 t181 [.string t181] (fun k_ => some k_ ≠ (.slice (some ad179) x6_1.length co31 : Value).ownBlock ∧ some k_ ≠ (.slice (some ad180) x7_1.length co32 : Value).ownBlock) (fun _ => False) rfl rfl ?aP (fun _ hk => hk.elim) ?aF ?aO ?aB ?aS ?aL ?_; (case aP => exact rfl); (case aB => exact (by repeat (first | (with_reducible first | exact HB.out | apply below_alloc | apply pw_below_drewN | apply below_drew1) | exact HB.out))); (case aF => exact (fun k_ hk => ⟨Kd.fresh' (Kd.Q_lt (by (with_reducible repeat (first | apply Kd.Q_alloc | apply Kd.Q_drewN | apply Kd.Q_drew)); exact HO_6.out)) k_ hk, Kd.fresh' (Kd.Q_lt (by (with_reducible repeat (first | apply Kd.Q_alloc | apply Kd.Q_drewN | apply Kd.Q_drew)); exact HO_7.out)) k_ hk⟩)); (case aO => exact (by (with_reducible repeat (first | apply Kd.R_alloc | apply Kd.R_drewN | apply Kd.R_drew)); exact HO_8.out)); (case aS => exact (below_size (by repeat (first | (with_reducible first | exact HB.out | apply below_alloc | apply pw_below_drewN | apply below_drew1) | exact HB.out)))); (case aL => have := LMc28.out; omega); intro v183 w33 ho hb hg hat; rw [← Ny182.out] at ho; have n0_ := Aside0.mk (Kd.Q_after (ok := (fun k_ => some k_ ≠ (.slice (some ad180) x7_1.length co32 : Value).ownBlock)) (by (with_reducible repeat (first | apply Kd.Q_alloc | apply Kd.Q_drewN | apply Kd.Q_drew)); exact HO_6.out) hg hat); have n1_ := Aside0.mk (Kd.Q_after (ok := (fun k_ => some k_ ≠ (.slice (some ad179) x6_1.length co31 : Value).ownBlock)) (by (with_reducible repeat (first | apply Kd.Q_alloc | apply Kd.Q_drewN | apply Kd.Q_drew)); exact HO_7.out) hg hat); have n2_ := Aside0.mk (hb); have n3_ := Aside0.mk (ho); clear HO_6; clear HO_7; clear HB; clear HO_8; have HO_6 := n0_; have HO_7 := n1_; have HB := n2_; have HO184 := n3_; clear n0_ n1_ n2_ n3_; clear ho hb hg hat; have q34 : (1 : Int) ≤ ((x6_1.length : Int) : Int) := of_decide_eq_true (by first | (with_reducible assumption) | assumption); obtain ⟨i034, hi034, _, hsz34, _⟩ := info_parts info9; have hcut34 := cut_from (P := Tryd.prog) 26 9 .i64 Tryd.underlying26 hi034 1 hsz34 (some ad179) x6_1.length co31 1 (by omega) q34; have hr34 := Kd.Q_drop (k := (1 : Int).toNat) HO_6.out (by omega); obtain ⟨A34, hA34⟩ : ∃ A1, A1 = (if co31 = (1 : Int).toNat then (some ad179) else ((some ad179) : Option Addr).map (·.add ((1 : Int).toNat * 1))) := ⟨_, rfl⟩; obtain ⟨c34, hc34⟩ : ∃ c1, c1 = co31 - (1 : Int).toNat := ⟨_, rfl⟩; have hy34 : y185.length = x6_1.length - (1 : Int).toNat := (by rw [Ny185.out, List.length_drop]); rw [← Ny185.out] at hr34; rw [← hy34, ← hA34, ← hc34] at hcut34; replace hr34 : Kd.Q Kd.string 9 w33 w.heap.size (fun k_ => some k_ ≠ (.slice (some ad180) x7_1.length co32 : Value).ownBlock ∧ some k_ ≠ (v183 : Value).ownBlock) (.slice A34 y185.length c34) y185 := (by rw [hA34, hc34, hy34]; exact hr34); have HE34 : Aside0 ((Value.slice A34 y185.length c34).ownBlock = (.slice (some ad179) x6_1.length co31 : Value).ownBlock) := ⟨by rw [hA34]; split <;> (cases ((some ad179) : Option Addr) <;> rfl)⟩; clear hy34 hi034 hsz34 HO_6 hA34 hc34; have HO187 := Aside0.mk hr34; clear hr34; replace q34 := eq_true q34; have n_ := Aside0.mk (Kd.Q_mono (ok' := fun k_ => (some k_ ≠ (.slice A34 y185.length c34 : Value).ownBlock ∧ some k_ ≠ (v183 : Value).ownBlock)) HO_7.out (fun k_ hk => ⟨(by rw [HE34.out]; exact hk.1), hk.2⟩)); clear HO_7; have HO_7 := n_; clear n_; have n_ := Aside0.mk (Kd.R_mono (ok' := fun k_ => (some k_ ≠ (.slice A34 y185.length c34 : Value).ownBlock ∧ some k_ ≠ (.slice (some ad180) x7_1.length co32 : Value).ownBlock)) HO184.out (fun k_ hk => ⟨(by rw [HE34.out]; exact hk.1), hk.2⟩)); clear HO184; have HO184 := n_; clear n_; have q35 : (1 : Int) ≤ ((x7_1.length : Int) : Int) := of_decide_eq_true (by first | (with_reducible assumption) | assumption); obtain ⟨i035, hi035, _, hsz35, _⟩ := info_parts info9; have hcut35 := cut_from (P := Tryd.prog) 26 9 .i64 Tryd.underlying26 hi035 1 hsz35 (some ad180) x7_1.length co32 1 (by omega) q35; have hr35 := Kd.Q_drop (k := (1 : Int).toNat) HO_7.out (by omega); obtain ⟨A35, hA35⟩ : ∃ A1, A1 = (if co32 = (1 : Int).toNat then (some ad180) else ((some ad180) : Option Addr).map (·.add ((1 : Int).toNat * 1))) := ⟨_, rfl⟩; obtain ⟨c35, hc35⟩ : ∃ c1, c1 = co32 - (1 : Int).toNat := ⟨_, rfl⟩; have hy35 : y188.length = x7_1.length - (1 : Int).toNat := (by rw [Ny188.out, List.length_drop]); rw [← Ny188.out] at hr35; rw [← hy35, ← hA35, ← hc35] at hcut35; replace hr35 : Kd.Q Kd.string 9 w33 w.heap.size (fun k_ => some k_ ≠ (.slice A34 y185.length c34 : Value).ownBlock ∧ some k_ ≠ (v183 : Value).ownBlock) (.slice A35 y188.length c35) y188 := (by rw [hA35, hc35, hy35]; exact hr35); have HE35 : Aside0 ((Value.slice A35 y188.length c35).ownBlock = (.slice (some ad180) x7_1.length co32 : Value).ownBlock) := ⟨by rw [hA35]; split <;> (cases ((some ad180) : Option Addr) <;> rfl)⟩; clear hy35 hi035 hsz35 HO_7 hA35 hc35; have HO190 := Aside0.mk hr35; clear hr35; replace q35 := eq_true q35; have n_ := Aside0.mk (Kd.Q_mono (ok' := fun k_ => (some k_ ≠ (.slice A35 y188.length c35 : Value).ownBlock ∧ some k_ ≠ (v183 : Value).ownBlock)) HO187.out (fun k_ hk => ⟨(by rw [HE35.out]; exact hk.1), hk.2⟩)); clear HO187; have HO187 := n_; clear n_; have n_ := Aside0.mk (Kd.R_mono (ok' := fun k_ => (some k_ ≠ (.slice A34 y185.length c34 : Value).ownBlock ∧ some k_ ≠ (.slice A35 y188.length c35 : Value).ownBlock)) HO184.out (fun k_ hk => ⟨hk.1, (by rw [HE35.out]; exact hk.2)⟩)); clear HO184; have HO184 := n_; clear n_))
             repeat (go_quiet (first | (go_at_call 35; (with_reducible refine (match_plain.calls (rdOf ByteArray.empty x7_1 0) t181 _ A27.out).mono ?_); rintro e w' ⟨rfl, ⟨nd, rfl⟩⟩; (try first | exact ⟨rfl, _, World.drewN_drewN _ _ _⟩ | exact ⟨rfl, _, Eq.trans (World.drewN_drewN _ _ _) (congrArg (World.drewN _) (Nat.add_assoc _ _ _))⟩)) | ((with_reducible refine gate_builtin (b := .append) (xs := #[.tmp 49, .tmp 52]) rfl ?_); (try (refine gate_guard (by rfl) ?_; dsimp only)); at_builtin; refine Kd.R_append Kd.string (w0 := w) w.heap.size rfl (.tmp 49) (.tmp 52) 26 9 (.string ⟨#[]⟩) 16 rfl Tryd.underlying26 info9 rfl (by decide) (by omega) u8 x8_1 t181 [.string t181] (fun k_ => some k_ ≠ (.slice (some ad179) x6_1.length co31 : Value).ownBlock ∧ some k_ ≠ (.slice (some ad180) x7_1.length co32 : Value).ownBlock) (fun _ => False) rfl rfl ?aP (fun _ hk => hk.elim) ?aF ?aO ?aB ?aS ?aL ?_; (case aP => exact rfl); (case aB => exact (by repeat (first | (with_reducible first | exact HB.out | apply below_alloc | apply pw_below_drewN | apply below_drew1) | exact HB.out))); (case aF => exact (fun k_ hk => ⟨Kd.fresh' (Kd.Q_lt (by (with_reducible repeat (first | apply Kd.Q_alloc | apply Kd.Q_drewN | apply Kd.Q_drew)); exact HO_6.out)) k_ hk, Kd.fresh' (Kd.Q_lt (by (with_reducible repeat (first | apply Kd.Q_alloc | apply Kd.Q_drewN | apply Kd.Q_drew)); exact HO_7.out)) k_ hk⟩)); (case aO => exact (by (with_reducible repeat (first | apply Kd.R_alloc | apply Kd.R_drewN | apply Kd.R_drew)); exact HO_8.out)); (case aS => exact (below_size (by repeat (first | (with_reducible first | exact HB.out | apply below_alloc | apply pw_below_drewN | apply below_drew1) | exact HB.out)))); (case aL => have := LMc28.out; omega); intro v183 w33 ho hb hg hat; rw [← Ny182.out] at ho; have n0_ := Aside0.mk (Kd.Q_after (ok := (fun k_ => some k_ ≠ (.slice (some ad180) x7_1.length co32 : Value).ownBlock)) (by (with_reducible repeat (first | apply Kd.Q_alloc | apply Kd.Q_drewN | apply Kd.Q_drew)); exact HO_6.out) hg hat); have n1_ := Aside0.mk (Kd.Q_after (ok := (fun k_ => some k_ ≠ (.slice (some ad179) x6_1.length co31 : Value).ownBlock)) (by (with_reducible repeat (first | apply Kd.Q_alloc | apply Kd.Q_drewN | apply Kd.Q_drew)); exact HO_7.out) hg hat); have n2_ := Aside0.mk (hb); have n3_ := Aside0.mk (ho); clear HO_6; clear HO_7; clear HB; clear HO_8; have HO_6 := n0_; have HO_7 := n1_; have HB := n2_; have HO184 := n3_; clear n0_ n1_ n2_ n3_; clear ho hb hg hat; have q34 : (1 : Int) ≤ ((x6_1.length : Int) : Int) := of_decide_eq_true (by first | (with_reducible assumption) | assumption); obtain ⟨i034, hi034, _, hsz34, _⟩ := info_parts info9; have hcut34 := cut_from (P := Tryd.prog) 26 9 .i64 Tryd.underlying26 hi034 1 hsz34 (some ad179) x6_1.length co31 1 (by omega) q34; have hr34 := Kd.Q_drop (k := (1 : Int).toNat) HO_6.out (by omega); obtain ⟨A34, hA34⟩ : ∃ A1, A1 = (if co31 = (1 : Int).toNat then (some ad179) else ((some ad179) : Option Addr).map (·.add ((1 : Int).toNat * 1))) := ⟨_, rfl⟩; obtain ⟨c34, hc34⟩ : ∃ c1, c1 = co31 - (1 : Int).toNat := ⟨_, rfl⟩; have hy34 : y185.length = x6_1.length - (1 : Int).toNat := (by rw [Ny185.out, List.length_drop]); rw [← Ny185.out] at hr34; rw [← hy34, ← hA34, ← hc34] at hcut34; replace hr34 : Kd.Q Kd.string 9 w33 w.heap.size (fun k_ => some k_ ≠ (.slice (some ad180) x7_1.length co32 : Value).ownBlock ∧ some k_ ≠ (v183 : Value).ownBlock) (.slice A34 y185.length c34) y185 := (by rw [hA34, hc34, hy34]; exact hr34); have HE34 : Aside0 ((Value.slice A34 y185.length c34).ownBlock = (.slice (some ad179) x6_1.length co31 : Value).ownBlock) := ⟨by rw [hA34]; split <;> (cases ((some ad179) : Option Addr) <;> rfl)⟩; clear hy34 hi034 hsz34 HO_6 hA34 hc34; have HO187 := Aside0.mk hr34; clear hr34; replace q34 := eq_true q34; have n_ := Aside0.mk (Kd.Q_mono (ok' := fun k_ => (some k_ ≠ (.slice A34 y185.length c34 : Value).ownBlock ∧ some k_ ≠ (v183 : Value).ownBlock)) HO_7.out (fun k_ hk => ⟨(by rw [HE34.out]; exact hk.1), hk.2⟩)); clear HO_7; have HO_7 := n_; clear n_; have n_ := Aside0.mk (Kd.R_mono (ok' := fun k_ => (some k_ ≠ (.slice A34 y185.length c34 : Value).ownBlock ∧ some k_ ≠ (.slice (some ad180) x7_1.length co32 : Value).ownBlock)) HO184.out (fun k_ hk => ⟨(by rw [HE34.out]; exact hk.1), hk.2⟩)); clear HO184; have HO184 := n_; clear n_; have q35 : (1 : Int) ≤ ((x7_1.length : Int) : Int) := of_decide_eq_true (by first | (with_reducible assumption) | assumption); obtain ⟨i035, hi035, _, hsz35, _⟩ := info_parts info9; have hcut35 := cut_from (P := Tryd.prog) 26 9 .i64 Tryd.underlying26 hi035 1 hsz35 (some ad180) x7_1.length co32 1 (by omega) q35; have hr35 := Kd.Q_drop (k := (1 : Int).toNat) HO_7.out (by omega); obtain ⟨A35, hA35⟩ : ∃ A1, A1 = (if co32 = (1 : Int).toNat then (some ad180) else ((some ad180) : Option Addr).map (·.add ((1 : Int).toNat * 1))) := ⟨_, rfl⟩; obtain ⟨c35, hc35⟩ : ∃ c1, c1 = co32 - (1 : Int).toNat := ⟨_, rfl⟩; have hy35 : y188.length = x7_1.length - (1 : Int).toNat := (by rw [Ny188.out, List.length_drop]); rw [← Ny188.out] at hr35; rw [← hy35, ← hA35, ← hc35] at hcut35; replace hr35 : Kd.Q Kd.string 9 w33 w.heap.size (fun k_ => some k_ ≠ (.slice A34 y185.length c34 : Value).ownBlock ∧ some k_ ≠ (v183 : Value).ownBlock) (.slice A35 y188.length c35) y188 := (by rw [hA35, hc35, hy35]; exact hr35); have HE35 : Aside0 ((Value.slice A35 y188.length c35).ownBlock = (.slice (some ad180) x7_1.length co32 : Value).ownBlock) := ⟨by rw [hA35]; split <;> (cases ((some ad180) : Option Addr) <;> rfl)⟩; clear hy35 hi035 hsz35 HO_7 hA35 hc35; have HO190 := Aside0.mk hr35; clear hr35; replace q35 := eq_true q35; have n_ := Aside0.mk (Kd.Q_mono (ok' := fun k_ => (some k_ ≠ (.slice A35 y188.length c35 : Value).ownBlock ∧ some k_ ≠ (v183 : Value).ownBlock)) HO187.out (fun k_ hk => ⟨(by rw [HE35.out]; exact hk.1), hk.2⟩)); clear HO187; have HO187 := n_; clear n_; have n_ := Aside0.mk (Kd.R_mono (ok' := fun k_ => (some k_ ≠ (.slice A34 y185.length c34 : Value).ownBlock ∧ some k_ ≠ (.slice A35 y188.length c35 : Value).ownBlock)) HO184.out (fun k_ hk => ⟨hk.1, (by rw [HE35.out]; exact hk.2)⟩)); clear HO184; have HO184 := n_; clear n_)); try go_wp2_with (first | (go_at_call 35; (with_reducible refine (match_plain.calls (rdOf ByteArray.empty x7_1 0) t181 _ A27.out).mono ?_); rintro e w' ⟨rfl, ⟨nd, rfl⟩⟩; (try first | exact ⟨rfl, _, World.drewN_drewN _ _ _⟩ | exact ⟨rfl, _, Eq.trans (World.drewN_drewN _ _ _) (congrArg (World.drewN _) (Nat.add_assoc _ _ _))⟩)) | ((with_reducible refine gate_builtin (b := .append) (xs := #[.tmp 49, .tmp 52]) rfl ?_); (try (refine gate_guard (by rfl) ?_; dsimp only)); at_builtin; refine Kd.R_append Kd.string (w0 := w) w.heap.size rfl (.tmp 49) (.tmp 52) 26 9 (.string ⟨#[]⟩) 16 rfl Tryd.underlying26 info9 rfl (by decide) (by omega) u8 x8_1 t181 [.string t181] (fun k_ => some k_ ≠ (.slice (some ad179) x6_1.length co31 : Value).ownBlock ∧ some k_ ≠ (.slice (some ad180) x7_1.length co32 : Value).ownBlock) (fun _ => False) rfl rfl ?aP (fun _ hk => hk.elim) ?aF ?aO ?aB ?aS ?aL ?_; (case aP => exact rfl); (case aB => exact (by repeat (first | (with_reducible first | exact HB.out | apply below_alloc | apply pw_below_drewN | apply below_drew1) | exact HB.out))); (case aF => exact (fun k_ hk => ⟨Kd.fresh' (Kd.Q_lt (by (with_reducible repeat (first | apply Kd.Q_alloc | apply Kd.Q_drewN | apply Kd.Q_drew)); exact HO_6.out)) k_ hk, Kd.fresh' (Kd.Q_lt (by (with_reducible repeat (first | apply Kd.Q_alloc | apply Kd.Q_drewN | apply Kd.Q_drew)); exact HO_7.out)) k_ hk⟩)); (case aO => exact (by (with_reducible repeat (first | apply Kd.R_alloc | apply Kd.R_drewN | apply Kd.R_drew)); exact HO_8.out)); (case aS => exact (below_size (by repeat (first | (with_reducible first | exact HB.out | apply below_alloc | apply pw_below_drewN | apply below_drew1) | exact HB.out)))); (case aL => have := LMc28.out; omega); intro v183 w33 ho hb hg hat; rw [← Ny182.out] at ho; have n0_ := Aside0.mk (Kd.Q_after (ok := (fun k_ => some k_ ≠ (.slice (some ad180) x7_1.length co32 : Value).ownBlock)) (by (with_reducible repeat (first | apply Kd.Q_alloc | apply Kd.Q_drewN | apply Kd.Q_drew)); exact HO_6.out) hg hat); have n1_ := Aside0.mk (Kd.Q_after (ok := (fun k_ => some k_ ≠ (.slice (some ad179) x6_1.length co31 : Value).ownBlock)) (by (with_reducible repeat (first | apply Kd.Q_alloc | apply Kd.Q_drewN | apply Kd.Q_drew)); exact HO_7.out) hg hat); have n2_ := Aside0.mk (hb); have n3_ := Aside0.mk (ho); clear HO_6; clear HO_7; clear HB; clear HO_8; have HO_6 := n0_; have HO_7 := n1_; have HB := n2_; have HO184 := n3_; clear n0_ n1_ n2_ n3_; clear ho hb hg hat; have q34 : (1 : Int) ≤ ((x6_1.length : Int) : Int) := of_decide_eq_true (by first | (with_reducible assumption) | assumption); obtain ⟨i034, hi034, _, hsz34, _⟩ := info_parts info9; have hcut34 := cut_from (P := Tryd.prog) 26 9 .i64 Tryd.underlying26 hi034 1 hsz34 (some ad179) x6_1.length co31 1 (by omega) q34; have hr34 := Kd.Q_drop (k := (1 : Int).toNat) HO_6.out (by omega); obtain ⟨A34, hA34⟩ : ∃ A1, A1 = (if co31 = (1 : Int).toNat then (some ad179) else ((some ad179) : Option Addr).map (·.add ((1 : Int).toNat * 1))) := ⟨_, rfl⟩; obtain ⟨c34, hc34⟩ : ∃ c1, c1 = co31 - (1 : Int).toNat := ⟨_, rfl⟩; have hy34 : y185.length = x6_1.length - (1 : Int).toNat := (by rw [Ny185.out, List.length_drop]); rw [← Ny185.out] at hr34; rw [← hy34, ← hA34, ← hc34] at hcut34; replace hr34 : Kd.Q Kd.string 9 w33 w.heap.size (fun k_ => some k_ ≠ (.slice (some ad180) x7_1.length co32 : Value).ownBlock ∧ some k_ ≠ (v183 : Value).ownBlock) (.slice A34 y185.length c34) y185 := (by rw [hA34, hc34, hy34]; exact hr34); have HE34 : Aside0 ((Value.slice A34 y185.length c34).ownBlock = (.slice (some ad179) x6_1.length co31 : Value).ownBlock) := ⟨by rw [hA34]; split <;> (cases ((some ad179) : Option Addr) <;> rfl)⟩; clear hy34 hi034 hsz34 HO_6 hA34 hc34; have HO187 := Aside0.mk hr34; clear hr34; replace q34 := eq_true q34; have n_ := Aside0.mk (Kd.Q_mono (ok' := fun k_ => (some k_ ≠ (.slice A34 y185.length c34 : Value).ownBlock ∧ some k_ ≠ (v183 : Value).ownBlock)) HO_7.out (fun k_ hk => ⟨(by rw [HE34.out]; exact hk.1), hk.2⟩)); clear HO_7; have HO_7 := n_; clear n_; have n_ := Aside0.mk (Kd.R_mono (ok' := fun k_ => (some k_ ≠ (.slice A34 y185.length c34 : Value).ownBlock ∧ some k_ ≠ (.slice (some ad180) x7_1.length co32 : Value).ownBlock)) HO184.out (fun k_ hk => ⟨(by rw [HE34.out]; exact hk.1), hk.2⟩)); clear HO184; have HO184 := n_; clear n_; have q35 : (1 : Int) ≤ ((x7_1.length : Int) : Int) := of_decide_eq_true (by first | (with_reducible assumption) | assumption); obtain ⟨i035, hi035, _, hsz35, _⟩ := info_parts info9; have hcut35 := cut_from (P := Tryd.prog) 26 9 .i64 Tryd.underlying26 hi035 1 hsz35 (some ad180) x7_1.length co32 1 (by omega) q35; have hr35 := Kd.Q_drop (k := (1 : Int).toNat) HO_7.out (by omega); obtain ⟨A35, hA35⟩ : ∃ A1, A1 = (if co32 = (1 : Int).toNat then (some ad180) else ((some ad180) : Option Addr).map (·.add ((1 : Int).toNat * 1))) := ⟨_, rfl⟩; obtain ⟨c35, hc35⟩ : ∃ c1, c1 = co32 - (1 : Int).toNat := ⟨_, rfl⟩; have hy35 : y188.length = x7_1.length - (1 : Int).toNat := (by rw [Ny188.out, List.length_drop]); rw [← Ny188.out] at hr35; rw [← hy35, ← hA35, ← hc35] at hcut35; replace hr35 : Kd.Q Kd.string 9 w33 w.heap.size (fun k_ => some k_ ≠ (.slice A34 y185.length c34 : Value).ownBlock ∧ some k_ ≠ (v183 : Value).ownBlock) (.slice A35 y188.length c35) y188 := (by rw [hA35, hc35, hy35]; exact hr35); have HE35 : Aside0 ((Value.slice A35 y188.length c35).ownBlock = (.slice (some ad180) x7_1.length co32 : Value).ownBlock) := ⟨by rw [hA35]; split <;> (cases ((some ad180) : Option Addr) <;> rfl)⟩; clear hy35 hi035 hsz35 HO_7 hA35 hc35; have HO190 := Aside0.mk hr35; clear hr35; replace q35 := eq_true q35; have n_ := Aside0.mk (Kd.Q_mono (ok' := fun k_ => (some k_ ≠ (.slice A35 y188.length c35 : Value).ownBlock ∧ some k_ ≠ (v183 : Value).ownBlock)) HO187.out (fun k_ hk => ⟨(by rw [HE35.out]; exact hk.1), hk.2⟩)); clear HO187; have HO187 := n_; clear n_; have n_ := Aside0.mk (Kd.R_mono (ok' := fun k_ => (some k_ ≠ (.slice A34 y185.length c34 : Value).ownBlock ∧ some k_ ≠ (.slice A35 y188.length c35 : Value).ownBlock)) HO184.out (fun k_ hk => ⟨hk.1, (by rw [HE35.out]; exact hk.2)⟩)); clear HO184; have HO184 := n_; clear n_)))
             go_roundg kj9
             case measure => have := HK1.out; have := HJ9.out; omega
             case rel => exact ⟨(y185), (y188), (y182), H', ⟨by have := HK1.out; have := HJ9.out; omega⟩, ⟨by (with_reducible repeat (first | apply Kd.Q_alloc | apply Kd.Q_drewN | apply Kd.Q_drew)); exact HO187.out⟩, ⟨by (with_reducible repeat (first | apply Kd.Q_alloc | apply Kd.Q_drewN | apply Kd.Q_drew)); exact HO190.out⟩, ⟨by (with_reducible repeat (first | apply Kd.R_alloc | apply Kd.R_drewN | apply Kd.R_drew)); exact HO184.out⟩, ⟨by repeat (first | (with_reducible first | exact HB.out | apply below_alloc | apply pw_below_drewN | apply below_drew1) | exact HB.out)⟩⟩
            ·rw [if_neg c30] at H
             exact absurd H (by simp)
           ·rw [if_neg c29] at H
            exact absurd H (by simp)
          ·rw [if_neg c28] at H
           exact absurd H (by simp)
         ·rw [if_neg c26] at H
          exact absurd H (by simp)
        ·rw [if_neg c25] at H
         have c25b0 : ((rdOf ByteArray.empty x6_1 0).toList == ([43] : List UInt8)) = false := beq_eq_false_iff_ne.mpr c25
         have c25b1 : ((rdOf ByteArray.empty x6_1 0).toList != ([43] : List UInt8)) = true := bne_iff_ne.mpr c25
         replace H := Option.bind_eq_some_iff.mp H
         obtain ⟨t191, A360, H⟩ := H
         replace H : (if x8_1.length < 8796093022208 then (if 1 ≤ (x6_1.length : Int) then (if 1 ≤ (x7_1.length : Int) then (match_Common.l0 kj9 (x6_1.drop (1 : Int).toNat) (x7_1.drop (1 : Int).toNat) (x8_1 ++ [t191])) else (none)) else (none)) else (none)) = some (r1, r2) := H
         have A36 := Aside0.mk A360
         clear A360
         by_cases c37 : x8_1.length < 8796093022208
         ·rw [if_pos c37] at H
          have LMc37 := Aside0.mk c37
          clear c37
          obtain ⟨y192, hy192⟩ : ∃ y_ : List ByteArray, y_ = (x8_1 ++ [t191]) := ⟨_, rfl⟩
          replace H : (if 1 ≤ (x6_1.length : Int) then (if 1 ≤ (x7_1.length : Int) then (match_Common.l0 kj9 (x6_1.drop (1 : Int).toNat) (x7_1.drop (1 : Int).toNat) y192) else (none)) else (none)) = some (r1, r2) := by first | (rw [hy192]; with_reducible exact H) | (have H2_ := (Option.bind_some _ _).symm.trans H; rw [hy192]; with_reducible exact H2_) | (have H2_ := (Option.bind_some _ _).symm.trans H; with_reducible exact H2_) | with_reducible exact H | (rw [hy192]; exact H) | exact H
          have Ny192 := Aside0.mk hy192
          clear hy192
          by_cases c38 : 1 ≤ (x6_1.length : Int)
          ·rw [if_pos c38] at H
           have c38b0 := eq_true c38
           have c38b1 : decide (1 ≤ (x6_1.length : Int)) = true := decide_eq_true c38
           clear c38
           obtain ⟨y195, hy195⟩ : ∃ y_ : List ByteArray, y_ = (x6_1.drop (1 : Int).toNat) := ⟨_, rfl⟩
           replace H : (if 1 ≤ (x7_1.length : Int) then (match_Common.l0 kj9 y195 (x7_1.drop (1 : Int).toNat) y192) else (none)) = some (r1, r2) := by first | (rw [hy195]; with_reducible exact H) | (have H2_ := (Option.bind_some _ _).symm.trans H; rw [hy195]; with_reducible exact H2_) | (have H2_ := (Option.bind_some _ _).symm.trans H; with_reducible exact H2_) | with_reducible exact H | (rw [hy195]; exact H) | exact H
           have Ny195 := Aside0.mk hy195
           clear hy195
           by_cases c39 : 1 ≤ (x7_1.length : Int)
           ·rw [if_pos c39] at H
            have c39b0 := eq_true c39
            have c39b1 : decide (1 ≤ (x7_1.length : Int)) = true := decide_eq_true c39
            clear c39
            obtain ⟨y198, hy198⟩ : ∃ y_ : List ByteArray, y_ = (x7_1.drop (1 : Int).toNat) := ⟨_, rfl⟩
            replace H : (match_Common.l0 kj9 y195 y198 y192) = some (r1, r2) := by first | (rw [hy198]; with_reducible exact H) | (have H2_ := (Option.bind_some _ _).symm.trans H; rw [hy198]; with_reducible exact H2_) | (have H2_ := (Option.bind_some _ _).symm.trans H; with_reducible exact H2_) | with_reducible exact H | (rw [hy198]; exact H) | exact H
            have Ny198 := Aside0.mk hy198
            clear hy198
            have H' := Aside0.mk H
            clear H
            obtain ⟨Ao40, co40, eo40, _⟩ := Kd.Q_slice HO_6.out
            subst eo40
            have p179 : 0 ≤ (0 : Int) := (by omega)
            have q179 : 0 < (x6_1.length : Int) := of_decide_eq_true (by first | (with_reducible assumption) | assumption)
            obtain ⟨ad179, e179, hx179_0⟩ := Kd.at_string (Kd.Q_reads' HO_6.out).2.2 0 p179 q179
            cases e179
            have qi179 : (0 < x6_1.length) = True := eq_true (by omega)
            (try rw [show ((0 : Int)).toNat = 0 from rfl] at hx179_0)
            (try rw [Addr.add_zero'] at hx179_0)
            replace p179 := eq_true p179
            replace q179 := eq_true q179
            go_wp2_with (first | (go_at_call 35; (with_reducible refine (match_plain.calls (rdOf ByteArray.empty x6_1 0) t191 _ A36.out).mono ?_); rintro e w' ⟨rfl, ⟨nd, rfl⟩⟩; (try first | exact ⟨rfl, _, World.drewN_drewN _ _ _⟩ | exact ⟨rfl, _, Eq.trans (World.drewN_drewN _ _ _) (congrArg (World.drewN _) (Nat.add_assoc _ _ _))⟩)) | ((with_reducible refine gate_builtin (b := .append) (xs := #[.tmp 49, .tmp 52]) rfl ?_); (try (refine gate_guard (by rfl) ?_; dsimp only)); at_builtin; refine Kd.R_append Kd.string (w0 := w) w.heap.size rfl (.tmp 49) (.tmp 52) 26 9 (.string ⟨#[]⟩) 16 rfl Tryd.underlying26 info9 rfl (by decide) (by omega) u8 x8_1 t191 [.string t191] (fun k_ => some k_ ≠ (.slice (some ad179) x6_1.length co40 : Value).ownBlock ∧ some k_ ≠ (u7 : Value).ownBlock) (fun _ => False) rfl rfl ?aP (fun _ hk => hk.elim) ?aF ?aO ?aB ?aS ?aL ?_; (case aP => exact rfl); (case aB => exact (by repeat (first | (with_reducible first | exact HB.out | apply below_alloc | apply pw_below_drewN | apply below_drew1) | exact HB.out))); (case aF => exact (fun k_ hk => ⟨Kd.fresh' (Kd.Q_lt (by (with_reducible repeat (first | apply Kd.Q_alloc | apply Kd.Q_drewN | apply Kd.Q_drew)); exact HO_6.out)) k_ hk, Kd.fresh' (Kd.Q_lt (by (with_reducible repeat (first | apply Kd.Q_alloc | apply Kd.Q_drewN | apply Kd.Q_drew)); exact HO_7.out)) k_ hk⟩)); (case aO => exact (by (with_reducible repeat (first | apply Kd.R_alloc | apply Kd.R_drewN | apply Kd.R_drew)); exact HO_8.out)); (case aS => exact (below_size (by repeat (first | (with_reducible first | exact HB.out | apply below_alloc | apply pw_below_drewN | apply below_drew1) | exact HB.out)))); (case aL => have := LMc37.out; omega); intro v193 w41 ho hb hg hat; rw [← Ny192.out] at ho; have n0_ := Aside0.mk (Kd.Q_after (ok := (fun k_ => some k_ ≠ (u7 : Value).ownBlock)) (by (with_reducible repeat (first | apply Kd.Q_alloc | apply Kd.Q_drewN | apply Kd.Q_drew)); exact HO_6.out) hg hat); have n1_ := Aside0.mk (Kd.Q_after (ok := (fun k_ => some k_ ≠ (.slice (some ad179) x6_1.length co40 : Value).ownBlock)) (by (with_reducible repeat (first | apply Kd.Q_alloc | apply Kd.Q_drewN | apply Kd.Q_drew)); exact HO_7.out) hg hat); have n2_ := Aside0.mk (hb); have n3_ := Aside0.mk (ho); clear HO_6; clear HO_7; clear HB; clear HO_8; have HO_6 := n0_; have HO_7 := n1_; have HB := n2_; have HO194 := n3_; clear n0_ n1_ n2_ n3_; clear ho hb hg hat; have q42 : (1 : Int) ≤ ((x6_1.length : Int) : Int) := of_decide_eq_true (by first | (with_reducible assumption) | assumption); obtain ⟨i042, hi042, _, hsz42, _⟩ := info_parts info9; have hcut42 := cut_from (P := Tryd.prog) 26 9 .i64 Tryd.underlying26 hi042 1 hsz42 (some ad179) x6_1.length co40 1 (by omega) q42; have hr42 := Kd.Q_drop (k := (1 : Int).toNat) HO_6.out (by omega); obtain ⟨A42, hA42⟩ : ∃ A1, A1 = (if co40 = (1 : Int).toNat then (some ad179) else ((some ad179) : Option Addr).map (·.add ((1 : Int).toNat * 1))) := ⟨_, rfl⟩; obtain ⟨c42, hc42⟩ : ∃ c1, c1 = co40 - (1 : Int).toNat := ⟨_, rfl⟩; have hy42 : y195.length = x6_1.length - (1 : Int).toNat := (by rw [Ny195.out, List.length_drop]); rw [← Ny195.out] at hr42; rw [← hy42, ← hA42, ← hc42] at hcut42; replace hr42 : Kd.Q Kd.string 9 w41 w.heap.size (fun k_ => some k_ ≠ (u7 : Value).ownBlock ∧ some k_ ≠ (v193 : Value).ownBlock) (.slice A42 y195.length c42) y195 := (by rw [hA42, hc42, hy42]; exact hr42); have HE42 : Aside0 ((Value.slice A42 y195.length c42).ownBlock = (.slice (some ad179) x6_1.length co40 : Value).ownBlock) := ⟨by rw [hA42]; split <;> (cases ((some ad179) : Option Addr) <;> rfl)⟩; clear hy42 hi042 hsz42 HO_6 hA42 hc42; have HO197 := Aside0.mk hr42; clear hr42; replace q42 := eq_true q42; have n_ := Aside0.mk (Kd.Q_mono (ok' := fun k_ => (some k_ ≠ (.slice A42 y195.length c42 : Value).ownBlock ∧ some k_ ≠ (v193 : Value).ownBlock)) HO_7.out (fun k_ hk => ⟨(by rw [HE42.out]; exact hk.1), hk.2⟩)); clear HO_7; have HO_7 := n_; clear n_; have n_ := Aside0.mk (Kd.R_mono (ok' := fun k_ => (some k_ ≠ (.slice A42 y195.length c42 : Value).ownBlock ∧ some k_ ≠ (u7 : Value).ownBlock)) HO194.out (fun k_ hk => ⟨(by rw [HE42.out]; exact hk.1), hk.2⟩)); clear HO194; have HO194 := n_; clear n_; obtain ⟨Ao43, co43, eo43, _⟩ := Kd.Q_slice HO_7.out; subst eo43; have q44 : (1 : Int) ≤ ((x7_1.length : Int) : Int) := of_decide_eq_true (by first | (with_reducible assumption) | assumption); obtain ⟨i044, hi044, _, hsz44, _⟩ := info_parts info9; have hcut44 := cut_from (P := Tryd.prog) 26 9 .i64 Tryd.underlying26 hi044 1 hsz44 Ao43 x7_1.length co43 1 (by omega) q44; have hr44 := Kd.Q_drop (k := (1 : Int).toNat) HO_7.out (by omega); obtain ⟨A44, hA44⟩ : ∃ A1, A1 = (if co43 = (1 : Int).toNat then Ao43 else (Ao43 : Option Addr).map (·.add ((1 : Int).toNat * 1))) := ⟨_, rfl⟩; obtain ⟨c44, hc44⟩ : ∃ c1, c1 = co43 - (1 : Int).toNat := ⟨_, rfl⟩; have hy44 : y198.length = x7_1.length - (1 : Int).toNat := (by rw [Ny198.out, List.length_drop]); rw [← Ny198.out] at hr44; rw [← hy44, ← hA44, ← hc44] at hcut44; replace hr44 : Kd.Q Kd.string 9 w41 w.heap.size (fun k_ => some k_ ≠ (.slice A42 y195.length c42 : Value).ownBlock ∧ some k_ ≠ (v193 : Value).ownBlock) (.slice A44 y198.length c44) y198 := (by rw [hA44, hc44, hy44]; exact hr44); have HE44 : Aside0 ((Value.slice A44 y198.length c44).ownBlock = (.slice Ao43 x7_1.length co43 : Value).ownBlock) := ⟨by rw [hA44]; split <;> (cases (Ao43 : Option Addr) <;> rfl)⟩; clear hy44 hi044 hsz44 HO_7 hA44 hc44; have HO200 := Aside0.mk hr44; clear hr44; replace q44 := eq_true q44; have n_ := Aside0.mk (Kd.Q_mono (ok' := fun k_ => (some k_ ≠ (.slice A44 y198.length c44 : Value).ownBlock ∧ some k_ ≠ (v193 : Value).ownBlock)) HO197.out (fun k_ hk => ⟨(by rw [HE44.out]; exact hk.1), hk.2⟩)); clear HO197; have HO197 := n_; clear n_; have n_ := Aside0.mk (Kd.R_mono (ok' := fun k_ => (some k_ ≠ (.slice A42 y195.length c42 : Value).ownBlock ∧ some k_ ≠ (.slice A44 y198.length c44 : Value).ownBlock)) HO194.out (fun k_ hk => ⟨hk.1, (by rw [HE44.out]; exact hk.2)⟩)); clear HO194; have HO194 := n_; clear n_))
            repeat (go_quiet (first | (go_at_call 35; (with_reducible refine (match_plain.calls (rdOf ByteArray.empty x6_1 0) t191 _ A36.out).mono ?_); rintro e w' ⟨rfl, ⟨nd, rfl⟩⟩; (try first | exact ⟨rfl, _, World.drewN_drewN _ _ _⟩ | exact ⟨rfl, _, Eq.trans (World.drewN_drewN _ _ _) (congrArg (World.drewN _) (Nat.add_assoc _ _ _))⟩)) | ((with_reducible refine gate_builtin (b := .append) (xs := #[.tmp 49, .tmp 52]) rfl ?_); (try (refine gate_guard (by rfl) ?_; dsimp only)); at_builtin; refine Kd.R_append Kd.string (w0 := w) w.heap.size rfl (.tmp 49) (.tmp 52) 26 9 (.string ⟨#[]⟩) 16 rfl Tryd.underlying26 info9 rfl (by decide) (by omega) u8 x8_1 t191 [.string t191] (fun k_ => some k_ ≠ (.slice (some ad179) x6_1.length co40 : Value).ownBlock ∧ some k_ ≠ (u7 : Value).ownBlock) (fun _ => False) rfl rfl ?aP (fun _ hk => hk.elim) ?aF ?aO ?aB ?aS ?aL ?_; (case aP => exact rfl); (case aB => exact (by repeat (first | (with_reducible first | exact HB.out | apply below_alloc | apply pw_below_drewN | apply below_drew1) | exact HB.out))); (case aF => exact (fun k_ hk => ⟨Kd.fresh' (Kd.Q_lt (by (with_reducible repeat (first | apply Kd.Q_alloc | apply Kd.Q_drewN | apply Kd.Q_drew)); exact HO_6.out)) k_ hk, Kd.fresh' (Kd.Q_lt (by (with_reducible repeat (first | apply Kd.Q_alloc | apply Kd.Q_drewN | apply Kd.Q_drew)); exact HO_7.out)) k_ hk⟩)); (case aO => exact (by (with_reducible repeat (first | apply Kd.R_alloc | apply Kd.R_drewN | apply Kd.R_drew)); exact HO_8.out)); (case aS => exact (below_size (by repeat (first | (with_reducible first | exact HB.out | apply below_alloc | apply pw_below_drewN | apply below_drew1) | exact HB.out)))); (case aL => have := LMc37.out; omega); intro v193 w41 ho hb hg hat; rw [← Ny192.out] at ho; have n0_ := Aside0.mk (Kd.Q_after (ok := (fun k_ => some k_ ≠ (u7 : Value).ownBlock)) (by (with_reducible repeat (first | apply Kd.Q_alloc | apply Kd.Q_drewN | apply Kd.Q_drew)); exact HO_6.out) hg hat); have n1_ := Aside0.mk (Kd.Q_after (ok := (fun k_ => some k_ ≠ (.slice (some ad179) x6_1.length co40 : Value).ownBlock)) (by (with_reducible repeat (first | apply Kd.Q_alloc | apply Kd.Q_drewN | apply Kd.Q_drew)); exact HO_7.out) hg hat); have n2_ := Aside0.mk (hb); have n3_ := Aside0.mk (ho); clear HO_6; clear HO_7; clear HB; clear HO_8; have HO_6 := n0_; have HO_7 := n1_; have HB := n2_; have HO194 := n3_; clear n0_ n1_ n2_ n3_; clear ho hb hg hat; have q42 : (1 : Int) ≤ ((x6_1.length : Int) : Int) := of_decide_eq_true (by first | (with_reducible assumption) | assumption); obtain ⟨i042, hi042, _, hsz42, _⟩ := info_parts info9; have hcut42 := cut_from (P := Tryd.prog) 26 9 .i64 Tryd.underlying26 hi042 1 hsz42 (some ad179) x6_1.length co40 1 (by omega) q42; have hr42 := Kd.Q_drop (k := (1 : Int).toNat) HO_6.out (by omega); obtain ⟨A42, hA42⟩ : ∃ A1, A1 = (if co40 = (1 : Int).toNat then (some ad179) else ((some ad179) : Option Addr).map (·.add ((1 : Int).toNat * 1))) := ⟨_, rfl⟩; obtain ⟨c42, hc42⟩ : ∃ c1, c1 = co40 - (1 : Int).toNat := ⟨_, rfl⟩; have hy42 : y195.length = x6_1.length - (1 : Int).toNat := (by rw [Ny195.out, List.length_drop]); rw [← Ny195.out] at hr42; rw [← hy42, ← hA42, ← hc42] at hcut42; replace hr42 : Kd.Q Kd.string 9 w41 w.heap.size (fun k_ => some k_ ≠ (u7 : Value).ownBlock ∧ some k_ ≠ (v193 : Value).ownBlock) (.slice A42 y195.length c42) y195 := (by rw [hA42, hc42, hy42]; exact hr42); have HE42 : Aside0 ((Value.slice A42 y195.length c42).ownBlock = (.slice (some ad179) x6_1.length co40 : Value).ownBlock) := ⟨by rw [hA42]; split <;> (cases ((some ad179) : Option Addr) <;> rfl)⟩; clear hy42 hi042 hsz42 HO_6 hA42 hc42; have HO197 := Aside0.mk hr42; clear hr42; replace q42 := eq_true q42; have n_ := Aside0.mk (Kd.Q_mono (ok' := fun k_ => (some k_ ≠ (.slice A42 y195.length c42 : Value).ownBlock ∧ some k_ ≠ (v193 : Value).ownBlock)) HO_7.out (fun k_ hk => ⟨(by rw [HE42.out]; exact hk.1), hk.2⟩)); clear HO_7; have HO_7 := n_; clear n_; have n_ := Aside0.mk (Kd.R_mono (ok' := fun k_ => (some k_ ≠ (.slice A42 y195.length c42 : Value).ownBlock ∧ some k_ ≠ (u7 : Value).ownBlock)) HO194.out (fun k_ hk => ⟨(by rw [HE42.out]; exact hk.1), hk.2⟩)); clear HO194; have HO194 := n_; clear n_; obtain ⟨Ao43, co43, eo43, _⟩ := Kd.Q_slice HO_7.out; subst eo43; have q44 : (1 : Int) ≤ ((x7_1.length : Int) : Int) := of_decide_eq_true (by first | (with_reducible assumption) | assumption); obtain ⟨i044, hi044, _, hsz44, _⟩ := info_parts info9; have hcut44 := cut_from (P := Tryd.prog) 26 9 .i64 Tryd.underlying26 hi044 1 hsz44 Ao43 x7_1.length co43 1 (by omega) q44; have hr44 := Kd.Q_drop (k := (1 : Int).toNat) HO_7.out (by omega); obtain ⟨A44, hA44⟩ : ∃ A1, A1 = (if co43 = (1 : Int).toNat then Ao43 else (Ao43 : Option Addr).map (·.add ((1 : Int).toNat * 1))) := ⟨_, rfl⟩; obtain ⟨c44, hc44⟩ : ∃ c1, c1 = co43 - (1 : Int).toNat := ⟨_, rfl⟩; have hy44 : y198.length = x7_1.length - (1 : Int).toNat := (by rw [Ny198.out, List.length_drop]); rw [← Ny198.out] at hr44; rw [← hy44, ← hA44, ← hc44] at hcut44; replace hr44 : Kd.Q Kd.string 9 w41 w.heap.size (fun k_ => some k_ ≠ (.slice A42 y195.length c42 : Value).ownBlock ∧ some k_ ≠ (v193 : Value).ownBlock) (.slice A44 y198.length c44) y198 := (by rw [hA44, hc44, hy44]; exact hr44); have HE44 : Aside0 ((Value.slice A44 y198.length c44).ownBlock = (.slice Ao43 x7_1.length co43 : Value).ownBlock) := ⟨by rw [hA44]; split <;> (cases (Ao43 : Option Addr) <;> rfl)⟩; clear hy44 hi044 hsz44 HO_7 hA44 hc44; have HO200 := Aside0.mk hr44; clear hr44; replace q44 := eq_true q44; have n_ := Aside0.mk (Kd.Q_mono (ok' := fun k_ => (some k_ ≠ (.slice A44 y198.length c44 : Value).ownBlock ∧ some k_ ≠ (v193 : Value).ownBlock)) HO197.out (fun k_ hk => ⟨(by rw [HE44.out]; exact hk.1), hk.2⟩)); clear HO197; have HO197 := n_; clear n_; have n_ := Aside0.mk (Kd.R_mono (ok' := fun k_ => (some k_ ≠ (.slice A42 y195.length c42 : Value).ownBlock ∧ some k_ ≠ (.slice A44 y198.length c44 : Value).ownBlock)) HO194.out (fun k_ hk => ⟨hk.1, (by rw [HE44.out]; exact hk.2)⟩)); clear HO194; have HO194 := n_; clear n_)); try go_wp2_with (first | (go_at_call 35; (with_reducible refine (match_plain.calls (rdOf ByteArray.empty x6_1 0) t191 _ A36.out).mono ?_); rintro e w' ⟨rfl, ⟨nd, rfl⟩⟩; (try first | exact ⟨rfl, _, World.drewN_drewN _ _ _⟩ | exact ⟨rfl, _, Eq.trans (World.drewN_drewN _ _ _) (congrArg (World.drewN _) (Nat.add_assoc _ _ _))⟩)) | ((with_reducible refine gate_builtin (b := .append) (xs := #[.tmp 49, .tmp 52]) rfl ?_); (try (refine gate_guard (by rfl) ?_; dsimp only)); at_builtin; refine Kd.R_append Kd.string (w0 := w) w.heap.size rfl (.tmp 49) (.tmp 52) 26 9 (.string ⟨#[]⟩) 16 rfl Tryd.underlying26 info9 rfl (by decide) (by omega) u8 x8_1 t191 [.string t191] (fun k_ => some k_ ≠ (.slice (some ad179) x6_1.length co40 : Value).ownBlock ∧ some k_ ≠ (u7 : Value).ownBlock) (fun _ => False) rfl rfl ?aP (fun _ hk => hk.elim) ?aF ?aO ?aB ?aS ?aL ?_; (case aP => exact rfl); (case aB => exact (by repeat (first | (with_reducible first | exact HB.out | apply below_alloc | apply pw_below_drewN | apply below_drew1) | exact HB.out))); (case aF => exact (fun k_ hk => ⟨Kd.fresh' (Kd.Q_lt (by (with_reducible repeat (first | apply Kd.Q_alloc | apply Kd.Q_drewN | apply Kd.Q_drew)); exact HO_6.out)) k_ hk, Kd.fresh' (Kd.Q_lt (by (with_reducible repeat (first | apply Kd.Q_alloc | apply Kd.Q_drewN | apply Kd.Q_drew)); exact HO_7.out)) k_ hk⟩)); (case aO => exact (by (with_reducible repeat (first | apply Kd.R_alloc | apply Kd.R_drewN | apply Kd.R_drew)); exact HO_8.out)); (case aS => exact (below_size (by repeat (first | (with_reducible first | exact HB.out | apply below_alloc | apply pw_below_drewN | apply below_drew1) | exact HB.out)))); (case aL => have := LMc37.out; omega); intro v193 w41 ho hb hg hat; rw [← Ny192.out] at ho; have n0_ := Aside0.mk (Kd.Q_after (ok := (fun k_ => some k_ ≠ (u7 : Value).ownBlock)) (by (with_reducible repeat (first | apply Kd.Q_alloc | apply Kd.Q_drewN | apply Kd.Q_drew)); exact HO_6.out) hg hat); have n1_ := Aside0.mk (Kd.Q_after (ok := (fun k_ => some k_ ≠ (.slice (some ad179) x6_1.length co40 : Value).ownBlock)) (by (with_reducible repeat (first | apply Kd.Q_alloc | apply Kd.Q_drewN | apply Kd.Q_drew)); exact HO_7.out) hg hat); have n2_ := Aside0.mk (hb); have n3_ := Aside0.mk (ho); clear HO_6; clear HO_7; clear HB; clear HO_8; have HO_6 := n0_; have HO_7 := n1_; have HB := n2_; have HO194 := n3_; clear n0_ n1_ n2_ n3_; clear ho hb hg hat; have q42 : (1 : Int) ≤ ((x6_1.length : Int) : Int) := of_decide_eq_true (by first | (with_reducible assumption) | assumption); obtain ⟨i042, hi042, _, hsz42, _⟩ := info_parts info9; have hcut42 := cut_from (P := Tryd.prog) 26 9 .i64 Tryd.underlying26 hi042 1 hsz42 (some ad179) x6_1.length co40 1 (by omega) q42; have hr42 := Kd.Q_drop (k := (1 : Int).toNat) HO_6.out (by omega); obtain ⟨A42, hA42⟩ : ∃ A1, A1 = (if co40 = (1 : Int).toNat then (some ad179) else ((some ad179) : Option Addr).map (·.add ((1 : Int).toNat * 1))) := ⟨_, rfl⟩; obtain ⟨c42, hc42⟩ : ∃ c1, c1 = co40 - (1 : Int).toNat := ⟨_, rfl⟩; have hy42 : y195.length = x6_1.length - (1 : Int).toNat := (by rw [Ny195.out, List.length_drop]); rw [← Ny195.out] at hr42; rw [← hy42, ← hA42, ← hc42] at hcut42; replace hr42 : Kd.Q Kd.string 9 w41 w.heap.size (fun k_ => some k_ ≠ (u7 : Value).ownBlock ∧ some k_ ≠ (v193 : Value).ownBlock) (.slice A42 y195.length c42) y195 := (by rw [hA42, hc42, hy42]; exact hr42); have HE42 : Aside0 ((Value.slice A42 y195.length c42).ownBlock = (.slice (some ad179) x6_1.length co40 : Value).ownBlock) := ⟨by rw [hA42]; split <;> (cases ((some ad179) : Option Addr) <;> rfl)⟩; clear hy42 hi042 hsz42 HO_6 hA42 hc42; have HO197 := Aside0.mk hr42; clear hr42; replace q42 := eq_true q42; have n_ := Aside0.mk (Kd.Q_mono (ok' := fun k_ => (some k_ ≠ (.slice A42 y195.length c42 : Value).ownBlock ∧ some k_ ≠ (v193 : Value).ownBlock)) HO_7.out (fun k_ hk => ⟨(by rw [HE42.out]; exact hk.1), hk.2⟩)); clear HO_7; have HO_7 := n_; clear n_; have n_ := Aside0.mk (Kd.R_mono (ok' := fun k_ => (some k_ ≠ (.slice A42 y195.length c42 : Value).ownBlock ∧ some k_ ≠ (u7 : Value).ownBlock)) HO194.out (fun k_ hk => ⟨(by rw [HE42.out]; exact hk.1), hk.2⟩)); clear HO194; have HO194 := n_; clear n_; obtain ⟨Ao43, co43, eo43, _⟩ := Kd.Q_slice HO_7.out; subst eo43; have q44 : (1 : Int) ≤ ((x7_1.length : Int) : Int) := of_decide_eq_true (by first | (with_reducible assumption) | assumption); obtain ⟨i044, hi044, _, hsz44, _⟩ := info_parts info9; have hcut44 := cut_from (P := Tryd.prog) 26 9 .i64 Tryd.underlying26 hi044 1 hsz44 Ao43 x7_1.length co43 1 (by omega) q44; have hr44 := Kd.Q_drop (k := (1 : Int).toNat) HO_7.out (by omega); obtain ⟨A44, hA44⟩ : ∃ A1, A1 = (if co43 = (1 : Int).toNat then Ao43 else (Ao43 : Option Addr).map (·.add ((1 : Int).toNat * 1))) := ⟨_, rfl⟩; obtain ⟨c44, hc44⟩ : ∃ c1, c1 = co43 - (1 : Int).toNat := ⟨_, rfl⟩; have hy44 : y198.length = x7_1.length - (1 : Int).toNat := (by rw [Ny198.out, List.length_drop]); rw [← Ny198.out] at hr44; rw [← hy44, ← hA44, ← hc44] at hcut44; replace hr44 : Kd.Q Kd.string 9 w41 w.heap.size (fun k_ => some k_ ≠ (.slice A42 y195.length c42 : Value).ownBlock ∧ some k_ ≠ (v193 : Value).ownBlock) (.slice A44 y198.length c44) y198 := (by rw [hA44, hc44, hy44]; exact hr44); have HE44 : Aside0 ((Value.slice A44 y198.length c44).ownBlock = (.slice Ao43 x7_1.length co43 : Value).ownBlock) := ⟨by rw [hA44]; split <;> (cases (Ao43 : Option Addr) <;> rfl)⟩; clear hy44 hi044 hsz44 HO_7 hA44 hc44; have HO200 := Aside0.mk hr44; clear hr44; replace q44 := eq_true q44; have n_ := Aside0.mk (Kd.Q_mono (ok' := fun k_ => (some k_ ≠ (.slice A44 y198.length c44 : Value).ownBlock ∧ some k_ ≠ (v193 : Value).ownBlock)) HO197.out (fun k_ hk => ⟨(by rw [HE44.out]; exact hk.1), hk.2⟩)); clear HO197; have HO197 := n_; clear n_; have n_ := Aside0.mk (Kd.R_mono (ok' := fun k_ => (some k_ ≠ (.slice A42 y195.length c42 : Value).ownBlock ∧ some k_ ≠ (.slice A44 y198.length c44 : Value).ownBlock)) HO194.out (fun k_ hk => ⟨hk.1, (by rw [HE44.out]; exact hk.2)⟩)); clear HO194; have HO194 := n_; clear n_)))
            go_roundg kj9
            case measure => have := HK1.out; have := HJ9.out; omega
            case rel => exact ⟨(y195), (y198), (y192), H', ⟨by have := HK1.out; have := HJ9.out; omega⟩, ⟨by (with_reducible repeat (first | apply Kd.Q_alloc | apply Kd.Q_drewN | apply Kd.Q_drew)); exact HO197.out⟩, ⟨by (with_reducible repeat (first | apply Kd.Q_alloc | apply Kd.Q_drewN | apply Kd.Q_drew)); exact HO200.out⟩, ⟨by (with_reducible repeat (first | apply Kd.R_alloc | apply Kd.R_drewN | apply Kd.R_drew)); exact HO194.out⟩, ⟨by repeat (first | (with_reducible first | exact HB.out | apply below_alloc | apply pw_below_drewN | apply below_drew1) | exact HB.out)⟩⟩
           ·rw [if_neg c39] at H
            exact absurd H (by simp)
          ·rw [if_neg c38] at H
           exact absurd H (by simp)
         ·rw [if_neg c37] at H
          exact absurd H (by simp)
       ·rw [if_neg c24] at H
        exact absurd H (by simp)
      ·replace c23 := Bool.eq_false_iff.mpr c23
       subst c23
       have H1 : (if (x6_1.length : Int) > 0 then (if 0 < (x6_1.length : Int) then (match_Common.j2 kj9 x7_1 x8_1 x6_1 ((rdOf ByteArray.empty x6_1 0).toList == ([35] : List UInt8))) else (none)) else (match_Common.j2 kj9 x7_1 x8_1 x6_1 false)) = some (r1, r2) := by rw [if_neg (show ¬ (false = true) by decide)] at H; exact H
       clear H
       have H := H1
       clear H1
       have HC45 := Aside0.mk H
       clear H
       go_upto_region 12 with (fail)
       repeat (go_quiet (fail); go_upto_region 12 with (fail))
       go_cut [67] (fun v67 wc => ∃ (kq : Nat) (x67_44 : Bool), v67 = .bool x67_44 ∧ Aside0 (match_Common.j2 kq x7_1 x8_1 x6_1 x67_44 = some (r1, r2)) ∧ Aside0 (kq ≤ kj9) ∧ Aside0 (Kd.Q Kd.string 9 wc w.heap.size (fun k_ => some k_ ≠ (u8 : Value).ownBlock ∧ some k_ ≠ (u6 : Value).ownBlock) u7 x7_1) ∧ Aside0 (Kd.R Kd.string 9 wc w.heap.size (fun k_ => some k_ ≠ (u7 : Value).ownBlock ∧ some k_ ≠ (u6 : Value).ownBlock) u8 x8_1) ∧ Aside0 (Kd.Q Kd.string 9 wc w.heap.size (fun k_ => some k_ ≠ (u7 : Value).ownBlock ∧ some k_ ≠ (u8 : Value).ownBlock) u6 x6_1) ∧ Aside0 (Below w.heap.size w wc))
       case first =>
        have H := HC45.out
        clear HC45
        by_cases c46 : (x6_1.length : Int) > 0
        ·rw [if_pos c46] at H
         have c46b0 : decide (0 < (x6_1.length : Int)) = true := decide_eq_true c46
         have c46b1 : decide (0 < x6_1.length) = true := decide_eq_true (by omega)
         clear c46
         (first | rw [c46b0] | (simp only [i64_w, i32_w]; rw [c46b0]) | skip)
         by_cases c47 : 0 < (x6_1.length : Int)
         ·rw [if_pos c47] at H
          have c47b0 : decide (0 < (x6_1.length : Int)) = true := decide_eq_true c47
          have c47b1 : decide (0 < x6_1.length) = true := decide_eq_true (by omega)
          clear c47
          have H' := Aside0.mk H
          clear H
          obtain ⟨Ao48, co48, eo48, _⟩ := Kd.Q_slice HO_6.out
          subst eo48
          have p201 : 0 ≤ (0 : Int) := (by omega)
          have q201 : 0 < (x6_1.length : Int) := of_decide_eq_true (by first | (with_reducible assumption) | assumption)
          obtain ⟨ad201, e201, hx201_0⟩ := Kd.at_string (Kd.Q_reads' HO_6.out).2.2 0 p201 q201
          cases e201
          have qi201 : (0 < x6_1.length) = True := eq_true (by omega)
          (try rw [show ((0 : Int)).toNat = 0 from rfl] at hx201_0)
          (try rw [Addr.add_zero'] at hx201_0)
          replace p201 := eq_true p201
          replace q201 := eq_true q201
          go_wp2
          repeat (go_quiet (fail); try go_wp2)
          go_meet
          case rel => exact ⟨_, (((rdOf ByteArray.empty x6_1 0).toList == ([35] : List UInt8))), (by first | rfl | (simp; done) | (simp [*]; done)), H', ⟨by have := HK1.out; have := HJ9.out; first | omega | exact Nat.le_refl _⟩, ⟨by (with_reducible repeat (first | apply Kd.Q_alloc | apply Kd.Q_drewN | apply Kd.Q_drew)); exact Kd.Q_mono HO_7.out (fun _ hk => ⟨hk.2, hk.1⟩)⟩, ⟨by (with_reducible repeat (first | apply Kd.R_alloc | apply Kd.R_drewN | apply Kd.R_drew)); exact Kd.R_mono HO_8.out (fun _ hk => ⟨hk.2, hk.1⟩)⟩, ⟨by (with_reducible repeat (first | apply Kd.Q_alloc | apply Kd.Q_drewN | apply Kd.Q_drew)); exact HO_6.out⟩, ⟨by repeat (first | (with_reducible first | exact HB.out | apply below_alloc | apply pw_below_drewN | apply below_drew1) | exact HB.out)⟩⟩
         ·rw [if_neg c47] at H
          exact absurd H (by simp)
        ·rw [if_neg c46] at H
         have c46b0 : decide (0 < (x6_1.length : Int)) = false := decide_eq_false c46
         have c46b1 : decide (0 < x6_1.length) = false := decide_eq_false (by omega)
         clear c46
         (first | rw [c46b0] | (simp only [i64_w, i32_w]; rw [c46b0]) | skip)
         have H' := Aside0.mk H
         clear H
         obtain ⟨Ao49, co49, eo49, _⟩ := Kd.Q_slice HO_6.out
         subst eo49
         go_wp2
         repeat (go_quiet (fail); try go_wp2)
         go_meet
         case rel => exact ⟨_, (false), (by first | rfl | (simp; done) | (simp [*]; done)), H', ⟨by have := HK1.out; have := HJ9.out; first | omega | exact Nat.le_refl _⟩, ⟨by (with_reducible repeat (first | apply Kd.Q_alloc | apply Kd.Q_drewN | apply Kd.Q_drew)); exact Kd.Q_mono HO_7.out (fun _ hk => ⟨hk.2, hk.1⟩)⟩, ⟨by (with_reducible repeat (first | apply Kd.R_alloc | apply Kd.R_drewN | apply Kd.R_drew)); exact Kd.R_mono HO_8.out (fun _ hk => ⟨hk.2, hk.1⟩)⟩, ⟨by (with_reducible repeat (first | apply Kd.Q_alloc | apply Kd.Q_drewN | apply Kd.Q_drew)); exact HO_6.out⟩, ⟨by repeat (first | (with_reducible first | exact HB.out | apply below_alloc | apply pw_below_drewN | apply below_drew1) | exact HB.out)⟩⟩
       case rest =>
        clear HC45
        try clear c1
        try clear p1
        try clear q1
        try clear hx1
        try clear qi1
        try clear c2
        try clear p2
        try clear q2
        try clear hx2
        try clear qi2
        try clear c3
        try clear q3
        try clear c4
        try clear q4
        try clear c11
        try clear c11b0
        try clear c11b1
        try clear c12
        try clear c12b0
        try clear c12b1
        try clear c13
        try clear c13b0
        try clear c13b1
        try clear c14
        try clear c14b0
        try clear c14b1
        try clear c17
        try clear c17b0
        try clear c17b1
        try clear p17
        try clear q17
        try clear hx17
        try clear qi17
        try clear p18
        try clear q18
        try clear hx18
        try clear qi18
        try clear p20
        try clear q20
        try clear hx20
        try clear qi20
        try clear c23
        try clear c24
        try clear c24b0
        try clear c24b1
        try clear c25
        try clear c25b0
        try clear c25b1
        try clear c26
        try clear c26b0
        try clear c26b1
        try clear c28
        try clear c29
        try clear c29b0
        try clear c29b1
        try clear c30
        try clear c30b0
        try clear c30b1
        try clear c34
        try clear q34
        try clear c35
        try clear q35
        try clear c37
        try clear c38
        try clear c38b0
        try clear c38b1
        try clear c39
        try clear c39b0
        try clear c39b1
        try clear c42
        try clear q42
        try clear c44
        try clear q44
        try clear c46
        try clear c46b0
        try clear c46b1
        try clear c47
        try clear c47b0
        try clear c47b1
        try clear hx177_0
        try clear hx178_0
        try clear hx179_0
        try clear hx180_0
        try clear hx201_0
        try clear p1
        try clear p17
        try clear p177
        try clear p178
        try clear p179
        try clear p180
        try clear p2
        try clear p201
        try clear q1
        try clear q17
        try clear q177
        try clear q178
        try clear q179
        try clear q180
        try clear q201
        try clear q34
        try clear q35
        try clear q42
        try clear q44
        obtain ⟨kq, x67_44, rfl, HA, HJ44, HO_7, HO_8, HO_10, HB⟩ := hcut
        cases kq with
        | zero => exact absurd HA.out (by simp [match_Common.j2])
        | succ kj44 =>
         have H := HA.out
         clear HA
         simp only [match_Common.j2] at H
         have HC50 := Aside0.mk H
         clear H
         go_upto_if 67 with (fail)
         repeat (go_quiet (fail); go_upto_if 67 with (fail))
         go_cut [10] (fun v10 wc => ∃ (kq : Nat) (x10_49 : List ByteArray), Aside0 (match_Common.j3 kq x8_1 x10_49 = some (r1, r2)) ∧ Aside0 (kq ≤ kj44) ∧ Aside0 (Kd.R Kd.string 9 wc w.heap.size (fun k_ => some k_ ≠ (v10 : Value).ownBlock) u8 x8_1) ∧ Aside0 (Kd.Q Kd.string 9 wc w.heap.size (fun k_ => some k_ ≠ (u8 : Value).ownBlock) v10 x10_49) ∧ Aside0 (Below w.heap.size w wc))
         case first =>
          have H := HC50.out
          clear HC50
          by_cases c51 : x67_44 = true
          ·subst c51
           have H1 : (match_Common.j3 kj44 x8_1 x7_1) = some (r1, r2) := by rw [if_pos rfl] at H; exact H
           clear H
           have H := H1
           clear H1
           have H' := Aside0.mk H
           clear H
           go_wp2
           repeat (go_quiet (fail); try go_wp2)
           go_meet
           case rel => exact ⟨_, (x7_1), H', ⟨by have := HK1.out; have := HJ9.out; have := HJ44.out; first | omega | exact Nat.le_refl _⟩, ⟨by (with_reducible repeat (first | apply Kd.R_alloc | apply Kd.R_drewN | apply Kd.R_drew)); exact Kd.R_mono HO_8.out (fun _ hk => hk.1)⟩, ⟨by (with_reducible repeat (first | apply Kd.Q_alloc | apply Kd.Q_drewN | apply Kd.Q_drew)); exact Kd.Q_mono HO_7.out (fun _ hk => hk.1)⟩, ⟨by repeat (first | (with_reducible first | exact HB.out | apply below_alloc | apply pw_below_drewN | apply below_drew1) | exact HB.out)⟩⟩
          ·replace c51 := Bool.eq_false_iff.mpr c51
           subst c51
           have H1 : (match_Common.j3 kj44 x8_1 x6_1) = some (r1, r2) := by rw [if_neg (show ¬ (false = true) by decide)] at H; exact H
           clear H
           have H := H1
           clear H1
           have H' := Aside0.mk H
           clear H
           go_wp2
           repeat (go_quiet (fail); try go_wp2)
           go_meet
           case rel => exact ⟨_, (x6_1), H', ⟨by have := HK1.out; have := HJ9.out; have := HJ44.out; first | omega | exact Nat.le_refl _⟩, ⟨by (with_reducible repeat (first | apply Kd.R_alloc | apply Kd.R_drewN | apply Kd.R_drew)); exact Kd.R_mono HO_8.out (fun _ hk => hk.2)⟩, ⟨by (with_reducible repeat (first | apply Kd.Q_alloc | apply Kd.Q_drewN | apply Kd.Q_drew)); exact Kd.Q_mono HO_10.out (fun _ hk => hk.2)⟩, ⟨by repeat (first | (with_reducible first | exact HB.out | apply below_alloc | apply pw_below_drewN | apply below_drew1) | exact HB.out)⟩⟩
         case rest =>
          clear HC50
          try clear c1
          try clear p1
          try clear q1
          try clear hx1
          try clear qi1
          try clear c2
          try clear p2
          try clear q2
          try clear hx2
          try clear qi2
          try clear c3
          try clear q3
          try clear c4
          try clear q4
          try clear c5
          try clear c11
          try clear c11b0
          try clear c11b1
          try clear c12
          try clear c12b0
          try clear c12b1
          try clear c13
          try clear c13b0
          try clear c13b1
          try clear c14
          try clear c14b0
          try clear c14b1
          try clear c17
          try clear c17b0
          try clear c17b1
          try clear p17
          try clear q17
          try clear hx17
          try clear qi17
          try clear p18
          try clear q18
          try clear hx18
          try clear qi18
          try clear p20
          try clear q20
          try clear hx20
          try clear qi20
          try clear c23
          try clear c24
          try clear c24b0
          try clear c24b1
          try clear c25
          try clear c25b0
          try clear c25b1
          try clear c26
          try clear c26b0
          try clear c26b1
          try clear c28
          try clear c29
          try clear c29b0
          try clear c29b1
          try clear c30
          try clear c30b0
          try clear c30b1
          try clear c34
          try clear q34
          try clear c35
          try clear q35
          try clear c37
          try clear c38
          try clear c38b0
          try clear c38b1
          try clear c39
          try clear c39b0
          try clear c39b1
          try clear c42
          try clear q42
          try clear c44
          try clear q44
          try clear c46
          try clear c46b0
          try clear c46b1
          try clear c47
          try clear c47b0
          try clear c47b1
          try clear c51
          try clear hx177_0
          try clear hx178_0
          try clear hx179_0
          try clear hx180_0
          try clear hx201_0
          try clear p1
          try clear p17
          try clear p177
          try clear p178
          try clear p179
          try clear p18
          try clear p180
          try clear p2
          try clear p20
          try clear p201
          try clear q1
          try clear q17
          try clear q177
          try clear q178
          try clear q179
          try clear q18
          try clear q180
          try clear q2
          try clear q20
          try clear q201
          try clear q3
          try clear q34
          try clear q35
          try clear q4
          try clear q42
          try clear q44
          obtain ⟨kq, x10_49, HA, HJ49, HO_8, HO_10, HB⟩ := hcut
          cases kq with
          | zero => exact absurd HA.out (by simp [match_Common.j3])
          | succ kj49 =>
           have H := HA.out
           clear HA
           simp only [match_Common.j3] at H
           have H' := Aside0.mk H
           clear H
           obtain ⟨Ao52, co52, eo52, _⟩ := Kd.Q_slice HO_10.out
           subst eo52
           go_wp2
           repeat (go_quiet (fail); try go_wp2)
           go_loopg [8, 71] kj49 (fun kq v8 v71 w' => ∃ (x8_5 : List ByteArray) (x71_5 : Int), v71 = .int .i64 x71_5 ∧ Aside0 (match_Common.l1 kq x8_5 x10_49 (x10_49.length : Int) x71_5 = some (r1, r2)) ∧ Aside0 (kq ≤ kj49) ∧ Aside0 (Kd.R Kd.string 9 w' w.heap.size (fun k_ => some k_ ≠ ((.slice Ao52 x10_49.length co52) : Value).ownBlock) v8 x8_5) ∧ Aside0 (Kd.Q Kd.string 9 w' w.heap.size (fun k_ => some k_ ≠ (v8 : Value).ownBlock) (.slice Ao52 x10_49.length co52) x10_49) ∧ Aside0 (Below w.heap.size w w'))
           case atStart => exact ⟨(x8_1), (0), (by first | rfl | (simp; done) | (simp [*]; done)), H', ⟨Nat.le_refl _⟩, ⟨by (with_reducible repeat (first | apply Kd.R_alloc | apply Kd.R_drewN | apply Kd.R_drew)); exact HO_8.out⟩, ⟨by (with_reducible repeat (first | apply Kd.Q_alloc | apply Kd.Q_drewN | apply Kd.Q_drew)); exact HO_10.out⟩, ⟨by repeat (first | (with_reducible first | exact HB.out | apply below_alloc | apply pw_below_drewN | apply below_drew1) | exact HB.out)⟩⟩
           case round =>
            clear H'
            try clear c1
            try clear p1
            try clear q1
            try clear hx1
            try clear qi1
            try clear c2
            try clear p2
            try clear q2
            try clear hx2
            try clear qi2
            try clear c3
            try clear q3
            try clear c4
            try clear q4
            try clear c5
            try clear c11
            try clear c11b0
            try clear c11b1
            try clear c12
            try clear c12b0
            try clear c12b1
            try clear c13
            try clear c13b0
            try clear c13b1
            try clear c14
            try clear c14b0
            try clear c14b1
            try clear c17
            try clear c17b0
            try clear c17b1
            try clear p17
            try clear q17
            try clear hx17
            try clear qi17
            try clear p18
            try clear q18
            try clear hx18
            try clear qi18
            try clear p20
            try clear q20
            try clear hx20
            try clear qi20
            try clear c23
            try clear c24
            try clear c24b0
            try clear c24b1
            try clear c25
            try clear c25b0
            try clear c25b1
            try clear c26
            try clear c26b0
            try clear c26b1
            try clear c28
            try clear c29
            try clear c29b0
            try clear c29b1
            try clear c30
            try clear c30b0
            try clear c30b1
            try clear c34
            try clear q34
            try clear c35
            try clear q35
            try clear c37
            try clear c38
            try clear c38b0
            try clear c38b1
            try clear c39
            try clear c39b0
            try clear c39b1
            try clear c42
            try clear q42
            try clear c44
            try clear q44
            try clear c46
            try clear c46b0
            try clear c46b1
            try clear c47
            try clear c47b0
            try clear c47b1
            try clear c51
            try clear hx177_0
            try clear hx178_0
            try clear hx179_0
            try clear hx180_0
            try clear hx201_0
            try clear p1
            try clear p17
            try clear p177
            try clear p178
            try clear p179
            try clear p18
            try clear p180
            try clear p2
            try clear p20
            try clear p201
            try clear q1
            try clear q17
            try clear q177
            try clear q178
            try clear q179
            try clear q18
            try clear q180
            try clear q2
            try clear q20
            try clear q201
            try clear q3
            try clear q34
            try clear q35
            try clear q4
            try clear q42
            try clear q44
            obtain ⟨x8_5, x71_5, rfl, HA, HK5, HO_8, HO_69, HB⟩ := hrel
            cases gk with
            | zero => exact absurd HA.out (by simp [match_Common.l1])
            | succ k5 =>
             have H := HA.out
             clear HA
             simp only [match_Common.l1] at H
             by_cases c53 : x71_5 < (x10_49.length : Int)
             ·rw [if_pos c53] at H
              have c53b0 : decide (x71_5 < (x10_49.length : Int)) = true := decide_eq_true c53
              clear c53
              by_cases c54 : 0 ≤ x71_5
              ·rw [if_pos c54] at H
               have c54b0 : decide (0 ≤ x71_5) = true := decide_eq_true c54
               clear c54
               by_cases c55 : x71_5 < (x10_49.length : Int)
               ·rw [if_pos c55] at H
                have c55b0 : decide (x71_5 < (x10_49.length : Int)) = true := decide_eq_true c55
                clear c55
                by_cases c56 : (rdOf ByteArray.empty x10_49 x71_5).toList = ([35] : List UInt8)
                ·rw [if_pos c56] at H
                 have c56b0 : ((rdOf ByteArray.empty x10_49 x71_5).toList == ([35] : List UInt8)) = true := beq_iff_eq.mpr c56
                 have c56b1 : ((rdOf ByteArray.empty x10_49 x71_5).toList != ([35] : List UInt8)) = false := bne_eq_false_iff_eq.mpr c56
                 clear c56
                 have H' := Aside0.mk H
                 clear H
                 have p202 : 0 ≤ (x71_5 : Int) := of_decide_eq_true (by first | (with_reducible assumption) | assumption)
                 have q202 : x71_5 < (x10_49.length : Int) := of_decide_eq_true (by first | (with_reducible assumption) | assumption)
                 obtain ⟨ad202, e202, hx202_0⟩ := Kd.at_string (Kd.Q_reads' HO_69.out).2.2 x71_5 p202 q202
                 cases e202
                 replace p202 := eq_true p202
                 replace q202 := eq_true q202
                 go_wp2
                 repeat (go_quiet (fail); try go_wp2)
                 go_roundg k5
                 case measure => have := HK1.out; have := HJ9.out; have := HJ44.out; have := HJ49.out; have := HK5.out; omega
                 case rel => exact ⟨(x8_5), (wrap64 (x71_5 + 1)), (by first | rfl | (simp; done) | (simp [*]; done)), H', ⟨by have := HK1.out; have := HJ9.out; have := HJ44.out; have := HJ49.out; have := HK5.out; omega⟩, ⟨by (with_reducible repeat (first | apply Kd.R_alloc | apply Kd.R_drewN | apply Kd.R_drew)); exact HO_8.out⟩, ⟨by (with_reducible repeat (first | apply Kd.Q_alloc | apply Kd.Q_drewN | apply Kd.Q_drew)); exact HO_69.out⟩, ⟨by repeat (first | (with_reducible first | exact HB.out | apply below_alloc | apply pw_below_drewN | apply below_drew1) | exact HB.out)⟩⟩
                ·rw [if_neg c56] at H
                 have c56b0 : ((rdOf ByteArray.empty x10_49 x71_5).toList == ([35] : List UInt8)) = false := beq_eq_false_iff_ne.mpr c56
                 have c56b1 : ((rdOf ByteArray.empty x10_49 x71_5).toList != ([35] : List UInt8)) = true := bne_iff_ne.mpr c56
                 replace H := Option.bind_eq_some_iff.mp H
                 obtain ⟨t203, A570, H⟩ := H
                 replace H : (if x8_5.length < 8796093022208 then (match_Common.l1 k5 (x8_5 ++ [t203]) x10_49 (x10_49.length : Int) (wrap64 (x71_5 + 1))) else (none)) = some (r1, r2) := H
                 have A57 := Aside0.mk A570
                 clear A570
                 by_cases c58 : x8_5.length < 8796093022208
                 ·rw [if_pos c58] at H
                  have LMc58 := Aside0.mk c58
                  clear c58
                  obtain ⟨y204, hy204⟩ : ∃ y_ : List ByteArray, y_ = (x8_5 ++ [t203]) := ⟨_, rfl⟩
                  replace H : (match_Common.l1 k5 y204 x10_49 (x10_49.length : Int) (wrap64 (x71_5 + 1))) = some (r1, r2) := by first | (rw [hy204]; with_reducible exact H) | (have H2_ := (Option.bind_some _ _).symm.trans H; rw [hy204]; with_reducible exact H2_) | (have H2_ := (Option.bind_some _ _).symm.trans H; with_reducible exact H2_) | with_reducible exact H | (rw [hy204]; exact H) | exact H
                  have Ny204 := Aside0.mk hy204
                  clear hy204
                  have H' := Aside0.mk H
                  clear H
                  have p202 : 0 ≤ (x71_5 : Int) := of_decide_eq_true (by first | (with_reducible assumption) | assumption)
                  have q202 : x71_5 < (x10_49.length : Int) := of_decide_eq_true (by first | (with_reducible assumption) | assumption)
                  obtain ⟨ad202, e202, hx202_0⟩ := Kd.at_string (Kd.Q_reads' HO_69.out).2.2 x71_5 p202 q202
                  cases e202
                  replace p202 := eq_true p202
                  replace q202 := eq_true q202
                  go_wp2_with (first | (go_at_call 35; (with_reducible refine (match_plain.calls (rdOf ByteArray.empty x10_49 x71_5) t203 _ A57.out).mono ?_); rintro e w' ⟨rfl, ⟨nd, rfl⟩⟩; (try first | exact ⟨rfl, _, World.drewN_drewN _ _ _⟩ | exact ⟨rfl, _, Eq.trans (World.drewN_drewN _ _ _) (congrArg (World.drewN _) (Nat.add_assoc _ _ _))⟩)) | ((with_reducible refine gate_builtin (b := .append) (xs := #[.tmp 77, .tmp 80]) rfl ?_); (try (refine gate_guard (by rfl) ?_; dsimp only)); at_builtin; refine Kd.R_append Kd.string (w0 := w) w.heap.size rfl (.tmp 77) (.tmp 80) 26 9 (.string ⟨#[]⟩) 16 rfl Tryd.underlying26 info9 rfl (by decide) (by omega) u8 x8_5 t203 [.string t203] (fun k_ => some k_ ≠ (.slice (some ad202) x10_49.length co52 : Value).ownBlock) (fun _ => False) rfl rfl ?aP (fun _ hk => hk.elim) ?aF ?aO ?aB ?aS ?aL ?_; (case aP => exact rfl); (case aB => exact (by repeat (first | (with_reducible first | exact HB.out | apply below_alloc | apply pw_below_drewN | apply below_drew1) | exact HB.out))); (case aF => exact (fun k_ hk => Kd.fresh' (Kd.Q_lt (by (with_reducible repeat (first | apply Kd.Q_alloc | apply Kd.Q_drewN | apply Kd.Q_drew)); exact HO_69.out)) k_ hk)); (case aO => exact (by (with_reducible repeat (first | apply Kd.R_alloc | apply Kd.R_drewN | apply Kd.R_drew)); exact HO_8.out)); (case aS => exact (below_size (by repeat (first | (with_reducible first | exact HB.out | apply below_alloc | apply pw_below_drewN | apply below_drew1) | exact HB.out)))); (case aL => have := LMc58.out; omega); intro v205 w59 ho hb hg hat; rw [← Ny204.out] at ho; have n0_ := Aside0.mk (Kd.Q_after (ok := (fun _ => True)) (by (with_reducible repeat (first | apply Kd.Q_alloc | apply Kd.Q_drewN | apply Kd.Q_drew)); exact Kd.Q_mono HO_69.out (fun _ hk => ⟨trivial, hk⟩)) hg hat); have n1_ := Aside0.mk (hb); have n2_ := Aside0.mk (ho); clear HO_69; clear HB; clear HO_8; have HO_69 := n0_; have HB := n1_; have HO206 := n2_; clear n0_ n1_ n2_; clear ho hb hg hat))
                  repeat (go_quiet (first | (go_at_call 35; (with_reducible refine (match_plain.calls (rdOf ByteArray.empty x10_49 x71_5) t203 _ A57.out).mono ?_); rintro e w' ⟨rfl, ⟨nd, rfl⟩⟩; (try first | exact ⟨rfl, _, World.drewN_drewN _ _ _⟩ | exact ⟨rfl, _, Eq.trans (World.drewN_drewN _ _ _) (congrArg (World.drewN _) (Nat.add_assoc _ _ _))⟩)) | ((with_reducible refine gate_builtin (b := .append) (xs := #[.tmp 77, .tmp 80]) rfl ?_); (try (refine gate_guard (by rfl) ?_; dsimp only)); at_builtin; refine Kd.R_append Kd.string (w0 := w) w.heap.size rfl (.tmp 77) (.tmp 80) 26 9 (.string ⟨#[]⟩) 16 rfl Tryd.underlying26 info9 rfl (by decide) (by omega) u8 x8_5 t203 [.string t203] (fun k_ => some k_ ≠ (.slice (some ad202) x10_49.length co52 : Value).ownBlock) (fun _ => False) rfl rfl ?aP (fun _ hk => hk.elim) ?aF ?aO ?aB ?aS ?aL ?_; (case aP => exact rfl); (case aB => exact (by repeat (first | (with_reducible first | exact HB.out | apply below_alloc | apply pw_below_drewN | apply below_drew1) | exact HB.out))); (case aF => exact (fun k_ hk => Kd.fresh' (Kd.Q_lt (by (with_reducible repeat (first | apply Kd.Q_alloc | apply Kd.Q_drewN | apply Kd.Q_drew)); exact HO_69.out)) k_ hk)); (case aO => exact (by (with_reducible repeat (first | apply Kd.R_alloc | apply Kd.R_drewN | apply Kd.R_drew)); exact HO_8.out)); (case aS => exact (below_size (by repeat (first | (with_reducible first | exact HB.out | apply below_alloc | apply pw_below_drewN | apply below_drew1) | exact HB.out)))); (case aL => have := LMc58.out; omega); intro v205 w59 ho hb hg hat; rw [← Ny204.out] at ho; have n0_ := Aside0.mk (Kd.Q_after (ok := (fun _ => True)) (by (with_reducible repeat (first | apply Kd.Q_alloc | apply Kd.Q_drewN | apply Kd.Q_drew)); exact Kd.Q_mono HO_69.out (fun _ hk => ⟨trivial, hk⟩)) hg hat); have n1_ := Aside0.mk (hb); have n2_ := Aside0.mk (ho); clear HO_69; clear HB; clear HO_8; have HO_69 := n0_; have HB := n1_; have HO206 := n2_; clear n0_ n1_ n2_; clear ho hb hg hat)); try go_wp2_with (first | (go_at_call 35; (with_reducible refine (match_plain.calls (rdOf ByteArray.empty x10_49 x71_5) t203 _ A57.out).mono ?_); rintro e w' ⟨rfl, ⟨nd, rfl⟩⟩; (try first | exact ⟨rfl, _, World.drewN_drewN _ _ _⟩ | exact ⟨rfl, _, Eq.trans (World.drewN_drewN _ _ _) (congrArg (World.drewN _) (Nat.add_assoc _ _ _))⟩)) | ((with_reducible refine gate_builtin (b := .append) (xs := #[.tmp 77, .tmp 80]) rfl ?_); (try (refine gate_guard (by rfl) ?_; dsimp only)); at_builtin; refine Kd.R_append Kd.string (w0 := w) w.heap.size rfl (.tmp 77) (.tmp 80) 26 9 (.string ⟨#[]⟩) 16 rfl Tryd.underlying26 info9 rfl (by decide) (by omega) u8 x8_5 t203 [.string t203] (fun k_ => some k_ ≠ (.slice (some ad202) x10_49.length co52 : Value).ownBlock) (fun _ => False) rfl rfl ?aP (fun _ hk => hk.elim) ?aF ?aO ?aB ?aS ?aL ?_; (case aP => exact rfl); (case aB => exact (by repeat (first | (with_reducible first | exact HB.out | apply below_alloc | apply pw_below_drewN | apply below_drew1) | exact HB.out))); (case aF => exact (fun k_ hk => Kd.fresh' (Kd.Q_lt (by (with_reducible repeat (first | apply Kd.Q_alloc | apply Kd.Q_drewN | apply Kd.Q_drew)); exact HO_69.out)) k_ hk)); (case aO => exact (by (with_reducible repeat (first | apply Kd.R_alloc | apply Kd.R_drewN | apply Kd.R_drew)); exact HO_8.out)); (case aS => exact (below_size (by repeat (first | (with_reducible first | exact HB.out | apply below_alloc | apply pw_below_drewN | apply below_drew1) | exact HB.out)))); (case aL => have := LMc58.out; omega); intro v205 w59 ho hb hg hat; rw [← Ny204.out] at ho; have n0_ := Aside0.mk (Kd.Q_after (ok := (fun _ => True)) (by (with_reducible repeat (first | apply Kd.Q_alloc | apply Kd.Q_drewN | apply Kd.Q_drew)); exact Kd.Q_mono HO_69.out (fun _ hk => ⟨trivial, hk⟩)) hg hat); have n1_ := Aside0.mk (hb); have n2_ := Aside0.mk (ho); clear HO_69; clear HB; clear HO_8; have HO_69 := n0_; have HB := n1_; have HO206 := n2_; clear n0_ n1_ n2_; clear ho hb hg hat)))
                  go_roundg k5
                  case measure => have := HK1.out; have := HJ9.out; have := HJ44.out; have := HJ49.out; have := HK5.out; omega
                  case rel => exact ⟨(y204), (wrap64 (x71_5 + 1)), (by first | rfl | (simp; done) | (simp [*]; done)), H', ⟨by have := HK1.out; have := HJ9.out; have := HJ44.out; have := HJ49.out; have := HK5.out; omega⟩, ⟨by (with_reducible repeat (first | apply Kd.R_alloc | apply Kd.R_drewN | apply Kd.R_drew)); exact HO206.out⟩, ⟨by (with_reducible repeat (first | apply Kd.Q_alloc | apply Kd.Q_drewN | apply Kd.Q_drew)); exact Kd.Q_mono HO_69.out (fun _ hk => hk.2)⟩, ⟨by repeat (first | (with_reducible first | exact HB.out | apply below_alloc | apply pw_below_drewN | apply below_drew1) | exact HB.out)⟩⟩
                 ·rw [if_neg c58] at H
                  exact absurd H (by simp)
               ·rw [if_neg c55] at H
                exact absurd H (by simp)
              ·rw [if_neg c54] at H
               exact absurd H (by simp)
             ·rw [if_neg c53] at H
              have c53b0 : decide (x71_5 < (x10_49.length : Int)) = false := decide_eq_false c53
              clear c53
              by_cases c60 : (x8_5.length : Int) = 0
              ·rw [if_pos c60] at H
               have c60b0 : ((x8_5.length : Int) == 0) = true := beq_iff_eq.mpr c60
               have c60b1 : ((x8_5.length : Int) != 0) = false := bne_eq_false_iff_eq.mpr c60
               clear c60
               obtain ⟨y207, hy207⟩ : ∃ y_ : List ByteArray, y_ = (([(⟨#[120]⟩ : ByteArray)] : List ByteArray)) := ⟨_, rfl⟩
               replace H : ((topic_Join.f y207).bind fun t210 => (some (t210, true))) = some (r1, r2) := by first | (rw [hy207]; with_reducible exact H) | (have H2_ := (Option.bind_some _ _).symm.trans H; rw [hy207]; with_reducible exact H2_) | (have H2_ := (Option.bind_some _ _).symm.trans H; with_reducible exact H2_) | with_reducible exact H | (rw [hy207]; exact H) | exact H
               have Ny207 := Aside0.mk hy207
               clear hy207
               replace H := Option.bind_eq_some_iff.mp H
               obtain ⟨t210, A610, H⟩ := H
               replace H : (some (t210, true)) = some (r1, r2) := H
               have A61 := Aside0.mk A610
               clear A610
               simp only [Option.some.injEq, Prod.mk.injEq] at H
               obtain ⟨rfl, rfl⟩ := H
               obtain ⟨Ao62, co62, eo62⟩ := Kd.R_slice HO_8.out
               subst eo62
               go_wp2_with (first | ((with_reducible refine gate_dst (N := 86) rfl ?_); (try (refine gate_guard (by rfl) ?_; dsimp only)); refine Kd.R_lit Kd.string _ 9 ?hg (N := 86) ?hd (xs := ([(⟨#[120]⟩ : ByteArray)] : List ByteArray)) (inner := [.string (⟨#[120]⟩ : ByteArray)]) (ok := fun _ => True) (okp := fun _ => True) ?hr ?hp (fun _ hk => hk) trivial (Below.refl _ _) (Nat.le_refl _) (by simp) ?_; (case hd => rfl); (case hg => rfl); (case hr => first | (go_simp; done) | (go_simp; rfl)); (case hp => exact (Reps.one (show Kd.M Kd.string _ _ _ (⟨#[120]⟩ : ByteArray) [.string (⟨#[120]⟩ : ByteArray)] from rfl) (Reps.none _ _))); intro v208 w63 ho64 hb hg_ hnew_; clear hg_ hnew_; (first | rw [← Ny207.out] at ho64 | (simp only [Int.reduceToNat] at ho64; rw [← Ny207.out] at ho64)); have n0_ := Aside0.mk (Kd.R_elder' (by (with_reducible repeat (first | apply Kd.R_alloc | apply Kd.R_drewN | apply Kd.R_drew)); exact HO_8.out) (Kd.R_base ho64) hb); have n1_ := Aside0.mk (Kd.Q_elder' (by (with_reducible repeat (first | apply Kd.Q_alloc | apply Kd.Q_drewN | apply Kd.Q_drew)); exact HO_69.out) (Kd.R_base ho64) hb); have n2_ := Aside0.mk (Kd.R_lower (Kd.R_new' (Kd.R_new' ho64 (Kd.R_lt (by (with_reducible repeat (first | apply Kd.R_alloc | apply Kd.R_drewN | apply Kd.R_drew)); exact HO_8.out))) (Kd.Q_lt (by (with_reducible repeat (first | apply Kd.Q_alloc | apply Kd.Q_drewN | apply Kd.Q_drew)); exact HO_69.out))) (below_size (by repeat (first | (with_reducible first | exact HB.out | apply below_alloc | apply pw_below_drewN | apply below_drew1) | exact HB.out)))); have n3_ := Aside0.mk (below_step (by repeat (first | (with_reducible first | exact HB.out | apply below_alloc | apply pw_below_drewN | apply below_drew1) | exact HB.out)) hb); clear HO_8; clear HO_69; clear HB; have HO_8 := n0_; have HO_69 := n1_; have HO209 := n2_; have HB := n3_; clear n0_ n1_ n2_ n3_; clear hb ho64; obtain ⟨Ao65, co65, eo65⟩ := Kd.R_slice HO209.out; subst eo65) | (go_at_call 36; (with_reducible refine (topic_Join.calls _ _ y207 t210 _ ?side1 ?side2 A61.out).mono ?_); (case side1 => repeat (first | exact (Kd.R_reads' HO209.out).2.2 | (with_reducible refine Kd.C_alloc ?_ _) | (with_reducible refine Kd.C_drewN ?_ _) | (with_reducible refine Kd.C_drew ?_))); (case side2 => exact (Kd.R_reads' HO209.out).2.1); rintro e w66 ⟨rfl, hb⟩; have n0_ := Aside0.mk (Kd.R_below (by (with_reducible repeat (first | apply Kd.R_alloc | apply Kd.R_drewN | apply Kd.R_drew)); exact HO_8.out) hb); have n1_ := Aside0.mk (Kd.Q_below (by (with_reducible repeat (first | apply Kd.Q_alloc | apply Kd.Q_drewN | apply Kd.Q_drew)); exact HO_69.out) hb); have n2_ := Aside0.mk (Kd.R_below (by (with_reducible repeat (first | apply Kd.R_alloc | apply Kd.R_drewN | apply Kd.R_drew)); exact HO209.out) hb); have n3_ := Aside0.mk (below_step (by repeat (first | (with_reducible first | exact HB.out | apply below_alloc | apply pw_below_drewN | apply below_drew1) | exact HB.out)) hb); clear HO_8; clear HO_69; clear HO209; clear HB; have HO_8 := n0_; have HO_69 := n1_; have HO209 := n2_; have HB := n3_; clear n0_ n1_ n2_ n3_; (try clear hb); (try clear hb2); (try clear hk); (try clear hi)))
               repeat (go_quiet (first | ((with_reducible refine gate_dst (N := 86) rfl ?_); (try (refine gate_guard (by rfl) ?_; dsimp only)); refine Kd.R_lit Kd.string _ 9 ?hg (N := 86) ?hd (xs := ([(⟨#[120]⟩ : ByteArray)] : List ByteArray)) (inner := [.string (⟨#[120]⟩ : ByteArray)]) (ok := fun _ => True) (okp := fun _ => True) ?hr ?hp (fun _ hk => hk) trivial (Below.refl _ _) (Nat.le_refl _) (by simp) ?_; (case hd => rfl); (case hg => rfl); (case hr => first | (go_simp; done) | (go_simp; rfl)); (case hp => exact (Reps.one (show Kd.M Kd.string _ _ _ (⟨#[120]⟩ : ByteArray) [.string (⟨#[120]⟩ : ByteArray)] from rfl) (Reps.none _ _))); intro v208 w63 ho64 hb hg_ hnew_; clear hg_ hnew_; (first | rw [← Ny207.out] at ho64 | (simp only [Int.reduceToNat] at ho64; rw [← Ny207.out] at ho64)); have n0_ := Aside0.mk (Kd.R_elder' (by (with_reducible repeat (first | apply Kd.R_alloc | apply Kd.R_drewN | apply Kd.R_drew)); exact HO_8.out) (Kd.R_base ho64) hb); have n1_ := Aside0.mk (Kd.Q_elder' (by (with_reducible repeat (first | apply Kd.Q_alloc | apply Kd.Q_drewN | apply Kd.Q_drew)); exact HO_69.out) (Kd.R_base ho64) hb); have n2_ := Aside0.mk (Kd.R_lower (Kd.R_new' (Kd.R_new' ho64 (Kd.R_lt (by (with_reducible repeat (first | apply Kd.R_alloc | apply Kd.R_drewN | apply Kd.R_drew)); exact HO_8.out))) (Kd.Q_lt (by (with_reducible repeat (first | apply Kd.Q_alloc | apply Kd.Q_drewN | apply Kd.Q_drew)); exact HO_69.out))) (below_size (by repeat (first | (with_reducible first | exact HB.out | apply below_alloc | apply pw_below_drewN | apply below_drew1) | exact HB.out)))); have n3_ := Aside0.mk (below_step (by repeat (first | (with_reducible first | exact HB.out | apply below_alloc | apply pw_below_drewN | apply below_drew1) | exact HB.out)) hb); clear HO_8; clear HO_69; clear HB; have HO_8 := n0_; have HO_69 := n1_; have HO209 := n2_; have HB := n3_; clear n0_ n1_ n2_ n3_; clear hb ho64; obtain ⟨Ao65, co65, eo65⟩ := Kd.R_slice HO209.out; subst eo65) | (go_at_call 36; (with_reducible refine (topic_Join.calls _ _ y207 t210 _ ?side1 ?side2 A61.out).mono ?_); (case side1 => repeat (first | exact (Kd.R_reads' HO209.out).2.2 | (with_reducible refine Kd.C_alloc ?_ _) | (with_reducible refine Kd.C_drewN ?_ _) | (with_reducible refine Kd.C_drew ?_))); (case side2 => exact (Kd.R_reads' HO209.out).2.1); rintro e w66 ⟨rfl, hb⟩; have n0_ := Aside0.mk (Kd.R_below (by (with_reducible repeat (first | apply Kd.R_alloc | apply Kd.R_drewN | apply Kd.R_drew)); exact HO_8.out) hb); have n1_ := Aside0.mk (Kd.Q_below (by (with_reducible repeat (first | apply Kd.Q_alloc | apply Kd.Q_drewN | apply Kd.Q_drew)); exact HO_69.out) hb); have n2_ := Aside0.mk (Kd.R_below (by (with_reducible repeat (first | apply Kd.R_alloc | apply Kd.R_drewN | apply Kd.R_drew)); exact HO209.out) hb); have n3_ := Aside0.mk (below_step (by repeat (first | (with_reducible first | exact HB.out | apply below_alloc | apply pw_below_drewN | apply below_drew1) | exact HB.out)) hb); clear HO_8; clear HO_69; clear HO209; clear HB; have HO_8 := n0_; have HO_69 := n1_; have HO209 := n2_; have HB := n3_; clear n0_ n1_ n2_ n3_; (try clear hb); (try clear hb2); (try clear hk); (try clear hi))); try go_wp2_with (first | ((with_reducible refine gate_dst (N := 86) rfl ?_); (try (refine gate_guard (by rfl) ?_; dsimp only)); refine Kd.R_lit Kd.string _ 9 ?hg (N := 86) ?hd (xs := ([(⟨#[120]⟩ : ByteArray)] : List ByteArray)) (inner := [.string (⟨#[120]⟩ : ByteArray)]) (ok := fun _ => True) (okp := fun _ => True) ?hr ?hp (fun _ hk => hk) trivial (Below.refl _ _) (Nat.le_refl _) (by simp) ?_; (case hd => rfl); (case hg => rfl); (case hr => first | (go_simp; done) | (go_simp; rfl)); (case hp => exact (Reps.one (show Kd.M Kd.string _ _ _ (⟨#[120]⟩ : ByteArray) [.string (⟨#[120]⟩ : ByteArray)] from rfl) (Reps.none _ _))); intro v208 w63 ho64 hb hg_ hnew_; clear hg_ hnew_; (first | rw [← Ny207.out] at ho64 | (simp only [Int.reduceToNat] at ho64; rw [← Ny207.out] at ho64)); have n0_ := Aside0.mk (Kd.R_elder' (by (with_reducible repeat (first | apply Kd.R_alloc | apply Kd.R_drewN | apply Kd.R_drew)); exact HO_8.out) (Kd.R_base ho64) hb); have n1_ := Aside0.mk (Kd.Q_elder' (by (with_reducible repeat (first | apply Kd.Q_alloc | apply Kd.Q_drewN | apply Kd.Q_drew)); exact HO_69.out) (Kd.R_base ho64) hb); have n2_ := Aside0.mk (Kd.R_lower (Kd.R_new' (Kd.R_new' ho64 (Kd.R_lt (by (with_reducible repeat (first | apply Kd.R_alloc | apply Kd.R_drewN | apply Kd.R_drew)); exact HO_8.out))) (Kd.Q_lt (by (with_reducible repeat (first | apply Kd.Q_alloc | apply Kd.Q_drewN | apply Kd.Q_drew)); exact HO_69.out))) (below_size (by repeat (first | (with_reducible first | exact HB.out | apply below_alloc | apply pw_below_drewN | apply below_drew1) | exact HB.out)))); have n3_ := Aside0.mk (below_step (by repeat (first | (with_reducible first | exact HB.out | apply below_alloc | apply pw_below_drewN | apply below_drew1) | exact HB.out)) hb); clear HO_8; clear HO_69; clear HB; have HO_8 := n0_; have HO_69 := n1_; have HO209 := n2_; have HB := n3_; clear n0_ n1_ n2_ n3_; clear hb ho64; obtain ⟨Ao65, co65, eo65⟩ := Kd.R_slice HO209.out; subst eo65) | (go_at_call 36; (with_reducible refine (topic_Join.calls _ _ y207 t210 _ ?side1 ?side2 A61.out).mono ?_); (case side1 => repeat (first | exact (Kd.R_reads' HO209.out).2.2 | (with_reducible refine Kd.C_alloc ?_ _) | (with_reducible refine Kd.C_drewN ?_ _) | (with_reducible refine Kd.C_drew ?_))); (case side2 => exact (Kd.R_reads' HO209.out).2.1); rintro e w66 ⟨rfl, hb⟩; have n0_ := Aside0.mk (Kd.R_below (by (with_reducible repeat (first | apply Kd.R_alloc | apply Kd.R_drewN | apply Kd.R_drew)); exact HO_8.out) hb); have n1_ := Aside0.mk (Kd.Q_below (by (with_reducible repeat (first | apply Kd.Q_alloc | apply Kd.Q_drewN | apply Kd.Q_drew)); exact HO_69.out) hb); have n2_ := Aside0.mk (Kd.R_below (by (with_reducible repeat (first | apply Kd.R_alloc | apply Kd.R_drewN | apply Kd.R_drew)); exact HO209.out) hb); have n3_ := Aside0.mk (below_step (by repeat (first | (with_reducible first | exact HB.out | apply below_alloc | apply pw_below_drewN | apply below_drew1) | exact HB.out)) hb); clear HO_8; clear HO_69; clear HO209; clear HB; have HO_8 := n0_; have HO_69 := n1_; have HO209 := n2_; have HB := n3_; clear n0_ n1_ n2_ n3_; (try clear hb); (try clear hb2); (try clear hk); (try clear hi))))
               go_ret2
               exact ⟨by first | rfl | (simp [errW_none, errW_some] <;> rfl) | (simp [*, errW_none, errW_some] <;> rfl), by repeat (first | (with_reducible first | exact HB.out | apply below_alloc | apply pw_below_drewN | apply below_drew1) | exact HB.out)⟩
              ·rw [if_neg c60] at H
               have c60b0 : ((x8_5.length : Int) == 0) = false := beq_eq_false_iff_ne.mpr c60
               have c60b1 : ((x8_5.length : Int) != 0) = true := bne_iff_ne.mpr c60
               have c60b2 : ¬ (x8_5 = []) := fun h_ => c60 (by rw [h_]; rfl)
               replace H := Option.bind_eq_some_iff.mp H
               obtain ⟨t211, A670, H⟩ := H
               replace H : (some (t211, true)) = some (r1, r2) := H
               have A67 := Aside0.mk A670
               clear A670
               simp only [Option.some.injEq, Prod.mk.injEq] at H
               obtain ⟨rfl, rfl⟩ := H
               obtain ⟨Ao68, co68, eo68⟩ := Kd.R_slice HO_8.out
               subst eo68
               go_wp2_with (first | (go_at_call 36; (with_reducible refine (topic_Join.calls _ _ x8_5 t211 _ ?side1 ?side2 A67.out).mono ?_); (case side1 => repeat (first | exact (Kd.R_reads' HO_8.out).2.2 | (with_reducible refine Kd.C_alloc ?_ _) | (with_reducible refine Kd.C_drewN ?_ _) | (with_reducible refine Kd.C_drew ?_))); (case side2 => exact (Kd.R_reads' HO_8.out).2.1); rintro e w69 ⟨rfl, hb⟩; have n0_ := Aside0.mk (Kd.R_below (by (with_reducible repeat (first | apply Kd.R_alloc | apply Kd.R_drewN | apply Kd.R_drew)); exact HO_8.out) hb); have n1_ := Aside0.mk (Kd.Q_below (by (with_reducible repeat (first | apply Kd.Q_alloc | apply Kd.Q_drewN | apply Kd.Q_drew)); exact HO_69.out) hb); have n2_ := Aside0.mk (below_step (by repeat (first | (with_reducible first | exact HB.out | apply below_alloc | apply pw_below_drewN | apply below_drew1) | exact HB.out)) hb); clear HO_8; clear HO_69; clear HB; have HO_8 := n0_; have HO_69 := n1_; have HB := n2_; clear n0_ n1_ n2_; (try clear hb); (try clear hb2); (try clear hk); (try clear hi)))
               repeat (go_quiet (first | (go_at_call 36; (with_reducible refine (topic_Join.calls _ _ x8_5 t211 _ ?side1 ?side2 A67.out).mono ?_); (case side1 => repeat (first | exact (Kd.R_reads' HO_8.out).2.2 | (with_reducible refine Kd.C_alloc ?_ _) | (with_reducible refine Kd.C_drewN ?_ _) | (with_reducible refine Kd.C_drew ?_))); (case side2 => exact (Kd.R_reads' HO_8.out).2.1); rintro e w69 ⟨rfl, hb⟩; have n0_ := Aside0.mk (Kd.R_below (by (with_reducible repeat (first | apply Kd.R_alloc | apply Kd.R_drewN | apply Kd.R_drew)); exact HO_8.out) hb); have n1_ := Aside0.mk (Kd.Q_below (by (with_reducible repeat (first | apply Kd.Q_alloc | apply Kd.Q_drewN | apply Kd.Q_drew)); exact HO_69.out) hb); have n2_ := Aside0.mk (below_step (by repeat (first | (with_reducible first | exact HB.out | apply below_alloc | apply pw_below_drewN | apply below_drew1) | exact HB.out)) hb); clear HO_8; clear HO_69; clear HB; have HO_8 := n0_; have HO_69 := n1_; have HB := n2_; clear n0_ n1_ n2_; (try clear hb); (try clear hb2); (try clear hk); (try clear hi))); try go_wp2_with (first | (go_at_call 36; (with_reducible refine (topic_Join.calls _ _ x8_5 t211 _ ?side1 ?side2 A67.out).mono ?_); (case side1 => repeat (first | exact (Kd.R_reads' HO_8.out).2.2 | (with_reducible refine Kd.C_alloc ?_ _) | (with_reducible refine Kd.C_drewN ?_ _) | (with_reducible refine Kd.C_drew ?_))); (case side2 => exact (Kd.R_reads' HO_8.out).2.1); rintro e w69 ⟨rfl, hb⟩; have n0_ := Aside0.mk (Kd.R_below (by (with_reducible repeat (first | apply Kd.R_alloc | apply Kd.R_drewN | apply Kd.R_drew)); exact HO_8.out) hb); have n1_ := Aside0.mk (Kd.Q_below (by (with_reducible repeat (first | apply Kd.Q_alloc | apply Kd.Q_drewN | apply Kd.Q_drew)); exact HO_69.out) hb); have n2_ := Aside0.mk (below_step (by repeat (first | (with_reducible first | exact HB.out | apply below_alloc | apply pw_below_drewN | apply below_drew1) | exact HB.out)) hb); clear HO_8; clear HO_69; clear HB; have HO_8 := n0_; have HO_69 := n1_; have HB := n2_; clear n0_ n1_ n2_; (try clear hb); (try clear hb2); (try clear hk); (try clear hi))))
               go_ret2
               exact ⟨by first | rfl | (simp [errW_none, errW_some] <;> rfl) | (simp [*, errW_none, errW_some] <;> rfl), by repeat (first | (with_reducible first | exact HB.out | apply below_alloc | apply pw_below_drewN | apply below_drew1) | exact HB.out)⟩
 ·replace c4 := Bool.eq_false_iff.mpr c4
  subst c4
  have H1 : (some ((⟨#[]⟩ : ByteArray), false)) = some (r1, r2) := by rw [if_neg (show ¬ (false = true) by decide)] at H; exact H
  clear H
  have H := H1
  clear H1
  simp only [Option.some.injEq, Prod.mk.injEq] at H
  obtain ⟨rfl, rfl⟩ := H
  go_enter Tryd.func13, Tryd.ntmps13
  go_wp2_with (first | (go_at_call 17; (with_reducible refine (match_Meets.calls k a0 a1 false _ A3.out).mono ?_); rintro e w70 ⟨rfl, hb⟩; have n0_ := Aside0.mk (below_step (by repeat (first | (with_reducible first | exact HB.out | apply below_alloc | apply pw_below_drewN | apply below_drew1) | exact HB.out)) hb); clear HB; have HB := n0_; clear n0_; (try clear hb); (try clear hb2); (try clear hk); (try clear hi)))
  repeat (go_quiet (first | (go_at_call 17; (with_reducible refine (match_Meets.calls k a0 a1 false _ A3.out).mono ?_); rintro e w70 ⟨rfl, hb⟩; have n0_ := Aside0.mk (below_step (by repeat (first | (with_reducible first | exact HB.out | apply below_alloc | apply pw_below_drewN | apply below_drew1) | exact HB.out)) hb); clear HB; have HB := n0_; clear n0_; (try clear hb); (try clear hb2); (try clear hk); (try clear hi))); try go_wp2_with (first | (go_at_call 17; (with_reducible refine (match_Meets.calls k a0 a1 false _ A3.out).mono ?_); rintro e w70 ⟨rfl, hb⟩; have n0_ := Aside0.mk (below_step (by repeat (first | (with_reducible first | exact HB.out | apply below_alloc | apply pw_below_drewN | apply below_drew1) | exact HB.out)) hb); clear HB; have HB := n0_; clear n0_; (try clear hb); (try clear hb2); (try clear hk); (try clear hi))))
  go_ret2
  exact ⟨by first | rfl | (simp [errW_none, errW_some] <;> rfl) | (simp [*, errW_none, errW_some] <;> rfl), by repeat (first | (with_reducible first | exact HB.out | apply below_alloc | apply pw_below_drewN | apply below_drew1) | exact HB.out)⟩

end Go.Proofs.YtmgmkgnenopelaaDoor.P
