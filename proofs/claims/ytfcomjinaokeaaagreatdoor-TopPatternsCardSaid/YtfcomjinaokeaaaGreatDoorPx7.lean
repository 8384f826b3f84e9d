/- Printed by a program of this session (wip/tools) over the translation: Go functions as plain Lean functions, and their contracts. -/
import Derived.WalkMore
import Derived.Test.YtfcomjinaokeaaaGreatDoorPx0
import Derived.Test.YtfcomjinaokeaaaGreatDoorPx1
import Derived.Test.YtfcomjinaokeaaaGreatDoorPx3
namespace Go.Proofs.YtfcomjinaokeaaaGreatDoor.P
open Go.RowKit Go.Proofs.YtfcomjinaokeaaaGreatDoorW.PrintWords Go.Proofs.YtfcomjinaokeaaaGreatDoorW.PrintLast Go.Proofs.YtfcomjinaokeaaaGreatDoorW.PrintMore
attribute [local go_sem] max2_int min2_int max_two min_two max_three min_three max_four min_four   -- for this text's walks alone
set_option linter.unusedVariables false
set_option linter.unusedSimpArgs false

/-! ### topic_System: function 12 -/
def topic_System.f (a0 : ByteArray) : Option (Bool) := if (a0.size : Int) > 0 then (if 0 < (a0.size : Int) then (some ((bt a0 0) == 36)) else (none)) else (some false)
set_option maxHeartbeats 8000000 in
set_option maxRecDepth 100000 in
theorem topic_System.calls (a0 : ByteArray) (r : Bool) (w : World) (h : topic_System.f a0 = some r) :
  Calls Tryz.prog 12 #[.string a0] w fun e w' => e = .returned (.bool r) ∧ Drawn0 w w' := by
 have H : (if (a0.size : Int) > 0 then (if 0 < (a0.size : Int) then (some ((bt a0 0) == 36)) else (none)) else (some false)) = some r := h
 clear h
 by_cases c2 : (a0.size : Int) > 0
 ·rw [if_pos c2] at H
  have c2b0 : decide (0 < (a0.size : Int)) = true := decide_eq_true c2
  have c2b1 : decide (0 < a0.size) = true := decide_eq_true (by omega)
  clear c2
  by_cases c3 : 0 < (a0.size : Int)
  ·rw [if_pos c3] at H
   have c3b0 : decide (0 < (a0.size : Int)) = true := decide_eq_true c3
   have c3b1 : decide (0 < a0.size) = true := decide_eq_true (by omega)
   clear c3
   obtain rfl := Option.some.inj H
   have p4 : 0 ≤ (0 : Int) := (by omega)
   have q4 : 0 < a0.size := (by have : (0 : Int) < (a0.size : Int) := of_decide_eq_true (by first | (with_reducible assumption) | assumption); omega)
   have hx4 : ∀ h : 0 < a0.size, ((a0[0]'h).toNat : Int) = bt a0 0 := bt_at a0 0
   clear p4
   have qi4 : (0 < (a0.size : Int)) = True := eq_true (of_decide_eq_true (by first | (with_reducible assumption) | assumption))
   replace q4 := eq_true q4
   go_enter Tryz.func12, Tryz.ntmps12
   go_wp2
   go_ret
   exact ⟨by first | rfl | (simp; done) | (simp [*]; done), by repeat (first | exact Drawn0.refl _ | apply Drawn0.step)⟩
  ·rw [if_neg c3] at H
   exact absurd H (by simp)
 ·rw [if_neg c2] at H
  have c2b0 : decide (0 < (a0.size : Int)) = false := decide_eq_false c2
  have c2b1 : decide (0 < a0.size) = false := decide_eq_false (by omega)
  clear c2
  obtain rfl := Option.some.inj H
  go_enter Tryz.func12, Tryz.ntmps12
  go_wp2
  go_ret
  exact ⟨by first | rfl | (simp; done) | (simp [*]; done), by repeat (first | exact Drawn0.refl _ | apply Drawn0.step)⟩

/-- THE ONE PURE STATEMENT of topic_System: yours. -/
def topic_System.Pure : Prop := ∀ (a0 : ByteArray), a0.size ≤ 140737488351232 → topic_System.f a0 = some true
theorem topic_System.walk (P : topic_System.Pure) (a0 : ByteArray) (w : World) (w0 : a0.size ≤ 140737488351232) :
  Calls Tryz.prog 12 #[.string a0] w fun e w' => e = .returned (.bool true) ∧ Below w.heap.size w w' := by
 have h := P a0 w0
 refine (topic_System.calls a0 true w h).mono ?_
 rintro e w' ⟨rfl, hd⟩
 exact ⟨rfl, hd.below⟩

/-! ### topic_Name: function 31, by hand -/
def topic_Name.f (a0 : ByteArray) : Option (Bool) := if a0.size ≤ 9223372036854775807 then some (Ext.nameB a0) else none
theorem topic_Name.calls (a0 : ByteArray) (r : Bool) (w : World) (h : topic_Name.f a0 = some r) :
  Calls Tryz.prog 31 #[.string a0] w fun e w' => e = .returned (.bool r) ∧ Below w.heap.size w w' := by
 unfold topic_Name.f at h
 split at h
 ·rename_i hs
  injection h with h
  exact Ext.name_calls a0 r w h hs
 ·cases h


/-! ### match_wild: function 52 -/
def match_wild.f (a0 : ByteArray) : Option (Bool) := if a0.toList = ([43] : List UInt8) then (some true) else (some (a0.toList == ([35] : List UInt8)))
set_option maxHeartbeats 8000000 in
set_option maxRecDepth 100000 in
theorem match_wild.calls (a0 : ByteArray) (r : Bool) (w : World) (h : match_wild.f a0 = some r) :
  Calls Tryz.prog 52 #[.string a0] w fun e w' => e = .returned (.bool r) ∧ Drawn0 w w' := by
 have H : (if a0.toList = ([43] : List UInt8) then (some true) else (some (a0.toList == ([35] : List UInt8)))) = some r := h
 clear h
 by_cases c2 : a0.toList = ([43] : List UInt8)
 ·rw [if_pos c2] at H
  have c2b0 : (a0.toList == ([43] : List UInt8)) = true := beq_iff_eq.mpr c2
  have c2b1 : (a0.toList != ([43] : List UInt8)) = false := bne_eq_false_iff_eq.mpr c2
  clear c2
  obtain rfl := Option.some.inj H
  go_enter Tryz.func52, Tryz.ntmps52
  go_wp2
  go_ret
  exact ⟨by first | rfl | (simp; done) | (simp [*]; done), by repeat (first | exact Drawn0.refl _ | apply Drawn0.step)⟩
 ·rw [if_neg c2] at H
  have c2b0 : (a0.toList == ([43] : List UInt8)) = false := beq_eq_false_iff_ne.mpr c2
  have c2b1 : (a0.toList != ([43] : List UInt8)) = true := bne_iff_ne.mpr c2
  obtain rfl := Option.some.inj H
  go_enter Tryz.func52, Tryz.ntmps52
  go_wp2
  go_ret
  exact ⟨by first | rfl | (simp; done) | (simp [*]; done), by repeat (first | exact Drawn0.refl _ | apply Drawn0.step)⟩

/-! ### match_barred: function 33 -/
def match_barred.f (a0 : ByteArray) (a1 : ByteArray) : Option (Bool) := (topic_Levels.f a0).bind fun t151 => (if 0 < (t151.length : Int) then ((match_wild.f (rdOf ByteArray.empty t151 0)).bind fun t155 => (if t155 = true then ((topic_System.f a1).bind fun t156 => (some t156)) else (some false))) else (none))
set_option maxHeartbeats 8000000 in
set_option maxRecDepth 100000 in
theorem match_barred.calls (a0 : ByteArray) (a1 : ByteArray) (r : Bool) (w : World) (h : match_barred.f a0 a1 = some r) :
  Calls Tryz.prog 33 #[.string a0, .string a1] w fun e w' => e = .returned (.bool r) ∧ Below w.heap.size w w' := by
 have HB := Aside0.mk (Below.refl w.heap.size w)
 have H : ((topic_Levels.f a0).bind fun t151 => (if 0 < (t151.length : Int) then ((match_wild.f (rdOf ByteArray.empty t151 0)).bind fun t155 => (if t155 = true then ((topic_System.f a1).bind fun t156 => (some t156)) else (some false))) else (none))) = some r := h
 clear h
 replace H := Option.bind_eq_some_iff.mp H
 obtain ⟨t151, A30, H⟩ := H
 replace H : (if 0 < (t151.length : Int) then ((match_wild.f (rdOf ByteArray.empty t151 0)).bind fun t155 => (if t155 = true then ((topic_System.f a1).bind fun t156 => (some t156)) else (some false))) else (none)) = some r := H
 have A3 := Aside0.mk A30
 clear A30
 by_cases c4 : 0 < (t151.length : Int)
 ·rw [if_pos c4] at H
  have c4b0 : decide (0 < (t151.length : Int)) = true := decide_eq_true c4
  have c4b1 : decide (0 < t151.length) = true := decide_eq_true (by omega)
  clear c4
  replace H := Option.bind_eq_some_iff.mp H
  obtain ⟨t155, A50, H⟩ := H
  replace H : (if t155 = true then ((topic_System.f a1).bind fun t156 => (some t156)) else (some false)) = some r := H
  have A5 := Aside0.mk A50
  clear A50
  by_cases c6 : t155 = true
  ·subst c6
   have H1 : ((topic_System.f a1).bind fun t156 => (some t156)) = some r := by rw [if_pos rfl] at H; exact H
   clear H
   have H := H1
   clear H1
   replace H := Option.bind_eq_some_iff.mp H
   obtain ⟨t156, A70, H⟩ := H
   replace H : (some t156) = some r := H
   have A7 := Aside0.mk A70
   clear A70
   obtain rfl := Option.some.inj H
   go_enter Tryz.func33, Tryz.ntmps33
   go_wp2_with (first | ((with_reducible refine gate_callee (f := 15) rfl ?_); refine goesL_ (some 6) rfl rfl Tryz.func15 (by kernel_rfl) rfl #[.string a0] rfl (by (try simp only [List.map_toArray, List.map_cons, List.map_nil]); first | done | rfl | (simp only [List.length_drop, List.length_take]; rfl)) ?_; (with_reducible refine (topic_Levels.calls a0 t151 _ A3.out).mono ?_); rintro e w8 ⟨v152, rfl, ho0, hb⟩; refine ⟨_, rfl, ?_⟩; have n0_ := Aside0.mk (Kd.R_lower ho0 (below_size (by repeat (first | (with_reducible first | exact HB.out | apply below_alloc | apply pw_below_drewN | apply below_drew1) | exact HB.out)))); have n1_ := Aside0.mk (below_step (by repeat (first | (with_reducible first | exact HB.out | apply below_alloc | apply pw_below_drewN | apply below_drew1) | exact HB.out)) hb); clear HB; have HO153 := n0_; have HB := n1_; clear n0_ n1_; (try clear hb); (try clear hb2); (try clear hk); (try clear hi); (try clear ho0); obtain ⟨Ao9, co9, eo9⟩ := Kd.R_slice HO153.out; subst eo9; have p154 : 0 ≤ (0 : Int) := (by omega); have q154 : 0 < (t151.length : Int) := of_decide_eq_true (by first | (with_reducible assumption) | assumption); obtain ⟨ad154, e154, hx154_0⟩ := Kd.at_string (Kd.R_reads' HO153.out).2.2 0 p154 q154; cases e154; have qi154 : (0 < t151.length) = True := eq_true (by omega); (try rw [show ((0 : Int)).toNat = 0 from rfl] at hx154_0); (try rw [Addr.add_zero'] at hx154_0); replace p154 := eq_true p154; replace q154 := eq_true q154) | ((with_reducible refine gate_callee (f := 52) rfl ?_); refine goesL_ (some 9) rfl rfl Tryz.func52 (by kernel_rfl) rfl #[.string (rdOf ByteArray.empty t151 0)] rfl (by (try simp only [List.map_toArray, List.map_cons, List.map_nil]); first | done | rfl | (simp only [List.length_drop, List.length_take]; rfl)) ?_; (with_reducible refine (match_wild.calls (rdOf ByteArray.empty t151 0) true _ A5.out).mono ?_); rintro e w' ⟨rfl, ⟨nd, rfl⟩⟩; refine ⟨_, rfl, ?_⟩) | (go_at_call 12; (with_reducible refine (topic_System.calls a1 t156 _ A7.out).mono ?_); rintro e w' ⟨rfl, ⟨nd, rfl⟩⟩))
   go_ret
   exact ⟨by first | rfl | (simp [errW_none, errW_some] <;> rfl) | (simp [*, errW_none, errW_some] <;> rfl), by repeat (first | (with_reducible first | exact HB.out | apply below_alloc | apply pw_below_drewN | apply below_drew1) | exact HB.out)⟩
  ·replace c6 := Bool.eq_false_iff.mpr c6
   subst c6
   have H1 : (some false) = some r := by rw [if_neg (show ¬ (false = true) by decide)] at H; exact H
   clear H
   have H := H1
   clear H1
   obtain rfl := Option.some.inj H
   go_enter Tryz.func33, Tryz.ntmps33
   go_wp2_with (first | ((with_reducible refine gate_callee (f := 15) rfl ?_); refine goesL_ (some 6) rfl rfl Tryz.func15 (by kernel_rfl) rfl #[.string a0] rfl (by (try simp only [List.map_toArray, List.map_cons, List.map_nil]); first | done | rfl | (simp only [List.length_drop, List.length_take]; rfl)) ?_; (with_reducible refine (topic_Levels.calls a0 t151 _ A3.out).mono ?_); rintro e w10 ⟨v152, rfl, ho0, hb⟩; refine ⟨_, rfl, ?_⟩; have n0_ := Aside0.mk (Kd.R_lower ho0 (below_size (by repeat (first | (with_reducible first | exact HB.out | apply below_alloc | apply pw_below_drewN | apply below_drew1) | exact HB.out)))); have n1_ := Aside0.mk (below_step (by repeat (first | (with_reducible first | exact HB.out | apply below_alloc | apply pw_below_drewN | apply below_drew1) | exact HB.out)) hb); clear HB; have HO153 := n0_; have HB := n1_; clear n0_ n1_; (try clear hb); (try clear hb2); (try clear hk); (try clear hi); (try clear ho0); obtain ⟨Ao11, co11, eo11⟩ := Kd.R_slice HO153.out; subst eo11; have p154 : 0 ≤ (0 : Int) := (by omega); have q154 : 0 < (t151.length : Int) := of_decide_eq_true (by first | (with_reducible assumption) | assumption); obtain ⟨ad154, e154, hx154_0⟩ := Kd.at_string (Kd.R_reads' HO153.out).2.2 0 p154 q154; cases e154; have qi154 : (0 < t151.length) = True := eq_true (by omega); (try rw [show ((0 : Int)).toNat = 0 from rfl] at hx154_0); (try rw [Addr.add_zero'] at hx154_0); replace p154 := eq_true p154; replace q154 := eq_true q154) | ((with_reducible refine gate_callee (f := 52) rfl ?_); refine goesL_ (some 9) rfl rfl Tryz.func52 (by kernel_rfl) rfl #[.string (rdOf ByteArray.empty t151 0)] rfl (by (try simp only [List.map_toArray, List.map_cons, List.map_nil]); first | done | rfl | (simp only [List.length_drop, List.length_take]; rfl)) ?_; (with_reducible refine (match_wild.calls (rdOf ByteArray.empty t151 0) false _ A5.out).mono ?_); rintro e w' ⟨rfl, ⟨nd, rfl⟩⟩; refine ⟨_, rfl, ?_⟩))
   go_ret
   exact ⟨by first | rfl | (simp [errW_none, errW_some] <;> rfl) | (simp [*, errW_none, errW_some] <;> rfl), by repeat (first | (with_reducible first | exact HB.out | apply below_alloc | apply pw_below_drewN | apply below_drew1) | exact HB.out)⟩
 ·rw [if_neg c4] at H
  exact absurd H (by simp)

/-! ### match_Matches: function 13 -/
mutual
def match_Matches.j0 : Nat → ByteArray → ByteArray → Bool → Option (Bool)
 | 0, _, _, _ => none
 | k + 1, x0, x1, x21 => if x21 = true then (some false) else ((topic_Levels.f x0).bind fun t160 => ((topic_Levels.f x1).bind fun t163 => (match_Matches.l0 k t160 t163 t160 (t160.length : Int) 0)))
def match_Matches.l0 : Nat → List ByteArray → List ByteArray → List ByteArray → Int → Int → Option (Bool)
 | 0, _, _, _, _, _ => none
 | k + 1, x5, x6, x26, x27, x28 => if x28 < x27 then (if 0 ≤ x28 then (if x28 < (x26.length : Int) then (if (rdOf ByteArray.empty x26 x28).toList = ([35] : List UInt8) then (some true) else (if x28 = (x6.length : Int) then (some false) else (if (rdOf ByteArray.empty x26 x28).toList = ([43] : List UInt8) then (match_Matches.l0 k x5 x6 x26 x27 (wrap64 (x28 + 1))) else (if x28 < (x6.length : Int) then (if (rdOf ByteArray.empty x26 x28).toList = (rdOf ByteArray.empty x6 x28).toList then (match_Matches.l0 k x5 x6 x26 x27 (wrap64 (x28 + 1))) else (some false)) else (none))))) else (none)) else (none)) else (some ((x5.length : Int) == (x6.length : Int)))
end
def match_Matches.f (k : Nat) (a0 : ByteArray) (a1 : ByteArray) : Option (Bool) := (topic_Filter.f a0).bind fun t157 => (if t157 = true then ((topic_Valid.f a1).bind fun t158 => (if t158 = true then ((match_barred.f a0 a1).bind fun t159 => (match_Matches.j0 k a0 a1 t159)) else (match_Matches.j0 k a0 a1 true))) else (match_Matches.j0 k a0 a1 true))
theorem match_Matches.mono_l : ∀ k, (∀ y0 y1 y2, LeO (match_Matches.j0 k y0 y1 y2) (match_Matches.j0 (k + 1) y0 y1 y2)) ∧ (∀ y0 y1 y2 y3 y4, LeO (match_Matches.l0 k y0 y1 y2 y3 y4) (match_Matches.l0 (k + 1) y0 y1 y2 y3 y4))
 | 0 => ⟨fun _ _ _ r h => by simp [match_Matches.j0] at h, fun _ _ _ _ _ r h => by simp [match_Matches.l0] at h⟩
 | k + 1 => by
  obtain ⟨ih0, ih1⟩ := match_Matches.mono_l k
  refine ⟨?_, ?_⟩
  ·intro y0 y1 y2
   unfold match_Matches.j0
   repeat' first
   | (with_reducible exact ih0 _ _ _)
   | (with_reducible exact ih1 _ _ _ _ _)
   | (with_reducible exact LeO.refl _)
   | (with_reducible exact LeO.none _)
   | (with_reducible refine LeO.ite ?_ ?_)
   | (with_reducible refine LeO.bind ?_ (fun _ => ?_))
   | exact ih0 _ _ _
   | exact ih1 _ _ _ _ _
   | exact LeO.none _
   | refine LeO.ite ?_ ?_
   | refine LeO.bind ?_ (fun _ => ?_)
  ·intro y0 y1 y2 y3 y4
   unfold match_Matches.l0
   repeat' first
   | (with_reducible exact ih0 _ _ _)
   | (with_reducible exact ih1 _ _ _ _ _)
   | (with_reducible exact LeO.refl _)
   | (with_reducible exact LeO.none _)
   | (with_reducible refine LeO.ite ?_ ?_)
   | (with_reducible refine LeO.bind ?_ (fun _ => ?_))
   | exact ih0 _ _ _
   | exact ih1 _ _ _ _ _
   | exact LeO.none _
   | refine LeO.ite ?_ ?_
   | refine LeO.bind ?_ (fun _ => ?_)
theorem match_Matches.mono : ∀ a0 a1 k, LeO (match_Matches.f k a0 a1) (match_Matches.f (k + 1) a0 a1) := by
 intro a0 a1 k
 obtain ⟨ih0, ih1⟩ := match_Matches.mono_l k
 unfold match_Matches.f
 repeat' first
   | (with_reducible exact ih0 _ _ _)
   | (with_reducible exact ih1 _ _ _ _ _)
   | (with_reducible exact LeO.refl _)
   | (with_reducible exact LeO.none _)
   | (with_reducible refine LeO.ite ?_ ?_)
   | (with_reducible refine LeO.bind ?_ (fun _ => ?_))
   | exact ih0 _ _ _
   | exact ih1 _ _ _ _ _
   | exact LeO.none _
   | refine LeO.ite ?_ ?_
   | refine LeO.bind ?_ (fun _ => ?_)
set_option maxHeartbeats 8000000 in
set_option maxRecDepth 100000 in
theorem match_Matches.calls (k : Nat) (a0 : ByteArray) (a1 : ByteArray) (r : Bool) (w : World) (h : match_Matches.f k a0 a1 = some r) :
  Calls Tryz.prog 13 #[.string a0, .string a1] w fun e w' => e = .returned (.bool r) ∧ Below w.heap.size w w' := by
 have HB := Aside0.mk (Below.refl w.heap.size w)
 have H : ((topic_Filter.f a0).bind fun t157 => (if t157 = true then ((topic_Valid.f a1).bind fun t158 => (if t158 = true then ((match_barred.f a0 a1).bind fun t159 => (match_Matches.j0 k a0 a1 t159)) else (match_Matches.j0 k a0 a1 true))) else (match_Matches.j0 k a0 a1 true))) = some r := h
 clear h
 have HC3 := Aside0.mk H
 clear H
 go_enter Tryz.func13, Tryz.ntmps13
 go_upto_region 1 with (first | (refine wp_scope_straight ?_) | (refine wp_label ?_))
 go_cut [21] (fun v21 wc => ∃ (kq : Nat) (x21_2 : Bool), v21 = .bool x21_2 ∧ Aside0 (match_Matches.j0 kq a0 a1 x21_2 = some r) ∧ Aside0 (kq ≤ k) ∧ Aside0 (Below w.heap.size w wc))
 case first =>
  have H := HC3.out
  clear HC3
  replace H := Option.bind_eq_some_iff.mp H
  obtain ⟨t157, A40, H⟩ := H
  replace H : (if t157 = true then ((topic_Valid.f a1).bind fun t158 => (if t158 = true then ((match_barred.f a0 a1).bind fun t159 => (match_Matches.j0 k a0 a1 t159)) else (match_Matches.j0 k a0 a1 true))) else (match_Matches.j0 k a0 a1 true)) = some r := H
  have A4 := Aside0.mk A40
  clear A40
  by_cases c5 : t157 = true
  ·subst c5
   have H1 : ((topic_Valid.f a1).bind fun t158 => (if t158 = true then ((match_barred.f a0 a1).bind fun t159 => (match_Matches.j0 k a0 a1 t159)) else (match_Matches.j0 k a0 a1 true))) = some r := by rw [if_pos rfl] at H; exact H
   clear H
   have H := H1
   clear H1
   replace H := Option.bind_eq_some_iff.mp H
   obtain ⟨t158, A60, H⟩ := H
   replace H : (if t158 = true then ((match_barred.f a0 a1).bind fun t159 => (match_Matches.j0 k a0 a1 t159)) else (match_Matches.j0 k a0 a1 true)) = some r := H
   have A6 := Aside0.mk A60
   clear A60
   by_cases c7 : t158 = true
   ·subst c7
    have H1 : ((match_barred.f a0 a1).bind fun t159 => (match_Matches.j0 k a0 a1 t159)) = some r := by rw [if_pos rfl] at H; exact H
    clear H
    have H := H1
    clear H1
    replace H := Option.bind_eq_some_iff.mp H
    obtain ⟨t159, A80, H⟩ := H
    replace H : (match_Matches.j0 k a0 a1 t159) = some r := H
    have A8 := Aside0.mk A80
    clear A80
    have H' := Aside0.mk H
    clear H
    go_wp2_with (first | (refine wp_scope_straight ?_) | (refine wp_label ?_) | ((with_reducible refine gate_callee (f := 5) rfl ?_); refine goesL_ (some 10) rfl rfl Tryz.func5 (by kernel_rfl) rfl #[.string a0] rfl (by (try simp only [List.map_toArray, List.map_cons, List.map_nil]); first | done | rfl | (simp only [List.length_drop, List.length_take]; rfl)) ?_; (with_reducible refine (topic_Filter.calls a0 true _ A4.out).mono ?_); rintro e w9 ⟨rfl, hb⟩; refine ⟨_, rfl, ?_⟩; have n0_ := Aside0.mk (below_step (by repeat (first | (with_reducible first | exact HB.out | apply below_alloc | apply pw_below_drewN | apply below_drew1) | exact HB.out)) hb); clear HB; have HB := n0_; clear n0_; (try clear hb); (try clear hb2); (try clear hk); (try clear hi)) | (go_at_call 6; (with_reducible refine (topic_Valid.calls a1 true _ A6.out).mono ?_); rintro e w10 ⟨rfl, hb⟩; have n0_ := Aside0.mk (below_step (by repeat (first | (with_reducible first | exact HB.out | apply below_alloc | apply pw_below_drewN | apply below_drew1) | exact HB.out)) hb); clear HB; have HB := n0_; clear n0_; (try clear hb); (try clear hb2); (try clear hk); (try clear hi)) | (go_at_call 33; (with_reducible refine (match_barred.calls a0 a1 t159 _ A8.out).mono ?_); rintro e w11 ⟨rfl, hb⟩; have n0_ := Aside0.mk (below_step (by repeat (first | (with_reducible first | exact HB.out | apply below_alloc | apply pw_below_drewN | apply below_drew1) | exact HB.out)) hb); clear HB; have HB := n0_; clear n0_; (try clear hb); (try clear hb2); (try clear hk); (try clear hi)))
    go_meet
    case rel => exact ⟨_, (t159), (by first | rfl | (simp; done) | (simp [*]; done)), H', ⟨by first | omega | exact Nat.le_refl _⟩, ⟨by repeat (first | (with_reducible first | exact HB.out | apply below_alloc | apply pw_below_drewN | apply below_drew1) | exact HB.out)⟩⟩
   ·replace c7 := Bool.eq_false_iff.mpr c7
    subst c7
    have H1 : (match_Matches.j0 k a0 a1 true) = some r := by rw [if_neg (show ¬ (false = true) by decide)] at H; exact H
    clear H
    have H := H1
    clear H1
    have H' := Aside0.mk H
    clear H
    go_wp2_with (first | (refine wp_scope_straight ?_) | (refine wp_label ?_) | ((with_reducible refine gate_callee (f := 5) rfl ?_); refine goesL_ (some 10) rfl rfl Tryz.func5 (by kernel_rfl) rfl #[.string a0] rfl (by (try simp only [List.map_toArray, List.map_cons, List.map_nil]); first | done | rfl | (simp only [List.length_drop, List.length_take]; rfl)) ?_; (with_reducible refine (topic_Filter.calls a0 true _ A4.out).mono ?_); rintro e w12 ⟨rfl, hb⟩; refine ⟨_, rfl, ?_⟩; have n0_ := Aside0.mk (below_step (by repeat (first | (with_reducible first | exact HB.out | apply below_alloc | apply pw_below_drewN | apply below_drew1) | exact HB.out)) hb); clear HB; have HB := n0_; clear n0_; (try clear hb); (try clear hb2); (try clear hk); (try clear hi)) | (go_at_call 6; (with_reducible refine (topic_Valid.calls a1 false _ A6.out).mono ?_); rintro e w13 ⟨rfl, hb⟩; have n0_ := Aside0.mk (below_step (by repeat (first | (with_reducible first | exact HB.out | apply below_alloc | apply pw_below_drewN | apply below_drew1) | exact HB.out)) hb); clear HB; have HB := n0_; clear n0_; (try clear hb); (try clear hb2); (try clear hk); (try clear hi)))
    go_meet
    case rel => exact ⟨_, (true), (by first | rfl | (simp; done) | (simp [*]; done)), H', ⟨by first | omega | exact Nat.le_refl _⟩, ⟨by repeat (first | (with_reducible first | exact HB.out | apply below_alloc | apply pw_below_drewN | apply below_drew1) | exact HB.out)⟩⟩
  ·replace c5 := Bool.eq_false_iff.mpr c5
   subst c5
   have H1 : (match_Matches.j0 k a0 a1 true) = some r := by rw [if_neg (show ¬ (false = true) by decide)] at H; exact H
   clear H
   have H := H1
   clear H1
   have H' := Aside0.mk H
   clear H
   go_wp2_with (first | (refine wp_scope_straight ?_) | (refine wp_label ?_) | ((with_reducible refine gate_callee (f := 5) rfl ?_); refine goesL_ (some 10) rfl rfl Tryz.func5 (by kernel_rfl) rfl #[.string a0] rfl (by (try simp only [List.map_toArray, List.map_cons, List.map_nil]); first | done | rfl | (simp only [List.length_drop, List.length_take]; rfl)) ?_; (with_reducible refine (topic_Filter.calls a0 false _ A4.out).mono ?_); rintro e w14 ⟨rfl, hb⟩; refine ⟨_, rfl, ?_⟩; have n0_ := Aside0.mk (below_step (by repeat (first | (with_reducible first | exact HB.out | apply below_alloc | apply pw_below_drewN | apply below_drew1) | exact HB.out)) hb); clear HB; have HB := n0_; clear n0_; (try clear hb); (try clear hb2); (try clear hk); (try clear hi)))
   go_meet
   case rel => exact ⟨_, (true), (by first | rfl | (simp; done) | (simp [*]; done)), H', ⟨by first | omega | exact Nat.le_refl _⟩, ⟨by repeat (first | (with_reducible first | exact HB.out | apply below_alloc | apply pw_below_drewN | apply below_drew1) | exact HB.out)⟩⟩
 case rest =>
  clear HC3
  try clear c1
  try clear p2
  try clear c5
  try clear c7
  try clear c13
  obtain ⟨kq, x21_2, rfl, HA, HJ2, HB⟩ := hcut
  cases kq with
  | zero => exact absurd HA.out (by simp [match_Matches.j0])
  | succ kj2 =>
   have H := HA.out
   clear HA
   simp only [match_Matches.j0] at H
   by_cases c15 : x21_2 = true
   ·subst c15
    have H1 : (some false) = some r := by rw [if_pos rfl] at H; exact H
    clear H
    have H := H1
    clear H1
    obtain rfl := Option.some.inj H
    go_wp2
    go_ret
    exact ⟨by first | rfl | (simp [errW_none, errW_some] <;> rfl) | (simp [*, errW_none, errW_some] <;> rfl), by repeat (first | (with_reducible first | exact HB.out | apply below_alloc | apply pw_below_drewN | apply below_drew1) | exact HB.out)⟩
   ·replace c15 := Bool.eq_false_iff.mpr c15
    subst c15
    have H1 : ((topic_Levels.f a0).bind fun t160 => ((topic_Levels.f a1).bind fun t163 => (match_Matches.l0 kj2 t160 t163 t160 (t160.length : Int) 0))) = some r := by rw [if_neg (show ¬ (false = true) by decide)] at H; exact H
    clear H
    have H := H1
    clear H1
    replace H := Option.bind_eq_some_iff.mp H
    obtain ⟨t160, A160, H⟩ := H
    replace H : ((topic_Levels.f a1).bind fun t163 => (match_Matches.l0 kj2 t160 t163 t160 (t160.length : Int) 0)) = some r := H
    have A16 := Aside0.mk A160
    clear A160
    replace H := Option.bind_eq_some_iff.mp H
    obtain ⟨t163, A170, H⟩ := H
    replace H : (match_Matches.l0 kj2 t160 t163 t160 (t160.length : Int) 0) = some r := H
    have A17 := Aside0.mk A170
    clear A170
    have H' := Aside0.mk H
    clear H
    go_wp2_with (first | (refine wp_scope_straight ?_) | (refine wp_label ?_) | ((with_reducible refine gate_callee (f := 15) rfl ?_); refine goesL_ (some 23) rfl rfl Tryz.func15 (by kernel_rfl) rfl #[.string a0] rfl (by (try simp only [List.map_toArray, List.map_cons, List.map_nil]); first | done | rfl | (simp only [List.length_drop, List.length_take]; rfl)) ?_; (with_reducible refine (topic_Levels.calls a0 t160 _ A16.out).mono ?_); rintro e w18 ⟨v161, rfl, ho0, hb⟩; refine ⟨_, rfl, ?_⟩; have n0_ := Aside0.mk (Kd.R_lower ho0 (below_size (by repeat (first | (with_reducible first | exact HB.out | apply below_alloc | apply pw_below_drewN | apply below_drew1) | exact HB.out)))); have n1_ := Aside0.mk (below_step (by repeat (first | (with_reducible first | exact HB.out | apply below_alloc | apply pw_below_drewN | apply below_drew1) | exact HB.out)) hb); clear HB; have HO162 := n0_; have HB := n1_; clear n0_ n1_; (try clear hb); (try clear hb2); (try clear hk); (try clear hi); (try clear ho0)) | ((with_reducible refine gate_callee (f := 15) rfl ?_); refine goesL_ (some 25) rfl rfl Tryz.func15 (by kernel_rfl) rfl #[.string a1] rfl (by (try simp only [List.map_toArray, List.map_cons, List.map_nil]); first | done | rfl | (simp only [List.length_drop, List.length_take]; rfl)) ?_; (with_reducible refine (topic_Levels.calls a1 t163 _ A17.out).mono ?_); rintro e w19 ⟨v164, rfl, ho0, hb⟩; refine ⟨_, rfl, ?_⟩; have n0_ := Aside0.mk (Kd.R_elder' (by (with_reducible repeat (first | apply Kd.R_alloc | apply Kd.R_drewN | apply Kd.R_drew)); exact HO162.out) (Kd.R_base ho0) hb); have n1_ := Aside0.mk (Kd.R_lower (Kd.R_new' ho0 (Kd.R_lt (by (with_reducible repeat (first | apply Kd.R_alloc | apply Kd.R_drewN | apply Kd.R_drew)); exact HO162.out))) (below_size (by repeat (first | (with_reducible first | exact HB.out | apply below_alloc | apply pw_below_drewN | apply below_drew1) | exact HB.out)))); have n2_ := Aside0.mk (below_step (by repeat (first | (with_reducible first | exact HB.out | apply below_alloc | apply pw_below_drewN | apply below_drew1) | exact HB.out)) hb); clear HO162; clear HB; have HO162 := n0_; have HO165 := n1_; have HB := n2_; clear n0_ n1_ n2_; (try clear hb); (try clear hb2); (try clear hk); (try clear hi); (try clear ho0); obtain ⟨Ao20, co20, eo20⟩ := Kd.R_slice HO162.out; subst eo20))
    go_loopg [28] kj2 (fun kq v28 w' => ∃ (x28_2 : Int), v28 = .int .i64 x28_2 ∧ Aside0 (match_Matches.l0 kq t160 t163 t160 (t160.length : Int) x28_2 = some r) ∧ Aside0 (kq ≤ kj2) ∧ Aside0 (Kd.R Kd.string 9 w' w.heap.size (fun k_ => some k_ ≠ (v164 : Value).ownBlock) (.slice Ao20 t160.length co20) t160) ∧ Aside0 (Kd.R Kd.string 9 w' w.heap.size (fun k_ => some k_ ≠ ((.slice Ao20 t160.length co20) : Value).ownBlock ∧ some k_ ≠ ((.slice Ao20 t160.length co20) : Value).ownBlock) v164 t163) ∧ Aside0 (Kd.R Kd.string 9 w' w.heap.size (fun k_ => some k_ ≠ (v164 : Value).ownBlock) (.slice Ao20 t160.length co20) t160) ∧ Aside0 (Below w.heap.size w w'))
    case atStart => exact ⟨(0), (by first | rfl | (simp; done) | (simp [*]; done)), H', ⟨Nat.le_refl _⟩, ⟨by (with_reducible repeat (first | apply Kd.R_alloc | apply Kd.R_drewN | apply Kd.R_drew)); exact Kd.R_mono HO162.out (fun _ hk => hk.2)⟩, ⟨by (with_reducible repeat (first | apply Kd.R_alloc | apply Kd.R_drewN | apply Kd.R_drew)); exact Kd.R_mono HO165.out (fun _ hk => ⟨hk.2, hk.2⟩)⟩, ⟨by (with_reducible repeat (first | apply Kd.R_alloc | apply Kd.R_drewN | apply Kd.R_drew)); exact Kd.R_mono HO162.out (fun _ hk => hk.2)⟩, ⟨by repeat (first | (with_reducible first | exact HB.out | apply below_alloc | apply pw_below_drewN | apply below_drew1) | exact HB.out)⟩⟩
    case round =>
     clear H'
     try clear c1
     try clear p2
     try clear c5
     try clear c7
     try clear c13
     try clear c15
     try clear p2
     obtain ⟨x28_2, rfl, HA, HK2, HO_5, HO_6, HO_26, HB⟩ := hrel
     cases gk with
     | zero => exact absurd HA.out (by simp [match_Matches.l0])
     | succ k2 =>
      have H := HA.out
      clear HA
      simp only [match_Matches.l0] at H
      by_cases c21 : x28_2 < (t160.length : Int)
      ·rw [if_pos c21] at H
       have c21b0 : decide (x28_2 < (t160.length : Int)) = true := decide_eq_true c21
       clear c21
       by_cases c22 : 0 ≤ x28_2
       ·rw [if_pos c22] at H
        have c22b0 : decide (0 ≤ x28_2) = true := decide_eq_true c22
        clear c22
        by_cases c23 : x28_2 < (t160.length : Int)
        ·rw [if_pos c23] at H
         have c23b0 : decide (x28_2 < (t160.length : Int)) = true := decide_eq_true c23
         clear c23
         by_cases c24 : (rdOf ByteArray.empty t160 x28_2).toList = ([35] : List UInt8)
         ·rw [if_pos c24] at H
          have c24b0 : ((rdOf ByteArray.empty t160 x28_2).toList == ([35] : List UInt8)) = true := beq_iff_eq.mpr c24
          have c24b1 : ((rdOf ByteArray.empty t160 x28_2).toList != ([35] : List UInt8)) = false := bne_eq_false_iff_eq.mpr c24
          clear c24
          obtain rfl := Option.some.inj H
          have p166 : 0 ≤ (x28_2 : Int) := of_decide_eq_true (by first | (with_reducible assumption) | assumption)
          have q166 : x28_2 < (t160.length : Int) := of_decide_eq_true (by first | (with_reducible assumption) | assumption)
          obtain ⟨ad166, e166, hx166_0⟩ := Kd.at_string (Kd.R_reads' HO_26.out).2.2 x28_2 p166 q166
          cases e166
          replace p166 := eq_true p166
          replace q166 := eq_true q166
          go_wp2
          go_ret
          exact ⟨by first | rfl | (simp [errW_none, errW_some] <;> rfl) | (simp [*, errW_none, errW_some] <;> rfl), by repeat (first | (with_reducible first | exact HB.out | apply below_alloc | apply pw_below_drewN | apply below_drew1) | exact HB.out)⟩
         ·rw [if_neg c24] at H
          have c24b0 : ((rdOf ByteArray.empty t160 x28_2).toList == ([35] : List UInt8)) = false := beq_eq_false_iff_ne.mpr c24
          have c24b1 : ((rdOf ByteArray.empty t160 x28_2).toList != ([35] : List UInt8)) = true := bne_iff_ne.mpr c24
          by_cases c25 : x28_2 = (t163.length : Int)
          ·rw [if_pos c25] at H
           have c25b0 : (x28_2 == (t163.length : Int)) = true := beq_iff_eq.mpr c25
           have c25b1 : (x28_2 != (t163.length : Int)) = false := bne_eq_false_iff_eq.mpr c25
           clear c25
           obtain rfl := Option.some.inj H
           have p166 : 0 ≤ (x28_2 : Int) := of_decide_eq_true (by first | (with_reducible assumption) | assumption)
           have q166 : x28_2 < (t160.length : Int) := of_decide_eq_true (by first | (with_reducible assumption) | assumption)
           obtain ⟨ad166, e166, hx166_0⟩ := Kd.at_string (Kd.R_reads' HO_26.out).2.2 x28_2 p166 q166
           cases e166
           replace p166 := eq_true p166
           replace q166 := eq_true q166
           obtain ⟨Ao26, co26, eo26⟩ := Kd.R_slice HO_6.out
           subst eo26
           go_wp2
           go_ret
           exact ⟨by first | rfl | (simp [errW_none, errW_some] <;> rfl) | (simp [*, errW_none, errW_some] <;> rfl), by repeat (first | (with_reducible first | exact HB.out | apply below_alloc | apply pw_below_drewN | apply below_drew1) | exact HB.out)⟩
          ·rw [if_neg c25] at H
           have c25b0 : (x28_2 == (t163.length : Int)) = false := beq_eq_false_iff_ne.mpr c25
           have c25b1 : (x28_2 != (t163.length : Int)) = true := bne_iff_ne.mpr c25
           by_cases c27 : (rdOf ByteArray.empty t160 x28_2).toList = ([43] : List UInt8)
           ·rw [if_pos c27] at H
            have c27b0 : ((rdOf ByteArray.empty t160 x28_2).toList == ([43] : List UInt8)) = true := beq_iff_eq.mpr c27
            have c27b1 : ((rdOf ByteArray.empty t160 x28_2).toList != ([43] : List UInt8)) = false := bne_eq_false_iff_eq.mpr c27
            clear c27
            have H' := Aside0.mk H
            clear H
            have p166 : 0 ≤ (x28_2 : Int) := of_decide_eq_true (by first | (with_reducible assumption) | assumption)
            have q166 : x28_2 < (t160.length : Int) := of_decide_eq_true (by first | (with_reducible assumption) | assumption)
            obtain ⟨ad166, e166, hx166_0⟩ := Kd.at_string (Kd.R_reads' HO_26.out).2.2 x28_2 p166 q166
            cases e166
            replace p166 := eq_true p166
            replace q166 := eq_true q166
            obtain ⟨Ao28, co28, eo28⟩ := Kd.R_slice HO_6.out
            subst eo28
            go_wp2
            go_roundg k2
            case measure => have := HJ2.out; have := HK2.out; omega
            case rel => exact ⟨(wrap64 (x28_2 + 1)), (by first | rfl | (simp; done) | (simp [*]; done)), H', ⟨by have := HJ2.out; have := HK2.out; omega⟩, ⟨by (with_reducible repeat (first | apply Kd.R_alloc | apply Kd.R_drewN | apply Kd.R_drew)); exact HO_5.out⟩, ⟨by (with_reducible repeat (first | apply Kd.R_alloc | apply Kd.R_drewN | apply Kd.R_drew)); exact HO_6.out⟩, ⟨by (with_reducible repeat (first | apply Kd.R_alloc | apply Kd.R_drewN | apply Kd.R_drew)); exact HO_26.out⟩, ⟨by repeat (first | (with_reducible first | exact HB.out | apply below_alloc | apply pw_below_drewN | apply below_drew1) | exact HB.out)⟩⟩
           ·rw [if_neg c27] at H
            have c27b0 : ((rdOf ByteArray.empty t160 x28_2).toList == ([43] : List UInt8)) = false := beq_eq_false_iff_ne.mpr c27
            have c27b1 : ((rdOf ByteArray.empty t160 x28_2).toList != ([43] : List UInt8)) = true := bne_iff_ne.mpr c27
            by_cases c29 : x28_2 < (t163.length : Int)
            ·rw [if_pos c29] at H
             have c29b0 : decide (x28_2 < (t163.length : Int)) = true := decide_eq_true c29
             clear c29
             by_cases c30 : (rdOf ByteArray.empty t160 x28_2).toList = (rdOf ByteArray.empty t163 x28_2).toList
             ·rw [if_pos c30] at H
              have c30b0 : ((rdOf ByteArray.empty t160 x28_2).toList == (rdOf ByteArray.empty t163 x28_2).toList) = true := beq_iff_eq.mpr c30
              have c30b1 : ((rdOf ByteArray.empty t160 x28_2).toList != (rdOf ByteArray.empty t163 x28_2).toList) = false := bne_eq_false_iff_eq.mpr c30
              clear c30
              have H' := Aside0.mk H
              clear H
              have p166 : 0 ≤ (x28_2 : Int) := of_decide_eq_true (by first | (with_reducible assumption) | assumption)
              have q166 : x28_2 < (t160.length : Int) := of_decide_eq_true (by first | (with_reducible assumption) | assumption)
              obtain ⟨ad166, e166, hx166_0⟩ := Kd.at_string (Kd.R_reads' HO_26.out).2.2 x28_2 p166 q166
              cases e166
              replace p166 := eq_true p166
              replace q166 := eq_true q166
              obtain ⟨Ao31, co31, eo31⟩ := Kd.R_slice HO_6.out
              subst eo31
              have p167 : 0 ≤ (x28_2 : Int) := of_decide_eq_true (by first | (with_reducible assumption) | assumption)
              have q167 : x28_2 < (t163.length : Int) := of_decide_eq_true (by first | (with_reducible assumption) | assumption)
              obtain ⟨ad167, e167, hx167_0⟩ := Kd.at_string (Kd.R_reads' HO_6.out).2.2 x28_2 p167 q167
              cases e167
              replace p167 := eq_true p167
              replace q167 := eq_true q167
              go_wp2
              go_roundg k2
              case measure => have := HJ2.out; have := HK2.out; omega
              case rel => exact ⟨(wrap64 (x28_2 + 1)), (by first | rfl | (simp; done) | (simp [*]; done)), H', ⟨by have := HJ2.out; have := HK2.out; omega⟩, ⟨by (with_reducible repeat (first | apply Kd.R_alloc | apply Kd.R_drewN | apply Kd.R_drew)); exact HO_5.out⟩, ⟨by (with_reducible repeat (first | apply Kd.R_alloc | apply Kd.R_drewN | apply Kd.R_drew)); exact HO_6.out⟩, ⟨by (with_reducible repeat (first | apply Kd.R_alloc | apply Kd.R_drewN | apply Kd.R_drew)); exact HO_26.out⟩, ⟨by repeat (first | (with_reducible first | exact HB.out | apply below_alloc | apply pw_below_drewN | apply below_drew1) | exact HB.out)⟩⟩
             ·rw [if_neg c30] at H
              have c30b0 : ((rdOf ByteArray.empty t160 x28_2).toList == (rdOf ByteArray.empty t163 x28_2).toList) = false := beq_eq_false_iff_ne.mpr c30
              have c30b1 : ((rdOf ByteArray.empty t160 x28_2).toList != (rdOf ByteArray.empty t163 x28_2).toList) = true := bne_iff_ne.mpr c30
              obtain rfl := Option.some.inj H
              have p166 : 0 ≤ (x28_2 : Int) := of_decide_eq_true (by first | (with_reducible assumption) | assumption)
              have q166 : x28_2 < (t160.length : Int) := of_decide_eq_true (by first | (with_reducible assumption) | assumption)
              obtain ⟨ad166, e166, hx166_0⟩ := Kd.at_string (Kd.R_reads' HO_26.out).2.2 x28_2 p166 q166
              cases e166
              replace p166 := eq_true p166
              replace q166 := eq_true q166
              obtain ⟨Ao32, co32, eo32⟩ := Kd.R_slice HO_6.out
              subst eo32
              have p167 : 0 ≤ (x28_2 : Int) := of_decide_eq_true (by first | (with_reducible assumption) | assumption)
              have q167 : x28_2 < (t163.length : Int) := of_decide_eq_true (by first | (with_reducible assumption) | assumption)
              obtain ⟨ad167, e167, hx167_0⟩ := Kd.at_string (Kd.R_reads' HO_6.out).2.2 x28_2 p167 q167
              cases e167
              replace p167 := eq_true p167
              replace q167 := eq_true q167
              go_wp2
              go_ret
              exact ⟨by first | rfl | (simp [errW_none, errW_some] <;> rfl) | (simp [*, errW_none, errW_some] <;> rfl), by repeat (first | (with_reducible first | exact HB.out | apply below_alloc | apply pw_below_drewN | apply below_drew1) | exact HB.out)⟩
            ·rw [if_neg c29] at H
             exact absurd H (by simp)
        ·rw [if_neg c23] at H
         exact absurd H (by simp)
       ·rw [if_neg c22] at H
        exact absurd H (by simp)
      ·rw [if_neg c21] at H
       have c21b0 : decide (x28_2 < (t160.length : Int)) = false := decide_eq_false c21
       clear c21
       obtain rfl := Option.some.inj H
       obtain ⟨Ao33, co33, eo33⟩ := Kd.R_slice HO_6.out
       subst eo33
       go_wp2
       go_ret
       exact ⟨by first | rfl | (simp [errW_none, errW_some] <;> rfl) | (simp [*, errW_none, errW_some] <;> rfl), by repeat (first | (with_reducible first | exact HB.out | apply below_alloc | apply pw_below_drewN | apply below_drew1) | exact HB.out)⟩

/-- THE ONE PURE STATEMENT of match_Matches: yours. -/
def match_Matches.Pure : Prop := ∀ (a0 : ByteArray) (a1 : ByteArray), a0.size ≤ 140737488351232 → a1.size ≤ 140737488351232 → ∃ k, match_Matches.f k a0 a1 = some true
theorem match_Matches.walk (P : match_Matches.Pure) (a0 : ByteArray) (a1 : ByteArray) (w : World) (w0 : a0.size ≤ 140737488351232) (w1 : a1.size ≤ 140737488351232) :
  Calls Tryz.prog 13 #[.string a0, .string a1] w fun e w' => e = .returned (.bool true) ∧ Below w.heap.size w w' := by
 obtain ⟨k, h⟩ := P a0 a1 w0 w1
 refine (match_Matches.calls k a0 a1 true w h).mono ?_
 rintro e w' ⟨rfl, hd⟩
 exact ⟨rfl, hd⟩

/-! ### strings_Contains: function 48, by hand -/
def strings_Contains.f (a0 : ByteArray) (a1 : ByteArray) : Option (Bool) := Ext.contF a0 a1
theorem strings_Contains.calls (a0 : ByteArray) (a1 : ByteArray) (r : Bool) (w : World) (h : strings_Contains.f a0 a1 = some r) :
  Calls Tryz.prog 48 #[.string a0, .string a1] w fun e w' => e = .returned (.bool r) ∧ Below w.heap.size w w' := Ext.cont_calls a0 a1 r w h


/-! ### exchange_plain: function 29 -/
def exchange_plain.f (a0 : ByteArray) : Option (Int) := if (a0.size : Int) > 64 then (some 5) else ((strings_Contains.f a0 (⟨#[0]⟩ : ByteArray)).bind fun t168 => (if t168 = true then (some 2) else (some 0)))
set_option maxHeartbeats 8000000 in
set_option maxRecDepth 100000 in
theorem exchange_plain.calls (a0 : ByteArray) (r : Int) (w : World) (h : exchange_plain.f a0 = some r) :
  Calls Tryz.prog 29 #[.string a0] w fun e w' => e = .returned (.int .i64 r) ∧ Below w.heap.size w w' := by
 have HB := Aside0.mk (Below.refl w.heap.size w)
 have H : (if (a0.size : Int) > 64 then (some 5) else ((strings_Contains.f a0 (⟨#[0]⟩ : ByteArray)).bind fun t168 => (if t168 = true then (some 2) else (some 0)))) = some r := h
 clear h
 by_cases c2 : (a0.size : Int) > 64
 ·rw [if_pos c2] at H
  have c2b0 : decide (64 < (a0.size : Int)) = true := decide_eq_true c2
  have c2b1 : decide (64 < a0.size) = true := decide_eq_true (by omega)
  clear c2
  obtain rfl := Option.some.inj H
  go_enter Tryz.func29, Tryz.ntmps29
  go_wp2
  go_ret
  exact ⟨by first | rfl | (simp [errW_none, errW_some] <;> rfl) | (simp [*, errW_none, errW_some] <;> rfl), by repeat (first | (with_reducible first | exact HB.out | apply below_alloc | apply pw_below_drewN | apply below_drew1) | exact HB.out)⟩
 ·rw [if_neg c2] at H
  have c2b0 : decide (64 < (a0.size : Int)) = false := decide_eq_false c2
  have c2b1 : decide (64 < a0.size) = false := decide_eq_false (by omega)
  clear c2
  replace H := Option.bind_eq_some_iff.mp H
  obtain ⟨t168, A30, H⟩ := H
  replace H : (if t168 = true then (some 2) else (some 0)) = some r := H
  have A3 := Aside0.mk A30
  clear A30
  by_cases c4 : t168 = true
  ·subst c4
   have H1 : (some 2) = some r := by rw [if_pos rfl] at H; exact H
   clear H
   have H := H1
   clear H1
   obtain rfl := Option.some.inj H
   go_enter Tryz.func29, Tryz.ntmps29
   go_wp2_with (first | ((with_reducible refine gate_callee (f := 48) rfl ?_); refine goesL_ (some 7) rfl rfl Tryz.func48 (by kernel_rfl) rfl #[.string a0, .string (⟨#[0]⟩ : ByteArray)] rfl (by (try simp only [List.map_toArray, List.map_cons, List.map_nil]); first | done | rfl | (simp only [List.length_drop, List.length_take]; rfl)) ?_; (with_reducible refine (strings_Contains.calls a0 (⟨#[0]⟩ : ByteArray) true _ A3.out).mono ?_); rintro e w5 ⟨rfl, hb⟩; refine ⟨_, rfl, ?_⟩; have n0_ := Aside0.mk (below_step (by repeat (first | (with_reducible first | exact HB.out | apply below_alloc | apply pw_below_drewN | apply below_drew1) | exact HB.out)) hb); clear HB; have HB := n0_; clear n0_; (try clear hb); (try clear hb2); (try clear hk); (try clear hi)))
   go_ret
   exact ⟨by first | rfl | (simp [errW_none, errW_some] <;> rfl) | (simp [*, errW_none, errW_some] <;> rfl), by repeat (first | (with_reducible first | exact HB.out | apply below_alloc | apply pw_below_drewN | apply below_drew1) | exact HB.out)⟩
  ·replace c4 := Bool.eq_false_iff.mpr c4
   subst c4
   have H1 : (some 0) = some r := by rw [if_neg (show ¬ (false = true) by decide)] at H; exact H
   clear H
   have H := H1
   clear H1
   obtain rfl := Option.some.inj H
   go_enter Tryz.func29, Tryz.ntmps29
   go_wp2_with (first | ((with_reducible refine gate_callee (f := 48) rfl ?_); refine goesL_ (some 7) rfl rfl Tryz.func48 (by kernel_rfl) rfl #[.string a0, .string (⟨#[0]⟩ : ByteArray)] rfl (by (try simp only [List.map_toArray, List.map_cons, List.map_nil]); first | done | rfl | (simp only [List.length_drop, List.length_take]; rfl)) ?_; (with_reducible refine (strings_Contains.calls a0 (⟨#[0]⟩ : ByteArray) false _ A3.out).mono ?_); rintro e w6 ⟨rfl, hb⟩; refine ⟨_, rfl, ?_⟩; have n0_ := Aside0.mk (below_step (by repeat (first | (with_reducible first | exact HB.out | apply below_alloc | apply pw_below_drewN | apply below_drew1) | exact HB.out)) hb); clear HB; have HB := n0_; clear n0_; (try clear hb); (try clear hb2); (try clear hk); (try clear hi)))
   go_ret
   exact ⟨by first | rfl | (simp [errW_none, errW_some] <;> rfl) | (simp [*, errW_none, errW_some] <;> rfl), by repeat (first | (with_reducible first | exact HB.out | apply below_alloc | apply pw_below_drewN | apply below_drew1) | exact HB.out)⟩

/-! ### exchange_Matches: function 120 -/
mutual
def exchange_Matches.j0 : Nat → ByteArray → ByteArray → Bool → Option (Bool)
 | 0, _, _, _ => none
 | k + 1, x0, x1, x18 => if x18 = true then (some false) else ((strings_Split.f x1 (⟨#[46]⟩ : ByteArray)).bind fun t171 => (if 0 ≤ (wrap64 ((t171.length : Int) + 1)) then (if (wrap64 ((t171.length : Int) + 1) : Int).toNat ≤ 281474976710656 then ((some (List.replicate (wrap64 ((t171.length : Int) + 1) : Int).toNat false : List Bool)).bind fun y174 => (if 0 < (y174.length : Int) then ((strings_Split.f x0 (⟨#[46]⟩ : ByteArray)).bind fun t178 => (exchange_Matches.l0 k t171 (y174.set (0 : Int).toNat true) t178 (t178.length : Int) 0)) else (none))) else (none)) else (none)))
def exchange_Matches.l0 : Nat → List ByteArray → List Bool → List ByteArray → Int → Int → Option (Bool)
 | 0, _, _, _, _, _ => none
 | k + 1, x5, x6, x28, x29, x30 => if x30 < x29 then (if 0 ≤ x30 then (if x30 < (x28.length : Int) then (if 0 ≤ (x6.length : Int) then (if ((x6.length : Int) : Int).toNat ≤ 281474976710656 then (exchange_Matches.l1 k x5 x6 (rdOf ByteArray.empty x28 x30) (List.replicate ((x6.length : Int) : Int).toNat false) x28 x29 x30 (x6.length : Int) 0) else (none)) else (none)) else (none)) else (none)) else (if 0 ≤ (x5.length : Int) then (if (x5.length : Int) < (x6.length : Int) then (some (rdOf false x6 (x5.length : Int))) else (none)) else (none))
def exchange_Matches.l1 : Nat → List ByteArray → List Bool → ByteArray → List Bool → List ByteArray → Int → Int → Int → Int → Option (Bool)
 | 0, _, _, _, _, _, _, _, _, _ => none
 | k + 1, x5, x6, x8, x9, x28, x29, x30, x38, x39 => if x39 < x38 then (if x8.toList = ([35] : List UInt8) then (if 0 ≤ x39 then (if x39 < (x6.length : Int) then (if rdOf false x6 x39 = true then (if x39 < (x9.length : Int) then (exchange_Matches.l1 k x5 x6 x8 (x9.set (x39 : Int).toNat true) x28 x29 x30 x38 (wrap64 (x39 + 1))) else (none)) else (if x39 > 0 then (if 0 ≤ (wrap64 (x39 - 1)) then (if (wrap64 (x39 - 1)) < (x9.length : Int) then (if x39 < (x9.length : Int) then (exchange_Matches.l1 k x5 x6 x8 (x9.set (x39 : Int).toNat (rdOf false x9 (wrap64 (x39 - 1)))) x28 x29 x30 x38 (wrap64 (x39 + 1))) else (none)) else (none)) else (none)) else (if x39 < (x9.length : Int) then (exchange_Matches.l1 k x5 x6 x8 (x9.set (x39 : Int).toNat false) x28 x29 x30 x38 (wrap64 (x39 + 1))) else (none)))) else (none)) else (none)) else (if x39 > 0 then (if 0 ≤ (wrap64 (x39 - 1)) then (if (wrap64 (x39 - 1)) < (x6.length : Int) then (if rdOf false x6 (wrap64 (x39 - 1)) = true then (if x8.toList = ([42] : List UInt8) then (if 0 ≤ x39 then (if x39 < (x9.length : Int) then (exchange_Matches.l1 k x5 x6 x8 (x9.set (x39 : Int).toNat true) x28 x29 x30 x38 (wrap64 (x39 + 1))) else (none)) else (none)) else (if (wrap64 (x39 - 1)) < (x5.length : Int) then (if 0 ≤ x39 then (if x39 < (x9.length : Int) then (exchange_Matches.l1 k x5 x6 x8 (x9.set (x39 : Int).toNat (x8.toList == (rdOf ByteArray.empty x5 (wrap64 (x39 - 1))).toList)) x28 x29 x30 x38 (wrap64 (x39 + 1))) else (none)) else (none)) else (none))) else (if 0 ≤ x39 then (if x39 < (x9.length : Int) then (exchange_Matches.l1 k x5 x6 x8 (x9.set (x39 : Int).toNat false) x28 x29 x30 x38 (wrap64 (x39 + 1))) else (none)) else (none))) else (none)) else (none)) else (exchange_Matches.l1 k x5 x6 x8 x9 x28 x29 x30 x38 (wrap64 (x39 + 1))))) else (exchange_Matches.l0 k x5 x9 x28 x29 (wrap64 (x30 + 1)))
end
def exchange_Matches.f (k : Nat) (a0 : ByteArray) (a1 : ByteArray) : Option (Bool) := (exchange_plain.f a0).bind fun t169 => (if t169 = 0 then ((exchange_plain.f a1).bind fun t170 => (exchange_Matches.j0 k a0 a1 (t170 != 0))) else (exchange_Matches.j0 k a0 a1 true))
theorem exchange_Matches.mono_l : ∀ k, (∀ y0 y1 y2, LeO (exchange_Matches.j0 k y0 y1 y2) (exchange_Matches.j0 (k + 1) y0 y1 y2)) ∧ (∀ y0 y1 y2 y3 y4, LeO (exchange_Matches.l0 k y0 y1 y2 y3 y4) (exchange_Matches.l0 (k + 1) y0 y1 y2 y3 y4)) ∧ (∀ y0 y1 y2 y3 y4 y5 y6 y7 y8, LeO (exchange_Matches.l1 k y0 y1 y2 y3 y4 y5 y6 y7 y8) (exchange_Matches.l1 (k + 1) y0 y1 y2 y3 y4 y5 y6 y7 y8))
 | 0 => ⟨fun _ _ _ r h => by simp [exchange_Matches.j0] at h, fun _ _ _ _ _ r h => by simp [exchange_Matches.l0] at h, fun _ _ _ _ _ _ _ _ _ r h => by simp [exchange_Matches.l1] at h⟩
 | k + 1 => by
  obtain ⟨ih0, ih1, ih2⟩ := exchange_Matches.mono_l k
  refine ⟨?_, ?_, ?_⟩
  ·intro y0 y1 y2
   unfold exchange_Matches.j0
   repeat' first
   | (with_reducible exact ih0 _ _ _)
   | (with_reducible exact ih1 _ _ _ _ _)
   | (with_reducible exact ih2 _ _ _ _ _ _ _ _ _)
   | (with_reducible exact LeO.refl _)
   | (with_reducible exact LeO.none _)
   | (with_reducible refine LeO.ite ?_ ?_)
   | (with_reducible refine LeO.bind ?_ (fun _ => ?_))
   | exact ih0 _ _ _
   | exact ih1 _ _ _ _ _
   | exact ih2 _ _ _ _ _ _ _ _ _
   | exact LeO.none _
   | refine LeO.ite ?_ ?_
   | refine LeO.bind ?_ (fun _ => ?_)
  ·intro y0 y1 y2 y3 y4
   unfold exchange_Matches.l0
   repeat' first
   | (with_reducible exact ih0 _ _ _)
   | (with_reducible exact ih1 _ _ _ _ _)
   | (with_reducible exact ih2 _ _ _ _ _ _ _ _ _)
   | (with_reducible exact LeO.refl _)
   | (with_reducible exact LeO.none _)
   | (with_reducible refine LeO.ite ?_ ?_)
   | (with_reducible refine LeO.bind ?_ (fun _ => ?_))
   | exact ih0 _ _ _
   | exact ih1 _ _ _ _ _
   | exact ih2 _ _ _ _ _ _ _ _ _
   | exact LeO.none _
   | refine LeO.ite ?_ ?_
   | refine LeO.bind ?_ (fun _ => ?_)
  ·intro y0 y1 y2 y3 y4 y5 y6 y7 y8
   unfold exchange_Matches.l1
   repeat' first
   | (with_reducible exact ih0 _ _ _)
   | (with_reducible exact ih1 _ _ _ _ _)
   | (with_reducible exact ih2 _ _ _ _ _ _ _ _ _)
   | (with_reducible exact LeO.refl _)
   | (with_reducible exact LeO.none _)
   | (with_reducible refine LeO.ite ?_ ?_)
   | (with_reducible refine LeO.bind ?_ (fun _ => ?_))
   | exact ih0 _ _ _
   | exact ih1 _ _ _ _ _
   | exact ih2 _ _ _ _ _ _ _ _ _
   | exact LeO.none _
   | refine LeO.ite ?_ ?_
   | refine LeO.bind ?_ (fun _ => ?_)
theorem exchange_Matches.mono : ∀ a0 a1 k, LeO (exchange_Matches.f k a0 a1) (exchange_Matches.f (k + 1) a0 a1) := by
 intro a0 a1 k
 obtain ⟨ih0, ih1, ih2⟩ := exchange_Matches.mono_l k
 unfold exchange_Matches.f
 repeat' first
   | (with_reducible exact ih0 _ _ _)
   | (with_reducible exact ih1 _ _ _ _ _)
   | (with_reducible exact ih2 _ _ _ _ _ _ _ _ _)
   | (with_reducible exact LeO.refl _)
   | (with_reducible exact LeO.none _)
   | (with_reducible refine LeO.ite ?_ ?_)
   | (with_reducible refine LeO.bind ?_ (fun _ => ?_))
   | exact ih0 _ _ _
   | exact ih1 _ _ _ _ _
   | exact ih2 _ _ _ _ _ _ _ _ _
   | exact LeO.none _
   | refine LeO.ite ?_ ?_
   | refine LeO.bind ?_ (fun _ => ?_)
set_option maxHeartbeats 8000000 in
set_option maxRecDepth 100000 in
theorem exchange_Matches.calls (k : Nat) (a0 : ByteArray) (a1 : ByteArray) (r : Bool) (w : World) (h : exchange_Matches.f k a0 a1 = some r) :
  Calls Tryz.prog 120 #[.string a0, .string a1] w fun e w' => e = .returned (.bool r) ∧ Below w.heap.size w w' := by
 have HB := Aside0.mk (Below.refl w.heap.size w)
 have H : ((exchange_plain.f a0).bind fun t169 => (if t169 = 0 then ((exchange_plain.f a1).bind fun t170 => (exchange_Matches.j0 k a0 a1 (t170 != 0))) else (exchange_Matches.j0 k a0 a1 true))) = some r := h
 clear h
 have HC3 := Aside0.mk H
 clear H
 go_enter Tryz.func120, Tryz.ntmps120
 go_upto_region 1 with (fail)
 go_cut [18] (fun v18 wc => ∃ (kq : Nat) (x18_2 : Bool), v18 = .bool x18_2 ∧ Aside0 (exchange_Matches.j0 kq a0 a1 x18_2 = some r) ∧ Aside0 (kq ≤ k) ∧ Aside0 (Below w.heap.size w wc))
 case first =>
  have H := HC3.out
  clear HC3
  replace H := Option.bind_eq_some_iff.mp H
  obtain ⟨t169, A40, H⟩ := H
  replace H : (if t169 = 0 then ((exchange_plain.f a1).bind fun t170 => (exchange_Matches.j0 k a0 a1 (t170 != 0))) else (exchange_Matches.j0 k a0 a1 true)) = some r := H
  have A4 := Aside0.mk A40
  clear A40
  by_cases c5 : t169 = 0
  ·rw [if_pos c5] at H
   have c5b0 : (t169 == 0) = true := beq_iff_eq.mpr c5
   have c5b1 : (t169 != 0) = false := bne_eq_false_iff_eq.mpr c5
   clear c5
   (first | rw [c5b0] | (simp only [i64_w, i32_w]; rw [c5b0]) | skip)
   replace H := Option.bind_eq_some_iff.mp H
   obtain ⟨t170, A60, H⟩ := H
   replace H : (exchange_Matches.j0 k a0 a1 (t170 != 0)) = some r := H
   have A6 := Aside0.mk A60
   clear A60
   have H' := Aside0.mk H
   clear H
   go_wp2_with (first | ((with_reducible refine gate_callee (f := 29) rfl ?_); refine goesL_ (some 12) rfl rfl Tryz.func29 (by kernel_rfl) rfl #[.string a0] rfl (by (try simp only [List.map_toArray, List.map_cons, List.map_nil]); first | done | rfl | (simp only [List.length_drop, List.length_take]; rfl)) ?_; (with_reducible refine (exchange_plain.calls a0 t169 _ A4.out).mono ?_); rintro e w7 ⟨rfl, hb⟩; refine ⟨_, rfl, ?_⟩; have n0_ := Aside0.mk (below_step (by repeat (first | (with_reducible first | exact HB.out | apply below_alloc | apply pw_below_drewN | apply below_drew1) | exact HB.out)) hb); clear HB; have HB := n0_; clear n0_; (try clear hb); (try clear hb2); (try clear hk); (try clear hi)) | (go_at_call 29; (with_reducible refine (exchange_plain.calls a1 t170 _ A6.out).mono ?_); rintro e w8 ⟨rfl, hb⟩; have n0_ := Aside0.mk (below_step (by repeat (first | (with_reducible first | exact HB.out | apply below_alloc | apply pw_below_drewN | apply below_drew1) | exact HB.out)) hb); clear HB; have HB := n0_; clear n0_; (try clear hb); (try clear hb2); (try clear hk); (try clear hi)))
   go_meet
   case rel => exact ⟨_, ((t170 != 0)), (by first | rfl | (simp; done) | (simp [*]; done)), H', ⟨by first | omega | exact Nat.le_refl _⟩, ⟨by repeat (first | (with_reducible first | exact HB.out | apply below_alloc | apply pw_below_drewN | apply below_drew1) | exact HB.out)⟩⟩
  ·rw [if_neg c5] at H
   have c5b0 : (t169 == 0) = false := beq_eq_false_iff_ne.mpr c5
   have c5b1 : (t169 != 0) = true := bne_iff_ne.mpr c5
   (first | rw [c5b0] | (simp only [i64_w, i32_w]; rw [c5b0]) | skip)
   have H' := Aside0.mk H
   clear H
   go_wp2_with (first | ((with_reducible refine gate_callee (f := 29) rfl ?_); refine goesL_ (some 12) rfl rfl Tryz.func29 (by kernel_rfl) rfl #[.string a0] rfl (by (try simp only [List.map_toArray, List.map_cons, List.map_nil]); first | done | rfl | (simp only [List.length_drop, List.length_take]; rfl)) ?_; (with_reducible refine (exchange_plain.calls a0 t169 _ A4.out).mono ?_); rintro e w9 ⟨rfl, hb⟩; refine ⟨_, rfl, ?_⟩; have n0_ := Aside0.mk (below_step (by repeat (first | (with_reducible first | exact HB.out | apply below_alloc | apply pw_below_drewN | apply below_drew1) | exact HB.out)) hb); clear HB; have HB := n0_; clear n0_; (try clear hb); (try clear hb2); (try clear hk); (try clear hi)))
   go_meet
   case rel => exact ⟨_, (true), (by first | rfl | (simp; done) | (simp [*]; done)), H', ⟨by first | omega | exact Nat.le_refl _⟩, ⟨by repeat (first | (with_reducible first | exact HB.out | apply below_alloc | apply pw_below_drewN | apply below_drew1) | exact HB.out)⟩⟩
 case rest =>
  clear HC3
  try clear c1
  try clear c2
  try clear p2
  try clear c5
  try clear c5b0
  try clear c5b1
  obtain ⟨kq, x18_2, rfl, HA, HJ2, HB⟩ := hcut
  cases kq with
  | zero => exact absurd HA.out (by simp [exchange_Matches.j0])
  | succ kj2 =>
   have H := HA.out
   clear HA
   simp only [exchange_Matches.j0] at H
   by_cases c10 : x18_2 = true
   ·subst c10
    have H1 : (some false) = some r := by rw [if_pos rfl] at H; exact H
    clear H
    have H := H1
    clear H1
    obtain rfl := Option.some.inj H
    go_wp2
    go_ret
    exact ⟨by first | rfl | (simp [errW_none, errW_some] <;> rfl) | (simp [*, errW_none, errW_some] <;> rfl), by repeat (first | (with_reducible first | exact HB.out | apply below_alloc | apply pw_below_drewN | apply below_drew1) | exact HB.out)⟩
   ·replace c10 := Bool.eq_false_iff.mpr c10
    subst c10
    have H1 : ((strings_Split.f a1 (⟨#[46]⟩ : ByteArray)).bind fun t171 => (if 0 ≤ (wrap64 ((t171.length : Int) + 1)) then (if (wrap64 ((t171.length : Int) + 1) : Int).toNat ≤ 281474976710656 then ((some (List.replicate (wrap64 ((t171.length : Int) + 1) : Int).toNat false : List Bool)).bind fun y174 => (if 0 < (y174.length : Int) then ((strings_Split.f a0 (⟨#[46]⟩ : ByteArray)).bind fun t178 => (exchange_Matches.l0 kj2 t171 (y174.set (0 : Int).toNat true) t178 (t178.length : Int) 0)) else (none))) else (none)) else (none))) = some r := by rw [if_neg (show ¬ (false = true) by decide)] at H; exact H
    clear H
    have H := H1
    clear H1
    replace H := Option.bind_eq_some_iff.mp H
    obtain ⟨t171, A110, H⟩ := H
    replace H : (if 0 ≤ (wrap64 ((t171.length : Int) + 1)) then (if (wrap64 ((t171.length : Int) + 1) : Int).toNat ≤ 281474976710656 then ((some (List.replicate (wrap64 ((t171.length : Int) + 1) : Int).toNat false : List Bool)).bind fun y174 => (if 0 < (y174.length : Int) then ((strings_Split.f a0 (⟨#[46]⟩ : ByteArray)).bind fun t178 => (exchange_Matches.l0 kj2 t171 (y174.set (0 : Int).toNat true) t178 (t178.length : Int) 0)) else (none))) else (none)) else (none)) = some r := H
    have A11 := Aside0.mk A110
    clear A110
    obtain ⟨ji12, hji12⟩ : ∃ j_ : Int, (wrap64 ((t171.length : Int) + 1)) = j_ := ⟨_, rfl⟩
    replace H : (if 0 ≤ (ji12) then (if (ji12 : Int).toNat ≤ 281474976710656 then ((some (List.replicate (ji12 : Int).toNat false : List Bool)).bind fun y174 => (if 0 < (y174.length : Int) then ((strings_Split.f a0 (⟨#[46]⟩ : ByteArray)).bind fun t178 => (exchange_Matches.l0 kj2 t171 (y174.set (0 : Int).toNat true) t178 (t178.length : Int) 0)) else (none))) else (none)) else (none)) = some r := by first | (rw [hji12] at H; exact H) | (simp only [hji12] at H ⊢; exact H)
    (try rw [hji12] at A11)
    have hji12w : (IntKind.i64.wrap ((t171.length : Int) + 1)) = ji12 := (i64_w _).trans hji12
    by_cases c13 : 0 ≤ (ji12)
    ·rw [if_pos c13] at H
     have c13b0 := eq_true c13
     have c13b1 : decide (0 ≤ (ji12)) = true := decide_eq_true c13
     clear c13
     by_cases c14 : (ji12 : Int).toNat ≤ 281474976710656
     ·rw [if_pos c14] at H
      have c14b0 := eq_true c14
      have c14b1 : decide ((ji12 : Int).toNat ≤ 281474976710656) = true := decide_eq_true c14
      clear c14
      obtain ⟨y174, hy174⟩ : ∃ y_ : List Bool, y_ = (List.replicate (ji12 : Int).toNat false) := ⟨_, rfl⟩
      replace H : (if 0 < (y174.length : Int) then ((strings_Split.f a0 (⟨#[46]⟩ : ByteArray)).bind fun t178 => (exchange_Matches.l0 kj2 t171 (y174.set (0 : Int).toNat true) t178 (t178.length : Int) 0)) else (none)) = some r := by first | (rw [hy174]; with_reducible exact H) | (have H2_ := (Option.bind_some _ _).symm.trans H; rw [hy174]; with_reducible exact H2_) | (have H2_ := (Option.bind_some _ _).symm.trans H; with_reducible exact H2_) | with_reducible exact H | (rw [hy174]; exact H) | exact H
      have Ny174 := Aside0.mk hy174
      clear hy174
      by_cases c15 : 0 < (y174.length : Int)
      ·rw [if_pos c15] at H
       have c15b0 : decide (0 < (y174.length : Int)) = true := decide_eq_true c15
       have c15b1 : decide (0 < y174.length) = true := decide_eq_true (by omega)
       clear c15
       obtain ⟨y177, hy177⟩ : ∃ y_ : List Bool, y_ = (y174.set (0 : Int).toNat true) := ⟨_, rfl⟩
       replace H : ((strings_Split.f a0 (⟨#[46]⟩ : ByteArray)).bind fun t178 => (exchange_Matches.l0 kj2 t171 y177 t178 (t178.length : Int) 0)) = some r := by first | (rw [hy177]; with_reducible exact H) | (have H2_ := (Option.bind_some _ _).symm.trans H; rw [hy177]; with_reducible exact H2_) | (have H2_ := (Option.bind_some _ _).symm.trans H; with_reducible exact H2_) | with_reducible exact H | (rw [hy177]; exact H) | exact H
       have Ny177 := Aside0.mk hy177
       clear hy177
       replace H := Option.bind_eq_some_iff.mp H
       obtain ⟨t178, A170, H⟩ := H
       replace H : (exchange_Matches.l0 kj2 t171 y177 t178 (t178.length : Int) 0) = some r := H
       have A17 := Aside0.mk A170
       clear A170
       have H' := Aside0.mk H
       clear H
       go_wp2_with (first | ((with_reducible refine gate_callee (f := 19) rfl ?_); refine goesL_ (some 20) rfl rfl Tryz.func19 (by kernel_rfl) rfl #[.string a1, .string (⟨#[46]⟩ : ByteArray)] rfl (by (try simp only [List.map_toArray, List.map_cons, List.map_nil]); first | done | rfl | (simp only [List.length_drop, List.length_take]; rfl)) ?_; (with_reducible refine (strings_Split.calls a1 (⟨#[46]⟩ : ByteArray) t171 _ A11.out).mono ?_); rintro e w18 ⟨v172, rfl, ho0, hb⟩; refine ⟨_, rfl, ?_⟩; have n0_ := Aside0.mk (Kd.R_lower ho0 (below_size (by repeat (first | (with_reducible first | exact HB.out | apply below_alloc | apply pw_below_drewN | apply below_drew1) | exact HB.out)))); have n1_ := Aside0.mk (below_step (by repeat (first | (with_reducible first | exact HB.out | apply below_alloc | apply pw_below_drewN | apply below_drew1) | exact HB.out)) hb); clear HB; have HO173 := n0_; have HB := n1_; clear n0_ n1_; (try clear hb); (try clear hb2); (try clear hk); (try clear hi); (try clear ho0); obtain ⟨Ao19, co19, eo19⟩ := Kd.R_slice HO173.out; subst eo19) | ((with_reducible refine gate_dst (N := 24) rfl ?_); refine Kd.R_make Kd.bool _ 4 rfl (N := 24) rfl 59 _ _ rfl ji12 rfl rfl Tryz.underlying59 (.bool false) 1 info4 rfl (by decide) (by omega) false (ok := fun _ => True) (okp := fun _ => True) rfl (fun _ hk => hk) trivial (of_decide_eq_true (by first | (with_reducible assumption) | assumption)) (Nat.le_trans (Nat.mul_le_mul_right _ (of_decide_eq_true (by first | (with_reducible assumption) | assumption) : ji12.toNat ≤ 281474976710656)) (by omega)) (Below.refl _ _) (Nat.le_refl _) ?_; intro v175 w20 ho21 hb hg_ hnew_; clear hg_ hnew_; (first | rw [← Ny174.out] at ho21 | (simp only [Int.reduceToNat] at ho21; rw [← Ny174.out] at ho21)); have n0_ := Aside0.mk (Kd.R_below (by (with_reducible repeat (first | apply Kd.R_alloc | apply Kd.R_drewN | apply Kd.R_drew)); exact HO173.out) hb); have n1_ := Aside0.mk (Kd.R_lower ho21 (below_size (by repeat (first | (with_reducible first | exact HB.out | apply below_alloc | apply pw_below_drewN | apply below_drew1) | exact HB.out)))); have n2_ := Aside0.mk (below_step (by repeat (first | (with_reducible first | exact HB.out | apply below_alloc | apply pw_below_drewN | apply below_drew1) | exact HB.out)) hb); clear HO173; clear HB; have HO173 := n0_; have HO176 := n1_; have HB := n2_; clear n0_ n1_ n2_; clear hb ho21; have p16 : 0 ≤ (0 : Int) := (by omega); have q16 : (0 : Int) < ((y174.length : Int) : Int) := of_decide_eq_true (by first | (with_reducible assumption) | assumption); have qi16 : (0 < y174.length) = True := eq_true (by omega); obtain ⟨go16, co16, eo16, gb16, gl16, cl16, HG16⟩ := Kd.R_form HO176.out (by omega); (first | cases eo16 | (injection eo16 with ea_ en_ ec_; (first | subst ea_ | (injection ea_ with ea_; subst ea_)); subst ec_; clear en_)); have GB16 := Aside0.mk gb16; have GG16 := Aside0.mk HG16; clear gb16 gl16 HG16; obtain ⟨hx16_0, hf16_0⟩ := Kd.R_celln false HO176.out (0 : Int) p16 q16; (try rw [show ((0 : Int)).toNat = 0 from rfl] at hx16_0); (try simp only [Nat.reduceMul, Nat.zero_mul, Nat.zero_add, Nat.reduceAdd] at hx16_0); (try rw [show ((0 : Int)).toNat = 0 from rfl] at hf16_0); (try simp only [Nat.reduceMul, Nat.zero_mul, Nat.zero_add, Nat.reduceAdd] at hf16_0); replace p16 := eq_true p16; replace q16 := eq_true q16; obtain ⟨hy22_, hz22_⟩ := Kd.R_celln false HO176.out (0 : Int) (by omega) (of_decide_eq_true (by first | (with_reducible assumption) | assumption)); (try simp only [Int.reduceToNat, Int.toNat_zero, Int.toNat_ofNat, Nat.reduceMul, Nat.zero_mul, Nat.zero_add] at hy22_ hz22_); (try rw [show ((0 : Int)).toNat = 0 from rfl] at hy22_); (try rw [show ((0 : Int)).toNat = 0 from rfl] at hz22_); have HP22 := Kd.R_putg HO176.out (0 : Int) true) | ((with_reducible refine gate_store (t := 4) (p := 26) rfl ?_); refine store_event (t := 4) (p := 26) (v := ?vo_w23) (w1 := (w20.setCell ⟨go16, (0 : Int).toNat, none⟩ (.bool true))) ?hg ?ho ?hn ?hr ?_; (case ho => rfl); (case hg => rfl); (case hn => rfl); (case hr => first | (go_simp; done) | (go_simp; rfl)); intro w23 hw; have hg : w20.grownBy w23 (some go16) := (by rw [hw]; exact HP22.2); have hp_ : Kd.R Kd.bool 4 w23 w.heap.size (fun _ => True) (.slice (some ⟨go16, 0, none⟩) y174.length co16) y177 := (by rw [hw, Ny177.out]; exact HP22.1); clear HP22; have n0_ := Aside0.mk (Kd.R_over' (v := (.slice (some ⟨go16, 0, none⟩) y174.length co16)) (by (with_reducible repeat (first | apply Kd.R_alloc | apply Kd.R_drewN | apply Kd.R_drew)); exact HO173.out) (Kd.R_typed HO176.out) (by decide) hg); have n1_ := Aside0.mk (hp_); have n2_ := Aside0.mk ((by rw [hw]; exact below_set (HB.out) GB16.out : Below w.heap.size w w23)); clear HO173; clear HO176; clear HB; have HO173 := n0_; have HO176 := n1_; have HB := n2_; clear n0_ n1_ n2_; clear hg hw hp_) | ((with_reducible refine gate_callee (f := 19) rfl ?_); refine goesL_ (some 28) rfl rfl Tryz.func19 (by kernel_rfl) rfl #[.string a0, .string (⟨#[46]⟩ : ByteArray)] rfl (by (try simp only [List.map_toArray, List.map_cons, List.map_nil]); first | done | rfl | (simp only [List.length_drop, List.length_take]; rfl)) ?_; (with_reducible refine (strings_Split.calls a0 (⟨#[46]⟩ : ByteArray) t178 _ A17.out).mono ?_); rintro e w24 ⟨v179, rfl, ho0, hb⟩; refine ⟨_, rfl, ?_⟩; have n0_ := Aside0.mk (Kd.R_elder' (by (with_reducible repeat (first | apply Kd.R_alloc | apply Kd.R_drewN | apply Kd.R_drew)); exact HO173.out) (Kd.R_base ho0) hb); have n1_ := Aside0.mk (Kd.R_below (by (with_reducible repeat (first | apply Kd.R_alloc | apply Kd.R_drewN | apply Kd.R_drew)); exact HO176.out) hb); have n2_ := Aside0.mk (Kd.R_lower (Kd.R_new' ho0 (Kd.R_lt (by (with_reducible repeat (first | apply Kd.R_alloc | apply Kd.R_drewN | apply Kd.R_drew)); exact HO173.out))) (below_size (by repeat (first | (with_reducible first | exact HB.out | apply below_alloc | apply pw_below_drewN | apply below_drew1) | exact HB.out)))); have n3_ := Aside0.mk (below_step (by repeat (first | (with_reducible first | exact HB.out | apply below_alloc | apply pw_below_drewN | apply below_drew1) | exact HB.out)) hb); clear HO173; clear HO176; clear HB; have HO173 := n0_; have HO176 := n1_; have HO180 := n2_; have HB := n3_; clear n0_ n1_ n2_ n3_; (try clear hb); (try clear hb2); (try clear hk); (try clear hi); (try clear ho0); obtain ⟨Ao25, co25, eo25⟩ := Kd.R_slice HO180.out; subst eo25))
       go_loopg [6, 30] kj2 (fun kq v6 v30 w' => ∃ (x6_2 : List Bool) (x30_2 : Int), v30 = .int .i64 x30_2 ∧ Aside0 (exchange_Matches.l0 kq t171 x6_2 t178 (t178.length : Int) x30_2 = some r) ∧ Aside0 (kq ≤ kj2) ∧ Aside0 (Kd.R Kd.string 9 w' w.heap.size (fun k_ => some k_ ≠ ((.slice Ao25 t178.length co25) : Value).ownBlock) (.slice Ao19 t171.length co19) t171) ∧ Aside0 (Kd.R Kd.bool 4 w' w.heap.size (fun _ => True) v6 x6_2) ∧ Aside0 (Kd.R Kd.string 9 w' w.heap.size (fun k_ => some k_ ≠ ((.slice Ao19 t171.length co19) : Value).ownBlock) (.slice Ao25 t178.length co25) t178) ∧ Aside0 (Below w.heap.size w w'))
       case atStart => exact ⟨(y177), (0), (by first | rfl | (simp; done) | (simp [*]; done)), H', ⟨Nat.le_refl _⟩, ⟨by (with_reducible repeat (first | apply Kd.R_alloc | apply Kd.R_drewN | apply Kd.R_drew)); exact Kd.R_mono HO173.out (fun _ hk => hk.2)⟩, ⟨by (with_reducible repeat (first | apply Kd.R_alloc | apply Kd.R_drewN | apply Kd.R_drew)); exact HO176.out⟩, ⟨by (with_reducible repeat (first | apply Kd.R_alloc | apply Kd.R_drewN | apply Kd.R_drew)); exact Kd.R_mono HO180.out (fun _ hk => hk.2)⟩, ⟨by repeat (first | (with_reducible first | exact HB.out | apply below_alloc | apply pw_below_drewN | apply below_drew1) | exact HB.out)⟩⟩
       case round =>
        clear H'
        try clear c1
        try clear p1
        try clear q1
        try clear hx1
        try clear qi1
        try clear c2
        try clear p2
        try clear c5
        try clear c5b0
        try clear c5b1
        try clear p6
        try clear c10
        try clear c12
        try clear c13
        try clear c13b0
        try clear c13b1
        try clear c14
        try clear c14b0
        try clear c14b1
        try clear c15
        try clear c15b0
        try clear c15b1
        try clear p16
        try clear q16
        try clear hx16
        try clear qi16
        try clear hf16
        try clear c19
        try clear hx16_0
        try clear p16
        try clear p2
        try clear q16
        obtain ⟨x6_2, x30_2, rfl, HA, HK2, HO_5, HO_6, HO_28, HB⟩ := hrel
        cases gk with
        | zero => exact absurd HA.out (by simp [exchange_Matches.l0])
        | succ k2 =>
         have H := HA.out
         clear HA
         simp only [exchange_Matches.l0] at H
         by_cases c26 : x30_2 < (t178.length : Int)
         ·rw [if_pos c26] at H
          have c26b0 : decide (x30_2 < (t178.length : Int)) = true := decide_eq_true c26
          clear c26
          by_cases c27 : 0 ≤ x30_2
          ·rw [if_pos c27] at H
           have c27b0 : decide (0 ≤ x30_2) = true := decide_eq_true c27
           clear c27
           by_cases c28 : x30_2 < (t178.length : Int)
           ·rw [if_pos c28] at H
            have c28b0 : decide (x30_2 < (t178.length : Int)) = true := decide_eq_true c28
            clear c28
            by_cases c29 : 0 ≤ (x6_2.length : Int)
            ·rw [if_pos c29] at H
             have c29b0 := eq_true c29
             have c29b1 : decide (0 ≤ (x6_2.length : Int)) = true := decide_eq_true c29
             clear c29
             by_cases c30 : ((x6_2.length : Int) : Int).toNat ≤ 281474976710656
             ·rw [if_pos c30] at H
              have c30b0 := eq_true c30
              have c30b1 : decide (((x6_2.length : Int) : Int).toNat ≤ 281474976710656) = true := decide_eq_true c30
              clear c30
              obtain ⟨y183, hy183⟩ : ∃ y_ : List Bool, y_ = (List.replicate ((x6_2.length : Int) : Int).toNat false) := ⟨_, rfl⟩
              replace H : (exchange_Matches.l1 k2 t171 x6_2 (rdOf ByteArray.empty t178 x30_2) y183 t178 (t178.length : Int) x30_2 (x6_2.length : Int) 0) = some r := by first | (rw [hy183]; with_reducible exact H) | (have H2_ := (Option.bind_some _ _).symm.trans H; rw [hy183]; with_reducible exact H2_) | (have H2_ := (Option.bind_some _ _).symm.trans H; with_reducible exact H2_) | with_reducible exact H | (rw [hy183]; exact H) | exact H
              have Ny183 := Aside0.mk hy183
              clear hy183
              have H' := Aside0.mk H
              clear H
              have p182 : 0 ≤ (x30_2 : Int) := of_decide_eq_true (by first | (with_reducible assumption) | assumption)
              have q182 : x30_2 < (t178.length : Int) := of_decide_eq_true (by first | (with_reducible assumption) | assumption)
              obtain ⟨ad182, e182, hx182_0⟩ := Kd.at_string (Kd.R_reads' HO_28.out).2.2 x30_2 p182 q182
              cases e182
              replace p182 := eq_true p182
              replace q182 := eq_true q182
              obtain ⟨Ao31, co31, eo31⟩ := Kd.R_slice HO_6.out
              subst eo31
              go_wp2_with (first | ((with_reducible refine gate_dst (N := 36) rfl ?_); refine Kd.R_make Kd.bool _ 4 rfl (N := 36) rfl 59 _ _ rfl (x6_2.length : Int) rfl rfl Tryz.underlying59 (.bool false) 1 info4 rfl (by decide) (by omega) false (ok := fun _ => True) (okp := fun _ => True) rfl (fun _ hk => hk) trivial (of_decide_eq_true (by first | (with_reducible assumption) | assumption)) (Nat.le_trans (Nat.mul_le_mul_right _ (of_decide_eq_true (by first | (with_reducible assumption) | assumption) : (x6_2.length : Int).toNat ≤ 281474976710656)) (by omega)) (Below.refl _ _) (Nat.le_refl _) ?_; intro v184 w32 ho33 hb hg_ hnew_; clear hg_ hnew_; (first | rw [← Ny183.out] at ho33 | (simp only [Int.reduceToNat] at ho33; rw [← Ny183.out] at ho33)); have n0_ := Aside0.mk (Kd.R_below (by (with_reducible repeat (first | apply Kd.R_alloc | apply Kd.R_drewN | apply Kd.R_drew)); exact HO_5.out) hb); have n1_ := Aside0.mk (Kd.R_elder' (by (with_reducible repeat (first | apply Kd.R_alloc | apply Kd.R_drewN | apply Kd.R_drew)); exact HO_6.out) (Kd.R_base ho33) hb); have n2_ := Aside0.mk (Kd.R_below (by (with_reducible repeat (first | apply Kd.R_alloc | apply Kd.R_drewN | apply Kd.R_drew)); exact HO_28.out) hb); have n3_ := Aside0.mk (Kd.R_lower (Kd.R_new' ho33 (Kd.R_lt (by (with_reducible repeat (first | apply Kd.R_alloc | apply Kd.R_drewN | apply Kd.R_drew)); exact HO_6.out))) (below_size (by repeat (first | (with_reducible first | exact HB.out | apply below_alloc | apply pw_below_drewN | apply below_drew1) | exact HB.out)))); have n4_ := Aside0.mk (below_step (by repeat (first | (with_reducible first | exact HB.out | apply below_alloc | apply pw_below_drewN | apply below_drew1) | exact HB.out)) hb); clear HO_5; clear HO_6; clear HO_28; clear HB; have HO_5 := n0_; have HO_6 := n1_; have HO_28 := n2_; have HO185 := n3_; have HB := n4_; clear n0_ n1_ n2_ n3_ n4_; clear hb ho33))
              go_loopg [39] k2 (fun kq v39 w' => ∃ (x9_3 : List Bool) (x39_3 : Int), v39 = .int .i64 x39_3 ∧ Aside0 (exchange_Matches.l1 kq t171 x6_2 (rdOf ByteArray.empty t178 x30_2) x9_3 t178 (t178.length : Int) x30_2 (x6_2.length : Int) x39_3 = some r) ∧ Aside0 (kq ≤ k2) ∧ Aside0 (Kd.R Kd.string 9 w' w.heap.size (fun k_ => some k_ ≠ ((.slice (some ad182) t178.length co25) : Value).ownBlock) (.slice Ao19 t171.length co19) t171) ∧ Aside0 (Kd.R Kd.bool 4 w' w.heap.size (fun k_ => some k_ ≠ (v184 : Value).ownBlock) (.slice Ao31 x6_2.length co31) x6_2) ∧ Aside0 (Kd.R Kd.bool 4 w' w.heap.size (fun k_ => some k_ ≠ ((.slice Ao31 x6_2.length co31) : Value).ownBlock) v184 x9_3) ∧ Aside0 (Kd.R Kd.string 9 w' w.heap.size (fun k_ => some k_ ≠ ((.slice Ao19 t171.length co19) : Value).ownBlock) (.slice (some ad182) t178.length co25) t178) ∧ Aside0 (Below w.heap.size w w'))
              case atStart => exact ⟨(y183), (0), (by first | rfl | (simp; done) | (simp [*]; done)), H', ⟨Nat.le_refl _⟩, ⟨by (with_reducible repeat (first | apply Kd.R_alloc | apply Kd.R_drewN | apply Kd.R_drew)); exact HO_5.out⟩, ⟨by (with_reducible repeat (first | apply Kd.R_alloc | apply Kd.R_drewN | apply Kd.R_drew)); exact Kd.R_mono HO_6.out (fun _ hk => hk.2)⟩, ⟨by (with_reducible repeat (first | apply Kd.R_alloc | apply Kd.R_drewN | apply Kd.R_drew)); exact Kd.R_mono HO185.out (fun _ hk => hk.2)⟩, ⟨by (with_reducible repeat (first | apply Kd.R_alloc | apply Kd.R_drewN | apply Kd.R_drew)); exact HO_28.out⟩, ⟨by repeat (first | (with_reducible first | exact HB.out | apply below_alloc | apply pw_below_drewN | apply below_drew1) | exact HB.out)⟩⟩
              case round =>
               clear H'
               try clear c1
               try clear p1
               try clear q1
               try clear hx1
               try clear qi1
               try clear c2
               try clear p2
               try clear c3
               try clear c5
               try clear c5b0
               try clear c5b1
               try clear p6
               try clear c10
               try clear c12
               try clear c13
               try clear c13b0
               try clear c13b1
               try clear c14
               try clear c14b0
               try clear c14b1
               try clear c15
               try clear c15b0
               try clear c15b1
               try clear p16
               try clear q16
               try clear hx16
               try clear qi16
               try clear hf16
               try clear p18
               try clear q18
               try clear hx18
               try clear c19
               try clear c26
               try clear c26b0
               try clear c27
               try clear c27b0
               try clear c28
               try clear c28b0
               try clear c29
               try clear c29b0
               try clear c29b1
               try clear c30
               try clear c30b0
               try clear c30b1
               try clear hx16_0
               try clear hx182_0
               try clear p1
               try clear p16
               try clear p182
               try clear p2
               try clear p6
               try clear q1
               try clear q16
               try clear q182
               obtain ⟨x9_3, x39_3, rfl, HA, HK3, HO_5, HO_6, HO_9, HO_28, HB⟩ := hrel
               cases gk with
               | zero => exact absurd HA.out (by simp [exchange_Matches.l1])
               | succ k3 =>
                have H := HA.out
                clear HA
                simp only [exchange_Matches.l1] at H
                by_cases c34 : x39_3 < (x6_2.length : Int)
                ·rw [if_pos c34] at H
                 have c34b0 : decide (x39_3 < (x6_2.length : Int)) = true := decide_eq_true c34
                 clear c34
                 by_cases c35 : (rdOf ByteArray.empty t178 x30_2).toList = ([35] : List UInt8)
                 ·rw [if_pos c35] at H
                  have c35b0 : ((rdOf ByteArray.empty t178 x30_2).toList == ([35] : List UInt8)) = true := beq_iff_eq.mpr c35
                  have c35b1 : ((rdOf ByteArray.empty t178 x30_2).toList != ([35] : List UInt8)) = false := bne_eq_false_iff_eq.mpr c35
                  clear c35
                  by_cases c36 : 0 ≤ x39_3
                  ·rw [if_pos c36] at H
                   have c36b0 : decide (0 ≤ x39_3) = true := decide_eq_true c36
                   clear c36
                   by_cases c37 : x39_3 < (x6_2.length : Int)
                   ·rw [if_pos c37] at H
                    have c37b0 : decide (x39_3 < (x6_2.length : Int)) = true := decide_eq_true c37
                    clear c37
                    obtain ⟨bq38, hbq38⟩ : ∃ b_ : Bool, b_ = (rdOf false x6_2 x39_3) := ⟨_, rfl⟩
                    replace H : (if bq38 = true then (if x39_3 < (x9_3.length : Int) then (exchange_Matches.l1 k3 t171 x6_2 (rdOf ByteArray.empty t178 x30_2) (x9_3.set (x39_3 : Int).toNat true) t178 (t178.length : Int) x30_2 (x6_2.length : Int) (wrap64 (x39_3 + 1))) else (none)) else (if x39_3 > 0 then (if 0 ≤ (wrap64 (x39_3 - 1)) then (if (wrap64 (x39_3 - 1)) < (x9_3.length : Int) then (if x39_3 < (x9_3.length : Int) then (exchange_Matches.l1 k3 t171 x6_2 (rdOf ByteArray.empty t178 x30_2) (x9_3.set (x39_3 : Int).toNat (rdOf false x9_3 (wrap64 (x39_3 - 1)))) t178 (t178.length : Int) x30_2 (x6_2.length : Int) (wrap64 (x39_3 + 1))) else (none)) else (none)) else (none)) else (if x39_3 < (x9_3.length : Int) then (exchange_Matches.l1 k3 t171 x6_2 (rdOf ByteArray.empty t178 x30_2) (x9_3.set (x39_3 : Int).toNat false) t178 (t178.length : Int) x30_2 (x6_2.length : Int) (wrap64 (x39_3 + 1))) else (none)))) = some r := by rw [← hbq38] at H; exact H
                    have Nbq38 := Aside0.mk hbq38
                    clear hbq38
                    by_cases c39 : bq38 = true
                    ·subst c39
                     have H1 : (if x39_3 < (x9_3.length : Int) then (exchange_Matches.l1 k3 t171 x6_2 (rdOf ByteArray.empty t178 x30_2) (x9_3.set (x39_3 : Int).toNat true) t178 (t178.length : Int) x30_2 (x6_2.length : Int) (wrap64 (x39_3 + 1))) else (none)) = some r := by rw [if_pos rfl] at H; exact H
                     clear H
                     have H := H1
                     clear H1
                     by_cases c40 : x39_3 < (x9_3.length : Int)
                     ·rw [if_pos c40] at H
                      have c40b0 : decide (x39_3 < (x9_3.length : Int)) = true := decide_eq_true c40
                      clear c40
                      obtain ⟨y187, hy187⟩ : ∃ y_ : List Bool, y_ = (x9_3.set (x39_3 : Int).toNat true) := ⟨_, rfl⟩
                      replace H : (exchange_Matches.l1 k3 t171 x6_2 (rdOf ByteArray.empty t178 x30_2) y187 t178 (t178.length : Int) x30_2 (x6_2.length : Int) (wrap64 (x39_3 + 1))) = some r := by first | (rw [hy187]; with_reducible exact H) | (have H2_ := (Option.bind_some _ _).symm.trans H; rw [hy187]; with_reducible exact H2_) | (have H2_ := (Option.bind_some _ _).symm.trans H; with_reducible exact H2_) | with_reducible exact H | (rw [hy187]; exact H) | exact H
                      have Ny187 := Aside0.mk hy187
                      clear hy187
                      have H' := Aside0.mk H
                      clear H
                      have p186 : 0 ≤ (x39_3 : Int) := of_decide_eq_true (by first | (with_reducible assumption) | assumption)
                      have q186 : x39_3 < (x6_2.length : Int) := of_decide_eq_true (by first | (with_reducible assumption) | assumption)
                      obtain ⟨ad186, e186, hx186_0⟩ := Kd.at_bool (Kd.R_reads' HO_6.out).2.2 x39_3 p186 q186
                      (try rw [← Nbq38.out] at hx186_0); (try rw [← Nbq38.out] at hw186_0)
                      cases e186
                      replace p186 := eq_true p186
                      replace q186 := eq_true q186
                      have p41 : 0 ≤ (x39_3 : Int) := of_decide_eq_true (by first | (with_reducible assumption) | assumption)
                      have q41 : (x39_3 : Int) < ((x9_3.length : Int) : Int) := of_decide_eq_true (by first | (with_reducible assumption) | assumption)
                      obtain ⟨go41, co41, eo41, gb41, gl41, cl41, HG41⟩ := Kd.R_form HO_9.out (by omega)
                      (first | cases eo41 | (injection eo41 with ea_ en_ ec_; (first | subst ea_ | (injection ea_ with ea_; subst ea_)); subst ec_; clear en_))
                      have GB41 := Aside0.mk gb41
                      have GG41 := Aside0.mk HG41
                      clear gb41 gl41 HG41
                      obtain ⟨hx41_0, hf41_0⟩ := Kd.R_celln false HO_9.out (x39_3 : Int) p41 q41
                      replace p41 := eq_true p41
                      replace q41 := eq_true q41
                      have HP42 := Kd.R_putg HO_9.out (x39_3 : Int) true
                      go_wp2_with (first | ((with_reducible refine gate_store (t := 4) (p := 62) rfl ?_); refine store_event (t := 4) (p := 62) (v := ?vo_w43) (w1 := (wr.setCell ⟨go41, (x39_3 : Int).toNat, none⟩ (.bool true))) ?hg ?ho ?hn ?hr ?_; (case ho => rfl); (case hg => rfl); (case hn => rfl); (case hr => first | (go_simp; done) | (go_simp; rfl)); intro w43 hw; have hg : wr.grownBy w43 (some go41) := (by rw [hw]; exact HP42.2); have hp_ : Kd.R Kd.bool 4 w43 w.heap.size (fun k_ => some k_ ≠ (.slice (some ad186) x6_2.length co31 : Value).ownBlock) (.slice (some ⟨go41, 0, none⟩) x9_3.length co41) y187 := (by rw [hw, Ny187.out]; exact HP42.1); clear HP42; have n0_ := Aside0.mk (Kd.R_over' (v := (.slice (some ⟨go41, 0, none⟩) x9_3.length co41)) (by (with_reducible repeat (first | apply Kd.R_alloc | apply Kd.R_drewN | apply Kd.R_drew)); exact HO_5.out) (Kd.R_typed HO_9.out) (by decide) hg); have n1_ := Aside0.mk (Kd.R_after (v := (.slice (some ⟨go41, 0, none⟩) x9_3.length co41)) (v1 := (.slice (some ⟨go41, 0, none⟩) x9_3.length co41)) (ok := (fun _ => True)) (by (with_reducible repeat (first | apply Kd.R_alloc | apply Kd.R_drewN | apply Kd.R_drew)); exact Kd.R_mono HO_6.out (fun _ hk => ⟨trivial, hk⟩)) hg (.inl rfl)); have n2_ := Aside0.mk (hp_); have n3_ := Aside0.mk (Kd.R_over' (v := (.slice (some ⟨go41, 0, none⟩) x9_3.length co41)) (by (with_reducible repeat (first | apply Kd.R_alloc | apply Kd.R_drewN | apply Kd.R_drew)); exact HO_28.out) (Kd.R_typed HO_9.out) (by decide) hg); have n4_ := Aside0.mk ((by rw [hw]; exact below_set (HB.out) GB41.out : Below w.heap.size w w43)); clear HO_5; clear HO_6; clear HO_9; clear HO_28; clear HB; have HO_5 := n0_; have HO_6 := n1_; have HO_9 := n2_; have HO_28 := n3_; have HB := n4_; clear n0_ n1_ n2_ n3_ n4_; clear hg hw hp_))
                      go_roundg k3
                      case measure => have := HJ2.out; have := HK2.out; have := HK3.out; omega
                      case rel => exact ⟨(y187), (wrap64 (x39_3 + 1)), (by first | rfl | (simp; done) | (simp [*]; done)), H', ⟨by have := HJ2.out; have := HK2.out; have := HK3.out; omega⟩, ⟨by (with_reducible repeat (first | apply Kd.R_alloc | apply Kd.R_drewN | apply Kd.R_drew)); exact HO_5.out⟩, ⟨by (with_reducible repeat (first | apply Kd.R_alloc | apply Kd.R_drewN | apply Kd.R_drew)); exact Kd.R_mono HO_6.out (fun _ hk => hk.2)⟩, ⟨by (with_reducible repeat (first | apply Kd.R_alloc | apply Kd.R_drewN | apply Kd.R_drew)); exact HO_9.out⟩, ⟨by (with_reducible repeat (first | apply Kd.R_alloc | apply Kd.R_drewN | apply Kd.R_drew)); exact HO_28.out⟩, ⟨by repeat (first | (with_reducible first | exact HB.out | apply below_alloc | apply pw_below_drewN | apply below_drew1) | exact HB.out)⟩⟩
                     ·rw [if_neg c40] at H
                      exact absurd H (by simp)
                    ·replace c39 := Bool.eq_false_iff.mpr c39
                     subst c39
                     have H1 : (if x39_3 > 0 then (if 0 ≤ (wrap64 (x39_3 - 1)) then (if (wrap64 (x39_3 - 1)) < (x9_3.length : Int) then (if x39_3 < (x9_3.length : Int) then (exchange_Matches.l1 k3 t171 x6_2 (rdOf ByteArray.empty t178 x30_2) (x9_3.set (x39_3 : Int).toNat (rdOf false x9_3 (wrap64 (x39_3 - 1)))) t178 (t178.length : Int) x30_2 (x6_2.length : Int) (wrap64 (x39_3 + 1))) else (none)) else (none)) else (none)) else (if x39_3 < (x9_3.length : Int) then (exchange_Matches.l1 k3 t171 x6_2 (rdOf ByteArray.empty t178 x30_2) (x9_3.set (x39_3 : Int).toNat false) t178 (t178.length : Int) x30_2 (x6_2.length : Int) (wrap64 (x39_3 + 1))) else (none))) = some r := by rw [if_neg (show ¬ (false = true) by decide)] at H; exact H
                     clear H
                     have H := H1
                     clear H1
                     by_cases c44 : x39_3 > 0
                     ·rw [if_pos c44] at H
                      have c44b0 : decide (0 < x39_3) = true := decide_eq_true c44
                      clear c44
                      obtain ⟨ji45, hji45⟩ : ∃ j_ : Int, (wrap64 (x39_3 - 1)) = j_ := ⟨_, rfl⟩
                      replace H : (if 0 ≤ (ji45) then (if (ji45) < (x9_3.length : Int) then (if x39_3 < (x9_3.length : Int) then (exchange_Matches.l1 k3 t171 x6_2 (rdOf ByteArray.empty t178 x30_2) (x9_3.set (x39_3 : Int).toNat (rdOf false x9_3 (ji45))) t178 (t178.length : Int) x30_2 (x6_2.length : Int) (wrap64 (x39_3 + 1))) else (none)) else (none)) else (none)) = some r := by first | (rw [hji45] at H; exact H) | (simp only [hji45] at H ⊢; exact H)
                      have hji45w : (IntKind.i64.wrap (x39_3 - 1)) = ji45 := (i64_w _).trans hji45
                      by_cases c46 : 0 ≤ (ji45)
                      ·rw [if_pos c46] at H
                       have c46b0 : decide (0 ≤ (ji45)) = true := decide_eq_true c46
                       clear c46
                       by_cases c47 : (ji45) < (x9_3.length : Int)
                       ·rw [if_pos c47] at H
                        have c47b0 : decide ((ji45) < (x9_3.length : Int)) = true := decide_eq_true c47
                        clear c47
                        by_cases c48 : x39_3 < (x9_3.length : Int)
                        ·rw [if_pos c48] at H
                         have c48b0 : decide (x39_3 < (x9_3.length : Int)) = true := decide_eq_true c48
                         clear c48
                         obtain ⟨y189, hy189⟩ : ∃ y_ : List Bool, y_ = (x9_3.set (x39_3 : Int).toNat (rdOf false x9_3 (ji45))) := ⟨_, rfl⟩
                         replace H : (exchange_Matches.l1 k3 t171 x6_2 (rdOf ByteArray.empty t178 x30_2) y189 t178 (t178.length : Int) x30_2 (x6_2.length : Int) (wrap64 (x39_3 + 1))) = some r := by first | (rw [hy189]; with_reducible exact H) | (have H2_ := (Option.bind_some _ _).symm.trans H; rw [hy189]; with_reducible exact H2_) | (have H2_ := (Option.bind_some _ _).symm.trans H; with_reducible exact H2_) | with_reducible exact H | (rw [hy189]; exact H) | exact H
                         have Ny189 := Aside0.mk hy189
                         clear hy189
                         have H' := Aside0.mk H
                         clear H
                         have p186 : 0 ≤ (x39_3 : Int) := of_decide_eq_true (by first | (with_reducible assumption) | assumption)
                         have q186 : x39_3 < (x6_2.length : Int) := of_decide_eq_true (by first | (with_reducible assumption) | assumption)
                         obtain ⟨ad186, e186, hx186_0⟩ := Kd.at_bool (Kd.R_reads' HO_6.out).2.2 x39_3 p186 q186
                         (try rw [← Nbq38.out] at hx186_0); (try rw [← Nbq38.out] at hw186_0)
                         cases e186
                         replace p186 := eq_true p186
                         replace q186 := eq_true q186
                         obtain ⟨Ao50, co50, eo50⟩ := Kd.R_slice HO_9.out
                         subst eo50
                         have p188 : 0 ≤ ((ji45) : Int) := of_decide_eq_true (by first | (with_reducible assumption) | assumption)
                         have q188 : (ji45) < (x9_3.length : Int) := of_decide_eq_true (by first | (with_reducible assumption) | assumption)
                         obtain ⟨ad188, e188, hx188_0⟩ := Kd.at_bool (Kd.R_reads' HO_9.out).2.2 (ji45) p188 q188
                         (try rw [← Nbq38.out] at hx188_0); (try rw [← Nbq38.out] at hw188_0)
                         cases e188
                         replace p188 := eq_true p188
                         replace q188 := eq_true q188
                         have p49 : 0 ≤ (x39_3 : Int) := of_decide_eq_true (by first | (with_reducible assumption) | assumption)
                         have q49 : (x39_3 : Int) < ((x9_3.length : Int) : Int) := of_decide_eq_true (by first | (with_reducible assumption) | assumption)
                         obtain ⟨go49, co49, eo49, gb49, gl49, cl49, HG49⟩ := Kd.R_form HO_9.out (by omega)
                         (first | cases eo49 | (injection eo49 with ea_ en_ ec_; (first | subst ea_ | (injection ea_ with ea_; subst ea_)); subst ec_; clear en_))
                         have GB49 := Aside0.mk gb49
                         have GG49 := Aside0.mk HG49
                         clear gb49 gl49 HG49
                         (first | simp only [add_plain] at hx188_0 | skip)
                         obtain ⟨hx49_0, hf49_0⟩ := Kd.R_celln false HO_9.out (x39_3 : Int) p49 q49
                         replace p49 := eq_true p49
                         replace q49 := eq_true q49
                         have HP51 := Kd.R_putg HO_9.out (x39_3 : Int) (rdOf false x9_3 (ji45))
                         go_wp2_with (first | ((with_reducible refine gate_store (t := 4) (p := 62) rfl ?_); refine store_event (t := 4) (p := 62) (v := ?vo_w52) (w1 := (wr.setCell ⟨go49, (x39_3 : Int).toNat, none⟩ (.bool (rdOf false x9_3 (ji45))))) ?hg ?ho ?hn ?hr ?_; (case ho => rfl); (case hg => rfl); (case hn => rfl); (case hr => first | (go_simp; done) | (go_simp; rfl)); intro w52 hw; have hg : wr.grownBy w52 (some go49) := (by rw [hw]; exact HP51.2); have hp_ : Kd.R Kd.bool 4 w52 w.heap.size (fun k_ => some k_ ≠ (.slice (some ad186) x6_2.length co31 : Value).ownBlock) (.slice (some ⟨go49, 0, none⟩) x9_3.length co50) y189 := (by rw [hw, Ny189.out]; exact HP51.1); clear HP51; have n0_ := Aside0.mk (Kd.R_over' (v := (.slice (some ⟨go49, 0, none⟩) x9_3.length co50)) (by (with_reducible repeat (first | apply Kd.R_alloc | apply Kd.R_drewN | apply Kd.R_drew)); exact HO_5.out) (Kd.R_typed HO_9.out) (by decide) hg); have n1_ := Aside0.mk (Kd.R_after (v := (.slice (some ⟨go49, 0, none⟩) x9_3.length co50)) (v1 := (.slice (some ⟨go49, 0, none⟩) x9_3.length co50)) (ok := (fun _ => True)) (by (with_reducible repeat (first | apply Kd.R_alloc | apply Kd.R_drewN | apply Kd.R_drew)); exact Kd.R_mono HO_6.out (fun _ hk => ⟨trivial, hk⟩)) hg (.inl rfl)); have n2_ := Aside0.mk (hp_); have n3_ := Aside0.mk (Kd.R_over' (v := (.slice (some ⟨go49, 0, none⟩) x9_3.length co50)) (by (with_reducible repeat (first | apply Kd.R_alloc | apply Kd.R_drewN | apply Kd.R_drew)); exact HO_28.out) (Kd.R_typed HO_9.out) (by decide) hg); have n4_ := Aside0.mk ((by rw [hw]; exact below_set (HB.out) GB49.out : Below w.heap.size w w52)); clear HO_5; clear HO_6; clear HO_9; clear HO_28; clear HB; have HO_5 := n0_; have HO_6 := n1_; have HO_9 := n2_; have HO_28 := n3_; have HB := n4_; clear n0_ n1_ n2_ n3_ n4_; clear hg hw hp_))
                         go_roundg k3
                         case measure => have := HJ2.out; have := HK2.out; have := HK3.out; omega
                         case rel => exact ⟨(y189), (wrap64 (x39_3 + 1)), (by first | rfl | (simp; done) | (simp [*]; done)), H', ⟨by have := HJ2.out; have := HK2.out; have := HK3.out; omega⟩, ⟨by (with_reducible repeat (first | apply Kd.R_alloc | apply Kd.R_drewN | apply Kd.R_drew)); exact HO_5.out⟩, ⟨by (with_reducible repeat (first | apply Kd.R_alloc | apply Kd.R_drewN | apply Kd.R_drew)); exact Kd.R_mono HO_6.out (fun _ hk => hk.2)⟩, ⟨by (with_reducible repeat (first | apply Kd.R_alloc | apply Kd.R_drewN | apply Kd.R_drew)); exact HO_9.out⟩, ⟨by (with_reducible repeat (first | apply Kd.R_alloc | apply Kd.R_drewN | apply Kd.R_drew)); exact HO_28.out⟩, ⟨by repeat (first | (with_reducible first | exact HB.out | apply below_alloc | apply pw_below_drewN | apply below_drew1) | exact HB.out)⟩⟩
                        ·rw [if_neg c48] at H
                         exact absurd H (by simp)
                       ·rw [if_neg c47] at H
                        exact absurd H (by simp)
                      ·rw [if_neg c46] at H
                       exact absurd H (by simp)
                     ·rw [if_neg c44] at H
                      have c44b0 : decide (0 < x39_3) = false := decide_eq_false c44
                      clear c44
                      by_cases c53 : x39_3 < (x9_3.length : Int)
                      ·rw [if_pos c53] at H
                       have c53b0 : decide (x39_3 < (x9_3.length : Int)) = true := decide_eq_true c53
                       clear c53
                       obtain ⟨y190, hy190⟩ : ∃ y_ : List Bool, y_ = (x9_3.set (x39_3 : Int).toNat false) := ⟨_, rfl⟩
                       replace H : (exchange_Matches.l1 k3 t171 x6_2 (rdOf ByteArray.empty t178 x30_2) y190 t178 (t178.length : Int) x30_2 (x6_2.length : Int) (wrap64 (x39_3 + 1))) = some r := by first | (rw [hy190]; with_reducible exact H) | (have H2_ := (Option.bind_some _ _).symm.trans H; rw [hy190]; with_reducible exact H2_) | (have H2_ := (Option.bind_some _ _).symm.trans H; with_reducible exact H2_) | with_reducible exact H | (rw [hy190]; exact H) | exact H
                       have Ny190 := Aside0.mk hy190
                       clear hy190
                       have H' := Aside0.mk H
                       clear H
                       have p186 : 0 ≤ (x39_3 : Int) := of_decide_eq_true (by first | (with_reducible assumption) | assumption)
                       have q186 : x39_3 < (x6_2.length : Int) := of_decide_eq_true (by first | (with_reducible assumption) | assumption)
                       obtain ⟨ad186, e186, hx186_0⟩ := Kd.at_bool (Kd.R_reads' HO_6.out).2.2 x39_3 p186 q186
                       (try rw [← Nbq38.out] at hx186_0); (try rw [← Nbq38.out] at hw186_0)
                       cases e186
                       replace p186 := eq_true p186
                       replace q186 := eq_true q186
                       have p54 : 0 ≤ (x39_3 : Int) := of_decide_eq_true (by first | (with_reducible assumption) | assumption)
                       have q54 : (x39_3 : Int) < ((x9_3.length : Int) : Int) := of_decide_eq_true (by first | (with_reducible assumption) | assumption)
                       obtain ⟨go54, co54, eo54, gb54, gl54, cl54, HG54⟩ := Kd.R_form HO_9.out (by omega)
                       (first | cases eo54 | (injection eo54 with ea_ en_ ec_; (first | subst ea_ | (injection ea_ with ea_; subst ea_)); subst ec_; clear en_))
                       have GB54 := Aside0.mk gb54
                       have GG54 := Aside0.mk HG54
                       clear gb54 gl54 HG54
                       obtain ⟨hx54_0, hf54_0⟩ := Kd.R_celln false HO_9.out (x39_3 : Int) p54 q54
                       replace p54 := eq_true p54
                       replace q54 := eq_true q54
                       have HP55 := Kd.R_putg HO_9.out (x39_3 : Int) false
                       go_wp2_with (first | ((with_reducible refine gate_store (t := 4) (p := 62) rfl ?_); refine store_event (t := 4) (p := 62) (v := ?vo_w56) (w1 := (wr.setCell ⟨go54, (x39_3 : Int).toNat, none⟩ (.bool false))) ?hg ?ho ?hn ?hr ?_; (case ho => rfl); (case hg => rfl); (case hn => rfl); (case hr => first | (go_simp; done) | (go_simp; rfl)); intro w56 hw; have hg : wr.grownBy w56 (some go54) := (by rw [hw]; exact HP55.2); have hp_ : Kd.R Kd.bool 4 w56 w.heap.size (fun k_ => some k_ ≠ (.slice (some ad186) x6_2.length co31 : Value).ownBlock) (.slice (some ⟨go54, 0, none⟩) x9_3.length co54) y190 := (by rw [hw, Ny190.out]; exact HP55.1); clear HP55; have n0_ := Aside0.mk (Kd.R_over' (v := (.slice (some ⟨go54, 0, none⟩) x9_3.length co54)) (by (with_reducible repeat (first | apply Kd.R_alloc | apply Kd.R_drewN | apply Kd.R_drew)); exact HO_5.out) (Kd.R_typed HO_9.out) (by decide) hg); have n1_ := Aside0.mk (Kd.R_after (v := (.slice (some ⟨go54, 0, none⟩) x9_3.length co54)) (v1 := (.slice (some ⟨go54, 0, none⟩) x9_3.length co54)) (ok := (fun _ => True)) (by (with_reducible repeat (first | apply Kd.R_alloc | apply Kd.R_drewN | apply Kd.R_drew)); exact Kd.R_mono HO_6.out (fun _ hk => ⟨trivial, hk⟩)) hg (.inl rfl)); have n2_ := Aside0.mk (hp_); have n3_ := Aside0.mk (Kd.R_over' (v := (.slice (some ⟨go54, 0, none⟩) x9_3.length co54)) (by (with_reducible repeat (first | apply Kd.R_alloc | apply Kd.R_drewN | apply Kd.R_drew)); exact HO_28.out) (Kd.R_typed HO_9.out) (by decide) hg); have n4_ := Aside0.mk ((by rw [hw]; exact below_set (HB.out) GB54.out : Below w.heap.size w w56)); clear HO_5; clear HO_6; clear HO_9; clear HO_28; clear HB; have HO_5 := n0_; have HO_6 := n1_; have HO_9 := n2_; have HO_28 := n3_; have HB := n4_; clear n0_ n1_ n2_ n3_ n4_; clear hg hw hp_))
                       go_roundg k3
                       case measure => have := HJ2.out; have := HK2.out; have := HK3.out; omega
                       case rel => exact ⟨(y190), (wrap64 (x39_3 + 1)), (by first | rfl | (simp; done) | (simp [*]; done)), H', ⟨by have := HJ2.out; have := HK2.out; have := HK3.out; omega⟩, ⟨by (with_reducible repeat (first | apply Kd.R_alloc | apply Kd.R_drewN | apply Kd.R_drew)); exact HO_5.out⟩, ⟨by (with_reducible repeat (first | apply Kd.R_alloc | apply Kd.R_drewN | apply Kd.R_drew)); exact Kd.R_mono HO_6.out (fun _ hk => hk.2)⟩, ⟨by (with_reducible repeat (first | apply Kd.R_alloc | apply Kd.R_drewN | apply Kd.R_drew)); exact HO_9.out⟩, ⟨by (with_reducible repeat (first | apply Kd.R_alloc | apply Kd.R_drewN | apply Kd.R_drew)); exact HO_28.out⟩, ⟨by repeat (first | (with_reducible first | exact HB.out | apply below_alloc | apply pw_below_drewN | apply below_drew1) | exact HB.out)⟩⟩
                      ·rw [if_neg c53] at H
                       exact absurd H (by simp)
                   ·rw [if_neg c37] at H
                    exact absurd H (by simp)
                  ·rw [if_neg c36] at H
                   exact absurd H (by simp)
                 ·rw [if_neg c35] at H
                  have c35b0 : ((rdOf ByteArray.empty t178 x30_2).toList == ([35] : List UInt8)) = false := beq_eq_false_iff_ne.mpr c35
                  have c35b1 : ((rdOf ByteArray.empty t178 x30_2).toList != ([35] : List UInt8)) = true := bne_iff_ne.mpr c35
                  by_cases c57 : x39_3 > 0
                  ·rw [if_pos c57] at H
                   have c57b0 : decide (0 < x39_3) = true := decide_eq_true c57
                   clear c57
                   obtain ⟨ji58, hji58⟩ : ∃ j_ : Int, (wrap64 (x39_3 - 1)) = j_ := ⟨_, rfl⟩
                   replace H : (if 0 ≤ (ji58) then (if (ji58) < (x6_2.length : Int) then (if rdOf false x6_2 (ji58) = true then (if (rdOf ByteArray.empty t178 x30_2).toList = ([42] : List UInt8) then (if 0 ≤ x39_3 then (if x39_3 < (x9_3.length : Int) then (exchange_Matches.l1 k3 t171 x6_2 (rdOf ByteArray.empty t178 x30_2) (x9_3.set (x39_3 : Int).toNat true) t178 (t178.length : Int) x30_2 (x6_2.length : Int) (wrap64 (x39_3 + 1))) else (none)) else (none)) else (if (ji58) < (t171.length : Int) then (if 0 ≤ x39_3 then (if x39_3 < (x9_3.length : Int) then (exchange_Matches.l1 k3 t171 x6_2 (rdOf ByteArray.empty t178 x30_2) (x9_3.set (x39_3 : Int).toNat ((rdOf ByteArray.empty t178 x30_2).toList == (rdOf ByteArray.empty t171 (ji58)).toList)) t178 (t178.length : Int) x30_2 (x6_2.length : Int) (wrap64 (x39_3 + 1))) else (none)) else (none)) else (none))) else (if 0 ≤ x39_3 then (if x39_3 < (x9_3.length : Int) then (exchange_Matches.l1 k3 t171 x6_2 (rdOf ByteArray.empty t178 x30_2) (x9_3.set (x39_3 : Int).toNat false) t178 (t178.length : Int) x30_2 (x6_2.length : Int) (wrap64 (x39_3 + 1))) else (none)) else (none))) else (none)) else (none)) = some r := by first | (rw [hji58] at H; exact H) | (simp only [hji58] at H ⊢; exact H)
                   have hji58w : (IntKind.i64.wrap (x39_3 - 1)) = ji58 := (i64_w _).trans hji58
                   by_cases c59 : 0 ≤ (ji58)
                   ·rw [if_pos c59] at H
                    have c59b0 : decide (0 ≤ (ji58)) = true := decide_eq_true c59
                    clear c59
                    by_cases c60 : (ji58) < (x6_2.length : Int)
                    ·rw [if_pos c60] at H
                     have c60b0 : decide ((ji58) < (x6_2.length : Int)) = true := decide_eq_true c60
                     clear c60
                     obtain ⟨bq61, hbq61⟩ : ∃ b_ : Bool, b_ = (rdOf false x6_2 (ji58)) := ⟨_, rfl⟩
                     replace H : (if bq61 = true then (if (rdOf ByteArray.empty t178 x30_2).toList = ([42] : List UInt8) then (if 0 ≤ x39_3 then (if x39_3 < (x9_3.length : Int) then (exchange_Matches.l1 k3 t171 x6_2 (rdOf ByteArray.empty t178 x30_2) (x9_3.set (x39_3 : Int).toNat true) t178 (t178.length : Int) x30_2 (x6_2.length : Int) (wrap64 (x39_3 + 1))) else (none)) else (none)) else (if (ji58) < (t171.length : Int) then (if 0 ≤ x39_3 then (if x39_3 < (x9_3.length : Int) then (exchange_Matches.l1 k3 t171 x6_2 (rdOf ByteArray.empty t178 x30_2) (x9_3.set (x39_3 : Int).toNat ((rdOf ByteArray.empty t178 x30_2).toList == (rdOf ByteArray.empty t171 (ji58)).toList)) t178 (t178.length : Int) x30_2 (x6_2.length : Int) (wrap64 (x39_3 + 1))) else (none)) else (none)) else (none))) else (if 0 ≤ x39_3 then (if x39_3 < (x9_3.length : Int) then (exchange_Matches.l1 k3 t171 x6_2 (rdOf ByteArray.empty t178 x30_2) (x9_3.set (x39_3 : Int).toNat false) t178 (t178.length : Int) x30_2 (x6_2.length : Int) (wrap64 (x39_3 + 1))) else (none)) else (none))) = some r := by rw [← hbq61] at H; exact H
                     have Nbq61 := Aside0.mk hbq61
                     clear hbq61
                     by_cases c62 : bq61 = true
                     ·subst c62
                      have H1 : (if (rdOf ByteArray.empty t178 x30_2).toList = ([42] : List UInt8) then (if 0 ≤ x39_3 then (if x39_3 < (x9_3.length : Int) then (exchange_Matches.l1 k3 t171 x6_2 (rdOf ByteArray.empty t178 x30_2) (x9_3.set (x39_3 : Int).toNat true) t178 (t178.length : Int) x30_2 (x6_2.length : Int) (wrap64 (x39_3 + 1))) else (none)) else (none)) else (if (ji58) < (t171.length : Int) then (if 0 ≤ x39_3 then (if x39_3 < (x9_3.length : Int) then (exchange_Matches.l1 k3 t171 x6_2 (rdOf ByteArray.empty t178 x30_2) (x9_3.set (x39_3 : Int).toNat ((rdOf ByteArray.empty t178 x30_2).toList == (rdOf ByteArray.empty t171 (ji58)).toList)) t178 (t178.length : Int) x30_2 (x6_2.length : Int) (wrap64 (x39_3 + 1))) else (none)) else (none)) else (none))) = some r := by rw [if_pos rfl] at H; exact H
                      clear H
                      have H := H1
                      clear H1
                      by_cases c63 : (rdOf ByteArray.empty t178 x30_2).toList = ([42] : List UInt8)
                      ·rw [if_pos c63] at H
                       have c63b0 : ((rdOf ByteArray.empty t178 x30_2).toList == ([42] : List UInt8)) = true := beq_iff_eq.mpr c63
                       have c63b1 : ((rdOf ByteArray.empty t178 x30_2).toList != ([42] : List UInt8)) = false := bne_eq_false_iff_eq.mpr c63
                       clear c63
                       by_cases c64 : 0 ≤ x39_3
                       ·rw [if_pos c64] at H
                        have c64b0 : decide (0 ≤ x39_3) = true := decide_eq_true c64
                        clear c64
                        by_cases c65 : x39_3 < (x9_3.length : Int)
                        ·rw [if_pos c65] at H
                         have c65b0 : decide (x39_3 < (x9_3.length : Int)) = true := decide_eq_true c65
                         clear c65
                         obtain ⟨y192, hy192⟩ : ∃ y_ : List Bool, y_ = (x9_3.set (x39_3 : Int).toNat true) := ⟨_, rfl⟩
                         replace H : (exchange_Matches.l1 k3 t171 x6_2 (rdOf ByteArray.empty t178 x30_2) y192 t178 (t178.length : Int) x30_2 (x6_2.length : Int) (wrap64 (x39_3 + 1))) = some r := by first | (rw [hy192]; with_reducible exact H) | (have H2_ := (Option.bind_some _ _).symm.trans H; rw [hy192]; with_reducible exact H2_) | (have H2_ := (Option.bind_some _ _).symm.trans H; with_reducible exact H2_) | with_reducible exact H | (rw [hy192]; exact H) | exact H
                         have Ny192 := Aside0.mk hy192
                         clear hy192
                         have H' := Aside0.mk H
                         clear H
                         have p191 : 0 ≤ ((ji58) : Int) := of_decide_eq_true (by first | (with_reducible assumption) | assumption)
                         have q191 : (ji58) < (x6_2.length : Int) := of_decide_eq_true (by first | (with_reducible assumption) | assumption)
                         obtain ⟨ad191, e191, hx191_0⟩ := Kd.at_bool (Kd.R_reads' HO_6.out).2.2 (ji58) p191 q191
                         (try rw [← Nbq61.out] at hx191_0); (try rw [← Nbq61.out] at hw191_0)
                         cases e191
                         replace p191 := eq_true p191
                         replace q191 := eq_true q191
                         have p66 : 0 ≤ (x39_3 : Int) := of_decide_eq_true (by first | (with_reducible assumption) | assumption)
                         have q66 : (x39_3 : Int) < ((x9_3.length : Int) : Int) := of_decide_eq_true (by first | (with_reducible assumption) | assumption)
                         obtain ⟨go66, co66, eo66, gb66, gl66, cl66, HG66⟩ := Kd.R_form HO_9.out (by omega)
                         (first | cases eo66 | (injection eo66 with ea_ en_ ec_; (first | subst ea_ | (injection ea_ with ea_; subst ea_)); subst ec_; clear en_))
                         have GB66 := Aside0.mk gb66
                         have GG66 := Aside0.mk HG66
                         clear gb66 gl66 HG66
                         obtain ⟨hx66_0, hf66_0⟩ := Kd.R_celln false HO_9.out (x39_3 : Int) p66 q66
                         replace p66 := eq_true p66
                         replace q66 := eq_true q66
                         have HP67 := Kd.R_putg HO_9.out (x39_3 : Int) true
                         go_wp2_with (first | ((with_reducible refine gate_store (t := 4) (p := 86) rfl ?_); refine store_event (t := 4) (p := 86) (v := ?vo_w68) (w1 := (wr.setCell ⟨go66, (x39_3 : Int).toNat, none⟩ (.bool true))) ?hg ?ho ?hn ?hr ?_; (case ho => rfl); (case hg => rfl); (case hn => rfl); (case hr => first | (go_simp; done) | (go_simp; rfl)); intro w68 hw; have hg : wr.grownBy w68 (some go66) := (by rw [hw]; exact HP67.2); have hp_ : Kd.R Kd.bool 4 w68 w.heap.size (fun k_ => some k_ ≠ (.slice (some ad191) x6_2.length co31 : Value).ownBlock) (.slice (some ⟨go66, 0, none⟩) x9_3.length co66) y192 := (by rw [hw, Ny192.out]; exact HP67.1); clear HP67; have n0_ := Aside0.mk (Kd.R_over' (v := (.slice (some ⟨go66, 0, none⟩) x9_3.length co66)) (by (with_reducible repeat (first | apply Kd.R_alloc | apply Kd.R_drewN | apply Kd.R_drew)); exact HO_5.out) (Kd.R_typed HO_9.out) (by decide) hg); have n1_ := Aside0.mk (Kd.R_after (v := (.slice (some ⟨go66, 0, none⟩) x9_3.length co66)) (v1 := (.slice (some ⟨go66, 0, none⟩) x9_3.length co66)) (ok := (fun _ => True)) (by (with_reducible repeat (first | apply Kd.R_alloc | apply Kd.R_drewN | apply Kd.R_drew)); exact Kd.R_mono HO_6.out (fun _ hk => ⟨trivial, hk⟩)) hg (.inl rfl)); have n2_ := Aside0.mk (hp_); have n3_ := Aside0.mk (Kd.R_over' (v := (.slice (some ⟨go66, 0, none⟩) x9_3.length co66)) (by (with_reducible repeat (first | apply Kd.R_alloc | apply Kd.R_drewN | apply Kd.R_drew)); exact HO_28.out) (Kd.R_typed HO_9.out) (by decide) hg); have n4_ := Aside0.mk ((by rw [hw]; exact below_set (HB.out) GB66.out : Below w.heap.size w w68)); clear HO_5; clear HO_6; clear HO_9; clear HO_28; clear HB; have HO_5 := n0_; have HO_6 := n1_; have HO_9 := n2_; have HO_28 := n3_; have HB := n4_; clear n0_ n1_ n2_ n3_ n4_; clear hg hw hp_))
                         go_roundg k3
                         case measure => have := HJ2.out; have := HK2.out; have := HK3.out; omega
                         case rel => exact ⟨(y192), (wrap64 (x39_3 + 1)), (by first | rfl | (simp; done) | (simp [*]; done)), H', ⟨by have := HJ2.out; have := HK2.out; have := HK3.out; omega⟩, ⟨by (with_reducible repeat (first | apply Kd.R_alloc | apply Kd.R_drewN | apply Kd.R_drew)); exact HO_5.out⟩, ⟨by (with_reducible repeat (first | apply Kd.R_alloc | apply Kd.R_drewN | apply Kd.R_drew)); exact Kd.R_mono HO_6.out (fun _ hk => hk.2)⟩, ⟨by (with_reducible repeat (first | apply Kd.R_alloc | apply Kd.R_drewN | apply Kd.R_drew)); exact HO_9.out⟩, ⟨by (with_reducible repeat (first | apply Kd.R_alloc | apply Kd.R_drewN | apply Kd.R_drew)); exact HO_28.out⟩, ⟨by repeat (first | (with_reducible first | exact HB.out | apply below_alloc | apply pw_below_drewN | apply below_drew1) | exact HB.out)⟩⟩
                        ·rw [if_neg c65] at H
                         exact absurd H (by simp)
                       ·rw [if_neg c64] at H
                        exact absurd H (by simp)
                      ·rw [if_neg c63] at H
                       have c63b0 : ((rdOf ByteArray.empty t178 x30_2).toList == ([42] : List UInt8)) = false := beq_eq_false_iff_ne.mpr c63
                       have c63b1 : ((rdOf ByteArray.empty t178 x30_2).toList != ([42] : List UInt8)) = true := bne_iff_ne.mpr c63
                       by_cases c69 : (ji58) < (t171.length : Int)
                       ·rw [if_pos c69] at H
                        have c69b0 : decide ((ji58) < (t171.length : Int)) = true := decide_eq_true c69
                        clear c69
                        by_cases c70 : 0 ≤ x39_3
                        ·rw [if_pos c70] at H
                         have c70b0 : decide (0 ≤ x39_3) = true := decide_eq_true c70
                         clear c70
                         by_cases c71 : x39_3 < (x9_3.length : Int)
                         ·rw [if_pos c71] at H
                          have c71b0 : decide (x39_3 < (x9_3.length : Int)) = true := decide_eq_true c71
                          clear c71
                          obtain ⟨y194, hy194⟩ : ∃ y_ : List Bool, y_ = (x9_3.set (x39_3 : Int).toNat ((rdOf ByteArray.empty t178 x30_2).toList == (rdOf ByteArray.empty t171 (ji58)).toList)) := ⟨_, rfl⟩
                          replace H : (exchange_Matches.l1 k3 t171 x6_2 (rdOf ByteArray.empty t178 x30_2) y194 t178 (t178.length : Int) x30_2 (x6_2.length : Int) (wrap64 (x39_3 + 1))) = some r := by first | (rw [hy194]; with_reducible exact H) | (have H2_ := (Option.bind_some _ _).symm.trans H; rw [hy194]; with_reducible exact H2_) | (have H2_ := (Option.bind_some _ _).symm.trans H; with_reducible exact H2_) | with_reducible exact H | (rw [hy194]; exact H) | exact H
                          have Ny194 := Aside0.mk hy194
                          clear hy194
                          have H' := Aside0.mk H
                          clear H
                          have p191 : 0 ≤ ((ji58) : Int) := of_decide_eq_true (by first | (with_reducible assumption) | assumption)
                          have q191 : (ji58) < (x6_2.length : Int) := of_decide_eq_true (by first | (with_reducible assumption) | assumption)
                          obtain ⟨ad191, e191, hx191_0⟩ := Kd.at_bool (Kd.R_reads' HO_6.out).2.2 (ji58) p191 q191
                          (try rw [← Nbq61.out] at hx191_0); (try rw [← Nbq61.out] at hw191_0)
                          cases e191
                          replace p191 := eq_true p191
                          replace q191 := eq_true q191
                          have p193 : 0 ≤ ((ji58) : Int) := of_decide_eq_true (by first | (with_reducible assumption) | assumption)
                          have q193 : (ji58) < (t171.length : Int) := of_decide_eq_true (by first | (with_reducible assumption) | assumption)
                          obtain ⟨ad193, e193, hx193_0⟩ := Kd.at_string (Kd.R_reads' HO_5.out).2.2 (ji58) p193 q193
                          cases e193
                          replace p193 := eq_true p193
                          replace q193 := eq_true q193
                          have p72 : 0 ≤ (x39_3 : Int) := of_decide_eq_true (by first | (with_reducible assumption) | assumption)
                          have q72 : (x39_3 : Int) < ((x9_3.length : Int) : Int) := of_decide_eq_true (by first | (with_reducible assumption) | assumption)
                          obtain ⟨go72, co72, eo72, gb72, gl72, cl72, HG72⟩ := Kd.R_form HO_9.out (by omega)
                          (first | cases eo72 | (injection eo72 with ea_ en_ ec_; (first | subst ea_ | (injection ea_ with ea_; subst ea_)); subst ec_; clear en_))
                          have GB72 := Aside0.mk gb72
                          have GG72 := Aside0.mk HG72
                          clear gb72 gl72 HG72
                          obtain ⟨hx72_0, hf72_0⟩ := Kd.R_celln false HO_9.out (x39_3 : Int) p72 q72
                          replace p72 := eq_true p72
                          replace q72 := eq_true q72
                          have HP73 := Kd.R_putg HO_9.out (x39_3 : Int) ((rdOf ByteArray.empty t178 x30_2).toList == (rdOf ByteArray.empty t171 (ji58)).toList)
                          go_wp2_with (first | ((with_reducible refine gate_store (t := 4) (p := 86) rfl ?_); refine store_event (t := 4) (p := 86) (v := ?vo_w74) (w1 := (wr.setCell ⟨go72, (x39_3 : Int).toNat, none⟩ (.bool ((rdOf ByteArray.empty t178 x30_2).toList == (rdOf ByteArray.empty t171 (ji58)).toList)))) ?hg ?ho ?hn ?hr ?_; (case ho => rfl); (case hg => rfl); (case hn => rfl); (case hr => first | (go_simp; done) | (go_simp; rfl)); intro w74 hw; have hg : wr.grownBy w74 (some go72) := (by rw [hw]; exact HP73.2); have hp_ : Kd.R Kd.bool 4 w74 w.heap.size (fun k_ => some k_ ≠ (.slice (some ad191) x6_2.length co31 : Value).ownBlock) (.slice (some ⟨go72, 0, none⟩) x9_3.length co72) y194 := (by rw [hw, Ny194.out]; exact HP73.1); clear HP73; have n0_ := Aside0.mk (Kd.R_over' (v := (.slice (some ⟨go72, 0, none⟩) x9_3.length co72)) (by (with_reducible repeat (first | apply Kd.R_alloc | apply Kd.R_drewN | apply Kd.R_drew)); exact HO_5.out) (Kd.R_typed HO_9.out) (by decide) hg); have n1_ := Aside0.mk (Kd.R_after (v := (.slice (some ⟨go72, 0, none⟩) x9_3.length co72)) (v1 := (.slice (some ⟨go72, 0, none⟩) x9_3.length co72)) (ok := (fun _ => True)) (by (with_reducible repeat (first | apply Kd.R_alloc | apply Kd.R_drewN | apply Kd.R_drew)); exact Kd.R_mono HO_6.out (fun _ hk => ⟨trivial, hk⟩)) hg (.inl rfl)); have n2_ := Aside0.mk (hp_); have n3_ := Aside0.mk (Kd.R_over' (v := (.slice (some ⟨go72, 0, none⟩) x9_3.length co72)) (by (with_reducible repeat (first | apply Kd.R_alloc | apply Kd.R_drewN | apply Kd.R_drew)); exact HO_28.out) (Kd.R_typed HO_9.out) (by decide) hg); have n4_ := Aside0.mk ((by rw [hw]; exact below_set (HB.out) GB72.out : Below w.heap.size w w74)); clear HO_5; clear HO_6; clear HO_9; clear HO_28; clear HB; have HO_5 := n0_; have HO_6 := n1_; have HO_9 := n2_; have HO_28 := n3_; have HB := n4_; clear n0_ n1_ n2_ n3_ n4_; clear hg hw hp_))
                          go_roundg k3
                          case measure => have := HJ2.out; have := HK2.out; have := HK3.out; omega
                          case rel => exact ⟨(y194), (wrap64 (x39_3 + 1)), (by first | rfl | (simp; done) | (simp [*]; done)), H', ⟨by have := HJ2.out; have := HK2.out; have := HK3.out; omega⟩, ⟨by (with_reducible repeat (first | apply Kd.R_alloc | apply Kd.R_drewN | apply Kd.R_drew)); exact HO_5.out⟩, ⟨by (with_reducible repeat (first | apply Kd.R_alloc | apply Kd.R_drewN | apply Kd.R_drew)); exact Kd.R_mono HO_6.out (fun _ hk => hk.2)⟩, ⟨by (with_reducible repeat (first | apply Kd.R_alloc | apply Kd.R_drewN | apply Kd.R_drew)); exact HO_9.out⟩, ⟨by (with_reducible repeat (first | apply Kd.R_alloc | apply Kd.R_drewN | apply Kd.R_drew)); exact HO_28.out⟩, ⟨by repeat (first | (with_reducible first | exact HB.out | apply below_alloc | apply pw_below_drewN | apply below_drew1) | exact HB.out)⟩⟩
                         ·rw [if_neg c71] at H
                          exact absurd H (by simp)
                        ·rw [if_neg c70] at H
                         exact absurd H (by simp)
                       ·rw [if_neg c69] at H
                        exact absurd H (by simp)
                     ·replace c62 := Bool.eq_false_iff.mpr c62
                      subst c62
                      have H1 : (if 0 ≤ x39_3 then (if x39_3 < (x9_3.length : Int) then (exchange_Matches.l1 k3 t171 x6_2 (rdOf ByteArray.empty t178 x30_2) (x9_3.set (x39_3 : Int).toNat false) t178 (t178.length : Int) x30_2 (x6_2.length : Int) (wrap64 (x39_3 + 1))) else (none)) else (none)) = some r := by rw [if_neg (show ¬ (false = true) by decide)] at H; exact H
                      clear H
                      have H := H1
                      clear H1
                      by_cases c75 : 0 ≤ x39_3
                      ·rw [if_pos c75] at H
                       have c75b0 : decide (0 ≤ x39_3) = true := decide_eq_true c75
                       clear c75
                       by_cases c76 : x39_3 < (x9_3.length : Int)
                       ·rw [if_pos c76] at H
                        have c76b0 : decide (x39_3 < (x9_3.length : Int)) = true := decide_eq_true c76
                        clear c76
                        obtain ⟨y195, hy195⟩ : ∃ y_ : List Bool, y_ = (x9_3.set (x39_3 : Int).toNat false) := ⟨_, rfl⟩
                        replace H : (exchange_Matches.l1 k3 t171 x6_2 (rdOf ByteArray.empty t178 x30_2) y195 t178 (t178.length : Int) x30_2 (x6_2.length : Int) (wrap64 (x39_3 + 1))) = some r := by first | (rw [hy195]; with_reducible exact H) | (have H2_ := (Option.bind_some _ _).symm.trans H; rw [hy195]; with_reducible exact H2_) | (have H2_ := (Option.bind_some _ _).symm.trans H; with_reducible exact H2_) | with_reducible exact H | (rw [hy195]; exact H) | exact H
                        have Ny195 := Aside0.mk hy195
                        clear hy195
                        have H' := Aside0.mk H
                        clear H
                        have p191 : 0 ≤ ((ji58) : Int) := of_decide_eq_true (by first | (with_reducible assumption) | assumption)
                        have q191 : (ji58) < (x6_2.length : Int) := of_decide_eq_true (by first | (with_reducible assumption) | assumption)
                        obtain ⟨ad191, e191, hx191_0⟩ := Kd.at_bool (Kd.R_reads' HO_6.out).2.2 (ji58) p191 q191
                        (try rw [← Nbq61.out] at hx191_0); (try rw [← Nbq61.out] at hw191_0)
                        cases e191
                        replace p191 := eq_true p191
                        replace q191 := eq_true q191
                        have p77 : 0 ≤ (x39_3 : Int) := of_decide_eq_true (by first | (with_reducible assumption) | assumption)
                        have q77 : (x39_3 : Int) < ((x9_3.length : Int) : Int) := of_decide_eq_true (by first | (with_reducible assumption) | assumption)
                        obtain ⟨go77, co77, eo77, gb77, gl77, cl77, HG77⟩ := Kd.R_form HO_9.out (by omega)
                        (first | cases eo77 | (injection eo77 with ea_ en_ ec_; (first | subst ea_ | (injection ea_ with ea_; subst ea_)); subst ec_; clear en_))
                        have GB77 := Aside0.mk gb77
                        have GG77 := Aside0.mk HG77
                        clear gb77 gl77 HG77
                        obtain ⟨hx77_0, hf77_0⟩ := Kd.R_celln false HO_9.out (x39_3 : Int) p77 q77
                        replace p77 := eq_true p77
                        replace q77 := eq_true q77
                        have HP78 := Kd.R_putg HO_9.out (x39_3 : Int) false
                        go_wp2_with (first | ((with_reducible refine gate_store (t := 4) (p := 86) rfl ?_); refine store_event (t := 4) (p := 86) (v := ?vo_w79) (w1 := (wr.setCell ⟨go77, (x39_3 : Int).toNat, none⟩ (.bool false))) ?hg ?ho ?hn ?hr ?_; (case ho => rfl); (case hg => rfl); (case hn => rfl); (case hr => first | (go_simp; done) | (go_simp; rfl)); intro w79 hw; have hg : wr.grownBy w79 (some go77) := (by rw [hw]; exact HP78.2); have hp_ : Kd.R Kd.bool 4 w79 w.heap.size (fun k_ => some k_ ≠ (.slice (some ad191) x6_2.length co31 : Value).ownBlock) (.slice (some ⟨go77, 0, none⟩) x9_3.length co77) y195 := (by rw [hw, Ny195.out]; exact HP78.1); clear HP78; have n0_ := Aside0.mk (Kd.R_over' (v := (.slice (some ⟨go77, 0, none⟩) x9_3.length co77)) (by (with_reducible repeat (first | apply Kd.R_alloc | apply Kd.R_drewN | apply Kd.R_drew)); exact HO_5.out) (Kd.R_typed HO_9.out) (by decide) hg); have n1_ := Aside0.mk (Kd.R_after (v := (.slice (some ⟨go77, 0, none⟩) x9_3.length co77)) (v1 := (.slice (some ⟨go77, 0, none⟩) x9_3.length co77)) (ok := (fun _ => True)) (by (with_reducible repeat (first | apply Kd.R_alloc | apply Kd.R_drewN | apply Kd.R_drew)); exact Kd.R_mono HO_6.out (fun _ hk => ⟨trivial, hk⟩)) hg (.inl rfl)); have n2_ := Aside0.mk (hp_); have n3_ := Aside0.mk (Kd.R_over' (v := (.slice (some ⟨go77, 0, none⟩) x9_3.length co77)) (by (with_reducible repeat (first | apply Kd.R_alloc | apply Kd.R_drewN | apply Kd.R_drew)); exact HO_28.out) (Kd.R_typed HO_9.out) (by decide) hg); have n4_ := Aside0.mk ((by rw [hw]; exact below_set (HB.out) GB77.out : Below w.heap.size w w79)); clear HO_5; clear HO_6; clear HO_9; clear HO_28; clear HB; have HO_5 := n0_; have HO_6 := n1_; have HO_9 := n2_; have HO_28 := n3_; have HB := n4_; clear n0_ n1_ n2_ n3_ n4_; clear hg hw hp_))
                        go_roundg k3
                        case measure => have := HJ2.out; have := HK2.out; have := HK3.out; omega
                        case rel => exact ⟨(y195), (wrap64 (x39_3 + 1)), (by first | rfl | (simp; done) | (simp [*]; done)), H', ⟨by have := HJ2.out; have := HK2.out; have := HK3.out; omega⟩, ⟨by (with_reducible repeat (first | apply Kd.R_alloc | apply Kd.R_drewN | apply Kd.R_drew)); exact HO_5.out⟩, ⟨by (with_reducible repeat (first | apply Kd.R_alloc | apply Kd.R_drewN | apply Kd.R_drew)); exact Kd.R_mono HO_6.out (fun _ hk => hk.2)⟩, ⟨by (with_reducible repeat (first | apply Kd.R_alloc | apply Kd.R_drewN | apply Kd.R_drew)); exact HO_9.out⟩, ⟨by (with_reducible repeat (first | apply Kd.R_alloc | apply Kd.R_drewN | apply Kd.R_drew)); exact HO_28.out⟩, ⟨by repeat (first | (with_reducible first | exact HB.out | apply below_alloc | apply pw_below_drewN | apply below_drew1) | exact HB.out)⟩⟩
                       ·rw [if_neg c76] at H
                        exact absurd H (by simp)
                      ·rw [if_neg c75] at H
                       exact absurd H (by simp)
                    ·rw [if_neg c60] at H
                     exact absurd H (by simp)
                   ·rw [if_neg c59] at H
                    exact absurd H (by simp)
                  ·rw [if_neg c57] at H
                   have c57b0 : decide (0 < x39_3) = false := decide_eq_false c57
                   clear c57
                   have H' := Aside0.mk H
                   clear H
                   go_wp2
                   go_roundg k3
                   case measure => have := HJ2.out; have := HK2.out; have := HK3.out; omega
                   case rel => exact ⟨(x9_3), (wrap64 (x39_3 + 1)), (by first | rfl | (simp; done) | (simp [*]; done)), H', ⟨by have := HJ2.out; have := HK2.out; have := HK3.out; omega⟩, ⟨by (with_reducible repeat (first | apply Kd.R_alloc | apply Kd.R_drewN | apply Kd.R_drew)); exact HO_5.out⟩, ⟨by (with_reducible repeat (first | apply Kd.R_alloc | apply Kd.R_drewN | apply Kd.R_drew)); exact HO_6.out⟩, ⟨by (with_reducible repeat (first | apply Kd.R_alloc | apply Kd.R_drewN | apply Kd.R_drew)); exact HO_9.out⟩, ⟨by (with_reducible repeat (first | apply Kd.R_alloc | apply Kd.R_drewN | apply Kd.R_drew)); exact HO_28.out⟩, ⟨by repeat (first | (with_reducible first | exact HB.out | apply below_alloc | apply pw_below_drewN | apply below_drew1) | exact HB.out)⟩⟩
                ·rw [if_neg c34] at H
                 have c34b0 : decide (x39_3 < (x6_2.length : Int)) = false := decide_eq_false c34
                 clear c34
                 have H' := Aside0.mk H
                 clear H
                 go_wp2
                 go_roundg k3
                 case measure => have := HJ2.out; have := HK2.out; have := HK3.out; omega
                 case rel => exact ⟨(x9_3), (wrap64 (x30_2 + 1)), (by first | rfl | (simp; done) | (simp [*]; done)), H', ⟨by have := HJ2.out; have := HK2.out; have := HK3.out; omega⟩, ⟨by (with_reducible repeat (first | apply Kd.R_alloc | apply Kd.R_drewN | apply Kd.R_drew)); exact HO_5.out⟩, ⟨by (with_reducible repeat (first | apply Kd.R_alloc | apply Kd.R_drewN | apply Kd.R_drew)); exact Kd.R_mono HO_9.out (fun _ hk => trivial)⟩, ⟨by (with_reducible repeat (first | apply Kd.R_alloc | apply Kd.R_drewN | apply Kd.R_drew)); exact HO_28.out⟩, ⟨by repeat (first | (with_reducible first | exact HB.out | apply below_alloc | apply pw_below_drewN | apply below_drew1) | exact HB.out)⟩⟩
             ·rw [if_neg c30] at H
              exact absurd H (by simp)
            ·rw [if_neg c29] at H
             exact absurd H (by simp)
           ·rw [if_neg c28] at H
            exact absurd H (by simp)
          ·rw [if_neg c27] at H
           exact absurd H (by simp)
         ·rw [if_neg c26] at H
          have c26b0 : decide (x30_2 < (t178.length : Int)) = false := decide_eq_false c26
          clear c26
          by_cases c80 : 0 ≤ (t171.length : Int)
          ·rw [if_pos c80] at H
           have c80b0 : decide (0 ≤ (t171.length : Int)) = true := decide_eq_true c80
           have c80b1 : decide (0 ≤ t171.length) = true := decide_eq_true (by omega)
           clear c80
           by_cases c81 : (t171.length : Int) < (x6_2.length : Int)
           ·rw [if_pos c81] at H
            have c81b0 : decide ((t171.length : Int) < (x6_2.length : Int)) = true := decide_eq_true c81
            have c81b1 : decide (t171.length < x6_2.length) = true := decide_eq_true (Int.ofNat_lt.mp c81)
            clear c81
            obtain rfl := Option.some.inj H
            obtain ⟨Ao82, co82, eo82⟩ := Kd.R_slice HO_6.out
            subst eo82
            have p181 : 0 ≤ ((t171.length : Int) : Int) := of_decide_eq_true (by first | (with_reducible assumption) | assumption)
            have q181 : (t171.length : Int) < (x6_2.length : Int) := of_decide_eq_true (by first | (with_reducible assumption) | assumption)
            obtain ⟨ad181, e181, hx181_0⟩ := Kd.at_bool (Kd.R_reads' HO_6.out).2.2 (t171.length : Int) p181 q181
            cases e181
            (try simp only [Go.IntWalk.toNatUp] at hx181_0)
            replace p181 := eq_true p181
            replace q181 := eq_true q181
            go_wp2
            go_ret
            exact ⟨by first | rfl | (simp [errW_none, errW_some] <;> rfl) | (simp only [← hji12]; first | rfl | (simp [errW_none, errW_some] <;> rfl)) | (simp [*, errW_none, errW_some] <;> rfl), by repeat (first | (with_reducible first | exact HB.out | apply below_alloc | apply pw_below_drewN | apply below_drew1) | exact HB.out)⟩
           ·rw [if_neg c81] at H
            exact absurd H (by simp)
          ·rw [if_neg c80] at H
           exact absurd H (by simp)
      ·rw [if_neg c15] at H
       exact absurd H (by simp)
     ·rw [if_neg c14] at H
      exact absurd H (by simp)
    ·rw [if_neg c13] at H
     exact absurd H (by simp)

/-- THE ONE PURE STATEMENT of exchange_Matches: yours. -/
def exchange_Matches.Pure : Prop := ∀ (a0 : ByteArray) (a1 : ByteArray), a0.size ≤ 140737488351232 → a1.size ≤ 140737488351232 → ∃ k, exchange_Matches.f k a0 a1 = some true
theorem exchange_Matches.walk (P : exchange_Matches.Pure) (a0 : ByteArray) (a1 : ByteArray) (w : World) (w0 : a0.size ≤ 140737488351232) (w1 : a1.size ≤ 140737488351232) :
  Calls Tryz.prog 120 #[.string a0, .string a1] w fun e w' => e = .returned (.bool true) ∧ Below w.heap.size w w' := by
 obtain ⟨k, h⟩ := P a0 a1 w0 w1
 refine (exchange_Matches.calls k a0 a1 true w h).mono ?_
 rintro e w' ⟨rfl, hd⟩
 exact ⟨rfl, hd⟩

end Go.Proofs.YtfcomjinaokeaaaGreatDoor.P
