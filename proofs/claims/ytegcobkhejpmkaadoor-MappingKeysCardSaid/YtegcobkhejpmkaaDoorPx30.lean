/- Printed by a program of this session (wip/tools) over the translation: Go functions as plain Lean functions, and their contracts. -/
import Derived.Test.YtegcobkhejpmkaaDoorPx0
import Derived.Test.YtegcobkhejpmkaaDoorPx8
import Derived.Test.YtegcobkhejpmkaaDoorPx10
import Derived.Test.YtegcobkhejpmkaaDoorPx13
import Derived.Test.YtegcobkhejpmkaaDoorPx28
import Derived.Test.YtegcobkhejpmkaaDoorPx29
namespace Go.Proofs.YtegcobkhejpmkaaDoor.P
open Go.RowKit Go.Proofs.YtegcobkhejpmkaaDoorW.PrintWords Go.Proofs.YtegcobkhejpmkaaDoorW.PrintLast Go.Proofs.YtegcobkhejpmkaaDoorW.PrintMore
attribute [local go_sem] max2_int min2_int max_two min_two max_three min_three max_four min_four   -- for this text's walks alone
set_option linter.unusedVariables false
set_option linter.unusedSimpArgs false

/-! ### brokerlaw45_MappingKeys: function 6 -/
def brokerlaw45_MappingKeys.f (k : Nat) (a0 : ByteArray) (a1 : ByteArray) : Option (Bool) := (mapping_Pattern.f k a1).bind fun bt405 => ((brokerref45_Pattern.f k a1).bind fun bt407 => ((brokerlaw45_awake.f k).bind fun t409 => (if t409 = true then ((mapping_Key.f k a0).bind fun t410 => ((brokerref45_Key.f k a0).bind fun t411 => (if t410.toList = t411.toList then (if bt405.1.toList = bt407.1.toList then (some (bt405.2 == bt407.2)) else (none)) else (none)))) else (none))))
theorem brokerlaw45_MappingKeys.mono : ∀ a0 a1 k, LeO (brokerlaw45_MappingKeys.f k a0 a1) (brokerlaw45_MappingKeys.f (k + 1) a0 a1) := by
 intro a0 a1 k
 unfold brokerlaw45_MappingKeys.f
 repeat' first
   | (with_reducible exact brokerlaw45_awake.mono _)
   | (with_reducible exact brokerref45_Key.mono _ _)
   | (with_reducible exact brokerref45_Pattern.mono _ _)
   | (with_reducible exact mapping_Key.mono _ _)
   | (with_reducible exact mapping_Pattern.mono _ _)
   | (with_reducible exact LeO.refl _)
   | (with_reducible exact LeO.none _)
   | (with_reducible refine LeO.ite ?_ ?_)
   | (with_reducible refine LeO.bind ?_ (fun _ => ?_))
   | exact brokerlaw45_awake.mono _
   | exact brokerref45_Key.mono _ _
   | exact brokerref45_Pattern.mono _ _
   | exact mapping_Key.mono _ _
   | exact mapping_Pattern.mono _ _
   | exact LeO.none _
   | refine LeO.ite ?_ ?_
   | refine LeO.bind ?_ (fun _ => ?_)
set_option maxHeartbeats 8000000 in
set_option maxRecDepth 100000 in
theorem brokerlaw45_MappingKeys.calls (k : Nat) (a0 : ByteArray) (a1 : ByteArray) (r : Bool) (w : World) (h : brokerlaw45_MappingKeys.f k a0 a1 = some r) :
  Calls Tryd.prog 6 #[.string a0, .string a1] w fun e w' => e = .returned (.bool r) ∧ Below w.heap.size w w' := by
 have HB := Aside0.mk (Below.refl w.heap.size w)
 have H : ((mapping_Pattern.f k a1).bind fun bt405 => ((brokerref45_Pattern.f k a1).bind fun bt407 => ((brokerlaw45_awake.f k).bind fun t409 => (if t409 = true then ((mapping_Key.f k a0).bind fun t410 => ((brokerref45_Key.f k a0).bind fun t411 => (if t410.toList = t411.toList then (if bt405.1.toList = bt407.1.toList then (some (bt405.2 == bt407.2)) else (none)) else (none)))) else (none))))) = some r := h
 clear h
 replace H := Option.bind_eq_some_iff.mp H
 obtain ⟨⟨t405, t406⟩, A30, H⟩ := H
 replace H : ((brokerref45_Pattern.f k a1).bind fun bt407 => ((brokerlaw45_awake.f k).bind fun t409 => (if t409 = true then ((mapping_Key.f k a0).bind fun t410 => ((brokerref45_Key.f k a0).bind fun t411 => (if t410.toList = t411.toList then (if t405.toList = bt407.1.toList then (some (t406 == bt407.2)) else (none)) else (none)))) else (none)))) = some r := H
 have A3 := Aside0.mk A30
 clear A30
 replace H := Option.bind_eq_some_iff.mp H
 obtain ⟨⟨t407, t408⟩, A40, H⟩ := H
 replace H : ((brokerlaw45_awake.f k).bind fun t409 => (if t409 = true then ((mapping_Key.f k a0).bind fun t410 => ((brokerref45_Key.f k a0).bind fun t411 => (if t410.toList = t411.toList then (if t405.toList = t407.toList then (some (t406 == t408)) else (none)) else (none)))) else (none))) = some r := H
 have A4 := Aside0.mk A40
 clear A40
 replace H := Option.bind_eq_some_iff.mp H
 obtain ⟨t409, A50, H⟩ := H
 replace H : (if t409 = true then ((mapping_Key.f k a0).bind fun t410 => ((brokerref45_Key.f k a0).bind fun t411 => (if t410.toList = t411.toList then (if t405.toList = t407.toList then (some (t406 == t408)) else (none)) else (none)))) else (none)) = some r := H
 have A5 := Aside0.mk A50
 clear A50
 by_cases c6 : t409 = true
 ·subst c6
  have H1 : ((mapping_Key.f k a0).bind fun t410 => ((brokerref45_Key.f k a0).bind fun t411 => (if t410.toList = t411.toList then (if t405.toList = t407.toList then (some (t406 == t408)) else (none)) else (none)))) = some r := by rw [if_pos rfl] at H; exact H
  clear H
  have H := H1
  clear H1
  replace H := Option.bind_eq_some_iff.mp H
  obtain ⟨t410, A70, H⟩ := H
  replace H : ((brokerref45_Key.f k a0).bind fun t411 => (if t410.toList = t411.toList then (if t405.toList = t407.toList then (some (t406 == t408)) else (none)) else (none))) = some r := H
  have A7 := Aside0.mk A70
  clear A70
  replace H := Option.bind_eq_some_iff.mp H
  obtain ⟨t411, A80, H⟩ := H
  replace H : (if t410.toList = t411.toList then (if t405.toList = t407.toList then (some (t406 == t408)) else (none)) else (none)) = some r := H
  have A8 := Aside0.mk A80
  clear A80
  by_cases c9 : t410.toList = t411.toList
  ·rw [if_pos c9] at H
   have c9b0 : (t410.toList == t411.toList) = true := beq_iff_eq.mpr c9
   have c9b1 : (t410.toList != t411.toList) = false := bne_eq_false_iff_eq.mpr c9
   clear c9
   by_cases c10 : t405.toList = t407.toList
   ·rw [if_pos c10] at H
    have c10b0 : (t405.toList == t407.toList) = true := beq_iff_eq.mpr c10
    have c10b1 : (t405.toList != t407.toList) = false := bne_eq_false_iff_eq.mpr c10
    clear c10
    obtain rfl := Option.some.inj H
    go_enter Tryd.func6, Tryd.ntmps6
    go_wp2_with (first | ((with_reducible refine gate_callee (f := 20) rfl ?_); refine goesL_ (some 11) rfl rfl Tryd.func20 (by kernel_rfl) rfl #[.string a1] rfl (by (try simp only [List.map_toArray, List.map_cons, List.map_nil]); first | done | rfl | (simp only [List.length_drop, List.length_take]; rfl)) ?_; (with_reducible refine (mapping_Pattern.calls k a1 t405 t406 _ A3.out).mono ?_); rintro e w11 ⟨rfl, hb⟩; refine ⟨_, rfl, ?_⟩; have n0_ := Aside0.mk (below_step (by repeat (first | (with_reducible first | exact HB.out | apply below_alloc | apply pw_below_drewN | apply below_drew1) | exact HB.out)) hb); clear HB; have HB := n0_; clear n0_; (try clear hb); (try clear hb2); (try clear hk); (try clear hi)) | ((with_reducible refine gate_callee (f := 21) rfl ?_); refine goesL_ (some 16) rfl rfl Tryd.func21 (by kernel_rfl) rfl #[.string a1] rfl (by (try simp only [List.map_toArray, List.map_cons, List.map_nil]); first | done | rfl | (simp only [List.length_drop, List.length_take]; rfl)) ?_; (with_reducible refine (brokerref45_Pattern.calls k a1 t407 t408 _ A4.out).mono ?_); rintro e w12 ⟨rfl, hb⟩; refine ⟨_, rfl, ?_⟩; have n0_ := Aside0.mk (below_step (by repeat (first | (with_reducible first | exact HB.out | apply below_alloc | apply pw_below_drewN | apply below_drew1) | exact HB.out)) hb); clear HB; have HB := n0_; clear n0_; (try clear hb); (try clear hb2); (try clear hk); (try clear hi)) | ((with_reducible refine gate_callee (f := 11) rfl ?_); refine goesL_ (some 19) rfl rfl Tryd.func11 (by kernel_rfl) rfl #[] rfl (by (try simp only [List.map_toArray, List.map_cons, List.map_nil]); first | done | rfl | (simp only [List.length_drop, List.length_take]; rfl)) ?_; (with_reducible refine (brokerlaw45_awake.calls k  true _ A5.out).mono ?_); rintro e w13 ⟨rfl, hb⟩; refine ⟨_, rfl, ?_⟩; have n0_ := Aside0.mk (below_step (by repeat (first | (with_reducible first | exact HB.out | apply below_alloc | apply pw_below_drewN | apply below_drew1) | exact HB.out)) hb); clear HB; have HB := n0_; clear n0_; (try clear hb); (try clear hb2); (try clear hk); (try clear hi)) | (go_at_call 22; (with_reducible refine (mapping_Key.calls k a0 t410 _ A7.out).mono ?_); rintro e w14 ⟨rfl, hb⟩; have n0_ := Aside0.mk (below_step (by repeat (first | (with_reducible first | exact HB.out | apply below_alloc | apply pw_below_drewN | apply below_drew1) | exact HB.out)) hb); clear HB; have HB := n0_; clear n0_; (try clear hb); (try clear hb2); (try clear hk); (try clear hi)) | (go_at_call 23; (with_reducible refine (brokerref45_Key.calls k a0 t411 _ A8.out).mono ?_); rintro e w15 ⟨rfl, hb⟩; have n0_ := Aside0.mk (below_step (by repeat (first | (with_reducible first | exact HB.out | apply below_alloc | apply pw_below_drewN | apply below_drew1) | exact HB.out)) hb); clear HB; have HB := n0_; clear n0_; (try clear hb); (try clear hb2); (try clear hk); (try clear hi)))
    go_ret
    exact ⟨by first | rfl | (simp [errW_none, errW_some] <;> rfl) | (simp [*, errW_none, errW_some] <;> rfl), by repeat (first | (with_reducible first | exact HB.out | apply below_alloc | apply pw_below_drewN | apply below_drew1) | exact HB.out)⟩
   ·rw [if_neg c10] at H
    exact absurd H (by simp)
  ·rw [if_neg c9] at H
   exact absurd H (by simp)
 ·replace c6 := Bool.eq_false_iff.mpr c6
  subst c6
  have H1 : (none) = some r := by rw [if_neg (show ¬ (false = true) by decide)] at H; exact H
  clear H
  have H := H1
  clear H1
  exact absurd H (by simp)

/-- THE ONE PURE STATEMENT of brokerlaw45_MappingKeys: yours. -/
def brokerlaw45_MappingKeys.Pure : Prop := ∀ (a0 : ByteArray) (a1 : ByteArray), a0.size ≤ 140737488351232 → a1.size ≤ 140737488351232 → ∃ k, brokerlaw45_MappingKeys.f k a0 a1 = some true
theorem brokerlaw45_MappingKeys.walk (P : brokerlaw45_MappingKeys.Pure) (a0 : ByteArray) (a1 : ByteArray) (w : World) (w0 : a0.size ≤ 140737488351232) (w1 : a1.size ≤ 140737488351232) :
  Calls Tryd.prog 6 #[.string a0, .string a1] w fun e w' => e = .returned (.bool true) ∧ Below w.heap.size w w' := by
 obtain ⟨k, h⟩ := P a0 a1 w0 w1
 refine (brokerlaw45_MappingKeys.calls k a0 a1 true w h).mono ?_
 rintro e w' ⟨rfl, hd⟩
 exact ⟨rfl, hd⟩

end Go.Proofs.YtegcobkhejpmkaaDoor.P
