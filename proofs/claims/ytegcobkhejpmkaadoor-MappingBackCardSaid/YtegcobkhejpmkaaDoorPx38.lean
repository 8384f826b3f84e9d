/- Printed by a program of this session (wip/tools) over the translation: Go functions as plain Lean functions, and their contracts. -/
import Derived.Test.YtegcobkhejpmkaaDoorPx0
import Derived.Test.YtegcobkhejpmkaaDoorPx8
import Derived.Test.YtegcobkhejpmkaaDoorPx10
import Derived.Test.YtegcobkhejpmkaaDoorPx12
import Derived.Test.YtegcobkhejpmkaaDoorPx13
import Derived.Test.YtegcobkhejpmkaaDoorPx14
import Derived.Test.YtegcobkhejpmkaaDoorPx18
import Derived.Test.YtegcobkhejpmkaaDoorPx37
namespace Go.Proofs.YtegcobkhejpmkaaDoor.P
open Go.RowKit Go.Proofs.YtegcobkhejpmkaaDoorW.PrintWords Go.Proofs.YtegcobkhejpmkaaDoorW.PrintLast Go.Proofs.YtegcobkhejpmkaaDoorW.PrintMore
attribute [local go_sem] max2_int min2_int max_two min_two max_three min_three max_four min_four   -- for this text's walks alone
set_option linter.unusedVariables false
set_option linter.unusedSimpArgs false

/-! ### brokerlaw45_MappingBack: function 10 -/
mutual
def brokerlaw45_MappingBack.j0 : Nat → ByteArray → ByteArray → Bool → Option (Bool)
 | 0, _, _, _ => none
 | k + 1, x0, x1, x29 => if x29 = true then (none) else ((brokerref01_Valid.f k x0).bind fun t495 => (if t495 = true then ((mapping_Key.f k x0).bind fun t497 => ((mapping_Topic.f k t497).bind fun bt498 => (if bt498.2 = true then (brokerlaw45_MappingBack.j1 k x0 x1 t497 (bt498.1.toList != x0.toList)) else (brokerlaw45_MappingBack.j1 k x0 x1 t497 true)))) else ((brokerlaw45_awake.f k).bind fun t496 => (some t496))))
def brokerlaw45_MappingBack.j1 : Nat → ByteArray → ByteArray → ByteArray → Bool → Option (Bool)
 | 0, _, _, _, _ => none
 | k + 1, x0, x1, x9, x47 => if x47 = true then (none) else ((mapping_Pattern.f k x1).bind fun bt500 => (if bt500.2 = true then (if (bt500.1.size : Int) > 64 then (brokerlaw45_MappingBack.j2 k x0 x1 x9 bt500.1 true) else (if (x9.size : Int) > 64 then (brokerlaw45_MappingBack.j2 k x0 x1 x9 bt500.1 true) else ((brokerref01_System.f x0).bind fun t502 => (if t502 = true then (if 0 < (x1.size : Int) then (if (bt x1 0) = 43 then (brokerlaw45_MappingBack.j2 k x0 x1 x9 bt500.1 true) else (brokerlaw45_MappingBack.j2 k x0 x1 x9 bt500.1 ((bt x1 0) == 35))) else (none)) else (brokerlaw45_MappingBack.j2 k x0 x1 x9 bt500.1 false))))) else (brokerlaw45_MappingBack.j2 k x0 x1 x9 bt500.1 true)))
def brokerlaw45_MappingBack.j2 : Nat → ByteArray → ByteArray → ByteArray → ByteArray → Bool → Option (Bool)
 | 0, _, _, _, _, _ => none
 | k + 1, x0, x1, x9, x12, x78 => if x78 = true then ((brokerlaw45_awake.f k).bind fun t503 => (some t503)) else ((brokerlaw45_awake.f k).bind fun t504 => (if t504 = true then ((brokerref24_Matches.f k x12 x9).bind fun t505 => ((brokerref02_Matches.f k x1 x0).bind fun t506 => (some (t505 == t506)))) else (none)))
end
def brokerlaw45_MappingBack.f (k : Nat) (a0 : ByteArray) (a1 : ByteArray) (a2 : ByteArray) : Option (Bool) := if (a2.size : Int) > 1000 then ((brokerlaw45_awake.f k).bind fun t491 => (some t491)) else ((mapping_Topic.f k a2).bind fun bt492 => (if bt492.2 = true then ((mapping_Key.f k bt492.1).bind fun t494 => (brokerlaw45_MappingBack.j0 k a0 a1 (t494.toList != a2.toList))) else (brokerlaw45_MappingBack.j0 k a0 a1 false)))
theorem brokerlaw45_MappingBack.mono_l : ∀ k, (∀ y0 y1 y2, LeO (brokerlaw45_MappingBack.j0 k y0 y1 y2) (brokerlaw45_MappingBack.j0 (k + 1) y0 y1 y2)) ∧ (∀ y0 y1 y2 y3, LeO (brokerlaw45_MappingBack.j1 k y0 y1 y2 y3) (brokerlaw45_MappingBack.j1 (k + 1) y0 y1 y2 y3)) ∧ (∀ y0 y1 y2 y3 y4, LeO (brokerlaw45_MappingBack.j2 k y0 y1 y2 y3 y4) (brokerlaw45_MappingBack.j2 (k + 1) y0 y1 y2 y3 y4))
 | 0 => ⟨fun _ _ _ r h => by simp [brokerlaw45_MappingBack.j0] at h, fun _ _ _ _ r h => by simp [brokerlaw45_MappingBack.j1] at h, fun _ _ _ _ _ r h => by simp [brokerlaw45_MappingBack.j2] at h⟩
 | k + 1 => by
  obtain ⟨ih0, ih1, ih2⟩ := brokerlaw45_MappingBack.mono_l k
  refine ⟨?_, ?_, ?_⟩
  ·intro y0 y1 y2
   unfold brokerlaw45_MappingBack.j0
   repeat' first
   | (with_reducible exact ih0 _ _ _)
   | (with_reducible exact ih1 _ _ _ _)
   | (with_reducible exact ih2 _ _ _ _ _)
   | (with_reducible exact brokerlaw45_awake.mono _)
   | (with_reducible exact brokerref01_Valid.mono _ _)
   | (with_reducible exact brokerref02_Matches.mono _ _ _)
   | (with_reducible exact brokerref24_Matches.mono _ _ _)
   | (with_reducible exact mapping_Key.mono _ _)
   | (with_reducible exact mapping_Pattern.mono _ _)
   | (with_reducible exact mapping_Topic.mono _ _)
   | (with_reducible exact LeO.refl _)
   | (with_reducible exact LeO.none _)
   | (with_reducible refine LeO.ite ?_ ?_)
   | (with_reducible refine LeO.bind ?_ (fun _ => ?_))
   | exact ih0 _ _ _
   | exact ih1 _ _ _ _
   | exact ih2 _ _ _ _ _
   | exact brokerlaw45_awake.mono _
   | exact brokerref01_Valid.mono _ _
   | exact brokerref02_Matches.mono _ _ _
   | exact brokerref24_Matches.mono _ _ _
   | exact mapping_Key.mono _ _
   | exact mapping_Pattern.mono _ _
   | exact mapping_Topic.mono _ _
   | exact LeO.none _
   | refine LeO.ite ?_ ?_
   | refine LeO.bind ?_ (fun _ => ?_)
  ·intro y0 y1 y2 y3
   unfold brokerlaw45_MappingBack.j1
   repeat' first
   | (with_reducible exact ih0 _ _ _)
   | (with_reducible exact ih1 _ _ _ _)
   | (with_reducible exact ih2 _ _ _ _ _)
   | (with_reducible exact brokerlaw45_awake.mono _)
   | (with_reducible exact brokerref01_Valid.mono _ _)
   | (with_reducible exact brokerref02_Matches.mono _ _ _)
   | (with_reducible exact brokerref24_Matches.mono _ _ _)
   | (with_reducible exact mapping_Key.mono _ _)
   | (with_reducible exact mapping_Pattern.mono _ _)
   | (with_reducible exact mapping_Topic.mono _ _)
   | (with_reducible exact LeO.refl _)
   | (with_reducible exact LeO.none _)
   | (with_reducible refine LeO.ite ?_ ?_)
   | (with_reducible refine LeO.bind ?_ (fun _ => ?_))
   | exact ih0 _ _ _
   | exact ih1 _ _ _ _
   | exact ih2 _ _ _ _ _
   | exact brokerlaw45_awake.mono _
   | exact brokerref01_Valid.mono _ _
   | exact brokerref02_Matches.mono _ _ _
   | exact brokerref24_Matches.mono _ _ _
   | exact mapping_Key.mono _ _
   | exact mapping_Pattern.mono _ _
   | exact mapping_Topic.mono _ _
   | exact LeO.none _
   | refine LeO.ite ?_ ?_
   | refine LeO.bind ?_ (fun _ => ?_)
  ·intro y0 y1 y2 y3 y4
   unfold brokerlaw45_MappingBack.j2
   repeat' first
   | (with_reducible exact ih0 _ _ _)
   | (with_reducible exact ih1 _ _ _ _)
   | (with_reducible exact ih2 _ _ _ _ _)
   | (with_reducible exact brokerlaw45_awake.mono _)
   | (with_reducible exact brokerref01_Valid.mono _ _)
   | (with_reducible exact brokerref02_Matches.mono _ _ _)
   | (with_reducible exact brokerref24_Matches.mono _ _ _)
   | (with_reducible exact mapping_Key.mono _ _)
   | (with_reducible exact mapping_Pattern.mono _ _)
   | (with_reducible exact mapping_Topic.mono _ _)
   | (with_reducible exact LeO.refl _)
   | (with_reducible exact LeO.none _)
   | (with_reducible refine LeO.ite ?_ ?_)
   | (with_reducible refine LeO.bind ?_ (fun _ => ?_))
   | exact ih0 _ _ _
   | exact ih1 _ _ _ _
   | exact ih2 _ _ _ _ _
   | exact brokerlaw45_awake.mono _
   | exact brokerref01_Valid.mono _ _
   | exact brokerref02_Matches.mono _ _ _
   | exact brokerref24_Matches.mono _ _ _
   | exact mapping_Key.mono _ _
   | exact mapping_Pattern.mono _ _
   | exact mapping_Topic.mono _ _
   | exact LeO.none _
   | refine LeO.ite ?_ ?_
   | refine LeO.bind ?_ (fun _ => ?_)
theorem brokerlaw45_MappingBack.mono : ∀ a0 a1 a2 k, LeO (brokerlaw45_MappingBack.f k a0 a1 a2) (brokerlaw45_MappingBack.f (k + 1) a0 a1 a2) := by
 intro a0 a1 a2 k
 obtain ⟨ih0, ih1, ih2⟩ := brokerlaw45_MappingBack.mono_l k
 unfold brokerlaw45_MappingBack.f
 repeat' first
   | (with_reducible exact ih0 _ _ _)
   | (with_reducible exact ih1 _ _ _ _)
   | (with_reducible exact ih2 _ _ _ _ _)
   | (with_reducible exact brokerlaw45_awake.mono _)
   | (with_reducible exact brokerref01_Valid.mono _ _)
   | (with_reducible exact brokerref02_Matches.mono _ _ _)
   | (with_reducible exact brokerref24_Matches.mono _ _ _)
   | (with_reducible exact mapping_Key.mono _ _)
   | (with_reducible exact mapping_Pattern.mono _ _)
   | (with_reducible exact mapping_Topic.mono _ _)
   | (with_reducible exact LeO.refl _)
   | (with_reducible exact LeO.none _)
   | (with_reducible refine LeO.ite ?_ ?_)
   | (with_reducible refine LeO.bind ?_ (fun _ => ?_))
   | exact ih0 _ _ _
   | exact ih1 _ _ _ _
   | exact ih2 _ _ _ _ _
   | exact brokerlaw45_awake.mono _
   | exact brokerref01_Valid.mono _ _
   | exact brokerref02_Matches.mono _ _ _
   | exact brokerref24_Matches.mono _ _ _
   | exact mapping_Key.mono _ _
   | exact mapping_Pattern.mono _ _
   | exact mapping_Topic.mono _ _
   | exact LeO.none _
   | refine LeO.ite ?_ ?_
   | refine LeO.bind ?_ (fun _ => ?_)
set_option maxHeartbeats 8000000 in
set_option maxRecDepth 100000 in
theorem brokerlaw45_MappingBack.calls (k : Nat) (a0 : ByteArray) (a1 : ByteArray) (a2 : ByteArray) (r : Bool) (w : World) (h : brokerlaw45_MappingBack.f k a0 a1 a2 = some r) :
  Calls Tryd.prog 10 #[.string a0, .string a1, .string a2] w fun e w' => e = .returned (.bool r) ∧ Below w.heap.size w w' := by
 have HB := Aside0.mk (Below.refl w.heap.size w)
 have H : (if (a2.size : Int) > 1000 then ((brokerlaw45_awake.f k).bind fun t491 => (some t491)) else ((mapping_Topic.f k a2).bind fun bt492 => (if bt492.2 = true then ((mapping_Key.f k bt492.1).bind fun t494 => (brokerlaw45_MappingBack.j0 k a0 a1 (t494.toList != a2.toList))) else (brokerlaw45_MappingBack.j0 k a0 a1 false)))) = some r := h
 clear h
 by_cases c4 : (a2.size : Int) > 1000
 ·rw [if_pos c4] at H
  have c4b0 : decide (1000 < (a2.size : Int)) = true := decide_eq_true c4
  have c4b1 : decide (1000 < a2.size) = true := decide_eq_true (by omega)
  clear c4
  replace H := Option.bind_eq_some_iff.mp H
  obtain ⟨t491, A50, H⟩ := H
  replace H : (some t491) = some r := H
  have A5 := Aside0.mk A50
  clear A50
  obtain rfl := Option.some.inj H
  go_enter Tryd.func10, Tryd.ntmps10
  go_wp2_with (first | ((with_reducible refine gate_callee (f := 11) rfl ?_); refine goesL_ (some 17) rfl rfl Tryd.func11 (by kernel_rfl) rfl #[] rfl (by (try simp only [List.map_toArray, List.map_cons, List.map_nil]); first | done | rfl | (simp only [List.length_drop, List.length_take]; rfl)) ?_; (with_reducible refine (brokerlaw45_awake.calls k  t491 _ A5.out).mono ?_); rintro e w6 ⟨rfl, hb⟩; refine ⟨_, rfl, ?_⟩; have n0_ := Aside0.mk (below_step (by repeat (first | (with_reducible first | exact HB.out | apply below_alloc | apply pw_below_drewN | apply below_drew1) | exact HB.out)) hb); clear HB; have HB := n0_; clear n0_; (try clear hb); (try clear hb2); (try clear hk); (try clear hi)))
  go_ret
  exact ⟨by first | rfl | (simp [errW_none, errW_some] <;> rfl) | (simp [*, errW_none, errW_some] <;> rfl), by repeat (first | (with_reducible first | exact HB.out | apply below_alloc | apply pw_below_drewN | apply below_drew1) | exact HB.out)⟩
 ·rw [if_neg c4] at H
  have c4b0 : decide (1000 < (a2.size : Int)) = false := decide_eq_false c4
  have c4b1 : decide (1000 < a2.size) = false := decide_eq_false (by omega)
  clear c4
  replace H := Option.bind_eq_some_iff.mp H
  obtain ⟨⟨t492, t493⟩, A70, H⟩ := H
  replace H : (if t493 = true then ((mapping_Key.f k t492).bind fun t494 => (brokerlaw45_MappingBack.j0 k a0 a1 (t494.toList != a2.toList))) else (brokerlaw45_MappingBack.j0 k a0 a1 false)) = some r := H
  have A7 := Aside0.mk A70
  clear A70
  have HC8 := Aside0.mk H
  clear H
  go_enter Tryd.func10, Tryd.ntmps10
  go_upto_region 4 with (first | ((with_reducible refine gate_callee (f := 24) rfl ?_); refine goesL_ (some 20) rfl rfl Tryd.func24 (by kernel_rfl) rfl #[.string a2] rfl (by (try simp only [List.map_toArray, List.map_cons, List.map_nil]); first | done | rfl | (simp only [List.length_drop, List.length_take]; rfl)) ?_; (with_reducible refine (mapping_Topic.calls k a2 t492 t493 _ A7.out).mono ?_); rintro e w9 ⟨rfl, hb⟩; refine ⟨_, rfl, ?_⟩; have n0_ := Aside0.mk (below_step (by repeat (first | (with_reducible first | exact HB.out | apply below_alloc | apply pw_below_drewN | apply below_drew1) | exact HB.out)) hb); clear HB; have HB := n0_; clear n0_; (try clear hb); (try clear hb2); (try clear hk); (try clear hi)))
  (try simp only [Act.put, List.setIfInBounds_toArray, List.set_cons_zero, List.set_cons_succ])
  go_cut [29] (fun v29 wc => ∃ (kq : Nat) (x29_7 : Bool), v29 = .bool x29_7 ∧ Aside0 (brokerlaw45_MappingBack.j0 kq a0 a1 x29_7 = some r) ∧ Aside0 (kq ≤ k) ∧ Aside0 (Below w.heap.size w wc))
  case first =>
   have H := HC8.out
   clear HC8
   by_cases c10 : t493 = true
   ·subst c10
    have H1 : ((mapping_Key.f k t492).bind fun t494 => (brokerlaw45_MappingBack.j0 k a0 a1 (t494.toList != a2.toList))) = some r := by rw [if_pos rfl] at H; exact H
    clear H
    have H := H1
    clear H1
    replace H := Option.bind_eq_some_iff.mp H
    obtain ⟨t494, A110, H⟩ := H
    replace H : (brokerlaw45_MappingBack.j0 k a0 a1 (t494.toList != a2.toList)) = some r := H
    have A11 := Aside0.mk A110
    clear A110
    have H' := Aside0.mk H
    clear H
    go_wp2_with (first | (go_at_call 22; (with_reducible refine (mapping_Key.calls k t492 t494 _ A11.out).mono ?_); rintro e w12 ⟨rfl, hb⟩; have n0_ := Aside0.mk (below_step (by repeat (first | (with_reducible first | exact HB.out | apply below_alloc | apply pw_below_drewN | apply below_drew1) | exact HB.out)) hb); clear HB; have HB := n0_; clear n0_; (try clear hb); (try clear hb2); (try clear hk); (try clear hi)))
    go_meet
    case rel => exact ⟨_, ((t494.toList != a2.toList)), (by first | rfl | (simp; done) | (simp [*]; done)), H', ⟨by first | omega | exact Nat.le_refl _⟩, ⟨by repeat (first | (with_reducible first | exact HB.out | apply below_alloc | apply pw_below_drewN | apply below_drew1) | exact HB.out)⟩⟩
   ·replace c10 := Bool.eq_false_iff.mpr c10
    subst c10
    have H1 : (brokerlaw45_MappingBack.j0 k a0 a1 false) = some r := by rw [if_neg (show ¬ (false = true) by decide)] at H; exact H
    clear H
    have H := H1
    clear H1
    have H' := Aside0.mk H
    clear H
    go_wp2
    go_meet
    case rel => exact ⟨_, (false), (by first | rfl | (simp; done) | (simp [*]; done)), H', ⟨by first | omega | exact Nat.le_refl _⟩, ⟨by repeat (first | (with_reducible first | exact HB.out | apply below_alloc | apply pw_below_drewN | apply below_drew1) | exact HB.out)⟩⟩
  case rest =>
   clear HC8
   try clear c1
   try clear c2
   try clear p2
   try clear c4
   try clear c4b0
   try clear c4b1
   try clear c10
   try clear c11
   obtain ⟨kq, x29_7, rfl, HA, HJ7, HB⟩ := hcut
   cases kq with
   | zero => exact absurd HA.out (by simp [brokerlaw45_MappingBack.j0])
   | succ kj7 =>
    have H := HA.out
    clear HA
    simp only [brokerlaw45_MappingBack.j0] at H
    by_cases c13 : x29_7 = true
    ·subst c13
     have H1 : (none) = some r := by rw [if_pos rfl] at H; exact H
     clear H
     have H := H1
     clear H1
     exact absurd H (by simp)
    ·replace c13 := Bool.eq_false_iff.mpr c13
     subst c13
     have H1 : ((brokerref01_Valid.f kj7 a0).bind fun t495 => (if t495 = true then ((mapping_Key.f kj7 a0).bind fun t497 => ((mapping_Topic.f kj7 t497).bind fun bt498 => (if bt498.2 = true then (brokerlaw45_MappingBack.j1 kj7 a0 a1 t497 (bt498.1.toList != a0.toList)) else (brokerlaw45_MappingBack.j1 kj7 a0 a1 t497 true)))) else ((brokerlaw45_awake.f kj7).bind fun t496 => (some t496)))) = some r := by rw [if_neg (show ¬ (false = true) by decide)] at H; exact H
     clear H
     have H := H1
     clear H1
     replace H := Option.bind_eq_some_iff.mp H
     obtain ⟨t495, A140, H⟩ := H
     replace H : (if t495 = true then ((mapping_Key.f kj7 a0).bind fun t497 => ((mapping_Topic.f kj7 t497).bind fun bt498 => (if bt498.2 = true then (brokerlaw45_MappingBack.j1 kj7 a0 a1 t497 (bt498.1.toList != a0.toList)) else (brokerlaw45_MappingBack.j1 kj7 a0 a1 t497 true)))) else ((brokerlaw45_awake.f kj7).bind fun t496 => (some t496))) = some r := H
     have A14 := Aside0.mk A140
     clear A140
     by_cases c15 : t495 = true
     ·subst c15
      have H1 : ((mapping_Key.f kj7 a0).bind fun t497 => ((mapping_Topic.f kj7 t497).bind fun bt498 => (if bt498.2 = true then (brokerlaw45_MappingBack.j1 kj7 a0 a1 t497 (bt498.1.toList != a0.toList)) else (brokerlaw45_MappingBack.j1 kj7 a0 a1 t497 true)))) = some r := by rw [if_pos rfl] at H; exact H
      clear H
      have H := H1
      clear H1
      replace H := Option.bind_eq_some_iff.mp H
      obtain ⟨t497, A160, H⟩ := H
      replace H : ((mapping_Topic.f kj7 t497).bind fun bt498 => (if bt498.2 = true then (brokerlaw45_MappingBack.j1 kj7 a0 a1 t497 (bt498.1.toList != a0.toList)) else (brokerlaw45_MappingBack.j1 kj7 a0 a1 t497 true))) = some r := H
      have A16 := Aside0.mk A160
      clear A160
      replace H := Option.bind_eq_some_iff.mp H
      obtain ⟨⟨t498, t499⟩, A170, H⟩ := H
      replace H : (if t499 = true then (brokerlaw45_MappingBack.j1 kj7 a0 a1 t497 (t498.toList != a0.toList)) else (brokerlaw45_MappingBack.j1 kj7 a0 a1 t497 true)) = some r := H
      have A17 := Aside0.mk A170
      clear A170
      have HC18 := Aside0.mk H
      clear H
      go_upto_region 10 with (first | ((with_reducible refine gate_callee (f := 26) rfl ?_); refine goesL_ (some 31) rfl rfl Tryd.func26 (by kernel_rfl) rfl #[.string a0] rfl (by (try simp only [List.map_toArray, List.map_cons, List.map_nil]); first | done | rfl | (simp only [List.length_drop, List.length_take]; rfl)) ?_; (with_reducible refine (brokerref01_Valid.calls kj7 a0 true _ A14.out).mono ?_); rintro e w19 ⟨rfl, hb⟩; refine ⟨_, rfl, ?_⟩; have n0_ := Aside0.mk (below_step (by repeat (first | (with_reducible first | exact HB.out | apply below_alloc | apply pw_below_drewN | apply below_drew1) | exact HB.out)) hb); clear HB; have HB := n0_; clear n0_; (try clear hb); (try clear hb2); (try clear hk); (try clear hi)) | ((with_reducible refine gate_callee (f := 22) rfl ?_); refine goesL_ (some 35) rfl rfl Tryd.func22 (by kernel_rfl) rfl #[.string a0] rfl (by (try simp only [List.map_toArray, List.map_cons, List.map_nil]); first | done | rfl | (simp only [List.length_drop, List.length_take]; rfl)) ?_; (with_reducible refine (mapping_Key.calls kj7 a0 t497 _ A16.out).mono ?_); rintro e w20 ⟨rfl, hb⟩; refine ⟨_, rfl, ?_⟩; have n0_ := Aside0.mk (below_step (by repeat (first | (with_reducible first | exact HB.out | apply below_alloc | apply pw_below_drewN | apply below_drew1) | exact HB.out)) hb); clear HB; have HB := n0_; clear n0_; (try clear hb); (try clear hb2); (try clear hk); (try clear hi)) | ((with_reducible refine gate_callee (f := 24) rfl ?_); refine goesL_ (some 38) rfl rfl Tryd.func24 (by kernel_rfl) rfl #[.string t497] rfl (by (try simp only [List.map_toArray, List.map_cons, List.map_nil]); first | done | rfl | (simp only [List.length_drop, List.length_take]; rfl)) ?_; (with_reducible refine (mapping_Topic.calls kj7 t497 t498 t499 _ A17.out).mono ?_); rintro e w21 ⟨rfl, hb⟩; refine ⟨_, rfl, ?_⟩; have n0_ := Aside0.mk (below_step (by repeat (first | (with_reducible first | exact HB.out | apply below_alloc | apply pw_below_drewN | apply below_drew1) | exact HB.out)) hb); clear HB; have HB := n0_; clear n0_; (try clear hb); (try clear hb2); (try clear hk); (try clear hi)))
      (try simp only [Act.put, List.setIfInBounds_toArray, List.set_cons_zero, List.set_cons_succ])
      go_cut [47] (fun v47 wc => ∃ (kq : Nat) (x47_17 : Bool), v47 = .bool x47_17 ∧ Aside0 (brokerlaw45_MappingBack.j1 kq a0 a1 t497 x47_17 = some r) ∧ Aside0 (kq ≤ kj7) ∧ Aside0 (Below w.heap.size w wc))
      case first =>
       have H := HC18.out
       clear HC18
       by_cases c22 : t499 = true
       ·subst c22
        have H1 : (brokerlaw45_MappingBack.j1 kj7 a0 a1 t497 (t498.toList != a0.toList)) = some r := by rw [if_pos rfl] at H; exact H
        clear H
        have H := H1
        clear H1
        have H' := Aside0.mk H
        clear H
        go_wp2
        go_meet
        case rel => exact ⟨_, ((t498.toList != a0.toList)), (by first | rfl | (simp; done) | (simp [*]; done)), H', ⟨by have := HJ7.out; first | omega | exact Nat.le_refl _⟩, ⟨by repeat (first | (with_reducible first | exact HB.out | apply below_alloc | apply pw_below_drewN | apply below_drew1) | exact HB.out)⟩⟩
       ·replace c22 := Bool.eq_false_iff.mpr c22
        subst c22
        have H1 : (brokerlaw45_MappingBack.j1 kj7 a0 a1 t497 true) = some r := by rw [if_neg (show ¬ (false = true) by decide)] at H; exact H
        clear H
        have H := H1
        clear H1
        have H' := Aside0.mk H
        clear H
        go_wp2
        go_meet
        case rel => exact ⟨_, (true), (by first | rfl | (simp; done) | (simp [*]; done)), H', ⟨by have := HJ7.out; first | omega | exact Nat.le_refl _⟩, ⟨by repeat (first | (with_reducible first | exact HB.out | apply below_alloc | apply pw_below_drewN | apply below_drew1) | exact HB.out)⟩⟩
      case rest =>
       clear HC18
       try clear c1
       try clear c2
       try clear p2
       try clear c4
       try clear c4b0
       try clear c4b1
       try clear c10
       try clear c11
       try clear c13
       try clear c15
       try clear c22
       try clear p2
       obtain ⟨kq, x47_17, rfl, HA, HJ17, HB⟩ := hcut
       cases kq with
       | zero => exact absurd HA.out (by simp [brokerlaw45_MappingBack.j1])
       | succ kj17 =>
        have H := HA.out
        clear HA
        simp only [brokerlaw45_MappingBack.j1] at H
        by_cases c23 : x47_17 = true
        ·subst c23
         have H1 : (none) = some r := by rw [if_pos rfl] at H; exact H
         clear H
         have H := H1
         clear H1
         exact absurd H (by simp)
        ·replace c23 := Bool.eq_false_iff.mpr c23
         subst c23
         have H1 : ((mapping_Pattern.f kj17 a1).bind fun bt500 => (if bt500.2 = true then (if (bt500.1.size : Int) > 64 then (brokerlaw45_MappingBack.j2 kj17 a0 a1 t497 bt500.1 true) else (if (t497.size : Int) > 64 then (brokerlaw45_MappingBack.j2 kj17 a0 a1 t497 bt500.1 true) else ((brokerref01_System.f a0).bind fun t502 => (if t502 = true then (if 0 < (a1.size : Int) then (if (bt a1 0) = 43 then (brokerlaw45_MappingBack.j2 kj17 a0 a1 t497 bt500.1 true) else (brokerlaw45_MappingBack.j2 kj17 a0 a1 t497 bt500.1 ((bt a1 0) == 35))) else (none)) else (brokerlaw45_MappingBack.j2 kj17 a0 a1 t497 bt500.1 false))))) else (brokerlaw45_MappingBack.j2 kj17 a0 a1 t497 bt500.1 true))) = some r := by rw [if_neg (show ¬ (false = true) by decide)] at H; exact H
         clear H
         have H := H1
         clear H1
         replace H := Option.bind_eq_some_iff.mp H
         obtain ⟨⟨t500, t501⟩, A240, H⟩ := H
         replace H : (if t501 = true then (if (t500.size : Int) > 64 then (brokerlaw45_MappingBack.j2 kj17 a0 a1 t497 t500 true) else (if (t497.size : Int) > 64 then (brokerlaw45_MappingBack.j2 kj17 a0 a1 t497 t500 true) else ((brokerref01_System.f a0).bind fun t502 => (if t502 = true then (if 0 < (a1.size : Int) then (if (bt a1 0) = 43 then (brokerlaw45_MappingBack.j2 kj17 a0 a1 t497 t500 true) else (brokerlaw45_MappingBack.j2 kj17 a0 a1 t497 t500 ((bt a1 0) == 35))) else (none)) else (brokerlaw45_MappingBack.j2 kj17 a0 a1 t497 t500 false))))) else (brokerlaw45_MappingBack.j2 kj17 a0 a1 t497 t500 true)) = some r := H
         have A24 := Aside0.mk A240
         clear A240
         have HC25 := Aside0.mk H
         clear H
         go_upto_region 13 with (first | ((with_reducible refine gate_callee (f := 20) rfl ?_); refine goesL_ (some 50) rfl rfl Tryd.func20 (by kernel_rfl) rfl #[.string a1] rfl (by (try simp only [List.map_toArray, List.map_cons, List.map_nil]); first | done | rfl | (simp only [List.length_drop, List.length_take]; rfl)) ?_; (with_reducible refine (mapping_Pattern.calls kj17 a1 t500 t501 _ A24.out).mono ?_); rintro e w26 ⟨rfl, hb⟩; refine ⟨_, rfl, ?_⟩; have n0_ := Aside0.mk (below_step (by repeat (first | (with_reducible first | exact HB.out | apply below_alloc | apply pw_below_drewN | apply below_drew1) | exact HB.out)) hb); clear HB; have HB := n0_; clear n0_; (try clear hb); (try clear hb2); (try clear hk); (try clear hi)))
         (try simp only [Act.put, List.setIfInBounds_toArray, List.set_cons_zero, List.set_cons_succ])
         go_cut [78] (fun v78 wc => ∃ (kq : Nat) (x78_24 : Bool), v78 = .bool x78_24 ∧ Aside0 (brokerlaw45_MappingBack.j2 kq a0 a1 t497 t500 x78_24 = some r) ∧ Aside0 (kq ≤ kj17) ∧ Aside0 (Below w.heap.size w wc))
         case first =>
          have H := HC25.out
          clear HC25
          by_cases c27 : t501 = true
          ·subst c27
           have H1 : (if (t500.size : Int) > 64 then (brokerlaw45_MappingBack.j2 kj17 a0 a1 t497 t500 true) else (if (t497.size : Int) > 64 then (brokerlaw45_MappingBack.j2 kj17 a0 a1 t497 t500 true) else ((brokerref01_System.f a0).bind fun t502 => (if t502 = true then (if 0 < (a1.size : Int) then (if (bt a1 0) = 43 then (brokerlaw45_MappingBack.j2 kj17 a0 a1 t497 t500 true) else (brokerlaw45_MappingBack.j2 kj17 a0 a1 t497 t500 ((bt a1 0) == 35))) else (none)) else (brokerlaw45_MappingBack.j2 kj17 a0 a1 t497 t500 false))))) = some r := by rw [if_pos rfl] at H; exact H
           clear H
           have H := H1
           clear H1
           by_cases c28 : (t500.size : Int) > 64
           ·rw [if_pos c28] at H
            have c28b0 : decide (64 < (t500.size : Int)) = true := decide_eq_true c28
            have c28b1 : decide (64 < t500.size) = true := decide_eq_true (by omega)
            clear c28
            (first | rw [c28b0] | (simp only [i64_w, i32_w]; rw [c28b0]) | skip)
            have H' := Aside0.mk H
            clear H
            go_wp2
            go_meet
            case rel => exact ⟨_, (true), (by first | rfl | (simp; done) | (simp [*]; done)), H', ⟨by have := HJ7.out; have := HJ17.out; first | omega | exact Nat.le_refl _⟩, ⟨by repeat (first | (with_reducible first | exact HB.out | apply below_alloc | apply pw_below_drewN | apply below_drew1) | exact HB.out)⟩⟩
           ·rw [if_neg c28] at H
            have c28b0 : decide (64 < (t500.size : Int)) = false := decide_eq_false c28
            have c28b1 : decide (64 < t500.size) = false := decide_eq_false (by omega)
            clear c28
            (first | rw [c28b0] | (simp only [i64_w, i32_w]; rw [c28b0]) | skip)
            by_cases c29 : (t497.size : Int) > 64
            ·rw [if_pos c29] at H
             have c29b0 : decide (64 < (t497.size : Int)) = true := decide_eq_true c29
             have c29b1 : decide (64 < t497.size) = true := decide_eq_true (by omega)
             clear c29
             have H' := Aside0.mk H
             clear H
             go_wp2
             go_meet
             case rel => exact ⟨_, (true), (by first | rfl | (simp; done) | (simp [*]; done)), H', ⟨by have := HJ7.out; have := HJ17.out; first | omega | exact Nat.le_refl _⟩, ⟨by repeat (first | (with_reducible first | exact HB.out | apply below_alloc | apply pw_below_drewN | apply below_drew1) | exact HB.out)⟩⟩
            ·rw [if_neg c29] at H
             have c29b0 : decide (64 < (t497.size : Int)) = false := decide_eq_false c29
             have c29b1 : decide (64 < t497.size) = false := decide_eq_false (by omega)
             clear c29
             replace H := Option.bind_eq_some_iff.mp H
             obtain ⟨t502, A300, H⟩ := H
             replace H : (if t502 = true then (if 0 < (a1.size : Int) then (if (bt a1 0) = 43 then (brokerlaw45_MappingBack.j2 kj17 a0 a1 t497 t500 true) else (brokerlaw45_MappingBack.j2 kj17 a0 a1 t497 t500 ((bt a1 0) == 35))) else (none)) else (brokerlaw45_MappingBack.j2 kj17 a0 a1 t497 t500 false)) = some r := H
             have A30 := Aside0.mk A300
             clear A300
             by_cases c31 : t502 = true
             ·subst c31
              have H1 : (if 0 < (a1.size : Int) then (if (bt a1 0) = 43 then (brokerlaw45_MappingBack.j2 kj17 a0 a1 t497 t500 true) else (brokerlaw45_MappingBack.j2 kj17 a0 a1 t497 t500 ((bt a1 0) == 35))) else (none)) = some r := by rw [if_pos rfl] at H; exact H
              clear H
              have H := H1
              clear H1
              by_cases c32 : 0 < (a1.size : Int)
              ·rw [if_pos c32] at H
               have c32b0 : decide (0 < (a1.size : Int)) = true := decide_eq_true c32
               have c32b1 : decide (0 < a1.size) = true := decide_eq_true (by omega)
               clear c32
               by_cases c34 : (bt a1 0) = 43
               ·rw [if_pos c34] at H
                have c34b0 : ((bt a1 0) == 43) = true := beq_iff_eq.mpr c34
                have c34b1 : ((bt a1 0) != 43) = false := bne_eq_false_iff_eq.mpr c34
                clear c34
                have H' := Aside0.mk H
                clear H
                go_wp2_with (first | (go_at_call 27; (with_reducible refine (brokerref01_System.calls a0 true _ A30.out).mono ?_); rintro e w' ⟨rfl, ⟨nd, rfl⟩⟩; have p33 : 0 ≤ (0 : Int) := (by omega); have q33 : 0 < a1.size := (by have : (0 : Int) < (a1.size : Int) := of_decide_eq_true (by first | (with_reducible assumption) | assumption); omega); have hx33 : ∀ h : 0 < a1.size, ((a1[0]'h).toNat : Int) = bt a1 0 := bt_at a1 0; clear p33; have qi33 : (0 < (a1.size : Int)) = True := eq_true (of_decide_eq_true (by first | (with_reducible assumption) | assumption)); replace q33 := eq_true q33))
                go_meet
                case rel => exact ⟨_, (true), (by first | rfl | (simp; done) | (simp [*]; done)), H', ⟨by have := HJ7.out; have := HJ17.out; first | omega | exact Nat.le_refl _⟩, ⟨by repeat (first | (with_reducible first | exact HB.out | apply below_alloc | apply pw_below_drewN | apply below_drew1) | exact HB.out)⟩⟩
               ·rw [if_neg c34] at H
                have c34b0 : ((bt a1 0) == 43) = false := beq_eq_false_iff_ne.mpr c34
                have c34b1 : ((bt a1 0) != 43) = true := bne_iff_ne.mpr c34
                have H' := Aside0.mk H
                clear H
                go_wp2_with (first | (go_at_call 27; (with_reducible refine (brokerref01_System.calls a0 true _ A30.out).mono ?_); rintro e w' ⟨rfl, ⟨nd, rfl⟩⟩; have p33 : 0 ≤ (0 : Int) := (by omega); have q33 : 0 < a1.size := (by have : (0 : Int) < (a1.size : Int) := of_decide_eq_true (by first | (with_reducible assumption) | assumption); omega); have hx33 : ∀ h : 0 < a1.size, ((a1[0]'h).toNat : Int) = bt a1 0 := bt_at a1 0; clear p33; have qi33 : (0 < (a1.size : Int)) = True := eq_true (of_decide_eq_true (by first | (with_reducible assumption) | assumption)); replace q33 := eq_true q33; have p35 : 0 ≤ (0 : Int) := (by omega); have q35 : 0 < a1.size := (by have : (0 : Int) < (a1.size : Int) := of_decide_eq_true (by first | (with_reducible assumption) | assumption); omega); have hx35 : ∀ h : 0 < a1.size, ((a1[0]'h).toNat : Int) = bt a1 0 := bt_at a1 0; clear p35; have qi35 : (0 < (a1.size : Int)) = True := eq_true (of_decide_eq_true (by first | (with_reducible assumption) | assumption)); replace q35 := eq_true q35))
                go_meet
                case rel => exact ⟨_, (((bt a1 0) == 35)), (by first | rfl | (simp; done) | (simp [*]; done)), H', ⟨by have := HJ7.out; have := HJ17.out; first | omega | exact Nat.le_refl _⟩, ⟨by repeat (first | (with_reducible first | exact HB.out | apply below_alloc | apply pw_below_drewN | apply below_drew1) | exact HB.out)⟩⟩
              ·rw [if_neg c32] at H
               exact absurd H (by simp)
             ·replace c31 := Bool.eq_false_iff.mpr c31
              subst c31
              have H1 : (brokerlaw45_MappingBack.j2 kj17 a0 a1 t497 t500 false) = some r := by rw [if_neg (show ¬ (false = true) by decide)] at H; exact H
              clear H
              have H := H1
              clear H1
              have H' := Aside0.mk H
              clear H
              go_wp2_with (first | (go_at_call 27; (with_reducible refine (brokerref01_System.calls a0 false _ A30.out).mono ?_); rintro e w' ⟨rfl, ⟨nd, rfl⟩⟩))
              go_meet
              case rel => exact ⟨_, (false), (by first | rfl | (simp; done) | (simp [*]; done)), H', ⟨by have := HJ7.out; have := HJ17.out; first | omega | exact Nat.le_refl _⟩, ⟨by repeat (first | (with_reducible first | exact HB.out | apply below_alloc | apply pw_below_drewN | apply below_drew1) | exact HB.out)⟩⟩
          ·replace c27 := Bool.eq_false_iff.mpr c27
           subst c27
           have H1 : (brokerlaw45_MappingBack.j2 kj17 a0 a1 t497 t500 true) = some r := by rw [if_neg (show ¬ (false = true) by decide)] at H; exact H
           clear H
           have H := H1
           clear H1
           have H' := Aside0.mk H
           clear H
           go_wp2
           go_meet
           case rel => exact ⟨_, (true), (by first | rfl | (simp; done) | (simp [*]; done)), H', ⟨by have := HJ7.out; have := HJ17.out; first | omega | exact Nat.le_refl _⟩, ⟨by repeat (first | (with_reducible first | exact HB.out | apply below_alloc | apply pw_below_drewN | apply below_drew1) | exact HB.out)⟩⟩
         case rest =>
          clear HC25
          try clear c1
          try clear c2
          try clear p2
          try clear c3
          try clear p3
          try clear q3
          try clear hx3
          try clear qi3
          try clear c4
          try clear c4b0
          try clear c4b1
          try clear c10
          try clear c11
          try clear c13
          try clear c15
          try clear c20
          try clear c22
          try clear c23
          try clear c24
          try clear c26
          try clear c27
          try clear c28
          try clear c28b0
          try clear c28b1
          try clear c29
          try clear c29b0
          try clear c29b1
          try clear c31
          try clear c32
          try clear c32b0
          try clear c32b1
          try clear p33
          try clear q33
          try clear hx33
          try clear qi33
          try clear c34
          try clear c34b0
          try clear c34b1
          try clear p35
          try clear q35
          try clear hx35
          try clear qi35
          try clear p2
          try clear p33
          try clear p35
          try clear q33
          try clear q35
          obtain ⟨kq, x78_24, rfl, HA, HJ24, HB⟩ := hcut
          cases kq with
          | zero => exact absurd HA.out (by simp [brokerlaw45_MappingBack.j2])
          | succ kj24 =>
           have H := HA.out
           clear HA
           simp only [brokerlaw45_MappingBack.j2] at H
           by_cases c36 : x78_24 = true
           ·subst c36
            have H1 : ((brokerlaw45_awake.f kj24).bind fun t503 => (some t503)) = some r := by rw [if_pos rfl] at H; exact H
            clear H
            have H := H1
            clear H1
            replace H := Option.bind_eq_some_iff.mp H
            obtain ⟨t503, A370, H⟩ := H
            replace H : (some t503) = some r := H
            have A37 := Aside0.mk A370
            clear A370
            obtain rfl := Option.some.inj H
            go_wp2_with (first | ((with_reducible refine gate_callee (f := 11) rfl ?_); refine goesL_ (some 79) rfl rfl Tryd.func11 (by kernel_rfl) rfl #[] rfl (by (try simp only [List.map_toArray, List.map_cons, List.map_nil]); first | done | rfl | (simp only [List.length_drop, List.length_take]; rfl)) ?_; (with_reducible refine (brokerlaw45_awake.calls kj24  t503 _ A37.out).mono ?_); rintro e w38 ⟨rfl, hb⟩; refine ⟨_, rfl, ?_⟩; have n0_ := Aside0.mk (below_step (by repeat (first | (with_reducible first | exact HB.out | apply below_alloc | apply pw_below_drewN | apply below_drew1) | exact HB.out)) hb); clear HB; have HB := n0_; clear n0_; (try clear hb); (try clear hb2); (try clear hk); (try clear hi)))
            go_ret
            exact ⟨by first | rfl | (simp [errW_none, errW_some] <;> rfl) | (simp [*, errW_none, errW_some] <;> rfl), by repeat (first | (with_reducible first | exact HB.out | apply below_alloc | apply pw_below_drewN | apply below_drew1) | exact HB.out)⟩
           ·replace c36 := Bool.eq_false_iff.mpr c36
            subst c36
            have H1 : ((brokerlaw45_awake.f kj24).bind fun t504 => (if t504 = true then ((brokerref24_Matches.f kj24 t500 t497).bind fun t505 => ((brokerref02_Matches.f kj24 a1 a0).bind fun t506 => (some (t505 == t506)))) else (none))) = some r := by rw [if_neg (show ¬ (false = true) by decide)] at H; exact H
            clear H
            have H := H1
            clear H1
            replace H := Option.bind_eq_some_iff.mp H
            obtain ⟨t504, A390, H⟩ := H
            replace H : (if t504 = true then ((brokerref24_Matches.f kj24 t500 t497).bind fun t505 => ((brokerref02_Matches.f kj24 a1 a0).bind fun t506 => (some (t505 == t506)))) else (none)) = some r := H
            have A39 := Aside0.mk A390
            clear A390
            by_cases c40 : t504 = true
            ·subst c40
             have H1 : ((brokerref24_Matches.f kj24 t500 t497).bind fun t505 => ((brokerref02_Matches.f kj24 a1 a0).bind fun t506 => (some (t505 == t506)))) = some r := by rw [if_pos rfl] at H; exact H
             clear H
             have H := H1
             clear H1
             replace H := Option.bind_eq_some_iff.mp H
             obtain ⟨t505, A410, H⟩ := H
             replace H : ((brokerref02_Matches.f kj24 a1 a0).bind fun t506 => (some (t505 == t506))) = some r := H
             have A41 := Aside0.mk A410
             clear A410
             replace H := Option.bind_eq_some_iff.mp H
             obtain ⟨t506, A420, H⟩ := H
             replace H : (some (t505 == t506)) = some r := H
             have A42 := Aside0.mk A420
             clear A420
             obtain rfl := Option.some.inj H
             go_wp2_with (first | ((with_reducible refine gate_callee (f := 11) rfl ?_); refine goesL_ (some 80) rfl rfl Tryd.func11 (by kernel_rfl) rfl #[] rfl (by (try simp only [List.map_toArray, List.map_cons, List.map_nil]); first | done | rfl | (simp only [List.length_drop, List.length_take]; rfl)) ?_; (with_reducible refine (brokerlaw45_awake.calls kj24  true _ A39.out).mono ?_); rintro e w43 ⟨rfl, hb⟩; refine ⟨_, rfl, ?_⟩; have n0_ := Aside0.mk (below_step (by repeat (first | (with_reducible first | exact HB.out | apply below_alloc | apply pw_below_drewN | apply below_drew1) | exact HB.out)) hb); clear HB; have HB := n0_; clear n0_; (try clear hb); (try clear hb2); (try clear hk); (try clear hi)) | (go_at_call 28; (with_reducible refine (brokerref24_Matches.calls kj24 t500 t497 t505 _ A41.out).mono ?_); rintro e w44 ⟨rfl, hb⟩; have n0_ := Aside0.mk (below_step (by repeat (first | (with_reducible first | exact HB.out | apply below_alloc | apply pw_below_drewN | apply below_drew1) | exact HB.out)) hb); clear HB; have HB := n0_; clear n0_; (try clear hb); (try clear hb2); (try clear hk); (try clear hi)) | (go_at_call 29; (with_reducible refine (brokerref02_Matches.calls kj24 a1 a0 t506 _ A42.out).mono ?_); rintro e w45 ⟨rfl, hb⟩; have n0_ := Aside0.mk (below_step (by repeat (first | (with_reducible first | exact HB.out | apply below_alloc | apply pw_below_drewN | apply below_drew1) | exact HB.out)) hb); clear HB; have HB := n0_; clear n0_; (try clear hb); (try clear hb2); (try clear hk); (try clear hi)))
             go_ret
             exact ⟨by first | rfl | (simp [errW_none, errW_some] <;> rfl) | (simp [*, errW_none, errW_some] <;> rfl), by repeat (first | (with_reducible first | exact HB.out | apply below_alloc | apply pw_below_drewN | apply below_drew1) | exact HB.out)⟩
            ·replace c40 := Bool.eq_false_iff.mpr c40
             subst c40
             have H1 : (none) = some r := by rw [if_neg (show ¬ (false = true) by decide)] at H; exact H
             clear H
             have H := H1
             clear H1
             exact absurd H (by simp)
     ·replace c15 := Bool.eq_false_iff.mpr c15
      subst c15
      have H1 : ((brokerlaw45_awake.f kj7).bind fun t496 => (some t496)) = some r := by rw [if_neg (show ¬ (false = true) by decide)] at H; exact H
      clear H
      have H := H1
      clear H1
      replace H := Option.bind_eq_some_iff.mp H
      obtain ⟨t496, A460, H⟩ := H
      replace H : (some t496) = some r := H
      have A46 := Aside0.mk A460
      clear A460
      obtain rfl := Option.some.inj H
      go_wp2_with (first | ((with_reducible refine gate_callee (f := 26) rfl ?_); refine goesL_ (some 31) rfl rfl Tryd.func26 (by kernel_rfl) rfl #[.string a0] rfl (by (try simp only [List.map_toArray, List.map_cons, List.map_nil]); first | done | rfl | (simp only [List.length_drop, List.length_take]; rfl)) ?_; (with_reducible refine (brokerref01_Valid.calls kj7 a0 false _ A14.out).mono ?_); rintro e w47 ⟨rfl, hb⟩; refine ⟨_, rfl, ?_⟩; have n0_ := Aside0.mk (below_step (by repeat (first | (with_reducible first | exact HB.out | apply below_alloc | apply pw_below_drewN | apply below_drew1) | exact HB.out)) hb); clear HB; have HB := n0_; clear n0_; (try clear hb); (try clear hb2); (try clear hk); (try clear hi)) | ((with_reducible refine gate_callee (f := 11) rfl ?_); refine goesL_ (some 33) rfl rfl Tryd.func11 (by kernel_rfl) rfl #[] rfl (by (try simp only [List.map_toArray, List.map_cons, List.map_nil]); first | done | rfl | (simp only [List.length_drop, List.length_take]; rfl)) ?_; (with_reducible refine (brokerlaw45_awake.calls kj7  t496 _ A46.out).mono ?_); rintro e w48 ⟨rfl, hb⟩; refine ⟨_, rfl, ?_⟩; have n0_ := Aside0.mk (below_step (by repeat (first | (with_reducible first | exact HB.out | apply below_alloc | apply pw_below_drewN | apply below_drew1) | exact HB.out)) hb); clear HB; have HB := n0_; clear n0_; (try clear hb); (try clear hb2); (try clear hk); (try clear hi)))
      go_ret
      exact ⟨by first | rfl | (simp [errW_none, errW_some] <;> rfl) | (simp [*, errW_none, errW_some] <;> rfl), by repeat (first | (with_reducible first | exact HB.out | apply below_alloc | apply pw_below_drewN | apply below_drew1) | exact HB.out)⟩

/-- THE ONE PURE STATEMENT of brokerlaw45_MappingBack: yours. -/
def brokerlaw45_MappingBack.Pure : Prop := ∀ (a0 : ByteArray) (a1 : ByteArray) (a2 : ByteArray), a0.size ≤ 140737488351232 → a1.size ≤ 140737488351232 → a2.size ≤ 140737488351232 → ∃ k, brokerlaw45_MappingBack.f k a0 a1 a2 = some true
theorem brokerlaw45_MappingBack.walk (P : brokerlaw45_MappingBack.Pure) (a0 : ByteArray) (a1 : ByteArray) (a2 : ByteArray) (w : World) (w0 : a0.size ≤ 140737488351232) (w1 : a1.size ≤ 140737488351232) (w2 : a2.size ≤ 140737488351232) :
  Calls Tryd.prog 10 #[.string a0, .string a1, .string a2] w fun e w' => e = .returned (.bool true) ∧ Below w.heap.size w w' := by
 obtain ⟨k, h⟩ := P a0 a1 a2 w0 w1 w2
 refine (brokerlaw45_MappingBack.calls k a0 a1 a2 true w h).mono ?_
 rintro e w' ⟨rfl, hd⟩
 exact ⟨rfl, hd⟩

end Go.Proofs.YtegcobkhejpmkaaDoor.P
