/- Printed by a program of this session (wip/tools) over the translation: Go functions as plain Lean functions, and their contracts. -/
import Derived.Test.YtgdamingkgafhaaDoorPx0
namespace Go.Proofs.YtgdamingkgafhaaDoor.P
open Go.RowKit Go.Proofs.YtgdamingkgafhaaDoorW.PrintWords Go.Proofs.YtgdamingkgafhaaDoorW.PrintLast Go.Proofs.YtgdamingkgafhaaDoorW.PrintMore
attribute [local go_sem] max2_int min2_int max_two min_two max_three min_three max_four min_four   -- for this text's walks alone
set_option linter.unusedVariables false
set_option linter.unusedSimpArgs false

/-! ### match_meet: function 62 -/
mutual
def match_meet.l0 : Nat → List ByteArray → List ByteArray → Option (Bool)
 | 0, _, _ => none
 | k + 1, x0, x1 => if (x0.length : Int) > 0 then (if 0 < (x0.length : Int) then (if (rdOf ByteArray.empty x0 0).toList = ([35] : List UInt8) then (match_meet.j1 k x0 x1 true) else (if (x1.length : Int) > 0 then (if 0 < (x1.length : Int) then (match_meet.j1 k x0 x1 ((rdOf ByteArray.empty x1 0).toList == ([35] : List UInt8))) else (none)) else (match_meet.j1 k x0 x1 false))) else (none)) else (if (x1.length : Int) > 0 then (if 0 < (x1.length : Int) then (match_meet.j1 k x0 x1 ((rdOf ByteArray.empty x1 0).toList == ([35] : List UInt8))) else (none)) else (match_meet.j1 k x0 x1 false))
def match_meet.j1 : Nat → List ByteArray → List ByteArray → Bool → Option (Bool)
 | 0, _, _, _ => none
 | k + 1, x0, x1, x5 => if x5 = true then (some true) else (if (x0.length : Int) = 0 then (match_meet.j2 k x0 x1 true) else (match_meet.j2 k x0 x1 ((x1.length : Int) == 0)))
def match_meet.j2 : Nat → List ByteArray → List ByteArray → Bool → Option (Bool)
 | 0, _, _, _ => none
 | k + 1, x0, x1, x26 => if x26 = true then (some ((x0.length : Int) == (x1.length : Int))) else (if 0 < (x0.length : Int) then (if 0 < (x1.length : Int) then (if (rdOf ByteArray.empty x0 0).toList = (rdOf ByteArray.empty x1 0).toList then (if 1 ≤ (x0.length : Int) then (if 1 ≤ (x1.length : Int) then (match_meet.l0 k (x0.drop 1) (x1.drop 1)) else (none)) else (none)) else (if (rdOf ByteArray.empty x0 0).toList = ([43] : List UInt8) then (if 1 ≤ (x0.length : Int) then (if 1 ≤ (x1.length : Int) then (match_meet.l0 k (x0.drop 1) (x1.drop 1)) else (none)) else (none)) else (if (rdOf ByteArray.empty x1 0).toList = ([43] : List UInt8) then (if 1 ≤ (x0.length : Int) then (if 1 ≤ (x1.length : Int) then (match_meet.l0 k (x0.drop 1) (x1.drop 1)) else (none)) else (none)) else (some false)))) else (none)) else (none))
end
def match_meet.f (k : Nat) (l0 : List ByteArray) (l1 : List ByteArray) : Option (Bool) := match_meet.l0 k l0 l1
theorem match_meet.mono_l : ∀ k, (∀ y0 y1, LeO (match_meet.l0 k y0 y1) (match_meet.l0 (k + 1) y0 y1)) ∧ (∀ y0 y1 y2, LeO (match_meet.j1 k y0 y1 y2) (match_meet.j1 (k + 1) y0 y1 y2)) ∧ (∀ y0 y1 y2, LeO (match_meet.j2 k y0 y1 y2) (match_meet.j2 (k + 1) y0 y1 y2))
 | 0 => ⟨fun _ _ r h => by simp [match_meet.l0] at h, fun _ _ _ r h => by simp [match_meet.j1] at h, fun _ _ _ r h => by simp [match_meet.j2] at h⟩
 | k + 1 => by
  obtain ⟨ih0, ih1, ih2⟩ := match_meet.mono_l k
  refine ⟨?_, ?_, ?_⟩
  ·intro y0 y1
   unfold match_meet.l0
   repeat' first
   | (with_reducible exact ih0 _ _)
   | (with_reducible exact ih1 _ _ _)
   | (with_reducible exact ih2 _ _ _)
   | (with_reducible exact LeO.refl _)
   | (with_reducible exact LeO.none _)
   | (with_reducible refine LeO.ite ?_ ?_)
   | (with_reducible refine LeO.bind ?_ (fun _ => ?_))
   | exact ih0 _ _
   | exact ih1 _ _ _
   | exact ih2 _ _ _
   | exact LeO.none _
   | refine LeO.ite ?_ ?_
   | refine LeO.bind ?_ (fun _ => ?_)
  ·intro y0 y1 y2
   unfold match_meet.j1
   repeat' first
   | (with_reducible exact ih0 _ _)
   | (with_reducible exact ih1 _ _ _)
   | (with_reducible exact ih2 _ _ _)
   | (with_reducible exact LeO.refl _)
   | (with_reducible exact LeO.none _)
   | (with_reducible refine LeO.ite ?_ ?_)
   | (with_reducible refine LeO.bind ?_ (fun _ => ?_))
   | exact ih0 _ _
   | exact ih1 _ _ _
   | exact ih2 _ _ _
   | exact LeO.none _
   | refine LeO.ite ?_ ?_
   | refine LeO.bind ?_ (fun _ => ?_)
  ·intro y0 y1 y2
   unfold match_meet.j2
   repeat' first
   | (with_reducible exact ih0 _ _)
   | (with_reducible exact ih1 _ _ _)
   | (with_reducible exact ih2 _ _ _)
   | (with_reducible exact LeO.refl _)
   | (with_reducible exact LeO.none _)
   | (with_reducible refine LeO.ite ?_ ?_)
   | (with_reducible refine LeO.bind ?_ (fun _ => ?_))
   | exact ih0 _ _
   | exact ih1 _ _ _
   | exact ih2 _ _ _
   | exact LeO.none _
   | refine LeO.ite ?_ ?_
   | refine LeO.bind ?_ (fun _ => ?_)
theorem match_meet.mono : ∀ a0 a1 k, LeO (match_meet.f k a0 a1) (match_meet.f (k + 1) a0 a1) := by
 intro a0 a1 k
 obtain ⟨ih0, ih1, ih2⟩ := match_meet.mono_l k
 unfold match_meet.f
 repeat' first
   | (with_reducible exact ih0 _ _)
   | (with_reducible exact ih1 _ _ _)
   | (with_reducible exact ih2 _ _ _)
   | (with_reducible exact LeO.refl _)
   | (with_reducible exact LeO.none _)
   | (with_reducible refine LeO.ite ?_ ?_)
   | (with_reducible refine LeO.bind ?_ (fun _ => ?_))
   | exact ih0 _ _
   | exact ih1 _ _ _
   | exact ih2 _ _ _
   | exact LeO.none _
   | refine LeO.ite ?_ ?_
   | refine LeO.bind ?_ (fun _ => ?_)
set_option maxHeartbeats 8000000 in
set_option maxRecDepth 100000 in
theorem match_meet.calls (k : Nat) (P0_ : Nat → Prop) (A0 : Option Addr) (c0 : Nat) (l0 : List ByteArray) (P1_ : Nat → Prop) (A1 : Option Addr) (c1 : Nat) (l1 : List ByteArray) (r : Bool) (w : World) (hs0 : Kd.V Kd.string 9 w w.heap.size (fun k_ => P0_ k_) (.slice A0 l0.length c0) l0) (hs1 : Kd.V Kd.string 9 w w.heap.size (fun k_ => P1_ k_) (.slice A1 l1.length c1) l1) (h : match_meet.f k l0 l1 = some r) :
  Calls Tryd.prog 62 #[.slice A0 l0.length c0, .slice A1 l1.length c1] w fun e w' => e = .returned (.bool r) ∧ Below w.heap.size w w' := by
 have HO0 := Aside0.mk (show Kd.V Kd.string 9 w w.heap.size (fun k_ => ((P0_ k_ ∨ P1_ k_) ∨ w.heap.size ≤ k_)) (.slice A0 l0.length c0) l0 from Kd.V_mono hs0 (fun k_ hk => .inl (.inl hk)))
 have HO1 := Aside0.mk (show Kd.V Kd.string 9 w w.heap.size (fun k_ => ((P0_ k_ ∨ P1_ k_) ∨ w.heap.size ≤ k_)) (.slice A1 l1.length c1) l1 from Kd.V_mono hs1 (fun k_ hk => .inl (.inr hk)))
 have HB := Aside0.mk (Below.refl w.heap.size w)
 have H : (match_meet.l0 k l0 l1) = some r := h
 clear h
 have H' := Aside0.mk H
 clear H
 go_enter Tryd.func62, Tryd.ntmps62
 go_wp2
 repeat (go_quiet (fail); try go_wp2)
 go_loopg [0, 1] k (fun kq v0 v1 w' => ∃ (x0_1 : List ByteArray) (x1_1 : List ByteArray), Aside0 (match_meet.l0 kq x0_1 x1_1 = some r) ∧ Aside0 (kq ≤ k) ∧ Aside0 (Kd.V Kd.string 9 w' w.heap.size (fun k_ => ((P0_ k_ ∨ P1_ k_) ∨ w.heap.size ≤ k_)) v0 x0_1) ∧ Aside0 (Kd.V Kd.string 9 w' w.heap.size (fun k_ => ((P0_ k_ ∨ P1_ k_) ∨ w.heap.size ≤ k_)) v1 x1_1) ∧ Aside0 (Below w.heap.size w w'))
 case atStart => exact ⟨(l0), (l1), H', ⟨Nat.le_refl _⟩, ⟨by (with_reducible repeat (first | apply Kd.V_alloc | apply Kd.V_drewN | apply Kd.V_drew)); exact HO0.out⟩, ⟨by (with_reducible repeat (first | apply Kd.V_alloc | apply Kd.V_drewN | apply Kd.V_drew)); exact HO1.out⟩, ⟨by repeat (first | (with_reducible first | exact HB.out | apply below_alloc | apply pw_below_drewN | apply below_drew1) | exact HB.out)⟩⟩
 case round =>
  clear H'
  try clear c1
  try clear p2
  obtain ⟨x0_1, x1_1, HA, HK1, HO_0, HO_1, HB⟩ := hrel
  cases gk with
  | zero => exact absurd HA.out (by simp [match_meet.l0])
  | succ k1 =>
   have H := HA.out
   clear HA
   simp only [match_meet.l0] at H
   have HC3 := Aside0.mk H
   clear H
   go_upto_region 1 with (fail)
   repeat (go_quiet (fail); go_upto_region 1 with (fail))
   go_cut [5] (fun v5 wc => ∃ (kq : Nat) (x5_2 : Bool), v5 = .bool x5_2 ∧ Aside0 (match_meet.j1 kq x0_1 x1_1 x5_2 = some r) ∧ Aside0 (kq ≤ k1) ∧ Aside0 (Kd.V Kd.string 9 wc w.heap.size (fun k_ => ((P0_ k_ ∨ P1_ k_) ∨ w.heap.size ≤ k_)) u0 x0_1) ∧ Aside0 (Kd.V Kd.string 9 wc w.heap.size (fun k_ => ((P0_ k_ ∨ P1_ k_) ∨ w.heap.size ≤ k_)) u1 x1_1) ∧ Aside0 (Below w.heap.size w wc))
   case first =>
    have H := HC3.out
    clear HC3
    by_cases c4 : (x0_1.length : Int) > 0
    ·rw [if_pos c4] at H
     have c4b0 : decide (0 < (x0_1.length : Int)) = true := decide_eq_true c4
     have c4b1 : decide (0 < x0_1.length) = true := decide_eq_true (by omega)
     clear c4
     (first | rw [c4b0] | (simp only [i64_w, i32_w]; rw [c4b0]) | skip)
     by_cases c5 : 0 < (x0_1.length : Int)
     ·rw [if_pos c5] at H
      have c5b0 : decide (0 < (x0_1.length : Int)) = true := decide_eq_true c5
      have c5b1 : decide (0 < x0_1.length) = true := decide_eq_true (by omega)
      clear c5
      by_cases c6 : (rdOf ByteArray.empty x0_1 0).toList = ([35] : List UInt8)
      ·rw [if_pos c6] at H
       have c6b0 : ((rdOf ByteArray.empty x0_1 0).toList == ([35] : List UInt8)) = true := beq_iff_eq.mpr c6
       have c6b1 : ((rdOf ByteArray.empty x0_1 0).toList != ([35] : List UInt8)) = false := bne_eq_false_iff_eq.mpr c6
       clear c6
       have H' := Aside0.mk H
       clear H
       obtain ⟨Ao7, co7, eo7⟩ := Kd.V_slice HO_0.out
       subst eo7
       have p144 : 0 ≤ (0 : Int) := (by omega)
       have q144 : 0 < (x0_1.length : Int) := of_decide_eq_true (by first | (with_reducible assumption) | assumption)
       obtain ⟨ad144, e144, hx144_0⟩ := Kd.at_string (Kd.V_reads' HO_0.out).2.2 0 p144 q144
       cases e144
       have qi144 : (0 < x0_1.length) = True := eq_true (by omega)
       (try rw [show ((0 : Int)).toNat = 0 from rfl] at hx144_0)
       (try rw [Addr.add_zero'] at hx144_0)
       replace p144 := eq_true p144
       replace q144 := eq_true q144
       go_wp2
       repeat (go_quiet (fail); try go_wp2)
       go_meet
       case rel => exact ⟨_, (true), (by first | rfl | (simp; done) | (simp [*]; done)), H', ⟨by have := HK1.out; first | omega | exact Nat.le_refl _⟩, ⟨by (with_reducible repeat (first | apply Kd.V_alloc | apply Kd.V_drewN | apply Kd.V_drew)); exact HO_0.out⟩, ⟨by (with_reducible repeat (first | apply Kd.V_alloc | apply Kd.V_drewN | apply Kd.V_drew)); exact HO_1.out⟩, ⟨by repeat (first | (with_reducible first | exact HB.out | apply below_alloc | apply pw_below_drewN | apply below_drew1) | exact HB.out)⟩⟩
      ·rw [if_neg c6] at H
       have c6b0 : ((rdOf ByteArray.empty x0_1 0).toList == ([35] : List UInt8)) = false := beq_eq_false_iff_ne.mpr c6
       have c6b1 : ((rdOf ByteArray.empty x0_1 0).toList != ([35] : List UInt8)) = true := bne_iff_ne.mpr c6
       by_cases c8 : (x1_1.length : Int) > 0
       ·rw [if_pos c8] at H
        have c8b0 : decide (0 < (x1_1.length : Int)) = true := decide_eq_true c8
        have c8b1 : decide (0 < x1_1.length) = true := decide_eq_true (by omega)
        clear c8
        by_cases c9 : 0 < (x1_1.length : Int)
        ·rw [if_pos c9] at H
         have c9b0 : decide (0 < (x1_1.length : Int)) = true := decide_eq_true c9
         have c9b1 : decide (0 < x1_1.length) = true := decide_eq_true (by omega)
         clear c9
         have H' := Aside0.mk H
         clear H
         obtain ⟨Ao10, co10, eo10⟩ := Kd.V_slice HO_0.out
         subst eo10
         have p144 : 0 ≤ (0 : Int) := (by omega)
         have q144 : 0 < (x0_1.length : Int) := of_decide_eq_true (by first | (with_reducible assumption) | assumption)
         obtain ⟨ad144, e144, hx144_0⟩ := Kd.at_string (Kd.V_reads' HO_0.out).2.2 0 p144 q144
         cases e144
         have qi144 : (0 < x0_1.length) = True := eq_true (by omega)
         (try rw [show ((0 : Int)).toNat = 0 from rfl] at hx144_0)
         (try rw [Addr.add_zero'] at hx144_0)
         replace p144 := eq_true p144
         replace q144 := eq_true q144
         obtain ⟨Ao11, co11, eo11⟩ := Kd.V_slice HO_1.out
         subst eo11
         have p145 : 0 ≤ (0 : Int) := (by omega)
         have q145 : 0 < (x1_1.length : Int) := of_decide_eq_true (by first | (with_reducible assumption) | assumption)
         obtain ⟨ad145, e145, hx145_0⟩ := Kd.at_string (Kd.V_reads' HO_1.out).2.2 0 p145 q145
         cases e145
         have qi145 : (0 < x1_1.length) = True := eq_true (by omega)
         (try rw [show ((0 : Int)).toNat = 0 from rfl] at hx145_0)
         (try rw [Addr.add_zero'] at hx145_0)
         replace p145 := eq_true p145
         replace q145 := eq_true q145
         go_wp2
         repeat (go_quiet (fail); try go_wp2)
         go_meet
         case rel => exact ⟨_, (((rdOf ByteArray.empty x1_1 0).toList == ([35] : List UInt8))), (by first | rfl | (simp; done) | (simp [*]; done)), H', ⟨by have := HK1.out; first | omega | exact Nat.le_refl _⟩, ⟨by (with_reducible repeat (first | apply Kd.V_alloc | apply Kd.V_drewN | apply Kd.V_drew)); exact HO_0.out⟩, ⟨by (with_reducible repeat (first | apply Kd.V_alloc | apply Kd.V_drewN | apply Kd.V_drew)); exact HO_1.out⟩, ⟨by repeat (first | (with_reducible first | exact HB.out | apply below_alloc | apply pw_below_drewN | apply below_drew1) | exact HB.out)⟩⟩
        ·rw [if_neg c9] at H
         exact absurd H (by simp)
       ·rw [if_neg c8] at H
        have c8b0 : decide (0 < (x1_1.length : Int)) = false := decide_eq_false c8
        have c8b1 : decide (0 < x1_1.length) = false := decide_eq_false (by omega)
        clear c8
        have H' := Aside0.mk H
        clear H
        obtain ⟨Ao12, co12, eo12⟩ := Kd.V_slice HO_0.out
        subst eo12
        have p144 : 0 ≤ (0 : Int) := (by omega)
        have q144 : 0 < (x0_1.length : Int) := of_decide_eq_true (by first | (with_reducible assumption) | assumption)
        obtain ⟨ad144, e144, hx144_0⟩ := Kd.at_string (Kd.V_reads' HO_0.out).2.2 0 p144 q144
        cases e144
        have qi144 : (0 < x0_1.length) = True := eq_true (by omega)
        (try rw [show ((0 : Int)).toNat = 0 from rfl] at hx144_0)
        (try rw [Addr.add_zero'] at hx144_0)
        replace p144 := eq_true p144
        replace q144 := eq_true q144
        obtain ⟨Ao13, co13, eo13⟩ := Kd.V_slice HO_1.out
        subst eo13
        go_wp2
        repeat (go_quiet (fail); try go_wp2)
        go_meet
        case rel => exact ⟨_, (false), (by first | rfl | (simp; done) | (simp [*]; done)), H', ⟨by have := HK1.out; first | omega | exact Nat.le_refl _⟩, ⟨by (with_reducible repeat (first | apply Kd.V_alloc | apply Kd.V_drewN | apply Kd.V_drew)); exact HO_0.out⟩, ⟨by (with_reducible repeat (first | apply Kd.V_alloc | apply Kd.V_drewN | apply Kd.V_drew)); exact HO_1.out⟩, ⟨by repeat (first | (with_reducible first | exact HB.out | apply below_alloc | apply pw_below_drewN | apply below_drew1) | exact HB.out)⟩⟩
     ·rw [if_neg c5] at H
      exact absurd H (by simp)
    ·rw [if_neg c4] at H
     have c4b0 : decide (0 < (x0_1.length : Int)) = false := decide_eq_false c4
     have c4b1 : decide (0 < x0_1.length) = false := decide_eq_false (by omega)
     clear c4
     (first | rw [c4b0] | (simp only [i64_w, i32_w]; rw [c4b0]) | skip)
     by_cases c14 : (x1_1.length : Int) > 0
     ·rw [if_pos c14] at H
      have c14b0 : decide (0 < (x1_1.length : Int)) = true := decide_eq_true c14
      have c14b1 : decide (0 < x1_1.length) = true := decide_eq_true (by omega)
      clear c14
      by_cases c15 : 0 < (x1_1.length : Int)
      ·rw [if_pos c15] at H
       have c15b0 : decide (0 < (x1_1.length : Int)) = true := decide_eq_true c15
       have c15b1 : decide (0 < x1_1.length) = true := decide_eq_true (by omega)
       clear c15
       have H' := Aside0.mk H
       clear H
       obtain ⟨Ao16, co16, eo16⟩ := Kd.V_slice HO_0.out
       subst eo16
       obtain ⟨Ao17, co17, eo17⟩ := Kd.V_slice HO_1.out
       subst eo17
       have p146 : 0 ≤ (0 : Int) := (by omega)
       have q146 : 0 < (x1_1.length : Int) := of_decide_eq_true (by first | (with_reducible assumption) | assumption)
       obtain ⟨ad146, e146, hx146_0⟩ := Kd.at_string (Kd.V_reads' HO_1.out).2.2 0 p146 q146
       cases e146
       have qi146 : (0 < x1_1.length) = True := eq_true (by omega)
       (try rw [show ((0 : Int)).toNat = 0 from rfl] at hx146_0)
       (try rw [Addr.add_zero'] at hx146_0)
       replace p146 := eq_true p146
       replace q146 := eq_true q146
       go_wp2
       repeat (go_quiet (fail); try go_wp2)
       go_meet
       case rel => exact ⟨_, (((rdOf ByteArray.empty x1_1 0).toList == ([35] : List UInt8))), (by first | rfl | (simp; done) | (simp [*]; done)), H', ⟨by have := HK1.out; first | omega | exact Nat.le_refl _⟩, ⟨by (with_reducible repeat (first | apply Kd.V_alloc | apply Kd.V_drewN | apply Kd.V_drew)); exact HO_0.out⟩, ⟨by (with_reducible repeat (first | apply Kd.V_alloc | apply Kd.V_drewN | apply Kd.V_drew)); exact HO_1.out⟩, ⟨by repeat (first | (with_reducible first | exact HB.out | apply below_alloc | apply pw_below_drewN | apply below_drew1) | exact HB.out)⟩⟩
      ·rw [if_neg c15] at H
       exact absurd H (by simp)
     ·rw [if_neg c14] at H
      have c14b0 : decide (0 < (x1_1.length : Int)) = false := decide_eq_false c14
      have c14b1 : decide (0 < x1_1.length) = false := decide_eq_false (by omega)
      clear c14
      have H' := Aside0.mk H
      clear H
      obtain ⟨Ao18, co18, eo18⟩ := Kd.V_slice HO_0.out
      subst eo18
      obtain ⟨Ao19, co19, eo19⟩ := Kd.V_slice HO_1.out
      subst eo19
      go_wp2
      repeat (go_quiet (fail); try go_wp2)
      go_meet
      case rel => exact ⟨_, (false), (by first | rfl | (simp; done) | (simp [*]; done)), H', ⟨by have := HK1.out; first | omega | exact Nat.le_refl _⟩, ⟨by (with_reducible repeat (first | apply Kd.V_alloc | apply Kd.V_drewN | apply Kd.V_drew)); exact HO_0.out⟩, ⟨by (with_reducible repeat (first | apply Kd.V_alloc | apply Kd.V_drewN | apply Kd.V_drew)); exact HO_1.out⟩, ⟨by repeat (first | (with_reducible first | exact HB.out | apply below_alloc | apply pw_below_drewN | apply below_drew1) | exact HB.out)⟩⟩
   case rest =>
    clear HC3
    try clear c1
    try clear p1
    try clear q1
    try clear hx1
    try clear qi1
    try clear p2
    try clear c4
    try clear c4b0
    try clear c4b1
    try clear c5
    try clear c5b0
    try clear c5b1
    try clear c6
    try clear c6b0
    try clear c6b1
    try clear c8
    try clear c8b0
    try clear c8b1
    try clear c9
    try clear c9b0
    try clear c9b1
    try clear c14
    try clear c14b0
    try clear c14b1
    try clear p14
    try clear q14
    try clear hx14
    try clear qi14
    try clear c15
    try clear c15b0
    try clear c15b1
    try clear hx144_0
    try clear hx145_0
    try clear hx146_0
    try clear p144
    try clear p145
    try clear p146
    try clear p2
    try clear q144
    try clear q145
    try clear q146
    obtain ⟨kq, x5_2, rfl, HA, HJ2, HO_0, HO_1, HB⟩ := hcut
    cases kq with
    | zero => exact absurd HA.out (by simp [match_meet.j1])
    | succ kj2 =>
     have H := HA.out
     clear HA
     simp only [match_meet.j1] at H
     by_cases c20 : x5_2 = true
     ·subst c20
      have H1 : (some true) = some r := by rw [if_pos rfl] at H; exact H
      clear H
      have H := H1
      clear H1
      obtain rfl := Option.some.inj H
      go_wp2
      repeat (go_quiet (fail); try go_wp2)
      go_ret
      exact ⟨by first | rfl | (simp [errW_none, errW_some] <;> rfl) | (simp [*, errW_none, errW_some] <;> rfl), by repeat (first | (with_reducible first | exact HB.out | apply below_alloc | apply pw_below_drewN | apply below_drew1) | exact HB.out)⟩
     ·replace c20 := Bool.eq_false_iff.mpr c20
      subst c20
      have H1 : (if (x0_1.length : Int) = 0 then (match_meet.j2 kj2 x0_1 x1_1 true) else (match_meet.j2 kj2 x0_1 x1_1 ((x1_1.length : Int) == 0))) = some r := by rw [if_neg (show ¬ (false = true) by decide)] at H; exact H
      clear H
      have H := H1
      clear H1
      have HC21 := Aside0.mk H
      clear H
      go_upto_region 3 with (fail)
      repeat (go_quiet (fail); go_upto_region 3 with (fail))
      go_cut [26] (fun v26 wc => ∃ (kq : Nat) (x26_20 : Bool), v26 = .bool x26_20 ∧ Aside0 (match_meet.j2 kq x0_1 x1_1 x26_20 = some r) ∧ Aside0 (kq ≤ kj2) ∧ Aside0 (Kd.V Kd.string 9 wc w.heap.size (fun k_ => ((P0_ k_ ∨ P1_ k_) ∨ w.heap.size ≤ k_)) u0 x0_1) ∧ Aside0 (Kd.V Kd.string 9 wc w.heap.size (fun k_ => ((P0_ k_ ∨ P1_ k_) ∨ w.heap.size ≤ k_)) u1 x1_1) ∧ Aside0 (Below w.heap.size w wc))
      case first =>
       have H := HC21.out
       clear HC21
       by_cases c22 : (x0_1.length : Int) = 0
       ·rw [if_pos c22] at H
        have c22b0 : ((x0_1.length : Int) == 0) = true := beq_iff_eq.mpr c22
        have c22b1 : ((x0_1.length : Int) != 0) = false := bne_eq_false_iff_eq.mpr c22
        clear c22
        (first | rw [c22b0] | (simp only [i64_w, i32_w]; rw [c22b0]) | skip)
        have H' := Aside0.mk H
        clear H
        obtain ⟨Ao23, co23, eo23⟩ := Kd.V_slice HO_0.out
        subst eo23
        go_wp2
        repeat (go_quiet (fail); try go_wp2)
        go_meet
        case rel => exact ⟨_, (true), (by first | rfl | (simp; done) | (simp [*]; done)), H', ⟨by have := HK1.out; have := HJ2.out; first | omega | exact Nat.le_refl _⟩, ⟨by (with_reducible repeat (first | apply Kd.V_alloc | apply Kd.V_drewN | apply Kd.V_drew)); exact HO_0.out⟩, ⟨by (with_reducible repeat (first | apply Kd.V_alloc | apply Kd.V_drewN | apply Kd.V_drew)); exact HO_1.out⟩, ⟨by repeat (first | (with_reducible first | exact HB.out | apply below_alloc | apply pw_below_drewN | apply below_drew1) | exact HB.out)⟩⟩
       ·rw [if_neg c22] at H
        have c22b0 : ((x0_1.length : Int) == 0) = false := beq_eq_false_iff_ne.mpr c22
        have c22b1 : ((x0_1.length : Int) != 0) = true := bne_iff_ne.mpr c22
        have c22b2 : ¬ (x0_1 = []) := fun h_ => c22 (by rw [h_]; rfl)
        (first | rw [c22b0] | (simp only [i64_w, i32_w]; rw [c22b0]) | skip)
        have H' := Aside0.mk H
        clear H
        obtain ⟨Ao24, co24, eo24⟩ := Kd.V_slice HO_0.out
        subst eo24
        obtain ⟨Ao25, co25, eo25⟩ := Kd.V_slice HO_1.out
        subst eo25
        go_wp2
        repeat (go_quiet (fail); try go_wp2)
        go_meet
        case rel => exact ⟨_, (((x1_1.length : Int) == 0)), (by first | rfl | (simp; done) | (simp [*]; done)), H', ⟨by have := HK1.out; have := HJ2.out; first | omega | exact Nat.le_refl _⟩, ⟨by (with_reducible repeat (first | apply Kd.V_alloc | apply Kd.V_drewN | apply Kd.V_drew)); exact HO_0.out⟩, ⟨by (with_reducible repeat (first | apply Kd.V_alloc | apply Kd.V_drewN | apply Kd.V_drew)); exact HO_1.out⟩, ⟨by repeat (first | (with_reducible first | exact HB.out | apply below_alloc | apply pw_below_drewN | apply below_drew1) | exact HB.out)⟩⟩
      case rest =>
       clear HC21
       try clear c1
       try clear p1
       try clear q1
       try clear hx1
       try clear qi1
       try clear c2
       try clear p2
       try clear c4
       try clear c4b0
       try clear c4b1
       try clear c5
       try clear c5b0
       try clear c5b1
       try clear c6
       try clear c6b0
       try clear c6b1
       try clear c8
       try clear c8b0
       try clear c8b1
       try clear c9
       try clear c9b0
       try clear c9b1
       try clear c14
       try clear c14b0
       try clear c14b1
       try clear p14
       try clear q14
       try clear hx14
       try clear qi14
       try clear c15
       try clear c15b0
       try clear c15b1
       try clear c20
       try clear c22
       try clear c22b0
       try clear c22b1
       try clear c22b2
       try clear hx144_0
       try clear hx145_0
       try clear hx146_0
       try clear p1
       try clear p14
       try clear p144
       try clear p145
       try clear p146
       try clear p2
       try clear q1
       try clear q14
       try clear q144
       try clear q145
       try clear q146
       obtain ⟨kq, x26_20, rfl, HA, HJ20, HO_0, HO_1, HB⟩ := hcut
       cases kq with
       | zero => exact absurd HA.out (by simp [match_meet.j2])
       | succ kj20 =>
        have H := HA.out
        clear HA
        simp only [match_meet.j2] at H
        by_cases c26 : x26_20 = true
        ·subst c26
         have H1 : (some ((x0_1.length : Int) == (x1_1.length : Int))) = some r := by rw [if_pos rfl] at H; exact H
         clear H
         have H := H1
         clear H1
         obtain rfl := Option.some.inj H
         obtain ⟨Ao27, co27, eo27⟩ := Kd.V_slice HO_0.out
         subst eo27
         obtain ⟨Ao28, co28, eo28⟩ := Kd.V_slice HO_1.out
         subst eo28
         go_wp2
         repeat (go_quiet (fail); try go_wp2)
         go_ret
         exact ⟨by first | rfl | (simp [errW_none, errW_some] <;> rfl) | (simp [*, errW_none, errW_some] <;> rfl), by repeat (first | (with_reducible first | exact HB.out | apply below_alloc | apply pw_below_drewN | apply below_drew1) | exact HB.out)⟩
        ·replace c26 := Bool.eq_false_iff.mpr c26
         subst c26
         have H1 : (if 0 < (x0_1.length : Int) then (if 0 < (x1_1.length : Int) then (if (rdOf ByteArray.empty x0_1 0).toList = (rdOf ByteArray.empty x1_1 0).toList then (if 1 ≤ (x0_1.length : Int) then (if 1 ≤ (x1_1.length : Int) then (match_meet.l0 kj20 (x0_1.drop 1) (x1_1.drop 1)) else (none)) else (none)) else (if (rdOf ByteArray.empty x0_1 0).toList = ([43] : List UInt8) then (if 1 ≤ (x0_1.length : Int) then (if 1 ≤ (x1_1.length : Int) then (match_meet.l0 kj20 (x0_1.drop 1) (x1_1.drop 1)) else (none)) else (none)) else (if (rdOf ByteArray.empty x1_1 0).toList = ([43] : List UInt8) then (if 1 ≤ (x0_1.length : Int) then (if 1 ≤ (x1_1.length : Int) then (match_meet.l0 kj20 (x0_1.drop 1) (x1_1.drop 1)) else (none)) else (none)) else (some false)))) else (none)) else (none)) = some r := by rw [if_neg (show ¬ (false = true) by decide)] at H; exact H
         clear H
         have H := H1
         clear H1
         by_cases c29 : 0 < (x0_1.length : Int)
         ·rw [if_pos c29] at H
          have c29b0 : decide (0 < (x0_1.length : Int)) = true := decide_eq_true c29
          have c29b1 : decide (0 < x0_1.length) = true := decide_eq_true (by omega)
          clear c29
          by_cases c30 : 0 < (x1_1.length : Int)
          ·rw [if_pos c30] at H
           have c30b0 : decide (0 < (x1_1.length : Int)) = true := decide_eq_true c30
           have c30b1 : decide (0 < x1_1.length) = true := decide_eq_true (by omega)
           clear c30
           by_cases c31 : (rdOf ByteArray.empty x0_1 0).toList = (rdOf ByteArray.empty x1_1 0).toList
           ·rw [if_pos c31] at H
            have c31b0 : ((rdOf ByteArray.empty x0_1 0).toList == (rdOf ByteArray.empty x1_1 0).toList) = true := beq_iff_eq.mpr c31
            have c31b1 : ((rdOf ByteArray.empty x0_1 0).toList != (rdOf ByteArray.empty x1_1 0).toList) = false := bne_eq_false_iff_eq.mpr c31
            clear c31
            by_cases c32 : 1 ≤ (x0_1.length : Int)
            ·rw [if_pos c32] at H
             have c32b0 := eq_true c32
             have c32b1 : decide (1 ≤ (x0_1.length : Int)) = true := decide_eq_true c32
             clear c32
             obtain ⟨y149, hy149⟩ : ∃ y_ : List ByteArray, y_ = (x0_1.drop 1) := ⟨_, rfl⟩
             replace H : (if 1 ≤ (x1_1.length : Int) then (match_meet.l0 kj20 y149 (x1_1.drop 1)) else (none)) = some r := by first | (rw [hy149]; with_reducible exact H) | (have H2_ := (Option.bind_some _ _).symm.trans H; rw [hy149]; with_reducible exact H2_) | (have H2_ := (Option.bind_some _ _).symm.trans H; with_reducible exact H2_) | with_reducible exact H | (rw [hy149]; exact H) | exact H
             have Ny149 := Aside0.mk hy149
             clear hy149
             by_cases c33 : 1 ≤ (x1_1.length : Int)
             ·rw [if_pos c33] at H
              have c33b0 := eq_true c33
              have c33b1 : decide (1 ≤ (x1_1.length : Int)) = true := decide_eq_true c33
              clear c33
              obtain ⟨y154, hy154⟩ : ∃ y_ : List ByteArray, y_ = (x1_1.drop 1) := ⟨_, rfl⟩
              replace H : (match_meet.l0 kj20 y149 y154) = some r := by first | (rw [hy154]; with_reducible exact H) | (have H2_ := (Option.bind_some _ _).symm.trans H; rw [hy154]; with_reducible exact H2_) | (have H2_ := (Option.bind_some _ _).symm.trans H; with_reducible exact H2_) | with_reducible exact H | (rw [hy154]; exact H) | exact H
              have Ny154 := Aside0.mk hy154
              clear hy154
              have H' := Aside0.mk H
              clear H
              obtain ⟨Ao34, co34, eo34⟩ := Kd.V_slice HO_0.out
              subst eo34
              have p147 : 0 ≤ (0 : Int) := (by omega)
              have q147 : 0 < (x0_1.length : Int) := of_decide_eq_true (by first | (with_reducible assumption) | assumption)
              obtain ⟨ad147, e147, hx147_0⟩ := Kd.at_string (Kd.V_reads' HO_0.out).2.2 0 p147 q147
              cases e147
              have qi147 : (0 < x0_1.length) = True := eq_true (by omega)
              (try rw [show ((0 : Int)).toNat = 0 from rfl] at hx147_0)
              (try rw [Addr.add_zero'] at hx147_0)
              replace p147 := eq_true p147
              replace q147 := eq_true q147
              obtain ⟨Ao35, co35, eo35⟩ := Kd.V_slice HO_1.out
              subst eo35
              have p148 : 0 ≤ (0 : Int) := (by omega)
              have q148 : 0 < (x1_1.length : Int) := of_decide_eq_true (by first | (with_reducible assumption) | assumption)
              obtain ⟨ad148, e148, hx148_0⟩ := Kd.at_string (Kd.V_reads' HO_1.out).2.2 0 p148 q148
              cases e148
              have qi148 : (0 < x1_1.length) = True := eq_true (by omega)
              (try rw [show ((0 : Int)).toNat = 0 from rfl] at hx148_0)
              (try rw [Addr.add_zero'] at hx148_0)
              replace p148 := eq_true p148
              replace q148 := eq_true q148
              have q36 : (1 : Int) ≤ ((x0_1.length : Int) : Int) := of_decide_eq_true (by first | (with_reducible assumption) | assumption)
              obtain ⟨i036, hi036, _, hsz36, _⟩ := info_parts info9
              have hroom36 : x0_1.length ≤ co34 := (Kd.V_reads' HO_0.out).2.1
              have hC36 : Kd.F Kd.string _ _ (some ad147) x0_1.length x0_1 := (Kd.V_at (base := w.heap.size) HO_0.out).2.2
              have hcut36 := cut_from (P := Tryd.prog) 45 9 .i64 Tryd.underlying45 hi036 1 hsz36 (some ad147) x0_1.length co34 1 (by omega) q36
              have hr36 := Kd.F_cut (m := (1 : Int).toNat) (c := co34) hC36 (by omega) hroom36
              obtain ⟨A36, hA36⟩ : ∃ A1, A1 = (if co34 = (1 : Int).toNat then (some ad147) else ((some ad147) : Option Addr).map (·.add ((1 : Int).toNat * 1))) := ⟨_, rfl⟩
              obtain ⟨c36, hc36⟩ : ∃ c1, c1 = co34 - (1 : Int).toNat := ⟨_, rfl⟩
              have hy36 : y149.length = x0_1.length - (1 : Int).toNat := (by rw [Ny149.out, List.length_drop] <;> omega)
              rw [show (x0_1).drop (1 : Int).toNat = y149 from Ny149.out.symm] at hr36
              replace hr36 : Kd.F Kd.string _ _ A36 y149.length y149 := (by rw [hA36]; exact hr36)
              rw [← hy36, ← hA36, ← hc36] at hcut36
              have HO153 := Aside0.mk (show Kd.V Kd.string 9 _ w.heap.size _ (.slice A36 y149.length c36) y149 from Kd.V_mk (by rw [hy36, hc36]; exact Nat.sub_le_sub_right hroom36 _) hr36)
              have HC153 := Aside0.mk (show y149.length ≤ c36 from by rw [hy36, hc36]; exact Nat.sub_le_sub_right hroom36 _)
              clear hr36 hC36 hroom36 hi036 hsz36 hc36
              have KY36 := Aside0.mk hy36
              have KA36 := Aside0.mk hA36
              clear hy36 hA36
              replace q36 := eq_true q36
              have q37 : (1 : Int) ≤ ((x1_1.length : Int) : Int) := of_decide_eq_true (by first | (with_reducible assumption) | assumption)
              obtain ⟨i037, hi037, _, hsz37, _⟩ := info_parts info9
              have hroom37 : x1_1.length ≤ co35 := (Kd.V_reads' HO_1.out).2.1
              have hC37 : Kd.F Kd.string _ _ (some ad148) x1_1.length x1_1 := (Kd.V_at (base := w.heap.size) HO_1.out).2.2
              have hcut37 := cut_from (P := Tryd.prog) 45 9 .i64 Tryd.underlying45 hi037 1 hsz37 (some ad148) x1_1.length co35 1 (by omega) q37
              have hr37 := Kd.F_cut (m := (1 : Int).toNat) (c := co35) hC37 (by omega) hroom37
              obtain ⟨A37, hA37⟩ : ∃ A1, A1 = (if co35 = (1 : Int).toNat then (some ad148) else ((some ad148) : Option Addr).map (·.add ((1 : Int).toNat * 1))) := ⟨_, rfl⟩
              obtain ⟨c37, hc37⟩ : ∃ c1, c1 = co35 - (1 : Int).toNat := ⟨_, rfl⟩
              have hy37 : y154.length = x1_1.length - (1 : Int).toNat := (by rw [Ny154.out, List.length_drop] <;> omega)
              rw [show (x1_1).drop (1 : Int).toNat = y154 from Ny154.out.symm] at hr37
              replace hr37 : Kd.F Kd.string _ _ A37 y154.length y154 := (by rw [hA37]; exact hr37)
              rw [← hy37, ← hA37, ← hc37] at hcut37
              have HO158 := Aside0.mk (show Kd.V Kd.string 9 _ w.heap.size _ (.slice A37 y154.length c37) y154 from Kd.V_mk (by rw [hy37, hc37]; exact Nat.sub_le_sub_right hroom37 _) hr37)
              have HC158 := Aside0.mk (show y154.length ≤ c37 from by rw [hy37, hc37]; exact Nat.sub_le_sub_right hroom37 _)
              clear hr37 hC37 hroom37 hi037 hsz37 hc37
              have KY37 := Aside0.mk hy37
              have KA37 := Aside0.mk hA37
              clear hy37 hA37
              replace q37 := eq_true q37
              go_wp2
              repeat (go_quiet (fail); try go_wp2)
              go_roundg kj20
              case measure => have := HK1.out; have := HJ2.out; have := HJ20.out; omega
              case rel => exact ⟨(y149), (y154), H', ⟨by have := HK1.out; have := HJ2.out; have := HJ20.out; omega⟩, ⟨by (with_reducible repeat (first | apply Kd.V_alloc | apply Kd.V_drewN | apply Kd.V_drew)); exact HO153.out⟩, ⟨by (with_reducible repeat (first | apply Kd.V_alloc | apply Kd.V_drewN | apply Kd.V_drew)); exact HO158.out⟩, ⟨by repeat (first | (with_reducible first | exact HB.out | apply below_alloc | apply pw_below_drewN | apply below_drew1) | exact HB.out)⟩⟩
             ·rw [if_neg c33] at H
              exact absurd H (by simp)
            ·rw [if_neg c32] at H
             exact absurd H (by simp)
           ·rw [if_neg c31] at H
            have c31b0 : ((rdOf ByteArray.empty x0_1 0).toList == (rdOf ByteArray.empty x1_1 0).toList) = false := beq_eq_false_iff_ne.mpr c31
            have c31b1 : ((rdOf ByteArray.empty x0_1 0).toList != (rdOf ByteArray.empty x1_1 0).toList) = true := bne_iff_ne.mpr c31
            by_cases c38 : (rdOf ByteArray.empty x0_1 0).toList = ([43] : List UInt8)
            ·rw [if_pos c38] at H
             have c38b0 : ((rdOf ByteArray.empty x0_1 0).toList == ([43] : List UInt8)) = true := beq_iff_eq.mpr c38
             have c38b1 : ((rdOf ByteArray.empty x0_1 0).toList != ([43] : List UInt8)) = false := bne_eq_false_iff_eq.mpr c38
             clear c38
             by_cases c39 : 1 ≤ (x0_1.length : Int)
             ·rw [if_pos c39] at H
              have c39b0 := eq_true c39
              have c39b1 : decide (1 ≤ (x0_1.length : Int)) = true := decide_eq_true c39
              clear c39
              obtain ⟨y160, hy160⟩ : ∃ y_ : List ByteArray, y_ = (x0_1.drop 1) := ⟨_, rfl⟩
              replace H : (if 1 ≤ (x1_1.length : Int) then (match_meet.l0 kj20 y160 (x1_1.drop 1)) else (none)) = some r := by first | (rw [hy160]; with_reducible exact H) | (have H2_ := (Option.bind_some _ _).symm.trans H; rw [hy160]; with_reducible exact H2_) | (have H2_ := (Option.bind_some _ _).symm.trans H; with_reducible exact H2_) | with_reducible exact H | (rw [hy160]; exact H) | exact H
              have Ny160 := Aside0.mk hy160
              clear hy160
              by_cases c40 : 1 ≤ (x1_1.length : Int)
              ·rw [if_pos c40] at H
               have c40b0 := eq_true c40
               have c40b1 : decide (1 ≤ (x1_1.length : Int)) = true := decide_eq_true c40
               clear c40
               obtain ⟨y165, hy165⟩ : ∃ y_ : List ByteArray, y_ = (x1_1.drop 1) := ⟨_, rfl⟩
               replace H : (match_meet.l0 kj20 y160 y165) = some r := by first | (rw [hy165]; with_reducible exact H) | (have H2_ := (Option.bind_some _ _).symm.trans H; rw [hy165]; with_reducible exact H2_) | (have H2_ := (Option.bind_some _ _).symm.trans H; with_reducible exact H2_) | with_reducible exact H | (rw [hy165]; exact H) | exact H
               have Ny165 := Aside0.mk hy165
               clear hy165
               have H' := Aside0.mk H
               clear H
               obtain ⟨Ao41, co41, eo41⟩ := Kd.V_slice HO_0.out
               subst eo41
               have p147 : 0 ≤ (0 : Int) := (by omega)
               have q147 : 0 < (x0_1.length : Int) := of_decide_eq_true (by first | (with_reducible assumption) | assumption)
               obtain ⟨ad147, e147, hx147_0⟩ := Kd.at_string (Kd.V_reads' HO_0.out).2.2 0 p147 q147
               cases e147
               have qi147 : (0 < x0_1.length) = True := eq_true (by omega)
               (try rw [show ((0 : Int)).toNat = 0 from rfl] at hx147_0)
               (try rw [Addr.add_zero'] at hx147_0)
               replace p147 := eq_true p147
               replace q147 := eq_true q147
               obtain ⟨Ao42, co42, eo42⟩ := Kd.V_slice HO_1.out
               subst eo42
               have p148 : 0 ≤ (0 : Int) := (by omega)
               have q148 : 0 < (x1_1.length : Int) := of_decide_eq_true (by first | (with_reducible assumption) | assumption)
               obtain ⟨ad148, e148, hx148_0⟩ := Kd.at_string (Kd.V_reads' HO_1.out).2.2 0 p148 q148
               cases e148
               have qi148 : (0 < x1_1.length) = True := eq_true (by omega)
               (try rw [show ((0 : Int)).toNat = 0 from rfl] at hx148_0)
               (try rw [Addr.add_zero'] at hx148_0)
               replace p148 := eq_true p148
               replace q148 := eq_true q148
               have p159 : 0 ≤ (0 : Int) := (by omega)
               have q159 : 0 < (x0_1.length : Int) := of_decide_eq_true (by first | (with_reducible assumption) | assumption)
               obtain ⟨ad159, e159, hx159_0⟩ := Kd.at_string (Kd.V_reads' HO_0.out).2.2 0 p159 q159
               obtain rfl : ad147 = ad159 := (by injection e159)
               have qi159 : (0 < x0_1.length) = True := eq_true (by omega)
               (try rw [show ((0 : Int)).toNat = 0 from rfl] at hx159_0)
               (try rw [Addr.add_zero'] at hx159_0)
               replace p159 := eq_true p159
               replace q159 := eq_true q159
               have q43 : (1 : Int) ≤ ((x0_1.length : Int) : Int) := of_decide_eq_true (by first | (with_reducible assumption) | assumption)
               obtain ⟨i043, hi043, _, hsz43, _⟩ := info_parts info9
               have hroom43 : x0_1.length ≤ co41 := (Kd.V_reads' HO_0.out).2.1
               have hC43 : Kd.F Kd.string _ _ (some ad147) x0_1.length x0_1 := (Kd.V_at (base := w.heap.size) HO_0.out).2.2
               have hcut43 := cut_from (P := Tryd.prog) 45 9 .i64 Tryd.underlying45 hi043 1 hsz43 (some ad147) x0_1.length co41 1 (by omega) q43
               have hr43 := Kd.F_cut (m := (1 : Int).toNat) (c := co41) hC43 (by omega) hroom43
               obtain ⟨A43, hA43⟩ : ∃ A1, A1 = (if co41 = (1 : Int).toNat then (some ad147) else ((some ad147) : Option Addr).map (·.add ((1 : Int).toNat * 1))) := ⟨_, rfl⟩
               obtain ⟨c43, hc43⟩ : ∃ c1, c1 = co41 - (1 : Int).toNat := ⟨_, rfl⟩
               have hy43 : y160.length = x0_1.length - (1 : Int).toNat := (by rw [Ny160.out, List.length_drop] <;> omega)
               rw [show (x0_1).drop (1 : Int).toNat = y160 from Ny160.out.symm] at hr43
               replace hr43 : Kd.F Kd.string _ _ A43 y160.length y160 := (by rw [hA43]; exact hr43)
               rw [← hy43, ← hA43, ← hc43] at hcut43
               have HO164 := Aside0.mk (show Kd.V Kd.string 9 _ w.heap.size _ (.slice A43 y160.length c43) y160 from Kd.V_mk (by rw [hy43, hc43]; exact Nat.sub_le_sub_right hroom43 _) hr43)
               have HC164 := Aside0.mk (show y160.length ≤ c43 from by rw [hy43, hc43]; exact Nat.sub_le_sub_right hroom43 _)
               clear hr43 hC43 hroom43 hi043 hsz43 hc43
               have KY43 := Aside0.mk hy43
               have KA43 := Aside0.mk hA43
               clear hy43 hA43
               replace q43 := eq_true q43
               have q44 : (1 : Int) ≤ ((x1_1.length : Int) : Int) := of_decide_eq_true (by first | (with_reducible assumption) | assumption)
               obtain ⟨i044, hi044, _, hsz44, _⟩ := info_parts info9
               have hroom44 : x1_1.length ≤ co42 := (Kd.V_reads' HO_1.out).2.1
               have hC44 : Kd.F Kd.string _ _ (some ad148) x1_1.length x1_1 := (Kd.V_at (base := w.heap.size) HO_1.out).2.2
               have hcut44 := cut_from (P := Tryd.prog) 45 9 .i64 Tryd.underlying45 hi044 1 hsz44 (some ad148) x1_1.length co42 1 (by omega) q44
               have hr44 := Kd.F_cut (m := (1 : Int).toNat) (c := co42) hC44 (by omega) hroom44
               obtain ⟨A44, hA44⟩ : ∃ A1, A1 = (if co42 = (1 : Int).toNat then (some ad148) else ((some ad148) : Option Addr).map (·.add ((1 : Int).toNat * 1))) := ⟨_, rfl⟩
               obtain ⟨c44, hc44⟩ : ∃ c1, c1 = co42 - (1 : Int).toNat := ⟨_, rfl⟩
               have hy44 : y165.length = x1_1.length - (1 : Int).toNat := (by rw [Ny165.out, List.length_drop] <;> omega)
               rw [show (x1_1).drop (1 : Int).toNat = y165 from Ny165.out.symm] at hr44
               replace hr44 : Kd.F Kd.string _ _ A44 y165.length y165 := (by rw [hA44]; exact hr44)
               rw [← hy44, ← hA44, ← hc44] at hcut44
               have HO169 := Aside0.mk (show Kd.V Kd.string 9 _ w.heap.size _ (.slice A44 y165.length c44) y165 from Kd.V_mk (by rw [hy44, hc44]; exact Nat.sub_le_sub_right hroom44 _) hr44)
               have HC169 := Aside0.mk (show y165.length ≤ c44 from by rw [hy44, hc44]; exact Nat.sub_le_sub_right hroom44 _)
               clear hr44 hC44 hroom44 hi044 hsz44 hc44
               have KY44 := Aside0.mk hy44
               have KA44 := Aside0.mk hA44
               clear hy44 hA44
               replace q44 := eq_true q44
               go_wp2
               repeat (go_quiet (fail); try go_wp2)
               go_roundg kj20
               case measure => have := HK1.out; have := HJ2.out; have := HJ20.out; omega
               case rel => exact ⟨(y160), (y165), H', ⟨by have := HK1.out; have := HJ2.out; have := HJ20.out; omega⟩, ⟨by (with_reducible repeat (first | apply Kd.V_alloc | apply Kd.V_drewN | apply Kd.V_drew)); exact HO164.out⟩, ⟨by (with_reducible repeat (first | apply Kd.V_alloc | apply Kd.V_drewN | apply Kd.V_drew)); exact HO169.out⟩, ⟨by repeat (first | (with_reducible first | exact HB.out | apply below_alloc | apply pw_below_drewN | apply below_drew1) | exact HB.out)⟩⟩
              ·rw [if_neg c40] at H
               exact absurd H (by simp)
             ·rw [if_neg c39] at H
              exact absurd H (by simp)
            ·rw [if_neg c38] at H
             have c38b0 : ((rdOf ByteArray.empty x0_1 0).toList == ([43] : List UInt8)) = false := beq_eq_false_iff_ne.mpr c38
             have c38b1 : ((rdOf ByteArray.empty x0_1 0).toList != ([43] : List UInt8)) = true := bne_iff_ne.mpr c38
             by_cases c45 : (rdOf ByteArray.empty x1_1 0).toList = ([43] : List UInt8)
             ·rw [if_pos c45] at H
              have c45b0 : ((rdOf ByteArray.empty x1_1 0).toList == ([43] : List UInt8)) = true := beq_iff_eq.mpr c45
              have c45b1 : ((rdOf ByteArray.empty x1_1 0).toList != ([43] : List UInt8)) = false := bne_eq_false_iff_eq.mpr c45
              clear c45
              by_cases c46 : 1 ≤ (x0_1.length : Int)
              ·rw [if_pos c46] at H
               have c46b0 := eq_true c46
               have c46b1 : decide (1 ≤ (x0_1.length : Int)) = true := decide_eq_true c46
               clear c46
               obtain ⟨y171, hy171⟩ : ∃ y_ : List ByteArray, y_ = (x0_1.drop 1) := ⟨_, rfl⟩
               replace H : (if 1 ≤ (x1_1.length : Int) then (match_meet.l0 kj20 y171 (x1_1.drop 1)) else (none)) = some r := by first | (rw [hy171]; with_reducible exact H) | (have H2_ := (Option.bind_some _ _).symm.trans H; rw [hy171]; with_reducible exact H2_) | (have H2_ := (Option.bind_some _ _).symm.trans H; with_reducible exact H2_) | with_reducible exact H | (rw [hy171]; exact H) | exact H
               have Ny171 := Aside0.mk hy171
               clear hy171
               by_cases c47 : 1 ≤ (x1_1.length : Int)
               ·rw [if_pos c47] at H
                have c47b0 := eq_true c47
                have c47b1 : decide (1 ≤ (x1_1.length : Int)) = true := decide_eq_true c47
                clear c47
                obtain ⟨y176, hy176⟩ : ∃ y_ : List ByteArray, y_ = (x1_1.drop 1) := ⟨_, rfl⟩
                replace H : (match_meet.l0 kj20 y171 y176) = some r := by first | (rw [hy176]; with_reducible exact H) | (have H2_ := (Option.bind_some _ _).symm.trans H; rw [hy176]; with_reducible exact H2_) | (have H2_ := (Option.bind_some _ _).symm.trans H; with_reducible exact H2_) | with_reducible exact H | (rw [hy176]; exact H) | exact H
                have Ny176 := Aside0.mk hy176
                clear hy176
                have H' := Aside0.mk H
                clear H
                obtain ⟨Ao48, co48, eo48⟩ := Kd.V_slice HO_0.out
                subst eo48
                have p147 : 0 ≤ (0 : Int) := (by omega)
                have q147 : 0 < (x0_1.length : Int) := of_decide_eq_true (by first | (with_reducible assumption) | assumption)
                obtain ⟨ad147, e147, hx147_0⟩ := Kd.at_string (Kd.V_reads' HO_0.out).2.2 0 p147 q147
                cases e147
                have qi147 : (0 < x0_1.length) = True := eq_true (by omega)
                (try rw [show ((0 : Int)).toNat = 0 from rfl] at hx147_0)
                (try rw [Addr.add_zero'] at hx147_0)
                replace p147 := eq_true p147
                replace q147 := eq_true q147
                obtain ⟨Ao49, co49, eo49⟩ := Kd.V_slice HO_1.out
                subst eo49
                have p148 : 0 ≤ (0 : Int) := (by omega)
                have q148 : 0 < (x1_1.length : Int) := of_decide_eq_true (by first | (with_reducible assumption) | assumption)
                obtain ⟨ad148, e148, hx148_0⟩ := Kd.at_string (Kd.V_reads' HO_1.out).2.2 0 p148 q148
                cases e148
                have qi148 : (0 < x1_1.length) = True := eq_true (by omega)
                (try rw [show ((0 : Int)).toNat = 0 from rfl] at hx148_0)
                (try rw [Addr.add_zero'] at hx148_0)
                replace p148 := eq_true p148
                replace q148 := eq_true q148
                have p159 : 0 ≤ (0 : Int) := (by omega)
                have q159 : 0 < (x0_1.length : Int) := of_decide_eq_true (by first | (with_reducible assumption) | assumption)
                obtain ⟨ad159, e159, hx159_0⟩ := Kd.at_string (Kd.V_reads' HO_0.out).2.2 0 p159 q159
                obtain rfl : ad147 = ad159 := (by injection e159)
                have qi159 : (0 < x0_1.length) = True := eq_true (by omega)
                (try rw [show ((0 : Int)).toNat = 0 from rfl] at hx159_0)
                (try rw [Addr.add_zero'] at hx159_0)
                replace p159 := eq_true p159
                replace q159 := eq_true q159
                have p170 : 0 ≤ (0 : Int) := (by omega)
                have q170 : 0 < (x1_1.length : Int) := of_decide_eq_true (by first | (with_reducible assumption) | assumption)
                obtain ⟨ad170, e170, hx170_0⟩ := Kd.at_string (Kd.V_reads' HO_1.out).2.2 0 p170 q170
                obtain rfl : ad148 = ad170 := (by injection e170)
                have qi170 : (0 < x1_1.length) = True := eq_true (by omega)
                (try rw [show ((0 : Int)).toNat = 0 from rfl] at hx170_0)
                (try rw [Addr.add_zero'] at hx170_0)
                replace p170 := eq_true p170
                replace q170 := eq_true q170
                have q50 : (1 : Int) ≤ ((x0_1.length : Int) : Int) := of_decide_eq_true (by first | (with_reducible assumption) | assumption)
                obtain ⟨i050, hi050, _, hsz50, _⟩ := info_parts info9
                have hroom50 : x0_1.length ≤ co48 := (Kd.V_reads' HO_0.out).2.1
                have hC50 : Kd.F Kd.string _ _ (some ad147) x0_1.length x0_1 := (Kd.V_at (base := w.heap.size) HO_0.out).2.2
                have hcut50 := cut_from (P := Tryd.prog) 45 9 .i64 Tryd.underlying45 hi050 1 hsz50 (some ad147) x0_1.length co48 1 (by omega) q50
                have hr50 := Kd.F_cut (m := (1 : Int).toNat) (c := co48) hC50 (by omega) hroom50
                obtain ⟨A50, hA50⟩ : ∃ A1, A1 = (if co48 = (1 : Int).toNat then (some ad147) else ((some ad147) : Option Addr).map (·.add ((1 : Int).toNat * 1))) := ⟨_, rfl⟩
                obtain ⟨c50, hc50⟩ : ∃ c1, c1 = co48 - (1 : Int).toNat := ⟨_, rfl⟩
                have hy50 : y171.length = x0_1.length - (1 : Int).toNat := (by rw [Ny171.out, List.length_drop] <;> omega)
                rw [show (x0_1).drop (1 : Int).toNat = y171 from Ny171.out.symm] at hr50
                replace hr50 : Kd.F Kd.string _ _ A50 y171.length y171 := (by rw [hA50]; exact hr50)
                rw [← hy50, ← hA50, ← hc50] at hcut50
                have HO175 := Aside0.mk (show Kd.V Kd.string 9 _ w.heap.size _ (.slice A50 y171.length c50) y171 from Kd.V_mk (by rw [hy50, hc50]; exact Nat.sub_le_sub_right hroom50 _) hr50)
                have HC175 := Aside0.mk (show y171.length ≤ c50 from by rw [hy50, hc50]; exact Nat.sub_le_sub_right hroom50 _)
                clear hr50 hC50 hroom50 hi050 hsz50 hc50
                have KY50 := Aside0.mk hy50
                have KA50 := Aside0.mk hA50
                clear hy50 hA50
                replace q50 := eq_true q50
                have q51 : (1 : Int) ≤ ((x1_1.length : Int) : Int) := of_decide_eq_true (by first | (with_reducible assumption) | assumption)
                obtain ⟨i051, hi051, _, hsz51, _⟩ := info_parts info9
                have hroom51 : x1_1.length ≤ co49 := (Kd.V_reads' HO_1.out).2.1
                have hC51 : Kd.F Kd.string _ _ (some ad148) x1_1.length x1_1 := (Kd.V_at (base := w.heap.size) HO_1.out).2.2
                have hcut51 := cut_from (P := Tryd.prog) 45 9 .i64 Tryd.underlying45 hi051 1 hsz51 (some ad148) x1_1.length co49 1 (by omega) q51
                have hr51 := Kd.F_cut (m := (1 : Int).toNat) (c := co49) hC51 (by omega) hroom51
                obtain ⟨A51, hA51⟩ : ∃ A1, A1 = (if co49 = (1 : Int).toNat then (some ad148) else ((some ad148) : Option Addr).map (·.add ((1 : Int).toNat * 1))) := ⟨_, rfl⟩
                obtain ⟨c51, hc51⟩ : ∃ c1, c1 = co49 - (1 : Int).toNat := ⟨_, rfl⟩
                have hy51 : y176.length = x1_1.length - (1 : Int).toNat := (by rw [Ny176.out, List.length_drop] <;> omega)
                rw [show (x1_1).drop (1 : Int).toNat = y176 from Ny176.out.symm] at hr51
                replace hr51 : Kd.F Kd.string _ _ A51 y176.length y176 := (by rw [hA51]; exact hr51)
                rw [← hy51, ← hA51, ← hc51] at hcut51
                have HO180 := Aside0.mk (show Kd.V Kd.string 9 _ w.heap.size _ (.slice A51 y176.length c51) y176 from Kd.V_mk (by rw [hy51, hc51]; exact Nat.sub_le_sub_right hroom51 _) hr51)
                have HC180 := Aside0.mk (show y176.length ≤ c51 from by rw [hy51, hc51]; exact Nat.sub_le_sub_right hroom51 _)
                clear hr51 hC51 hroom51 hi051 hsz51 hc51
                have KY51 := Aside0.mk hy51
                have KA51 := Aside0.mk hA51
                clear hy51 hA51
                replace q51 := eq_true q51
                go_wp2
                repeat (go_quiet (fail); try go_wp2)
                go_roundg kj20
                case measure => have := HK1.out; have := HJ2.out; have := HJ20.out; omega
                case rel => exact ⟨(y171), (y176), H', ⟨by have := HK1.out; have := HJ2.out; have := HJ20.out; omega⟩, ⟨by (with_reducible repeat (first | apply Kd.V_alloc | apply Kd.V_drewN | apply Kd.V_drew)); exact HO175.out⟩, ⟨by (with_reducible repeat (first | apply Kd.V_alloc | apply Kd.V_drewN | apply Kd.V_drew)); exact HO180.out⟩, ⟨by repeat (first | (with_reducible first | exact HB.out | apply below_alloc | apply pw_below_drewN | apply below_drew1) | exact HB.out)⟩⟩
               ·rw [if_neg c47] at H
                exact absurd H (by simp)
              ·rw [if_neg c46] at H
               exact absurd H (by simp)
             ·rw [if_neg c45] at H
              have c45b0 : ((rdOf ByteArray.empty x1_1 0).toList == ([43] : List UInt8)) = false := beq_eq_false_iff_ne.mpr c45
              have c45b1 : ((rdOf ByteArray.empty x1_1 0).toList != ([43] : List UInt8)) = true := bne_iff_ne.mpr c45
              obtain rfl := Option.some.inj H
              obtain ⟨Ao52, co52, eo52⟩ := Kd.V_slice HO_0.out
              subst eo52
              have p147 : 0 ≤ (0 : Int) := (by omega)
              have q147 : 0 < (x0_1.length : Int) := of_decide_eq_true (by first | (with_reducible assumption) | assumption)
              obtain ⟨ad147, e147, hx147_0⟩ := Kd.at_string (Kd.V_reads' HO_0.out).2.2 0 p147 q147
              cases e147
              have qi147 : (0 < x0_1.length) = True := eq_true (by omega)
              (try rw [show ((0 : Int)).toNat = 0 from rfl] at hx147_0)
              (try rw [Addr.add_zero'] at hx147_0)
              replace p147 := eq_true p147
              replace q147 := eq_true q147
              obtain ⟨Ao53, co53, eo53⟩ := Kd.V_slice HO_1.out
              subst eo53
              have p148 : 0 ≤ (0 : Int) := (by omega)
              have q148 : 0 < (x1_1.length : Int) := of_decide_eq_true (by first | (with_reducible assumption) | assumption)
              obtain ⟨ad148, e148, hx148_0⟩ := Kd.at_string (Kd.V_reads' HO_1.out).2.2 0 p148 q148
              cases e148
              have qi148 : (0 < x1_1.length) = True := eq_true (by omega)
              (try rw [show ((0 : Int)).toNat = 0 from rfl] at hx148_0)
              (try rw [Addr.add_zero'] at hx148_0)
              replace p148 := eq_true p148
              replace q148 := eq_true q148
              have p159 : 0 ≤ (0 : Int) := (by omega)
              have q159 : 0 < (x0_1.length : Int) := of_decide_eq_true (by first | (with_reducible assumption) | assumption)
              obtain ⟨ad159, e159, hx159_0⟩ := Kd.at_string (Kd.V_reads' HO_0.out).2.2 0 p159 q159
              obtain rfl : ad147 = ad159 := (by injection e159)
              have qi159 : (0 < x0_1.length) = True := eq_true (by omega)
              (try rw [show ((0 : Int)).toNat = 0 from rfl] at hx159_0)
              (try rw [Addr.add_zero'] at hx159_0)
              replace p159 := eq_true p159
              replace q159 := eq_true q159
              have p170 : 0 ≤ (0 : Int) := (by omega)
              have q170 : 0 < (x1_1.length : Int) := of_decide_eq_true (by first | (with_reducible assumption) | assumption)
              obtain ⟨ad170, e170, hx170_0⟩ := Kd.at_string (Kd.V_reads' HO_1.out).2.2 0 p170 q170
              obtain rfl : ad148 = ad170 := (by injection e170)
              have qi170 : (0 < x1_1.length) = True := eq_true (by omega)
              (try rw [show ((0 : Int)).toNat = 0 from rfl] at hx170_0)
              (try rw [Addr.add_zero'] at hx170_0)
              replace p170 := eq_true p170
              replace q170 := eq_true q170
              go_wp2
              repeat (go_quiet (fail); try go_wp2)
              go_ret
              exact ⟨by first | rfl | (simp [errW_none, errW_some] <;> rfl) | (simp [*, errW_none, errW_some] <;> rfl), by repeat (first | (with_reducible first | exact HB.out | apply below_alloc | apply pw_below_drewN | apply below_drew1) | exact HB.out)⟩
          ·rw [if_neg c30] at H
           exact absurd H (by simp)
         ·rw [if_neg c29] at H
          exact absurd H (by simp)

end Go.Proofs.YtgdamingkgafhaaDoor.P
