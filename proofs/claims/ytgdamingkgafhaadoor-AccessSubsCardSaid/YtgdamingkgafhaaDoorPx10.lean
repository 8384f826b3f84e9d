/- Printed by a program of this session (wip/tools) over the translation: Go functions as plain Lean functions, and their contracts. -/
import Derived.Test.YtgdamingkgafhaaDoorPx0
import Derived.Test.YtgdamingkgafhaaDoorPx9
namespace Go.Proofs.YtgdamingkgafhaaDoor.P
open Go.RowKit Go.Proofs.YtgdamingkgafhaaDoorW.PrintWords Go.Proofs.YtgdamingkgafhaaDoorW.PrintLast Go.Proofs.YtgdamingkgafhaaDoorW.PrintMore
attribute [local go_sem] max2_int min2_int max_two min_two max_three min_three max_four min_four   -- for this text's walks alone
set_option linter.unusedVariables false
set_option linter.unusedSimpArgs false

/-! ### brokerref01_Filter: function 29 -/
mutual
def brokerref01_Filter.l0 : Nat → List ByteArray → Int → Option (Bool)
 | 0, _, _ => none
 | k + 1, x3, x4 => if x4 < (x3.length : Int) then (if 0 ≤ x4 then ((brokerref01_Has.f k (rdOf ByteArray.empty x3 x4) 43).bind fun t274 => (if t274 = true then (brokerref01_Filter.j1 k x3 x4 ((rdOf ByteArray.empty x3 x4).toList != ([43] : List UInt8))) else (brokerref01_Filter.j1 k x3 x4 false))) else (none)) else (some true)
def brokerref01_Filter.j1 : Nat → List ByteArray → Int → Bool → Option (Bool)
 | 0, _, _, _ => none
 | k + 1, x3, x4, x27 => if x27 = true then (some false) else (if 0 ≤ x4 then (if x4 < (x3.length : Int) then ((brokerref01_Has.f k (rdOf ByteArray.empty x3 x4) 35).bind fun t277 => (if t277 = true then (if (rdOf ByteArray.empty x3 x4).toList = ([35] : List UInt8) then (if x4 = (wrap64 ((x3.length : Int) - 1)) then (brokerref01_Filter.l0 k x3 (wrap64 (x4 + 1))) else (some false)) else (some false)) else (brokerref01_Filter.l0 k x3 (wrap64 (x4 + 1))))) else (none)) else (none))
end
def brokerref01_Filter.f (k : Nat) (a0 : ByteArray) : Option (Bool) := (brokerref01_sized.f k a0).bind fun t269 => (if t269 = true then ((brokerref01_Levels.f k a0).bind fun t270 => (brokerref01_Filter.l0 k t270 0)) else (some false))
theorem brokerref01_Filter.mono_l : ∀ k, (∀ y0 y1, LeO (brokerref01_Filter.l0 k y0 y1) (brokerref01_Filter.l0 (k + 1) y0 y1)) ∧ (∀ y0 y1 y2, LeO (brokerref01_Filter.j1 k y0 y1 y2) (brokerref01_Filter.j1 (k + 1) y0 y1 y2))
 | 0 => ⟨fun _ _ r h => by simp [brokerref01_Filter.l0] at h, fun _ _ _ r h => by simp [brokerref01_Filter.j1] at h⟩
 | k + 1 => by
  obtain ⟨ih0, ih1⟩ := brokerref01_Filter.mono_l k
  refine ⟨?_, ?_⟩
  ·intro y0 y1
   unfold brokerref01_Filter.l0
   repeat' first
   | (with_reducible exact ih0 _ _)
   | (with_reducible exact ih1 _ _ _)
   | (with_reducible exact brokerref01_Has.mono _ _ _)
   | (with_reducible exact brokerref01_Levels.mono _ _)
   | (with_reducible exact brokerref01_sized.mono _ _)
   | (with_reducible exact LeO.refl _)
   | (with_reducible exact LeO.none _)
   | (with_reducible refine LeO.ite ?_ ?_)
   | (with_reducible refine LeO.bind ?_ (fun _ => ?_))
   | exact ih0 _ _
   | exact ih1 _ _ _
   | exact brokerref01_Has.mono _ _ _
   | exact brokerref01_Levels.mono _ _
   | exact brokerref01_sized.mono _ _
   | exact LeO.none _
   | refine LeO.ite ?_ ?_
   | refine LeO.bind ?_ (fun _ => ?_)
  ·intro y0 y1 y2
   unfold brokerref01_Filter.j1
   repeat' first
   | (with_reducible exact ih0 _ _)
   | (with_reducible exact ih1 _ _ _)
   | (with_reducible exact brokerref01_Has.mono _ _ _)
   | (with_reducible exact brokerref01_Levels.mono _ _)
   | (with_reducible exact brokerref01_sized.mono _ _)
   | (with_reducible exact LeO.refl _)
   | (with_reducible exact LeO.none _)
   | (with_reducible refine LeO.ite ?_ ?_)
   | (with_reducible refine LeO.bind ?_ (fun _ => ?_))
   | exact ih0 _ _
   | exact ih1 _ _ _
   | exact brokerref01_Has.mono _ _ _
   | exact brokerref01_Levels.mono _ _
   | exact brokerref01_sized.mono _ _
   | exact LeO.none _
   | refine LeO.ite ?_ ?_
   | refine LeO.bind ?_ (fun _ => ?_)
theorem brokerref01_Filter.mono : ∀ a0 k, LeO (brokerref01_Filter.f k a0) (brokerref01_Filter.f (k + 1) a0) := by
 intro a0 k
 obtain ⟨ih0, ih1⟩ := brokerref01_Filter.mono_l k
 unfold brokerref01_Filter.f
 repeat' first
   | (with_reducible exact ih0 _ _)
   | (with_reducible exact ih1 _ _ _)
   | (with_reducible exact brokerref01_Has.mono _ _ _)
   | (with_reducible exact brokerref01_Levels.mono _ _)
   | (with_reducible exact brokerref01_sized.mono _ _)
   | (with_reducible exact LeO.refl _)
   | (with_reducible exact LeO.none _)
   | (with_reducible refine LeO.ite ?_ ?_)
   | (with_reducible refine LeO.bind ?_ (fun _ => ?_))
   | exact ih0 _ _
   | exact ih1 _ _ _
   | exact brokerref01_Has.mono _ _ _
   | exact brokerref01_Levels.mono _ _
   | exact brokerref01_sized.mono _ _
   | exact LeO.none _
   | refine LeO.ite ?_ ?_
   | refine LeO.bind ?_ (fun _ => ?_)
set_option maxHeartbeats 8000000 in
set_option maxRecDepth 100000 in
theorem brokerref01_Filter.calls (k : Nat) (a0 : ByteArray) (r : Bool) (w : World) (h : brokerref01_Filter.f k a0 = some r) :
  Calls Tryd.prog 29 #[.string a0] w fun e w' => e = .returned (.bool r) ∧ Below w.heap.size w w' := by
 have HB := Aside0.mk (Below.refl w.heap.size w)
 have H : ((brokerref01_sized.f k a0).bind fun t269 => (if t269 = true then ((brokerref01_Levels.f k a0).bind fun t270 => (brokerref01_Filter.l0 k t270 0)) else (some false))) = some r := h
 clear h
 replace H := Option.bind_eq_some_iff.mp H
 obtain ⟨t269, A20, H⟩ := H
 replace H : (if t269 = true then ((brokerref01_Levels.f k a0).bind fun t270 => (brokerref01_Filter.l0 k t270 0)) else (some false)) = some r := H
 have A2 := Aside0.mk A20
 clear A20
 by_cases c3 : t269 = true
 ·subst c3
  have H1 : ((brokerref01_Levels.f k a0).bind fun t270 => (brokerref01_Filter.l0 k t270 0)) = some r := by rw [if_pos rfl] at H; exact H
  clear H
  have H := H1
  clear H1
  replace H := Option.bind_eq_some_iff.mp H
  obtain ⟨t270, A40, H⟩ := H
  replace H : (brokerref01_Filter.l0 k t270 0) = some r := H
  have A4 := Aside0.mk A40
  clear A40
  have H' := Aside0.mk H
  clear H
  go_enter Tryd.func29, Tryd.ntmps29
  go_wp2_with (first | ((with_reducible refine gate_callee (f := 54) rfl ?_); refine goesL_ (some 6) rfl rfl Tryd.func54 (by kernel_rfl) rfl #[.string a0] rfl (by (try simp only [List.map_toArray, List.map_cons, List.map_nil]); first | done | rfl | (simp only [List.length_drop, List.length_take]; rfl)) ?_; (with_reducible refine (brokerref01_sized.calls k a0 true _ A2.out).mono ?_); rintro e w5 ⟨rfl, hb⟩; refine ⟨_, rfl, ?_⟩; have n0_ := Aside0.mk (below_step (by repeat (first | (with_reducible first | exact HB.out | apply below_alloc | apply pw_below_drewN | apply below_drew1) | exact HB.out)) hb); clear HB; have HB := n0_; clear n0_; (try clear hb); (try clear hb2); (try clear hk); (try clear hi)) | ((with_reducible refine gate_callee (f := 32) rfl ?_); refine goesL_ (some 9) rfl rfl Tryd.func32 (by kernel_rfl) rfl #[.string a0] rfl (by (try simp only [List.map_toArray, List.map_cons, List.map_nil]); first | done | rfl | (simp only [List.length_drop, List.length_take]; rfl)) ?_; (with_reducible refine (brokerref01_Levels.calls k a0 t270 _ A4.out).mono ?_); rintro e w6 ⟨v271, rfl, ho0, hb⟩; refine ⟨_, rfl, ?_⟩; have n0_ := Aside0.mk (Kd.R_lower ho0 (below_size (by repeat (first | (with_reducible first | exact HB.out | apply below_alloc | apply pw_below_drewN | apply below_drew1) | exact HB.out)))); have n1_ := Aside0.mk (below_step (by repeat (first | (with_reducible first | exact HB.out | apply below_alloc | apply pw_below_drewN | apply below_drew1) | exact HB.out)) hb); clear HB; have HO272 := n0_; have HB := n1_; clear n0_ n1_; (try clear hb); (try clear hb2); (try clear hk); (try clear hi); (try clear ho0)))
  go_loopg [4] k (fun kq v4 w' => ∃ (x4_1 : Int), v4 = .int .i64 x4_1 ∧ Aside0 (brokerref01_Filter.l0 kq t270 x4_1 = some r) ∧ Aside0 (kq ≤ k) ∧ Aside0 (Kd.R Kd.string 9 w' w.heap.size (fun _ => True) v271 t270) ∧ Aside0 (Below w.heap.size w w'))
  case atStart => exact ⟨(0), (by first | rfl | (simp; done) | (simp [*]; done)), H', ⟨Nat.le_refl _⟩, ⟨by (with_reducible repeat (first | apply Kd.R_alloc | apply Kd.R_drewN | apply Kd.R_drew)); exact HO272.out⟩, ⟨by repeat (first | (with_reducible first | exact HB.out | apply below_alloc | apply pw_below_drewN | apply below_drew1) | exact HB.out)⟩⟩
  case round =>
   clear H'
   try clear c2
   try clear p2
   try clear c3
   try clear c5
   obtain ⟨x4_1, rfl, HA, HK1, HO_3, HB⟩ := hrel
   cases gk with
   | zero => exact absurd HA.out (by simp [brokerref01_Filter.l0])
   | succ k1 =>
    have H := HA.out
    clear HA
    simp only [brokerref01_Filter.l0] at H
    by_cases c7 : x4_1 < (t270.length : Int)
    ·rw [if_pos c7] at H
     have c7b0 : decide (x4_1 < (t270.length : Int)) = true := decide_eq_true c7
     clear c7
     have HC8 := Aside0.mk H
     clear H
     obtain ⟨Ao9, co9, eo9⟩ := Kd.R_slice HO_3.out
     subst eo9
     go_upto_region 7 with (fail)
     go_cut [27] (fun v27 wc => ∃ (kq : Nat) (x27_7 : Bool), v27 = .bool x27_7 ∧ Aside0 (brokerref01_Filter.j1 kq t270 x4_1 x27_7 = some r) ∧ Aside0 (kq ≤ k1) ∧ Aside0 (Kd.R Kd.string 9 wc w.heap.size (fun _ => True) (.slice Ao9 t270.length co9) t270) ∧ Aside0 (Below w.heap.size w wc))
     case first =>
      have H := HC8.out
      clear HC8
      by_cases c10 : 0 ≤ x4_1
      ·rw [if_pos c10] at H
       have c10b0 : decide (0 ≤ x4_1) = true := decide_eq_true c10
       clear c10
       (first | rw [c10b0] | (simp only [i64_w, i32_w]; rw [c10b0]) | skip)
       replace H := Option.bind_eq_some_iff.mp H
       obtain ⟨t274, A110, H⟩ := H
       replace H : (if t274 = true then (brokerref01_Filter.j1 k1 t270 x4_1 ((rdOf ByteArray.empty t270 x4_1).toList != ([43] : List UInt8))) else (brokerref01_Filter.j1 k1 t270 x4_1 false)) = some r := H
       have A11 := Aside0.mk A110
       clear A110
       by_cases c12 : t274 = true
       ·subst c12
        have H1 : (brokerref01_Filter.j1 k1 t270 x4_1 ((rdOf ByteArray.empty t270 x4_1).toList != ([43] : List UInt8))) = some r := by rw [if_pos rfl] at H; exact H
        clear H
        have H := H1
        clear H1
        have H' := Aside0.mk H
        clear H
        have p273 : 0 ≤ (x4_1 : Int) := of_decide_eq_true (by first | (with_reducible assumption) | assumption)
        have q273 : x4_1 < (t270.length : Int) := of_decide_eq_true (by first | (with_reducible assumption) | assumption)
        obtain ⟨ad273, e273, hx273_0⟩ := Kd.at_string (Kd.R_reads' HO_3.out).2.2 x4_1 p273 q273
        cases e273
        replace p273 := eq_true p273
        replace q273 := eq_true q273
        go_wp2_with (first | ((with_reducible refine gate_callee (f := 55) rfl ?_); refine goesL_ (some 20) rfl rfl Tryd.func55 (by kernel_rfl) rfl #[.string (rdOf ByteArray.empty t270 x4_1), .int .u8 43] rfl (by (try simp only [List.map_toArray, List.map_cons, List.map_nil]); first | done | rfl | (simp only [List.length_drop, List.length_take]; rfl)) ?_; (with_reducible refine (brokerref01_Has.calls k1 (rdOf ByteArray.empty t270 x4_1) 43 true _ A11.out).mono ?_); rintro e w' ⟨rfl, ⟨nd, rfl⟩⟩; refine ⟨_, rfl, ?_⟩; have p275 : 0 ≤ (x4_1 : Int) := of_decide_eq_true (by first | (with_reducible assumption) | assumption); have q275 : x4_1 < (t270.length : Int) := of_decide_eq_true (by first | (with_reducible assumption) | assumption); obtain ⟨ad275, e275, hx275_0⟩ := Kd.at_string (Kd.R_reads' HO_3.out).2.2 x4_1 p275 q275; obtain rfl : ad273 = ad275 := (by injection e275); replace p275 := eq_true p275; replace q275 := eq_true q275))
        go_meet
        case rel => exact ⟨_, (((rdOf ByteArray.empty t270 x4_1).toList != ([43] : List UInt8))), (by first | rfl | (simp; done) | (simp [*]; done)), H', ⟨by have := HK1.out; first | omega | exact Nat.le_refl _⟩, ⟨by (with_reducible repeat (first | apply Kd.R_alloc | apply Kd.R_drewN | apply Kd.R_drew)); exact HO_3.out⟩, ⟨by repeat (first | (with_reducible first | exact HB.out | apply below_alloc | apply pw_below_drewN | apply below_drew1) | exact HB.out)⟩⟩
       ·replace c12 := Bool.eq_false_iff.mpr c12
        subst c12
        have H1 : (brokerref01_Filter.j1 k1 t270 x4_1 false) = some r := by rw [if_neg (show ¬ (false = true) by decide)] at H; exact H
        clear H
        have H := H1
        clear H1
        have H' := Aside0.mk H
        clear H
        have p273 : 0 ≤ (x4_1 : Int) := of_decide_eq_true (by first | (with_reducible assumption) | assumption)
        have q273 : x4_1 < (t270.length : Int) := of_decide_eq_true (by first | (with_reducible assumption) | assumption)
        obtain ⟨ad273, e273, hx273_0⟩ := Kd.at_string (Kd.R_reads' HO_3.out).2.2 x4_1 p273 q273
        cases e273
        replace p273 := eq_true p273
        replace q273 := eq_true q273
        go_wp2_with (first | ((with_reducible refine gate_callee (f := 55) rfl ?_); refine goesL_ (some 20) rfl rfl Tryd.func55 (by kernel_rfl) rfl #[.string (rdOf ByteArray.empty t270 x4_1), .int .u8 43] rfl (by (try simp only [List.map_toArray, List.map_cons, List.map_nil]); first | done | rfl | (simp only [List.length_drop, List.length_take]; rfl)) ?_; (with_reducible refine (brokerref01_Has.calls k1 (rdOf ByteArray.empty t270 x4_1) 43 false _ A11.out).mono ?_); rintro e w' ⟨rfl, ⟨nd, rfl⟩⟩; refine ⟨_, rfl, ?_⟩))
        go_meet
        case rel => exact ⟨_, (false), (by first | rfl | (simp; done) | (simp [*]; done)), H', ⟨by have := HK1.out; first | omega | exact Nat.le_refl _⟩, ⟨by (with_reducible repeat (first | apply Kd.R_alloc | apply Kd.R_drewN | apply Kd.R_drew)); exact HO_3.out⟩, ⟨by repeat (first | (with_reducible first | exact HB.out | apply below_alloc | apply pw_below_drewN | apply below_drew1) | exact HB.out)⟩⟩
      ·rw [if_neg c10] at H
       exact absurd H (by simp)
     case rest =>
      clear HC8
      try clear c1
      try clear c2
      try clear p2
      try clear q2
      try clear hx2
      try clear c3
      try clear c5
      try clear c7
      try clear c7b0
      try clear c10
      try clear c10b0
      try clear c12
      try clear hx273_0
      try clear hx275_0
      try clear p2
      try clear p273
      try clear p275
      try clear q273
      try clear q275
      obtain ⟨kq, x27_7, rfl, HA, HJ7, HO_3, HB⟩ := hcut
      cases kq with
      | zero => exact absurd HA.out (by simp [brokerref01_Filter.j1])
      | succ kj7 =>
       have H := HA.out
       clear HA
       simp only [brokerref01_Filter.j1] at H
       by_cases c13 : x27_7 = true
       ·subst c13
        have H1 : (some false) = some r := by rw [if_pos rfl] at H; exact H
        clear H
        have H := H1
        clear H1
        obtain rfl := Option.some.inj H
        go_wp2
        go_ret
        exact ⟨by first | rfl | (simp [errW_none, errW_some] <;> rfl) | (simp [*, errW_none, errW_some] <;> rfl), by repeat (first | (with_reducible first | exact HB.out | apply below_alloc | apply pw_below_drewN | apply below_drew1) | exact HB.out)⟩
       ·replace c13 := Bool.eq_false_iff.mpr c13
        subst c13
        have H1 : (if 0 ≤ x4_1 then (if x4_1 < (t270.length : Int) then ((brokerref01_Has.f kj7 (rdOf ByteArray.empty t270 x4_1) 35).bind fun t277 => (if t277 = true then (if (rdOf ByteArray.empty t270 x4_1).toList = ([35] : List UInt8) then (if x4_1 = (wrap64 ((t270.length : Int) - 1)) then (brokerref01_Filter.l0 kj7 t270 (wrap64 (x4_1 + 1))) else (some false)) else (some false)) else (brokerref01_Filter.l0 kj7 t270 (wrap64 (x4_1 + 1))))) else (none)) else (none)) = some r := by rw [if_neg (show ¬ (false = true) by decide)] at H; exact H
        clear H
        have H := H1
        clear H1
        by_cases c14 : 0 ≤ x4_1
        ·rw [if_pos c14] at H
         have c14b0 : decide (0 ≤ x4_1) = true := decide_eq_true c14
         clear c14
         by_cases c15 : x4_1 < (t270.length : Int)
         ·rw [if_pos c15] at H
          have c15b0 : decide (x4_1 < (t270.length : Int)) = true := decide_eq_true c15
          clear c15
          replace H := Option.bind_eq_some_iff.mp H
          obtain ⟨t277, A160, H⟩ := H
          replace H : (if t277 = true then (if (rdOf ByteArray.empty t270 x4_1).toList = ([35] : List UInt8) then (if x4_1 = (wrap64 ((t270.length : Int) - 1)) then (brokerref01_Filter.l0 kj7 t270 (wrap64 (x4_1 + 1))) else (some false)) else (some false)) else (brokerref01_Filter.l0 kj7 t270 (wrap64 (x4_1 + 1)))) = some r := H
          have A16 := Aside0.mk A160
          clear A160
          by_cases c17 : t277 = true
          ·subst c17
           have H1 : (if (rdOf ByteArray.empty t270 x4_1).toList = ([35] : List UInt8) then (if x4_1 = (wrap64 ((t270.length : Int) - 1)) then (brokerref01_Filter.l0 kj7 t270 (wrap64 (x4_1 + 1))) else (some false)) else (some false)) = some r := by rw [if_pos rfl] at H; exact H
           clear H
           have H := H1
           clear H1
           by_cases c18 : (rdOf ByteArray.empty t270 x4_1).toList = ([35] : List UInt8)
           ·rw [if_pos c18] at H
            have c18b0 : ((rdOf ByteArray.empty t270 x4_1).toList == ([35] : List UInt8)) = true := beq_iff_eq.mpr c18
            have c18b1 : ((rdOf ByteArray.empty t270 x4_1).toList != ([35] : List UInt8)) = false := bne_eq_false_iff_eq.mpr c18
            clear c18
            by_cases c19 : x4_1 = (wrap64 ((t270.length : Int) - 1))
            ·rw [if_pos c19] at H
             have c19b0 : (x4_1 == (wrap64 ((t270.length : Int) - 1))) = true := beq_iff_eq.mpr c19
             have c19b1 : (x4_1 != (wrap64 ((t270.length : Int) - 1))) = false := bne_eq_false_iff_eq.mpr c19
             clear c19
             have H' := Aside0.mk H
             clear H
             have p276 : 0 ≤ (x4_1 : Int) := of_decide_eq_true (by first | (with_reducible assumption) | assumption)
             have q276 : x4_1 < (t270.length : Int) := of_decide_eq_true (by first | (with_reducible assumption) | assumption)
             obtain ⟨ad276, e276, hx276_0⟩ := Kd.at_string (Kd.R_reads' HO_3.out).2.2 x4_1 p276 q276
             cases e276
             replace p276 := eq_true p276
             replace q276 := eq_true q276
             go_wp2_with (first | ((with_reducible refine gate_callee (f := 55) rfl ?_); refine goesL_ (some 32) rfl rfl Tryd.func55 (by kernel_rfl) rfl #[.string (rdOf ByteArray.empty t270 x4_1), .int .u8 35] rfl (by (try simp only [List.map_toArray, List.map_cons, List.map_nil]); first | done | rfl | (simp only [List.length_drop, List.length_take]; rfl)) ?_; (with_reducible refine (brokerref01_Has.calls kj7 (rdOf ByteArray.empty t270 x4_1) 35 true _ A16.out).mono ?_); rintro e w' ⟨rfl, ⟨nd, rfl⟩⟩; refine ⟨_, rfl, ?_⟩; have p278 : 0 ≤ (x4_1 : Int) := of_decide_eq_true (by first | (with_reducible assumption) | assumption); have q278 : x4_1 < (t270.length : Int) := of_decide_eq_true (by first | (with_reducible assumption) | assumption); obtain ⟨ad278, e278, hx278_0⟩ := Kd.at_string (Kd.R_reads' HO_3.out).2.2 x4_1 p278 q278; obtain rfl : ad276 = ad278 := (by injection e278); replace p278 := eq_true p278; replace q278 := eq_true q278))
             go_roundg kj7
             case measure => have := HK1.out; have := HJ7.out; omega
             case rel => exact ⟨(wrap64 (x4_1 + 1)), (by first | rfl | (simp; done) | (simp [*]; done)), H', ⟨by have := HK1.out; have := HJ7.out; omega⟩, ⟨by (with_reducible repeat (first | apply Kd.R_alloc | apply Kd.R_drewN | apply Kd.R_drew)); exact HO_3.out⟩, ⟨by repeat (first | (with_reducible first | exact HB.out | apply below_alloc | apply pw_below_drewN | apply below_drew1) | exact HB.out)⟩⟩
            ·rw [if_neg c19] at H
             have c19b0 : (x4_1 == (wrap64 ((t270.length : Int) - 1))) = false := beq_eq_false_iff_ne.mpr c19
             have c19b1 : (x4_1 != (wrap64 ((t270.length : Int) - 1))) = true := bne_iff_ne.mpr c19
             obtain rfl := Option.some.inj H
             have p276 : 0 ≤ (x4_1 : Int) := of_decide_eq_true (by first | (with_reducible assumption) | assumption)
             have q276 : x4_1 < (t270.length : Int) := of_decide_eq_true (by first | (with_reducible assumption) | assumption)
             obtain ⟨ad276, e276, hx276_0⟩ := Kd.at_string (Kd.R_reads' HO_3.out).2.2 x4_1 p276 q276
             cases e276
             replace p276 := eq_true p276
             replace q276 := eq_true q276
             go_wp2_with (first | ((with_reducible refine gate_callee (f := 55) rfl ?_); refine goesL_ (some 32) rfl rfl Tryd.func55 (by kernel_rfl) rfl #[.string (rdOf ByteArray.empty t270 x4_1), .int .u8 35] rfl (by (try simp only [List.map_toArray, List.map_cons, List.map_nil]); first | done | rfl | (simp only [List.length_drop, List.length_take]; rfl)) ?_; (with_reducible refine (brokerref01_Has.calls kj7 (rdOf ByteArray.empty t270 x4_1) 35 true _ A16.out).mono ?_); rintro e w' ⟨rfl, ⟨nd, rfl⟩⟩; refine ⟨_, rfl, ?_⟩; have p278 : 0 ≤ (x4_1 : Int) := of_decide_eq_true (by first | (with_reducible assumption) | assumption); have q278 : x4_1 < (t270.length : Int) := of_decide_eq_true (by first | (with_reducible assumption) | assumption); obtain ⟨ad278, e278, hx278_0⟩ := Kd.at_string (Kd.R_reads' HO_3.out).2.2 x4_1 p278 q278; obtain rfl : ad276 = ad278 := (by injection e278); replace p278 := eq_true p278; replace q278 := eq_true q278))
             go_ret
             exact ⟨by first | rfl | (simp [errW_none, errW_some] <;> rfl) | (simp [*, errW_none, errW_some] <;> rfl), by repeat (first | (with_reducible first | exact HB.out | apply below_alloc | apply pw_below_drewN | apply below_drew1) | exact HB.out)⟩
           ·rw [if_neg c18] at H
            have c18b0 : ((rdOf ByteArray.empty t270 x4_1).toList == ([35] : List UInt8)) = false := beq_eq_false_iff_ne.mpr c18
            have c18b1 : ((rdOf ByteArray.empty t270 x4_1).toList != ([35] : List UInt8)) = true := bne_iff_ne.mpr c18
            obtain rfl := Option.some.inj H
            have p276 : 0 ≤ (x4_1 : Int) := of_decide_eq_true (by first | (with_reducible assumption) | assumption)
            have q276 : x4_1 < (t270.length : Int) := of_decide_eq_true (by first | (with_reducible assumption) | assumption)
            obtain ⟨ad276, e276, hx276_0⟩ := Kd.at_string (Kd.R_reads' HO_3.out).2.2 x4_1 p276 q276
            cases e276
            replace p276 := eq_true p276
            replace q276 := eq_true q276
            go_wp2_with (first | ((with_reducible refine gate_callee (f := 55) rfl ?_); refine goesL_ (some 32) rfl rfl Tryd.func55 (by kernel_rfl) rfl #[.string (rdOf ByteArray.empty t270 x4_1), .int .u8 35] rfl (by (try simp only [List.map_toArray, List.map_cons, List.map_nil]); first | done | rfl | (simp only [List.length_drop, List.length_take]; rfl)) ?_; (with_reducible refine (brokerref01_Has.calls kj7 (rdOf ByteArray.empty t270 x4_1) 35 true _ A16.out).mono ?_); rintro e w' ⟨rfl, ⟨nd, rfl⟩⟩; refine ⟨_, rfl, ?_⟩; have p278 : 0 ≤ (x4_1 : Int) := of_decide_eq_true (by first | (with_reducible assumption) | assumption); have q278 : x4_1 < (t270.length : Int) := of_decide_eq_true (by first | (with_reducible assumption) | assumption); obtain ⟨ad278, e278, hx278_0⟩ := Kd.at_string (Kd.R_reads' HO_3.out).2.2 x4_1 p278 q278; obtain rfl : ad276 = ad278 := (by injection e278); replace p278 := eq_true p278; replace q278 := eq_true q278))
            go_ret
            exact ⟨by first | rfl | (simp [errW_none, errW_some] <;> rfl) | (simp [*, errW_none, errW_some] <;> rfl), by repeat (first | (with_reducible first | exact HB.out | apply below_alloc | apply pw_below_drewN | apply below_drew1) | exact HB.out)⟩
          ·replace c17 := Bool.eq_false_iff.mpr c17
           subst c17
           have H1 : (brokerref01_Filter.l0 kj7 t270 (wrap64 (x4_1 + 1))) = some r := by rw [if_neg (show ¬ (false = true) by decide)] at H; exact H
           clear H
           have H := H1
           clear H1
           have H' := Aside0.mk H
           clear H
           have p276 : 0 ≤ (x4_1 : Int) := of_decide_eq_true (by first | (with_reducible assumption) | assumption)
           have q276 : x4_1 < (t270.length : Int) := of_decide_eq_true (by first | (with_reducible assumption) | assumption)
           obtain ⟨ad276, e276, hx276_0⟩ := Kd.at_string (Kd.R_reads' HO_3.out).2.2 x4_1 p276 q276
           cases e276
           replace p276 := eq_true p276
           replace q276 := eq_true q276
           go_wp2_with (first | ((with_reducible refine gate_callee (f := 55) rfl ?_); refine goesL_ (some 32) rfl rfl Tryd.func55 (by kernel_rfl) rfl #[.string (rdOf ByteArray.empty t270 x4_1), .int .u8 35] rfl (by (try simp only [List.map_toArray, List.map_cons, List.map_nil]); first | done | rfl | (simp only [List.length_drop, List.length_take]; rfl)) ?_; (with_reducible refine (brokerref01_Has.calls kj7 (rdOf ByteArray.empty t270 x4_1) 35 false _ A16.out).mono ?_); rintro e w' ⟨rfl, ⟨nd, rfl⟩⟩; refine ⟨_, rfl, ?_⟩))
           go_roundg kj7
           case measure => have := HK1.out; have := HJ7.out; omega
           case rel => exact ⟨(wrap64 (x4_1 + 1)), (by first | rfl | (simp; done) | (simp [*]; done)), H', ⟨by have := HK1.out; have := HJ7.out; omega⟩, ⟨by (with_reducible repeat (first | apply Kd.R_alloc | apply Kd.R_drewN | apply Kd.R_drew)); exact HO_3.out⟩, ⟨by repeat (first | (with_reducible first | exact HB.out | apply below_alloc | apply pw_below_drewN | apply below_drew1) | exact HB.out)⟩⟩
         ·rw [if_neg c15] at H
          exact absurd H (by simp)
        ·rw [if_neg c14] at H
         exact absurd H (by simp)
    ·rw [if_neg c7] at H
     have c7b0 : decide (x4_1 < (t270.length : Int)) = false := decide_eq_false c7
     clear c7
     obtain rfl := Option.some.inj H
     obtain ⟨Ao20, co20, eo20⟩ := Kd.R_slice HO_3.out
     subst eo20
     go_wp2
     go_ret
     exact ⟨by first | rfl | (simp [errW_none, errW_some] <;> rfl) | (simp [*, errW_none, errW_some] <;> rfl), by repeat (first | (with_reducible first | exact HB.out | apply below_alloc | apply pw_below_drewN | apply below_drew1) | exact HB.out)⟩
 ·replace c3 := Bool.eq_false_iff.mpr c3
  subst c3
  have H1 : (some false) = some r := by rw [if_neg (show ¬ (false = true) by decide)] at H; exact H
  clear H
  have H := H1
  clear H1
  obtain rfl := Option.some.inj H
  go_enter Tryd.func29, Tryd.ntmps29
  go_wp2_with (first | ((with_reducible refine gate_callee (f := 54) rfl ?_); refine goesL_ (some 6) rfl rfl Tryd.func54 (by kernel_rfl) rfl #[.string a0] rfl (by (try simp only [List.map_toArray, List.map_cons, List.map_nil]); first | done | rfl | (simp only [List.length_drop, List.length_take]; rfl)) ?_; (with_reducible refine (brokerref01_sized.calls k a0 false _ A2.out).mono ?_); rintro e w21 ⟨rfl, hb⟩; refine ⟨_, rfl, ?_⟩; have n0_ := Aside0.mk (below_step (by repeat (first | (with_reducible first | exact HB.out | apply below_alloc | apply pw_below_drewN | apply below_drew1) | exact HB.out)) hb); clear HB; have HB := n0_; clear n0_; (try clear hb); (try clear hb2); (try clear hk); (try clear hi)))
  go_ret
  exact ⟨by first | rfl | (simp [errW_none, errW_some] <;> rfl) | (simp [*, errW_none, errW_some] <;> rfl), by repeat (first | (with_reducible first | exact HB.out | apply below_alloc | apply pw_below_drewN | apply below_drew1) | exact HB.out)⟩

end Go.Proofs.YtgdamingkgafhaaDoor.P
