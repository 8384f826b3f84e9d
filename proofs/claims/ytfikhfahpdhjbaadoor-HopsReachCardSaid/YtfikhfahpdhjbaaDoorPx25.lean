/- Printed by a program of this session (wip/tools) over the translation: Go functions as plain Lean functions, and their contracts. -/
import Derived.Test.YtfikhfahpdhjbaaDoorPx0
import Derived.Test.YtfikhfahpdhjbaaDoorPx5
import Derived.Test.YtfikhfahpdhjbaaDoorPx7
import Derived.Test.YtfikhfahpdhjbaaDoorPx20
import Derived.Test.YtfikhfahpdhjbaaDoorPx21
import Derived.Test.YtfikhfahpdhjbaaDoorPx24
namespace Go.Proofs.YtfikhfahpdhjbaaDoor.P
open Go.RowKit Go.Proofs.YtfikhfahpdhjbaaDoorW.PrintWords Go.Proofs.YtfikhfahpdhjbaaDoorW.PrintLast Go.Proofs.YtfikhfahpdhjbaaDoorW.PrintMore
attribute [local go_sem] max2_int min2_int max_two min_two max_three min_three max_four min_four str_gtr str_leq str_geq   -- for this text's walks alone
set_option linter.unusedVariables false
set_option linter.unusedSimpArgs false

/-! ### brokerlaw46_HopsReach: function 8 -/
mutual
def brokerlaw46_HopsReach.j0 : Nat → List (S48) → Int → Int → List Int → Int → Bool → Option (Bool)
 | 0, _, _, _, _, _, _ => none
 | k + 1, x0, x2, x7, x8, x9, x36 => if x36 = true then ((brokerlaw46_awake.f k).bind fun t515 => (if t515 = true then (if (x8.length : Int) = 0 then (some (x9 == 0)) else (none)) else (none))) else ((brokerlaw46_joined.f k x0 x7 x2).bind fun t516 => (if 0 ≤ x7 then (if (x7 : Int).toNat ≤ 281474976710656 then (brokerlaw46_HopsReach.l0 k x0 x2 x7 x8 x9 t516 (List.replicate (x7 : Int).toNat false) 0) else (none)) else (none)))
def brokerlaw46_HopsReach.l0 : Nat → List (S48) → Int → Int → List Int → Int → List Bool → List Bool → Int → Option (Bool)
 | 0, _, _, _, _, _, _, _, _ => none
 | k + 1, x0, x2, x7, x8, x9, x10, x11, x12 => if x12 < (x8.length : Int) then (if 0 ≤ x12 then (if (rd x8 x12) < 0 then (none) else (if (rd x8 x12) ≥ x7 then (none) else (if 0 ≤ (rd x8 x12) then (if (rd x8 x12) < (x10.length : Int) then (if (rdOf false x10 (rd x8 x12) = true) then (if (rd x8 x12) < (x11.length : Int) then (if rdOf false x11 (rd x8 x12) = true then (none) else (brokerlaw46_HopsReach.l0 k x0 x2 x7 x8 x9 x10 (x11.set ((rd x8 x12) : Int).toNat true) (wrap64 (x12 + 1)))) else (none)) else (none)) else (none)) else (none)))) else (none)) else (brokerlaw46_HopsReach.l1 k x0 x2 x7 x8 x9 x10 0 0 0)
def brokerlaw46_HopsReach.l1 : Nat → List (S48) → Int → Int → List Int → Int → List Bool → Int → Int → Int → Option (Bool)
 | 0, _, _, _, _, _, _, _, _, _ => none
 | k + 1, x0, x2, x7, x8, x9, x10, x13, x14, x15 => if x15 < x7 then (if 0 ≤ x15 then (if x15 < (x10.length : Int) then (if rdOf false x10 x15 = true then (brokerlaw46_HopsReach.l1 k x0 x2 x7 x8 x9 x10 (wrap64 (x13 + 1)) x14 (wrap64 (x15 + 1))) else (brokerlaw46_HopsReach.l1 k x0 x2 x7 x8 x9 x10 x13 x14 (wrap64 (x15 + 1)))) else (none)) else (none)) else (brokerlaw46_HopsReach.l2 k x0 x2 x7 x8 x9 x10 x13 x14 0)
def brokerlaw46_HopsReach.l2 : Nat → List (S48) → Int → Int → List Int → Int → List Bool → Int → Int → Int → Option (Bool)
 | 0, _, _, _, _, _, _, _, _, _ => none
 | k + 1, x0, x2, x7, x8, x9, x10, x13, x14, x16 => if x16 < (x0.length : Int) then (if 0 ≤ x16 then ((brokerref46_Counts.f ((rd_T48 x0 x16).f0) ((rd_T48 x0 x16).f1) x7).bind fun t532 => (if t532 = true then (if 0 ≤ ((rd_T48 x0 x16).f0) then (if ((rd_T48 x0 x16).f0) < (x10.length : Int) then (if rdOf false x10 ((rd_T48 x0 x16).f0) = true then (brokerlaw46_HopsReach.l2 k x0 x2 x7 x8 x9 x10 x13 (wrap64 (x14 + 1)) (wrap64 (x16 + 1))) else (brokerlaw46_HopsReach.l2 k x0 x2 x7 x8 x9 x10 x13 x14 (wrap64 (x16 + 1)))) else (none)) else (none)) else (brokerlaw46_HopsReach.l2 k x0 x2 x7 x8 x9 x10 x13 x14 (wrap64 (x16 + 1))))) else (none)) else ((brokerlaw46_awake.f k).bind fun t535 => (if t535 = true then (if (x8.length : Int) = x13 then (if 0 < (x8.length : Int) then (if (rd x8 0) = x2 then (some (x9 == (wrap64 ((wrap64 ((wrap64 (2 * x14)) - x13)) + 1)))) else (none)) else (none)) else (none)) else (none)))
end
def brokerlaw46_HopsReach.f (k : Nat) (l0 : List (S48)) (a1 : Int) (a2 : Int) : Option (Bool) := if (l0.length : Int) > 60 then ((brokerlaw46_awake.f k).bind fun t509 => (some t509)) else ((brokerref46_Nodes.f a1).bind fun t510 => ((hops_Flood.f k l0 a1 a2).bind fun bt511 => (if a2 < 0 then (brokerlaw46_HopsReach.j0 k l0 a2 t510 bt511.1 bt511.2 true) else (brokerlaw46_HopsReach.j0 k l0 a2 t510 bt511.1 bt511.2 (decide (a2 ≥ t510))))))
theorem brokerlaw46_HopsReach.mono_l : ∀ k, (∀ y0 y1 y2 y3 y4 y5, LeO (brokerlaw46_HopsReach.j0 k y0 y1 y2 y3 y4 y5) (brokerlaw46_HopsReach.j0 (k + 1) y0 y1 y2 y3 y4 y5)) ∧ (∀ y0 y1 y2 y3 y4 y5 y6 y7, LeO (brokerlaw46_HopsReach.l0 k y0 y1 y2 y3 y4 y5 y6 y7) (brokerlaw46_HopsReach.l0 (k + 1) y0 y1 y2 y3 y4 y5 y6 y7)) ∧ (∀ y0 y1 y2 y3 y4 y5 y6 y7 y8, LeO (brokerlaw46_HopsReach.l1 k y0 y1 y2 y3 y4 y5 y6 y7 y8) (brokerlaw46_HopsReach.l1 (k + 1) y0 y1 y2 y3 y4 y5 y6 y7 y8)) ∧ (∀ y0 y1 y2 y3 y4 y5 y6 y7 y8, LeO (brokerlaw46_HopsReach.l2 k y0 y1 y2 y3 y4 y5 y6 y7 y8) (brokerlaw46_HopsReach.l2 (k + 1) y0 y1 y2 y3 y4 y5 y6 y7 y8))
 | 0 => ⟨fun _ _ _ _ _ _ r h => by simp [brokerlaw46_HopsReach.j0] at h, fun _ _ _ _ _ _ _ _ r h => by simp [brokerlaw46_HopsReach.l0] at h, fun _ _ _ _ _ _ _ _ _ r h => by simp [brokerlaw46_HopsReach.l1] at h, fun _ _ _ _ _ _ _ _ _ r h => by simp [brokerlaw46_HopsReach.l2] at h⟩
 | k + 1 => by
  obtain ⟨ih0, ih1, ih2, ih3⟩ := brokerlaw46_HopsReach.mono_l k
  refine ⟨?_, ?_, ?_, ?_⟩
  ·intro y0 y1 y2 y3 y4 y5
   unfold brokerlaw46_HopsReach.j0
   repeat' first
   | (with_reducible exact ih0 _ _ _ _ _ _)
   | (with_reducible exact ih1 _ _ _ _ _ _ _ _)
   | (with_reducible exact ih2 _ _ _ _ _ _ _ _ _)
   | (with_reducible exact ih3 _ _ _ _ _ _ _ _ _)
   | (with_reducible exact brokerlaw46_awake.mono _)
   | (with_reducible exact brokerlaw46_joined.mono _ _ _ _)
   | (with_reducible exact hops_Flood.mono _ _ _ _)
   | (with_reducible exact LeO.refl _)
   | (with_reducible exact LeO.none _)
   | (with_reducible refine LeO.ite ?_ ?_)
   | (with_reducible refine LeO.bind ?_ (fun _ => ?_))
   | exact ih0 _ _ _ _ _ _
   | exact ih1 _ _ _ _ _ _ _ _
   | exact ih2 _ _ _ _ _ _ _ _ _
   | exact ih3 _ _ _ _ _ _ _ _ _
   | exact brokerlaw46_awake.mono _
   | exact brokerlaw46_joined.mono _ _ _ _
   | exact hops_Flood.mono _ _ _ _
   | exact LeO.none _
   | refine LeO.ite ?_ ?_
   | refine LeO.bind ?_ (fun _ => ?_)
  ·intro y0 y1 y2 y3 y4 y5 y6 y7
   unfold brokerlaw46_HopsReach.l0
   repeat' first
   | (with_reducible exact ih0 _ _ _ _ _ _)
   | (with_reducible exact ih1 _ _ _ _ _ _ _ _)
   | (with_reducible exact ih2 _ _ _ _ _ _ _ _ _)
   | (with_reducible exact ih3 _ _ _ _ _ _ _ _ _)
   | (with_reducible exact brokerlaw46_awake.mono _)
   | (with_reducible exact brokerlaw46_joined.mono _ _ _ _)
   | (with_reducible exact hops_Flood.mono _ _ _ _)
   | (with_reducible exact LeO.refl _)
   | (with_reducible exact LeO.none _)
   | (with_reducible refine LeO.ite ?_ ?_)
   | (with_reducible refine LeO.bind ?_ (fun _ => ?_))
   | exact ih0 _ _ _ _ _ _
   | exact ih1 _ _ _ _ _ _ _ _
   | exact ih2 _ _ _ _ _ _ _ _ _
   | exact ih3 _ _ _ _ _ _ _ _ _
   | exact brokerlaw46_awake.mono _
   | exact brokerlaw46_joined.mono _ _ _ _
   | exact hops_Flood.mono _ _ _ _
   | exact LeO.none _
   | refine LeO.ite ?_ ?_
   | refine LeO.bind ?_ (fun _ => ?_)
  ·intro y0 y1 y2 y3 y4 y5 y6 y7 y8
   unfold brokerlaw46_HopsReach.l1
   repeat' first
   | (with_reducible exact ih0 _ _ _ _ _ _)
   | (with_reducible exact ih1 _ _ _ _ _ _ _ _)
   | (with_reducible exact ih2 _ _ _ _ _ _ _ _ _)
   | (with_reducible exact ih3 _ _ _ _ _ _ _ _ _)
   | (with_reducible exact brokerlaw46_awake.mono _)
   | (with_reducible exact brokerlaw46_joined.mono _ _ _ _)
   | (with_reducible exact hops_Flood.mono _ _ _ _)
   | (with_reducible exact LeO.refl _)
   | (with_reducible exact LeO.none _)
   | (with_reducible refine LeO.ite ?_ ?_)
   | (with_reducible refine LeO.bind ?_ (fun _ => ?_))
   | exact ih0 _ _ _ _ _ _
   | exact ih1 _ _ _ _ _ _ _ _
   | exact ih2 _ _ _ _ _ _ _ _ _
   | exact ih3 _ _ _ _ _ _ _ _ _
   | exact brokerlaw46_awake.mono _
   | exact brokerlaw46_joined.mono _ _ _ _
   | exact hops_Flood.mono _ _ _ _
   | exact LeO.none _
   | refine LeO.ite ?_ ?_
   | refine LeO.bind ?_ (fun _ => ?_)
  ·intro y0 y1 y2 y3 y4 y5 y6 y7 y8
   unfold brokerlaw46_HopsReach.l2
   repeat' first
   | (with_reducible exact ih0 _ _ _ _ _ _)
   | (with_reducible exact ih1 _ _ _ _ _ _ _ _)
   | (with_reducible exact ih2 _ _ _ _ _ _ _ _ _)
   | (with_reducible exact ih3 _ _ _ _ _ _ _ _ _)
   | (with_reducible exact brokerlaw46_awake.mono _)
   | (with_reducible exact brokerlaw46_joined.mono _ _ _ _)
   | (with_reducible exact hops_Flood.mono _ _ _ _)
   | (with_reducible exact LeO.refl _)
   | (with_reducible exact LeO.none _)
   | (with_reducible refine LeO.ite ?_ ?_)
   | (with_reducible refine LeO.bind ?_ (fun _ => ?_))
   | exact ih0 _ _ _ _ _ _
   | exact ih1 _ _ _ _ _ _ _ _
   | exact ih2 _ _ _ _ _ _ _ _ _
   | exact ih3 _ _ _ _ _ _ _ _ _
   | exact brokerlaw46_awake.mono _
   | exact brokerlaw46_joined.mono _ _ _ _
   | exact hops_Flood.mono _ _ _ _
   | exact LeO.none _
   | refine LeO.ite ?_ ?_
   | refine LeO.bind ?_ (fun _ => ?_)
theorem brokerlaw46_HopsReach.mono : ∀ a0 a1 a2 k, LeO (brokerlaw46_HopsReach.f k a0 a1 a2) (brokerlaw46_HopsReach.f (k + 1) a0 a1 a2) := by
 intro a0 a1 a2 k
 obtain ⟨ih0, ih1, ih2, ih3⟩ := brokerlaw46_HopsReach.mono_l k
 unfold brokerlaw46_HopsReach.f
 repeat' first
   | (with_reducible exact ih0 _ _ _ _ _ _)
   | (with_reducible exact ih1 _ _ _ _ _ _ _ _)
   | (with_reducible exact ih2 _ _ _ _ _ _ _ _ _)
   | (with_reducible exact ih3 _ _ _ _ _ _ _ _ _)
   | (with_reducible exact brokerlaw46_awake.mono _)
   | (with_reducible exact brokerlaw46_joined.mono _ _ _ _)
   | (with_reducible exact hops_Flood.mono _ _ _ _)
   | (with_reducible exact LeO.refl _)
   | (with_reducible exact LeO.none _)
   | (with_reducible refine LeO.ite ?_ ?_)
   | (with_reducible refine LeO.bind ?_ (fun _ => ?_))
   | exact ih0 _ _ _ _ _ _
   | exact ih1 _ _ _ _ _ _ _ _
   | exact ih2 _ _ _ _ _ _ _ _ _
   | exact ih3 _ _ _ _ _ _ _ _ _
   | exact brokerlaw46_awake.mono _
   | exact brokerlaw46_joined.mono _ _ _ _
   | exact hops_Flood.mono _ _ _ _
   | exact LeO.none _
   | refine LeO.ite ?_ ?_
   | refine LeO.bind ?_ (fun _ => ?_)
set_option maxHeartbeats 8000000 in
set_option maxRecDepth 100000 in
theorem brokerlaw46_HopsReach.calls (k : Nat) (A0 : Option Addr) (c0 : Nat) (l0 : List (S48)) (a1 : Int) (a2 : Int) (r : Bool) (w : World) (hr0 : Kd.C k48 w A0 l0.length l0) (hc0 : l0.length ≤ c0) (h : brokerlaw46_HopsReach.f k l0 a1 a2 = some r) :
  Calls Tryd.prog 8 #[.slice A0 l0.length c0, .int .i64 a1, .int .i64 a2] w fun e w' => e = .returned (.bool r) ∧ Below w.heap.size w w' := by
 have hu48 := Tryd.underlying48
 have HR0 := Aside0.mk hr0
 have HC0 := Aside0.mk hc0
 clear hr0 hc0
 have HB := Aside0.mk (Below.refl w.heap.size w)
 have H : (if (l0.length : Int) > 60 then ((brokerlaw46_awake.f k).bind fun t509 => (some t509)) else ((brokerref46_Nodes.f a1).bind fun t510 => ((hops_Flood.f k l0 a1 a2).bind fun bt511 => (if a2 < 0 then (brokerlaw46_HopsReach.j0 k l0 a2 t510 bt511.1 bt511.2 true) else (brokerlaw46_HopsReach.j0 k l0 a2 t510 bt511.1 bt511.2 (decide (a2 ≥ t510))))))) = some r := h
 clear h
 by_cases c4 : (l0.length : Int) > 60
 ·rw [if_pos c4] at H
  have c4b0 : decide (60 < (l0.length : Int)) = true := decide_eq_true c4
  have c4b1 : decide (60 < l0.length) = true := decide_eq_true (by omega)
  clear c4
  replace H := Option.bind_eq_some_iff.mp H
  obtain ⟨t509, A50, H⟩ := H
  replace H : (some t509) = some r := H
  have A5 := Aside0.mk A50
  clear A50
  obtain rfl := Option.some.inj H
  go_enter Tryd.func8, Tryd.ntmps8
  go_wp2_with (first | ((with_reducible refine gate_callee (f := 10) rfl ?_); refine goesL_ (some 20) rfl rfl Tryd.func10 (by kernel_rfl) rfl #[] rfl (by (try simp only [List.map_toArray, List.map_cons, List.map_nil]); first | done | rfl | (simp only [List.length_drop, List.length_take]; rfl)) ?_; (with_reducible refine (brokerlaw46_awake.calls k  t509 _ A5.out).mono ?_); rintro e w6 ⟨rfl, hb⟩; refine ⟨_, rfl, ?_⟩; have n0_ := Aside0.mk (below_step (by repeat (first | (with_reducible first | exact HB.out | apply below_alloc | apply pw_below_drewN | apply below_drew1) | exact HB.out)) hb); clear HB; have HB := n0_; clear n0_; (try clear hb); (try clear hb2); (try clear hk); (try clear hi)))
  go_ret
  exact ⟨by first | rfl | (simp [errW_none, errW_some] <;> rfl) | (simp [*, errW_none, errW_some] <;> rfl), by repeat (first | (with_reducible first | exact HB.out | apply below_alloc | apply pw_below_drewN | apply below_drew1) | exact HB.out)⟩
 ·rw [if_neg c4] at H
  have c4b0 : decide (60 < (l0.length : Int)) = false := decide_eq_false c4
  have c4b1 : decide (60 < l0.length) = false := decide_eq_false (by omega)
  clear c4
  replace H := Option.bind_eq_some_iff.mp H
  obtain ⟨t510, A70, H⟩ := H
  replace H : ((hops_Flood.f k l0 a1 a2).bind fun bt511 => (if a2 < 0 then (brokerlaw46_HopsReach.j0 k l0 a2 t510 bt511.1 bt511.2 true) else (brokerlaw46_HopsReach.j0 k l0 a2 t510 bt511.1 bt511.2 (decide (a2 ≥ t510))))) = some r := H
  have A7 := Aside0.mk A70
  clear A70
  replace H := Option.bind_eq_some_iff.mp H
  obtain ⟨⟨t511, t512⟩, A80, H⟩ := H
  replace H : (if a2 < 0 then (brokerlaw46_HopsReach.j0 k l0 a2 t510 t511 t512 true) else (brokerlaw46_HopsReach.j0 k l0 a2 t510 t511 t512 (decide (a2 ≥ t510)))) = some r := H
  have A8 := Aside0.mk A80
  clear A80
  have HC9 := Aside0.mk H
  clear H
  go_enter Tryd.func8, Tryd.ntmps8
  go_upto_region 5 with (first | ((with_reducible refine gate_callee (f := 25) rfl ?_); refine goesL_ (some 22) rfl rfl Tryd.func25 (by kernel_rfl) rfl #[.int .i64 a1] rfl (by (try simp only [List.map_toArray, List.map_cons, List.map_nil]); first | done | rfl | (simp only [List.length_drop, List.length_take]; rfl)) ?_; (with_reducible refine (brokerref46_Nodes.calls a1 t510 _ A7.out).mono ?_); rintro e w' ⟨rfl, ⟨nd, rfl⟩⟩; refine ⟨_, rfl, ?_⟩) | ((with_reducible refine gate_callee (f := 22) rfl ?_); refine goesL_ (some 27) rfl rfl Tryd.func22 (by kernel_rfl) rfl #[.slice A0 l0.length c0, .int .i64 a1, .int .i64 a2] rfl (by (try simp only [List.map_toArray, List.map_cons, List.map_nil]); first | done | rfl | (simp only [List.length_drop, List.length_take]; rfl)) ?_; (with_reducible refine (hops_Flood.calls k _ _ l0 a1 a2 t511 t512 _ ?side1 ?side2 A8.out).mono ?_); (case side1 => repeat (first | exact HR0.out | (with_reducible refine Kd.C_alloc ?_ _) | (with_reducible refine Kd.C_drewN ?_ _) | (with_reducible refine Kd.C_drew ?_))); (case side2 => exact HC0.out); rintro e w10 ⟨v513, rfl, ho0, hb⟩; refine ⟨_, rfl, ?_⟩; have n0_ := Aside0.mk (Kd.R_lower ho0 (below_size (by repeat (first | (with_reducible first | exact HB.out | apply below_alloc | apply pw_below_drewN | apply below_drew1) | exact HB.out)))); have n1_ := Aside0.mk (below_step (by repeat (first | (with_reducible first | exact HB.out | apply below_alloc | apply pw_below_drewN | apply below_drew1) | exact HB.out)) hb); clear HB; have HO514 := n0_; have HB := n1_; clear n0_ n1_; (try clear hb); (try clear hb2); (try clear hk); (try clear hi); (try clear ho0)))
  (try simp only [Act.put, List.setIfInBounds_toArray, List.set_cons_zero, List.set_cons_succ])
  go_cut [36] (fun v36 wc => ∃ (kq : Nat) (x36_8 : Bool), v36 = .bool x36_8 ∧ Aside0 (brokerlaw46_HopsReach.j0 kq l0 a2 t510 t511 t512 x36_8 = some r) ∧ Aside0 (kq ≤ k) ∧ Aside0 (Kd.R (Kd.int .i64) 3 wc w.heap.size (fun _ => True) v513 t511) ∧ Aside0 (Below w.heap.size w wc))
  case first =>
   have H := HC9.out
   clear HC9
   by_cases c11 : a2 < 0
   ·rw [if_pos c11] at H
    have c11b0 : decide (a2 < 0) = true := decide_eq_true c11
    clear c11
    (first | rw [c11b0] | (simp only [i64_w, i32_w]; rw [c11b0]) | skip)
    have H' := Aside0.mk H
    clear H
    go_wp2
    go_meet
    case rel => exact ⟨_, (true), (by first | rfl | (simp; done) | (simp [*]; done)), H', ⟨by first | omega | exact Nat.le_refl _⟩, ⟨by (with_reducible repeat (first | apply Kd.R_alloc | apply Kd.R_drewN | apply Kd.R_drew)); exact HO514.out⟩, ⟨by repeat (first | (with_reducible first | exact HB.out | apply below_alloc | apply pw_below_drewN | apply below_drew1) | exact HB.out)⟩⟩
   ·rw [if_neg c11] at H
    have c11b0 : decide (a2 < 0) = false := decide_eq_false c11
    clear c11
    (first | rw [c11b0] | (simp only [i64_w, i32_w]; rw [c11b0]) | skip)
    have H' := Aside0.mk H
    clear H
    go_wp2
    go_meet
    case rel => exact ⟨_, (decide (a2 ≥ t510)), (by first | rfl | (simp; done) | (simp [*]; done)), H', ⟨by first | omega | exact Nat.le_refl _⟩, ⟨by (with_reducible repeat (first | apply Kd.R_alloc | apply Kd.R_drewN | apply Kd.R_drew)); exact HO514.out⟩, ⟨by repeat (first | (with_reducible first | exact HB.out | apply below_alloc | apply pw_below_drewN | apply below_drew1) | exact HB.out)⟩⟩
  case rest =>
   clear HC9
   try clear c1
   try clear c2
   try clear p2
   try clear c4
   try clear c4b0
   try clear c4b1
   try clear c8
   try clear c10
   try clear c11
   try clear c11b0
   obtain ⟨kq, x36_8, rfl, HA, HJ8, HO_8, HB⟩ := hcut
   cases kq with
   | zero => exact absurd HA.out (by simp [brokerlaw46_HopsReach.j0])
   | succ kj8 =>
    have H := HA.out
    clear HA
    simp only [brokerlaw46_HopsReach.j0] at H
    by_cases c12 : x36_8 = true
    ·subst c12
     have H1 : ((brokerlaw46_awake.f kj8).bind fun t515 => (if t515 = true then (if (t511.length : Int) = 0 then (some (t512 == 0)) else (none)) else (none))) = some r := by rw [if_pos rfl] at H; exact H
     clear H
     have H := H1
     clear H1
     replace H := Option.bind_eq_some_iff.mp H
     obtain ⟨t515, A130, H⟩ := H
     replace H : (if t515 = true then (if (t511.length : Int) = 0 then (some (t512 == 0)) else (none)) else (none)) = some r := H
     have A13 := Aside0.mk A130
     clear A130
     by_cases c14 : t515 = true
     ·subst c14
      have H1 : (if (t511.length : Int) = 0 then (some (t512 == 0)) else (none)) = some r := by rw [if_pos rfl] at H; exact H
      clear H
      have H := H1
      clear H1
      by_cases c15 : (t511.length : Int) = 0
      ·rw [if_pos c15] at H
       have c15b0 : ((t511.length : Int) == 0) = true := beq_iff_eq.mpr c15
       have c15b1 : ((t511.length : Int) != 0) = false := bne_eq_false_iff_eq.mpr c15
       clear c15
       obtain rfl := Option.some.inj H
       go_wp2_with (first | ((with_reducible refine gate_callee (f := 10) rfl ?_); refine goesL_ (some 37) rfl rfl Tryd.func10 (by kernel_rfl) rfl #[] rfl (by (try simp only [List.map_toArray, List.map_cons, List.map_nil]); first | done | rfl | (simp only [List.length_drop, List.length_take]; rfl)) ?_; (with_reducible refine (brokerlaw46_awake.calls kj8  true _ A13.out).mono ?_); rintro e w16 ⟨rfl, hb⟩; refine ⟨_, rfl, ?_⟩; have n0_ := Aside0.mk (Kd.R_below (by (with_reducible repeat (first | apply Kd.R_alloc | apply Kd.R_drewN | apply Kd.R_drew)); exact HO_8.out) hb); have n1_ := Aside0.mk (below_step (by repeat (first | (with_reducible first | exact HB.out | apply below_alloc | apply pw_below_drewN | apply below_drew1) | exact HB.out)) hb); clear HO_8; clear HB; have HO_8 := n0_; have HB := n1_; clear n0_ n1_; (try clear hb); (try clear hb2); (try clear hk); (try clear hi); obtain ⟨Ao17, co17, eo17⟩ := Kd.R_slice HO_8.out; subst eo17))
       go_ret
       exact ⟨by first | rfl | (simp [errW_none, errW_some] <;> rfl) | (simp [*, errW_none, errW_some] <;> rfl), by repeat (first | (with_reducible first | exact HB.out | apply below_alloc | apply pw_below_drewN | apply below_drew1) | exact HB.out)⟩
      ·rw [if_neg c15] at H
       exact absurd H (by simp)
     ·replace c14 := Bool.eq_false_iff.mpr c14
      subst c14
      have H1 : (none) = some r := by rw [if_neg (show ¬ (false = true) by decide)] at H; exact H
      clear H
      have H := H1
      clear H1
      exact absurd H (by simp)
    ·replace c12 := Bool.eq_false_iff.mpr c12
     subst c12
     have H1 : ((brokerlaw46_joined.f kj8 l0 t510 a2).bind fun t516 => (if 0 ≤ t510 then (if (t510 : Int).toNat ≤ 281474976710656 then (brokerlaw46_HopsReach.l0 kj8 l0 a2 t510 t511 t512 t516 (List.replicate (t510 : Int).toNat false) 0) else (none)) else (none))) = some r := by rw [if_neg (show ¬ (false = true) by decide)] at H; exact H
     clear H
     have H := H1
     clear H1
     replace H := Option.bind_eq_some_iff.mp H
     obtain ⟨t516, A180, H⟩ := H
     replace H : (if 0 ≤ t510 then (if (t510 : Int).toNat ≤ 281474976710656 then (brokerlaw46_HopsReach.l0 kj8 l0 a2 t510 t511 t512 t516 (List.replicate (t510 : Int).toNat false) 0) else (none)) else (none)) = some r := H
     have A18 := Aside0.mk A180
     clear A180
     by_cases c19 : 0 ≤ t510
     ·rw [if_pos c19] at H
      have c19b0 := eq_true c19
      have c19b1 : decide (0 ≤ t510) = true := decide_eq_true c19
      clear c19
      by_cases c20 : (t510 : Int).toNat ≤ 281474976710656
      ·rw [if_pos c20] at H
       have c20b0 := eq_true c20
       have c20b1 : decide ((t510 : Int).toNat ≤ 281474976710656) = true := decide_eq_true c20
       clear c20
       obtain ⟨y519, hy519⟩ : ∃ y_ : List Bool, y_ = (List.replicate (t510 : Int).toNat false) := ⟨_, rfl⟩
       replace H : (brokerlaw46_HopsReach.l0 kj8 l0 a2 t510 t511 t512 t516 y519 0) = some r := by first | (rw [hy519]; with_reducible exact H) | (have H2_ := (Option.bind_some _ _).symm.trans H; rw [hy519]; with_reducible exact H2_) | (have H2_ := (Option.bind_some _ _).symm.trans H; with_reducible exact H2_) | with_reducible exact H | (rw [hy519]; exact H) | exact H
       have Ny519 := Aside0.mk hy519
       clear hy519
       have H' := Aside0.mk H
       clear H
       go_wp2_with (first | ((with_reducible refine gate_callee (f := 26) rfl ?_); refine goesL_ (some 50) rfl rfl Tryd.func26 (by kernel_rfl) rfl #[.slice A0 l0.length c0, .int .i64 t510, .int .i64 a2] rfl (by (try simp only [List.map_toArray, List.map_cons, List.map_nil]); first | done | rfl | (simp only [List.length_drop, List.length_take]; rfl)) ?_; (with_reducible refine (brokerlaw46_joined.calls kj8 _ _ l0 t510 a2 t516 _ ?side1 ?side2 A18.out).mono ?_); (case side1 => repeat (first | exact (Kd.C_below HR0.out HB.out) | (with_reducible refine Kd.C_alloc ?_ _) | (with_reducible refine Kd.C_drewN ?_ _) | (with_reducible refine Kd.C_drew ?_))); (case side2 => exact HC0.out); rintro e w21 ⟨v517, rfl, ho0, hb⟩; refine ⟨_, rfl, ?_⟩; have n0_ := Aside0.mk (Kd.R_below (by (with_reducible repeat (first | apply Kd.R_alloc | apply Kd.R_drewN | apply Kd.R_drew)); exact HO_8.out) hb); have n1_ := Aside0.mk (Kd.R_lower ho0 (below_size (by repeat (first | (with_reducible first | exact HB.out | apply below_alloc | apply pw_below_drewN | apply below_drew1) | exact HB.out)))); have n2_ := Aside0.mk (below_step (by repeat (first | (with_reducible first | exact HB.out | apply below_alloc | apply pw_below_drewN | apply below_drew1) | exact HB.out)) hb); clear HO_8; clear HB; have HO_8 := n0_; have HO518 := n1_; have HB := n2_; clear n0_ n1_ n2_; (try clear hb); (try clear hb2); (try clear hk); (try clear hi); (try clear ho0)) | ((with_reducible refine gate_dst (N := 52) rfl ?_); (try (refine gate_guard (by rfl) ?_; dsimp only)); refine Kd.R_make Kd.bool _ 4 rfl (N := 52) rfl 45 _ _ rfl t510 rfl rfl Tryd.underlying45 (.bool false) 1 info4 rfl (by decide) (by omega) false (ok := fun _ => True) (okp := fun _ => True) rfl (fun _ hk => hk) trivial (of_decide_eq_true (by first | (with_reducible assumption) | assumption)) (Nat.le_trans (Nat.mul_le_mul_right _ (of_decide_eq_true (by first | (with_reducible assumption) | assumption) : t510.toNat ≤ 281474976710656)) (by omega)) (Below.refl _ _) (Nat.le_refl _) ?_; intro v520 w22 ho23 hb hg_ hnew_; clear hg_ hnew_; (first | rw [← Ny519.out] at ho23 | (simp only [Int.reduceToNat] at ho23; rw [← Ny519.out] at ho23)); have n0_ := Aside0.mk (Kd.R_below (by (with_reducible repeat (first | apply Kd.R_alloc | apply Kd.R_drewN | apply Kd.R_drew)); exact HO_8.out) hb); have n1_ := Aside0.mk (Kd.R_elder' (by (with_reducible repeat (first | apply Kd.R_alloc | apply Kd.R_drewN | apply Kd.R_drew)); exact HO518.out) (Kd.R_base ho23) hb); have n2_ := Aside0.mk (Kd.R_lower (Kd.R_new' ho23 (Kd.R_lt (by (with_reducible repeat (first | apply Kd.R_alloc | apply Kd.R_drewN | apply Kd.R_drew)); exact HO518.out))) (below_size (by repeat (first | (with_reducible first | exact HB.out | apply below_alloc | apply pw_below_drewN | apply below_drew1) | exact HB.out)))); have n3_ := Aside0.mk (below_step (by repeat (first | (with_reducible first | exact HB.out | apply below_alloc | apply pw_below_drewN | apply below_drew1) | exact HB.out)) hb); clear HO_8; clear HO518; clear HB; have HO_8 := n0_; have HO518 := n1_; have HO521 := n2_; have HB := n3_; clear n0_ n1_ n2_ n3_; clear hb ho23))
       go_loopg [12] kj8 (fun kq v12 w' => ∃ (x11_2 : List Bool) (x12_2 : Int), v12 = .int .i64 x12_2 ∧ Aside0 (brokerlaw46_HopsReach.l0 kq l0 a2 t510 t511 t512 t516 x11_2 x12_2 = some r) ∧ Aside0 (kq ≤ kj8) ∧ Aside0 (Kd.R (Kd.int .i64) 3 w' w.heap.size (fun _ => True) v513 t511) ∧ Aside0 (Kd.R Kd.bool 4 w' w.heap.size (fun k_ => some k_ ≠ (v520 : Value).ownBlock) v517 t516) ∧ Aside0 (Kd.R Kd.bool 4 w' w.heap.size (fun k_ => some k_ ≠ (v517 : Value).ownBlock) v520 x11_2) ∧ Aside0 (Below w.heap.size w w'))
       case atStart => exact ⟨(y519), (0), (by first | rfl | (simp; done) | (simp [*]; done)), H', ⟨Nat.le_refl _⟩, ⟨by (with_reducible repeat (first | apply Kd.R_alloc | apply Kd.R_drewN | apply Kd.R_drew)); exact HO_8.out⟩, ⟨by (with_reducible repeat (first | apply Kd.R_alloc | apply Kd.R_drewN | apply Kd.R_drew)); exact Kd.R_mono HO518.out (fun _ hk => hk.2)⟩, ⟨by (with_reducible repeat (first | apply Kd.R_alloc | apply Kd.R_drewN | apply Kd.R_drew)); exact Kd.R_mono HO521.out (fun _ hk => hk.2)⟩, ⟨by repeat (first | (with_reducible first | exact HB.out | apply below_alloc | apply pw_below_drewN | apply below_drew1) | exact HB.out)⟩⟩
       case round =>
        clear H'
        try clear c1
        try clear c2
        try clear p2
        try clear c4
        try clear c4b0
        try clear c4b1
        try clear c8
        try clear c10
        try clear c11
        try clear c11b0
        try clear c12
        try clear c14
        try clear c15
        try clear c15b0
        try clear c15b1
        try clear c19
        try clear c19b0
        try clear c19b1
        try clear c20
        try clear c20b0
        try clear c20b1
        try clear c22
        try clear p2
        obtain ⟨x11_2, x12_2, rfl, HA, HK2, HO_8, HO_10, HO_11, HB⟩ := hrel
        cases gk with
        | zero => exact absurd HA.out (by simp [brokerlaw46_HopsReach.l0])
        | succ k2 =>
         have H := HA.out
         clear HA
         simp only [brokerlaw46_HopsReach.l0] at H
         by_cases c24 : x12_2 < (t511.length : Int)
         ·rw [if_pos c24] at H
          have c24b0 : decide (x12_2 < (t511.length : Int)) = true := decide_eq_true c24
          clear c24
          by_cases c25 : 0 ≤ x12_2
          ·rw [if_pos c25] at H
           have c25b0 : decide (0 ≤ x12_2) = true := decide_eq_true c25
           clear c25
           by_cases c26 : (rd t511 x12_2) < 0
           ·rw [if_pos c26] at H
            exact absurd H (by simp)
           ·rw [if_neg c26] at H
            have c26b0 : decide ((rd t511 x12_2) < 0) = false := decide_eq_false c26
            clear c26
            by_cases c27 : (rd t511 x12_2) ≥ t510
            ·rw [if_pos c27] at H
             exact absurd H (by simp)
            ·rw [if_neg c27] at H
             have c27b0 : decide (t510 ≤ (rd t511 x12_2)) = false := decide_eq_false c27
             clear c27
             by_cases c28 : 0 ≤ (rd t511 x12_2)
             ·rw [if_pos c28] at H
              have c28b0 : decide (0 ≤ (rd t511 x12_2)) = true := decide_eq_true c28
              clear c28
              by_cases c29 : (rd t511 x12_2) < (t516.length : Int)
              ·rw [if_pos c29] at H
               have c29b0 : decide ((rd t511 x12_2) < (t516.length : Int)) = true := decide_eq_true c29
               clear c29
               obtain ⟨bq30, hbq30⟩ : ∃ b_ : Bool, b_ = (rdOf false t516 (rd t511 x12_2)) := ⟨_, rfl⟩
               replace H : (if (bq30 = true) then (if (rd t511 x12_2) < (x11_2.length : Int) then (if rdOf false x11_2 (rd t511 x12_2) = true then (none) else (brokerlaw46_HopsReach.l0 k2 l0 a2 t510 t511 t512 t516 (x11_2.set ((rd t511 x12_2) : Int).toNat true) (wrap64 (x12_2 + 1)))) else (none)) else (none)) = some r := by rw [← hbq30] at H; exact H
               have Nbq30 := Aside0.mk hbq30
               clear hbq30
               by_cases c31 : (bq30 = true)
               ·subst c31
                have H1 : (if (rd t511 x12_2) < (x11_2.length : Int) then (if rdOf false x11_2 (rd t511 x12_2) = true then (none) else (brokerlaw46_HopsReach.l0 k2 l0 a2 t510 t511 t512 t516 (x11_2.set ((rd t511 x12_2) : Int).toNat true) (wrap64 (x12_2 + 1)))) else (none)) = some r := by rw [if_pos rfl] at H; exact H
                clear H
                have H := H1
                clear H1
                by_cases c32 : (rd t511 x12_2) < (x11_2.length : Int)
                ·rw [if_pos c32] at H
                 have c32b0 : decide ((rd t511 x12_2) < (x11_2.length : Int)) = true := decide_eq_true c32
                 clear c32
                 obtain ⟨bq33, hbq33⟩ : ∃ b_ : Bool, b_ = (rdOf false x11_2 (rd t511 x12_2)) := ⟨_, rfl⟩
                 replace H : (if bq33 = true then (none) else (brokerlaw46_HopsReach.l0 k2 l0 a2 t510 t511 t512 t516 (x11_2.set ((rd t511 x12_2) : Int).toNat true) (wrap64 (x12_2 + 1)))) = some r := by rw [← hbq33] at H; exact H
                 have Nbq33 := Aside0.mk hbq33
                 clear hbq33
                 by_cases c34 : bq33 = true
                 ·subst c34
                  have H1 : (none) = some r := by rw [if_pos rfl] at H; exact H
                  clear H
                  have H := H1
                  clear H1
                  exact absurd H (by simp)
                 ·replace c34 := Bool.eq_false_iff.mpr c34
                  subst c34
                  have H1 : (brokerlaw46_HopsReach.l0 k2 l0 a2 t510 t511 t512 t516 (x11_2.set ((rd t511 x12_2) : Int).toNat true) (wrap64 (x12_2 + 1))) = some r := by rw [if_neg (show ¬ (false = true) by decide)] at H; exact H
                  clear H
                  have H := H1
                  clear H1
                  obtain ⟨y529, hy529⟩ : ∃ y_ : List Bool, y_ = (x11_2.set ((rd t511 x12_2) : Int).toNat true) := ⟨_, rfl⟩
                  replace H : (brokerlaw46_HopsReach.l0 k2 l0 a2 t510 t511 t512 t516 y529 (wrap64 (x12_2 + 1))) = some r := by first | (rw [hy529]; with_reducible exact H) | (have H2_ := (Option.bind_some _ _).symm.trans H; rw [hy529]; with_reducible exact H2_) | (have H2_ := (Option.bind_some _ _).symm.trans H; with_reducible exact H2_) | with_reducible exact H | (rw [hy529]; exact H) | exact H
                  have Ny529 := Aside0.mk hy529
                  clear hy529
                  have H' := Aside0.mk H
                  clear H
                  obtain ⟨Ao36, co36, eo36⟩ := Kd.R_slice HO_8.out
                  subst eo36
                  have p522 : 0 ≤ (x12_2 : Int) := of_decide_eq_true (by first | (with_reducible assumption) | assumption)
                  have q522 : x12_2 < (t511.length : Int) := of_decide_eq_true (by first | (with_reducible assumption) | assumption)
                  obtain ⟨ad522, e522, hx522_0⟩ := Kd.at_int (Kd.R_reads' HO_8.out).2.2 x12_2 p522 q522
                  cases e522
                  replace p522 := eq_true p522
                  replace q522 := eq_true q522
                  have p523 : 0 ≤ (x12_2 : Int) := of_decide_eq_true (by first | (with_reducible assumption) | assumption)
                  have q523 : x12_2 < (t511.length : Int) := of_decide_eq_true (by first | (with_reducible assumption) | assumption)
                  obtain ⟨ad523, e523, hx523_0⟩ := Kd.at_int (Kd.R_reads' HO_8.out).2.2 x12_2 p523 q523
                  obtain rfl : ad522 = ad523 := (by injection e523)
                  replace p523 := eq_true p523
                  replace q523 := eq_true q523
                  have p524 : 0 ≤ (x12_2 : Int) := of_decide_eq_true (by first | (with_reducible assumption) | assumption)
                  have q524 : x12_2 < (t511.length : Int) := of_decide_eq_true (by first | (with_reducible assumption) | assumption)
                  obtain ⟨ad524, e524, hx524_0⟩ := Kd.at_int (Kd.R_reads' HO_8.out).2.2 x12_2 p524 q524
                  obtain rfl : ad522 = ad524 := (by injection e524)
                  replace p524 := eq_true p524
                  replace q524 := eq_true q524
                  obtain ⟨Ao37, co37, eo37⟩ := Kd.R_slice HO_10.out
                  subst eo37
                  have p525 : 0 ≤ ((rd t511 x12_2) : Int) := of_decide_eq_true (by first | (with_reducible assumption) | assumption)
                  have q525 : (rd t511 x12_2) < (t516.length : Int) := of_decide_eq_true (by first | (with_reducible assumption) | assumption)
                  obtain ⟨ad525, e525, hx525_0⟩ := Kd.at_bool (Kd.R_reads' HO_10.out).2.2 (rd t511 x12_2) p525 q525
                  (try rw [← Nbq30.out] at hx525_0)
                  (try rw [← Nbq33.out] at hx525_0)
                  cases e525
                  replace p525 := eq_true p525
                  replace q525 := eq_true q525
                  have p526 : 0 ≤ (x12_2 : Int) := of_decide_eq_true (by first | (with_reducible assumption) | assumption)
                  have q526 : x12_2 < (t511.length : Int) := of_decide_eq_true (by first | (with_reducible assumption) | assumption)
                  obtain ⟨ad526, e526, hx526_0⟩ := Kd.at_int (Kd.R_reads' HO_8.out).2.2 x12_2 p526 q526
                  obtain rfl : ad522 = ad526 := (by injection e526)
                  replace p526 := eq_true p526
                  replace q526 := eq_true q526
                  obtain ⟨Ao38, co38, eo38⟩ := Kd.R_slice HO_11.out
                  subst eo38
                  have p527 : 0 ≤ ((rd t511 x12_2) : Int) := of_decide_eq_true (by first | (with_reducible assumption) | assumption)
                  have q527 : (rd t511 x12_2) < (x11_2.length : Int) := of_decide_eq_true (by first | (with_reducible assumption) | assumption)
                  obtain ⟨ad527, e527, hx527_0⟩ := Kd.at_bool (Kd.R_reads' HO_11.out).2.2 (rd t511 x12_2) p527 q527
                  (try rw [← Nbq30.out] at hx527_0)
                  (try rw [← Nbq33.out] at hx527_0)
                  cases e527
                  replace p527 := eq_true p527
                  replace q527 := eq_true q527
                  have p528 : 0 ≤ (x12_2 : Int) := of_decide_eq_true (by first | (with_reducible assumption) | assumption)
                  have q528 : x12_2 < (t511.length : Int) := of_decide_eq_true (by first | (with_reducible assumption) | assumption)
                  obtain ⟨ad528, e528, hx528_0⟩ := Kd.at_int (Kd.R_reads' HO_8.out).2.2 x12_2 p528 q528
                  obtain rfl : ad522 = ad528 := (by injection e528)
                  replace p528 := eq_true p528
                  replace q528 := eq_true q528
                  have p35 : 0 ≤ ((rd t511 x12_2) : Int) := of_decide_eq_true (by first | (with_reducible assumption) | assumption)
                  have q35 : ((rd t511 x12_2) : Int) < ((x11_2.length : Int) : Int) := of_decide_eq_true (by first | (with_reducible assumption) | assumption)
                  obtain ⟨go35, co35, eo35, gb35, gl35, cl35, HG35⟩ := Kd.R_form HO_11.out (by omega)
                  (first | cases eo35 | (injection eo35 with ea_ en_ ec_; (first | subst ea_ | (injection ea_ with ea_; subst ea_)); subst ec_; clear en_))
                  have GB35 := Aside0.mk gb35
                  have GG35 := Aside0.mk HG35
                  clear gb35 gl35 HG35
                  (first | simp only [add_plain] at hx527_0 | skip)
                  obtain ⟨hx35_0, hf35_0⟩ := Kd.R_celln false HO_11.out ((rd t511 x12_2) : Int) p35 q35
                  replace p35 := eq_true p35
                  replace q35 := eq_true q35
                  have HP39 := Kd.R_putg HO_11.out ((rd t511 x12_2) : Int) true
                  go_wp2_with (first | ((with_reducible refine gate_store (t := 4) (p := 96) rfl ?_); refine store_event (t := 4) (p := 96) (v := ?vo_w40) (w1 := (wr.setCell ⟨go35, ((rd t511 x12_2) : Int).toNat, none⟩ (.bool true))) ?hg ?ho ?hn ?hr ?_; (case ho => rfl); (case hg => rfl); (case hn => rfl); (case hr => first | (go_simp; done) | (go_simp; rfl)); intro w40 hw; have hg : wr.grownBy w40 (some go35) := (by rw [hw]; exact HP39.2); have hp_ : Kd.R Kd.bool 4 w40 w.heap.size (fun k_ => some k_ ≠ (.slice (some ad525) t516.length co37 : Value).ownBlock) (.slice (some ⟨go35, 0, none⟩) x11_2.length co38) y529 := (by rw [hw, Ny529.out]; exact HP39.1); clear HP39; have n0_ := Aside0.mk (Kd.R_over' (v := (.slice (some ⟨go35, 0, none⟩) x11_2.length co38)) (by (with_reducible repeat (first | apply Kd.R_alloc | apply Kd.R_drewN | apply Kd.R_drew)); exact HO_8.out) (Kd.R_typed HO_11.out) (by decide) hg); have n1_ := Aside0.mk (Kd.R_after (v := (.slice (some ⟨go35, 0, none⟩) x11_2.length co38)) (v1 := (.slice (some ⟨go35, 0, none⟩) x11_2.length co38)) (ok := (fun _ => True)) (by (with_reducible repeat (first | apply Kd.R_alloc | apply Kd.R_drewN | apply Kd.R_drew)); exact Kd.R_mono HO_10.out (fun _ hk => ⟨trivial, hk⟩)) hg (.inl rfl)); have n2_ := Aside0.mk (hp_); have n3_ := Aside0.mk ((by rw [hw]; exact below_set (HB.out) GB35.out : Below w.heap.size w w40)); clear HO_8; clear HO_10; clear HO_11; clear HB; have HO_8 := n0_; have HO_10 := n1_; have HO_11 := n2_; have HB := n3_; clear n0_ n1_ n2_ n3_; clear hg hw hp_))
                  go_roundg k2
                  case measure => have := HJ8.out; have := HK2.out; omega
                  case rel => exact ⟨(y529), (wrap64 (x12_2 + 1)), (by first | rfl | (simp; done) | (simp [*]; done)), H', ⟨by have := HJ8.out; have := HK2.out; omega⟩, ⟨by (with_reducible repeat (first | apply Kd.R_alloc | apply Kd.R_drewN | apply Kd.R_drew)); exact HO_8.out⟩, ⟨by (with_reducible repeat (first | apply Kd.R_alloc | apply Kd.R_drewN | apply Kd.R_drew)); exact Kd.R_mono HO_10.out (fun _ hk => hk.2)⟩, ⟨by (with_reducible repeat (first | apply Kd.R_alloc | apply Kd.R_drewN | apply Kd.R_drew)); exact HO_11.out⟩, ⟨by repeat (first | (with_reducible first | exact HB.out | apply below_alloc | apply pw_below_drewN | apply below_drew1) | exact HB.out)⟩⟩
                ·rw [if_neg c32] at H
                 exact absurd H (by simp)
               ·replace c31 := Bool.eq_false_iff.mpr c31
                subst c31
                have H1 : (none) = some r := by rw [if_neg (show ¬ (false = true) by decide)] at H; exact H
                clear H
                have H := H1
                clear H1
                exact absurd H (by simp)
              ·rw [if_neg c29] at H
               exact absurd H (by simp)
             ·rw [if_neg c28] at H
              exact absurd H (by simp)
          ·rw [if_neg c25] at H
           exact absurd H (by simp)
         ·rw [if_neg c24] at H
          have c24b0 : decide (x12_2 < (t511.length : Int)) = false := decide_eq_false c24
          clear c24
          have H' := Aside0.mk H
          clear H
          obtain ⟨Ao41, co41, eo41⟩ := Kd.R_slice HO_8.out
          subst eo41
          go_wp2
          go_loopg [13, 15] k2 (fun kq v13 v15 w' => ∃ (x13_3 : Int) (x15_3 : Int), v13 = .int .i64 x13_3 ∧ v15 = .int .i64 x15_3 ∧ Aside0 (brokerlaw46_HopsReach.l1 kq l0 a2 t510 t511 t512 t516 x13_3 0 x15_3 = some r) ∧ Aside0 (kq ≤ k2) ∧ Aside0 (Kd.R (Kd.int .i64) 3 w' w.heap.size (fun _ => True) (.slice Ao41 t511.length co41) t511) ∧ Aside0 (Kd.R Kd.bool 4 w' w.heap.size (fun _ => True) v517 t516) ∧ Aside0 (Below w.heap.size w w'))
          case atStart => exact ⟨(0), (0), (by first | rfl | (simp; done) | (simp [*]; done)), (by first | rfl | (simp; done) | (simp [*]; done)), H', ⟨Nat.le_refl _⟩, ⟨by (with_reducible repeat (first | apply Kd.R_alloc | apply Kd.R_drewN | apply Kd.R_drew)); exact HO_8.out⟩, ⟨by (with_reducible repeat (first | apply Kd.R_alloc | apply Kd.R_drewN | apply Kd.R_drew)); exact Kd.R_mono HO_10.out (fun _ hk => trivial)⟩, ⟨by repeat (first | (with_reducible first | exact HB.out | apply below_alloc | apply pw_below_drewN | apply below_drew1) | exact HB.out)⟩⟩
          case round =>
           clear H'
           try clear c1
           try clear c2
           try clear p2
           try clear c3
           try clear p3
           try clear q3
           try clear hx3
           try clear hf3
           try clear c4
           try clear c4b0
           try clear c4b1
           try clear p5
           try clear q5
           try clear hx5
           try clear p6
           try clear c8
           try clear c10
           try clear c11
           try clear c11b0
           try clear c12
           try clear c14
           try clear c15
           try clear c15b0
           try clear c15b1
           try clear c19
           try clear c19b0
           try clear c19b1
           try clear c20
           try clear c20b0
           try clear c20b1
           try clear c22
           try clear c24
           try clear c24b0
           try clear c25
           try clear c25b0
           try clear c26
           try clear c26b0
           try clear c27
           try clear c27b0
           try clear c28
           try clear c28b0
           try clear c29
           try clear c29b0
           try clear q30
           try clear c31
           try clear c32
           try clear c32b0
           try clear q33
           try clear c34
           try clear p35
           try clear q35
           try clear hx35
           try clear hf35
           try clear hx35_0
           try clear hx522_0
           try clear hx523_0
           try clear hx524_0
           try clear hx525_0
           try clear hx526_0
           try clear hx527_0
           try clear hx528_0
           try clear p2
           try clear p35
           try clear p522
           try clear p523
           try clear p524
           try clear p525
           try clear p526
           try clear p527
           try clear p528
           try clear q35
           try clear q522
           try clear q523
           try clear q524
           try clear q525
           try clear q526
           try clear q527
           try clear q528
           obtain ⟨x13_3, x15_3, rfl, rfl, HA, HK3, HO_8, HO_10, HB⟩ := hrel
           cases gk with
           | zero => exact absurd HA.out (by simp [brokerlaw46_HopsReach.l1])
           | succ k3 =>
            have H := HA.out
            clear HA
            simp only [brokerlaw46_HopsReach.l1] at H
            by_cases c42 : x15_3 < t510
            ·rw [if_pos c42] at H
             have c42b0 : decide (x15_3 < t510) = true := decide_eq_true c42
             clear c42
             by_cases c43 : 0 ≤ x15_3
             ·rw [if_pos c43] at H
              have c43b0 : decide (0 ≤ x15_3) = true := decide_eq_true c43
              clear c43
              by_cases c44 : x15_3 < (t516.length : Int)
              ·rw [if_pos c44] at H
               have c44b0 : decide (x15_3 < (t516.length : Int)) = true := decide_eq_true c44
               clear c44
               obtain ⟨bq45, hbq45⟩ : ∃ b_ : Bool, b_ = (rdOf false t516 x15_3) := ⟨_, rfl⟩
               replace H : (if bq45 = true then (brokerlaw46_HopsReach.l1 k3 l0 a2 t510 t511 t512 t516 (wrap64 (x13_3 + 1)) 0 (wrap64 (x15_3 + 1))) else (brokerlaw46_HopsReach.l1 k3 l0 a2 t510 t511 t512 t516 x13_3 0 (wrap64 (x15_3 + 1)))) = some r := by rw [← hbq45] at H; exact H
               have Nbq45 := Aside0.mk hbq45
               clear hbq45
               by_cases c46 : bq45 = true
               ·subst c46
                have H1 : (brokerlaw46_HopsReach.l1 k3 l0 a2 t510 t511 t512 t516 (wrap64 (x13_3 + 1)) 0 (wrap64 (x15_3 + 1))) = some r := by rw [if_pos rfl] at H; exact H
                clear H
                have H := H1
                clear H1
                have H' := Aside0.mk H
                clear H
                obtain ⟨Ao47, co47, eo47⟩ := Kd.R_slice HO_10.out
                subst eo47
                have p530 : 0 ≤ (x15_3 : Int) := of_decide_eq_true (by first | (with_reducible assumption) | assumption)
                have q530 : x15_3 < (t516.length : Int) := of_decide_eq_true (by first | (with_reducible assumption) | assumption)
                obtain ⟨ad530, e530, hx530_0⟩ := Kd.at_bool (Kd.R_reads' HO_10.out).2.2 x15_3 p530 q530
                (try rw [← Nbq45.out] at hx530_0)
                cases e530
                replace p530 := eq_true p530
                replace q530 := eq_true q530
                go_wp2
                go_roundg k3
                case measure => have := HJ8.out; have := HK2.out; have := HK3.out; omega
                case rel => exact ⟨(wrap64 (x13_3 + 1)), (wrap64 (x15_3 + 1)), (by first | rfl | (simp; done) | (simp [*]; done)), (by first | rfl | (simp; done) | (simp [*]; done)), H', ⟨by have := HJ8.out; have := HK2.out; have := HK3.out; omega⟩, ⟨by (with_reducible repeat (first | apply Kd.R_alloc | apply Kd.R_drewN | apply Kd.R_drew)); exact HO_8.out⟩, ⟨by (with_reducible repeat (first | apply Kd.R_alloc | apply Kd.R_drewN | apply Kd.R_drew)); exact HO_10.out⟩, ⟨by repeat (first | (with_reducible first | exact HB.out | apply below_alloc | apply pw_below_drewN | apply below_drew1) | exact HB.out)⟩⟩
               ·replace c46 := Bool.eq_false_iff.mpr c46
                subst c46
                have H1 : (brokerlaw46_HopsReach.l1 k3 l0 a2 t510 t511 t512 t516 x13_3 0 (wrap64 (x15_3 + 1))) = some r := by rw [if_neg (show ¬ (false = true) by decide)] at H; exact H
                clear H
                have H := H1
                clear H1
                have H' := Aside0.mk H
                clear H
                obtain ⟨Ao48, co48, eo48⟩ := Kd.R_slice HO_10.out
                subst eo48
                have p530 : 0 ≤ (x15_3 : Int) := of_decide_eq_true (by first | (with_reducible assumption) | assumption)
                have q530 : x15_3 < (t516.length : Int) := of_decide_eq_true (by first | (with_reducible assumption) | assumption)
                obtain ⟨ad530, e530, hx530_0⟩ := Kd.at_bool (Kd.R_reads' HO_10.out).2.2 x15_3 p530 q530
                (try rw [← Nbq45.out] at hx530_0)
                cases e530
                replace p530 := eq_true p530
                replace q530 := eq_true q530
                go_wp2
                go_roundg k3
                case measure => have := HJ8.out; have := HK2.out; have := HK3.out; omega
                case rel => exact ⟨(x13_3), (wrap64 (x15_3 + 1)), (by first | rfl | (simp; done) | (simp [*]; done)), (by first | rfl | (simp; done) | (simp [*]; done)), H', ⟨by have := HJ8.out; have := HK2.out; have := HK3.out; omega⟩, ⟨by (with_reducible repeat (first | apply Kd.R_alloc | apply Kd.R_drewN | apply Kd.R_drew)); exact HO_8.out⟩, ⟨by (with_reducible repeat (first | apply Kd.R_alloc | apply Kd.R_drewN | apply Kd.R_drew)); exact HO_10.out⟩, ⟨by repeat (first | (with_reducible first | exact HB.out | apply below_alloc | apply pw_below_drewN | apply below_drew1) | exact HB.out)⟩⟩
              ·rw [if_neg c44] at H
               exact absurd H (by simp)
             ·rw [if_neg c43] at H
              exact absurd H (by simp)
            ·rw [if_neg c42] at H
             have c42b0 : decide (x15_3 < t510) = false := decide_eq_false c42
             clear c42
             have H' := Aside0.mk H
             clear H
             go_wp2
             go_loopg [14, 16] k3 (fun kq v14 v16 w' => ∃ (x14_4 : Int) (x16_4 : Int), v14 = .int .i64 x14_4 ∧ v16 = .int .i64 x16_4 ∧ Aside0 (brokerlaw46_HopsReach.l2 kq l0 a2 t510 t511 t512 t516 x13_3 x14_4 x16_4 = some r) ∧ Aside0 (kq ≤ k3) ∧ Aside0 (Kd.R (Kd.int .i64) 3 w' w.heap.size (fun _ => True) (.slice Ao41 t511.length co41) t511) ∧ Aside0 (Kd.R Kd.bool 4 w' w.heap.size (fun _ => True) v517 t516) ∧ Aside0 (Below w.heap.size w w'))
             case atStart => exact ⟨(0), (0), (by first | rfl | (simp; done) | (simp [*]; done)), (by first | rfl | (simp; done) | (simp [*]; done)), H', ⟨Nat.le_refl _⟩, ⟨by (with_reducible repeat (first | apply Kd.R_alloc | apply Kd.R_drewN | apply Kd.R_drew)); exact HO_8.out⟩, ⟨by (with_reducible repeat (first | apply Kd.R_alloc | apply Kd.R_drewN | apply Kd.R_drew)); exact HO_10.out⟩, ⟨by repeat (first | (with_reducible first | exact HB.out | apply below_alloc | apply pw_below_drewN | apply below_drew1) | exact HB.out)⟩⟩
             case round =>
              clear H'
              try clear c1
              try clear c2
              try clear p2
              try clear c3
              try clear p3
              try clear q3
              try clear hx3
              try clear hf3
              try clear c4
              try clear c4b0
              try clear c4b1
              try clear q4
              try clear p5
              try clear q5
              try clear hx5
              try clear p6
              try clear c8
              try clear c10
              try clear c11
              try clear c11b0
              try clear c12
              try clear c14
              try clear c15
              try clear c15b0
              try clear c15b1
              try clear c19
              try clear c19b0
              try clear c19b1
              try clear c20
              try clear c20b0
              try clear c20b1
              try clear c22
              try clear c24
              try clear c24b0
              try clear c25
              try clear c25b0
              try clear c26
              try clear c26b0
              try clear c27
              try clear c27b0
              try clear c28
              try clear c28b0
              try clear c29
              try clear c29b0
              try clear q30
              try clear c31
              try clear c32
              try clear c32b0
              try clear q33
              try clear c34
              try clear p35
              try clear q35
              try clear hx35
              try clear hf35
              try clear c42
              try clear c42b0
              try clear c43
              try clear c43b0
              try clear c44
              try clear c44b0
              try clear q45
              try clear c46
              try clear hx35_0
              try clear hx522_0
              try clear hx523_0
              try clear hx524_0
              try clear hx525_0
              try clear hx526_0
              try clear hx527_0
              try clear hx528_0
              try clear hx530_0
              try clear p2
              try clear p3
              try clear p35
              try clear p5
              try clear p522
              try clear p523
              try clear p524
              try clear p525
              try clear p526
              try clear p527
              try clear p528
              try clear p530
              try clear p6
              try clear q3
              try clear q30
              try clear q33
              try clear q35
              try clear q5
              try clear q522
              try clear q523
              try clear q524
              try clear q525
              try clear q526
              try clear q527
              try clear q528
              try clear q530
              obtain ⟨x14_4, x16_4, rfl, rfl, HA, HK4, HO_8, HO_10, HB⟩ := hrel
              cases gk with
              | zero => exact absurd HA.out (by simp [brokerlaw46_HopsReach.l2])
              | succ k4 =>
               have H := HA.out
               clear HA
               simp only [brokerlaw46_HopsReach.l2] at H
               by_cases c49 : x16_4 < (l0.length : Int)
               ·rw [if_pos c49] at H
                have c49b0 : decide (x16_4 < (l0.length : Int)) = true := decide_eq_true c49
                clear c49
                by_cases c50 : 0 ≤ x16_4
                ·rw [if_pos c50] at H
                 have c50b0 : decide (0 ≤ x16_4) = true := decide_eq_true c50
                 clear c50
                 replace H := Option.bind_eq_some_iff.mp H
                 obtain ⟨t532, A510, H⟩ := H
                 replace H : (if t532 = true then (if 0 ≤ ((rd_T48 l0 x16_4).f0) then (if ((rd_T48 l0 x16_4).f0) < (t516.length : Int) then (if rdOf false t516 ((rd_T48 l0 x16_4).f0) = true then (brokerlaw46_HopsReach.l2 k4 l0 a2 t510 t511 t512 t516 x13_3 (wrap64 (x14_4 + 1)) (wrap64 (x16_4 + 1))) else (brokerlaw46_HopsReach.l2 k4 l0 a2 t510 t511 t512 t516 x13_3 x14_4 (wrap64 (x16_4 + 1)))) else (none)) else (none)) else (brokerlaw46_HopsReach.l2 k4 l0 a2 t510 t511 t512 t516 x13_3 x14_4 (wrap64 (x16_4 + 1)))) = some r := H
                 have A51 := Aside0.mk A510
                 clear A510
                 by_cases c52 : t532 = true
                 ·subst c52
                  have H1 : (if 0 ≤ ((rd_T48 l0 x16_4).f0) then (if ((rd_T48 l0 x16_4).f0) < (t516.length : Int) then (if rdOf false t516 ((rd_T48 l0 x16_4).f0) = true then (brokerlaw46_HopsReach.l2 k4 l0 a2 t510 t511 t512 t516 x13_3 (wrap64 (x14_4 + 1)) (wrap64 (x16_4 + 1))) else (brokerlaw46_HopsReach.l2 k4 l0 a2 t510 t511 t512 t516 x13_3 x14_4 (wrap64 (x16_4 + 1)))) else (none)) else (none)) = some r := by rw [if_pos rfl] at H; exact H
                  clear H
                  have H := H1
                  clear H1
                  by_cases c53 : 0 ≤ ((rd_T48 l0 x16_4).f0)
                  ·rw [if_pos c53] at H
                   have c53b0 : decide (0 ≤ ((rd_T48 l0 x16_4).f0)) = true := decide_eq_true c53
                   clear c53
                   by_cases c54 : ((rd_T48 l0 x16_4).f0) < (t516.length : Int)
                   ·rw [if_pos c54] at H
                    have c54b0 : decide (((rd_T48 l0 x16_4).f0) < (t516.length : Int)) = true := decide_eq_true c54
                    clear c54
                    obtain ⟨bq55, hbq55⟩ : ∃ b_ : Bool, b_ = (rdOf false t516 ((rd_T48 l0 x16_4).f0)) := ⟨_, rfl⟩
                    replace H : (if bq55 = true then (brokerlaw46_HopsReach.l2 k4 l0 a2 t510 t511 t512 t516 x13_3 (wrap64 (x14_4 + 1)) (wrap64 (x16_4 + 1))) else (brokerlaw46_HopsReach.l2 k4 l0 a2 t510 t511 t512 t516 x13_3 x14_4 (wrap64 (x16_4 + 1)))) = some r := by rw [← hbq55] at H; exact H
                    have Nbq55 := Aside0.mk hbq55
                    clear hbq55
                    by_cases c56 : bq55 = true
                    ·subst c56
                     have H1 : (brokerlaw46_HopsReach.l2 k4 l0 a2 t510 t511 t512 t516 x13_3 (wrap64 (x14_4 + 1)) (wrap64 (x16_4 + 1))) = some r := by rw [if_pos rfl] at H; exact H
                     clear H
                     have H := H1
                     clear H1
                     have H' := Aside0.mk H
                     clear H
                     have p531 : 0 ≤ (x16_4 : Int) := of_decide_eq_true (by first | (with_reducible assumption) | assumption)
                     have q531 : x16_4 < (l0.length : Int) := of_decide_eq_true (by first | (with_reducible assumption) | assumption)
                     obtain ⟨ad531, e531, hx531_0, hx531_1⟩ := at_T48 HR0.out x16_4 p531 q531
                     cases e531
                     replace hx531_0 := (HB.out.cell (World.block_lt_of_cell? w _ hx531_0)).trans hx531_0
                     replace hx531_1 := (HB.out.cell (World.block_lt_of_cell? w _ hx531_1)).trans hx531_1
                     replace p531 := eq_true p531
                     replace q531 := eq_true q531
                     go_wp2_with (first | ((with_reducible refine gate_callee (f := 27) rfl ?_); refine goesL_ (some 119) rfl rfl Tryd.func27 (by kernel_rfl) rfl #[.agg #[.int .i64 ((rd_T48 l0 x16_4).f0), .int .i64 ((rd_T48 l0 x16_4).f1)], .int .i64 t510] rfl (by (try simp only [List.map_toArray, List.map_cons, List.map_nil]); first | done | rfl | (simp only [List.length_drop, List.length_take]; rfl)) ?_; (with_reducible refine (brokerref46_Counts.calls ((rd_T48 l0 x16_4).f0) ((rd_T48 l0 x16_4).f1) t510 true _ A51.out).mono ?_); rintro e w57 ⟨rfl, hb⟩; refine ⟨_, rfl, ?_⟩; have n0_ := Aside0.mk (Kd.R_below (by (with_reducible repeat (first | apply Kd.R_alloc | apply Kd.R_drewN | apply Kd.R_drew)); exact HO_8.out) hb); have n1_ := Aside0.mk (Kd.R_below (by (with_reducible repeat (first | apply Kd.R_alloc | apply Kd.R_drewN | apply Kd.R_drew)); exact HO_10.out) hb); have n2_ := Aside0.mk (below_step (by repeat (first | (with_reducible first | exact HB.out | apply below_alloc | apply pw_below_drewN | apply below_drew1) | exact HB.out)) hb); clear HO_8; clear HO_10; clear HB; have HO_8 := n0_; have HO_10 := n1_; have HB := n2_; clear n0_ n1_ n2_; (try clear hb); (try clear hb2); (try clear hk); (try clear hi); have p533 : 0 ≤ (x16_4 : Int) := of_decide_eq_true (by first | (with_reducible assumption) | assumption); have q533 : x16_4 < (l0.length : Int) := of_decide_eq_true (by first | (with_reducible assumption) | assumption); obtain ⟨ad533, e533, hx533_0, hx533_1⟩ := at_T48 HR0.out x16_4 p533 q533; obtain rfl : ad531 = ad533 := (by injection e533); replace hx533_0 := (HB.out.cell (World.block_lt_of_cell? w _ hx533_0)).trans hx533_0; replace hx533_1 := (HB.out.cell (World.block_lt_of_cell? w _ hx533_1)).trans hx533_1; replace p533 := eq_true p533; replace q533 := eq_true q533; obtain ⟨Ao58, co58, eo58⟩ := Kd.R_slice HO_10.out; subst eo58; have p534 : 0 ≤ (((rd_T48 l0 x16_4).f0) : Int) := of_decide_eq_true (by first | (with_reducible assumption) | assumption); have q534 : ((rd_T48 l0 x16_4).f0) < (t516.length : Int) := of_decide_eq_true (by first | (with_reducible assumption) | assumption); obtain ⟨ad534, e534, hx534_0⟩ := Kd.at_bool (Kd.R_reads' HO_10.out).2.2 ((rd_T48 l0 x16_4).f0) p534 q534; (try rw [← Nbq55.out] at hx534_0); cases e534; replace p534 := eq_true p534; replace q534 := eq_true q534))
                     go_roundg k4
                     case measure => have := HJ8.out; have := HK2.out; have := HK3.out; have := HK4.out; omega
                     case rel => exact ⟨(wrap64 (x14_4 + 1)), (wrap64 (x16_4 + 1)), (by first | rfl | (simp; done) | (simp [*]; done)), (by first | rfl | (simp; done) | (simp [*]; done)), H', ⟨by have := HJ8.out; have := HK2.out; have := HK3.out; have := HK4.out; omega⟩, ⟨by (with_reducible repeat (first | apply Kd.R_alloc | apply Kd.R_drewN | apply Kd.R_drew)); exact HO_8.out⟩, ⟨by (with_reducible repeat (first | apply Kd.R_alloc | apply Kd.R_drewN | apply Kd.R_drew)); exact HO_10.out⟩, ⟨by repeat (first | (with_reducible first | exact HB.out | apply below_alloc | apply pw_below_drewN | apply below_drew1) | exact HB.out)⟩⟩
                    ·replace c56 := Bool.eq_false_iff.mpr c56
                     subst c56
                     have H1 : (brokerlaw46_HopsReach.l2 k4 l0 a2 t510 t511 t512 t516 x13_3 x14_4 (wrap64 (x16_4 + 1))) = some r := by rw [if_neg (show ¬ (false = true) by decide)] at H; exact H
                     clear H
                     have H := H1
                     clear H1
                     have H' := Aside0.mk H
                     clear H
                     have p531 : 0 ≤ (x16_4 : Int) := of_decide_eq_true (by first | (with_reducible assumption) | assumption)
                     have q531 : x16_4 < (l0.length : Int) := of_decide_eq_true (by first | (with_reducible assumption) | assumption)
                     obtain ⟨ad531, e531, hx531_0, hx531_1⟩ := at_T48 HR0.out x16_4 p531 q531
                     cases e531
                     replace hx531_0 := (HB.out.cell (World.block_lt_of_cell? w _ hx531_0)).trans hx531_0
                     replace hx531_1 := (HB.out.cell (World.block_lt_of_cell? w _ hx531_1)).trans hx531_1
                     replace p531 := eq_true p531
                     replace q531 := eq_true q531
                     go_wp2_with (first | ((with_reducible refine gate_callee (f := 27) rfl ?_); refine goesL_ (some 119) rfl rfl Tryd.func27 (by kernel_rfl) rfl #[.agg #[.int .i64 ((rd_T48 l0 x16_4).f0), .int .i64 ((rd_T48 l0 x16_4).f1)], .int .i64 t510] rfl (by (try simp only [List.map_toArray, List.map_cons, List.map_nil]); first | done | rfl | (simp only [List.length_drop, List.length_take]; rfl)) ?_; (with_reducible refine (brokerref46_Counts.calls ((rd_T48 l0 x16_4).f0) ((rd_T48 l0 x16_4).f1) t510 true _ A51.out).mono ?_); rintro e w59 ⟨rfl, hb⟩; refine ⟨_, rfl, ?_⟩; have n0_ := Aside0.mk (Kd.R_below (by (with_reducible repeat (first | apply Kd.R_alloc | apply Kd.R_drewN | apply Kd.R_drew)); exact HO_8.out) hb); have n1_ := Aside0.mk (Kd.R_below (by (with_reducible repeat (first | apply Kd.R_alloc | apply Kd.R_drewN | apply Kd.R_drew)); exact HO_10.out) hb); have n2_ := Aside0.mk (below_step (by repeat (first | (with_reducible first | exact HB.out | apply below_alloc | apply pw_below_drewN | apply below_drew1) | exact HB.out)) hb); clear HO_8; clear HO_10; clear HB; have HO_8 := n0_; have HO_10 := n1_; have HB := n2_; clear n0_ n1_ n2_; (try clear hb); (try clear hb2); (try clear hk); (try clear hi); have p533 : 0 ≤ (x16_4 : Int) := of_decide_eq_true (by first | (with_reducible assumption) | assumption); have q533 : x16_4 < (l0.length : Int) := of_decide_eq_true (by first | (with_reducible assumption) | assumption); obtain ⟨ad533, e533, hx533_0, hx533_1⟩ := at_T48 HR0.out x16_4 p533 q533; obtain rfl : ad531 = ad533 := (by injection e533); replace hx533_0 := (HB.out.cell (World.block_lt_of_cell? w _ hx533_0)).trans hx533_0; replace hx533_1 := (HB.out.cell (World.block_lt_of_cell? w _ hx533_1)).trans hx533_1; replace p533 := eq_true p533; replace q533 := eq_true q533; obtain ⟨Ao60, co60, eo60⟩ := Kd.R_slice HO_10.out; subst eo60; have p534 : 0 ≤ (((rd_T48 l0 x16_4).f0) : Int) := of_decide_eq_true (by first | (with_reducible assumption) | assumption); have q534 : ((rd_T48 l0 x16_4).f0) < (t516.length : Int) := of_decide_eq_true (by first | (with_reducible assumption) | assumption); obtain ⟨ad534, e534, hx534_0⟩ := Kd.at_bool (Kd.R_reads' HO_10.out).2.2 ((rd_T48 l0 x16_4).f0) p534 q534; (try rw [← Nbq55.out] at hx534_0); cases e534; replace p534 := eq_true p534; replace q534 := eq_true q534))
                     go_roundg k4
                     case measure => have := HJ8.out; have := HK2.out; have := HK3.out; have := HK4.out; omega
                     case rel => exact ⟨(x14_4), (wrap64 (x16_4 + 1)), (by first | rfl | (simp; done) | (simp [*]; done)), (by first | rfl | (simp; done) | (simp [*]; done)), H', ⟨by have := HJ8.out; have := HK2.out; have := HK3.out; have := HK4.out; omega⟩, ⟨by (with_reducible repeat (first | apply Kd.R_alloc | apply Kd.R_drewN | apply Kd.R_drew)); exact HO_8.out⟩, ⟨by (with_reducible repeat (first | apply Kd.R_alloc | apply Kd.R_drewN | apply Kd.R_drew)); exact HO_10.out⟩, ⟨by repeat (first | (with_reducible first | exact HB.out | apply below_alloc | apply pw_below_drewN | apply below_drew1) | exact HB.out)⟩⟩
                   ·rw [if_neg c54] at H
                    exact absurd H (by simp)
                  ·rw [if_neg c53] at H
                   exact absurd H (by simp)
                 ·replace c52 := Bool.eq_false_iff.mpr c52
                  subst c52
                  have H1 : (brokerlaw46_HopsReach.l2 k4 l0 a2 t510 t511 t512 t516 x13_3 x14_4 (wrap64 (x16_4 + 1))) = some r := by rw [if_neg (show ¬ (false = true) by decide)] at H; exact H
                  clear H
                  have H := H1
                  clear H1
                  have H' := Aside0.mk H
                  clear H
                  have p531 : 0 ≤ (x16_4 : Int) := of_decide_eq_true (by first | (with_reducible assumption) | assumption)
                  have q531 : x16_4 < (l0.length : Int) := of_decide_eq_true (by first | (with_reducible assumption) | assumption)
                  obtain ⟨ad531, e531, hx531_0, hx531_1⟩ := at_T48 HR0.out x16_4 p531 q531
                  cases e531
                  replace hx531_0 := (HB.out.cell (World.block_lt_of_cell? w _ hx531_0)).trans hx531_0
                  replace hx531_1 := (HB.out.cell (World.block_lt_of_cell? w _ hx531_1)).trans hx531_1
                  replace p531 := eq_true p531
                  replace q531 := eq_true q531
                  go_wp2_with (first | ((with_reducible refine gate_callee (f := 27) rfl ?_); refine goesL_ (some 119) rfl rfl Tryd.func27 (by kernel_rfl) rfl #[.agg #[.int .i64 ((rd_T48 l0 x16_4).f0), .int .i64 ((rd_T48 l0 x16_4).f1)], .int .i64 t510] rfl (by (try simp only [List.map_toArray, List.map_cons, List.map_nil]); first | done | rfl | (simp only [List.length_drop, List.length_take]; rfl)) ?_; (with_reducible refine (brokerref46_Counts.calls ((rd_T48 l0 x16_4).f0) ((rd_T48 l0 x16_4).f1) t510 false _ A51.out).mono ?_); rintro e w61 ⟨rfl, hb⟩; refine ⟨_, rfl, ?_⟩; have n0_ := Aside0.mk (Kd.R_below (by (with_reducible repeat (first | apply Kd.R_alloc | apply Kd.R_drewN | apply Kd.R_drew)); exact HO_8.out) hb); have n1_ := Aside0.mk (Kd.R_below (by (with_reducible repeat (first | apply Kd.R_alloc | apply Kd.R_drewN | apply Kd.R_drew)); exact HO_10.out) hb); have n2_ := Aside0.mk (below_step (by repeat (first | (with_reducible first | exact HB.out | apply below_alloc | apply pw_below_drewN | apply below_drew1) | exact HB.out)) hb); clear HO_8; clear HO_10; clear HB; have HO_8 := n0_; have HO_10 := n1_; have HB := n2_; clear n0_ n1_ n2_; (try clear hb); (try clear hb2); (try clear hk); (try clear hi)))
                  go_roundg k4
                  case measure => have := HJ8.out; have := HK2.out; have := HK3.out; have := HK4.out; omega
                  case rel => exact ⟨(x14_4), (wrap64 (x16_4 + 1)), (by first | rfl | (simp; done) | (simp [*]; done)), (by first | rfl | (simp; done) | (simp [*]; done)), H', ⟨by have := HJ8.out; have := HK2.out; have := HK3.out; have := HK4.out; omega⟩, ⟨by (with_reducible repeat (first | apply Kd.R_alloc | apply Kd.R_drewN | apply Kd.R_drew)); exact HO_8.out⟩, ⟨by (with_reducible repeat (first | apply Kd.R_alloc | apply Kd.R_drewN | apply Kd.R_drew)); exact HO_10.out⟩, ⟨by repeat (first | (with_reducible first | exact HB.out | apply below_alloc | apply pw_below_drewN | apply below_drew1) | exact HB.out)⟩⟩
                ·rw [if_neg c50] at H
                 exact absurd H (by simp)
               ·rw [if_neg c49] at H
                have c49b0 : decide (x16_4 < (l0.length : Int)) = false := decide_eq_false c49
                clear c49
                replace H := Option.bind_eq_some_iff.mp H
                obtain ⟨t535, A620, H⟩ := H
                replace H : (if t535 = true then (if (t511.length : Int) = x13_3 then (if 0 < (t511.length : Int) then (if (rd t511 0) = a2 then (some (t512 == (wrap64 ((wrap64 ((wrap64 (2 * x14_4)) - x13_3)) + 1)))) else (none)) else (none)) else (none)) else (none)) = some r := H
                have A62 := Aside0.mk A620
                clear A620
                by_cases c63 : t535 = true
                ·subst c63
                 have H1 : (if (t511.length : Int) = x13_3 then (if 0 < (t511.length : Int) then (if (rd t511 0) = a2 then (some (t512 == (wrap64 ((wrap64 ((wrap64 (2 * x14_4)) - x13_3)) + 1)))) else (none)) else (none)) else (none)) = some r := by rw [if_pos rfl] at H; exact H
                 clear H
                 have H := H1
                 clear H1
                 by_cases c64 : (t511.length : Int) = x13_3
                 ·rw [if_pos c64] at H
                  have c64b0 : ((t511.length : Int) == x13_3) = true := beq_iff_eq.mpr c64
                  have c64b1 : ((t511.length : Int) != x13_3) = false := bne_eq_false_iff_eq.mpr c64
                  clear c64
                  by_cases c65 : 0 < (t511.length : Int)
                  ·rw [if_pos c65] at H
                   have c65b0 : decide (0 < (t511.length : Int)) = true := decide_eq_true c65
                   have c65b1 : decide (0 < t511.length) = true := decide_eq_true (by omega)
                   clear c65
                   by_cases c66 : (rd t511 0) = a2
                   ·rw [if_pos c66] at H
                    have c66b0 : ((rd t511 0) == a2) = true := beq_iff_eq.mpr c66
                    have c66b1 : ((rd t511 0) != a2) = false := bne_eq_false_iff_eq.mpr c66
                    clear c66
                    obtain rfl := Option.some.inj H
                    go_wp2_with (first | ((with_reducible refine gate_callee (f := 10) rfl ?_); refine goesL_ (some 132) rfl rfl Tryd.func10 (by kernel_rfl) rfl #[] rfl (by (try simp only [List.map_toArray, List.map_cons, List.map_nil]); first | done | rfl | (simp only [List.length_drop, List.length_take]; rfl)) ?_; (with_reducible refine (brokerlaw46_awake.calls k4  true _ A62.out).mono ?_); rintro e w67 ⟨rfl, hb⟩; refine ⟨_, rfl, ?_⟩; have n0_ := Aside0.mk (Kd.R_below (by (with_reducible repeat (first | apply Kd.R_alloc | apply Kd.R_drewN | apply Kd.R_drew)); exact HO_8.out) hb); have n1_ := Aside0.mk (Kd.R_below (by (with_reducible repeat (first | apply Kd.R_alloc | apply Kd.R_drewN | apply Kd.R_drew)); exact HO_10.out) hb); have n2_ := Aside0.mk (below_step (by repeat (first | (with_reducible first | exact HB.out | apply below_alloc | apply pw_below_drewN | apply below_drew1) | exact HB.out)) hb); clear HO_8; clear HO_10; clear HB; have HO_8 := n0_; have HO_10 := n1_; have HB := n2_; clear n0_ n1_ n2_; (try clear hb); (try clear hb2); (try clear hk); (try clear hi); have p536 : 0 ≤ (0 : Int) := (by omega); have q536 : 0 < (t511.length : Int) := of_decide_eq_true (by first | (with_reducible assumption) | assumption); obtain ⟨ad536, e536, hx536_0⟩ := Kd.at_int (Kd.R_reads' HO_8.out).2.2 0 p536 q536; cases e536; have qi536 : (0 < t511.length) = True := eq_true (by omega); (try rw [show ((0 : Int)).toNat = 0 from rfl] at hx536_0); (try rw [Addr.add_zero'] at hx536_0); replace p536 := eq_true p536; replace q536 := eq_true q536))
                    go_ret
                    exact ⟨by first | rfl | (simp [errW_none, errW_some] <;> rfl) | (simp [*, errW_none, errW_some] <;> rfl), by repeat (first | (with_reducible first | exact HB.out | apply below_alloc | apply pw_below_drewN | apply below_drew1) | exact HB.out)⟩
                   ·rw [if_neg c66] at H
                    exact absurd H (by simp)
                  ·rw [if_neg c65] at H
                   exact absurd H (by simp)
                 ·rw [if_neg c64] at H
                  exact absurd H (by simp)
                ·replace c63 := Bool.eq_false_iff.mpr c63
                 subst c63
                 have H1 : (none) = some r := by rw [if_neg (show ¬ (false = true) by decide)] at H; exact H
                 clear H
                 have H := H1
                 clear H1
                 exact absurd H (by simp)
      ·rw [if_neg c20] at H
       exact absurd H (by simp)
     ·rw [if_neg c19] at H
      exact absurd H (by simp)

end Go.Proofs.YtfikhfahpdhjbaaDoor.P
