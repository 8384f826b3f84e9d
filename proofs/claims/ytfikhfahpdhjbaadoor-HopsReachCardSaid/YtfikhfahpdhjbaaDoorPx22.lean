/- Printed by a program of this session (wip/tools) over the translation: Go functions as plain Lean functions, and their contracts. -/
import Derived.Test.YtfikhfahpdhjbaaDoorPx0
import Derived.Test.YtfikhfahpdhjbaaDoorPx20
import Derived.Test.YtfikhfahpdhjbaaDoorPx21
namespace Go.Proofs.YtfikhfahpdhjbaaDoor.P
open Go.RowKit Go.Proofs.YtfikhfahpdhjbaaDoorW.PrintWords Go.Proofs.YtfikhfahpdhjbaaDoorW.PrintLast Go.Proofs.YtfikhfahpdhjbaaDoorW.PrintMore
attribute [local go_sem] max2_int min2_int max_two min_two max_three min_three max_four min_four str_gtr str_leq str_geq   -- for this text's walks alone
set_option linter.unusedVariables false
set_option linter.unusedSimpArgs false

/-! ### brokerref46_Flood: function 23 -/
mutual
def brokerref46_Flood.j0 : Nat → List (S48) → Int → Int → Bool → Option (List Int × Int)
 | 0, _, _, _, _ => none
 | k + 1, x0, x2, x8, x24 => if x24 = true then (some (([] : List Int), 0)) else (if 0 ≤ x8 then (if (x8 : Int).toNat ≤ 281474976710656 then (brokerref46_Flood.l0 k x0 x8 (List.replicate (x8 : Int).toNat false) ([] : List Int) 0 (([(⟨x2, (-1)⟩ : S74)] : List (S74))) 0) else (none)) else (none))
def brokerref46_Flood.l0 : Nat → List (S48) → Int → List Bool → List Int → Int → List (S74) → Int → Option (List Int × Int)
 | 0, _, _, _, _, _, _, _ => none
 | k + 1, x0, x8, x9, x10, x11, x12, x13 => if x13 < (x12.length : Int) then (if 0 ≤ x13 then (if 0 ≤ ((rd_T74 x12 x13).f0) then (if ((rd_T74 x12 x13).f0) < (x9.length : Int) then (if rdOf false x9 ((rd_T74 x12 x13).f0) = true then (brokerref46_Flood.l0 k x0 x8 x9 x10 x11 x12 (wrap64 (x13 + 1))) else (if x10.length < 17592186044416 then (brokerref46_Flood.l1 k x0 x8 (x9.set (((rd_T74 x12 x13).f0) : Int).toNat true) (x10 ++ [(rd_T74 x12 x13).f0]) x11 x12 x13 ((rd_T74 x12 x13).f0) 0) else (none))) else (none)) else (none)) else (none)) else (some (x10, x11))
def brokerref46_Flood.l1 : Nat → List (S48) → Int → List Bool → List Int → Int → List (S74) → Int → Int → Int → Option (List Int × Int)
 | 0, _, _, _, _, _, _, _, _, _ => none
 | k + 1, x0, x8, x9, x10, x11, x12, x13, x14, x15 => if x15 < (x0.length : Int) then (if 0 ≤ x13 then (if x13 < (x12.length : Int) then (if x15 = ((rd_T74 x12 x13).f1) then (brokerref46_Flood.l1 k x0 x8 x9 x10 x11 x12 x13 x14 (wrap64 (x15 + 1))) else (if 0 ≤ x15 then ((brokerref46_Counts.f ((rd_T48 x0 x15).f0) ((rd_T48 x0 x15).f1) x8).bind fun t472 => (if t472 = true then ((brokerref46_other.f ((rd_T48 x0 x15).f0) ((rd_T48 x0 x15).f1) x14).bind fun t474 => (if t474 ≥ 0 then ((brokerref46_other.f ((rd_T48 x0 x15).f0) ((rd_T48 x0 x15).f1) x14).bind fun t476 => (if x12.length < 8796093022208 then (brokerref46_Flood.l1 k x0 x8 x9 x10 (wrap64 (x11 + 1)) (x12 ++ [(⟨t476, x15⟩ : S74)]) x13 x14 (wrap64 (x15 + 1))) else (none))) else (brokerref46_Flood.l1 k x0 x8 x9 x10 x11 x12 x13 x14 (wrap64 (x15 + 1))))) else (brokerref46_Flood.l1 k x0 x8 x9 x10 x11 x12 x13 x14 (wrap64 (x15 + 1))))) else (none))) else (none)) else (none)) else (brokerref46_Flood.l0 k x0 x8 x9 x10 x11 x12 (wrap64 (x13 + 1)))
end
def brokerref46_Flood.f (k : Nat) (l0 : List (S48)) (a1 : Int) (a2 : Int) : Option (List Int × Int) := (brokerref46_Nodes.f a1).bind fun t457 => (if a2 < 0 then (brokerref46_Flood.j0 k l0 a2 t457 true) else (brokerref46_Flood.j0 k l0 a2 t457 (decide (a2 ≥ t457))))
theorem brokerref46_Flood.mono_l : ∀ k, (∀ y0 y1 y2 y3, LeO (brokerref46_Flood.j0 k y0 y1 y2 y3) (brokerref46_Flood.j0 (k + 1) y0 y1 y2 y3)) ∧ (∀ y0 y1 y2 y3 y4 y5 y6, LeO (brokerref46_Flood.l0 k y0 y1 y2 y3 y4 y5 y6) (brokerref46_Flood.l0 (k + 1) y0 y1 y2 y3 y4 y5 y6)) ∧ (∀ y0 y1 y2 y3 y4 y5 y6 y7 y8, LeO (brokerref46_Flood.l1 k y0 y1 y2 y3 y4 y5 y6 y7 y8) (brokerref46_Flood.l1 (k + 1) y0 y1 y2 y3 y4 y5 y6 y7 y8))
 | 0 => ⟨fun _ _ _ _ r h => by simp [brokerref46_Flood.j0] at h, fun _ _ _ _ _ _ _ r h => by simp [brokerref46_Flood.l0] at h, fun _ _ _ _ _ _ _ _ _ r h => by simp [brokerref46_Flood.l1] at h⟩
 | k + 1 => by
  obtain ⟨ih0, ih1, ih2⟩ := brokerref46_Flood.mono_l k
  refine ⟨?_, ?_, ?_⟩
  ·intro y0 y1 y2 y3
   unfold brokerref46_Flood.j0
   repeat' first
   | (with_reducible exact ih0 _ _ _ _)
   | (with_reducible exact ih1 _ _ _ _ _ _ _)
   | (with_reducible exact ih2 _ _ _ _ _ _ _ _ _)
   | (with_reducible exact LeO.refl _)
   | (with_reducible exact LeO.none _)
   | (with_reducible refine LeO.ite ?_ ?_)
   | (with_reducible refine LeO.bind ?_ (fun _ => ?_))
   | exact ih0 _ _ _ _
   | exact ih1 _ _ _ _ _ _ _
   | exact ih2 _ _ _ _ _ _ _ _ _
   | exact LeO.none _
   | refine LeO.ite ?_ ?_
   | refine LeO.bind ?_ (fun _ => ?_)
  ·intro y0 y1 y2 y3 y4 y5 y6
   unfold brokerref46_Flood.l0
   repeat' first
   | (with_reducible exact ih0 _ _ _ _)
   | (with_reducible exact ih1 _ _ _ _ _ _ _)
   | (with_reducible exact ih2 _ _ _ _ _ _ _ _ _)
   | (with_reducible exact LeO.refl _)
   | (with_reducible exact LeO.none _)
   | (with_reducible refine LeO.ite ?_ ?_)
   | (with_reducible refine LeO.bind ?_ (fun _ => ?_))
   | exact ih0 _ _ _ _
   | exact ih1 _ _ _ _ _ _ _
   | exact ih2 _ _ _ _ _ _ _ _ _
   | exact LeO.none _
   | refine LeO.ite ?_ ?_
   | refine LeO.bind ?_ (fun _ => ?_)
  ·intro y0 y1 y2 y3 y4 y5 y6 y7 y8
   unfold brokerref46_Flood.l1
   repeat' first
   | (with_reducible exact ih0 _ _ _ _)
   | (with_reducible exact ih1 _ _ _ _ _ _ _)
   | (with_reducible exact ih2 _ _ _ _ _ _ _ _ _)
   | (with_reducible exact LeO.refl _)
   | (with_reducible exact LeO.none _)
   | (with_reducible refine LeO.ite ?_ ?_)
   | (with_reducible refine LeO.bind ?_ (fun _ => ?_))
   | exact ih0 _ _ _ _
   | exact ih1 _ _ _ _ _ _ _
   | exact ih2 _ _ _ _ _ _ _ _ _
   | exact LeO.none _
   | refine LeO.ite ?_ ?_
   | refine LeO.bind ?_ (fun _ => ?_)
theorem brokerref46_Flood.mono : ∀ a0 a1 a2 k, LeO (brokerref46_Flood.f k a0 a1 a2) (brokerref46_Flood.f (k + 1) a0 a1 a2) := by
 intro a0 a1 a2 k
 obtain ⟨ih0, ih1, ih2⟩ := brokerref46_Flood.mono_l k
 unfold brokerref46_Flood.f
 repeat' first
   | (with_reducible exact ih0 _ _ _ _)
   | (with_reducible exact ih1 _ _ _ _ _ _ _)
   | (with_reducible exact ih2 _ _ _ _ _ _ _ _ _)
   | (with_reducible exact LeO.refl _)
   | (with_reducible exact LeO.none _)
   | (with_reducible refine LeO.ite ?_ ?_)
   | (with_reducible refine LeO.bind ?_ (fun _ => ?_))
   | exact ih0 _ _ _ _
   | exact ih1 _ _ _ _ _ _ _
   | exact ih2 _ _ _ _ _ _ _ _ _
   | exact LeO.none _
   | refine LeO.ite ?_ ?_
   | refine LeO.bind ?_ (fun _ => ?_)
set_option maxHeartbeats 8000000 in
set_option maxRecDepth 100000 in
theorem brokerref46_Flood.calls (k : Nat) (A0 : Option Addr) (c0 : Nat) (l0 : List (S48)) (a1 : Int) (a2 : Int) (r1 : List Int) (r2 : Int) (w : World) (hr0 : Kd.C k48 w A0 l0.length l0) (hc0 : l0.length ≤ c0) (h : brokerref46_Flood.f k l0 a1 a2 = some (r1, r2)) :
  Calls Tryd.prog 23 #[.slice A0 l0.length c0, .int .i64 a1, .int .i64 a2] w fun e w' => ∃ v0_ : Value, e = .returned (.tuple #[v0_, .int .i64 r2]) ∧ Kd.R (Kd.int .i64) 3 w' w.heap.size (fun _ => True) v0_ r1 ∧ Below w.heap.size w w' := by
 have hu74 := Tryd.underlying74
 have hu48 := Tryd.underlying48
 have HR0 := Aside0.mk hr0
 have HC0 := Aside0.mk hc0
 clear hr0 hc0
 have HB := Aside0.mk (Below.refl w.heap.size w)
 have H : ((brokerref46_Nodes.f a1).bind fun t457 => (if a2 < 0 then (brokerref46_Flood.j0 k l0 a2 t457 true) else (brokerref46_Flood.j0 k l0 a2 t457 (decide (a2 ≥ t457))))) = some (r1, r2) := h
 clear h
 replace H := Option.bind_eq_some_iff.mp H
 obtain ⟨t457, A40, H⟩ := H
 replace H : (if a2 < 0 then (brokerref46_Flood.j0 k l0 a2 t457 true) else (brokerref46_Flood.j0 k l0 a2 t457 (decide (a2 ≥ t457)))) = some (r1, r2) := H
 have A4 := Aside0.mk A40
 clear A40
 have HC5 := Aside0.mk H
 clear H
 go_enter Tryd.func23, Tryd.ntmps23
 go_upto_region 2 with (first | ((with_reducible refine gate_callee (f := 25) rfl ?_); refine goesL_ (some 17) rfl rfl Tryd.func25 (by kernel_rfl) rfl #[.int .i64 a1] rfl (by (try simp only [List.map_toArray, List.map_cons, List.map_nil]); first | done | rfl | (simp only [List.length_drop, List.length_take]; rfl)) ?_; (with_reducible refine (brokerref46_Nodes.calls a1 t457 _ A4.out).mono ?_); rintro e w' ⟨rfl, ⟨nd, rfl⟩⟩; refine ⟨_, rfl, ?_⟩))
 (try simp only [Act.put, List.setIfInBounds_toArray, List.set_cons_zero, List.set_cons_succ])
 go_cut [24] (fun v24 wc => ∃ (kq : Nat) (x24_4 : Bool), v24 = .bool x24_4 ∧ Aside0 (brokerref46_Flood.j0 kq l0 a2 t457 x24_4 = some (r1, r2)) ∧ Aside0 (kq ≤ k) ∧ Aside0 (Below w.heap.size w wc))
 case first =>
  have H := HC5.out
  clear HC5
  by_cases c6 : a2 < 0
  ·rw [if_pos c6] at H
   have c6b0 : decide (a2 < 0) = true := decide_eq_true c6
   clear c6
   (first | rw [c6b0] | (simp only [i64_w, i32_w]; rw [c6b0]) | skip)
   have H' := Aside0.mk H
   clear H
   go_wp2
   go_meet
   case rel => exact ⟨_, (true), (by first | rfl | (simp; done) | (simp [*]; done)), H', ⟨by first | omega | exact Nat.le_refl _⟩, ⟨by repeat (first | (with_reducible first | exact HB.out | apply below_alloc | apply pw_below_drewN | apply below_drew1) | exact HB.out)⟩⟩
  ·rw [if_neg c6] at H
   have c6b0 : decide (a2 < 0) = false := decide_eq_false c6
   clear c6
   (first | rw [c6b0] | (simp only [i64_w, i32_w]; rw [c6b0]) | skip)
   have H' := Aside0.mk H
   clear H
   go_wp2
   go_meet
   case rel => exact ⟨_, (decide (a2 ≥ t457)), (by first | rfl | (simp; done) | (simp [*]; done)), H', ⟨by first | omega | exact Nat.le_refl _⟩, ⟨by repeat (first | (with_reducible first | exact HB.out | apply below_alloc | apply pw_below_drewN | apply below_drew1) | exact HB.out)⟩⟩
 case rest =>
  clear HC5
  try clear c2
  try clear p2
  try clear c6
  try clear c6b0
  obtain ⟨kq, x24_4, rfl, HA, HJ4, HB⟩ := hcut
  cases kq with
  | zero => exact absurd HA.out (by simp [brokerref46_Flood.j0])
  | succ kj4 =>
   have H := HA.out
   clear HA
   simp only [brokerref46_Flood.j0] at H
   by_cases c7 : x24_4 = true
   ·subst c7
    have H1 : (some (([] : List Int), 0)) = some (r1, r2) := by rw [if_pos rfl] at H; exact H
    clear H
    have H := H1
    clear H1
    simp only [Option.some.injEq, Prod.mk.injEq] at H
    obtain ⟨rfl, rfl⟩ := H
    go_wp2
    go_ret2
    exact ⟨_, by first | rfl | (simp [errW_none, errW_some] <;> rfl) | (simp [*, errW_none, errW_some] <;> rfl), by first | exact Kd.R_nil _ _ _ _ _ | exact Kd.N_nil _ _ _ _ _ | exact Kd.V_nil _ _ _ _ _ | exact Kd.Q_nil _ _ _ _ _ | exact Kd.S_nil _ _ _ _ _, by repeat (first | (with_reducible first | exact HB.out | apply below_alloc | apply pw_below_drewN | apply below_drew1) | exact HB.out)⟩
   ·replace c7 := Bool.eq_false_iff.mpr c7
    subst c7
    have H1 : (if 0 ≤ t457 then (if (t457 : Int).toNat ≤ 281474976710656 then (brokerref46_Flood.l0 kj4 l0 t457 (List.replicate (t457 : Int).toNat false) ([] : List Int) 0 (([(⟨a2, (-1)⟩ : S74)] : List (S74))) 0) else (none)) else (none)) = some (r1, r2) := by rw [if_neg (show ¬ (false = true) by decide)] at H; exact H
    clear H
    have H := H1
    clear H1
    by_cases c8 : 0 ≤ t457
    ·rw [if_pos c8] at H
     have c8b0 := eq_true c8
     have c8b1 : decide (0 ≤ t457) = true := decide_eq_true c8
     clear c8
     by_cases c9 : (t457 : Int).toNat ≤ 281474976710656
     ·rw [if_pos c9] at H
      have c9b0 := eq_true c9
      have c9b1 : decide ((t457 : Int).toNat ≤ 281474976710656) = true := decide_eq_true c9
      clear c9
      obtain ⟨y458, hy458⟩ : ∃ y_ : List Bool, y_ = (List.replicate (t457 : Int).toNat false) := ⟨_, rfl⟩
      replace H : (brokerref46_Flood.l0 kj4 l0 t457 y458 ([] : List Int) 0 (([(⟨a2, (-1)⟩ : S74)] : List (S74))) 0) = some (r1, r2) := by first | (rw [hy458]; with_reducible exact H) | (have H2_ := (Option.bind_some _ _).symm.trans H; rw [hy458]; with_reducible exact H2_) | (have H2_ := (Option.bind_some _ _).symm.trans H; with_reducible exact H2_) | with_reducible exact H | (rw [hy458]; exact H) | exact H
      have Ny458 := Aside0.mk hy458
      clear hy458
      obtain ⟨y461, hy461⟩ : ∃ y_ : List (S74), y_ = (([(⟨a2, (-1)⟩ : S74)] : List (S74))) := ⟨_, rfl⟩
      replace H : (brokerref46_Flood.l0 kj4 l0 t457 y458 ([] : List Int) 0 y461 0) = some (r1, r2) := by first | (rw [hy461]; with_reducible exact H) | (have H2_ := (Option.bind_some _ _).symm.trans H; rw [hy461]; with_reducible exact H2_) | (have H2_ := (Option.bind_some _ _).symm.trans H; with_reducible exact H2_) | with_reducible exact H | (rw [hy461]; exact H) | exact H
      have Ny461 := Aside0.mk hy461
      clear hy461
      have H' := Aside0.mk H
      clear H
      go_wp2_with (first | ((with_reducible refine gate_dst (N := 26) rfl ?_); refine Kd.R_make Kd.bool _ 4 rfl (N := 26) rfl 45 _ _ rfl t457 rfl rfl Tryd.underlying45 (.bool false) 1 info4 rfl (by decide) (by omega) false (ok := fun _ => True) (okp := fun _ => True) rfl (fun _ hk => hk) trivial (of_decide_eq_true (by first | (with_reducible assumption) | assumption)) (Nat.le_trans (Nat.mul_le_mul_right _ (of_decide_eq_true (by first | (with_reducible assumption) | assumption) : t457.toNat ≤ 281474976710656)) (by omega)) (Below.refl _ _) (Nat.le_refl _) ?_; intro v459 w10 ho11 hb hg_ hnew_; clear hg_ hnew_; (first | rw [← Ny458.out] at ho11 | (simp only [Int.reduceToNat] at ho11; rw [← Ny458.out] at ho11)); have n0_ := Aside0.mk (Kd.R_lower ho11 (below_size (by repeat (first | (with_reducible first | exact HB.out | apply below_alloc | apply pw_below_drewN | apply below_drew1) | exact HB.out)))); have n1_ := Aside0.mk (below_step (by repeat (first | (with_reducible first | exact HB.out | apply below_alloc | apply pw_below_drewN | apply below_drew1) | exact HB.out)) hb); clear HB; have HO460 := n0_; have HB := n1_; clear n0_ n1_; clear hb ho11) | ((with_reducible refine gate_dst (N := 29) rfl ?_); refine Kd.R_lit k74 _ 74 ?hg (N := 29) ?hd (xs := ([(⟨a2, (-1)⟩ : S74)] : List (S74))) (inner := [.int .i64 a2, .int .i64 (-1)]) (ok := fun _ => True) (okp := fun _ => True) ?hr ?hp (fun _ hk => hk) trivial (Below.refl _ _) (Nat.le_refl _) (by simp) ?_; (case hd => rfl); (case hg => rfl); (case hr => first | (go_simp; done) | (go_simp; rfl)); (case hp => exact (Reps.c2 (show Kd.M k74 _ _ _ (⟨a2, (-1)⟩ : S74) [.int .i64 a2, .int .i64 (-1)] from (k74_mkM _ _ _ (⟨a2, (-1)⟩ : S74) )) (Reps.none _ _))); intro v462 w12 ho13 hb hg_ hnew_; clear hg_ hnew_; (first | rw [← Ny461.out] at ho13 | (simp only [Int.reduceToNat] at ho13; rw [← Ny461.out] at ho13)); have n0_ := Aside0.mk (Kd.R_below (by (with_reducible repeat (first | apply Kd.R_alloc | apply Kd.R_drewN | apply Kd.R_drew)); exact HO460.out) hb); have n1_ := Aside0.mk (Kd.R_lower ho13 (below_size (by repeat (first | (with_reducible first | exact HB.out | apply below_alloc | apply pw_below_drewN | apply below_drew1) | exact HB.out)))); have n2_ := Aside0.mk (below_step (by repeat (first | (with_reducible first | exact HB.out | apply below_alloc | apply pw_below_drewN | apply below_drew1) | exact HB.out)) hb); clear HO460; clear HB; have HO460 := n0_; have HO463 := n1_; have HB := n2_; clear n0_ n1_ n2_; clear hb ho13))
      go_loopg [10, 11, 12, 13] kj4 (fun kq v10 v11 v12 v13 w' => ∃ (x9_2 : List Bool) (x10_2 : List Int) (x11_2 : Int) (x12_2 : List (S74)) (x13_2 : Int), v11 = .int .i64 x11_2 ∧ v13 = .int .i64 x13_2 ∧ Aside0 (brokerref46_Flood.l0 kq l0 t457 x9_2 x10_2 x11_2 x12_2 x13_2 = some (r1, r2)) ∧ Aside0 (kq ≤ kj4) ∧ Aside0 (Kd.R Kd.bool 4 w' w.heap.size (fun _ => True) v459 x9_2) ∧ Aside0 (Kd.R (Kd.int .i64) 3 w' w.heap.size (fun _ => True) v10 x10_2) ∧ Aside0 (Kd.R k74 74 w' w.heap.size (fun _ => True) v12 x12_2) ∧ Aside0 (Below w.heap.size w w'))
      case atStart => exact ⟨(y458), (([] : List Int)), (0), (y461), (0), (by first | rfl | (simp; done) | (simp [*]; done)), (by first | rfl | (simp; done) | (simp [*]; done)), H', ⟨Nat.le_refl _⟩, ⟨by (with_reducible repeat (first | apply Kd.R_alloc | apply Kd.R_drewN | apply Kd.R_drew)); exact HO460.out⟩, ⟨by first | exact Kd.R_nil _ _ _ _ _ | exact Kd.N_nil _ _ _ _ _ | exact Kd.V_nil _ _ _ _ _ | exact Kd.Q_nil _ _ _ _ _ | exact Kd.S_nil _ _ _ _ _⟩, ⟨by (with_reducible repeat (first | apply Kd.R_alloc | apply Kd.R_drewN | apply Kd.R_drew)); exact HO463.out⟩, ⟨by repeat (first | (with_reducible first | exact HB.out | apply below_alloc | apply pw_below_drewN | apply below_drew1) | exact HB.out)⟩⟩
      case round =>
       clear H'
       try clear c2
       try clear p2
       try clear c6
       try clear c6b0
       try clear c7
       try clear c8
       try clear c8b0
       try clear c8b1
       try clear c9
       try clear c9b0
       try clear c9b1
       try clear p2
       obtain ⟨x9_2, x10_2, x11_2, x12_2, x13_2, rfl, rfl, HA, HK2, HO_9, HO_10, HO_12, HB⟩ := hrel
       cases gk with
       | zero => exact absurd HA.out (by simp [brokerref46_Flood.l0])
       | succ k2 =>
        have H := HA.out
        clear HA
        simp only [brokerref46_Flood.l0] at H
        by_cases c14 : x13_2 < (x12_2.length : Int)
        ·rw [if_pos c14] at H
         have c14b0 : decide (x13_2 < (x12_2.length : Int)) = true := decide_eq_true c14
         clear c14
         by_cases c15 : 0 ≤ x13_2
         ·rw [if_pos c15] at H
          have c15b0 : decide (0 ≤ x13_2) = true := decide_eq_true c15
          clear c15
          by_cases c16 : 0 ≤ ((rd_T74 x12_2 x13_2).f0)
          ·rw [if_pos c16] at H
           have c16b0 : decide (0 ≤ ((rd_T74 x12_2 x13_2).f0)) = true := decide_eq_true c16
           clear c16
           by_cases c17 : ((rd_T74 x12_2 x13_2).f0) < (x9_2.length : Int)
           ·rw [if_pos c17] at H
            have c17b0 : decide (((rd_T74 x12_2 x13_2).f0) < (x9_2.length : Int)) = true := decide_eq_true c17
            clear c17
            obtain ⟨bq18, hbq18⟩ : ∃ b_ : Bool, b_ = (rdOf false x9_2 ((rd_T74 x12_2 x13_2).f0)) := ⟨_, rfl⟩
            replace H : (if bq18 = true then (brokerref46_Flood.l0 k2 l0 t457 x9_2 x10_2 x11_2 x12_2 (wrap64 (x13_2 + 1))) else (if x10_2.length < 17592186044416 then (brokerref46_Flood.l1 k2 l0 t457 (x9_2.set (((rd_T74 x12_2 x13_2).f0) : Int).toNat true) (x10_2 ++ [(rd_T74 x12_2 x13_2).f0]) x11_2 x12_2 x13_2 ((rd_T74 x12_2 x13_2).f0) 0) else (none))) = some (r1, r2) := by rw [← hbq18] at H; exact H
            have Nbq18 := Aside0.mk hbq18
            clear hbq18
            by_cases c19 : bq18 = true
            ·subst c19
             have H1 : (brokerref46_Flood.l0 k2 l0 t457 x9_2 x10_2 x11_2 x12_2 (wrap64 (x13_2 + 1))) = some (r1, r2) := by rw [if_pos rfl] at H; exact H
             clear H
             have H := H1
             clear H1
             have H' := Aside0.mk H
             clear H
             obtain ⟨Ao20, co20, eo20⟩ := Kd.R_slice HO_12.out
             subst eo20
             have p464 : 0 ≤ (x13_2 : Int) := of_decide_eq_true (by first | (with_reducible assumption) | assumption)
             have q464 : x13_2 < (x12_2.length : Int) := of_decide_eq_true (by first | (with_reducible assumption) | assumption)
             obtain ⟨ad464, e464, hx464_0, hx464_1⟩ := at_T74 (Kd.R_reads' HO_12.out).2.2 x13_2 p464 q464
             cases e464
             replace p464 := eq_true p464
             replace q464 := eq_true q464
             obtain ⟨Ao21, co21, eo21⟩ := Kd.R_slice HO_9.out
             subst eo21
             have p465 : 0 ≤ (((rd_T74 x12_2 x13_2).f0) : Int) := of_decide_eq_true (by first | (with_reducible assumption) | assumption)
             have q465 : ((rd_T74 x12_2 x13_2).f0) < (x9_2.length : Int) := of_decide_eq_true (by first | (with_reducible assumption) | assumption)
             obtain ⟨ad465, e465, hx465_0⟩ := Kd.at_bool (Kd.R_reads' HO_9.out).2.2 ((rd_T74 x12_2 x13_2).f0) p465 q465
             (try rw [← Nbq18.out] at hx465_0)
             cases e465
             replace p465 := eq_true p465
             replace q465 := eq_true q465
             go_wp2
             go_roundg k2
             case measure => have := HJ4.out; have := HK2.out; omega
             case rel => exact ⟨(x9_2), (x10_2), (x11_2), (x12_2), (wrap64 (x13_2 + 1)), (by first | rfl | (simp; done) | (simp [*]; done)), (by first | rfl | (simp; done) | (simp [*]; done)), H', ⟨by have := HJ4.out; have := HK2.out; omega⟩, ⟨by (with_reducible repeat (first | apply Kd.R_alloc | apply Kd.R_drewN | apply Kd.R_drew)); exact HO_9.out⟩, ⟨by (with_reducible repeat (first | apply Kd.R_alloc | apply Kd.R_drewN | apply Kd.R_drew)); exact HO_10.out⟩, ⟨by (with_reducible repeat (first | apply Kd.R_alloc | apply Kd.R_drewN | apply Kd.R_drew)); exact HO_12.out⟩, ⟨by repeat (first | (with_reducible first | exact HB.out | apply below_alloc | apply pw_below_drewN | apply below_drew1) | exact HB.out)⟩⟩
            ·replace c19 := Bool.eq_false_iff.mpr c19
             subst c19
             have H1 : (if x10_2.length < 17592186044416 then (brokerref46_Flood.l1 k2 l0 t457 (x9_2.set (((rd_T74 x12_2 x13_2).f0) : Int).toNat true) (x10_2 ++ [(rd_T74 x12_2 x13_2).f0]) x11_2 x12_2 x13_2 ((rd_T74 x12_2 x13_2).f0) 0) else (none)) = some (r1, r2) := by rw [if_neg (show ¬ (false = true) by decide)] at H; exact H
             clear H
             have H := H1
             clear H1
             obtain ⟨y466, hy466⟩ : ∃ y_ : List Bool, y_ = (x9_2.set (((rd_T74 x12_2 x13_2).f0) : Int).toNat true) := ⟨_, rfl⟩
             replace H : (if x10_2.length < 17592186044416 then (brokerref46_Flood.l1 k2 l0 t457 y466 (x10_2 ++ [(rd_T74 x12_2 x13_2).f0]) x11_2 x12_2 x13_2 ((rd_T74 x12_2 x13_2).f0) 0) else (none)) = some (r1, r2) := by first | (rw [hy466]; with_reducible exact H) | (have H2_ := (Option.bind_some _ _).symm.trans H; rw [hy466]; with_reducible exact H2_) | (have H2_ := (Option.bind_some _ _).symm.trans H; with_reducible exact H2_) | with_reducible exact H | (rw [hy466]; exact H) | exact H
             have Ny466 := Aside0.mk hy466
             clear hy466
             by_cases c23 : x10_2.length < 17592186044416
             ·rw [if_pos c23] at H
              have LMc23 := Aside0.mk c23
              clear c23
              obtain ⟨y467, hy467⟩ : ∃ y_ : List Int, y_ = (x10_2 ++ [(rd_T74 x12_2 x13_2).f0]) := ⟨_, rfl⟩
              replace H : (brokerref46_Flood.l1 k2 l0 t457 y466 y467 x11_2 x12_2 x13_2 ((rd_T74 x12_2 x13_2).f0) 0) = some (r1, r2) := by first | (rw [hy467]; with_reducible exact H) | (have H2_ := (Option.bind_some _ _).symm.trans H; rw [hy467]; with_reducible exact H2_) | (have H2_ := (Option.bind_some _ _).symm.trans H; with_reducible exact H2_) | with_reducible exact H | (rw [hy467]; exact H) | exact H
              have Ny467 := Aside0.mk hy467
              clear hy467
              have H' := Aside0.mk H
              clear H
              obtain ⟨Ao24, co24, eo24⟩ := Kd.R_slice HO_12.out
              subst eo24
              have p464 : 0 ≤ (x13_2 : Int) := of_decide_eq_true (by first | (with_reducible assumption) | assumption)
              have q464 : x13_2 < (x12_2.length : Int) := of_decide_eq_true (by first | (with_reducible assumption) | assumption)
              obtain ⟨ad464, e464, hx464_0, hx464_1⟩ := at_T74 (Kd.R_reads' HO_12.out).2.2 x13_2 p464 q464
              cases e464
              replace p464 := eq_true p464
              replace q464 := eq_true q464
              obtain ⟨Ao25, co25, eo25⟩ := Kd.R_slice HO_9.out
              subst eo25
              have p465 : 0 ≤ (((rd_T74 x12_2 x13_2).f0) : Int) := of_decide_eq_true (by first | (with_reducible assumption) | assumption)
              have q465 : ((rd_T74 x12_2 x13_2).f0) < (x9_2.length : Int) := of_decide_eq_true (by first | (with_reducible assumption) | assumption)
              obtain ⟨ad465, e465, hx465_0⟩ := Kd.at_bool (Kd.R_reads' HO_9.out).2.2 ((rd_T74 x12_2 x13_2).f0) p465 q465
              (try rw [← Nbq18.out] at hx465_0)
              cases e465
              replace p465 := eq_true p465
              replace q465 := eq_true q465
              have p22 : 0 ≤ (((rd_T74 x12_2 x13_2).f0) : Int) := of_decide_eq_true (by first | (with_reducible assumption) | assumption)
              have q22 : (((rd_T74 x12_2 x13_2).f0) : Int) < ((x9_2.length : Int) : Int) := of_decide_eq_true (by first | (with_reducible assumption) | assumption)
              obtain ⟨go22, co22, eo22, gb22, gl22, cl22, HG22⟩ := Kd.R_form HO_9.out (by omega)
              (first | cases eo22 | (injection eo22 with ea_ en_ ec_; (first | subst ea_ | (injection ea_ with ea_; subst ea_)); subst ec_; clear en_))
              have GB22 := Aside0.mk gb22
              have GG22 := Aside0.mk HG22
              clear gb22 gl22 HG22
              (first | simp only [add_plain] at hx465_0 | skip)
              obtain ⟨hx22_0, hf22_0⟩ := Kd.R_celln false HO_9.out (((rd_T74 x12_2 x13_2).f0) : Int) p22 q22
              replace p22 := eq_true p22
              replace q22 := eq_true q22
              have HP26 := Kd.R_putg HO_9.out (((rd_T74 x12_2 x13_2).f0) : Int) true
              go_wp2_with (first | ((with_reducible refine gate_store (t := 4) (p := 47) rfl ?_); refine store_event (t := 4) (p := 47) (v := ?vo_w27) (w1 := (wr.setCell ⟨go22, (((rd_T74 x12_2 x13_2).f0) : Int).toNat, none⟩ (.bool true))) ?hg ?ho ?hn ?hr ?_; (case ho => rfl); (case hg => rfl); (case hn => rfl); (case hr => first | (go_simp; done) | (go_simp; rfl)); intro w27 hw; have hg : wr.grownBy w27 (some go22) := (by rw [hw]; exact HP26.2); have hp_ : Kd.R Kd.bool 4 w27 w.heap.size (fun _ => True) (.slice (some ⟨go22, 0, none⟩) x9_2.length co25) y466 := (by rw [hw, Ny466.out]; exact HP26.1); clear HP26; have n0_ := Aside0.mk (hp_); have n1_ := Aside0.mk (Kd.R_over' (v := (.slice (some ⟨go22, 0, none⟩) x9_2.length co25)) (by (with_reducible repeat (first | apply Kd.R_alloc | apply Kd.R_drewN | apply Kd.R_drew)); exact HO_10.out) (Kd.R_typed HO_9.out) (by decide) hg); have n2_ := Aside0.mk (Kd.R_over' (v := (.slice (some ⟨go22, 0, none⟩) x9_2.length co25)) (by (with_reducible repeat (first | apply Kd.R_alloc | apply Kd.R_drewN | apply Kd.R_drew)); exact HO_12.out) (Kd.R_typed HO_9.out) (by decide) hg); have n3_ := Aside0.mk ((by rw [hw]; exact below_set (HB.out) GB22.out : Below w.heap.size w w27)); clear HO_9; clear HO_10; clear HO_12; clear HB; have HO_9 := n0_; have HO_10 := n1_; have HO_12 := n2_; have HB := n3_; clear n0_ n1_ n2_ n3_; clear hg hw hp_) | ((with_reducible refine gate_builtin (b := .append) (xs := #[.tmp 48, .tmp 50]) rfl ?_); at_builtin; refine Kd.R_append (Kd.int .i64) (w0 := w) w.heap.size rfl (.tmp 48) (.tmp 50) 39 3 (.int .i64 0) 8 rfl Tryd.underlying39 info3 rfl (by decide) (by omega) u10 x10_2 ((rd_T74 x12_2 x13_2).f0) [.int .i64 ((rd_T74 x12_2 x13_2).f0)] (fun _ => True) (fun _ => False) rfl rfl ?aP (fun _ hk => hk.elim) ?aF ?aO ?aB ?aS ?aL ?_; (case aP => exact rfl); (case aB => exact (by repeat (first | (with_reducible first | exact HB.out | apply below_alloc | apply pw_below_drewN | apply below_drew1) | exact HB.out))); (case aF => exact (fun _ _ => trivial)); (case aO => exact (by (with_reducible repeat (first | apply Kd.R_alloc | apply Kd.R_drewN | apply Kd.R_drew)); exact HO_10.out)); (case aS => exact (below_size (by repeat (first | (with_reducible first | exact HB.out | apply below_alloc | apply pw_below_drewN | apply below_drew1) | exact HB.out)))); (case aL => have := LMc23.out; omega); intro v468 w28 ho hb hg hat; rw [← Ny467.out] at ho; have n0_ := Aside0.mk (Kd.R_over' (by (with_reducible repeat (first | apply Kd.R_alloc | apply Kd.R_drewN | apply Kd.R_drew)); exact HO_9.out) (Kd.R_typed (by (with_reducible repeat (first | apply Kd.R_alloc | apply Kd.R_drewN | apply Kd.R_drew)); exact HO_10.out)) (by decide) hg); have n1_ := Aside0.mk (Kd.R_over' (by (with_reducible repeat (first | apply Kd.R_alloc | apply Kd.R_drewN | apply Kd.R_drew)); exact HO_12.out) (Kd.R_typed (by (with_reducible repeat (first | apply Kd.R_alloc | apply Kd.R_drewN | apply Kd.R_drew)); exact HO_10.out)) (by decide) hg); have n2_ := Aside0.mk (hb); have n3_ := Aside0.mk (ho); clear HO_9; clear HO_12; clear HB; clear HO_10; have HO_9 := n0_; have HO_12 := n1_; have HB := n2_; have HO469 := n3_; clear n0_ n1_ n2_ n3_; clear ho hb hg hat))
              go_loopg [11, 12, 15] k2 (fun kq v11 v12 v15 w' => ∃ (x11_3 : Int) (x12_3 : List (S74)) (x15_3 : Int), v11 = .int .i64 x11_3 ∧ v15 = .int .i64 x15_3 ∧ Aside0 (brokerref46_Flood.l1 kq l0 t457 y466 y467 x11_3 x12_3 x13_2 ((rd_T74 x12_2 x13_2).f0) x15_3 = some (r1, r2)) ∧ Aside0 (kq ≤ k2) ∧ Aside0 (Kd.R Kd.bool 4 w' w.heap.size (fun _ => True) (.slice (some ⟨go22, 0, none⟩) x9_2.length co25) y466) ∧ Aside0 (Kd.R (Kd.int .i64) 3 w' w.heap.size (fun _ => True) v468 y467) ∧ Aside0 (Kd.R k74 74 w' w.heap.size (fun _ => True) v12 x12_3) ∧ Aside0 (Below w.heap.size w w'))
              case atStart => exact ⟨(x11_2), (x12_2), (0), (by first | rfl | (simp; done) | (simp [*]; done)), (by first | rfl | (simp; done) | (simp [*]; done)), H', ⟨Nat.le_refl _⟩, ⟨by (with_reducible repeat (first | apply Kd.R_alloc | apply Kd.R_drewN | apply Kd.R_drew)); exact HO_9.out⟩, ⟨by (with_reducible repeat (first | apply Kd.R_alloc | apply Kd.R_drewN | apply Kd.R_drew)); exact HO469.out⟩, ⟨by (with_reducible repeat (first | apply Kd.R_alloc | apply Kd.R_drewN | apply Kd.R_drew)); exact HO_12.out⟩, ⟨by repeat (first | (with_reducible first | exact HB.out | apply below_alloc | apply pw_below_drewN | apply below_drew1) | exact HB.out)⟩⟩
              case round =>
               clear H'
               try clear c1
               try clear q1
               try clear c2
               try clear p2
               try clear q2
               try clear hx2
               try clear p4
               try clear q4
               try clear hx4
               try clear c6
               try clear c6b0
               try clear p6
               try clear c7
               try clear c8
               try clear c8b0
               try clear c8b1
               try clear c9
               try clear c9b0
               try clear c9b1
               try clear c14
               try clear c14b0
               try clear c15
               try clear c15b0
               try clear c16
               try clear c16b0
               try clear c17
               try clear c17b0
               try clear q18
               try clear c19
               try clear p22
               try clear q22
               try clear hx22
               try clear hf22
               try clear c23
               try clear c25
               try clear hx22_0
               try clear hx464_0
               try clear hx464_1
               try clear hx465_0
               try clear p2
               try clear p22
               try clear p464
               try clear p465
               try clear q22
               try clear q464
               try clear q465
               obtain ⟨x11_3, x12_3, x15_3, rfl, rfl, HA, HK3, HO_9, HO_10, HO_12, HB⟩ := hrel
               have hl9_3 := (Kd.R_reads' HO_9.out).1
               rw [hl9_3] at HO_9
               (try simp only [hl9_3])
               (try simp only [hl9_3] at HO_10)
               (try simp only [hl9_3] at HO_12)
               cases gk with
               | zero => exact absurd HA.out (by simp [brokerref46_Flood.l1])
               | succ k3 =>
                have H := HA.out
                clear HA
                simp only [brokerref46_Flood.l1] at H
                by_cases c29 : x15_3 < (l0.length : Int)
                ·rw [if_pos c29] at H
                 have c29b0 : decide (x15_3 < (l0.length : Int)) = true := decide_eq_true c29
                 clear c29
                 by_cases c30 : 0 ≤ x13_2
                 ·rw [if_pos c30] at H
                  have c30b0 : decide (0 ≤ x13_2) = true := decide_eq_true c30
                  clear c30
                  by_cases c31 : x13_2 < (x12_3.length : Int)
                  ·rw [if_pos c31] at H
                   have c31b0 : decide (x13_2 < (x12_3.length : Int)) = true := decide_eq_true c31
                   clear c31
                   by_cases c32 : x15_3 = ((rd_T74 x12_3 x13_2).f1)
                   ·rw [if_pos c32] at H
                    have c32b0 : (x15_3 == ((rd_T74 x12_3 x13_2).f1)) = true := beq_iff_eq.mpr c32
                    have c32b1 : (x15_3 != ((rd_T74 x12_3 x13_2).f1)) = false := bne_eq_false_iff_eq.mpr c32
                    clear c32
                    have H' := Aside0.mk H
                    clear H
                    obtain ⟨Ao33, co33, eo33⟩ := Kd.R_slice HO_12.out
                    subst eo33
                    have p470 : 0 ≤ (x13_2 : Int) := of_decide_eq_true (by first | (with_reducible assumption) | assumption)
                    have q470 : x13_2 < (x12_3.length : Int) := of_decide_eq_true (by first | (with_reducible assumption) | assumption)
                    obtain ⟨ad470, e470, hx470_0, hx470_1⟩ := at_T74 (Kd.R_reads' HO_12.out).2.2 x13_2 p470 q470
                    cases e470
                    replace p470 := eq_true p470
                    replace q470 := eq_true q470
                    go_wp2
                    (try simp only [← hl9_3])
                    go_roundg k3
                    case measure => have := HJ4.out; have := HK2.out; have := HK3.out; omega
                    case rel => exact ⟨(x11_3), (x12_3), (wrap64 (x15_3 + 1)), (by first | rfl | (simp; done) | (simp [*]; done)), (by first | rfl | (simp; done) | (simp [*]; done)), H', ⟨by have := HJ4.out; have := HK2.out; have := HK3.out; omega⟩, ⟨by (try simp only [hl9_3]); (with_reducible repeat (first | apply Kd.R_alloc | apply Kd.R_drewN | apply Kd.R_drew)); exact HO_9.out⟩, ⟨by (try simp only [hl9_3]); (with_reducible repeat (first | apply Kd.R_alloc | apply Kd.R_drewN | apply Kd.R_drew)); exact HO_10.out⟩, ⟨by (try simp only [hl9_3]); (with_reducible repeat (first | apply Kd.R_alloc | apply Kd.R_drewN | apply Kd.R_drew)); exact HO_12.out⟩, ⟨by repeat (first | (with_reducible first | exact HB.out | apply below_alloc | apply pw_below_drewN | apply below_drew1) | exact HB.out)⟩⟩
                   ·rw [if_neg c32] at H
                    have c32b0 : (x15_3 == ((rd_T74 x12_3 x13_2).f1)) = false := beq_eq_false_iff_ne.mpr c32
                    have c32b1 : (x15_3 != ((rd_T74 x12_3 x13_2).f1)) = true := bne_iff_ne.mpr c32
                    by_cases c34 : 0 ≤ x15_3
                    ·rw [if_pos c34] at H
                     have c34b0 : decide (0 ≤ x15_3) = true := decide_eq_true c34
                     clear c34
                     replace H := Option.bind_eq_some_iff.mp H
                     obtain ⟨t472, A350, H⟩ := H
                     replace H : (if t472 = true then ((brokerref46_other.f ((rd_T48 l0 x15_3).f0) ((rd_T48 l0 x15_3).f1) ((rd_T74 x12_2 x13_2).f0)).bind fun t474 => (if t474 ≥ 0 then ((brokerref46_other.f ((rd_T48 l0 x15_3).f0) ((rd_T48 l0 x15_3).f1) ((rd_T74 x12_2 x13_2).f0)).bind fun t476 => (if x12_3.length < 8796093022208 then (brokerref46_Flood.l1 k3 l0 t457 y466 y467 (wrap64 (x11_3 + 1)) (x12_3 ++ [(⟨t476, x15_3⟩ : S74)]) x13_2 ((rd_T74 x12_2 x13_2).f0) (wrap64 (x15_3 + 1))) else (none))) else (brokerref46_Flood.l1 k3 l0 t457 y466 y467 x11_3 x12_3 x13_2 ((rd_T74 x12_2 x13_2).f0) (wrap64 (x15_3 + 1))))) else (brokerref46_Flood.l1 k3 l0 t457 y466 y467 x11_3 x12_3 x13_2 ((rd_T74 x12_2 x13_2).f0) (wrap64 (x15_3 + 1)))) = some (r1, r2) := H
                     have A35 := Aside0.mk A350
                     clear A350
                     by_cases c36 : t472 = true
                     ·subst c36
                      have H1 : ((brokerref46_other.f ((rd_T48 l0 x15_3).f0) ((rd_T48 l0 x15_3).f1) ((rd_T74 x12_2 x13_2).f0)).bind fun t474 => (if t474 ≥ 0 then ((brokerref46_other.f ((rd_T48 l0 x15_3).f0) ((rd_T48 l0 x15_3).f1) ((rd_T74 x12_2 x13_2).f0)).bind fun t476 => (if x12_3.length < 8796093022208 then (brokerref46_Flood.l1 k3 l0 t457 y466 y467 (wrap64 (x11_3 + 1)) (x12_3 ++ [(⟨t476, x15_3⟩ : S74)]) x13_2 ((rd_T74 x12_2 x13_2).f0) (wrap64 (x15_3 + 1))) else (none))) else (brokerref46_Flood.l1 k3 l0 t457 y466 y467 x11_3 x12_3 x13_2 ((rd_T74 x12_2 x13_2).f0) (wrap64 (x15_3 + 1))))) = some (r1, r2) := by rw [if_pos rfl] at H; exact H
                      clear H
                      have H := H1
                      clear H1
                      replace H := Option.bind_eq_some_iff.mp H
                      obtain ⟨t474, A370, H⟩ := H
                      replace H : (if t474 ≥ 0 then ((brokerref46_other.f ((rd_T48 l0 x15_3).f0) ((rd_T48 l0 x15_3).f1) ((rd_T74 x12_2 x13_2).f0)).bind fun t476 => (if x12_3.length < 8796093022208 then (brokerref46_Flood.l1 k3 l0 t457 y466 y467 (wrap64 (x11_3 + 1)) (x12_3 ++ [(⟨t476, x15_3⟩ : S74)]) x13_2 ((rd_T74 x12_2 x13_2).f0) (wrap64 (x15_3 + 1))) else (none))) else (brokerref46_Flood.l1 k3 l0 t457 y466 y467 x11_3 x12_3 x13_2 ((rd_T74 x12_2 x13_2).f0) (wrap64 (x15_3 + 1)))) = some (r1, r2) := H
                      have A37 := Aside0.mk A370
                      clear A370
                      by_cases c38 : t474 ≥ 0
                      ·rw [if_pos c38] at H
                       have c38b0 : decide (0 ≤ t474) = true := decide_eq_true c38
                       clear c38
                       replace H := Option.bind_eq_some_iff.mp H
                       obtain ⟨t476, A390, H⟩ := H
                       replace H : (if x12_3.length < 8796093022208 then (brokerref46_Flood.l1 k3 l0 t457 y466 y467 (wrap64 (x11_3 + 1)) (x12_3 ++ [(⟨t476, x15_3⟩ : S74)]) x13_2 ((rd_T74 x12_2 x13_2).f0) (wrap64 (x15_3 + 1))) else (none)) = some (r1, r2) := H
                       have A39 := Aside0.mk A390
                       clear A390
                       by_cases c40 : x12_3.length < 8796093022208
                       ·rw [if_pos c40] at H
                        have LMc40 := Aside0.mk c40
                        clear c40
                        obtain ⟨y477, hy477⟩ : ∃ y_ : List (S74), y_ = (x12_3 ++ [(⟨t476, x15_3⟩ : S74)]) := ⟨_, rfl⟩
                        replace H : (brokerref46_Flood.l1 k3 l0 t457 y466 y467 (wrap64 (x11_3 + 1)) y477 x13_2 ((rd_T74 x12_2 x13_2).f0) (wrap64 (x15_3 + 1))) = some (r1, r2) := by first | (rw [hy477]; with_reducible exact H) | (have H2_ := (Option.bind_some _ _).symm.trans H; rw [hy477]; with_reducible exact H2_) | (have H2_ := (Option.bind_some _ _).symm.trans H; with_reducible exact H2_) | with_reducible exact H | (rw [hy477]; exact H) | exact H
                        have Ny477 := Aside0.mk hy477
                        clear hy477
                        have H' := Aside0.mk H
                        clear H
                        obtain ⟨Ao41, co41, eo41⟩ := Kd.R_slice HO_12.out
                        subst eo41
                        have p470 : 0 ≤ (x13_2 : Int) := of_decide_eq_true (by first | (with_reducible assumption) | assumption)
                        have q470 : x13_2 < (x12_3.length : Int) := of_decide_eq_true (by first | (with_reducible assumption) | assumption)
                        obtain ⟨ad470, e470, hx470_0, hx470_1⟩ := at_T74 (Kd.R_reads' HO_12.out).2.2 x13_2 p470 q470
                        cases e470
                        replace p470 := eq_true p470
                        replace q470 := eq_true q470
                        have p471 : 0 ≤ (x15_3 : Int) := of_decide_eq_true (by first | (with_reducible assumption) | assumption)
                        have q471 : x15_3 < (l0.length : Int) := of_decide_eq_true (by first | (with_reducible assumption) | assumption)
                        obtain ⟨ad471, e471, hx471_0, hx471_1⟩ := at_T48 HR0.out x15_3 p471 q471
                        cases e471
                        replace hx471_0 := (HB.out.cell (World.block_lt_of_cell? w _ hx471_0)).trans hx471_0
                        replace hx471_1 := (HB.out.cell (World.block_lt_of_cell? w _ hx471_1)).trans hx471_1
                        replace p471 := eq_true p471
                        replace q471 := eq_true q471
                        go_wp2_with (first | (go_at_call 27; (with_reducible refine (brokerref46_Counts.calls ((rd_T48 l0 x15_3).f0) ((rd_T48 l0 x15_3).f1) t457 true _ A35.out).mono ?_); rintro e w42 ⟨rfl, hb⟩; have n0_ := Aside0.mk (Kd.R_below (by (with_reducible repeat (first | apply Kd.R_alloc | apply Kd.R_drewN | apply Kd.R_drew)); exact HO_9.out) hb); have n1_ := Aside0.mk (Kd.R_below (by (with_reducible repeat (first | apply Kd.R_alloc | apply Kd.R_drewN | apply Kd.R_drew)); exact HO_10.out) hb); have n2_ := Aside0.mk (Kd.R_below (by (with_reducible repeat (first | apply Kd.R_alloc | apply Kd.R_drewN | apply Kd.R_drew)); exact HO_12.out) hb); have n3_ := Aside0.mk (below_step (by repeat (first | (with_reducible first | exact HB.out | apply below_alloc | apply pw_below_drewN | apply below_drew1) | exact HB.out)) hb); clear HO_9; clear HO_10; clear HO_12; clear HB; have HO_9 := n0_; have HO_10 := n1_; have HO_12 := n2_; have HB := n3_; clear n0_ n1_ n2_ n3_; (try clear hb); (try clear hb2); (try clear hk); (try clear hi); have p473 : 0 ≤ (x15_3 : Int) := of_decide_eq_true (by first | (with_reducible assumption) | assumption); have q473 : x15_3 < (l0.length : Int) := of_decide_eq_true (by first | (with_reducible assumption) | assumption); obtain ⟨ad473, e473, hx473_0, hx473_1⟩ := at_T48 HR0.out x15_3 p473 q473; obtain rfl : ad471 = ad473 := (by injection e473); replace hx473_0 := (HB.out.cell (World.block_lt_of_cell? w _ hx473_0)).trans hx473_0; replace hx473_1 := (HB.out.cell (World.block_lt_of_cell? w _ hx473_1)).trans hx473_1; replace p473 := eq_true p473; replace q473 := eq_true q473) | (go_at_call 46; (with_reducible refine (brokerref46_other.calls ((rd_T48 l0 x15_3).f0) ((rd_T48 l0 x15_3).f1) ((rd_T74 x12_2 x13_2).f0) t474 _ A37.out).mono ?_); rintro e w43 ⟨rfl, hb⟩; have n0_ := Aside0.mk (Kd.R_below (by (with_reducible repeat (first | apply Kd.R_alloc | apply Kd.R_drewN | apply Kd.R_drew)); exact HO_9.out) hb); have n1_ := Aside0.mk (Kd.R_below (by (with_reducible repeat (first | apply Kd.R_alloc | apply Kd.R_drewN | apply Kd.R_drew)); exact HO_10.out) hb); have n2_ := Aside0.mk (Kd.R_below (by (with_reducible repeat (first | apply Kd.R_alloc | apply Kd.R_drewN | apply Kd.R_drew)); exact HO_12.out) hb); have n3_ := Aside0.mk (below_step (by repeat (first | (with_reducible first | exact HB.out | apply below_alloc | apply pw_below_drewN | apply below_drew1) | exact HB.out)) hb); clear HO_9; clear HO_10; clear HO_12; clear HB; have HO_9 := n0_; have HO_10 := n1_; have HO_12 := n2_; have HB := n3_; clear n0_ n1_ n2_ n3_; (try clear hb); (try clear hb2); (try clear hk); (try clear hi); have p475 : 0 ≤ (x15_3 : Int) := of_decide_eq_true (by first | (with_reducible assumption) | assumption); have q475 : x15_3 < (l0.length : Int) := of_decide_eq_true (by first | (with_reducible assumption) | assumption); obtain ⟨ad475, e475, hx475_0, hx475_1⟩ := at_T48 HR0.out x15_3 p475 q475; obtain rfl : ad471 = ad475 := (by injection e475); replace hx475_0 := (HB.out.cell (World.block_lt_of_cell? w _ hx475_0)).trans hx475_0; replace hx475_1 := (HB.out.cell (World.block_lt_of_cell? w _ hx475_1)).trans hx475_1; replace p475 := eq_true p475; replace q475 := eq_true q475) | ((with_reducible refine gate_callee (f := 46) rfl ?_); refine goesL_ (some 88) rfl rfl Tryd.func46 (by kernel_rfl) rfl #[.agg #[.int .i64 ((rd_T48 l0 x15_3).f0), .int .i64 ((rd_T48 l0 x15_3).f1)], .int .i64 ((rd_T74 x12_2 x13_2).f0)] rfl (by (try simp only [List.map_toArray, List.map_cons, List.map_nil]); first | done | rfl | (simp only [List.length_drop, List.length_take]; rfl)) ?_; (with_reducible refine (brokerref46_other.calls ((rd_T48 l0 x15_3).f0) ((rd_T48 l0 x15_3).f1) ((rd_T74 x12_2 x13_2).f0) t476 _ A39.out).mono ?_); rintro e w44 ⟨rfl, hb⟩; refine ⟨_, rfl, ?_⟩; have n0_ := Aside0.mk (Kd.R_below (by (with_reducible repeat (first | apply Kd.R_alloc | apply Kd.R_drewN | apply Kd.R_drew)); exact HO_9.out) hb); have n1_ := Aside0.mk (Kd.R_below (by (with_reducible repeat (first | apply Kd.R_alloc | apply Kd.R_drewN | apply Kd.R_drew)); exact HO_10.out) hb); have n2_ := Aside0.mk (Kd.R_below (by (with_reducible repeat (first | apply Kd.R_alloc | apply Kd.R_drewN | apply Kd.R_drew)); exact HO_12.out) hb); have n3_ := Aside0.mk (below_step (by repeat (first | (with_reducible first | exact HB.out | apply below_alloc | apply pw_below_drewN | apply below_drew1) | exact HB.out)) hb); clear HO_9; clear HO_10; clear HO_12; clear HB; have HO_9 := n0_; have HO_10 := n1_; have HO_12 := n2_; have HB := n3_; clear n0_ n1_ n2_ n3_; (try clear hb); (try clear hb2); (try clear hk); (try clear hi)) | ((with_reducible refine gate_builtin (b := .append) (xs := #[.tmp 82, .tmp 91]) rfl ?_); at_builtin; refine Kd.R_append k74 (w0 := w) w.heap.size rfl (.tmp 82) (.tmp 91) 75 74 (.agg #[(.int .i64 0), (.int .i64 0)]) 16 rfl Tryd.underlying75 info74 rfl (by decide) (by omega) (.slice (some ad470) x12_3.length co41) x12_3 (⟨t476, x15_3⟩ : S74) [.int .i64 t476, .int .i64 x15_3] (fun _ => True) (fun _ => False) rfl rfl ?aP (fun _ hk => hk.elim) ?aF ?aO ?aB ?aS ?aL ?_; (case aP => exact k74_mkM _ _ _ (⟨t476, x15_3⟩ : S74)); (case aB => exact (by repeat (first | (with_reducible first | exact HB.out | apply below_alloc | apply pw_below_drewN | apply below_drew1) | exact HB.out))); (case aF => exact (fun _ _ => trivial)); (case aO => exact (by (with_reducible repeat (first | apply Kd.R_alloc | apply Kd.R_drewN | apply Kd.R_drew)); exact HO_12.out)); (case aS => exact (below_size (by repeat (first | (with_reducible first | exact HB.out | apply below_alloc | apply pw_below_drewN | apply below_drew1) | exact HB.out)))); (case aL => have := LMc40.out; omega); intro v478 w45 ho hb hg hat; rw [← Ny477.out] at ho; have n0_ := Aside0.mk (Kd.R_over' (by (with_reducible repeat (first | apply Kd.R_alloc | apply Kd.R_drewN | apply Kd.R_drew)); exact HO_9.out) (Kd.R_typed (by (with_reducible repeat (first | apply Kd.R_alloc | apply Kd.R_drewN | apply Kd.R_drew)); exact HO_12.out)) (by decide) hg); have n1_ := Aside0.mk (Kd.R_over' (by (with_reducible repeat (first | apply Kd.R_alloc | apply Kd.R_drewN | apply Kd.R_drew)); exact HO_10.out) (Kd.R_typed (by (with_reducible repeat (first | apply Kd.R_alloc | apply Kd.R_drewN | apply Kd.R_drew)); exact HO_12.out)) (by decide) hg); have n2_ := Aside0.mk (hb); have n3_ := Aside0.mk (ho); clear HO_9; clear HO_10; clear HB; clear HO_12; have HO_9 := n0_; have HO_10 := n1_; have HB := n2_; have HO479 := n3_; clear n0_ n1_ n2_ n3_; clear ho hb hg hat))
                        (try simp only [← hl9_3])
                        go_roundg k3
                        case measure => have := HJ4.out; have := HK2.out; have := HK3.out; omega
                        case rel => exact ⟨(wrap64 (x11_3 + 1)), (y477), (wrap64 (x15_3 + 1)), (by first | rfl | (simp; done) | (simp [*]; done)), (by first | rfl | (simp; done) | (simp [*]; done)), H', ⟨by have := HJ4.out; have := HK2.out; have := HK3.out; omega⟩, ⟨by (try simp only [hl9_3]); (with_reducible repeat (first | apply Kd.R_alloc | apply Kd.R_drewN | apply Kd.R_drew)); exact HO_9.out⟩, ⟨by (try simp only [hl9_3]); (with_reducible repeat (first | apply Kd.R_alloc | apply Kd.R_drewN | apply Kd.R_drew)); exact HO_10.out⟩, ⟨by (try simp only [hl9_3]); (with_reducible repeat (first | apply Kd.R_alloc | apply Kd.R_drewN | apply Kd.R_drew)); exact HO479.out⟩, ⟨by repeat (first | (with_reducible first | exact HB.out | apply below_alloc | apply pw_below_drewN | apply below_drew1) | exact HB.out)⟩⟩
                       ·rw [if_neg c40] at H
                        exact absurd H (by simp)
                      ·rw [if_neg c38] at H
                       have c38b0 : decide (0 ≤ t474) = false := decide_eq_false c38
                       clear c38
                       have H' := Aside0.mk H
                       clear H
                       obtain ⟨Ao46, co46, eo46⟩ := Kd.R_slice HO_12.out
                       subst eo46
                       have p470 : 0 ≤ (x13_2 : Int) := of_decide_eq_true (by first | (with_reducible assumption) | assumption)
                       have q470 : x13_2 < (x12_3.length : Int) := of_decide_eq_true (by first | (with_reducible assumption) | assumption)
                       obtain ⟨ad470, e470, hx470_0, hx470_1⟩ := at_T74 (Kd.R_reads' HO_12.out).2.2 x13_2 p470 q470
                       cases e470
                       replace p470 := eq_true p470
                       replace q470 := eq_true q470
                       have p471 : 0 ≤ (x15_3 : Int) := of_decide_eq_true (by first | (with_reducible assumption) | assumption)
                       have q471 : x15_3 < (l0.length : Int) := of_decide_eq_true (by first | (with_reducible assumption) | assumption)
                       obtain ⟨ad471, e471, hx471_0, hx471_1⟩ := at_T48 HR0.out x15_3 p471 q471
                       cases e471
                       replace hx471_0 := (HB.out.cell (World.block_lt_of_cell? w _ hx471_0)).trans hx471_0
                       replace hx471_1 := (HB.out.cell (World.block_lt_of_cell? w _ hx471_1)).trans hx471_1
                       replace p471 := eq_true p471
                       replace q471 := eq_true q471
                       go_wp2_with (first | (go_at_call 27; (with_reducible refine (brokerref46_Counts.calls ((rd_T48 l0 x15_3).f0) ((rd_T48 l0 x15_3).f1) t457 true _ A35.out).mono ?_); rintro e w47 ⟨rfl, hb⟩; have n0_ := Aside0.mk (Kd.R_below (by (with_reducible repeat (first | apply Kd.R_alloc | apply Kd.R_drewN | apply Kd.R_drew)); exact HO_9.out) hb); have n1_ := Aside0.mk (Kd.R_below (by (with_reducible repeat (first | apply Kd.R_alloc | apply Kd.R_drewN | apply Kd.R_drew)); exact HO_10.out) hb); have n2_ := Aside0.mk (Kd.R_below (by (with_reducible repeat (first | apply Kd.R_alloc | apply Kd.R_drewN | apply Kd.R_drew)); exact HO_12.out) hb); have n3_ := Aside0.mk (below_step (by repeat (first | (with_reducible first | exact HB.out | apply below_alloc | apply pw_below_drewN | apply below_drew1) | exact HB.out)) hb); clear HO_9; clear HO_10; clear HO_12; clear HB; have HO_9 := n0_; have HO_10 := n1_; have HO_12 := n2_; have HB := n3_; clear n0_ n1_ n2_ n3_; (try clear hb); (try clear hb2); (try clear hk); (try clear hi); have p473 : 0 ≤ (x15_3 : Int) := of_decide_eq_true (by first | (with_reducible assumption) | assumption); have q473 : x15_3 < (l0.length : Int) := of_decide_eq_true (by first | (with_reducible assumption) | assumption); obtain ⟨ad473, e473, hx473_0, hx473_1⟩ := at_T48 HR0.out x15_3 p473 q473; obtain rfl : ad471 = ad473 := (by injection e473); replace hx473_0 := (HB.out.cell (World.block_lt_of_cell? w _ hx473_0)).trans hx473_0; replace hx473_1 := (HB.out.cell (World.block_lt_of_cell? w _ hx473_1)).trans hx473_1; replace p473 := eq_true p473; replace q473 := eq_true q473) | (go_at_call 46; (with_reducible refine (brokerref46_other.calls ((rd_T48 l0 x15_3).f0) ((rd_T48 l0 x15_3).f1) ((rd_T74 x12_2 x13_2).f0) t474 _ A37.out).mono ?_); rintro e w48 ⟨rfl, hb⟩; have n0_ := Aside0.mk (Kd.R_below (by (with_reducible repeat (first | apply Kd.R_alloc | apply Kd.R_drewN | apply Kd.R_drew)); exact HO_9.out) hb); have n1_ := Aside0.mk (Kd.R_below (by (with_reducible repeat (first | apply Kd.R_alloc | apply Kd.R_drewN | apply Kd.R_drew)); exact HO_10.out) hb); have n2_ := Aside0.mk (Kd.R_below (by (with_reducible repeat (first | apply Kd.R_alloc | apply Kd.R_drewN | apply Kd.R_drew)); exact HO_12.out) hb); have n3_ := Aside0.mk (below_step (by repeat (first | (with_reducible first | exact HB.out | apply below_alloc | apply pw_below_drewN | apply below_drew1) | exact HB.out)) hb); clear HO_9; clear HO_10; clear HO_12; clear HB; have HO_9 := n0_; have HO_10 := n1_; have HO_12 := n2_; have HB := n3_; clear n0_ n1_ n2_ n3_; (try clear hb); (try clear hb2); (try clear hk); (try clear hi)))
                       (try simp only [← hl9_3])
                       go_roundg k3
                       case measure => have := HJ4.out; have := HK2.out; have := HK3.out; omega
                       case rel => exact ⟨(x11_3), (x12_3), (wrap64 (x15_3 + 1)), (by first | rfl | (simp; done) | (simp [*]; done)), (by first | rfl | (simp; done) | (simp [*]; done)), H', ⟨by have := HJ4.out; have := HK2.out; have := HK3.out; omega⟩, ⟨by (try simp only [hl9_3]); (with_reducible repeat (first | apply Kd.R_alloc | apply Kd.R_drewN | apply Kd.R_drew)); exact HO_9.out⟩, ⟨by (try simp only [hl9_3]); (with_reducible repeat (first | apply Kd.R_alloc | apply Kd.R_drewN | apply Kd.R_drew)); exact HO_10.out⟩, ⟨by (try simp only [hl9_3]); (with_reducible repeat (first | apply Kd.R_alloc | apply Kd.R_drewN | apply Kd.R_drew)); exact HO_12.out⟩, ⟨by repeat (first | (with_reducible first | exact HB.out | apply below_alloc | apply pw_below_drewN | apply below_drew1) | exact HB.out)⟩⟩
                     ·replace c36 := Bool.eq_false_iff.mpr c36
                      subst c36
                      have H1 : (brokerref46_Flood.l1 k3 l0 t457 y466 y467 x11_3 x12_3 x13_2 ((rd_T74 x12_2 x13_2).f0) (wrap64 (x15_3 + 1))) = some (r1, r2) := by rw [if_neg (show ¬ (false = true) by decide)] at H; exact H
                      clear H
                      have H := H1
                      clear H1
                      have H' := Aside0.mk H
                      clear H
                      obtain ⟨Ao49, co49, eo49⟩ := Kd.R_slice HO_12.out
                      subst eo49
                      have p470 : 0 ≤ (x13_2 : Int) := of_decide_eq_true (by first | (with_reducible assumption) | assumption)
                      have q470 : x13_2 < (x12_3.length : Int) := of_decide_eq_true (by first | (with_reducible assumption) | assumption)
                      obtain ⟨ad470, e470, hx470_0, hx470_1⟩ := at_T74 (Kd.R_reads' HO_12.out).2.2 x13_2 p470 q470
                      cases e470
                      replace p470 := eq_true p470
                      replace q470 := eq_true q470
                      have p471 : 0 ≤ (x15_3 : Int) := of_decide_eq_true (by first | (with_reducible assumption) | assumption)
                      have q471 : x15_3 < (l0.length : Int) := of_decide_eq_true (by first | (with_reducible assumption) | assumption)
                      obtain ⟨ad471, e471, hx471_0, hx471_1⟩ := at_T48 HR0.out x15_3 p471 q471
                      cases e471
                      replace hx471_0 := (HB.out.cell (World.block_lt_of_cell? w _ hx471_0)).trans hx471_0
                      replace hx471_1 := (HB.out.cell (World.block_lt_of_cell? w _ hx471_1)).trans hx471_1
                      replace p471 := eq_true p471
                      replace q471 := eq_true q471
                      go_wp2_with (first | (go_at_call 27; (with_reducible refine (brokerref46_Counts.calls ((rd_T48 l0 x15_3).f0) ((rd_T48 l0 x15_3).f1) t457 false _ A35.out).mono ?_); rintro e w50 ⟨rfl, hb⟩; have n0_ := Aside0.mk (Kd.R_below (by (with_reducible repeat (first | apply Kd.R_alloc | apply Kd.R_drewN | apply Kd.R_drew)); exact HO_9.out) hb); have n1_ := Aside0.mk (Kd.R_below (by (with_reducible repeat (first | apply Kd.R_alloc | apply Kd.R_drewN | apply Kd.R_drew)); exact HO_10.out) hb); have n2_ := Aside0.mk (Kd.R_below (by (with_reducible repeat (first | apply Kd.R_alloc | apply Kd.R_drewN | apply Kd.R_drew)); exact HO_12.out) hb); have n3_ := Aside0.mk (below_step (by repeat (first | (with_reducible first | exact HB.out | apply below_alloc | apply pw_below_drewN | apply below_drew1) | exact HB.out)) hb); clear HO_9; clear HO_10; clear HO_12; clear HB; have HO_9 := n0_; have HO_10 := n1_; have HO_12 := n2_; have HB := n3_; clear n0_ n1_ n2_ n3_; (try clear hb); (try clear hb2); (try clear hk); (try clear hi)))
                      (try simp only [← hl9_3])
                      go_roundg k3
                      case measure => have := HJ4.out; have := HK2.out; have := HK3.out; omega
                      case rel => exact ⟨(x11_3), (x12_3), (wrap64 (x15_3 + 1)), (by first | rfl | (simp; done) | (simp [*]; done)), (by first | rfl | (simp; done) | (simp [*]; done)), H', ⟨by have := HJ4.out; have := HK2.out; have := HK3.out; omega⟩, ⟨by (try simp only [hl9_3]); (with_reducible repeat (first | apply Kd.R_alloc | apply Kd.R_drewN | apply Kd.R_drew)); exact HO_9.out⟩, ⟨by (try simp only [hl9_3]); (with_reducible repeat (first | apply Kd.R_alloc | apply Kd.R_drewN | apply Kd.R_drew)); exact HO_10.out⟩, ⟨by (try simp only [hl9_3]); (with_reducible repeat (first | apply Kd.R_alloc | apply Kd.R_drewN | apply Kd.R_drew)); exact HO_12.out⟩, ⟨by repeat (first | (with_reducible first | exact HB.out | apply below_alloc | apply pw_below_drewN | apply below_drew1) | exact HB.out)⟩⟩
                    ·rw [if_neg c34] at H
                     exact absurd H (by simp)
                  ·rw [if_neg c31] at H
                   exact absurd H (by simp)
                 ·rw [if_neg c30] at H
                  exact absurd H (by simp)
                ·rw [if_neg c29] at H
                 have c29b0 : decide (x15_3 < (l0.length : Int)) = false := decide_eq_false c29
                 clear c29
                 have H' := Aside0.mk H
                 clear H
                 go_wp2
                 (try simp only [← hl9_3])
                 go_roundg k3
                 case measure => have := HJ4.out; have := HK2.out; have := HK3.out; omega
                 case rel => exact ⟨(y466), (y467), (x11_3), (x12_3), (wrap64 (x13_2 + 1)), (by first | rfl | (simp; done) | (simp [*]; done)), (by first | rfl | (simp; done) | (simp [*]; done)), H', ⟨by have := HJ4.out; have := HK2.out; have := HK3.out; omega⟩, ⟨by (try simp only [hl9_3]); (with_reducible repeat (first | apply Kd.R_alloc | apply Kd.R_drewN | apply Kd.R_drew)); exact HO_9.out⟩, ⟨by (try simp only [hl9_3]); (with_reducible repeat (first | apply Kd.R_alloc | apply Kd.R_drewN | apply Kd.R_drew)); exact HO_10.out⟩, ⟨by (try simp only [hl9_3]); (with_reducible repeat (first | apply Kd.R_alloc | apply Kd.R_drewN | apply Kd.R_drew)); exact HO_12.out⟩, ⟨by repeat (first | (with_reducible first | exact HB.out | apply below_alloc | apply pw_below_drewN | apply below_drew1) | exact HB.out)⟩⟩
             ·rw [if_neg c23] at H
              exact absurd H (by simp)
           ·rw [if_neg c17] at H
            exact absurd H (by simp)
          ·rw [if_neg c16] at H
           exact absurd H (by simp)
         ·rw [if_neg c15] at H
          exact absurd H (by simp)
        ·rw [if_neg c14] at H
         have c14b0 : decide (x13_2 < (x12_2.length : Int)) = false := decide_eq_false c14
         clear c14
         simp only [Option.some.injEq, Prod.mk.injEq] at H
         obtain ⟨rfl, rfl⟩ := H
         obtain ⟨Ao51, co51, eo51⟩ := Kd.R_slice HO_12.out
         subst eo51
         go_wp2
         go_ret2
         exact ⟨_, by first | rfl | (simp [errW_none, errW_some] <;> rfl) | (simp [*, errW_none, errW_some] <;> rfl), by (with_reducible repeat (first | apply Kd.R_alloc | apply Kd.R_drewN | apply Kd.R_drew)); exact HO_10.out, by repeat (first | (with_reducible first | exact HB.out | apply below_alloc | apply pw_below_drewN | apply below_drew1) | exact HB.out)⟩
     ·rw [if_neg c9] at H
      exact absurd H (by simp)
    ·rw [if_neg c8] at H
     exact absurd H (by simp)

end Go.Proofs.YtfikhfahpdhjbaaDoor.P
