/- Printed by a program of this session (wip/tools) over the translation: Go functions as plain Lean functions, and their contracts. -/
import Derived.Test.YtgdamingkgafhaaDoorPx0
import Derived.Test.YtgdamingkgafhaaDoorPx28
import Derived.Test.YtgdamingkgafhaaDoorPx29
namespace Go.Proofs.YtgdamingkgafhaaDoor.P
open Go.RowKit Go.Proofs.YtgdamingkgafhaaDoorW.PrintWords Go.Proofs.YtgdamingkgafhaaDoorW.PrintLast Go.Proofs.YtgdamingkgafhaaDoorW.PrintMore
attribute [local go_sem] max2_int min2_int max_two min_two max_three min_three max_four min_four   -- for this text's walks alone
set_option linter.unusedVariables false
set_option linter.unusedSimpArgs false

/-! ### brokerref20_hides: function 46 -/
def brokerref20_hides.j0 : Nat → Bool → Bool → ByteArray → Int → ByteArray → Bool → ByteArray → Int → ByteArray → Option (Bool)
 | 0, _, _, _, _, _, _, _, _, _ => none
 | k + 1, x26, x453000, x453001, x453002, x453003, x454000, x454001, x454002, x454003 => if x26 = true then (some false) else (if x453003.toList = x454003.toList then (some true) else ((brokerref20_plain.f k x453003).bind fun t454 => (if t454 = true then ((brokerref20_plain.f k x454003).bind fun t455 => (if t455 = true then ((brokerref02_Covers.f k x453003 x454003).bind fun t456 => (some t456)) else (some false))) else (some false))))
def brokerref20_hides.f (k : Nat) (a0_0 : Bool) (a0_1 : ByteArray) (a0_2 : Int) (a0_3 : ByteArray) (a1_0 : Bool) (a1_1 : ByteArray) (a1_2 : Int) (a1_3 : ByteArray) : Option (Bool) := if a0_1.toList = ([42] : List UInt8) then (if a0_2 = 0 then (brokerref20_hides.j0 k false a0_0 a0_1 a0_2 a0_3 a1_0 a1_1 a1_2 a1_3) else (brokerref20_hides.j0 k (a0_2 != a1_2) a0_0 a0_1 a0_2 a0_3 a1_0 a1_1 a1_2 a1_3)) else (if a0_1.toList = a1_1.toList then (if a0_2 = 0 then (brokerref20_hides.j0 k false a0_0 a0_1 a0_2 a0_3 a1_0 a1_1 a1_2 a1_3) else (brokerref20_hides.j0 k (a0_2 != a1_2) a0_0 a0_1 a0_2 a0_3 a1_0 a1_1 a1_2 a1_3)) else (brokerref20_hides.j0 k true a0_0 a0_1 a0_2 a0_3 a1_0 a1_1 a1_2 a1_3))
theorem brokerref20_hides.mono_l : ∀ k, (∀ y0 y1 y2 y3 y4 y5 y6 y7 y8, LeO (brokerref20_hides.j0 k y0 y1 y2 y3 y4 y5 y6 y7 y8) (brokerref20_hides.j0 (k + 1) y0 y1 y2 y3 y4 y5 y6 y7 y8))
 | 0 => fun _ _ _ _ _ _ _ _ _ r h => by simp [brokerref20_hides.j0] at h
 | k + 1 => by
  have ih0 := brokerref20_hides.mono_l k
  ·intro y0 y1 y2 y3 y4 y5 y6 y7 y8
   unfold brokerref20_hides.j0
   repeat' first
   | (with_reducible exact ih0 _ _ _ _ _ _ _ _ _)
   | (with_reducible exact brokerref02_Covers.mono _ _ _)
   | (with_reducible exact brokerref20_plain.mono _ _)
   | (with_reducible exact LeO.refl _)
   | (with_reducible exact LeO.none _)
   | (with_reducible refine LeO.ite ?_ ?_)
   | (with_reducible refine LeO.bind ?_ (fun _ => ?_))
   | exact ih0 _ _ _ _ _ _ _ _ _
   | exact brokerref02_Covers.mono _ _ _
   | exact brokerref20_plain.mono _ _
   | exact LeO.none _
   | refine LeO.ite ?_ ?_
   | refine LeO.bind ?_ (fun _ => ?_)
theorem brokerref20_hides.mono : ∀ a0 a1 a2 a3 a4 a5 a6 a7 k, LeO (brokerref20_hides.f k a0 a1 a2 a3 a4 a5 a6 a7) (brokerref20_hides.f (k + 1) a0 a1 a2 a3 a4 a5 a6 a7) := by
 intro a0 a1 a2 a3 a4 a5 a6 a7 k
 have ih0 := brokerref20_hides.mono_l k
 unfold brokerref20_hides.f
 repeat' first
   | (with_reducible exact ih0 _ _ _ _ _ _ _ _ _)
   | (with_reducible exact brokerref02_Covers.mono _ _ _)
   | (with_reducible exact brokerref20_plain.mono _ _)
   | (with_reducible exact LeO.refl _)
   | (with_reducible exact LeO.none _)
   | (with_reducible refine LeO.ite ?_ ?_)
   | (with_reducible refine LeO.bind ?_ (fun _ => ?_))
   | exact ih0 _ _ _ _ _ _ _ _ _
   | exact brokerref02_Covers.mono _ _ _
   | exact brokerref20_plain.mono _ _
   | exact LeO.none _
   | refine LeO.ite ?_ ?_
   | refine LeO.bind ?_ (fun _ => ?_)
set_option maxHeartbeats 8000000 in
set_option maxRecDepth 100000 in
theorem brokerref20_hides.calls (k : Nat) (a0_0 : Bool) (a0_1 : ByteArray) (a0_2 : Int) (a0_3 : ByteArray) (a1_0 : Bool) (a1_1 : ByteArray) (a1_2 : Int) (a1_3 : ByteArray) (r : Bool) (w : World) (h : brokerref20_hides.f k a0_0 a0_1 a0_2 a0_3 a1_0 a1_1 a1_2 a1_3 = some r) :
  Calls Tryd.prog 46 #[.agg #[.bool a0_0, .string a0_1, .int .i64 a0_2, .string a0_3], .agg #[.bool a1_0, .string a1_1, .int .i64 a1_2, .string a1_3]] w fun e w' => e = .returned (.bool r) ∧ Below w.heap.size w w' := by
 have hu42 := Tryd.underlying42
 have HB := Aside0.mk (Below.refl w.heap.size w)
 have H : (if a0_1.toList = ([42] : List UInt8) then (if a0_2 = 0 then (brokerref20_hides.j0 k false a0_0 a0_1 a0_2 a0_3 a1_0 a1_1 a1_2 a1_3) else (brokerref20_hides.j0 k (a0_2 != a1_2) a0_0 a0_1 a0_2 a0_3 a1_0 a1_1 a1_2 a1_3)) else (if a0_1.toList = a1_1.toList then (if a0_2 = 0 then (brokerref20_hides.j0 k false a0_0 a0_1 a0_2 a0_3 a1_0 a1_1 a1_2 a1_3) else (brokerref20_hides.j0 k (a0_2 != a1_2) a0_0 a0_1 a0_2 a0_3 a1_0 a1_1 a1_2 a1_3)) else (brokerref20_hides.j0 k true a0_0 a0_1 a0_2 a0_3 a1_0 a1_1 a1_2 a1_3))) = some r := h
 clear h
 have HC3 := Aside0.mk H
 clear H
 go_enter Tryd.func46, Tryd.ntmps46
 go_upto_region 1 with (first | ((with_reducible refine gate_dst (N := 2) rfl ?_); refine box_event ?hg (N := 2) ?hd (cs := #[.bool a0_0, .string a0_1, .int .i64 a0_2, .string a0_3]) (t := 42) ?hr ?_; (case hd => rfl); (case hg => rfl); (case hr => first | (go_simp; done) | (go_simp; rfl)); intro gb452 hg w4 hbox hb; have n0_ := Aside0.mk (below_step (by repeat (first | (with_reducible first | exact HB.out | apply below_alloc | apply pw_below_drewN | apply below_drew1) | exact HB.out)) hb); have n1_ := Aside0.mk (hbox); have n2_ := Aside0.mk ((by rw [hg]; exact (below_size (by repeat (first | (with_reducible first | exact HB.out | apply below_alloc | apply pw_below_drewN | apply below_drew1) | exact HB.out))) : w.heap.size ≤ gb452)); have n3_ := Aside0.mk ((by rw [hg]; exact (below_size (by repeat (first | (with_reducible first | exact HB.out | apply below_alloc | apply pw_below_drewN | apply below_drew1) | exact HB.out))) : w.heap.size ≤ gb452)); clear HB; have HB := n0_; have BK452 := n1_; have GW452 := n2_; have GE452 := n3_; clear n0_ n1_ n2_ n3_; clear hb hbox hg) | ((with_reducible refine gate_dst (N := 3) rfl ?_); refine box_event ?hg (N := 3) ?hd (cs := #[.bool a1_0, .string a1_1, .int .i64 a1_2, .string a1_3]) (t := 42) ?hr ?_; (case hd => rfl); (case hg => rfl); (case hr => first | (go_simp; done) | (go_simp; rfl)); intro gb453 hg w5 hbox hb; have n0_ := Aside0.mk (blk_below (g := gb452) (o := .cells #[.bool a0_0, .string a0_1, .int .i64 a0_2, .string a0_3] 42 (0, 0)) (by (with_reducible repeat (first | refine blk_drewN ?_ _ | refine blk_drew ?_ | refine blk_alloc ?_ _)); exact BK452.out) hb); have n1_ := Aside0.mk (below_step (by repeat (first | (with_reducible first | exact HB.out | apply below_alloc | apply pw_below_drewN | apply below_drew1 | refine below_set ?_ GE452.out) | exact HB.out)) hb); have n2_ := Aside0.mk (hbox); have n3_ := Aside0.mk ((by rw [hg]; exact (below_size (by repeat (first | (with_reducible first | exact HB.out | apply below_alloc | apply pw_below_drewN | apply below_drew1 | refine below_set ?_ GE452.out) | exact HB.out))) : w.heap.size ≤ gb453)); have n4_ := Aside0.mk ((by rw [hg]; exact (below_size (by repeat (first | (with_reducible first | exact HB.out | apply below_alloc | apply pw_below_drewN | apply below_drew1 | refine below_set ?_ GE452.out) | exact HB.out))) : w.heap.size ≤ gb453)); have n5_ := Aside0.mk ((by rw [hg]; exact Nat.ne_of_lt (blk_lt (g := gb452) (o := .cells #[.bool a0_0, .string a0_1, .int .i64 a0_2, .string a0_3] 42 (0, 0)) (by (with_reducible repeat (first | refine blk_drewN ?_ _ | refine blk_drew ?_ | refine blk_alloc ?_ _)); exact BK452.out)) : gb452 ≠ gb453)); have n6_ := Aside0.mk ((by rw [hg]; exact Nat.ne_of_gt (blk_lt (g := gb452) (o := .cells #[.bool a0_0, .string a0_1, .int .i64 a0_2, .string a0_3] 42 (0, 0)) (by (with_reducible repeat (first | refine blk_drewN ?_ _ | refine blk_drew ?_ | refine blk_alloc ?_ _)); exact BK452.out)) : gb453 ≠ gb452)); clear BK452; clear HB; have BK452 := n0_; have HB := n1_; have BK453 := n2_; have GW453 := n3_; have GE453 := n4_; have NB452_453 := n5_; have NB453_452 := n6_; clear n0_ n1_ n2_ n3_ n4_ n5_ n6_; clear hb hbox hg))
 (try simp only [Act.put, List.setIfInBounds_toArray, List.set_cons_zero, List.set_cons_succ])
 go_cut [26] (fun v26 wc => ∃ (kq : Nat) (x26_2 : Bool), v26 = .bool x26_2 ∧ Aside0 (brokerref20_hides.j0 kq x26_2 a0_0 a0_1 a0_2 a0_3 a1_0 a1_1 a1_2 a1_3 = some r) ∧ Aside0 (kq ≤ k) ∧ Aside0 (wc.heap[gb452]? = some (.cells #[.bool a0_0, .string a0_1, .int .i64 a0_2, .string a0_3] 42 (0, 0))) ∧ Aside0 (wc.heap[gb453]? = some (.cells #[.bool a1_0, .string a1_1, .int .i64 a1_2, .string a1_3] 42 (0, 0))) ∧ Aside0 (Below w.heap.size w wc))
 case first =>
  have H := HC3.out
  clear HC3
  by_cases c6 : a0_1.toList = ([42] : List UInt8)
  ·rw [if_pos c6] at H
   have c6b0 : (a0_1.toList == ([42] : List UInt8)) = true := beq_iff_eq.mpr c6
   have c6b1 : (a0_1.toList != ([42] : List UInt8)) = false := bne_eq_false_iff_eq.mpr c6
   clear c6
   (first | rw [c6b0] | (simp only [i64_w, i32_w]; rw [c6b0]) | skip)
   by_cases c7 : a0_2 = 0
   ·rw [if_pos c7] at H
    have c7b0 : (a0_2 == 0) = true := beq_iff_eq.mpr c7
    have c7b1 : (a0_2 != 0) = false := bne_eq_false_iff_eq.mpr c7
    clear c7
    have H' := Aside0.mk H
    clear H
    have hnb8 := NB452_453.out
    have hnc8 := NB453_452.out
    have hcz9_0 : w5.cell? ⟨gb452, 0, none⟩ = some (.bool a0_0) := (blk_cell BK452.out 0).trans rfl
    have hcz9_1 : w5.cell? ⟨gb452, 1, none⟩ = some (.string a0_1) := (blk_cell BK452.out 1).trans rfl
    have hcz9_2 : w5.cell? ⟨gb452, 2, none⟩ = some (.int .i64 a0_2) := (blk_cell BK452.out 2).trans rfl
    have hcz9_3 : w5.cell? ⟨gb452, 3, none⟩ = some (.string a0_3) := (blk_cell BK452.out 3).trans rfl
    have hfz9_0 := blk_frozen BK452.out 0
    have hfz9_1 := blk_frozen BK452.out 1
    have hfz9_2 := blk_frozen BK452.out 2
    have hfz9_3 := blk_frozen BK452.out 3
    go_wp2
    go_meet
    case rel => exact ⟨_, (false), (by first | rfl | (simp; done) | (simp [*]; done)), H', ⟨by first | omega | exact Nat.le_refl _⟩, ⟨by (with_reducible repeat (first | refine blk_drewN ?_ _ | refine blk_drew ?_ | refine blk_alloc ?_ _)); exact BK452.out⟩, ⟨by (with_reducible repeat (first | refine blk_drewN ?_ _ | refine blk_drew ?_ | refine blk_alloc ?_ _)); exact BK453.out⟩, ⟨by repeat (first | (with_reducible first | exact HB.out | apply below_alloc | apply pw_below_drewN | apply below_drew1 | refine below_set ?_ GE452.out | refine below_set ?_ GE453.out) | exact HB.out)⟩⟩
   ·rw [if_neg c7] at H
    have c7b0 : (a0_2 == 0) = false := beq_eq_false_iff_ne.mpr c7
    have c7b1 : (a0_2 != 0) = true := bne_iff_ne.mpr c7
    have H' := Aside0.mk H
    clear H
    have hnb10 := NB452_453.out
    have hnc10 := NB453_452.out
    have hcz11_0 : w5.cell? ⟨gb452, 0, none⟩ = some (.bool a0_0) := (blk_cell BK452.out 0).trans rfl
    have hcz11_1 : w5.cell? ⟨gb452, 1, none⟩ = some (.string a0_1) := (blk_cell BK452.out 1).trans rfl
    have hcz11_2 : w5.cell? ⟨gb452, 2, none⟩ = some (.int .i64 a0_2) := (blk_cell BK452.out 2).trans rfl
    have hcz11_3 : w5.cell? ⟨gb452, 3, none⟩ = some (.string a0_3) := (blk_cell BK452.out 3).trans rfl
    have hfz11_0 := blk_frozen BK452.out 0
    have hfz11_1 := blk_frozen BK452.out 1
    have hfz11_2 := blk_frozen BK452.out 2
    have hfz11_3 := blk_frozen BK452.out 3
    have hcz12_0 : w5.cell? ⟨gb453, 0, none⟩ = some (.bool a1_0) := (blk_cell BK453.out 0).trans rfl
    have hcz12_1 : w5.cell? ⟨gb453, 1, none⟩ = some (.string a1_1) := (blk_cell BK453.out 1).trans rfl
    have hcz12_2 : w5.cell? ⟨gb453, 2, none⟩ = some (.int .i64 a1_2) := (blk_cell BK453.out 2).trans rfl
    have hcz12_3 : w5.cell? ⟨gb453, 3, none⟩ = some (.string a1_3) := (blk_cell BK453.out 3).trans rfl
    have hfz12_0 := blk_frozen BK453.out 0
    have hfz12_1 := blk_frozen BK453.out 1
    have hfz12_2 := blk_frozen BK453.out 2
    have hfz12_3 := blk_frozen BK453.out 3
    go_wp2
    go_meet
    case rel => exact ⟨_, ((a0_2 != a1_2)), (by first | rfl | (simp; done) | (simp [*]; done)), H', ⟨by first | omega | exact Nat.le_refl _⟩, ⟨by (with_reducible repeat (first | refine blk_drewN ?_ _ | refine blk_drew ?_ | refine blk_alloc ?_ _)); exact BK452.out⟩, ⟨by (with_reducible repeat (first | refine blk_drewN ?_ _ | refine blk_drew ?_ | refine blk_alloc ?_ _)); exact BK453.out⟩, ⟨by repeat (first | (with_reducible first | exact HB.out | apply below_alloc | apply pw_below_drewN | apply below_drew1 | refine below_set ?_ GE452.out | refine below_set ?_ GE453.out) | exact HB.out)⟩⟩
  ·rw [if_neg c6] at H
   have c6b0 : (a0_1.toList == ([42] : List UInt8)) = false := beq_eq_false_iff_ne.mpr c6
   have c6b1 : (a0_1.toList != ([42] : List UInt8)) = true := bne_iff_ne.mpr c6
   (first | rw [c6b0] | (simp only [i64_w, i32_w]; rw [c6b0]) | skip)
   by_cases c13 : a0_1.toList = a1_1.toList
   ·rw [if_pos c13] at H
    have c13b0 : (a0_1.toList == a1_1.toList) = true := beq_iff_eq.mpr c13
    have c13b1 : (a0_1.toList != a1_1.toList) = false := bne_eq_false_iff_eq.mpr c13
    clear c13
    by_cases c14 : a0_2 = 0
    ·rw [if_pos c14] at H
     have c14b0 : (a0_2 == 0) = true := beq_iff_eq.mpr c14
     have c14b1 : (a0_2 != 0) = false := bne_eq_false_iff_eq.mpr c14
     clear c14
     have H' := Aside0.mk H
     clear H
     have hnb15 := NB452_453.out
     have hnc15 := NB453_452.out
     have hcz16_0 : w5.cell? ⟨gb452, 0, none⟩ = some (.bool a0_0) := (blk_cell BK452.out 0).trans rfl
     have hcz16_1 : w5.cell? ⟨gb452, 1, none⟩ = some (.string a0_1) := (blk_cell BK452.out 1).trans rfl
     have hcz16_2 : w5.cell? ⟨gb452, 2, none⟩ = some (.int .i64 a0_2) := (blk_cell BK452.out 2).trans rfl
     have hcz16_3 : w5.cell? ⟨gb452, 3, none⟩ = some (.string a0_3) := (blk_cell BK452.out 3).trans rfl
     have hfz16_0 := blk_frozen BK452.out 0
     have hfz16_1 := blk_frozen BK452.out 1
     have hfz16_2 := blk_frozen BK452.out 2
     have hfz16_3 := blk_frozen BK452.out 3
     have hcz17_0 : w5.cell? ⟨gb453, 0, none⟩ = some (.bool a1_0) := (blk_cell BK453.out 0).trans rfl
     have hcz17_1 : w5.cell? ⟨gb453, 1, none⟩ = some (.string a1_1) := (blk_cell BK453.out 1).trans rfl
     have hcz17_2 : w5.cell? ⟨gb453, 2, none⟩ = some (.int .i64 a1_2) := (blk_cell BK453.out 2).trans rfl
     have hcz17_3 : w5.cell? ⟨gb453, 3, none⟩ = some (.string a1_3) := (blk_cell BK453.out 3).trans rfl
     have hfz17_0 := blk_frozen BK453.out 0
     have hfz17_1 := blk_frozen BK453.out 1
     have hfz17_2 := blk_frozen BK453.out 2
     have hfz17_3 := blk_frozen BK453.out 3
     go_wp2
     go_meet
     case rel => exact ⟨_, (false), (by first | rfl | (simp; done) | (simp [*]; done)), H', ⟨by first | omega | exact Nat.le_refl _⟩, ⟨by (with_reducible repeat (first | refine blk_drewN ?_ _ | refine blk_drew ?_ | refine blk_alloc ?_ _)); exact BK452.out⟩, ⟨by (with_reducible repeat (first | refine blk_drewN ?_ _ | refine blk_drew ?_ | refine blk_alloc ?_ _)); exact BK453.out⟩, ⟨by repeat (first | (with_reducible first | exact HB.out | apply below_alloc | apply pw_below_drewN | apply below_drew1 | refine below_set ?_ GE452.out | refine below_set ?_ GE453.out) | exact HB.out)⟩⟩
    ·rw [if_neg c14] at H
     have c14b0 : (a0_2 == 0) = false := beq_eq_false_iff_ne.mpr c14
     have c14b1 : (a0_2 != 0) = true := bne_iff_ne.mpr c14
     have H' := Aside0.mk H
     clear H
     have hnb18 := NB452_453.out
     have hnc18 := NB453_452.out
     have hcz19_0 : w5.cell? ⟨gb452, 0, none⟩ = some (.bool a0_0) := (blk_cell BK452.out 0).trans rfl
     have hcz19_1 : w5.cell? ⟨gb452, 1, none⟩ = some (.string a0_1) := (blk_cell BK452.out 1).trans rfl
     have hcz19_2 : w5.cell? ⟨gb452, 2, none⟩ = some (.int .i64 a0_2) := (blk_cell BK452.out 2).trans rfl
     have hcz19_3 : w5.cell? ⟨gb452, 3, none⟩ = some (.string a0_3) := (blk_cell BK452.out 3).trans rfl
     have hfz19_0 := blk_frozen BK452.out 0
     have hfz19_1 := blk_frozen BK452.out 1
     have hfz19_2 := blk_frozen BK452.out 2
     have hfz19_3 := blk_frozen BK452.out 3
     have hcz20_0 : w5.cell? ⟨gb453, 0, none⟩ = some (.bool a1_0) := (blk_cell BK453.out 0).trans rfl
     have hcz20_1 : w5.cell? ⟨gb453, 1, none⟩ = some (.string a1_1) := (blk_cell BK453.out 1).trans rfl
     have hcz20_2 : w5.cell? ⟨gb453, 2, none⟩ = some (.int .i64 a1_2) := (blk_cell BK453.out 2).trans rfl
     have hcz20_3 : w5.cell? ⟨gb453, 3, none⟩ = some (.string a1_3) := (blk_cell BK453.out 3).trans rfl
     have hfz20_0 := blk_frozen BK453.out 0
     have hfz20_1 := blk_frozen BK453.out 1
     have hfz20_2 := blk_frozen BK453.out 2
     have hfz20_3 := blk_frozen BK453.out 3
     go_wp2
     go_meet
     case rel => exact ⟨_, ((a0_2 != a1_2)), (by first | rfl | (simp; done) | (simp [*]; done)), H', ⟨by first | omega | exact Nat.le_refl _⟩, ⟨by (with_reducible repeat (first | refine blk_drewN ?_ _ | refine blk_drew ?_ | refine blk_alloc ?_ _)); exact BK452.out⟩, ⟨by (with_reducible repeat (first | refine blk_drewN ?_ _ | refine blk_drew ?_ | refine blk_alloc ?_ _)); exact BK453.out⟩, ⟨by repeat (first | (with_reducible first | exact HB.out | apply below_alloc | apply pw_below_drewN | apply below_drew1 | refine below_set ?_ GE452.out | refine below_set ?_ GE453.out) | exact HB.out)⟩⟩
   ·rw [if_neg c13] at H
    have c13b0 : (a0_1.toList == a1_1.toList) = false := beq_eq_false_iff_ne.mpr c13
    have c13b1 : (a0_1.toList != a1_1.toList) = true := bne_iff_ne.mpr c13
    have H' := Aside0.mk H
    clear H
    have hnb21 := NB452_453.out
    have hnc21 := NB453_452.out
    have hcz22_0 : w5.cell? ⟨gb452, 0, none⟩ = some (.bool a0_0) := (blk_cell BK452.out 0).trans rfl
    have hcz22_1 : w5.cell? ⟨gb452, 1, none⟩ = some (.string a0_1) := (blk_cell BK452.out 1).trans rfl
    have hcz22_2 : w5.cell? ⟨gb452, 2, none⟩ = some (.int .i64 a0_2) := (blk_cell BK452.out 2).trans rfl
    have hcz22_3 : w5.cell? ⟨gb452, 3, none⟩ = some (.string a0_3) := (blk_cell BK452.out 3).trans rfl
    have hfz22_0 := blk_frozen BK452.out 0
    have hfz22_1 := blk_frozen BK452.out 1
    have hfz22_2 := blk_frozen BK452.out 2
    have hfz22_3 := blk_frozen BK452.out 3
    have hcz23_0 : w5.cell? ⟨gb453, 0, none⟩ = some (.bool a1_0) := (blk_cell BK453.out 0).trans rfl
    have hcz23_1 : w5.cell? ⟨gb453, 1, none⟩ = some (.string a1_1) := (blk_cell BK453.out 1).trans rfl
    have hcz23_2 : w5.cell? ⟨gb453, 2, none⟩ = some (.int .i64 a1_2) := (blk_cell BK453.out 2).trans rfl
    have hcz23_3 : w5.cell? ⟨gb453, 3, none⟩ = some (.string a1_3) := (blk_cell BK453.out 3).trans rfl
    have hfz23_0 := blk_frozen BK453.out 0
    have hfz23_1 := blk_frozen BK453.out 1
    have hfz23_2 := blk_frozen BK453.out 2
    have hfz23_3 := blk_frozen BK453.out 3
    go_wp2
    go_meet
    case rel => exact ⟨_, (true), (by first | rfl | (simp; done) | (simp [*]; done)), H', ⟨by first | omega | exact Nat.le_refl _⟩, ⟨by (with_reducible repeat (first | refine blk_drewN ?_ _ | refine blk_drew ?_ | refine blk_alloc ?_ _)); exact BK452.out⟩, ⟨by (with_reducible repeat (first | refine blk_drewN ?_ _ | refine blk_drew ?_ | refine blk_alloc ?_ _)); exact BK453.out⟩, ⟨by repeat (first | (with_reducible first | exact HB.out | apply below_alloc | apply pw_below_drewN | apply below_drew1 | refine below_set ?_ GE452.out | refine below_set ?_ GE453.out) | exact HB.out)⟩⟩
 case rest =>
  clear HC3
  try clear c1
  try clear c2
  try clear p2
  try clear c4
  try clear c6
  try clear c6b0
  try clear c6b1
  try clear c7
  try clear c7b0
  try clear c7b1
  try clear c8
  try clear c10
  try clear c13
  try clear c13b0
  try clear c13b1
  try clear c14
  try clear c14b0
  try clear c14b1
  try clear c15
  try clear c18
  try clear c21
  try clear hcz11_0
  try clear hcz11_1
  try clear hcz11_2
  try clear hcz11_3
  try clear hcz12_0
  try clear hcz12_1
  try clear hcz12_2
  try clear hcz12_3
  try clear hcz16_0
  try clear hcz16_1
  try clear hcz16_2
  try clear hcz16_3
  try clear hcz17_0
  try clear hcz17_1
  try clear hcz17_2
  try clear hcz17_3
  try clear hcz19_0
  try clear hcz19_1
  try clear hcz19_2
  try clear hcz19_3
  try clear hcz20_0
  try clear hcz20_1
  try clear hcz20_2
  try clear hcz20_3
  try clear hcz22_0
  try clear hcz22_1
  try clear hcz22_2
  try clear hcz22_3
  try clear hcz23_0
  try clear hcz23_1
  try clear hcz23_2
  try clear hcz23_3
  try clear hcz9_0
  try clear hcz9_1
  try clear hcz9_2
  try clear hcz9_3
  try clear hfz11_0
  try clear hfz11_1
  try clear hfz11_2
  try clear hfz11_3
  try clear hfz12_0
  try clear hfz12_1
  try clear hfz12_2
  try clear hfz12_3
  try clear hfz16_0
  try clear hfz16_1
  try clear hfz16_2
  try clear hfz16_3
  try clear hfz17_0
  try clear hfz17_1
  try clear hfz17_2
  try clear hfz17_3
  try clear hfz19_0
  try clear hfz19_1
  try clear hfz19_2
  try clear hfz19_3
  try clear hfz20_0
  try clear hfz20_1
  try clear hfz20_2
  try clear hfz20_3
  try clear hfz22_0
  try clear hfz22_1
  try clear hfz22_2
  try clear hfz22_3
  try clear hfz23_0
  try clear hfz23_1
  try clear hfz23_2
  try clear hfz23_3
  try clear hfz9_0
  try clear hfz9_1
  try clear hfz9_2
  try clear hfz9_3
  obtain ⟨kq, x26_2, rfl, HA, HJ2, BK452, BK453, HB⟩ := hcut
  cases kq with
  | zero => exact absurd HA.out (by simp [brokerref20_hides.j0])
  | succ kj2 =>
   have H := HA.out
   clear HA
   simp only [brokerref20_hides.j0] at H
   by_cases c24 : x26_2 = true
   ·subst c24
    have H1 : (some false) = some r := by rw [if_pos rfl] at H; exact H
    clear H
    have H := H1
    clear H1
    obtain rfl := Option.some.inj H
    go_wp2
    go_ret
    exact ⟨by first | rfl | (simp [errW_none, errW_some] <;> rfl) | (simp [*, errW_none, errW_some] <;> rfl), by repeat (first | (with_reducible first | exact HB.out | apply below_alloc | apply pw_below_drewN | apply below_drew1 | refine below_set ?_ GE452.out | refine below_set ?_ GE453.out) | exact HB.out)⟩
   ·replace c24 := Bool.eq_false_iff.mpr c24
    subst c24
    have H1 : (if a0_3.toList = a1_3.toList then (some true) else ((brokerref20_plain.f kj2 a0_3).bind fun t454 => (if t454 = true then ((brokerref20_plain.f kj2 a1_3).bind fun t455 => (if t455 = true then ((brokerref02_Covers.f kj2 a0_3 a1_3).bind fun t456 => (some t456)) else (some false))) else (some false)))) = some r := by rw [if_neg (show ¬ (false = true) by decide)] at H; exact H
    clear H
    have H := H1
    clear H1
    by_cases c25 : a0_3.toList = a1_3.toList
    ·rw [if_pos c25] at H
     have c25b0 : (a0_3.toList == a1_3.toList) = true := beq_iff_eq.mpr c25
     have c25b1 : (a0_3.toList != a1_3.toList) = false := bne_eq_false_iff_eq.mpr c25
     clear c25
     obtain rfl := Option.some.inj H
     have hnb26 := NB452_453.out
     have hnc26 := NB453_452.out
     have hcz27_0 : wc.cell? ⟨gb452, 0, none⟩ = some (.bool a0_0) := (blk_cell BK452.out 0).trans rfl
     have hcz27_1 : wc.cell? ⟨gb452, 1, none⟩ = some (.string a0_1) := (blk_cell BK452.out 1).trans rfl
     have hcz27_2 : wc.cell? ⟨gb452, 2, none⟩ = some (.int .i64 a0_2) := (blk_cell BK452.out 2).trans rfl
     have hcz27_3 : wc.cell? ⟨gb452, 3, none⟩ = some (.string a0_3) := (blk_cell BK452.out 3).trans rfl
     have hfz27_0 := blk_frozen BK452.out 0
     have hfz27_1 := blk_frozen BK452.out 1
     have hfz27_2 := blk_frozen BK452.out 2
     have hfz27_3 := blk_frozen BK452.out 3
     have hcz28_0 : wc.cell? ⟨gb453, 0, none⟩ = some (.bool a1_0) := (blk_cell BK453.out 0).trans rfl
     have hcz28_1 : wc.cell? ⟨gb453, 1, none⟩ = some (.string a1_1) := (blk_cell BK453.out 1).trans rfl
     have hcz28_2 : wc.cell? ⟨gb453, 2, none⟩ = some (.int .i64 a1_2) := (blk_cell BK453.out 2).trans rfl
     have hcz28_3 : wc.cell? ⟨gb453, 3, none⟩ = some (.string a1_3) := (blk_cell BK453.out 3).trans rfl
     have hfz28_0 := blk_frozen BK453.out 0
     have hfz28_1 := blk_frozen BK453.out 1
     have hfz28_2 := blk_frozen BK453.out 2
     have hfz28_3 := blk_frozen BK453.out 3
     go_wp2
     go_ret
     exact ⟨by first | rfl | (simp [errW_none, errW_some] <;> rfl) | (simp [*, errW_none, errW_some] <;> rfl), by repeat (first | (with_reducible first | exact HB.out | apply below_alloc | apply pw_below_drewN | apply below_drew1 | refine below_set ?_ GE452.out | refine below_set ?_ GE453.out) | exact HB.out)⟩
    ·rw [if_neg c25] at H
     have c25b0 : (a0_3.toList == a1_3.toList) = false := beq_eq_false_iff_ne.mpr c25
     have c25b1 : (a0_3.toList != a1_3.toList) = true := bne_iff_ne.mpr c25
     replace H := Option.bind_eq_some_iff.mp H
     obtain ⟨t454, A290, H⟩ := H
     replace H : (if t454 = true then ((brokerref20_plain.f kj2 a1_3).bind fun t455 => (if t455 = true then ((brokerref02_Covers.f kj2 a0_3 a1_3).bind fun t456 => (some t456)) else (some false))) else (some false)) = some r := H
     have A29 := Aside0.mk A290
     clear A290
     by_cases c30 : t454 = true
     ·subst c30
      have H1 : ((brokerref20_plain.f kj2 a1_3).bind fun t455 => (if t455 = true then ((brokerref02_Covers.f kj2 a0_3 a1_3).bind fun t456 => (some t456)) else (some false))) = some r := by rw [if_pos rfl] at H; exact H
      clear H
      have H := H1
      clear H1
      replace H := Option.bind_eq_some_iff.mp H
      obtain ⟨t455, A310, H⟩ := H
      replace H : (if t455 = true then ((brokerref02_Covers.f kj2 a0_3 a1_3).bind fun t456 => (some t456)) else (some false)) = some r := H
      have A31 := Aside0.mk A310
      clear A310
      by_cases c32 : t455 = true
      ·subst c32
       have H1 : ((brokerref02_Covers.f kj2 a0_3 a1_3).bind fun t456 => (some t456)) = some r := by rw [if_pos rfl] at H; exact H
       clear H
       have H := H1
       clear H1
       replace H := Option.bind_eq_some_iff.mp H
       obtain ⟨t456, A330, H⟩ := H
       replace H : (some t456) = some r := H
       have A33 := Aside0.mk A330
       clear A330
       obtain rfl := Option.some.inj H
       have hnb34 := NB452_453.out
       have hnc34 := NB453_452.out
       have hcz35_0 : wc.cell? ⟨gb452, 0, none⟩ = some (.bool a0_0) := (blk_cell BK452.out 0).trans rfl
       have hcz35_1 : wc.cell? ⟨gb452, 1, none⟩ = some (.string a0_1) := (blk_cell BK452.out 1).trans rfl
       have hcz35_2 : wc.cell? ⟨gb452, 2, none⟩ = some (.int .i64 a0_2) := (blk_cell BK452.out 2).trans rfl
       have hcz35_3 : wc.cell? ⟨gb452, 3, none⟩ = some (.string a0_3) := (blk_cell BK452.out 3).trans rfl
       have hfz35_0 := blk_frozen BK452.out 0
       have hfz35_1 := blk_frozen BK452.out 1
       have hfz35_2 := blk_frozen BK452.out 2
       have hfz35_3 := blk_frozen BK452.out 3
       have hcz36_0 : wc.cell? ⟨gb453, 0, none⟩ = some (.bool a1_0) := (blk_cell BK453.out 0).trans rfl
       have hcz36_1 : wc.cell? ⟨gb453, 1, none⟩ = some (.string a1_1) := (blk_cell BK453.out 1).trans rfl
       have hcz36_2 : wc.cell? ⟨gb453, 2, none⟩ = some (.int .i64 a1_2) := (blk_cell BK453.out 2).trans rfl
       have hcz36_3 : wc.cell? ⟨gb453, 3, none⟩ = some (.string a1_3) := (blk_cell BK453.out 3).trans rfl
       have hfz36_0 := blk_frozen BK453.out 0
       have hfz36_1 := blk_frozen BK453.out 1
       have hfz36_2 := blk_frozen BK453.out 2
       have hfz36_3 := blk_frozen BK453.out 3
       go_wp2_with (first | (go_at_call 67; (with_reducible refine (brokerref20_plain.calls kj2 a0_3 true _ A29.out).mono ?_); rintro e w37 ⟨rfl, hb⟩; have n0_ := Aside0.mk (blk_below (g := gb452) (o := .cells #[.bool a0_0, .string a0_1, .int .i64 a0_2, .string a0_3] 42 (0, 0)) (by (with_reducible repeat (first | refine blk_drewN ?_ _ | refine blk_drew ?_ | refine blk_alloc ?_ _)); exact BK452.out) hb); have n1_ := Aside0.mk (blk_below (g := gb453) (o := .cells #[.bool a1_0, .string a1_1, .int .i64 a1_2, .string a1_3] 42 (0, 0)) (by (with_reducible repeat (first | refine blk_drewN ?_ _ | refine blk_drew ?_ | refine blk_alloc ?_ _)); exact BK453.out) hb); have n2_ := Aside0.mk (below_step (by repeat (first | (with_reducible first | exact HB.out | apply below_alloc | apply pw_below_drewN | apply below_drew1 | refine below_set ?_ GE452.out | refine below_set ?_ GE453.out) | exact HB.out)) hb); clear BK452; clear BK453; clear HB; have BK452 := n0_; have BK453 := n1_; have HB := n2_; clear n0_ n1_ n2_; (try clear hb); (try clear hb2); (try clear hk); (try clear hi); have hcz38_0 : w37.cell? ⟨gb453, 0, none⟩ = some (.bool a1_0) := (blk_cell BK453.out 0).trans rfl; have hcz38_1 : w37.cell? ⟨gb453, 1, none⟩ = some (.string a1_1) := (blk_cell BK453.out 1).trans rfl; have hcz38_2 : w37.cell? ⟨gb453, 2, none⟩ = some (.int .i64 a1_2) := (blk_cell BK453.out 2).trans rfl; have hcz38_3 : w37.cell? ⟨gb453, 3, none⟩ = some (.string a1_3) := (blk_cell BK453.out 3).trans rfl; have hfz38_0 := blk_frozen BK453.out 0; have hfz38_1 := blk_frozen BK453.out 1; have hfz38_2 := blk_frozen BK453.out 2; have hfz38_3 := blk_frozen BK453.out 3) | (go_at_call 67; (with_reducible refine (brokerref20_plain.calls kj2 a1_3 true _ A31.out).mono ?_); rintro e w39 ⟨rfl, hb⟩; have n0_ := Aside0.mk (blk_below (g := gb452) (o := .cells #[.bool a0_0, .string a0_1, .int .i64 a0_2, .string a0_3] 42 (0, 0)) (by (with_reducible repeat (first | refine blk_drewN ?_ _ | refine blk_drew ?_ | refine blk_alloc ?_ _)); exact BK452.out) hb); have n1_ := Aside0.mk (blk_below (g := gb453) (o := .cells #[.bool a1_0, .string a1_1, .int .i64 a1_2, .string a1_3] 42 (0, 0)) (by (with_reducible repeat (first | refine blk_drewN ?_ _ | refine blk_drew ?_ | refine blk_alloc ?_ _)); exact BK453.out) hb); have n2_ := Aside0.mk (below_step (by repeat (first | (with_reducible first | exact HB.out | apply below_alloc | apply pw_below_drewN | apply below_drew1 | refine below_set ?_ GE452.out | refine below_set ?_ GE453.out) | exact HB.out)) hb); clear BK452; clear BK453; clear HB; have BK452 := n0_; have BK453 := n1_; have HB := n2_; clear n0_ n1_ n2_; (try clear hb); (try clear hb2); (try clear hk); (try clear hi); have hcz40_0 : w39.cell? ⟨gb452, 0, none⟩ = some (.bool a0_0) := (blk_cell BK452.out 0).trans rfl; have hcz40_1 : w39.cell? ⟨gb452, 1, none⟩ = some (.string a0_1) := (blk_cell BK452.out 1).trans rfl; have hcz40_2 : w39.cell? ⟨gb452, 2, none⟩ = some (.int .i64 a0_2) := (blk_cell BK452.out 2).trans rfl; have hcz40_3 : w39.cell? ⟨gb452, 3, none⟩ = some (.string a0_3) := (blk_cell BK452.out 3).trans rfl; have hfz40_0 := blk_frozen BK452.out 0; have hfz40_1 := blk_frozen BK452.out 1; have hfz40_2 := blk_frozen BK452.out 2; have hfz40_3 := blk_frozen BK452.out 3; have hcz41_0 : w39.cell? ⟨gb453, 0, none⟩ = some (.bool a1_0) := (blk_cell BK453.out 0).trans rfl; have hcz41_1 : w39.cell? ⟨gb453, 1, none⟩ = some (.string a1_1) := (blk_cell BK453.out 1).trans rfl; have hcz41_2 : w39.cell? ⟨gb453, 2, none⟩ = some (.int .i64 a1_2) := (blk_cell BK453.out 2).trans rfl; have hcz41_3 : w39.cell? ⟨gb453, 3, none⟩ = some (.string a1_3) := (blk_cell BK453.out 3).trans rfl; have hfz41_0 := blk_frozen BK453.out 0; have hfz41_1 := blk_frozen BK453.out 1; have hfz41_2 := blk_frozen BK453.out 2; have hfz41_3 := blk_frozen BK453.out 3) | (go_at_call 42; (with_reducible refine (brokerref02_Covers.calls kj2 a0_3 a1_3 t456 _ A33.out).mono ?_); rintro e w42 ⟨rfl, hb⟩; have n0_ := Aside0.mk (blk_below (g := gb452) (o := .cells #[.bool a0_0, .string a0_1, .int .i64 a0_2, .string a0_3] 42 (0, 0)) (by (with_reducible repeat (first | refine blk_drewN ?_ _ | refine blk_drew ?_ | refine blk_alloc ?_ _)); exact BK452.out) hb); have n1_ := Aside0.mk (blk_below (g := gb453) (o := .cells #[.bool a1_0, .string a1_1, .int .i64 a1_2, .string a1_3] 42 (0, 0)) (by (with_reducible repeat (first | refine blk_drewN ?_ _ | refine blk_drew ?_ | refine blk_alloc ?_ _)); exact BK453.out) hb); have n2_ := Aside0.mk (below_step (by repeat (first | (with_reducible first | exact HB.out | apply below_alloc | apply pw_below_drewN | apply below_drew1 | refine below_set ?_ GE452.out | refine below_set ?_ GE453.out) | exact HB.out)) hb); clear BK452; clear BK453; clear HB; have BK452 := n0_; have BK453 := n1_; have HB := n2_; clear n0_ n1_ n2_; (try clear hb); (try clear hb2); (try clear hk); (try clear hi)))
       go_ret
       exact ⟨by first | rfl | (simp [errW_none, errW_some] <;> rfl) | (simp [*, errW_none, errW_some] <;> rfl), by repeat (first | (with_reducible first | exact HB.out | apply below_alloc | apply pw_below_drewN | apply below_drew1 | refine below_set ?_ GE452.out | refine below_set ?_ GE453.out) | exact HB.out)⟩
      ·replace c32 := Bool.eq_false_iff.mpr c32
       subst c32
       have H1 : (some false) = some r := by rw [if_neg (show ¬ (false = true) by decide)] at H; exact H
       clear H
       have H := H1
       clear H1
       obtain rfl := Option.some.inj H
       have hnb43 := NB452_453.out
       have hnc43 := NB453_452.out
       have hcz44_0 : wc.cell? ⟨gb452, 0, none⟩ = some (.bool a0_0) := (blk_cell BK452.out 0).trans rfl
       have hcz44_1 : wc.cell? ⟨gb452, 1, none⟩ = some (.string a0_1) := (blk_cell BK452.out 1).trans rfl
       have hcz44_2 : wc.cell? ⟨gb452, 2, none⟩ = some (.int .i64 a0_2) := (blk_cell BK452.out 2).trans rfl
       have hcz44_3 : wc.cell? ⟨gb452, 3, none⟩ = some (.string a0_3) := (blk_cell BK452.out 3).trans rfl
       have hfz44_0 := blk_frozen BK452.out 0
       have hfz44_1 := blk_frozen BK452.out 1
       have hfz44_2 := blk_frozen BK452.out 2
       have hfz44_3 := blk_frozen BK452.out 3
       have hcz45_0 : wc.cell? ⟨gb453, 0, none⟩ = some (.bool a1_0) := (blk_cell BK453.out 0).trans rfl
       have hcz45_1 : wc.cell? ⟨gb453, 1, none⟩ = some (.string a1_1) := (blk_cell BK453.out 1).trans rfl
       have hcz45_2 : wc.cell? ⟨gb453, 2, none⟩ = some (.int .i64 a1_2) := (blk_cell BK453.out 2).trans rfl
       have hcz45_3 : wc.cell? ⟨gb453, 3, none⟩ = some (.string a1_3) := (blk_cell BK453.out 3).trans rfl
       have hfz45_0 := blk_frozen BK453.out 0
       have hfz45_1 := blk_frozen BK453.out 1
       have hfz45_2 := blk_frozen BK453.out 2
       have hfz45_3 := blk_frozen BK453.out 3
       go_wp2_with (first | (go_at_call 67; (with_reducible refine (brokerref20_plain.calls kj2 a0_3 true _ A29.out).mono ?_); rintro e w46 ⟨rfl, hb⟩; have n0_ := Aside0.mk (blk_below (g := gb452) (o := .cells #[.bool a0_0, .string a0_1, .int .i64 a0_2, .string a0_3] 42 (0, 0)) (by (with_reducible repeat (first | refine blk_drewN ?_ _ | refine blk_drew ?_ | refine blk_alloc ?_ _)); exact BK452.out) hb); have n1_ := Aside0.mk (blk_below (g := gb453) (o := .cells #[.bool a1_0, .string a1_1, .int .i64 a1_2, .string a1_3] 42 (0, 0)) (by (with_reducible repeat (first | refine blk_drewN ?_ _ | refine blk_drew ?_ | refine blk_alloc ?_ _)); exact BK453.out) hb); have n2_ := Aside0.mk (below_step (by repeat (first | (with_reducible first | exact HB.out | apply below_alloc | apply pw_below_drewN | apply below_drew1 | refine below_set ?_ GE452.out | refine below_set ?_ GE453.out) | exact HB.out)) hb); clear BK452; clear BK453; clear HB; have BK452 := n0_; have BK453 := n1_; have HB := n2_; clear n0_ n1_ n2_; (try clear hb); (try clear hb2); (try clear hk); (try clear hi); have hcz47_0 : w46.cell? ⟨gb453, 0, none⟩ = some (.bool a1_0) := (blk_cell BK453.out 0).trans rfl; have hcz47_1 : w46.cell? ⟨gb453, 1, none⟩ = some (.string a1_1) := (blk_cell BK453.out 1).trans rfl; have hcz47_2 : w46.cell? ⟨gb453, 2, none⟩ = some (.int .i64 a1_2) := (blk_cell BK453.out 2).trans rfl; have hcz47_3 : w46.cell? ⟨gb453, 3, none⟩ = some (.string a1_3) := (blk_cell BK453.out 3).trans rfl; have hfz47_0 := blk_frozen BK453.out 0; have hfz47_1 := blk_frozen BK453.out 1; have hfz47_2 := blk_frozen BK453.out 2; have hfz47_3 := blk_frozen BK453.out 3) | (go_at_call 67; (with_reducible refine (brokerref20_plain.calls kj2 a1_3 false _ A31.out).mono ?_); rintro e w48 ⟨rfl, hb⟩; have n0_ := Aside0.mk (blk_below (g := gb452) (o := .cells #[.bool a0_0, .string a0_1, .int .i64 a0_2, .string a0_3] 42 (0, 0)) (by (with_reducible repeat (first | refine blk_drewN ?_ _ | refine blk_drew ?_ | refine blk_alloc ?_ _)); exact BK452.out) hb); have n1_ := Aside0.mk (blk_below (g := gb453) (o := .cells #[.bool a1_0, .string a1_1, .int .i64 a1_2, .string a1_3] 42 (0, 0)) (by (with_reducible repeat (first | refine blk_drewN ?_ _ | refine blk_drew ?_ | refine blk_alloc ?_ _)); exact BK453.out) hb); have n2_ := Aside0.mk (below_step (by repeat (first | (with_reducible first | exact HB.out | apply below_alloc | apply pw_below_drewN | apply below_drew1 | refine below_set ?_ GE452.out | refine below_set ?_ GE453.out) | exact HB.out)) hb); clear BK452; clear BK453; clear HB; have BK452 := n0_; have BK453 := n1_; have HB := n2_; clear n0_ n1_ n2_; (try clear hb); (try clear hb2); (try clear hk); (try clear hi)))
       go_ret
       exact ⟨by first | rfl | (simp [errW_none, errW_some] <;> rfl) | (simp [*, errW_none, errW_some] <;> rfl), by repeat (first | (with_reducible first | exact HB.out | apply below_alloc | apply pw_below_drewN | apply below_drew1 | refine below_set ?_ GE452.out | refine below_set ?_ GE453.out) | exact HB.out)⟩
     ·replace c30 := Bool.eq_false_iff.mpr c30
      subst c30
      have H1 : (some false) = some r := by rw [if_neg (show ¬ (false = true) by decide)] at H; exact H
      clear H
      have H := H1
      clear H1
      obtain rfl := Option.some.inj H
      have hnb49 := NB452_453.out
      have hnc49 := NB453_452.out
      have hcz50_0 : wc.cell? ⟨gb452, 0, none⟩ = some (.bool a0_0) := (blk_cell BK452.out 0).trans rfl
      have hcz50_1 : wc.cell? ⟨gb452, 1, none⟩ = some (.string a0_1) := (blk_cell BK452.out 1).trans rfl
      have hcz50_2 : wc.cell? ⟨gb452, 2, none⟩ = some (.int .i64 a0_2) := (blk_cell BK452.out 2).trans rfl
      have hcz50_3 : wc.cell? ⟨gb452, 3, none⟩ = some (.string a0_3) := (blk_cell BK452.out 3).trans rfl
      have hfz50_0 := blk_frozen BK452.out 0
      have hfz50_1 := blk_frozen BK452.out 1
      have hfz50_2 := blk_frozen BK452.out 2
      have hfz50_3 := blk_frozen BK452.out 3
      have hcz51_0 : wc.cell? ⟨gb453, 0, none⟩ = some (.bool a1_0) := (blk_cell BK453.out 0).trans rfl
      have hcz51_1 : wc.cell? ⟨gb453, 1, none⟩ = some (.string a1_1) := (blk_cell BK453.out 1).trans rfl
      have hcz51_2 : wc.cell? ⟨gb453, 2, none⟩ = some (.int .i64 a1_2) := (blk_cell BK453.out 2).trans rfl
      have hcz51_3 : wc.cell? ⟨gb453, 3, none⟩ = some (.string a1_3) := (blk_cell BK453.out 3).trans rfl
      have hfz51_0 := blk_frozen BK453.out 0
      have hfz51_1 := blk_frozen BK453.out 1
      have hfz51_2 := blk_frozen BK453.out 2
      have hfz51_3 := blk_frozen BK453.out 3
      go_wp2_with (first | (go_at_call 67; (with_reducible refine (brokerref20_plain.calls kj2 a0_3 false _ A29.out).mono ?_); rintro e w52 ⟨rfl, hb⟩; have n0_ := Aside0.mk (blk_below (g := gb452) (o := .cells #[.bool a0_0, .string a0_1, .int .i64 a0_2, .string a0_3] 42 (0, 0)) (by (with_reducible repeat (first | refine blk_drewN ?_ _ | refine blk_drew ?_ | refine blk_alloc ?_ _)); exact BK452.out) hb); have n1_ := Aside0.mk (blk_below (g := gb453) (o := .cells #[.bool a1_0, .string a1_1, .int .i64 a1_2, .string a1_3] 42 (0, 0)) (by (with_reducible repeat (first | refine blk_drewN ?_ _ | refine blk_drew ?_ | refine blk_alloc ?_ _)); exact BK453.out) hb); have n2_ := Aside0.mk (below_step (by repeat (first | (with_reducible first | exact HB.out | apply below_alloc | apply pw_below_drewN | apply below_drew1 | refine below_set ?_ GE452.out | refine below_set ?_ GE453.out) | exact HB.out)) hb); clear BK452; clear BK453; clear HB; have BK452 := n0_; have BK453 := n1_; have HB := n2_; clear n0_ n1_ n2_; (try clear hb); (try clear hb2); (try clear hk); (try clear hi)))
      go_ret
      exact ⟨by first | rfl | (simp [errW_none, errW_some] <;> rfl) | (simp [*, errW_none, errW_some] <;> rfl), by repeat (first | (with_reducible first | exact HB.out | apply below_alloc | apply pw_below_drewN | apply below_drew1 | refine below_set ?_ GE452.out | refine below_set ?_ GE453.out) | exact HB.out)⟩

end Go.Proofs.YtgdamingkgafhaaDoor.P
