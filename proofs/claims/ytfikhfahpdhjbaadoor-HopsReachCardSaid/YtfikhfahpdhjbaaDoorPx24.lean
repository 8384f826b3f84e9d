/- Printed by a program of this session (wip/tools) over the translation: Go functions as plain Lean functions, and their contracts. -/
import Derived.Test.YtfikhfahpdhjbaaDoorPx0
import Derived.Test.YtfikhfahpdhjbaaDoorPx21
namespace Go.Proofs.YtfikhfahpdhjbaaDoor.P
open Go.RowKit Go.Proofs.YtfikhfahpdhjbaaDoorW.PrintWords Go.Proofs.YtfikhfahpdhjbaaDoorW.PrintLast Go.Proofs.YtfikhfahpdhjbaaDoorW.PrintMore
attribute [local go_sem] max2_int min2_int max_two min_two max_three min_three max_four min_four str_gtr str_leq str_geq   -- for this text's walks alone
set_option linter.unusedVariables false
set_option linter.unusedSimpArgs false

/-! ### brokerlaw46_joined: function 26 -/
mutual
def brokerlaw46_joined.l0 : Nat → List (S48) → Int → List Bool → Int → Option (List Bool)
 | 0, _, _, _, _ => none
 | k + 1, x0, x1, x7, x8 => if x8 < x1 then (brokerlaw46_joined.l1 k x0 x1 x7 x8 0) else (some x7)
def brokerlaw46_joined.l1 : Nat → List (S48) → Int → List Bool → Int → Int → Option (List Bool)
 | 0, _, _, _, _, _ => none
 | k + 1, x0, x1, x7, x8, x9 => if x9 < (x0.length : Int) then (if 0 ≤ x9 then ((brokerref46_Counts.f ((rd_T48 x0 x9).f0) ((rd_T48 x0 x9).f1) x1).bind fun t496 => (if t496 = true then (if 0 ≤ ((rd_T48 x0 x9).f0) then (if ((rd_T48 x0 x9).f0) < (x7.length : Int) then (if rdOf false x7 ((rd_T48 x0 x9).f0) = true then (if 0 ≤ ((rd_T48 x0 x9).f1) then (if ((rd_T48 x0 x9).f1) < (x7.length : Int) then (brokerlaw46_joined.l1 k x0 x1 ((x7.set (((rd_T48 x0 x9).f0) : Int).toNat true).set (((rd_T48 x0 x9).f1) : Int).toNat true) x8 (wrap64 (x9 + 1))) else (none)) else (none)) else (if 0 ≤ ((rd_T48 x0 x9).f1) then (if ((rd_T48 x0 x9).f1) < (x7.length : Int) then (if rdOf false x7 ((rd_T48 x0 x9).f1) = true then (brokerlaw46_joined.l1 k x0 x1 ((x7.set (((rd_T48 x0 x9).f0) : Int).toNat true).set (((rd_T48 x0 x9).f1) : Int).toNat true) x8 (wrap64 (x9 + 1))) else (brokerlaw46_joined.l1 k x0 x1 x7 x8 (wrap64 (x9 + 1)))) else (none)) else (none))) else (none)) else (none)) else (brokerlaw46_joined.l1 k x0 x1 x7 x8 (wrap64 (x9 + 1))))) else (none)) else (brokerlaw46_joined.l0 k x0 x1 x7 (wrap64 (x8 + 1)))
end
def brokerlaw46_joined.f (k : Nat) (l0 : List (S48)) (a1 : Int) (a2 : Int) : Option (List Bool) := if 0 ≤ a1 then (if (a1 : Int).toNat ≤ 281474976710656 then ((some (List.replicate (a1 : Int).toNat false : List Bool)).bind fun y491 => (if 0 ≤ a2 then (if a2 < (y491.length : Int) then (brokerlaw46_joined.l0 k l0 a1 (y491.set (a2 : Int).toNat true) 0) else (none)) else (none))) else (none)) else (none)
theorem brokerlaw46_joined.mono_l : ∀ k, (∀ y0 y1 y2 y3, LeO (brokerlaw46_joined.l0 k y0 y1 y2 y3) (brokerlaw46_joined.l0 (k + 1) y0 y1 y2 y3)) ∧ (∀ y0 y1 y2 y3 y4, LeO (brokerlaw46_joined.l1 k y0 y1 y2 y3 y4) (brokerlaw46_joined.l1 (k + 1) y0 y1 y2 y3 y4))
 | 0 => ⟨fun _ _ _ _ r h => by simp [brokerlaw46_joined.l0] at h, fun _ _ _ _ _ r h => by simp [brokerlaw46_joined.l1] at h⟩
 | k + 1 => by
  obtain ⟨ih0, ih1⟩ := brokerlaw46_joined.mono_l k
  refine ⟨?_, ?_⟩
  ·intro y0 y1 y2 y3
   unfold brokerlaw46_joined.l0
   repeat' first
   | (with_reducible exact ih0 _ _ _ _)
   | (with_reducible exact ih1 _ _ _ _ _)
   | (with_reducible exact LeO.refl _)
   | (with_reducible exact LeO.none _)
   | (with_reducible refine LeO.ite ?_ ?_)
   | (with_reducible refine LeO.bind ?_ (fun _ => ?_))
   | exact ih0 _ _ _ _
   | exact ih1 _ _ _ _ _
   | exact LeO.none _
   | refine LeO.ite ?_ ?_
   | refine LeO.bind ?_ (fun _ => ?_)
  ·intro y0 y1 y2 y3 y4
   unfold brokerlaw46_joined.l1
   repeat' first
   | (with_reducible exact ih0 _ _ _ _)
   | (with_reducible exact ih1 _ _ _ _ _)
   | (with_reducible exact LeO.refl _)
   | (with_reducible exact LeO.none _)
   | (with_reducible refine LeO.ite ?_ ?_)
   | (with_reducible refine LeO.bind ?_ (fun _ => ?_))
   | exact ih0 _ _ _ _
   | exact ih1 _ _ _ _ _
   | exact LeO.none _
   | refine LeO.ite ?_ ?_
   | refine LeO.bind ?_ (fun _ => ?_)
theorem brokerlaw46_joined.mono : ∀ a0 a1 a2 k, LeO (brokerlaw46_joined.f k a0 a1 a2) (brokerlaw46_joined.f (k + 1) a0 a1 a2) := by
 intro a0 a1 a2 k
 obtain ⟨ih0, ih1⟩ := brokerlaw46_joined.mono_l k
 unfold brokerlaw46_joined.f
 repeat' first
   | (with_reducible exact ih0 _ _ _ _)
   | (with_reducible exact ih1 _ _ _ _ _)
   | (with_reducible exact LeO.refl _)
   | (with_reducible exact LeO.none _)
   | (with_reducible refine LeO.ite ?_ ?_)
   | (with_reducible refine LeO.bind ?_ (fun _ => ?_))
   | exact ih0 _ _ _ _
   | exact ih1 _ _ _ _ _
   | exact LeO.none _
   | refine LeO.ite ?_ ?_
   | refine LeO.bind ?_ (fun _ => ?_)
set_option maxHeartbeats 8000000 in
set_option maxRecDepth 100000 in
theorem brokerlaw46_joined.calls (k : Nat) (A0 : Option Addr) (c0 : Nat) (l0 : List (S48)) (a1 : Int) (a2 : Int) (r : List Bool) (w : World) (hr0 : Kd.C k48 w A0 l0.length l0) (hc0 : l0.length ≤ c0) (h : brokerlaw46_joined.f k l0 a1 a2 = some r) :
  Calls Tryd.prog 26 #[.slice A0 l0.length c0, .int .i64 a1, .int .i64 a2] w fun e w' => ∃ v0_ : Value, e = .returned (v0_) ∧ Kd.R Kd.bool 4 w' w.heap.size (fun _ => True) v0_ r ∧ Below w.heap.size w w' := by
 have hu48 := Tryd.underlying48
 have HR0 := Aside0.mk hr0
 have HC0 := Aside0.mk hc0
 clear hr0 hc0
 have HB := Aside0.mk (Below.refl w.heap.size w)
 have H : (if 0 ≤ a1 then (if (a1 : Int).toNat ≤ 281474976710656 then ((some (List.replicate (a1 : Int).toNat false : List Bool)).bind fun y491 => (if 0 ≤ a2 then (if a2 < (y491.length : Int) then (brokerlaw46_joined.l0 k l0 a1 (y491.set (a2 : Int).toNat true) 0) else (none)) else (none))) else (none)) else (none)) = some r := h
 clear h
 by_cases c4 : 0 ≤ a1
 ·rw [if_pos c4] at H
  have c4b0 := eq_true c4
  have c4b1 : decide (0 ≤ a1) = true := decide_eq_true c4
  clear c4
  by_cases c5 : (a1 : Int).toNat ≤ 281474976710656
  ·rw [if_pos c5] at H
   have c5b0 := eq_true c5
   have c5b1 : decide ((a1 : Int).toNat ≤ 281474976710656) = true := decide_eq_true c5
   clear c5
   obtain ⟨y491, hy491⟩ : ∃ y_ : List Bool, y_ = (List.replicate (a1 : Int).toNat false) := ⟨_, rfl⟩
   replace H : (if 0 ≤ a2 then (if a2 < (y491.length : Int) then (brokerlaw46_joined.l0 k l0 a1 (y491.set (a2 : Int).toNat true) 0) else (none)) else (none)) = some r := by first | (rw [hy491]; with_reducible exact H) | (have H2_ := (Option.bind_some _ _).symm.trans H; rw [hy491]; with_reducible exact H2_) | (have H2_ := (Option.bind_some _ _).symm.trans H; with_reducible exact H2_) | with_reducible exact H | (rw [hy491]; exact H) | exact H
   have Ny491 := Aside0.mk hy491
   clear hy491
   by_cases c6 : 0 ≤ a2
   ·rw [if_pos c6] at H
    have c6b0 : decide (0 ≤ a2) = true := decide_eq_true c6
    clear c6
    by_cases c7 : a2 < (y491.length : Int)
    ·rw [if_pos c7] at H
     have c7b0 : decide (a2 < (y491.length : Int)) = true := decide_eq_true c7
     clear c7
     obtain ⟨y494, hy494⟩ : ∃ y_ : List Bool, y_ = (y491.set (a2 : Int).toNat true) := ⟨_, rfl⟩
     replace H : (brokerlaw46_joined.l0 k l0 a1 y494 0) = some r := by first | (rw [hy494]; with_reducible exact H) | (have H2_ := (Option.bind_some _ _).symm.trans H; rw [hy494]; with_reducible exact H2_) | (have H2_ := (Option.bind_some _ _).symm.trans H; with_reducible exact H2_) | with_reducible exact H | (rw [hy494]; exact H) | exact H
     have Ny494 := Aside0.mk hy494
     clear hy494
     have H' := Aside0.mk H
     clear H
     go_enter Tryd.func26, Tryd.ntmps26
     go_wp2_with (first | ((with_reducible refine gate_dst (N := 11) rfl ?_); refine Kd.R_make Kd.bool _ 4 rfl (N := 11) rfl 45 _ _ rfl a1 rfl rfl Tryd.underlying45 (.bool false) 1 info4 rfl (by decide) (by omega) false (ok := fun _ => True) (okp := fun _ => True) rfl (fun _ hk => hk) trivial (of_decide_eq_true (by first | (with_reducible assumption) | assumption)) (Nat.le_trans (Nat.mul_le_mul_right _ (of_decide_eq_true (by first | (with_reducible assumption) | assumption) : a1.toNat ≤ 281474976710656)) (by omega)) (Below.refl _ _) (Nat.le_refl _) ?_; intro v492 w9 ho10 hb hg_ hnew_; clear hg_ hnew_; (first | rw [← Ny491.out] at ho10 | (simp only [Int.reduceToNat] at ho10; rw [← Ny491.out] at ho10)); have n0_ := Aside0.mk (Kd.R_lower ho10 (below_size (by repeat (first | (with_reducible first | exact HB.out | apply below_alloc | apply pw_below_drewN | apply below_drew1) | exact HB.out)))); have n1_ := Aside0.mk (below_step (by repeat (first | (with_reducible first | exact HB.out | apply below_alloc | apply pw_below_drewN | apply below_drew1) | exact HB.out)) hb); clear HB; have HO493 := n0_; have HB := n1_; clear n0_ n1_; clear hb ho10; have p8 : 0 ≤ (a2 : Int) := of_decide_eq_true (by first | (with_reducible assumption) | assumption); have q8 : (a2 : Int) < ((y491.length : Int) : Int) := of_decide_eq_true (by first | (with_reducible assumption) | assumption); obtain ⟨go8, co8, eo8, gb8, gl8, cl8, HG8⟩ := Kd.R_form HO493.out (by omega); (first | cases eo8 | (injection eo8 with ea_ en_ ec_; (first | subst ea_ | (injection ea_ with ea_; subst ea_)); subst ec_; clear en_)); have GB8 := Aside0.mk gb8; have GG8 := Aside0.mk HG8; clear gb8 gl8 HG8; obtain ⟨hx8_0, hf8_0⟩ := Kd.R_celln false HO493.out (a2 : Int) p8 q8; replace p8 := eq_true p8; replace q8 := eq_true q8; obtain ⟨hy11_, hz11_⟩ := Kd.R_celln false HO493.out (a2 : Int) (of_decide_eq_true (by first | (with_reducible assumption) | assumption)) (of_decide_eq_true (by first | (with_reducible assumption) | assumption)); have HP11 := Kd.R_putg HO493.out (a2 : Int) true) | ((with_reducible refine gate_store (t := 4) (p := 14) rfl ?_); refine store_event (t := 4) (p := 14) (v := ?vo_w12) (w1 := (w9.setCell ⟨go8, (a2 : Int).toNat, none⟩ (.bool true))) ?hg ?ho ?hn ?hr ?_; (case ho => rfl); (case hg => rfl); (case hn => rfl); (case hr => first | (go_simp; done) | (go_simp; rfl)); intro w12 hw; have hg : w9.grownBy w12 (some go8) := (by rw [hw]; exact HP11.2); have hp_ : Kd.R Kd.bool 4 w12 w.heap.size (fun _ => True) (.slice (some ⟨go8, 0, none⟩) y491.length co8) y494 := (by rw [hw, Ny494.out]; exact HP11.1); clear HP11; have n0_ := Aside0.mk (hp_); have n1_ := Aside0.mk ((by rw [hw]; exact below_set (HB.out) GB8.out : Below w.heap.size w w12)); clear HO493; clear HB; have HO493 := n0_; have HB := n1_; clear n0_ n1_; clear hg hw hp_))
     go_loopg [8] k (fun kq v8 w' => ∃ (x7_1 : List Bool) (x8_1 : Int), v8 = .int .i64 x8_1 ∧ Aside0 (brokerlaw46_joined.l0 kq l0 a1 x7_1 x8_1 = some r) ∧ Aside0 (kq ≤ k) ∧ Aside0 (Kd.R Kd.bool 4 w' w.heap.size (fun _ => True) (.slice (some ⟨go8, 0, none⟩) y491.length co8) x7_1) ∧ Aside0 (Below w.heap.size w w'))
     case atStart => exact ⟨(y494), (0), (by first | rfl | (simp; done) | (simp [*]; done)), H', ⟨Nat.le_refl _⟩, ⟨by (with_reducible repeat (first | apply Kd.R_alloc | apply Kd.R_drewN | apply Kd.R_drew)); exact HO493.out⟩, ⟨by repeat (first | (with_reducible first | exact HB.out | apply below_alloc | apply pw_below_drewN | apply below_drew1) | exact HB.out)⟩⟩
     case round =>
      clear H'
      try clear c2
      try clear p2
      try clear c4
      try clear c4b0
      try clear c4b1
      try clear c5
      try clear c5b0
      try clear c5b1
      try clear c6
      try clear c6b0
      try clear c7
      try clear c7b0
      try clear p8
      try clear q8
      try clear hx8
      try clear hf8
      try clear hx8_0
      try clear p8
      try clear q8
      obtain ⟨x7_1, x8_1, rfl, HA, HK1, HO_7, HB⟩ := hrel
      have hl7_1 := (Kd.R_reads' HO_7.out).1
      rw [hl7_1] at HO_7
      (try simp only [hl7_1])
      cases gk with
      | zero => exact absurd HA.out (by simp [brokerlaw46_joined.l0])
      | succ k1 =>
       have H := HA.out
       clear HA
       simp only [brokerlaw46_joined.l0] at H
       by_cases c13 : x8_1 < a1
       ·rw [if_pos c13] at H
        have c13b0 : decide (x8_1 < a1) = true := decide_eq_true c13
        clear c13
        have H' := Aside0.mk H
        clear H
        go_wp2
        go_loopg [9] k1 (fun kq v9 w' => ∃ (x7_2 : List Bool) (x9_2 : Int), v9 = .int .i64 x9_2 ∧ Aside0 (brokerlaw46_joined.l1 kq l0 a1 x7_2 x8_1 x9_2 = some r) ∧ Aside0 (kq ≤ k1) ∧ Aside0 (Kd.R Kd.bool 4 w' w.heap.size (fun _ => True) (.slice (some ⟨go8, 0, none⟩) x7_1.length co8) x7_2) ∧ Aside0 (Below w.heap.size w w'))
        case atStart => exact ⟨(x7_1), (0), (by first | rfl | (simp; done) | (simp [*]; done)), H', ⟨Nat.le_refl _⟩, ⟨by (try simp only [hl7_1]); (with_reducible repeat (first | apply Kd.R_alloc | apply Kd.R_drewN | apply Kd.R_drew)); exact HO_7.out⟩, ⟨by repeat (first | (with_reducible first | exact HB.out | apply below_alloc | apply pw_below_drewN | apply below_drew1) | exact HB.out)⟩⟩
        case round =>
         clear H'
         try clear c1
         try clear c2
         try clear p2
         try clear c4
         try clear c4b0
         try clear c4b1
         try clear c5
         try clear c5b0
         try clear c5b1
         try clear c6
         try clear c6b0
         try clear c7
         try clear c7b0
         try clear p8
         try clear q8
         try clear hx8
         try clear hf8
         try clear c13
         try clear c13b0
         try clear hx8_0
         try clear p2
         try clear p8
         try clear q8
         obtain ⟨x7_2, x9_2, rfl, HA, HK2, HO_7, HB⟩ := hrel
         have hl7_2 := (Kd.R_reads' HO_7.out).1
         rw [hl7_2] at HO_7
         (try simp only [hl7_2])
         cases gk with
         | zero => exact absurd HA.out (by simp [brokerlaw46_joined.l1])
         | succ k2 =>
          have H := HA.out
          clear HA
          simp only [brokerlaw46_joined.l1] at H
          by_cases c14 : x9_2 < (l0.length : Int)
          ·rw [if_pos c14] at H
           have c14b0 : decide (x9_2 < (l0.length : Int)) = true := decide_eq_true c14
           clear c14
           by_cases c15 : 0 ≤ x9_2
           ·rw [if_pos c15] at H
            have c15b0 : decide (0 ≤ x9_2) = true := decide_eq_true c15
            clear c15
            replace H := Option.bind_eq_some_iff.mp H
            obtain ⟨t496, A160, H⟩ := H
            replace H : (if t496 = true then (if 0 ≤ ((rd_T48 l0 x9_2).f0) then (if ((rd_T48 l0 x9_2).f0) < (x7_2.length : Int) then (if rdOf false x7_2 ((rd_T48 l0 x9_2).f0) = true then (if 0 ≤ ((rd_T48 l0 x9_2).f1) then (if ((rd_T48 l0 x9_2).f1) < (x7_2.length : Int) then (brokerlaw46_joined.l1 k2 l0 a1 ((x7_2.set (((rd_T48 l0 x9_2).f0) : Int).toNat true).set (((rd_T48 l0 x9_2).f1) : Int).toNat true) x8_1 (wrap64 (x9_2 + 1))) else (none)) else (none)) else (if 0 ≤ ((rd_T48 l0 x9_2).f1) then (if ((rd_T48 l0 x9_2).f1) < (x7_2.length : Int) then (if rdOf false x7_2 ((rd_T48 l0 x9_2).f1) = true then (brokerlaw46_joined.l1 k2 l0 a1 ((x7_2.set (((rd_T48 l0 x9_2).f0) : Int).toNat true).set (((rd_T48 l0 x9_2).f1) : Int).toNat true) x8_1 (wrap64 (x9_2 + 1))) else (brokerlaw46_joined.l1 k2 l0 a1 x7_2 x8_1 (wrap64 (x9_2 + 1)))) else (none)) else (none))) else (none)) else (none)) else (brokerlaw46_joined.l1 k2 l0 a1 x7_2 x8_1 (wrap64 (x9_2 + 1)))) = some r := H
            have A16 := Aside0.mk A160
            clear A160
            by_cases c17 : t496 = true
            ·subst c17
             have H1 : (if 0 ≤ ((rd_T48 l0 x9_2).f0) then (if ((rd_T48 l0 x9_2).f0) < (x7_2.length : Int) then (if rdOf false x7_2 ((rd_T48 l0 x9_2).f0) = true then (if 0 ≤ ((rd_T48 l0 x9_2).f1) then (if ((rd_T48 l0 x9_2).f1) < (x7_2.length : Int) then (brokerlaw46_joined.l1 k2 l0 a1 ((x7_2.set (((rd_T48 l0 x9_2).f0) : Int).toNat true).set (((rd_T48 l0 x9_2).f1) : Int).toNat true) x8_1 (wrap64 (x9_2 + 1))) else (none)) else (none)) else (if 0 ≤ ((rd_T48 l0 x9_2).f1) then (if ((rd_T48 l0 x9_2).f1) < (x7_2.length : Int) then (if rdOf false x7_2 ((rd_T48 l0 x9_2).f1) = true then (brokerlaw46_joined.l1 k2 l0 a1 ((x7_2.set (((rd_T48 l0 x9_2).f0) : Int).toNat true).set (((rd_T48 l0 x9_2).f1) : Int).toNat true) x8_1 (wrap64 (x9_2 + 1))) else (brokerlaw46_joined.l1 k2 l0 a1 x7_2 x8_1 (wrap64 (x9_2 + 1)))) else (none)) else (none))) else (none)) else (none)) = some r := by rw [if_pos rfl] at H; exact H
             clear H
             have H := H1
             clear H1
             by_cases c18 : 0 ≤ ((rd_T48 l0 x9_2).f0)
             ·rw [if_pos c18] at H
              have c18b0 : decide (0 ≤ ((rd_T48 l0 x9_2).f0)) = true := decide_eq_true c18
              clear c18
              by_cases c19 : ((rd_T48 l0 x9_2).f0) < (x7_2.length : Int)
              ·rw [if_pos c19] at H
               have c19b0 : decide (((rd_T48 l0 x9_2).f0) < (x7_2.length : Int)) = true := decide_eq_true c19
               clear c19
               obtain ⟨bq20, hbq20⟩ : ∃ b_ : Bool, b_ = (rdOf false x7_2 ((rd_T48 l0 x9_2).f0)) := ⟨_, rfl⟩
               replace H : (if bq20 = true then (if 0 ≤ ((rd_T48 l0 x9_2).f1) then (if ((rd_T48 l0 x9_2).f1) < (x7_2.length : Int) then (brokerlaw46_joined.l1 k2 l0 a1 ((x7_2.set (((rd_T48 l0 x9_2).f0) : Int).toNat true).set (((rd_T48 l0 x9_2).f1) : Int).toNat true) x8_1 (wrap64 (x9_2 + 1))) else (none)) else (none)) else (if 0 ≤ ((rd_T48 l0 x9_2).f1) then (if ((rd_T48 l0 x9_2).f1) < (x7_2.length : Int) then (if rdOf false x7_2 ((rd_T48 l0 x9_2).f1) = true then (brokerlaw46_joined.l1 k2 l0 a1 ((x7_2.set (((rd_T48 l0 x9_2).f0) : Int).toNat true).set (((rd_T48 l0 x9_2).f1) : Int).toNat true) x8_1 (wrap64 (x9_2 + 1))) else (brokerlaw46_joined.l1 k2 l0 a1 x7_2 x8_1 (wrap64 (x9_2 + 1)))) else (none)) else (none))) = some r := by rw [← hbq20] at H; exact H
               have Nbq20 := Aside0.mk hbq20
               clear hbq20
               by_cases c21 : bq20 = true
               ·subst c21
                have H1 : (if 0 ≤ ((rd_T48 l0 x9_2).f1) then (if ((rd_T48 l0 x9_2).f1) < (x7_2.length : Int) then (brokerlaw46_joined.l1 k2 l0 a1 ((x7_2.set (((rd_T48 l0 x9_2).f0) : Int).toNat true).set (((rd_T48 l0 x9_2).f1) : Int).toNat true) x8_1 (wrap64 (x9_2 + 1))) else (none)) else (none)) = some r := by rw [if_pos rfl] at H; exact H
                clear H
                have H := H1
                clear H1
                obtain ⟨y500, hy500⟩ : ∃ y_ : List Bool, y_ = (x7_2.set (((rd_T48 l0 x9_2).f0) : Int).toNat true) := ⟨_, rfl⟩
                replace H : (if 0 ≤ ((rd_T48 l0 x9_2).f1) then (if ((rd_T48 l0 x9_2).f1) < (x7_2.length : Int) then (brokerlaw46_joined.l1 k2 l0 a1 (y500.set (((rd_T48 l0 x9_2).f1) : Int).toNat true) x8_1 (wrap64 (x9_2 + 1))) else (none)) else (none)) = some r := by first | (rw [hy500]; with_reducible exact H) | (have H2_ := (Option.bind_some _ _).symm.trans H; rw [hy500]; with_reducible exact H2_) | (have H2_ := (Option.bind_some _ _).symm.trans H; with_reducible exact H2_) | with_reducible exact H | (rw [hy500]; exact H) | exact H
                have Ny500 := Aside0.mk hy500
                clear hy500
                by_cases c23 : 0 ≤ ((rd_T48 l0 x9_2).f1)
                ·rw [if_pos c23] at H
                 have c23b0 : decide (0 ≤ ((rd_T48 l0 x9_2).f1)) = true := decide_eq_true c23
                 clear c23
                 by_cases c24 : ((rd_T48 l0 x9_2).f1) < (x7_2.length : Int)
                 ·rw [if_pos c24] at H
                  have c24b0 : decide (((rd_T48 l0 x9_2).f1) < (x7_2.length : Int)) = true := decide_eq_true c24
                  clear c24
                  obtain ⟨y502, hy502⟩ : ∃ y_ : List Bool, y_ = (y500.set (((rd_T48 l0 x9_2).f1) : Int).toNat true) := ⟨_, rfl⟩
                  replace H : (brokerlaw46_joined.l1 k2 l0 a1 y502 x8_1 (wrap64 (x9_2 + 1))) = some r := by first | (rw [hy502]; with_reducible exact H) | (have H2_ := (Option.bind_some _ _).symm.trans H; rw [hy502]; with_reducible exact H2_) | (have H2_ := (Option.bind_some _ _).symm.trans H; with_reducible exact H2_) | with_reducible exact H | (rw [hy502]; exact H) | exact H
                  have Ny502 := Aside0.mk hy502
                  clear hy502
                  have H' := Aside0.mk H
                  clear H
                  have p495 : 0 ≤ (x9_2 : Int) := of_decide_eq_true (by first | (with_reducible assumption) | assumption)
                  have q495 : x9_2 < (l0.length : Int) := of_decide_eq_true (by first | (with_reducible assumption) | assumption)
                  obtain ⟨ad495, e495, hx495_0, hx495_1⟩ := at_T48 HR0.out x9_2 p495 q495
                  cases e495
                  replace hx495_0 := (HB.out.cell (World.block_lt_of_cell? w _ hx495_0)).trans hx495_0
                  replace hx495_1 := (HB.out.cell (World.block_lt_of_cell? w _ hx495_1)).trans hx495_1
                  replace p495 := eq_true p495
                  replace q495 := eq_true q495
                  go_wp2_with (first | ((with_reducible refine gate_callee (f := 27) rfl ?_); refine goesL_ (some 31) rfl rfl Tryd.func27 (by kernel_rfl) rfl #[.agg #[.int .i64 ((rd_T48 l0 x9_2).f0), .int .i64 ((rd_T48 l0 x9_2).f1)], .int .i64 a1] rfl (by (try simp only [List.map_toArray, List.map_cons, List.map_nil]); first | done | rfl | (simp only [List.length_drop, List.length_take]; rfl)) ?_; (with_reducible refine (brokerref46_Counts.calls ((rd_T48 l0 x9_2).f0) ((rd_T48 l0 x9_2).f1) a1 true _ A16.out).mono ?_); rintro e w26 ⟨rfl, hb⟩; refine ⟨_, rfl, ?_⟩; have n0_ := Aside0.mk (Kd.R_below (by (with_reducible repeat (first | apply Kd.R_alloc | apply Kd.R_drewN | apply Kd.R_drew)); exact HO_7.out) hb); have n1_ := Aside0.mk (below_step (by repeat (first | (with_reducible first | exact HB.out | apply below_alloc | apply pw_below_drewN | apply below_drew1) | exact HB.out)) hb); clear HO_7; clear HB; have HO_7 := n0_; have HB := n1_; clear n0_ n1_; (try clear hb); (try clear hb2); (try clear hk); (try clear hi); have p497 : 0 ≤ (x9_2 : Int) := of_decide_eq_true (by first | (with_reducible assumption) | assumption); have q497 : x9_2 < (l0.length : Int) := of_decide_eq_true (by first | (with_reducible assumption) | assumption); obtain ⟨ad497, e497, hx497_0, hx497_1⟩ := at_T48 HR0.out x9_2 p497 q497; obtain rfl : ad495 = ad497 := (by injection e497); replace hx497_0 := (HB.out.cell (World.block_lt_of_cell? w _ hx497_0)).trans hx497_0; replace hx497_1 := (HB.out.cell (World.block_lt_of_cell? w _ hx497_1)).trans hx497_1; replace p497 := eq_true p497; replace q497 := eq_true q497; have p498 : 0 ≤ (((rd_T48 l0 x9_2).f0) : Int) := of_decide_eq_true (by first | (with_reducible assumption) | assumption); have q498 : ((rd_T48 l0 x9_2).f0) < (x7_2.length : Int) := of_decide_eq_true (by first | (with_reducible assumption) | assumption); obtain ⟨ad498, e498, hx498_0⟩ := Kd.at_bool (Kd.R_reads' HO_7.out).2.2 ((rd_T48 l0 x9_2).f0) p498 q498; (try rw [← Nbq20.out] at hx498_0); obtain rfl : (⟨go8, 0, none⟩ : Addr) = ad498 := (by injection e498); (first | simp only [add_plain] at hx498_0 | simp only [add_at] at hx498_0 | simp only [Addr.add, Nat.zero_add] at hx498_0 | skip); replace p498 := eq_true p498; replace q498 := eq_true q498; have p499 : 0 ≤ (x9_2 : Int) := of_decide_eq_true (by first | (with_reducible assumption) | assumption); have q499 : x9_2 < (l0.length : Int) := of_decide_eq_true (by first | (with_reducible assumption) | assumption); obtain ⟨ad499, e499, hx499_0, hx499_1⟩ := at_T48 HR0.out x9_2 p499 q499; obtain rfl : ad495 = ad499 := (by injection e499); replace hx499_0 := (HB.out.cell (World.block_lt_of_cell? w _ hx499_0)).trans hx499_0; replace hx499_1 := (HB.out.cell (World.block_lt_of_cell? w _ hx499_1)).trans hx499_1; replace p499 := eq_true p499; replace q499 := eq_true q499; have p22 : 0 ≤ (((rd_T48 l0 x9_2).f0) : Int) := of_decide_eq_true (by first | (with_reducible assumption) | assumption); have q22 : (((rd_T48 l0 x9_2).f0) : Int) < ((x7_2.length : Int) : Int) := of_decide_eq_true (by first | (with_reducible assumption) | assumption); obtain ⟨hx22_0, hf22_0⟩ := Kd.R_celln false HO_7.out (((rd_T48 l0 x9_2).f0) : Int) p22 q22; replace p22 := eq_true p22; replace q22 := eq_true q22; obtain ⟨hy27_, hz27_⟩ := Kd.R_celln false HO_7.out (((rd_T48 l0 x9_2).f0) : Int) (of_decide_eq_true (by first | (with_reducible assumption) | assumption)) (of_decide_eq_true (by first | (with_reducible assumption) | assumption)); have HP27 := Kd.R_putg HO_7.out (((rd_T48 l0 x9_2).f0) : Int) true) | ((with_reducible refine gate_store (t := 4) (p := 58) rfl ?_); refine store_event (t := 4) (p := 58) (v := ?vo_w28) (w1 := (w26.setCell ⟨go8, (((rd_T48 l0 x9_2).f0) : Int).toNat, none⟩ (.bool true))) ?hg ?ho ?hn ?hr ?_; (case ho => rfl); (case hg => rfl); (case hn => rfl); (case hr => first | (go_simp; done) | (go_simp; rfl)); intro w28 hw; have hg : w26.grownBy w28 (some go8) := (by rw [hw]; exact HP27.2); have hp_ : Kd.R Kd.bool 4 w28 w.heap.size (fun _ => True) (.slice (some ⟨go8, 0, none⟩) x7_2.length co8) y500 := (by rw [hw, Ny500.out]; exact HP27.1); clear HP27; have n0_ := Aside0.mk (hp_); have n1_ := Aside0.mk ((by rw [hw]; exact below_set (HB.out) GB8.out : Below w.heap.size w w28)); clear HO_7; clear HB; have HO_7 := n0_; have HB := n1_; clear n0_ n1_; clear hg hw hp_; have p501 : 0 ≤ (x9_2 : Int) := of_decide_eq_true (by first | (with_reducible assumption) | assumption); have q501 : x9_2 < (l0.length : Int) := of_decide_eq_true (by first | (with_reducible assumption) | assumption); obtain ⟨ad501, e501, hx501_0, hx501_1⟩ := at_T48 HR0.out x9_2 p501 q501; obtain rfl : ad495 = ad501 := (by injection e501); replace hx501_0 := (HB.out.cell (World.block_lt_of_cell? w _ hx501_0)).trans hx501_0; replace hx501_1 := (HB.out.cell (World.block_lt_of_cell? w _ hx501_1)).trans hx501_1; replace p501 := eq_true p501; replace q501 := eq_true q501; have p25 : 0 ≤ (((rd_T48 l0 x9_2).f1) : Int) := of_decide_eq_true (by first | (with_reducible assumption) | assumption); have q25 : (((rd_T48 l0 x9_2).f1) : Int) < ((x7_2.length : Int) : Int) := of_decide_eq_true (by first | (with_reducible assumption) | assumption); obtain ⟨hx25_0, hf25_0⟩ := Kd.R_celln false HO_7.out (((rd_T48 l0 x9_2).f1) : Int) p25 q25; replace p25 := eq_true p25; replace q25 := eq_true q25; obtain ⟨hy29_, hz29_⟩ := Kd.R_celln false HO_7.out (((rd_T48 l0 x9_2).f1) : Int) (of_decide_eq_true (by first | (with_reducible assumption) | assumption)) (of_decide_eq_true (by first | (with_reducible assumption) | assumption)); have HP29 := Kd.R_putg HO_7.out (((rd_T48 l0 x9_2).f1) : Int) true) | ((with_reducible refine gate_store (t := 4) (p := 65) rfl ?_); refine store_event (t := 4) (p := 65) (v := ?vo_w30) (w1 := (w28.setCell ⟨go8, (((rd_T48 l0 x9_2).f1) : Int).toNat, none⟩ (.bool true))) ?hg ?ho ?hn ?hr ?_; (case ho => rfl); (case hg => rfl); (case hn => rfl); (case hr => first | (go_simp; done) | (go_simp; rfl)); intro w30 hw; have hg : w28.grownBy w30 (some go8) := (by rw [hw]; exact HP29.2); have hp_ : Kd.R Kd.bool 4 w30 w.heap.size (fun _ => True) (.slice (some ⟨go8, 0, none⟩) x7_2.length co8) y502 := (by rw [hw, Ny502.out]; exact HP29.1); clear HP29; have n0_ := Aside0.mk (hp_); have n1_ := Aside0.mk ((by rw [hw]; exact below_set (HB.out) GB8.out : Below w.heap.size w w30)); clear HO_7; clear HB; have HO_7 := n0_; have HB := n1_; clear n0_ n1_; clear hg hw hp_))
                  (try simp only [← hl7_2])
                  go_roundg k2
                  case measure => have := HK1.out; have := HK2.out; omega
                  case rel => exact ⟨(y502), (wrap64 (x9_2 + 1)), (by first | rfl | (simp; done) | (simp [*]; done)), H', ⟨by have := HK1.out; have := HK2.out; omega⟩, ⟨by (try simp only [hl7_1]); (try simp only [hl7_2]); (with_reducible repeat (first | apply Kd.R_alloc | apply Kd.R_drewN | apply Kd.R_drew)); exact HO_7.out⟩, ⟨by repeat (first | (with_reducible first | exact HB.out | apply below_alloc | apply pw_below_drewN | apply below_drew1) | exact HB.out)⟩⟩
                 ·rw [if_neg c24] at H
                  exact absurd H (by simp)
                ·rw [if_neg c23] at H
                 exact absurd H (by simp)
               ·replace c21 := Bool.eq_false_iff.mpr c21
                subst c21
                have H1 : (if 0 ≤ ((rd_T48 l0 x9_2).f1) then (if ((rd_T48 l0 x9_2).f1) < (x7_2.length : Int) then (if rdOf false x7_2 ((rd_T48 l0 x9_2).f1) = true then (brokerlaw46_joined.l1 k2 l0 a1 ((x7_2.set (((rd_T48 l0 x9_2).f0) : Int).toNat true).set (((rd_T48 l0 x9_2).f1) : Int).toNat true) x8_1 (wrap64 (x9_2 + 1))) else (brokerlaw46_joined.l1 k2 l0 a1 x7_2 x8_1 (wrap64 (x9_2 + 1)))) else (none)) else (none)) = some r := by rw [if_neg (show ¬ (false = true) by decide)] at H; exact H
                clear H
                have H := H1
                clear H1
                by_cases c31 : 0 ≤ ((rd_T48 l0 x9_2).f1)
                ·rw [if_pos c31] at H
                 have c31b0 : decide (0 ≤ ((rd_T48 l0 x9_2).f1)) = true := decide_eq_true c31
                 clear c31
                 by_cases c32 : ((rd_T48 l0 x9_2).f1) < (x7_2.length : Int)
                 ·rw [if_pos c32] at H
                  have c32b0 : decide (((rd_T48 l0 x9_2).f1) < (x7_2.length : Int)) = true := decide_eq_true c32
                  clear c32
                  obtain ⟨bq33, hbq33⟩ : ∃ b_ : Bool, b_ = (rdOf false x7_2 ((rd_T48 l0 x9_2).f1)) := ⟨_, rfl⟩
                  replace H : (if bq33 = true then (brokerlaw46_joined.l1 k2 l0 a1 ((x7_2.set (((rd_T48 l0 x9_2).f0) : Int).toNat true).set (((rd_T48 l0 x9_2).f1) : Int).toNat true) x8_1 (wrap64 (x9_2 + 1))) else (brokerlaw46_joined.l1 k2 l0 a1 x7_2 x8_1 (wrap64 (x9_2 + 1)))) = some r := by rw [← hbq33] at H; exact H
                  have Nbq33 := Aside0.mk hbq33
                  clear hbq33
                  by_cases c34 : bq33 = true
                  ·subst c34
                   have H1 : (brokerlaw46_joined.l1 k2 l0 a1 ((x7_2.set (((rd_T48 l0 x9_2).f0) : Int).toNat true).set (((rd_T48 l0 x9_2).f1) : Int).toNat true) x8_1 (wrap64 (x9_2 + 1))) = some r := by rw [if_pos rfl] at H; exact H
                   clear H
                   have H := H1
                   clear H1
                   obtain ⟨y506, hy506⟩ : ∃ y_ : List Bool, y_ = (x7_2.set (((rd_T48 l0 x9_2).f0) : Int).toNat true) := ⟨_, rfl⟩
                   replace H : (brokerlaw46_joined.l1 k2 l0 a1 (y506.set (((rd_T48 l0 x9_2).f1) : Int).toNat true) x8_1 (wrap64 (x9_2 + 1))) = some r := by first | (rw [hy506]; with_reducible exact H) | (have H2_ := (Option.bind_some _ _).symm.trans H; rw [hy506]; with_reducible exact H2_) | (have H2_ := (Option.bind_some _ _).symm.trans H; with_reducible exact H2_) | with_reducible exact H | (rw [hy506]; exact H) | exact H
                   have Ny506 := Aside0.mk hy506
                   clear hy506
                   obtain ⟨y508, hy508⟩ : ∃ y_ : List Bool, y_ = (y506.set (((rd_T48 l0 x9_2).f1) : Int).toNat true) := ⟨_, rfl⟩
                   replace H : (brokerlaw46_joined.l1 k2 l0 a1 y508 x8_1 (wrap64 (x9_2 + 1))) = some r := by first | (rw [hy508]; with_reducible exact H) | (have H2_ := (Option.bind_some _ _).symm.trans H; rw [hy508]; with_reducible exact H2_) | (have H2_ := (Option.bind_some _ _).symm.trans H; with_reducible exact H2_) | with_reducible exact H | (rw [hy508]; exact H) | exact H
                   have Ny508 := Aside0.mk hy508
                   clear hy508
                   have H' := Aside0.mk H
                   clear H
                   have p495 : 0 ≤ (x9_2 : Int) := of_decide_eq_true (by first | (with_reducible assumption) | assumption)
                   have q495 : x9_2 < (l0.length : Int) := of_decide_eq_true (by first | (with_reducible assumption) | assumption)
                   obtain ⟨ad495, e495, hx495_0, hx495_1⟩ := at_T48 HR0.out x9_2 p495 q495
                   cases e495
                   replace hx495_0 := (HB.out.cell (World.block_lt_of_cell? w _ hx495_0)).trans hx495_0
                   replace hx495_1 := (HB.out.cell (World.block_lt_of_cell? w _ hx495_1)).trans hx495_1
                   replace p495 := eq_true p495
                   replace q495 := eq_true q495
                   go_wp2_with (first | ((with_reducible refine gate_callee (f := 27) rfl ?_); refine goesL_ (some 31) rfl rfl Tryd.func27 (by kernel_rfl) rfl #[.agg #[.int .i64 ((rd_T48 l0 x9_2).f0), .int .i64 ((rd_T48 l0 x9_2).f1)], .int .i64 a1] rfl (by (try simp only [List.map_toArray, List.map_cons, List.map_nil]); first | done | rfl | (simp only [List.length_drop, List.length_take]; rfl)) ?_; (with_reducible refine (brokerref46_Counts.calls ((rd_T48 l0 x9_2).f0) ((rd_T48 l0 x9_2).f1) a1 true _ A16.out).mono ?_); rintro e w37 ⟨rfl, hb⟩; refine ⟨_, rfl, ?_⟩; have n0_ := Aside0.mk (Kd.R_below (by (with_reducible repeat (first | apply Kd.R_alloc | apply Kd.R_drewN | apply Kd.R_drew)); exact HO_7.out) hb); have n1_ := Aside0.mk (below_step (by repeat (first | (with_reducible first | exact HB.out | apply below_alloc | apply pw_below_drewN | apply below_drew1) | exact HB.out)) hb); clear HO_7; clear HB; have HO_7 := n0_; have HB := n1_; clear n0_ n1_; (try clear hb); (try clear hb2); (try clear hk); (try clear hi); have p497 : 0 ≤ (x9_2 : Int) := of_decide_eq_true (by first | (with_reducible assumption) | assumption); have q497 : x9_2 < (l0.length : Int) := of_decide_eq_true (by first | (with_reducible assumption) | assumption); obtain ⟨ad497, e497, hx497_0, hx497_1⟩ := at_T48 HR0.out x9_2 p497 q497; obtain rfl : ad495 = ad497 := (by injection e497); replace hx497_0 := (HB.out.cell (World.block_lt_of_cell? w _ hx497_0)).trans hx497_0; replace hx497_1 := (HB.out.cell (World.block_lt_of_cell? w _ hx497_1)).trans hx497_1; replace p497 := eq_true p497; replace q497 := eq_true q497; have p498 : 0 ≤ (((rd_T48 l0 x9_2).f0) : Int) := of_decide_eq_true (by first | (with_reducible assumption) | assumption); have q498 : ((rd_T48 l0 x9_2).f0) < (x7_2.length : Int) := of_decide_eq_true (by first | (with_reducible assumption) | assumption); obtain ⟨ad498, e498, hx498_0⟩ := Kd.at_bool (Kd.R_reads' HO_7.out).2.2 ((rd_T48 l0 x9_2).f0) p498 q498; (try rw [← Nbq20.out] at hx498_0); (try rw [← Nbq33.out] at hx498_0); obtain rfl : (⟨go8, 0, none⟩ : Addr) = ad498 := (by injection e498); (first | simp only [add_plain] at hx498_0 | simp only [add_at] at hx498_0 | simp only [Addr.add, Nat.zero_add] at hx498_0 | skip); replace p498 := eq_true p498; replace q498 := eq_true q498; have p503 : 0 ≤ (x9_2 : Int) := of_decide_eq_true (by first | (with_reducible assumption) | assumption); have q503 : x9_2 < (l0.length : Int) := of_decide_eq_true (by first | (with_reducible assumption) | assumption); obtain ⟨ad503, e503, hx503_0, hx503_1⟩ := at_T48 HR0.out x9_2 p503 q503; obtain rfl : ad495 = ad503 := (by injection e503); replace hx503_0 := (HB.out.cell (World.block_lt_of_cell? w _ hx503_0)).trans hx503_0; replace hx503_1 := (HB.out.cell (World.block_lt_of_cell? w _ hx503_1)).trans hx503_1; replace p503 := eq_true p503; replace q503 := eq_true q503; have p504 : 0 ≤ (((rd_T48 l0 x9_2).f1) : Int) := of_decide_eq_true (by first | (with_reducible assumption) | assumption); have q504 : ((rd_T48 l0 x9_2).f1) < (x7_2.length : Int) := of_decide_eq_true (by first | (with_reducible assumption) | assumption); obtain ⟨ad504, e504, hx504_0⟩ := Kd.at_bool (Kd.R_reads' HO_7.out).2.2 ((rd_T48 l0 x9_2).f1) p504 q504; (try rw [← Nbq20.out] at hx504_0); (try rw [← Nbq33.out] at hx504_0); obtain rfl : (⟨go8, 0, none⟩ : Addr) = ad504 := (by injection e504); (first | simp only [add_plain] at hx504_0 | simp only [add_at] at hx504_0 | simp only [Addr.add, Nat.zero_add] at hx504_0 | skip); replace p504 := eq_true p504; replace q504 := eq_true q504; have p505 : 0 ≤ (x9_2 : Int) := of_decide_eq_true (by first | (with_reducible assumption) | assumption); have q505 : x9_2 < (l0.length : Int) := of_decide_eq_true (by first | (with_reducible assumption) | assumption); obtain ⟨ad505, e505, hx505_0, hx505_1⟩ := at_T48 HR0.out x9_2 p505 q505; obtain rfl : ad495 = ad505 := (by injection e505); replace hx505_0 := (HB.out.cell (World.block_lt_of_cell? w _ hx505_0)).trans hx505_0; replace hx505_1 := (HB.out.cell (World.block_lt_of_cell? w _ hx505_1)).trans hx505_1; replace p505 := eq_true p505; replace q505 := eq_true q505; have p35 : 0 ≤ (((rd_T48 l0 x9_2).f0) : Int) := of_decide_eq_true (by first | (with_reducible assumption) | assumption); have q35 : (((rd_T48 l0 x9_2).f0) : Int) < ((x7_2.length : Int) : Int) := of_decide_eq_true (by first | (with_reducible assumption) | assumption); obtain ⟨hx35_0, hf35_0⟩ := Kd.R_celln false HO_7.out (((rd_T48 l0 x9_2).f0) : Int) p35 q35; replace p35 := eq_true p35; replace q35 := eq_true q35; obtain ⟨hy38_, hz38_⟩ := Kd.R_celln false HO_7.out (((rd_T48 l0 x9_2).f0) : Int) (of_decide_eq_true (by first | (with_reducible assumption) | assumption)) (of_decide_eq_true (by first | (with_reducible assumption) | assumption)); have HP38 := Kd.R_putg HO_7.out (((rd_T48 l0 x9_2).f0) : Int) true) | ((with_reducible refine gate_store (t := 4) (p := 58) rfl ?_); refine store_event (t := 4) (p := 58) (v := ?vo_w39) (w1 := (w37.setCell ⟨go8, (((rd_T48 l0 x9_2).f0) : Int).toNat, none⟩ (.bool true))) ?hg ?ho ?hn ?hr ?_; (case ho => rfl); (case hg => rfl); (case hn => rfl); (case hr => first | (go_simp; done) | (go_simp; rfl)); intro w39 hw; have hg : w37.grownBy w39 (some go8) := (by rw [hw]; exact HP38.2); have hp_ : Kd.R Kd.bool 4 w39 w.heap.size (fun _ => True) (.slice (some ⟨go8, 0, none⟩) x7_2.length co8) y506 := (by rw [hw, Ny506.out]; exact HP38.1); clear HP38; have n0_ := Aside0.mk (hp_); have n1_ := Aside0.mk ((by rw [hw]; exact below_set (HB.out) GB8.out : Below w.heap.size w w39)); clear HO_7; clear HB; have HO_7 := n0_; have HB := n1_; clear n0_ n1_; clear hg hw hp_; have p507 : 0 ≤ (x9_2 : Int) := of_decide_eq_true (by first | (with_reducible assumption) | assumption); have q507 : x9_2 < (l0.length : Int) := of_decide_eq_true (by first | (with_reducible assumption) | assumption); obtain ⟨ad507, e507, hx507_0, hx507_1⟩ := at_T48 HR0.out x9_2 p507 q507; obtain rfl : ad495 = ad507 := (by injection e507); replace hx507_0 := (HB.out.cell (World.block_lt_of_cell? w _ hx507_0)).trans hx507_0; replace hx507_1 := (HB.out.cell (World.block_lt_of_cell? w _ hx507_1)).trans hx507_1; replace p507 := eq_true p507; replace q507 := eq_true q507; have p36 : 0 ≤ (((rd_T48 l0 x9_2).f1) : Int) := of_decide_eq_true (by first | (with_reducible assumption) | assumption); have q36 : (((rd_T48 l0 x9_2).f1) : Int) < ((x7_2.length : Int) : Int) := of_decide_eq_true (by first | (with_reducible assumption) | assumption); obtain ⟨hx36_0, hf36_0⟩ := Kd.R_celln false HO_7.out (((rd_T48 l0 x9_2).f1) : Int) p36 q36; replace p36 := eq_true p36; replace q36 := eq_true q36; obtain ⟨hy40_, hz40_⟩ := Kd.R_celln false HO_7.out (((rd_T48 l0 x9_2).f1) : Int) (of_decide_eq_true (by first | (with_reducible assumption) | assumption)) (of_decide_eq_true (by first | (with_reducible assumption) | assumption)); have HP40 := Kd.R_putg HO_7.out (((rd_T48 l0 x9_2).f1) : Int) true) | ((with_reducible refine gate_store (t := 4) (p := 65) rfl ?_); refine store_event (t := 4) (p := 65) (v := ?vo_w41) (w1 := (w39.setCell ⟨go8, (((rd_T48 l0 x9_2).f1) : Int).toNat, none⟩ (.bool true))) ?hg ?ho ?hn ?hr ?_; (case ho => rfl); (case hg => rfl); (case hn => rfl); (case hr => first | (go_simp; done) | (go_simp; rfl)); intro w41 hw; have hg : w39.grownBy w41 (some go8) := (by rw [hw]; exact HP40.2); have hp_ : Kd.R Kd.bool 4 w41 w.heap.size (fun _ => True) (.slice (some ⟨go8, 0, none⟩) x7_2.length co8) y508 := (by rw [hw, Ny508.out]; exact HP40.1); clear HP40; have n0_ := Aside0.mk (hp_); have n1_ := Aside0.mk ((by rw [hw]; exact below_set (HB.out) GB8.out : Below w.heap.size w w41)); clear HO_7; clear HB; have HO_7 := n0_; have HB := n1_; clear n0_ n1_; clear hg hw hp_))
                   (try simp only [← hl7_2])
                   go_roundg k2
                   case measure => have := HK1.out; have := HK2.out; omega
                   case rel => exact ⟨(y508), (wrap64 (x9_2 + 1)), (by first | rfl | (simp; done) | (simp [*]; done)), H', ⟨by have := HK1.out; have := HK2.out; omega⟩, ⟨by (try simp only [hl7_1]); (try simp only [hl7_2]); (with_reducible repeat (first | apply Kd.R_alloc | apply Kd.R_drewN | apply Kd.R_drew)); exact HO_7.out⟩, ⟨by repeat (first | (with_reducible first | exact HB.out | apply below_alloc | apply pw_below_drewN | apply below_drew1) | exact HB.out)⟩⟩
                  ·replace c34 := Bool.eq_false_iff.mpr c34
                   subst c34
                   have H1 : (brokerlaw46_joined.l1 k2 l0 a1 x7_2 x8_1 (wrap64 (x9_2 + 1))) = some r := by rw [if_neg (show ¬ (false = true) by decide)] at H; exact H
                   clear H
                   have H := H1
                   clear H1
                   have H' := Aside0.mk H
                   clear H
                   have p495 : 0 ≤ (x9_2 : Int) := of_decide_eq_true (by first | (with_reducible assumption) | assumption)
                   have q495 : x9_2 < (l0.length : Int) := of_decide_eq_true (by first | (with_reducible assumption) | assumption)
                   obtain ⟨ad495, e495, hx495_0, hx495_1⟩ := at_T48 HR0.out x9_2 p495 q495
                   cases e495
                   replace hx495_0 := (HB.out.cell (World.block_lt_of_cell? w _ hx495_0)).trans hx495_0
                   replace hx495_1 := (HB.out.cell (World.block_lt_of_cell? w _ hx495_1)).trans hx495_1
                   replace p495 := eq_true p495
                   replace q495 := eq_true q495
                   go_wp2_with (first | ((with_reducible refine gate_callee (f := 27) rfl ?_); refine goesL_ (some 31) rfl rfl Tryd.func27 (by kernel_rfl) rfl #[.agg #[.int .i64 ((rd_T48 l0 x9_2).f0), .int .i64 ((rd_T48 l0 x9_2).f1)], .int .i64 a1] rfl (by (try simp only [List.map_toArray, List.map_cons, List.map_nil]); first | done | rfl | (simp only [List.length_drop, List.length_take]; rfl)) ?_; (with_reducible refine (brokerref46_Counts.calls ((rd_T48 l0 x9_2).f0) ((rd_T48 l0 x9_2).f1) a1 true _ A16.out).mono ?_); rintro e w42 ⟨rfl, hb⟩; refine ⟨_, rfl, ?_⟩; have n0_ := Aside0.mk (Kd.R_below (by (with_reducible repeat (first | apply Kd.R_alloc | apply Kd.R_drewN | apply Kd.R_drew)); exact HO_7.out) hb); have n1_ := Aside0.mk (below_step (by repeat (first | (with_reducible first | exact HB.out | apply below_alloc | apply pw_below_drewN | apply below_drew1) | exact HB.out)) hb); clear HO_7; clear HB; have HO_7 := n0_; have HB := n1_; clear n0_ n1_; (try clear hb); (try clear hb2); (try clear hk); (try clear hi); have p497 : 0 ≤ (x9_2 : Int) := of_decide_eq_true (by first | (with_reducible assumption) | assumption); have q497 : x9_2 < (l0.length : Int) := of_decide_eq_true (by first | (with_reducible assumption) | assumption); obtain ⟨ad497, e497, hx497_0, hx497_1⟩ := at_T48 HR0.out x9_2 p497 q497; obtain rfl : ad495 = ad497 := (by injection e497); replace hx497_0 := (HB.out.cell (World.block_lt_of_cell? w _ hx497_0)).trans hx497_0; replace hx497_1 := (HB.out.cell (World.block_lt_of_cell? w _ hx497_1)).trans hx497_1; replace p497 := eq_true p497; replace q497 := eq_true q497; have p498 : 0 ≤ (((rd_T48 l0 x9_2).f0) : Int) := of_decide_eq_true (by first | (with_reducible assumption) | assumption); have q498 : ((rd_T48 l0 x9_2).f0) < (x7_2.length : Int) := of_decide_eq_true (by first | (with_reducible assumption) | assumption); obtain ⟨ad498, e498, hx498_0⟩ := Kd.at_bool (Kd.R_reads' HO_7.out).2.2 ((rd_T48 l0 x9_2).f0) p498 q498; (try rw [← Nbq20.out] at hx498_0); (try rw [← Nbq33.out] at hx498_0); obtain rfl : (⟨go8, 0, none⟩ : Addr) = ad498 := (by injection e498); (first | simp only [add_plain] at hx498_0 | simp only [add_at] at hx498_0 | simp only [Addr.add, Nat.zero_add] at hx498_0 | skip); replace p498 := eq_true p498; replace q498 := eq_true q498; have p503 : 0 ≤ (x9_2 : Int) := of_decide_eq_true (by first | (with_reducible assumption) | assumption); have q503 : x9_2 < (l0.length : Int) := of_decide_eq_true (by first | (with_reducible assumption) | assumption); obtain ⟨ad503, e503, hx503_0, hx503_1⟩ := at_T48 HR0.out x9_2 p503 q503; obtain rfl : ad495 = ad503 := (by injection e503); replace hx503_0 := (HB.out.cell (World.block_lt_of_cell? w _ hx503_0)).trans hx503_0; replace hx503_1 := (HB.out.cell (World.block_lt_of_cell? w _ hx503_1)).trans hx503_1; replace p503 := eq_true p503; replace q503 := eq_true q503; have p504 : 0 ≤ (((rd_T48 l0 x9_2).f1) : Int) := of_decide_eq_true (by first | (with_reducible assumption) | assumption); have q504 : ((rd_T48 l0 x9_2).f1) < (x7_2.length : Int) := of_decide_eq_true (by first | (with_reducible assumption) | assumption); obtain ⟨ad504, e504, hx504_0⟩ := Kd.at_bool (Kd.R_reads' HO_7.out).2.2 ((rd_T48 l0 x9_2).f1) p504 q504; (try rw [← Nbq20.out] at hx504_0); (try rw [← Nbq33.out] at hx504_0); obtain rfl : (⟨go8, 0, none⟩ : Addr) = ad504 := (by injection e504); (first | simp only [add_plain] at hx504_0 | simp only [add_at] at hx504_0 | simp only [Addr.add, Nat.zero_add] at hx504_0 | skip); replace p504 := eq_true p504; replace q504 := eq_true q504))
                   (try simp only [← hl7_2])
                   go_roundg k2
                   case measure => have := HK1.out; have := HK2.out; omega
                   case rel => exact ⟨(x7_2), (wrap64 (x9_2 + 1)), (by first | rfl | (simp; done) | (simp [*]; done)), H', ⟨by have := HK1.out; have := HK2.out; omega⟩, ⟨by (try simp only [hl7_1]); (try simp only [hl7_2]); (with_reducible repeat (first | apply Kd.R_alloc | apply Kd.R_drewN | apply Kd.R_drew)); exact HO_7.out⟩, ⟨by repeat (first | (with_reducible first | exact HB.out | apply below_alloc | apply pw_below_drewN | apply below_drew1) | exact HB.out)⟩⟩
                 ·rw [if_neg c32] at H
                  exact absurd H (by simp)
                ·rw [if_neg c31] at H
                 exact absurd H (by simp)
              ·rw [if_neg c19] at H
               exact absurd H (by simp)
             ·rw [if_neg c18] at H
              exact absurd H (by simp)
            ·replace c17 := Bool.eq_false_iff.mpr c17
             subst c17
             have H1 : (brokerlaw46_joined.l1 k2 l0 a1 x7_2 x8_1 (wrap64 (x9_2 + 1))) = some r := by rw [if_neg (show ¬ (false = true) by decide)] at H; exact H
             clear H
             have H := H1
             clear H1
             have H' := Aside0.mk H
             clear H
             have p495 : 0 ≤ (x9_2 : Int) := of_decide_eq_true (by first | (with_reducible assumption) | assumption)
             have q495 : x9_2 < (l0.length : Int) := of_decide_eq_true (by first | (with_reducible assumption) | assumption)
             obtain ⟨ad495, e495, hx495_0, hx495_1⟩ := at_T48 HR0.out x9_2 p495 q495
             cases e495
             replace hx495_0 := (HB.out.cell (World.block_lt_of_cell? w _ hx495_0)).trans hx495_0
             replace hx495_1 := (HB.out.cell (World.block_lt_of_cell? w _ hx495_1)).trans hx495_1
             replace p495 := eq_true p495
             replace q495 := eq_true q495
             go_wp2_with (first | ((with_reducible refine gate_callee (f := 27) rfl ?_); refine goesL_ (some 31) rfl rfl Tryd.func27 (by kernel_rfl) rfl #[.agg #[.int .i64 ((rd_T48 l0 x9_2).f0), .int .i64 ((rd_T48 l0 x9_2).f1)], .int .i64 a1] rfl (by (try simp only [List.map_toArray, List.map_cons, List.map_nil]); first | done | rfl | (simp only [List.length_drop, List.length_take]; rfl)) ?_; (with_reducible refine (brokerref46_Counts.calls ((rd_T48 l0 x9_2).f0) ((rd_T48 l0 x9_2).f1) a1 false _ A16.out).mono ?_); rintro e w43 ⟨rfl, hb⟩; refine ⟨_, rfl, ?_⟩; have n0_ := Aside0.mk (Kd.R_below (by (with_reducible repeat (first | apply Kd.R_alloc | apply Kd.R_drewN | apply Kd.R_drew)); exact HO_7.out) hb); have n1_ := Aside0.mk (below_step (by repeat (first | (with_reducible first | exact HB.out | apply below_alloc | apply pw_below_drewN | apply below_drew1) | exact HB.out)) hb); clear HO_7; clear HB; have HO_7 := n0_; have HB := n1_; clear n0_ n1_; (try clear hb); (try clear hb2); (try clear hk); (try clear hi)))
             (try simp only [← hl7_2])
             go_roundg k2
             case measure => have := HK1.out; have := HK2.out; omega
             case rel => exact ⟨(x7_2), (wrap64 (x9_2 + 1)), (by first | rfl | (simp; done) | (simp [*]; done)), H', ⟨by have := HK1.out; have := HK2.out; omega⟩, ⟨by (try simp only [hl7_1]); (try simp only [hl7_2]); (with_reducible repeat (first | apply Kd.R_alloc | apply Kd.R_drewN | apply Kd.R_drew)); exact HO_7.out⟩, ⟨by repeat (first | (with_reducible first | exact HB.out | apply below_alloc | apply pw_below_drewN | apply below_drew1) | exact HB.out)⟩⟩
           ·rw [if_neg c15] at H
            exact absurd H (by simp)
          ·rw [if_neg c14] at H
           have c14b0 : decide (x9_2 < (l0.length : Int)) = false := decide_eq_false c14
           clear c14
           have H' := Aside0.mk H
           clear H
           go_wp2
           (try simp only [← hl7_1, ← hl7_2])
           go_roundg k2
           case measure => have := HK1.out; have := HK2.out; omega
           case rel => exact ⟨(x7_2), (wrap64 (x8_1 + 1)), (by first | rfl | (simp; done) | (simp [*]; done)), H', ⟨by have := HK1.out; have := HK2.out; omega⟩, ⟨by (try simp only [hl7_1]); (try simp only [hl7_2]); (with_reducible repeat (first | apply Kd.R_alloc | apply Kd.R_drewN | apply Kd.R_drew)); exact HO_7.out⟩, ⟨by repeat (first | (with_reducible first | exact HB.out | apply below_alloc | apply pw_below_drewN | apply below_drew1) | exact HB.out)⟩⟩
       ·rw [if_neg c13] at H
        have c13b0 : decide (x8_1 < a1) = false := decide_eq_false c13
        clear c13
        obtain rfl := Option.some.inj H
        go_wp2
        go_ret
        exact ⟨_, by first | rfl | (simp [errW_none, errW_some] <;> rfl) | (simp [*, errW_none, errW_some] <;> rfl), by (with_reducible repeat (first | apply Kd.R_alloc | apply Kd.R_drewN | apply Kd.R_drew)); exact HO_7.out, by repeat (first | (with_reducible first | exact HB.out | apply below_alloc | apply pw_below_drewN | apply below_drew1) | exact HB.out)⟩
    ·rw [if_neg c7] at H
     exact absurd H (by simp)
   ·rw [if_neg c6] at H
    exact absurd H (by simp)
  ·rw [if_neg c5] at H
   exact absurd H (by simp)
 ·rw [if_neg c4] at H
  exact absurd H (by simp)

end Go.Proofs.YtfikhfahpdhjbaaDoor.P
