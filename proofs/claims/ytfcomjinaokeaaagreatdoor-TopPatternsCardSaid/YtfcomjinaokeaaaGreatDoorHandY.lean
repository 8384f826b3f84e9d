/- exchange.Route at the law's arguments; walked by hand. -/
import Derived.Test.YtfcomjinaokeaaaGreatDoorHandW
namespace Go.Proofs.YtfcomjinaokeaaaGreatDoor.P
open Go.RowKit Go.Proofs.YtfcomjinaokeaaaGreatDoorW.PrintWords Go.Proofs.YtfcomjinaokeaaaGreatDoorW.PrintLast Go.Proofs.YtfcomjinaokeaaaGreatDoorW.PrintMore
set_option linter.unusedVariables false

theorem props_none (w : World) : Calls Tryz.prog 30 #[.slice none 0 0] w fun e w' => e = .returned (.int .i64 0) ∧ w' = w := by
  go_enter Tryz.func30, Tryz.ntmps30
  go_wp2
  refine wp_loop_rounds 1 ?_
  rw [rounds_succ]
  go_wp2
  go_ret
  exact ⟨rfl, rfl⟩

theorem out_true {v : Value} {w : World} (h : OutQ true v w) : ∃ b o c, v = .slice (some ⟨b, o, none⟩) 1 c ∧ b < w.heap.size ∧ w.cell? ⟨b, o, none⟩ = some (.string qS) := by
  rcases h with ⟨h, _⟩ | ⟨_, h⟩
  · cases h
  · exact h
theorem out_false {v : Value} {w : World} (h : OutQ false v w) : v = .slice none 0 0 := by
  rcases h with ⟨_, h⟩ | ⟨h, _⟩
  · exact h
  · cases h
theorem give5 {W0 w' : World} {g h o : Nat} {v u x y z : Value} (c0 : W0.cell? ⟨g, 0, none⟩ = some v) (c1 : W0.cell? ⟨g, 1, none⟩ = some u) (c2 : W0.cell? ⟨h, o, none⟩ = some x) (c3 : W0.cell? ⟨h, o + 1, none⟩ = some y) (c4 : W0.cell? ⟨h, o + 2, none⟩ = some z) (hg : g < W0.heap.size) (hh : h < W0.heap.size) (b : Below W0.heap.size W0 w') : w'.cell? ⟨g, 0, none⟩ = some v ∧ w'.cell? ⟨g, 1, none⟩ = some u ∧ w'.cell? ⟨h, o, none⟩ = some x ∧ w'.cell? ⟨h, o + 1, none⟩ = some y ∧ w'.cell? ⟨h, o + 2, none⟩ = some z ∧ Below W0.heap.size W0 w' :=
  ⟨(b.cell (p := ⟨g, 0, none⟩) hg).trans c0, (b.cell (p := ⟨g, 1, none⟩) hg).trans c1, (b.cell (p := ⟨h, o, none⟩) hh).trans c2, (b.cell (p := ⟨h, o + 1, none⟩) hh).trans c3, (b.cell (p := ⟨h, o + 2, none⟩) hh).trans c4, b⟩
set_option maxHeartbeats 2000000 in
set_option maxRecDepth 100000 in
theorem route_calls {n n' : Nat} (v1 v2 : Value) (p k : ByteArray) (m : Bool) (w : World) (h1 : OneX n v1 w) (h2 : OneB n' p v2 w) (hm : MatchIs p k m) (hN : NameOk topicsS) (hk : PlainOk k) :
    Calls Tryz.prog 11 #[.agg #[v1, v2], .string topicsS, .string k, .slice none 0 0] w fun e w' => ∃ v, e = .returned (.tuple #[v, .int .i64 0]) ∧ OutQ m v w' ∧ Below w.heap.size w w' := by
  have q1 := h1
  have q2 := h2
  obtain ⟨b1, o1, c1, rfl, h11, h12, h13, h14, h15, h16⟩ := h1
  obtain ⟨b, o, c, rfl, l1, l2, l3⟩ := h2
  have HX := Aside0.mk q1
  have HY := Aside0.mk q2
  clear q1 q2 l2
  have hmk : ∀ W, (Instr.makeSlice 59 (.int .i64 1) (.int .i64 1)).run Tryz.prog W = .ok (.slice (some ⟨W.heap.size, 0, none⟩) 1 1) (W.alloc (.cells #[.bool false] 4)) := fun _ => by kernel_rfl
  have ne : topicsS.toList.isEmpty = false := by decide +kernel
  go_enter Tryz.func11, Tryz.ntmps11
  go_wp2_with fail
  refine (hk _).mono ?_
  rintro e w1 ⟨rfl, hb1⟩
  obtain ⟨hc1, hf1⟩ := bcell hb1
  have z1 : w.heap.size < w1.heap.size := by have := hb1.size; simp at this; omega
  have B1 := ((Below.refl _ w).alloc (Nat.le_refl _) _).trans (hb1.mono (by simp))
  go_wp2_with (go_at_call 30; refine (props_none _).mono ?_; rintro e w' ⟨rfl, rfl⟩)
  refine (hN _).mono ?_
  rintro e w2 ⟨rfl, hb2⟩
  obtain ⟨hc2, hf2⟩ := bcell hb2
  have z2 : w.heap.size < w2.heap.size := by have := hb2.size; omega
  have B2 := B1.trans (hb2.mono (Nat.le_of_lt z1))
  have HB2 := Aside0.mk B2
  clear B1 B2
  go_wp2_with fail
  refine (find_one (n := n) _ _ 0 _ (HX.out.mono HB2.out (Nat.le_refl _)) (by decide +kernel) (Or.inl rfl)).mono ?_
  rintro e w3 ⟨rfl, hb3⟩
  obtain ⟨hc3, hf3⟩ := bcell hb3
  have z3 : w.heap.size < w3.heap.size := by have := hb3.size; omega
  have HB3 := Aside0.mk (HB2.out.trans (hb3.mono (Nat.le_of_lt z2)))
  go_wp2_with fail
  have g0 := (HB3.out.cell (p := ⟨b1, o1, none⟩) h11).trans h13
  have g1 := (HB3.out.cell (p := ⟨b1, o1 + 1, none⟩) h11).trans h14
  have g2 := (HB3.out.cell (p := ⟨b1, o1 + 2, none⟩) h11).trans h15
  refine wp_loop_rounds 2 ?_
  rw [rounds_succ]
  go_wp2_with fail
  have B4 := HB3.out.alloc (Nat.le_of_lt z3) (.cells #[.bool true] 4)
  have x1 := HX.out.mono B4 (Nat.le_refl _)
  have y1 := HY.out.mono B4 (Nat.le_refl _)
  have t0 : (w3.alloc (.cells #[.bool true] 4)).cell? ⟨w.heap.size, 0, none⟩ = some (.slice (some ⟨b1, o1, none⟩) 1 c1) := by simp [go_sem, z1, z2, z3, hc1, hc2, hc3]
  have t1 : (w3.alloc (.cells #[.bool true] 4)).cell? ⟨w.heap.size, 1, none⟩ = some (.slice (some ⟨b, o, none⟩) 1 c) := by simp [go_sem, z1, z2, z3, hc1, hc2, hc3]
  replace g0 := Lib.cell?_alloc_some (.cells #[.bool true] 4) g0
  replace g1 := Lib.cell?_alloc_some (.cells #[.bool true] 4) g1
  replace g2 := Lib.cell?_alloc_some (.cells #[.bool true] 4) g2
  have z4 : w.heap.size < (w3.alloc (.cells #[.bool true] 4)).heap.size := by simp; omega
  clear hc1 hf1 hc2 hf2 hc3 hf3 z1 z2 z3 hb1 hb2 hb3 HB2 HB3 HX HY h13 h14 h15
  generalize (w3.alloc (.cells #[.bool true] 4)) = W4 at *
  have z5 : b1 < W4.heap.size := by omega
  have HB4 := Aside0.mk B4
  have HX4 := Aside0.mk x1
  have HY4 := Aside0.mk y1
  clear B4 x1 y1
  cases m with
  | true =>
    go_region_held3 (fun w' => w'.cell? ⟨w.heap.size, 0, none⟩ = some (.slice (some ⟨b1, o1, none⟩) 1 c1) ∧ w'.cell? ⟨w.heap.size, 1, none⟩ = some (.slice (some ⟨b, o, none⟩) 1 c) ∧ w'.cell? ⟨b1, o1, none⟩ = some (.string topicsS) ∧ w'.cell? ⟨b1, o1 + 1, none⟩ = some (.int .i64 3) ∧ w'.cell? ⟨b1, o1 + 2, none⟩ = some (.string ByteArray.empty) ∧ Below W4.heap.size W4 w') (first | exact ⟨t0, t1, g0, g1, g2, Below.refl _ _⟩ | exact ⟨t0, t1, g0, g1, g2, (Below.refl _ _).drew⟩ | (go_split_ands; refine give5 t0 t1 g0 g1 g2 z4 z5 (by assumption)))
      (first | (go_at_call 32; refine (reached_calls (n := n) (n' := n') _ _ p k true _ (HX4.out.mono (n := W4.heap.size) (by first | assumption | exact Below.refl _ _ | exact (Below.refl _ _).drew) (Nat.le_refl _)) (HY4.out.mono (n := W4.heap.size) (by first | assumption | exact Below.refl _ _ | exact (Below.refl _ _).drew) (Nat.le_refl _)) hm).mono ?_; rintro e w5 ⟨v5, rfl, hq5, hb5⟩; obtain ⟨b6, o6, c6, rfl, hq6, hq7⟩ := out_true hq5; have hq8 := Aside0.mk hq5; clear hq5; have hbelow : Below W4.heap.size W4 w5 := (by first | exact (Below.refl _ _).trans hb5 | exact ((Below.refl _ _).drew).trans (hb5.mono (by simp)))))
    go_wp2
    go_ret2
    exact ⟨_, rfl, hq8.out, HB4.out.trans (hbelow.mono (Nat.le_of_lt z4))⟩
  | false =>
    go_region_held3 (fun w' => w'.cell? ⟨w.heap.size, 0, none⟩ = some (.slice (some ⟨b1, o1, none⟩) 1 c1) ∧ w'.cell? ⟨w.heap.size, 1, none⟩ = some (.slice (some ⟨b, o, none⟩) 1 c) ∧ w'.cell? ⟨b1, o1, none⟩ = some (.string topicsS) ∧ w'.cell? ⟨b1, o1 + 1, none⟩ = some (.int .i64 3) ∧ w'.cell? ⟨b1, o1 + 2, none⟩ = some (.string ByteArray.empty) ∧ Below W4.heap.size W4 w') (first | exact ⟨t0, t1, g0, g1, g2, Below.refl _ _⟩ | exact ⟨t0, t1, g0, g1, g2, (Below.refl _ _).drew⟩ | (go_split_ands; refine give5 t0 t1 g0 g1 g2 z4 z5 (by assumption)))
      (first | (go_at_call 32; refine (reached_calls (n := n) (n' := n') _ _ p k false _ (HX4.out.mono (n := W4.heap.size) (by first | assumption | exact Below.refl _ _ | exact (Below.refl _ _).drew) (Nat.le_refl _)) (HY4.out.mono (n := W4.heap.size) (by first | assumption | exact Below.refl _ _ | exact (Below.refl _ _).drew) (Nat.le_refl _)) hm).mono ?_; rintro e w5 ⟨v5, rfl, hq5, hb5⟩; obtain rfl := out_false hq5; clear hq5; have hbelow : Below W4.heap.size W4 w5 := (by first | exact (Below.refl _ _).trans hb5 | exact ((Below.refl _ _).drew).trans (hb5.mono (by simp)))))
    go_wp2_with fail
    have s0 := (hbelow.cell (p := ⟨w.heap.size, 0, none⟩) z4).trans t0
    have s1 := (hbelow.cell (p := ⟨w.heap.size, 1, none⟩) z4).trans t1
    have r0 := (hbelow.cell (p := ⟨b1, o1, none⟩) z5).trans g0
    have r1 := (hbelow.cell (p := ⟨b1, o1 + 1, none⟩) z5).trans g1
    have r2 := (hbelow.cell (p := ⟨b1, o1 + 2, none⟩) z5).trans g2
    have y4 : w.heap.size < w5.heap.size := Nat.lt_of_lt_of_le z4 hbelow.size
    have y5 : b1 < w5.heap.size := Nat.lt_of_lt_of_le z5 hbelow.size
    have HX5 := Aside0.mk (HX4.out.mono hbelow (Nat.le_refl _))
    go_region_held3 (fun w' => w'.cell? ⟨w.heap.size, 0, none⟩ = some (.slice (some ⟨b1, o1, none⟩) 1 c1) ∧ w'.cell? ⟨w.heap.size, 1, none⟩ = some (.slice (some ⟨b, o, none⟩) 1 c) ∧ w'.cell? ⟨b1, o1, none⟩ = some (.string topicsS) ∧ w'.cell? ⟨b1, o1 + 1, none⟩ = some (.int .i64 3) ∧ w'.cell? ⟨b1, o1 + 2, none⟩ = some (.string ByteArray.empty) ∧ Below w5.heap.size w5 w') (first | exact ⟨s0, s1, r0, r1, r2, Below.refl _ _⟩ | exact ⟨s0, s1, r0, r1, r2, (Below.refl _ _).drew⟩ | (go_split_ands; refine give5 s0 s1 r0 r1 r2 y4 y5 (by assumption)))
      (first | (go_at_call 23; refine (find_one (n := n) _ _ 1 _ (HX5.out.mono (n := w5.heap.size) (by first | assumption | exact Below.refl _ _ | exact (Below.refl _ _).drew) (Nat.le_refl _)) (by decide +kernel) (Or.inr rfl)).mono ?_; rintro e w6 ⟨rfl, hb6⟩; have hbelow2 : Below w5.heap.size w5 w6 := (by first | exact (Below.refl _ _).trans hb6 | exact ((Below.refl _ _).drew).trans (hb6.mono (by simp)))))
    go_wp2_with fail
    rw [rounds_succ]
    go_wp2
    go_ret2
    exact ⟨_, rfl, Or.inl ⟨rfl, rfl⟩, HB4.out.trans ((hbelow.trans (hbelow2.mono hbelow.size)).mono (Nat.le_of_lt z4))⟩
end Go.Proofs.YtfcomjinaokeaaaGreatDoor.P
