/- exchange.clone, at no bindings and no exchange or one; walked by hand. -/
import Derived.Test.YtfcomjinaokeaaaGreatDoorHandP
import Derived.RegionTactic
import Derived.Deep.RegionHeld3
import Derived.Outline
namespace Go.Proofs.YtfcomjinaokeaaaGreatDoor.P
open Go.RowKit Go.Proofs.YtfcomjinaokeaaaGreatDoorW.PrintWords Go.Proofs.YtfcomjinaokeaaaGreatDoorW.PrintLast Go.Proofs.YtfcomjinaokeaaaGreatDoorW.PrintMore
set_option linter.unusedVariables false

set_option maxRecDepth 100000 in
theorem clone_none (w : World) : Calls Tryz.prog 24 #[.agg #[.slice none 0 0, .slice none 0 0]] w fun e w' => e = .returned (.agg #[.slice none 0 0, .slice none 0 0]) ∧ Below w.heap.size w w' := by
  go_enter Tryz.func24, Tryz.ntmps24
  go_wp2
  go_region_held3 (fun w' => w'.cell? ⟨w.heap.size, 0, none⟩ = some (.slice none 0 0) ∧ w'.cell? ⟨w.heap.size, 1, none⟩ = some (.slice none 0 0)) (go_keep)
    (first | (go_at_call 41; refine (cloneX_none _).mono ?_; rintro e w' ⟨rfl, rfl⟩) | (go_at_call 42; refine (cloneB_none _).mono ?_; rintro e w' ⟨rfl, rfl⟩))
  all_goals
    go_wp2
    refine wp_loop_rounds 1 ?_
    rw [rounds_succ]
    go_wp2
  all_goals
    refine bodyPost_ret (v := .agg #[.slice none 0 0, .slice none 0 0]) (by simp [results, Tryz.results24, go_sem]) rfl ⟨rfl, ?_⟩
  all_goals exact ((((Below.refl _ w).alloc (Nat.le_refl _) _).alloc (by simp) _).alloc (by simp <;> omega) _).drew

theorem bcell {W w1 : World} (hb : Below W.heap.size W w1) : (∀ b o, b < W.heap.size → w1.cell? ⟨b, o, none⟩ = W.cell? ⟨b, o, none⟩) ∧ (∀ b o, b < W.heap.size → w1.frozen? ⟨b, o, none⟩ = W.frozen? ⟨b, o, none⟩) :=
  ⟨fun b o h => hb.cell (p := ⟨b, o, none⟩) h, fun b o h => hb.frozen (p := ⟨b, o, none⟩) h⟩
/-- What the region loads, and that nothing older has turned. -/
theorem give {W0 w' : World} {g : Nat} {v u : Value} (c0 : W0.cell? ⟨g, 0, none⟩ = some v) (c1 : W0.cell? ⟨g, 1, none⟩ = some u) (hg : g < W0.heap.size) (h : Below W0.heap.size W0 w') : w'.cell? ⟨g, 0, none⟩ = some v ∧ w'.cell? ⟨g, 1, none⟩ = some u ∧ Below W0.heap.size W0 w' :=
  ⟨(h.cell (p := ⟨g, 0, none⟩) hg).trans c0, (h.cell (p := ⟨g, 1, none⟩) hg).trans c1, h⟩
set_option maxHeartbeats 2000000 in
set_option maxRecDepth 100000 in
theorem clone_one {n : Nat} (v : Value) (w : World) (h : OneX n v w) : Calls Tryz.prog 24 #[.agg #[v, .slice none 0 0]] w fun e w' => ∃ v', e = .returned (.agg #[v', .slice none 0 0]) ∧ OneX (w.heap.size + 2) v' w' ∧ Below w.heap.size w w' := by
  have h0 := h
  obtain ⟨b, o, c, rfl, h1, h2, h3, h4, h5, h6⟩ := h
  have B0 : Below w.heap.size w ((w.alloc (.cells #[.slice (some ⟨b, o, none⟩) 1 c, .slice none 0 0] 29)).alloc (.cells #[.slice none 0 0, .slice none 0 0] 29)) := ((Below.refl _ w).alloc (Nat.le_refl _) _).alloc (by simp) _
  have c0 : ((w.alloc (.cells #[.slice (some ⟨b, o, none⟩) 1 c, .slice none 0 0] 29)).alloc (.cells #[.slice none 0 0, .slice none 0 0] 29)).cell? ⟨w.heap.size, 0, none⟩ = some (.slice (some ⟨b, o, none⟩) 1 c) := by simp
  have c1 : ((w.alloc (.cells #[.slice (some ⟨b, o, none⟩) 1 c, .slice none 0 0] 29)).alloc (.cells #[.slice none 0 0, .slice none 0 0] 29)).cell? ⟨w.heap.size, 1, none⟩ = some (.slice none 0 0) := by simp
  have c2 : ((w.alloc (.cells #[.slice (some ⟨b, o, none⟩) 1 c, .slice none 0 0] 29)).alloc (.cells #[.slice none 0 0, .slice none 0 0] 29)).cell? ⟨w.heap.size + 1, 0, none⟩ = some (.slice none 0 0) := by simp
  have c3 : ((w.alloc (.cells #[.slice (some ⟨b, o, none⟩) 1 c, .slice none 0 0] 29)).alloc (.cells #[.slice none 0 0, .slice none 0 0] 29)).cell? ⟨w.heap.size + 1, 1, none⟩ = some (.slice none 0 0) := by simp
  have f2 : ((w.alloc (.cells #[.slice (some ⟨b, o, none⟩) 1 c, .slice none 0 0] 29)).alloc (.cells #[.slice none 0 0, .slice none 0 0] 29)).frozen? ⟨w.heap.size + 1, 0, none⟩ = false := by simp
  have f3 : ((w.alloc (.cells #[.slice (some ⟨b, o, none⟩) 1 c, .slice none 0 0] 29)).alloc (.cells #[.slice none 0 0, .slice none 0 0] 29)).frozen? ⟨w.heap.size + 1, 1, none⟩ = false := by simp
  have z0 : w.heap.size < ((w.alloc (.cells #[.slice (some ⟨b, o, none⟩) 1 c, .slice none 0 0] 29)).alloc (.cells #[.slice none 0 0, .slice none 0 0] 29)).heap.size := by simp <;> omega
  have z1 : w.heap.size + 1 < ((w.alloc (.cells #[.slice (some ⟨b, o, none⟩) 1 c, .slice none 0 0] 29)).alloc (.cells #[.slice none 0 0, .slice none 0 0] 29)).heap.size := by simp <;> omega
  have HX := Aside0.mk h0
  clear h0
  go_enter Tryz.func24, Tryz.ntmps24
  go_wp2
  generalize ((w.alloc (.cells #[.slice (some ⟨b, o, none⟩) 1 c, .slice none 0 0] 29)).alloc (.cells #[.slice none 0 0, .slice none 0 0] 29)) = W0 at *
  have HB := Aside0.mk B0
  clear B0
  go_region_held3 (fun w' => w'.cell? ⟨w.heap.size, 0, none⟩ = some (.slice (some ⟨b, o, none⟩) 1 c) ∧ w'.cell? ⟨w.heap.size, 1, none⟩ = some (.slice none 0 0) ∧ Below W0.heap.size W0 w') (first | exact ⟨c0, c1, Below.refl _ _⟩ | exact ⟨c0, c1, (Below.refl _ _).drew⟩ | (go_split_ands; refine give c0 c1 z0 ?_; repeat (first | assumption | exact Below.refl _ _ | refine Below.drew ?_ | refine Below.alloc ?_ (by first | exact Nat.le_refl _ | exact Below.size (by assumption)) _ | refine Below.setCell ?_ (by first | exact Nat.le_refl _ | exact Below.size (by assumption)) _)))
    (first | (go_at_call 41; refine (cloneX_one (n := n) _ _ ?_).mono ?_; exact HX.out.mono (n := w.heap.size) (HB.out.trans (Below.mono (w := W0) (B := W0.heap.size) (by go_split_ands; first | assumption | exact Below.refl _ _ | exact (Below.refl _ _).drew) (Nat.le_of_lt z0))) (Nat.le_refl _); rintro e w1 ⟨v1, rfl, hx1, hb1⟩; have hx0 := hx1; obtain ⟨b1, o1, c1', rfl, hy1⟩ := hx1; have HX1 := Aside0.mk hx0; clear hx0 hy1; have hbelow : Below W0.heap.size W0 w1 := (by go_split_ands; first | exact (Below.refl _ _).trans hb1 | exact ((Below.refl _ _).drew).trans (hb1.mono (by simp)) | exact Below.trans (by assumption) (hb1.mono (Below.size (by assumption))) | exact Below.trans ((Below.refl _ _).alloc (Nat.le_refl _) _) (hb1.mono (by simp)) | exact Below.trans ((Below.refl _ _).drew.alloc (by simp) _) (hb1.mono (by simp)) | exact Below.trans ((Below.refl _ _).alloc (Nat.le_refl _) _).drew (hb1.mono (by simp))); obtain ⟨hc1, hf1⟩ := bcell hb1; have hz1 := hb1.size; have d2 := (hbelow.cell (p := ⟨w.heap.size + 1, 0, none⟩) z1).trans c2; have d3 := (hbelow.cell (p := ⟨w.heap.size + 1, 1, none⟩) z1).trans c3; have e2 := (hbelow.frozen (p := ⟨w.heap.size + 1, 0, none⟩) z1).trans f2; have e3 := (hbelow.frozen (p := ⟨w.heap.size + 1, 1, none⟩) z1).trans f3; have zl1 : w.heap.size + 1 < w1.heap.size := Nat.lt_of_lt_of_le z1 hbelow.size; have zn1 : ¬ W0.heap.size = w.heap.size + 1 := (by omega); have zn2 : ¬ w.heap.size + 1 = W0.heap.size := (by omega)) | (go_at_call 42; refine (cloneB_none _).mono ?_; rintro e w' ⟨rfl, rfl⟩))
  all_goals
    go_wp2
    refine wp_loop_rounds 1 ?_
    rw [rounds_succ]
    go_wp2
  all_goals refine bodyPost_ret (v := .agg #[.slice (some ⟨b1, o1, none⟩) 1 c1', .slice none 0 0]) (by simp [results, Tryz.results24, go_sem, d2, d3, zl1]) rfl ⟨_, rfl, ?_, ?_⟩
  · exact OneX.low (OneX.alloc (OneX.set (OneX.set HX1.out z1 _) z1 _) _) z1
  · have hz := hbelow.size
    exact (((HB.out.trans (hbelow.mono (Nat.le_of_lt z0))).setCell (p := ⟨w.heap.size + 1, 0, none⟩) (Nat.le_succ _) _).setCell (p := ⟨w.heap.size + 1, 1, none⟩) (Nat.le_succ _) _).alloc (by simp <;> omega) _
  · exact OneX.low (OneX.alloc (OneX.set (OneX.set HX1.out z1 _) z1 _) _) z1
  · have hz := hbelow.size
    exact (((HB.out.trans (hbelow.mono (Nat.le_of_lt z0))).setCell (p := ⟨w.heap.size + 1, 0, none⟩) (Nat.le_succ _) _).setCell (p := ⟨w.heap.size + 1, 1, none⟩) (Nat.le_succ _) _).alloc (by simp <;> omega) _
  · exact OneX.low (OneX.set (OneX.set (OneX.set (OneX.set HX1.out (by simp) _) (by simp) _) (by simp <;> omega) _) (by simp <;> omega) _) (by simp <;> omega)
  · exact ((((HB.out.trans (hbelow.mono (Nat.le_of_lt z0))).setCell (p := ⟨W0.heap.size, 0, none⟩) (Nat.le_of_lt z0) _).setCell (p := ⟨W0.heap.size, 1, none⟩) (Nat.le_of_lt z0) _).setCell (p := ⟨w.heap.size + 1, 0, none⟩) (Nat.le_succ _) _).setCell (p := ⟨w.heap.size + 1, 1, none⟩) (Nat.le_succ _) _
end Go.Proofs.YtfcomjinaokeaaaGreatDoor.P
