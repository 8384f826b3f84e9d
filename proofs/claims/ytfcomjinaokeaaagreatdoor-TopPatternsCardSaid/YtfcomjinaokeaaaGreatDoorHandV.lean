/- exchange.Bind at the law's arguments; walked by hand. -/
import Derived.Test.YtfcomjinaokeaaaGreatDoorHandS
namespace Go.Proofs.YtfcomjinaokeaaaGreatDoor.P
open Go.RowKit Go.Proofs.YtfcomjinaokeaaaGreatDoorW.PrintWords Go.Proofs.YtfcomjinaokeaaaGreatDoorW.PrintLast Go.Proofs.YtfcomjinaokeaaaGreatDoorW.PrintMore
set_option linter.unusedVariables false
set_option linter.unusedSimpArgs false

def qS : ByteArray := ⟨#[113]⟩
def bindV (p : ByteArray) : Value := .agg #[.string topicsS, .string qS, .string p, .bool false, .slice none 0 0]
theorem names_ok (hN : NameOk topicsS) (hq : NameOk qS) (s : ByteArray) (h : s = topicsS ∨ s = qS) (W : World) : Calls Tryz.prog 31 #[.string s] W fun e w' => e = .returned (.bool true) ∧ Below W.heap.size W w' := by
  rcases h with rfl | rfl
  · exact hN W
  · exact hq W

theorem index_calls (b : Value) (w : World) : Calls Tryz.prog 45 #[.slice none 0 0, b] w fun e w' => e = .returned (.int .i64 (-1)) ∧ w' = w := by
  go_enter Tryz.func45, Tryz.ntmps45
  go_wp2
  refine wp_loop_rounds 1 ?_
  rw [rounds_succ]
  go_wp2
  go_ret
  exact ⟨rfl, rfl⟩
set_option maxRecDepth 100000 in
theorem indexB_calls (p : ByteArray) (w : World) : Calls Tryz.prog 27 #[.slice none 0 0, bindV p] w fun e w' => e = .returned (.int .i64 (-1)) ∧ Below w.heap.size w w' := by
  unfold bindV
  go_enter Tryz.func27, Tryz.ntmps27
  go_wp2_with (go_at_call 45; refine (index_calls _ _).mono ?_; rintro e w' ⟨rfl, rfl⟩)
  go_ret
  exact ⟨rfl, (Below.refl _ w).alloc (Nat.le_refl _) _⟩
set_option maxHeartbeats 1000000 in
set_option maxRecDepth 100000 in
theorem bound_calls {n : Nat} (v : Value) (p : ByteArray) (w : World) (h : OneX n v w) (hN : NameOk topicsS) (hq : NameOk qS) (hp : PlainOk p) : Calls Tryz.prog 26 #[v, bindV p] w fun e w' => e = .returned (.int .i64 0) ∧ Below w.heap.size w w' := by
  unfold bindV
  have h0 := h
  obtain ⟨b, o, c, rfl, h1, h2, h3, h4, h5, h6⟩ := h
  have HX := Aside0.mk h0
  clear h0
  have hlt : b < w.heap.size + 1 := by omega
  have hNN := names_ok hN hq
  go_enter Tryz.func26, Tryz.ntmps26
  go_wp2_with fail
  refine (hNN _ (Or.inl rfl) _).mono ?_
  rintro e w1 ⟨rfl, hb1⟩
  obtain ⟨hc1, hf1⟩ := bcell hb1
  have hz1 : w.heap.size < w1.heap.size := by have := hb1.size; simp at this; omega
  go_wp2_with fail
  refine (hNN _ (Or.inr rfl) _).mono ?_
  rintro e w2 ⟨rfl, hb2⟩
  obtain ⟨hc2, hf2⟩ := bcell hb2
  have hz2 : w.heap.size < w2.heap.size := by have := hb2.size; omega
  go_wp2_with fail
  refine (hp _).mono ?_
  rintro e w3 ⟨rfl, hb3⟩
  obtain ⟨hc3, hf3⟩ := bcell hb3
  have hz3 : w.heap.size < w3.heap.size := by have := hb3.size; omega
  have B3 := hb1.trans ((hb2.trans (hb3.mono hb2.size)).mono hb1.size)
  have B3' := ((Below.refl _ w).alloc (Nat.le_refl _) _).trans (B3.mono (by simp))
  have HB := Aside0.mk B3'
  clear B3 B3'
  go_wp2_with fail
  refine (find_one (n := n) _ _ 0 _ (HX.out.mono HB.out (Nat.le_refl _)) (by decide +kernel) (Or.inl rfl)).mono ?_
  rintro e w4 ⟨rfl, hb4⟩
  obtain ⟨hc4, hf4⟩ := bcell hb4
  have hz4 : w.heap.size < w4.heap.size := by have := hb4.size; omega
  have B4 := HB.out.trans (hb4.mono (by omega))
  have g4 := (B4.cell (p := ⟨b, o + 1, none⟩) h1).trans h4
  have HC := Aside0.mk B4
  clear B4
  go_wp2
  go_ret
  exact ⟨rfl, HC.out⟩

theorem infoB : (Tryz.prog.info? 38).map (fun i => (i.zero, i.size, i.bytes)) = some (some (.agg #[.string ByteArray.empty, .string ByteArray.empty, .string ByteArray.empty, .bool false, .slice none 0 0]), 5, 80) := by kernel_rfl
/-- The binding that the law makes, as the one element of a list. -/
def cellsB (p : ByteArray) : List Value := [.string topicsS, .string qS, .string p, .bool false, .slice none 0 0]
def OneB (n : Nat) (p : ByteArray) (v : Value) (w : World) : Prop := ∃ b o c, v = .slice (some ⟨b, o, none⟩) 1 c ∧ b < w.heap.size ∧ (∀ j u, (cellsB p)[j]? = some u → w.cell? ⟨b, o + j, none⟩ = some u) ∧ n ≤ b
theorem OneB.mono {m : Nat} {p : ByteArray} {v : Value} {w w' : World} {n : Nat} (h : OneB m p v w) (hb : Below n w w') (hn : w.heap.size ≤ n) : OneB m p v w' := by
  obtain ⟨b, o, c, rfl, h1, h3, h6⟩ := h
  have hs := hb.size
  exact ⟨b, o, c, rfl, by omega, fun j u hj => (hb.cell (p := ⟨b, o + j, none⟩) (show b < n by omega)).trans (h3 j u hj), h6⟩
theorem OneX.put {n b o c : Nat} {w : World} (h : OneX n (.slice (some ⟨b, o, none⟩) 1 c) w) {p : Addr} (hp : p.block ≠ b) (x : Value) : OneX n (.slice (some ⟨b, o, none⟩) 1 c) (w.setCell p x) := by
  obtain ⟨b', o', c', e, h1, h2, h3, h4, h5, h6⟩ := h
  cases e
  have far : ∀ j, (w.setCell p x).cell? ⟨b, j, none⟩ = w.cell? ⟨b, j, none⟩ := fun j => World.cell?_setCell_other _ _ _ _ (fun e => hp (by rw [e]))
  exact ⟨b, o, c, rfl, by simp [h1], h2, (far _).trans h3, (far _).trans h4, (far _).trans h5, h6⟩
theorem OneX.at {n b o c : Nat} {w : World} (h : OneX n (.slice (some ⟨b, o, none⟩) 1 c) w) : n ≤ b ∧ b < w.heap.size := by
  obtain ⟨b', o', c', e, h1, h2, h3, h4, h5, h6⟩ := h
  cases e
  exact ⟨h6, h1⟩

set_option maxHeartbeats 2000000 in
set_option maxRecDepth 100000 in
theorem bind_calls {n : Nat} (v : Value) (p : ByteArray) (w : World) (h : OneX n v w) (hN : NameOk topicsS) (hq : NameOk qS) (hp : PlainOk p) : Calls Tryz.prog 10 #[.agg #[v, .slice none 0 0], bindV p] w fun e w' => ∃ v1 v2, e = .returned (.tuple #[.agg #[v1, v2], .int .i64 0]) ∧ OneX w.heap.size v1 w' ∧ OneB w.heap.size p v2 w' ∧ Below w.heap.size w w' := by
  have bnd : ∀ W, OneX n v W → Calls Tryz.prog 26 #[v, .agg #[.string topicsS, .string qS, .string p, .bool false, .slice none 0 0]] W fun e w' => e = .returned (.int .i64 0) ∧ Below W.heap.size W w' := fun W hW => bound_calls v p W hW hN hq hp
  have ind : ∀ W, Calls Tryz.prog 27 #[.slice none 0 0, .agg #[.string topicsS, .string qS, .string p, .bool false, .slice none 0 0]] W fun e w' => e = .returned (.int .i64 (-1)) ∧ Below W.heap.size W w' := fun W => indexB_calls p W
  unfold bindV
  obtain ⟨i0, hi, iz0, iz1, iz2⟩ := info_parts infoB
  have h0 := h
  obtain ⟨b, o, c, rfl, h1, h2, h3, h4, h5, h6⟩ := h
  have HX := Aside0.mk h0
  clear h0 h3 h4 h5
  go_enter Tryz.func10, Tryz.ntmps10
  go_wp2_with fail
  refine (bnd _ (((HX.out.alloc _).alloc _).alloc _)).mono ?_
  rintro e w1 ⟨rfl, hb1⟩
  obtain ⟨hc1, hf1⟩ := bcell hb1
  have y0 : w.heap.size < w1.heap.size := by have := hb1.size; simp at this; omega
  have y1 : w.heap.size + 1 < w1.heap.size := by have := hb1.size; simp at this; omega
  have y2 : w.heap.size + 1 + 1 < w1.heap.size := by have := hb1.size; simp at this; omega
  go_wp2_with fail
  refine (clone_one (n := n) _ _ (HX.out.mono (n := w.heap.size) (((((Below.refl _ w).alloc (Nat.le_refl _) _).alloc (by simp) _).alloc (by simp <;> omega) _).trans (hb1.mono (by simp <;> omega))) (Nat.le_refl _))).mono ?_
  rintro e w2 ⟨v2, rfl, hx2, hb2⟩
  obtain ⟨hc2, hf2⟩ := bcell hb2
  have hz2 : w1.heap.size ≤ w2.heap.size := hb2.size
  have x0 : w.heap.size < w2.heap.size := by omega
  have x1 : w.heap.size + 1 < w2.heap.size := by omega
  have x2 : w.heap.size + 1 + 1 < w2.heap.size := by omega
  have hx0 := hx2
  obtain ⟨b2, o2, c2, rfl, hy2⟩ := hx2
  clear hy2
  have HX2 := Aside0.mk hx0
  clear hx0
  go_wp2_with fail
  refine (ind _).mono ?_
  rintro e w3 ⟨rfl, hb3⟩
  obtain ⟨hc3, hf3⟩ := bcell hb3
  have hz3 : w2.heap.size < w3.heap.size := by have := hb3.size; simp at this; omega
  have u0 : w.heap.size < w3.heap.size := by omega
  have u1 : w.heap.size + 1 < w3.heap.size := by omega
  have u2 : w.heap.size + 1 + 1 < w3.heap.size := by omega
  have n0 : ¬ w2.heap.size = w.heap.size + 1 := by omega
  have n1 : ¬ w.heap.size + 1 = w2.heap.size := by omega
  have n2 : ¬ w2.heap.size = w.heap.size + 1 + 1 := by omega
  have n3 : ¬ w.heap.size + 1 + 1 = w2.heap.size := by omega
  go_wp2_with (go_at_call 28; refine (cloneP_none _).mono ?_; rintro e w' ⟨rfl, rfl⟩)
  obtain ⟨l1, l2⟩ := HX2.out.at
  have B3 := (((((Below.refl _ w).alloc (Nat.le_refl _) _).alloc (by simp) _).alloc (by simp <;> omega) _).trans (hb1.mono (by simp <;> omega))).trans ((hb2.mono (Nat.le_of_lt y0)).trans ((Below.alloc (Below.refl _ w2) (Nat.le_of_lt x0) _).trans (hb3.mono (by simp <;> omega))))
  have u4 : w.heap.size + 1 + 1 < w'.heap.size + 1 := by omega
  have C2 := (Below.alloc (Below.refl w2.heap.size w2) (Nat.le_refl _) (.cells #[.slice (some ⟨b2, o2, none⟩) 1 c2, .slice none 0 0] 29)).trans (hb3.mono (by simp))
  have C3 := hb1.trans ((hb2.trans (C2.mono hz2)).mono hb1.size)
  have p0 := (C3.cell (p := ⟨w.heap.size + 1 + 1, 0, none⟩) (by simp)).trans (show _ = some (.slice none 0 0) by simp [go_sem])
  have p1 := (C3.cell (p := ⟨w.heap.size + 1 + 1, 1, none⟩) (by simp)).trans (show _ = some (.slice none 0 0) by simp [go_sem])
  refine bodyPost_ret (v := .tuple #[.agg #[.slice (some ⟨b2, o2, none⟩) 1 c2, .slice (some ⟨w'.heap.size + 1, 0, none⟩) 1 ((Question.appendCap 1 0 38).cut (w'.tape w'.drawn (Question.appendCap 1 0 38)))], .int .i64 0]) (by simp [results, Tryz.results10, go_sem, p0, p1, u2, u4]) rfl ⟨_, _, rfl, ?_, ?_, ?_⟩
  · exact OneX.low (OneX.drew (OneX.alloc (OneX.alloc (OneX.put (OneX.put (OneX.put (OneX.put (HX2.out.mono (n := w2.heap.size) C2 (Nat.le_refl _)) (by simp; omega) _) (by simp; omega) _) (by simp; omega) _) (by simp; omega) _) _) _)) (by omega)
  · refine ⟨_, _, _, rfl, by simp, fun j u hj => ?_, by omega⟩
    unfold cellsB at hj
    match j, hj with
    | 0, hj => rw [← hj]; simp [go_sem, Array.getElem?_append]
    | 1, hj => rw [← hj]; simp [go_sem, Array.getElem?_append]
    | 2, hj => rw [← hj]; simp [go_sem, Array.getElem?_append]
    | 3, hj => rw [← hj]; simp [go_sem, Array.getElem?_append]
    | 4, hj => rw [← hj]; simp [go_sem, Array.getElem?_append]
  · exact (((((((B3.setCell (p := ⟨w.heap.size + 1, 4, none⟩) (Nat.le_succ _) _).setCell (p := ⟨w2.heap.size, 1, none⟩) (Nat.le_of_lt x0) _).setCell (p := ⟨w.heap.size + 1 + 1, 0, none⟩) (Nat.le_add_right _ 2) _).setCell (p := ⟨w.heap.size + 1 + 1, 1, none⟩) (Nat.le_add_right _ 2) _).alloc (by simp <;> omega) _).alloc (by simp <;> omega) _).drew)
end Go.Proofs.YtfcomjinaokeaaaGreatDoor.P
