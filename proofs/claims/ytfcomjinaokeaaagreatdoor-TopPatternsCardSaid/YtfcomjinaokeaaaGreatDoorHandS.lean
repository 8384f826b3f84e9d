/- exchange.Declare at the law's arguments; walked by hand. -/
import Derived.Test.YtfcomjinaokeaaaGreatDoorHandQ
import Derived.Deep.QuietTactic
import Derived.BigQuiet
namespace Go.Proofs.YtfcomjinaokeaaaGreatDoor.P
open Go.RowKit Go.Proofs.YtfcomjinaokeaaaGreatDoorW.PrintWords Go.Proofs.YtfcomjinaokeaaaGreatDoorW.PrintLast Go.Proofs.YtfcomjinaokeaaaGreatDoorW.PrintMore
set_option linter.unusedVariables false

def NameOk (s : ByteArray) : Prop := ∀ W, Calls Tryz.prog 31 #[.string s] W fun e w' => e = .returned (.bool true) ∧ Below W.heap.size W w'
def PlainOk (s : ByteArray) : Prop := ∀ W, Calls Tryz.prog 29 #[.string s] W fun e w' => e = .returned (.int .i64 0) ∧ Below W.heap.size W w'

theorem undrewN {n : Nat} {W w' : World} (h : Below (W.drewN n).heap.size (W.drewN n) w') : Below W.heap.size W w' := ⟨h.os, h.tape, h.output, h.size, h.block⟩
set_option maxRecDepth 100000 in
theorem described_calls (hN : NameOk topicsS) (w : World) : Calls Tryz.prog 22 #[.agg #[.string topicsS, .int .i64 3, .string ByteArray.empty]] w fun e w' => e = .returned (.int .i64 0) ∧ Below w.heap.size w w' := by
  go_enter Tryz.func22, Tryz.ntmps22
  go_wp2_with (first | (go_at_call 31; refine (hN _).mono ?_; rintro e w1 ⟨rfl, hb1⟩; obtain ⟨hc, hf⟩ := bcell hb1; have hz : w.heap.size < w1.heap.size := (by have := hb1.size; simp at this; omega)) | (go_at_call 37; refine (of_calls _).mono ?_; rintro e w' ⟨rfl, rfl⟩))
  go_ret
  exact ⟨rfl, ((Below.refl _ w).alloc (Nat.le_refl _) _).trans (hb1.mono (by simp))⟩

theorem infoE : (Tryz.prog.info? 34).map (fun i => (i.zero, i.size, i.bytes)) = some (some (.agg #[.string ByteArray.empty, .int .i64 0, .string ByteArray.empty]), 3, 40) := by kernel_rfl
set_option maxRecDepth 100000 in
theorem insert_calls {n : Nat} (v : Value) (w : World) (h : OneX n v w) : Calls Tryz.prog 25 #[.slice none 0 0, .int .i64 0, v] w fun e w' => ∃ v', e = .returned v' ∧ OneX w.heap.size v' w' ∧ Below w.heap.size w w' := by
  obtain ⟨b, o, c, rfl, h1, h2, h3, h4, h5, h6⟩ := h
  obtain ⟨i0, hi, hz0, hz1, hz2⟩ := info_parts infoX
  go_enter Tryz.func25, Tryz.ntmps25
  go_wp2_with (at_builtin; refine wpList_append_own _ rfl _ _ 26 rfl w.heap.size 34 i0 (.agg #[.string ByteArray.empty, .int .i64 0, .string ByteArray.empty]) 3 40 Tryz.underlying26 hi hz0 hz1 hz2 rfl (by decide) _ _ _ rfl (World.ownsRow_nil w _ _ _) ⟨b, o, none⟩ 1 c cellsX rfl ?qc1 ?qc2 ?qc3 ?qc4 ?qc5 ?qc6 ?_)
  case qc1 => rfl
  case qc2 =>
    intro j u hj
    rw [Addr.add_lit]
    unfold cellsX at hj
    match j, hj with
    | 0, hj => exact h3.trans hj
    | 1, hj => exact h4.trans hj
    | 2, hj => exact h5.trans hj
  case qc3 => unfold cellsX; intro u hu; simp at hu; rcases hu with rfl | rfl | rfl <;> rfl
  case qc4 => unfold maxLen; omega
  case qc5 => omega
  case qc6 => exact Nat.le_refl _
  intro v' w1 hown hgrow hnil
  go_wp2
  go_ret
  exact ⟨v', rfl, oneX_row (by simpa using hown), (Below.refl _ w).grown hgrow (Nat.le_refl _) (by intro k hk; simp [Value.ownBlock] at hk)⟩

set_option maxHeartbeats 2000000 in
set_option maxRecDepth 100000 in
theorem declare_calls (hN : NameOk topicsS) (w : World) : Calls Tryz.prog 9 #[.agg #[.slice none 0 0, .slice none 0 0], .agg #[.string topicsS, .int .i64 3, .string ByteArray.empty]] w fun e w' => ∃ v, e = .returned (.tuple #[.agg #[v, .slice none 0 0], .int .i64 0]) ∧ OneX w.heap.size v w' ∧ Below w.heap.size w w' := by
  go_enter Tryz.func9, Tryz.ntmps9
  go_wp2_with (first | (go_at_call 22; refine (described_calls hN _).mono ?_; rintro e w1 ⟨rfl, hb1⟩; obtain ⟨hc1, hf1⟩ := bcell hb1; have hz1 : w.heap.size + 2 < w1.heap.size := (by have := hb1.size; simp at this; omega); have y0 : w.heap.size < w1.heap.size := (by omega); have y1 : w.heap.size + 1 < w1.heap.size := (by omega); have y2 : w.heap.size + 1 + 1 < w1.heap.size := (by omega)) | (go_at_call 23; refine (find_none _ _ _ _).mono ?_; rintro e w' ⟨rfl, rfl⟩))
  go_quiet (fail)
  go_wp2_with (first | (go_at_call 24; refine (clone_none _).mono ?_; rintro e w2 ⟨rfl, hb2⟩; replace hb2 := undrewN hb2; obtain ⟨hc2, hf2⟩ := bcell hb2; have hz2 : w'.heap.size ≤ w2.heap.size := hb2.size; have x0 : w.heap.size < w2.heap.size := (by omega); have x1 : w.heap.size + 1 < w2.heap.size := (by omega); have x2 : w.heap.size + 1 + 1 < w2.heap.size := (by omega)) | fail)
  refine (insert_calls (n := 0) _ _ ⟨w2.heap.size + 1, 0, 1, rfl, by simp, Nat.le_refl _, by simp, by simp, by simp, Nat.zero_le _⟩).mono ?_
  rintro e w3 ⟨v3, rfl, hx3, hb3⟩
  have hx0 := hx3
  obtain ⟨b3, o3, c3, rfl, hy3⟩ := hx3
  clear hy3
  have HX := Aside0.mk hx0
  clear hx0
  obtain ⟨hc3, hf3⟩ := bcell hb3
  have hz3 : w2.heap.size + 1 < w3.heap.size := by have := hb3.size; simp at this; omega
  have u0 : w.heap.size < w3.heap.size := by omega
  have u1 : w.heap.size + 1 < w3.heap.size := by omega
  have u2 : w.heap.size + 1 + 1 < w3.heap.size := by omega
  have u3 : w2.heap.size < w3.heap.size := by omega
  have n0 : ¬ w2.heap.size = w.heap.size + 1 + 1 := by omega
  have n1 : ¬ w.heap.size + 1 + 1 = w2.heap.size := by omega
  have g0 := (hb3.cell (p := ⟨w2.heap.size, 0, none⟩) (by simp <;> omega)).trans (show _ = some (.slice none 0 0) by simp)
  have g1 := (hb3.cell (p := ⟨w2.heap.size, 1, none⟩) (by simp <;> omega)).trans (show _ = some (.slice none 0 0) by simp)
  have B3 := hb1.trans ((((hb2.alloc hz2 _).alloc (by simp <;> omega) _).trans (hb3.mono (by simp <;> omega))).mono hb1.size)
  have p0 := (B3.cell (p := ⟨w.heap.size + 1 + 1, 0, none⟩) (by simp)).trans (show _ = some (.slice none 0 0) by simp [go_sem])
  have p1 := (B3.cell (p := ⟨w.heap.size + 1 + 1, 1, none⟩) (by simp)).trans (show _ = some (.slice none 0 0) by simp [go_sem])
  have HB := Aside0.mk B3
  clear B3
  go_wp2
  refine bodyPost_ret (v := .tuple #[.agg #[.slice (some ⟨b3, o3, none⟩) 1 c3, .slice none 0 0], .int .i64 0]) (by simp [results, Tryz.results9, go_sem, p0, p1]) rfl ⟨_, rfl, ?_, ?_⟩
  · exact OneX.low (OneX.set (OneX.set (OneX.set HX.out (by simp <;> omega) _) (by simp <;> omega) _) (by simp <;> omega) _) (by simp <;> omega)
  · exact (((((((Below.refl _ w).alloc (Nat.le_refl _) _).alloc (by simp) _).alloc (by simp <;> omega) _).trans (HB.out.mono (by simp <;> omega))).setCell (p := ⟨w2.heap.size, 0, none⟩) (Nat.le_of_lt x0) _).setCell (p := ⟨w.heap.size + 1 + 1, 0, none⟩) (Nat.le_add_right _ 2) _).setCell (p := ⟨w.heap.size + 1 + 1, 1, none⟩) (Nat.le_add_right _ 2) _
end Go.Proofs.YtfcomjinaokeaaaGreatDoor.P
