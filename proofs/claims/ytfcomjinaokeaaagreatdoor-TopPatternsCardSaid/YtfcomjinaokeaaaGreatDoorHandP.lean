/- exchange.clone, at no bindings and no exchange or one; walked by hand. -/
import Derived.Test.YtfcomjinaokeaaaGreatDoorHandO
import Derived.Lib.SliceRun
import Derived.Laws.AppendOwn
import Derived.Outline
namespace Go.Proofs.YtfcomjinaokeaaaGreatDoor.P
open Go.RowKit Go.Proofs.YtfcomjinaokeaaaGreatDoorW.PrintWords Go.Proofs.YtfcomjinaokeaaaGreatDoorW.PrintLast Go.Proofs.YtfcomjinaokeaaaGreatDoorW.PrintMore
set_option linter.unusedVariables false

set_option maxRecDepth 100000 in
theorem find_one {n : Nat} (v : Value) (s : ByteArray) (k : Int) (w : World) (h : OneX n v w) (hk : Lib.compareBytes topicsS.data.toList s.data.toList = k) (hk0 : k = 0 ∨ k = 1) : Calls Tryz.prog 23 #[v, .string s] w fun e w' => e = .returned (.tuple #[.int .i64 0, .bool (decide (k = 0))]) ∧ Below w.heap.size w w' := by
  obtain ⟨b, o, c, rfl, h1, h2, h3, h4, h5, h6⟩ := h
  have S := search_one b o c s k w h3 h4 h5 h1 hk hk0
  have HS := Aside0.mk S
  clear S hk hk0
  go_enter Tryz.func23, Tryz.ntmps23
  go_wp2_with (go_at_call 38; refine HS.out.mono ?_; rintro e w1 ⟨rfl, hb1⟩)
  go_ret2
  exact ⟨rfl, hb1⟩

/-- One row of one's own of one element, cell by cell. -/
theorem row_one {w : World} {base e size : Nat} {v : Value} {xs : List Value} (h : w.ownsRow base e size v 1 xs) (hx : xs ≠ []) : ∃ b c, v = .slice (some ⟨b, 0, none⟩) 1 c ∧ base ≤ b ∧ b < w.heap.size ∧ 1 ≤ c ∧ (∀ j, w.frozen? ⟨b, j, none⟩ = false) ∧ ∀ j u, xs[j]? = some u → w.cell? ⟨b, 0 + j, none⟩ = some u := by
  obtain ⟨hl, h | ⟨g, cap, cur, rfl, hg, hh, h1, h2, h3, h4⟩⟩ := h
  · exact absurd h.2 (by decide)
  · have hg0 : g < w.heap.size := (Array.getElem?_eq_some_iff.1 hh).1
    refine ⟨g, cap, rfl, hg, hg0, h1, fun j => ?_, fun j u hj => ?_⟩
    · unfold World.frozen?
      simp only [hh]
      simp
    · have hjl := (List.getElem?_eq_some_iff.1 hj).1
      have hc : w.cell? ⟨g, 0 + j, none⟩ = cur[j]? := by
        unfold World.cell?
        simp only [hh]
        simp
      rw [hc, ← Array.getElem?_toList, ← hj, ← h4, List.getElem?_take]
      rw [← h4, List.length_take] at hjl
      rw [if_pos (by omega)]

theorem q_slice (t e : TypeId) (h : Tryz.prog.underlying t = some (.slice e)) : ∀ (w : World) (a : Option Addr) (n c n' c' : Nat), (binOp .eql t (.slice a n c) (.slice none n' c')).run Tryz.prog w = .ok (.bool a.isNone) w := fun w a n c n' c' => Lib.run_eql_slice_nil w _ _ a n c n' c' h
set_option maxRecDepth 100000 in
theorem cloneX_none (w : World) : Calls Tryz.prog 41 #[.slice none 0 0] w fun e w' => e = .returned (.slice none 0 0) ∧ w' = w := by
  have q := q_slice 26 _ Tryz.underlying26
  go_enter Tryz.func41, Tryz.ntmps41
  go_wp2
  go_ret
  exact ⟨rfl, rfl⟩
set_option maxRecDepth 100000 in
theorem cloneB_none (w : World) : Calls Tryz.prog 42 #[.slice none 0 0] w fun e w' => e = .returned (.slice none 0 0) ∧ w' = w := by
  have q := q_slice 27 _ Tryz.underlying27
  go_enter Tryz.func42, Tryz.ntmps42
  go_wp2
  go_ret
  exact ⟨rfl, rfl⟩
set_option maxRecDepth 100000 in
theorem cloneP_none (w : World) : Calls Tryz.prog 28 #[.slice none 0 0] w fun e w' => e = .returned (.slice none 0 0) ∧ w' = w := by
  have q := q_slice 36 _ Tryz.underlying36
  go_enter Tryz.func28, Tryz.ntmps28
  go_wp2
  go_ret
  exact ⟨rfl, rfl⟩
theorem infoX : (Tryz.prog.info? 34).map (fun i => (i.zero, i.size, i.bytes)) = some (some (.agg #[.string ByteArray.empty, .int .i64 0, .string ByteArray.empty]), 3, 40) := by kernel_rfl
def cellsX : List Value := [.string topicsS, .int .i64 3, .string ByteArray.empty]
theorem oneX_row {w : World} {base e size : Nat} {v : Value} (h : w.ownsRow base e size v 1 cellsX) : OneX base v w := by
  obtain ⟨b, c, rfl, h1, h2, h3, h4, h5⟩ := row_one h (by unfold cellsX; exact List.cons_ne_nil _ _)
  exact ⟨b, 0, c, rfl, h2, h3, h5 0 _ rfl, h5 1 _ rfl, h5 2 _ rfl, h1⟩
set_option maxRecDepth 100000 in
theorem cloneX_one {n : Nat} (v : Value) (w : World) (h : OneX n v w) : Calls Tryz.prog 41 #[v] w fun e w' => ∃ v', e = .returned v' ∧ OneX w.heap.size v' w' ∧ Below w.heap.size w w' := by
  obtain ⟨b, o, c, rfl, h1, h2, h3, h4, h5, h6⟩ := h
  have q := q_slice 26 _ Tryz.underlying26
  obtain ⟨i0, hi, hz0, hz1, hz2⟩ := info_parts infoX
  go_enter Tryz.func41, Tryz.ntmps41
  go_wp2_with (at_builtin; refine wpList_append_own _ rfl _ _ 26 rfl w.heap.size 34 i0 (.agg #[.string ByteArray.empty, .int .i64 0, .string ByteArray.empty]) 3 40 Tryz.underlying26 hi hz0 hz1 hz2 rfl (by decide) _ _ _ rfl (World.ownsRow_made w #[] 0 (Nat.le_refl _) (Nat.zero_le _) rfl) ⟨b, o, none⟩ 1 c cellsX rfl ?qc1 ?qc2 ?qc3 ?qc4 ?qc5 ?qc6 ?_)
  case qc1 => rfl
  case qc2 =>
    intro j u hj
    rw [Addr.add_lit]
    refine Lib.cell?_alloc_some _ ?_
    unfold cellsX at hj
    match j, hj with
    | 0, hj => exact h3.trans hj
    | 1, hj => exact h4.trans hj
    | 2, hj => exact h5.trans hj
  case qc3 => unfold cellsX; intro u hu; simp at hu; rcases hu with rfl | rfl | rfl <;> rfl
  case qc4 => unfold maxLen; omega
  case qc5 => omega
  case qc6 => simp
  intro v' w1 hown hgrow hnil
  go_wp2
  go_ret
  exact ⟨v', rfl, oneX_row (by simpa using hown), ((Below.refl _ w).alloc (Nat.le_refl _) _).grown hgrow (by simp) (by intro k hk; simp [Value.ownBlock] at hk; omega)⟩
end Go.Proofs.YtfcomjinaokeaaaGreatDoor.P
