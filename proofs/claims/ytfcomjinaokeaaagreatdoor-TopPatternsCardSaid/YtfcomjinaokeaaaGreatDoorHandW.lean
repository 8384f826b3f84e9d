/- exchange.reached at the law's arguments; slices.Sort and slices.Compact at no string and one; walked by hand. -/
import Derived.Test.YtfcomjinaokeaaaGreatDoorHandV
namespace Go.Proofs.YtfcomjinaokeaaaGreatDoor.P
open Go.RowKit Go.Proofs.YtfcomjinaokeaaaGreatDoorW.PrintWords Go.Proofs.YtfcomjinaokeaaaGreatDoorW.PrintLast Go.Proofs.YtfcomjinaokeaaaGreatDoorW.PrintMore
set_option linter.unusedVariables false

def MatchIs (p k : ByteArray) (m : Bool) : Prop := ∀ W, Calls Tryz.prog 120 #[.string p, .string k] W fun e w' => e = .returned (.bool m) ∧ Below W.heap.size W w'

set_option maxRecDepth 100000 in
theorem takes_calls (p k : ByteArray) (m : Bool) (hm : MatchIs p k m) (w : World) : Calls Tryz.prog 119 #[.agg #[], .agg #[.string topicsS, .string qS, .string p, .bool false, .slice none 0 0], .string k, .slice none 0 0] w fun e w' => e = .returned (.bool m) ∧ Below w.heap.size w w' := by
  go_enter Tryz.func119, Tryz.ntmps119
  go_wp2_with (go_at_call 120; refine (hm _).mono ?_; rintro e w1 ⟨rfl, hb1⟩)
  go_ret
  exact ⟨rfl, (((Below.refl _ w).alloc (Nat.le_refl _) _).alloc (by simp) _).trans (hb1.mono (by simp <;> omega))⟩

set_option maxRecDepth 100000 in
theorem len64_calls (n : Int) (hn : n = 0 ∨ n = 1) (w : World) : Calls Tryz.prog 83 #[.int .u64 n] w fun e w' => ∃ l, e = .returned (.int .i64 l) ∧ w' = w := by
  rcases hn with rfl | rfl
  · go_enter Tryz.func83, Tryz.ntmps83
    go_wp2
    go_ret
    exact ⟨_, rfl, rfl⟩
  · go_enter Tryz.func83, Tryz.ntmps83
    go_wp2
    go_ret
    exact ⟨_, rfl, rfl⟩
theorem len_calls (n : Int) (hn : n = 0 ∨ n = 1) (w : World) : Calls Tryz.prog 64 #[.int .u64 n] w fun e w' => ∃ l, e = .returned (.int .i64 l) ∧ w' = w := by
  have L := len64_calls n hn
  rcases hn with rfl | rfl
  all_goals
    go_enter Tryz.func64, Tryz.ntmps64
    go_wp2_with (go_at_call 83; refine (L _).mono ?_; rintro e w' ⟨l, rfl, rfl⟩)
    go_ret
    exact ⟨_, rfl, rfl⟩

set_option maxRecDepth 100000 in
theorem insertion_calls (v : Value) (n : Int) (hn : n = 0 ∨ n = 1) (w : World) : Calls Tryz.prog 73 #[v, .int .i64 0, .int .i64 n] w fun e w' => e = .returned (.tuple #[]) ∧ w' = w := by
  rcases hn with rfl | rfl
  all_goals
    go_enter Tryz.func73, Tryz.ntmps73
    go_wp2
    refine wp_loop_rounds 1 ?_
    rw [rounds_succ]
    go_wp2
    go_end0
    exact ⟨rfl, rfl⟩
set_option maxRecDepth 100000 in
theorem pdq_calls (v : Value) (n l : Int) (hn : n = 0 ∨ n = 1) (w : World) : Calls Tryz.prog 63 #[v, .int .i64 0, .int .i64 n, .int .i64 l] w fun e w' => e = .returned (.tuple #[]) ∧ w' = w := by
  have I := fun W => insertion_calls v n hn W
  rcases hn with rfl | rfl
  all_goals
    go_enter Tryz.func63, Tryz.ntmps63
    go_wp2
    refine wp_loop_rounds 1 ?_
    rw [rounds_succ]
    go_wp2_with (go_at_call 73; refine (I _).mono ?_; rintro e w' ⟨rfl, rfl⟩)
    (try simp only [Exit.inBlock, Exit.then]); refine bodyPost_ret (results_none rfl _ _ _) rfl ?_
    exact ⟨rfl, rfl⟩
set_option maxRecDepth 100000 in
theorem sort_none (w : World) : Calls Tryz.prog 50 #[.slice none 0 0] w fun e w' => e = .returned (.tuple #[]) ∧ w' = w := by
  go_enter Tryz.func50, Tryz.ntmps50
  go_wp2_with (first | (go_at_call 64; refine (len_calls _ (Or.inl rfl) _).mono ?_; rintro e w' ⟨l, rfl, rfl⟩) | (go_at_call 63; refine (pdq_calls _ _ _ (Or.inl rfl) _).mono ?_; rintro e w' ⟨rfl, rfl⟩))
  go_end0
  exact ⟨rfl, rfl⟩
set_option maxRecDepth 100000 in
theorem sort_one (a : Addr) (c : Nat) (w : World) : Calls Tryz.prog 50 #[.slice (some a) 1 c] w fun e w' => e = .returned (.tuple #[]) ∧ w' = w := by
  go_enter Tryz.func50, Tryz.ntmps50
  go_wp2_with (first | (go_at_call 64; refine (len_calls _ (Or.inr rfl) _).mono ?_; rintro e w' ⟨l, rfl, rfl⟩) | (go_at_call 63; refine (pdq_calls _ _ _ (Or.inr rfl) _).mono ?_; rintro e w' ⟨rfl, rfl⟩))
  go_end0
  exact ⟨rfl, rfl⟩
set_option maxRecDepth 100000 in
theorem compact_none (w : World) : Calls Tryz.prog 51 #[.slice none 0 0] w fun e w' => e = .returned (.slice none 0 0) ∧ w' = w := by
  go_enter Tryz.func51, Tryz.ntmps51
  go_wp2
  go_ret
  exact ⟨rfl, rfl⟩
set_option maxRecDepth 100000 in
theorem compact_one (a : Addr) (c : Nat) (w : World) : Calls Tryz.prog 51 #[.slice (some a) 1 c] w fun e w' => e = .returned (.slice (some a) 1 c) ∧ w' = w := by
  go_enter Tryz.func51, Tryz.ntmps51
  go_wp2
  go_ret
  exact ⟨rfl, rfl⟩

/-- What a message reaches: the queue, or nothing. -/
def OutQ (m : Bool) (v : Value) (w : World) : Prop := (m = false ∧ v = .slice none 0 0) ∨ (m = true ∧ ∃ b o c, v = .slice (some ⟨b, o, none⟩) 1 c ∧ b < w.heap.size ∧ w.cell? ⟨b, o, none⟩ = some (.string qS))
set_option maxHeartbeats 2000000 in
set_option maxRecDepth 100000 in
theorem reached_calls {n n' : Nat} (v1 v2 : Value) (p k : ByteArray) (m : Bool) (w : World) (h1 : OneX n v1 w) (h2 : OneB n' p v2 w) (hm : MatchIs p k m) : Calls Tryz.prog 32 #[.agg #[v1, v2], .agg #[.string topicsS, .int .i64 3, .string ByteArray.empty], .string k, .slice none 0 0] w fun e w' => ∃ v, e = .returned v ∧ OutQ m v w' ∧ Below w.heap.size w w' := by
  obtain ⟨b1, o1, c1, rfl, h11, h12, h13, h14, h15, h16⟩ := h1
  clear h13 h14 h15 h16
  obtain ⟨b, o, c, rfl, l1, l2, l3⟩ := h2
  have g0 : w.cell? ⟨b, o, none⟩ = some (.string topicsS) := l2 0 _ rfl
  have g1 := l2 1 _ rfl
  have g2 := l2 2 _ rfl
  have g3 := l2 3 _ rfl
  have g4 := l2 4 _ rfl
  clear l2
  have T := fun W => takes_calls p k m hm W
  have meth : ∀ W, (method 253 96 (.agg #[]) "broker/exchange.takes").run Tryz.prog W = .ok (119, .agg #[]) W := fun _ => by kernel_rfl
  cases m with
  | false =>
    go_enter Tryz.func32, Tryz.ntmps32
    go_wp2_with (first | (go_at_call 37; refine (of_calls _).mono ?_; rintro e w' ⟨rfl, rfl⟩))
    refine wp_loop_rounds 2 ?_
    rw [rounds_succ]
    go_wp2_with (first | (go_at_call 119; refine (T _).mono ?_; rintro e w1 ⟨rfl, hb1⟩; obtain ⟨hc1, hf1⟩ := bcell hb1))
    rw [rounds_succ]
    go_wp2_with (first | (go_at_call 50; refine (sort_none _).mono ?_; rintro e w' ⟨rfl, rfl⟩) | (go_at_call 51; refine (compact_none _).mono ?_; rintro e w' ⟨rfl, rfl⟩))
    go_ret
    exact ⟨_, rfl, Or.inl ⟨rfl, rfl⟩, ((((Below.refl _ w).alloc (Nat.le_refl _) _).alloc (by simp) _).alloc (by simp <;> omega) _).trans (hb1.mono (by simp <;> omega))⟩
  | true =>
    go_enter Tryz.func32, Tryz.ntmps32
    go_wp2_with (first | (go_at_call 37; refine (of_calls _).mono ?_; rintro e w' ⟨rfl, rfl⟩))
    refine wp_loop_rounds 2 ?_
    rw [rounds_succ]
    go_wp2_with (first | (go_at_call 119; refine (T _).mono ?_; rintro e w1 ⟨rfl, hb1⟩; obtain ⟨hc1, hf1⟩ := bcell hb1))
    rw [rounds_succ]
    go_wp2_with (first | (go_at_call 50; refine (sort_one _ _ _).mono ?_; rintro e w' ⟨rfl, rfl⟩) | (go_at_call 51; refine (compact_one _ _ _).mono ?_; rintro e w' ⟨rfl, rfl⟩))
    go_ret
    have hz1 : w.heap.size + 3 ≤ w1.heap.size := by have := hb1.size; simp at this; omega
    exact ⟨_, rfl, Or.inr ⟨rfl, _, _, _, rfl, by simp, by simp [go_sem, Array.getElem?_append]⟩, ((((((Below.refl _ w).alloc (Nat.le_refl _) _).alloc (by simp) _).alloc (by simp <;> omega) _).trans (hb1.mono (by simp <;> omega))).alloc (by omega) _).alloc (by simp <;> omega) _ |>.drew⟩
end Go.Proofs.YtfcomjinaokeaaaGreatDoor.P
