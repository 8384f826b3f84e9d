/- exchange.of at the kind Topical; exchange.find in a list of no element and of one; walked by hand. -/
import Derived.Test.YtfcomjinaokeaaaGreatDoorProg
import Derived.Test.YtfcomjinaokeaaaGreatDoorVocab
import Derived.WalkMore
import Derived.BigCall
import Derived.Lib.Bytealg
import Derived.Outline
namespace Go.Proofs.YtfcomjinaokeaaaGreatDoor.P
open Go.RowKit Go.Proofs.YtfcomjinaokeaaaGreatDoorW.PrintWords Go.Proofs.YtfcomjinaokeaaaGreatDoorW.PrintLast Go.Proofs.YtfcomjinaokeaaaGreatDoorW.PrintMore
set_option linter.unusedVariables false

abbrev topicalV : Value := .iface 96 (.agg #[])

theorem of_calls (w : World) : Calls Tryz.prog 37 #[.int .i64 3] w fun e w' => e = .returned (.tuple #[topicalV, .bool true]) ∧ w' = w := by
  go_enter Tryz.func37, Tryz.ntmps37
  go_wp2
  go_ret2
  exact ⟨rfl, rfl⟩

set_option maxRecDepth 100000 in
theorem compareString_calls (a b : ByteArray) (w : World) : Calls Tryz.prog 60 #[.string a, .string b] w fun e w' => e = .returned (.int .i64 (Lib.compareBytes a.data.toList b.data.toList)) ∧ w' = w := by
  go_enter Tryz.func60, Tryz.ntmps60
  go_wp2
  rw [run_callFunc_extern Tryz.func71 (by kernel_rfl) (by kernel_rfl) (by kernel_rfl) (e := Extern.BytealgCompare.compare) (by kernel_rfl), Lib.run_compareString]
  simp only [Result.andThen]
  rw [Oper.upon_value]
  go_wp2
  go_ret
  exact ⟨rfl, rfl⟩
theorem compare_calls (a b : ByteArray) (w : World) : Calls Tryz.prog 40 #[.string a, .string b] w fun e w' => e = .returned (.int .i64 (Lib.compareBytes a.data.toList b.data.toList)) ∧ w' = w := by
  go_enter Tryz.func40, Tryz.ntmps40
  go_wp2_with (go_at_call 60; refine (compareString_calls _ _ _).mono ?_; rintro e w' ⟨rfl, rfl⟩)
  go_ret
  exact ⟨rfl, rfl⟩

theorem byName_calls (a b s : ByteArray) (k : Int) (w : World) : Calls Tryz.prog 39 #[.agg #[.string a, .int .i64 k, .string b], .string s] w fun e w' => e = .returned (.int .i64 (Lib.compareBytes a.data.toList s.data.toList)) ∧ Below w.heap.size w w' := by
  go_enter Tryz.func39, Tryz.ntmps39
  go_wp2_with (go_at_call 40; refine (compare_calls _ _ _).mono ?_; rintro e w' ⟨rfl, rfl⟩)
  go_ret
  exact ⟨rfl, (Below.refl _ _).alloc (Nat.le_refl _) _⟩

theorem search_none (p : Option Addr) (cap : Nat) (tv fv : Value) (w : World) : Calls Tryz.prog 38 #[.slice p 0 cap, tv, fv] w fun e w' => e = .returned (.tuple #[.int .i64 0, .bool false]) ∧ w' = w := by
  go_enter Tryz.func38, Tryz.ntmps38
  go_wp2
  refine wp_loop_rounds 1 ?_
  rw [rounds_succ]
  go_wp2
  go_ret2
  exact ⟨rfl, rfl⟩

theorem find_none (p : Option Addr) (cap : Nat) (tv : Value) (w : World) : Calls Tryz.prog 23 #[.slice p 0 cap, tv] w fun e w' => e = .returned (.tuple #[.int .i64 0, .bool false]) ∧ w' = w := by
  go_enter Tryz.func23, Tryz.ntmps23
  go_wp2_with (go_at_call 38; refine (search_none _ _ _ _ _).mono ?_; rintro e w' ⟨rfl, rfl⟩)
  go_ret2
  exact ⟨rfl, rfl⟩

/-- The exchange that the law declares, as the one element of a list. -/
def topicsS : ByteArray := ⟨#[116, 111, 112, 105, 99, 115]⟩
def OneX (n : Nat) (v : Value) (w : World) : Prop := ∃ b o c, v = .slice (some ⟨b, o, none⟩) 1 c ∧ b < w.heap.size ∧ 1 ≤ c ∧ w.cell? ⟨b, o, none⟩ = some (.string topicsS) ∧ w.cell? ⟨b, o + 1, none⟩ = some (.int .i64 3) ∧ w.cell? ⟨b, o + 2, none⟩ = some (.string ByteArray.empty) ∧ n ≤ b
theorem OneX.mono {m : Nat} {v : Value} {w w' : World} {n : Nat} (h : OneX m v w) (hb : Below n w w') (hn : w.heap.size ≤ n) : OneX m v w' := by
  obtain ⟨b, o, c, rfl, h1, h2, h3, h4, h5, h6⟩ := h
  have hs := hb.size
  exact ⟨b, o, c, rfl, by omega, h2, (hb.cell (p := ⟨b, o, none⟩) (show b < n by omega)).trans h3, (hb.cell (p := ⟨b, o + 1, none⟩) (show b < n by omega)).trans h4, (hb.cell (p := ⟨b, o + 2, none⟩) (show b < n by omega)).trans h5, h6⟩
theorem OneX.low {m n : Nat} {v : Value} {w : World} (h : OneX n v w) (hm : m ≤ n) : OneX m v w := by
  obtain ⟨b, o, c, rfl, h1, h2, h3, h4, h5, h6⟩ := h
  exact ⟨b, o, c, rfl, h1, h2, h3, h4, h5, Nat.le_trans hm h6⟩
theorem OneX.set {n : Nat} {v : Value} {w : World} (h : OneX n v w) {p : Addr} (hp : p.block < n) (x : Value) : OneX n v (w.setCell p x) := by
  obtain ⟨b, o, c, rfl, h1, h2, h3, h4, h5, h6⟩ := h
  have far : ∀ j, (w.setCell p x).cell? ⟨b, j, none⟩ = w.cell? ⟨b, j, none⟩ := fun j => World.cell?_setCell_other _ _ _ _ (fun e => absurd hp (by rw [e]; exact Nat.not_lt.2 h6))
  exact ⟨b, o, c, rfl, by simp [h1], h2, (far _).trans h3, (far _).trans h4, (far _).trans h5, h6⟩
theorem OneX.alloc {n : Nat} {v : Value} {w : World} (h : OneX n v w) (o : Obj) : OneX n v (w.alloc o) := h.mono (n := w.heap.size) ((Below.refl _ w).alloc (Nat.le_refl _) _) (Nat.le_refl _)
theorem OneX.drew {n : Nat} {v : Value} {w : World} (h : OneX n v w) : OneX n v w.drew := h.mono (n := w.heap.size) (Below.refl _ w).drew (Nat.le_refl _)

set_option maxRecDepth 100000 in
theorem search_one (b o c : Nat) (s : ByteArray) (k : Int) (w : World) (h3 : w.cell? ⟨b, o, none⟩ = some (.string topicsS)) (h4 : w.cell? ⟨b, o + 1, none⟩ = some (.int .i64 3)) (h5 : w.cell? ⟨b, o + 2, none⟩ = some (.string ByteArray.empty)) (hb : b < w.heap.size)
    (hk : Lib.compareBytes topicsS.data.toList s.data.toList = k) (hk0 : k = 0 ∨ k = 1) : Calls Tryz.prog 38 #[.slice (some ⟨b, o, none⟩) 1 c, .string s, .func (.func 39) #[] #[]] w fun e w' => e = .returned (.tuple #[.int .i64 0, .bool (decide (k = 0))]) ∧ Below w.heap.size w w' := by
  have byN : ∀ W, Calls Tryz.prog 39 #[.agg #[.string topicsS, .int .i64 3, .string ByteArray.empty], .string s] W fun e w' => e = .returned (.int .i64 k) ∧ Below W.heap.size W w' := fun W => by
    have := byName_calls topicsS ByteArray.empty s 3 W
    rwa [hk] at this
  clear hk
  rcases hk0 with rfl | rfl
  · go_enter Tryz.func38, Tryz.ntmps38
    go_wp2
    refine wp_loop_rounds 2 ?_
    rw [rounds_succ]
    go_wp2_with (go_at_call 39; refine (byN _).mono ?_; rintro e w1 ⟨rfl, hb1⟩)
    have g3 := (hb1.cell (p := ⟨b, o, none⟩) hb).trans h3
    have g4 := (hb1.cell (p := ⟨b, o + 1, none⟩) hb).trans h4
    have g5 := (hb1.cell (p := ⟨b, o + 2, none⟩) hb).trans h5
    have hs := hb1.size
    rw [rounds_succ]
    go_wp2_with (go_at_call 39; refine (byN _).mono ?_; rintro e w2 ⟨rfl, hb2⟩)
    go_ret2
    exact ⟨rfl, hb1.trans (hb2.mono hs)⟩
  · go_enter Tryz.func38, Tryz.ntmps38
    go_wp2
    refine wp_loop_rounds 2 ?_
    rw [rounds_succ]
    go_wp2_with (go_at_call 39; refine (byN _).mono ?_; rintro e w1 ⟨rfl, hb1⟩)
    have g3 := (hb1.cell (p := ⟨b, o, none⟩) hb).trans h3
    have g4 := (hb1.cell (p := ⟨b, o + 1, none⟩) hb).trans h4
    have g5 := (hb1.cell (p := ⟨b, o + 2, none⟩) hb).trans h5
    have hs := hb1.size
    rw [rounds_succ]
    go_wp2_with (go_at_call 39; refine (byN _).mono ?_; rintro e w2 ⟨rfl, hb2⟩)
    go_ret2
    exact ⟨rfl, hb1.trans (hb2.mono hs)⟩
end Go.Proofs.YtfcomjinaokeaaaGreatDoor.P
