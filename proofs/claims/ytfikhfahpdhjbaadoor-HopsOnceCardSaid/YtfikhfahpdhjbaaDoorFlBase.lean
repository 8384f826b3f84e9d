/- hops.Flood: the kinds, the closure inside, and the flood as a plain function. -/
import Derived.Test.YtfikhfahpdhjbaaDoorProg
import Derived.Test.YtfikhfahpdhjbaaDoorVocab
import Derived.RangeFuncBox
import Derived.Deep.RegionWith
import Derived.Maps.AppendAt
import Derived.Lib.SliceRun
namespace Go.Proofs.YtfikhfahpdhjbaaDoor.Fl
open Go.RowKit Go.Proofs.YtfikhfahpdhjbaaDoorW.PrintWords Go.Proofs.YtfikhfahpdhjbaaDoorW.PrintMore
set_option linter.unusedVariables false

theorem info65 : (Tryd.prog.info? 65).map (fun i => (i.zero, i.size, i.bytes)) = some (some (.agg #[.int .i64 0, .int .i64 0]), 2, 16) := by kernel_rfl
/-- An arrival; a link. -/
def kA : Kd (Int × Int) := Kd.pair (Kd.int .i64) (Kd.int .i64)
theorem kA_open {w : World} {x : Int × Int} {cs : List Value} (h : kA.K w x cs) : cs = [.int .i64 x.1, .int .i64 x.2] := by
  obtain ⟨_, _, rfl, rfl, rfl⟩ := h
  rfl
theorem kA_mk (w : World) (base : Nat) (ok : Nat → Prop) (x : Int × Int) : kA.M w base ok x [.int .i64 x.1, .int .i64 x.2] := ⟨[.int .i64 x.1], [.int .i64 x.2], rfl, rfl, rfl⟩
theorem kA_at {w : World} {A : Option Addr} {n : Nat} {xs : List (Int × Int)} (h : Kd.C kA w A n xs) (i : Nat) (h1 : i < n) : ∃ ad, A = some ad ∧ w.cell? (ad.add (i * 2)) = some (.int .i64 (xs.getD i (0, 0)).1) ∧ w.cell? ⟨(ad.add (i * 2)).block, (ad.add (i * 2)).off + 1, none⟩ = some (.int .i64 (xs.getD i (0, 0)).2) := by
  obtain ⟨ad, c, e, _, hK, hc0⟩ := Kd.C_get h (0, 0) (i : Int) (Int.natCast_nonneg i) (by omega)
  have hc : ∀ j u, c[j]? = some u → w.cell? (ad.add (i * 2 + j)) = some u := hc0
  obtain rfl := kA_open hK
  exact ⟨ad, e, hc 0 _ rfl, by rw [← add_field _ _ 1 (by omega)]; exact hc 1 _ rfl⟩

def insideB (n m : Int) : Bool := decide (0 ≤ m) && decide (m < n)
theorem inside1 (n m : Int) (Bn : Nat) (W : World) (hn : W.cell? ⟨Bn, 0, none⟩ = some (.int .i64 n)) :
    Calls Tryd.prog 42 #[.int .i64 m, .pointer (some ⟨Bn, 0, none⟩)] W fun e w' => e = .returned (.bool (insideB n m)) ∧ w' = W := by
  unfold insideB
  by_cases h : 0 ≤ m
  · have h1 : decide (0 ≤ m) = true := decide_eq_true h
    rw [h1]
    go_enter Tryd.func42, Tryd.ntmps42
    go_wp2
    go_ret
    exact ⟨rfl, rfl⟩
  · have h1 : decide (0 ≤ m) = false := decide_eq_false h
    rw [h1]
    go_enter Tryd.func42, Tryd.ntmps42
    go_wp2
    go_ret
    exact ⟨rfl, rfl⟩

/-- What a node sends over one link. -/
def sendOne (n : Int) (x : Int × Int) (i : Nat) (l : Int × Int) : List (Int × Int) :=
  if (i : Int) = x.2 then [] else if l.1 = l.2 then [] else if insideB n l.1 = false then [] else if insideB n l.2 = false then [] else if x.1 = l.1 then [(l.2, (i : Int))] else if x.1 = l.2 then [(l.1, (i : Int))] else []
def sendN (n : Int) (x : Int × Int) (links : List (Int × Int)) : Nat → List (Int × Int)
  | 0 => []
  | i + 1 => sendN n x links i ++ sendOne n x i (links.getD i (0, 0))
theorem sendOne_len (n : Int) (x : Int × Int) (i : Nat) (l : Int × Int) : (sendOne n x i l).length ≤ 1 := by
  unfold sendOne
  repeat' split
  all_goals simp
theorem sendN_len (n : Int) (x : Int × Int) (links : List (Int × Int)) : ∀ i, (sendN n x links i).length ≤ i
  | 0 => Nat.le_refl _
  | i + 1 => by
    have h1 := sendN_len n x links i
    have h2 := sendOne_len n x i (links.getD i (0, 0))
    show (sendN n x links i ++ sendOne n x i (links.getD i (0, 0))).length ≤ i + 1
    rw [List.length_append]
    omega
/-- Nothing but the block Bb, the block ob and what is new has turned. -/
def Kept (Bb : Nat) (ob : Option Nat) (W W' : World) : Prop := W.heap.size ≤ W'.heap.size ∧ ∀ k, k < W.heap.size → k ≠ Bb → some k ≠ ob → W'.heap[k]? = W.heap[k]?
theorem Kept.refl (Bb : Nat) (ob : Option Nat) (W : World) : Kept Bb ob W W := ⟨Nat.le_refl _, fun _ _ _ _ => rfl⟩
theorem Kept.alloc {Bb : Nat} {ob : Option Nat} {W W' : World} (h : Kept Bb ob W W') (o : Obj) : Kept Bb ob W (W'.alloc o) :=
  ⟨Nat.le_trans h.1 (by simp), fun k hk h1 h2 => (Below.heap_alloc W' o k (Nat.lt_of_lt_of_le hk h.1)).trans (h.2 k hk h1 h2)⟩
theorem Kept.setBb {Bb : Nat} {ob : Option Nat} {W W' : World} (h : Kept Bb ob W W') (u : Value) : Kept Bb ob W (W'.setCell ⟨Bb, 0, none⟩ u) :=
  ⟨by simp only [World.setCell, Array.size_modify]; exact h.1, fun k hk h1 h2 => (Below.heap_setCell W' _ u k h1).trans (h.2 k hk h1 h2)⟩
theorem Kept.grown {Bb : Nat} {ob row : Option Nat} {W W' W2 : World} (h : Kept Bb ob W W') (hg : W'.grownBy W2 row) (hr : row = ob ∨ ∃ b, row = some b ∧ W.heap.size ≤ b) : Kept Bb ob W W2 :=
  ⟨Nat.le_trans h.1 hg.size, fun k hk h1 h2 => (hg.block k (Nat.lt_of_lt_of_le hk h.1) (by
    rcases hr with rfl | ⟨b, rfl, hb⟩
    · exact h2
    · intro e; cases e; omega)).trans (h.2 k hk h1 h2)⟩
theorem Kept.blk {Bb k : Nat} {ob : Option Nat} {W W' : World} {o : Obj} (h : Kept Bb ob W W') (hk : W.heap[k]? = some o) (h1 : k ≠ Bb) (h2 : some k ≠ ob) : W'.heap[k]? = some o :=
  (h.2 k (Array.getElem?_eq_some_iff.1 hk).1 h1 h2).trans hk
theorem up64 (i : Nat) (h : i + 1 ≤ 9223372036854775807) : wrap64 ((i : Int) + 1) = ((i + 1 : Nat) : Int) := by
  unfold wrap64
  omega


/-! ### The flood, as a plain function -/
/-- One arrival is taken: what has been reached, and what is on its way. -/
def stepSt (n : Int) (links : List (Int × Int)) (st : List Int × List (Int × Int)) (x : Int × Int) : List Int × List (Int × Int) :=
  if st.1.contains x.1 = true then st else (st.1 ++ [x.1], st.2 ++ sendN n x links links.length)
def flood (n : Int) (links : List (Int × Int)) : Nat → Nat → List Int × List (Int × Int) → Option (List Int × List (Int × Int))
  | 0, _, _ => none
  | k + 1, i, st => if i < st.2.length then flood n links k (i + 1) (stepSt n links st (st.2.getD i (0, 0))) else some st
theorem step_grows (n : Int) (links : List (Int × Int)) (st : List Int × List (Int × Int)) (x : Int × Int) : st.2.length ≤ (stepSt n links st x).2.length ∧ (stepSt n links st x).2.length ≤ st.2.length + links.length := by
  unfold stepSt
  have := sendN_len n x links links.length
  split
  · exact ⟨Nat.le_refl _, by omega⟩
  · simp only [List.length_append]
    omega
theorem flood_le (n : Int) (links : List (Int × Int)) {r : List Int × List (Int × Int)} : ∀ (k i : Nat) (st : List Int × List (Int × Int)), flood n links k i st = some r → st.2.length ≤ r.2.length
  | 0, _, _, h => by cases h
  | k + 1, i, st, h => by
    unfold flood at h
    split at h
    · exact Nat.le_trans (step_grows n links st _).1 (flood_le n links k _ _ h)
    · cases h
      exact Nat.le_refl _
def stOf (n : Int) (links : List (Int × Int)) (start : Int) (pre : List (Int × Int)) : List Int × List (Int × Int) := pre.foldl (stepSt n links) ([], [(start, -1)])
theorem stOf_snoc (n : Int) (links : List (Int × Int)) (start : Int) (pre : List (Int × Int)) (x : Int × Int) : stOf n links start (pre ++ [x]) = stepSt n links (stOf n links start pre) x := by
  unfold stOf
  rw [List.foldl_append]
  rfl
end Go.Proofs.YtfikhfahpdhjbaaDoor.Fl
