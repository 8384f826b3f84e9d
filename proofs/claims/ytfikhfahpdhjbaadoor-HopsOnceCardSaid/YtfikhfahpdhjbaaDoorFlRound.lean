/- hops.Flood, walked. -/
import Derived.Test.YtfikhfahpdhjbaaDoorFlHead
namespace Go.Proofs.YtfikhfahpdhjbaaDoor.Fl
open Go.RowKit Go.Shelf Go.Proofs.YtfikhfahpdhjbaaDoorW.PrintWords Go.Proofs.YtfikhfahpdhjbaaDoorW.PrintMore Go.Proofs.YtfikhfahpdhjbaaDoor.Rk
attribute [local go_sem] Oper.semAt_some max2_int min2_int
set_option linter.unusedVariables false

theorem heap_allocs (w : World) (o : Obj) (k : Nat) : (w.alloc o).heap[k]? = if k = w.heap.size then some o else w.heap[k]? := by
  show (w.heap.push o)[k]? = _
  rw [Array.getElem?_push]

/-- What lies in memory where the loop begins. -/
theorem first_inv {k : Nat} {n : Int} {links : List (Int × Int)} {start : Int} {r : List Int × List (Int × Int)} (A0 : Option Addr) (c0 : Nat) (w0 : World) (hfl : flood n links k 0 ([], [(start, -1)]) = some r) :
    InvV n links start r A0 c0 w0 [] (.slice (some ⟨w0.heap.size + 3, 0, none⟩) 1 1) (.slice none 0 0)
      ((((((((w0.alloc (.cells #[.slice A0 links.length c0] 38)).alloc (.cells #[.int .i64 n] 3)).alloc (.cells #[.func (.func 42) #[] #[.pointer (some ⟨w0.heap.size + 1, 0, none⟩)]] 63)).alloc (.cells #[.int .i64 start, .int .i64 (-1)] 65)).alloc (.cells #[.slice (some ⟨w0.heap.size + 3, 0, none⟩) 1 1] 66)).alloc
        (.cells #[.func (.func 43) #[] #[.pointer (some ⟨w0.heap.size, 0, none⟩), .pointer (some ⟨w0.heap.size + 2, 0, none⟩), .pointer (some ⟨w0.heap.size + 4, 0, none⟩)]] 67)).alloc (.cells #[.slice none 0 0] 39)).alloc (.cells #[.pointer (some ⟨w0.heap.size + 4, 0, none⟩)] 71)) := by
  refine ⟨?_, by simp, (by simp only [heap_allocs, World.size_alloc]; repeat (first | rw [if_pos trivial] | rw [if_pos (by omega)] | rw [if_neg (by omega)])), (by simp only [heap_allocs, World.size_alloc]; repeat (first | rw [if_pos trivial] | rw [if_pos (by omega)] | rw [if_neg (by omega)])), (by simp only [heap_allocs, World.size_alloc]; repeat (first | rw [if_pos trivial] | rw [if_pos (by omega)] | rw [if_neg (by omega)])), (by simp only [heap_allocs, World.size_alloc]; repeat (first | rw [if_pos trivial] | rw [if_pos (by omega)] | rw [if_neg (by omega)])), (by simp only [heap_allocs, World.size_alloc]; repeat (first | rw [if_pos trivial] | rw [if_pos (by omega)] | rw [if_neg (by omega)])), ⟨k, hfl⟩, Nat.zero_le _, (by simp only [heap_allocs, World.size_alloc]; repeat (first | rw [if_pos trivial] | rw [if_pos (by omega)] | rw [if_neg (by omega)])), (by simp only [heap_allocs, World.size_alloc]; repeat (first | rw [if_pos trivial] | rw [if_pos (by omega)] | rw [if_neg (by omega)])), ?_, Kd.R_nil _ _ _ _ _, ?_⟩
  · iterate 7 refine Below.alloc ?_ (by simp only [World.size_alloc]; omega) _
    exact (Below.refl _ _).alloc (Nat.le_refl _) _
  · refine ⟨fun b hb => .inl ?_, [.int .i64 start, .int .i64 (-1)], ⟨rfl, .inr ⟨w0.heap.size + 3, 1, _, rfl, by omega, by simp only [heap_allocs, World.size_alloc]; repeat (first | rw [if_pos trivial] | rw [if_pos (by omega)] | rw [if_neg (by omega)]), Nat.le_refl _, by decide, rfl, rfl⟩⟩, ?_⟩
    · have : w0.heap.size + 3 = b := by simpa [Value.ownBlock] using hb
      exact this.symm
    · refine ⟨rfl, fun j p hj => ?_⟩
      cases j with
      | zero =>
        have : (start, (-1 : Int)) = p := Option.some.inj hj
        subst this
        exact kA_mk _ _ _ _
      | succ j => cases hj
  · intro b _ h
    cases h

set_option maxHeartbeats 1000000 in
/-- A round that takes an arrival: what is appended, what is sent. -/
theorem round_send {n : Int} {links : List (Int × Int)} {start : Int} {r : List Int × List (Int × Int)} {A0 : Option Addr} {c0 : Nat} {w0 W : World} {pre : List (Int × Int)} {vb vo : Value} {x : Int × Int} {Bx : Nat}
    (hC : Kd.C kA w0 A0 links.length links) (hlk : links.length ≤ 1000000) (hrl : r.2.length ≤ 1000000) (hok : okA n links start pre x) (hinv : InvV n links start r A0 c0 w0 pre vb vo W) (hBx : w0.heap.size + 8 ≤ Bx) (hbx : W.heap[Bx]? = some (.cells #[.int .i64 x.1, .int .i64 x.2] 65 (0, 0))) (hnb : vb.ownBlock ≠ some Bx) (hno : vo.ownBlock ≠ some Bx)
    (hc : (stOf n links start pre).1.contains x.1 = false) (v4 : Value) (w4 : World) (ho : Kd.R (Kd.int .i64) 3 w4 w0.heap.size (fun k => w0.heap.size + 8 ≤ k) v4 ((stOf n links start pre).1 ++ [x.1])) (hb4 : Below w0.heap.size w0 w4) (hg4 : W.grownBy w4 vo.ownBlock) (hat4 : v4.ownBlock = vo.ownBlock ∨ ∃ b, v4.ownBlock = some b ∧ W.heap.size ≤ b) :
    (∃ g c, v4 = .slice (some ⟨g, 0, none⟩) ((stOf n links start pre).1.length + 1) c) ∧ w4.cell? ⟨w0.heap.size + 6, 0, none⟩ = some vo ∧ w4.frozen? ⟨w0.heap.size + 6, 0, none⟩ = false ∧
    ((w4.setCell ⟨w0.heap.size + 6, 0, none⟩ v4).cell? ⟨w0.heap.size + 5, 0, none⟩ = some (.func (.func 43) #[] #[.pointer (some ⟨w0.heap.size, 0, none⟩), .pointer (some ⟨w0.heap.size + 2, 0, none⟩), .pointer (some ⟨w0.heap.size + 4, 0, none⟩)]) ∧
     (w4.setCell ⟨w0.heap.size + 6, 0, none⟩ v4).cell? ⟨Bx, 0, none⟩ = some (.int .i64 x.1) ∧ (w4.setCell ⟨w0.heap.size + 6, 0, none⟩ v4).cell? ⟨Bx, 1, none⟩ = some (.int .i64 x.2) ∧
     Calls Tryd.prog 43 #[.agg #[.int .i64 x.1, .int .i64 x.2], .pointer (some ⟨w0.heap.size, 0, none⟩), .pointer (some ⟨w0.heap.size + 2, 0, none⟩), .pointer (some ⟨w0.heap.size + 4, 0, none⟩)] (w4.setCell ⟨w0.heap.size + 6, 0, none⟩ v4)
       fun e W6 => e = .returned (.tuple #[]) ∧ KeepsFrom (w0.heap.size + 8) W W6 ∧ ∃ vb vo, InvV n links start r A0 c0 w0 (pre ++ [x]) vb vo W6) := by
  obtain ⟨hf', hlen'⟩ := flood_next hinv.2.2.2.2.2.2.2.1 hok
  obtain ⟨hBW, hs, h0, h1, h2, h5, h7, hf, hl, h4, h6, hRb, hRo, hne⟩ := hinv
  have hst : stOf n links start (pre ++ [x]) = ((stOf n links start pre).1 ++ [x.1], (stOf n links start pre).2 ++ sendN n x links links.length) := by
    rw [stOf_snoc]
    unfold stepSt
    rw [if_neg (by rw [hc]; decide)]
  rw [hst] at hf' hlen'
  have hvo : ∀ k, vo.ownBlock = some k → w0.heap.size + 8 ≤ k := hRo.1
  have hvb : ∀ k, vb.ownBlock = some k → (k = w0.heap.size + 3 ∨ w0.heap.size + 8 ≤ k) ∧ k < W.heap.size := fun k hk => ⟨hRb.1 k hk, ((Kd.R_bound hRb).1 k hk).2.2.1⟩
  obtain ⟨W5, hW5⟩ : ∃ W5, W5 = w4.setCell ⟨w0.heap.size + 6, 0, none⟩ v4 := ⟨_, rfl⟩
  have s4 : W.heap.size ≤ w4.heap.size := hg4.size
  have s5 : W5.heap.size = w4.heap.size := by rw [hW5]; simp only [World.setCell, Array.size_modify]
  have k4 : ∀ k o, W.heap[k]? = some o → some k ≠ vo.ownBlock → w4.heap[k]? = some o := fun k o hk hn => blk_grown hk hg4 hn
  have k5 : ∀ k o, W.heap[k]? = some o → some k ≠ vo.ownBlock → k ≠ w0.heap.size + 6 → W5.heap[k]? = some o := fun k o hk hn hn6 => by
    rw [hW5]
    exact (Below.heap_setCell w4 ⟨w0.heap.size + 6, 0, none⟩ v4 k hn6).trans (k4 k o hk hn)
  have low : ∀ k, k < w0.heap.size + 8 → some k ≠ vo.ownBlock := fun k hk e => by have := hvo k e.symm; omega
  have hbx5 := k5 Bx _ hbx (fun e => hno e.symm) (by omega)
  have h65 : W5.heap[w0.heap.size + 6]? = some (.cells #[v4] 39 (0, 0)) := by
    rw [hW5]
    exact blk_set (k4 _ _ h6 (low _ (by omega))) 0 v4
  have hB5 : Below w0.heap.size w0 W5 := hW5 ▸ hb4.setCell (p := ⟨w0.heap.size + 6, 0, none⟩) (by show w0.heap.size ≤ w0.heap.size + 6; omega) v4
  have hRb5 : Kd.R kA 65 W5 w0.heap.size (fun k => k = w0.heap.size + 3 ∨ w0.heap.size + 8 ≤ k) vb (stOf n links start pre).2 := R_own1 hRb rfl fun k hk => by
    obtain ⟨cells, hc'⟩ := own_typed (Kd.R_own hRb).choose_spec k hk.symm
    rw [k5 k _ hc' (fun e => hne k hk.symm e.symm) (by have := (hvb k hk.symm).1; omega), hc']
  have hRo5 : Kd.R (Kd.int .i64) 3 W5 w0.heap.size (fun k => w0.heap.size + 8 ≤ k) v4 ((stOf n links start pre).1 ++ [x.1]) := by
    rw [hW5]
    exact Kd.R_far ho (fun k hk => by show k ≠ w0.heap.size + 6; omega) v4
  have hfl : ((stOf n links start pre).2 ++ sendN n x links links.length).length ≤ 1000000 := by
    obtain ⟨k, hk⟩ := hf'
    have := flood_le n links k _ _ hk
    exact Nat.le_trans this hrl
  have hfl2 : (stOf n links start pre).2.length ≤ 1000000 := by rw [List.length_append] at hfl; omega
  refine ⟨?_, (blk_cell (k4 _ _ h6 (low _ (by omega))) 0).trans rfl, blk_frozen (k4 _ _ h6 (low _ (by omega))) 0, ?_⟩
  · obtain ⟨inner, hown4⟩ := Kd.R_own ho
    rw [List.length_append, List.length_singleton] at hown4
    exact ownsRow_succ hown4
  · rw [← hW5]
    refine ⟨(blk_cell (k5 _ _ h5 (low _ (by omega)) (by omega)) 0).trans rfl, (blk_cell hbx5 0).trans rfl, (blk_cell hbx5 1).trans rfl, ?_⟩
    refine (send1 n links A0 c0 x (stOf n links start pre).2 vb w0.heap.size (w0.heap.size + 2) (w0.heap.size + 1) (w0.heap.size + 4) w0 W5 (fun k => k = w0.heap.size + 3 ∨ w0.heap.size + 8 ≤ k) hC hB5 (by omega)
      (k5 _ _ h0 (low _ (by omega)) (by omega)) (k5 _ _ h2 (low _ (by omega)) (by omega)) (k5 _ _ h1 (low _ (by omega)) (by omega)) (k5 _ _ h4 (low _ (by omega)) (by omega)) ⟨by omega, by omega, by omega⟩ (by omega) hRb5 (fun k hk => ⟨by omega, by omega, by omega, by omega⟩) (fun k hk => .inr (by omega))).mono ?_
    rintro e W6 ⟨he, v', hb6, hR6, hB6, hK6, hat6⟩
    have low5 : ∀ k, k < w0.heap.size + 8 → k ≠ w0.heap.size + 3 → some k ≠ vb.ownBlock := fun k hk h3 e => by have := (hvb k e.symm).1; omega
    have nb4 : ∀ k, v4.ownBlock = some k → some k ≠ vb.ownBlock ∧ k ≠ w0.heap.size + 4 := fun k hk => by
      have h8 := ho.1 k hk
      refine ⟨fun e => ?_, by omega⟩
      rcases hat4 with h | ⟨b, h, hb⟩
      · exact hne k e.symm (h ▸ hk)
      · rw [hk] at h
        cases h
        have := (hvb k e.symm).2
        omega
    refine ⟨he, ⟨Nat.le_trans s4 (Nat.le_trans (Nat.le_of_eq s5.symm) hK6.1), fun k o hB hk hncell => ?_⟩, v', v4, hB6, Nat.le_trans hs (Nat.le_trans s4 (Nat.le_trans (Nat.le_of_eq s5.symm) hK6.1)), ?_, ?_, ?_, ?_, ?_, by rw [hst]; exact hf', by rw [hst]; exact hlen', hb6, ?_, by rw [hst]; exact hR6, ?_, ?_⟩
    · have nvo : some k ≠ vo.ownBlock := fun e => by
        obtain ⟨cells, hc'⟩ := own_typed (Kd.R_own hRo).choose_spec k e.symm
        rw [hc'] at hk
        cases hk
        cases hncell
      have nvb : some k ≠ vb.ownBlock := fun e => by
        obtain ⟨cells, hc'⟩ := own_typed (Kd.R_own hRb).choose_spec k e.symm
        rw [hc'] at hk
        cases hk
        cases hncell
      exact hK6.blk (k5 k o hk nvo (by omega)) (by omega) nvb
    · exact hK6.blk (k5 _ _ h0 (low _ (by omega)) (by omega)) (by omega) (low5 _ (by omega) (by omega))
    · exact hK6.blk (k5 _ _ h1 (low _ (by omega)) (by omega)) (by omega) (low5 _ (by omega) (by omega))
    · exact hK6.blk (k5 _ _ h2 (low _ (by omega)) (by omega)) (by omega) (low5 _ (by omega) (by omega))
    · exact hK6.blk (k5 _ _ h5 (low _ (by omega)) (by omega)) (by omega) (low5 _ (by omega) (by omega))
    · exact hK6.blk (k5 _ _ h7 (low _ (by omega)) (by omega)) (by omega) (low5 _ (by omega) (by omega))
    · exact hK6.blk h65 (by omega) (low5 _ (by omega) (by omega))
    · rw [hst]
      refine R_own1 hRo5 rfl fun k hk => ?_
      obtain ⟨cells, hc'⟩ := own_typed (Kd.R_own hRo5).choose_spec k hk.symm
      rw [hc']
      exact hK6.blk hc' (nb4 k hk.symm).2 (nb4 k hk.symm).1
    · intro b hb e
      rcases hat6 with h | ⟨b2, h, hb2⟩
      · exact (nb4 b e).1 (h ▸ hb).symm
      · rw [hb] at h
        cases h
        have := ((Kd.R_bound hRo5).1 b e).2.2.1
        omega
/-- What has been reached is no more than what was on its way. -/
theorem st_le (n : Int) (links : List (Int × Int)) (start : Int) : ∀ pre : List (Int × Int), (stOf n links start pre).1.length ≤ pre.length := by
  intro pre
  generalize hm : pre.length = m
  induction m generalizing pre with
  | zero =>
    rw [List.length_eq_zero_iff.1 hm]
    exact Nat.le_refl _
  | succ m ih =>
    obtain ⟨pre, x, rfl⟩ : ∃ p y, pre = p ++ [y] := ⟨pre.dropLast, pre.getLast (by intro e; rw [e] at hm; cases hm), (List.dropLast_concat_getLast _).symm⟩
    rw [List.length_append, List.length_singleton] at hm
    have ih := ih pre (by omega)
    rw [stOf_snoc]
    unfold stepSt
    split
    · omega
    · simp only [List.length_append, List.length_singleton]
      omega
theorem lenO {n : Int} {links : List (Int × Int)} {start : Int} {r : List Int × List (Int × Int)} {pre : List (Int × Int)} (hf : ∃ k, flood n links k pre.length (stOf n links start pre) = some r) (hl : pre.length ≤ (stOf n links start pre).2.length) (hrl : r.2.length ≤ 1000000) : (stOf n links start pre).1.length ≤ 1000001 := by
  obtain ⟨k, hk⟩ := hf
  have := flood_le n links k _ _ hk
  have := st_le n links start pre
  omega
end Go.Proofs.YtfikhfahpdhjbaaDoor.Fl
