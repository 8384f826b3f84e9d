/- The iterator of hops.Flood: it hands over what lies in the buffer, which the rounds let grow. -/
import Derived.Test.YtfikhfahpdhjbaaDoorFlBase
import Derived.Test.YtfikhfahpdhjbaaDoorRk
import Derived.Shelf.Abstract
import Derived.WalkKit
import Derived.OwnWalkIn
import Derived.TacticsInMore
import Derived.LoopNIn
import Derived.LoopIn
namespace Go.Proofs.YtfikhfahpdhjbaaDoor.Fl
open Go.RowKit Go.Shelf Go.Proofs.YtfikhfahpdhjbaaDoorW.PrintWords Go.Proofs.YtfikhfahpdhjbaaDoor.Rk
attribute [local go_sem] Oper.semAt_some
set_option linter.unusedVariables false

def okA (n : Int) (links : List (Int × Int)) (start : Int) (pre : List (Int × Int)) (x : Int × Int) : Prop := pre.length < (stOf n links start pre).2.length ∧ x = (stOf n links start pre).2.getD pre.length (0, 0)
def finA (n : Int) (links : List (Int × Int)) (start : Int) (r : List Int × List (Int × Int)) (xs : List (Int × Int)) : Prop := stOf n links start xs = r

set_option maxHeartbeats 4000000 in
set_option maxRecDepth 100000 in
theorem waiting_runs (n : Int) (links : List (Int × Int)) (start : Int) (r : List Int × List (Int × Int)) (m B7 Bb base : Nat) (hm : 1 ≤ m) (ok : Nat → Prop) (hbig : r.2.length ≤ 1000000)
    (I : List (Int × Int) → World → Prop)
    (hI : ∀ pre W, I pre W → W.cell? ⟨B7, 0, none⟩ = some (.pointer (some ⟨Bb, 0, none⟩)) ∧ (∃ k, flood n links k pre.length (stOf n links start pre) = some r) ∧ pre.length ≤ (stOf n links start pre).2.length ∧ ∃ vb, W.cell? ⟨Bb, 0, none⟩ = some vb ∧ Kd.R kA 65 W base ok vb (stOf n links start pre).2) :
    Runs m Tryd.prog 57 #[.pointer (some ⟨B7, 0, none⟩)] (fun x : Int × Int => #[.agg #[.int .i64 x.1, .int .i64 x.2]]) I (okA n links start) (finA n links start r) := by
  intro l J W hJI hAb hY h0
  show CallsIn Fence.wide m Tryd.prog 57 #[.func (.yield l) #[] #[], .pointer (some ⟨B7, 0, none⟩)] W _
  refine callsIn_of_wp Tryd.func57 rfl trivial ?_ rfl
  simp only [Tryd.ntmps57, List.size_toArray, List.length_cons, List.length_nil, Nat.reduceAdd, Nat.reduceSub, Array.replicate_succ, Array.replicate_zero, List.push_toArray, List.append_toArray, List.nil_append, List.cons_append]
  gi_wp2
  gi_loopw [3] (fun i wr => ∃ pre : List (Int × Int), i = .int .i64 pre.length ∧ J pre wr) (fun i _ => r.2.length - (intOf i).toNat)
  case atStart => exact ⟨[], rfl, h0⟩
  case round =>
    obtain ⟨pre, rfl, hJ⟩ := hrel
    obtain ⟨z7, ⟨k, hk⟩, hle, vb, zb, hR⟩ := hI pre wr (hJI pre wr hJ)
    obtain ⟨A, c, rfl, hcap, hC⟩ := Kd.R_reads hR
    have hlen := flood_le n links k _ _ hk
    by_cases hlt : pre.length < (stOf n links start pre).2.length
    · obtain ⟨ad, e0, y0, y1⟩ := kA_at hC pre.length hlt
      obtain ⟨fn, tmps, assign, body, hy, hRd⟩ := hY pre _ wr hJ ⟨hlt, rfl⟩
      have c0 : decide ((pre.length : Int) < ((stOf n links start pre).2.length : Int)) = true := decide_eq_true (by omega)
      have c1 : (0 : Int) ≤ (pre.length : Int) := Int.natCast_nonneg _
      have c2 : (pre.length : Int) < ((stOf n links start pre).2.length : Int) := by omega
      subst e0
      generalize (stOf n links start pre).2.getD pre.length (0, 0) = x at y0 y1 hy hRd
      gi_wp2
      refine hRd.mono ?_
      rintro e W3 ⟨rfl, hJ3⟩
      gi_wp2
      go_roundw
      case rel => exact ⟨pre ++ [x], by first | (simp; done) | (rw [List.length_append]; rfl), hJ3⟩
      case measure => simp [intOf]; omega
    · have c0 : decide ((pre.length : Int) < ((stOf n links start pre).2.length : Int)) = false := decide_eq_false (by omega)
      have hfin : stOf n links start pre = r := by
        cases k with
        | zero => cases hk
        | succ k =>
          unfold flood at hk
          rw [if_neg hlt] at hk
          exact Option.some.inj hk
      have HF := Aside0.mk hfin
      clear hfin hk
      gi_wp2
      go_end0
      exact ⟨⟨_, rfl⟩, pre, HF.out, hJ⟩
end Go.Proofs.YtfikhfahpdhjbaaDoor.Fl
