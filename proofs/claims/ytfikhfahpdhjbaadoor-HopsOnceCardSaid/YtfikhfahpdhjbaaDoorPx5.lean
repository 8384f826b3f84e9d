/- Printed by a program of this session (wip/tools) over the translation: Go functions as plain Lean functions, and their contracts. -/
import Derived.Test.YtfikhfahpdhjbaaDoorPx0
namespace Go.Proofs.YtfikhfahpdhjbaaDoor.P
open Go.RowKit Go.Proofs.YtfikhfahpdhjbaaDoorW.PrintWords Go.Proofs.YtfikhfahpdhjbaaDoorW.PrintLast Go.Proofs.YtfikhfahpdhjbaaDoorW.PrintMore
attribute [local go_sem] max2_int min2_int max_two min_two max_three min_three max_four min_four str_gtr str_leq str_geq   -- for this text's walks alone
set_option linter.unusedVariables false
set_option linter.unusedSimpArgs false

/-! ### hops_Flood: function 22, by hand -/
theorem C_pairs {w : World} {A : Option Addr} {n : Nat} {xs : List S48} (h : Kd.C k48 w A n xs) : Kd.C Fl.kA w A n (xs.map fun x => (x.f0, x.f1)) := by
 refine ⟨(List.length_map _).trans h.1, h.2.1, fun hp => ?_⟩
 obtain ⟨ad, e, hc⟩ := h.2.2 hp
 refine ⟨ad, e, fun j p hj => ?_⟩
 rw [List.getElem?_map] at hj
 obtain ⟨x, hx, rfl⟩ := Option.map_eq_some_iff.1 hj
 obtain ⟨c, hl, hK, hcc⟩ := hc j x hx
 obtain rfl := k48_open hK
 exact ⟨_, rfl, ⟨[.int .i64 x.f0], [.int .i64 x.f1], rfl, rfl, rfl⟩, hcc⟩
def hops_Flood.f (k : Nat) (l0 : List (S48)) (a1 : Int) (a2 : Int) : Option ((List Int) × Int) := Fl.floodF k (l0.map fun x => (x.f0, x.f1)) a1 a2
theorem hops_Flood.mono : ∀ a0 a1 a2 k, LeO (hops_Flood.f k a0 a1 a2) (hops_Flood.f (k + 1) a0 a1 a2) := by
 intro a0 a1 a2 k
 exact Fl.floodF_mono k _ a1 a2
theorem hops_Flood.calls (k : Nat) (A0 : Option Addr) (c0 : Nat) (l0 : List (S48)) (a1 : Int) (a2 : Int) (r1 : List Int) (r2 : Int) (w : World) (hr0 : Kd.C k48 w A0 l0.length l0) (hc0 : l0.length ≤ c0) (h : hops_Flood.f k l0 a1 a2 = some (r1, r2)) :
  Calls Tryd.prog 22 #[.slice A0 l0.length c0, .int .i64 a1, .int .i64 a2] w fun e w' => ∃ v0_ : Value, e = .returned (.tuple #[v0_, .int .i64 r2]) ∧ Kd.R (Kd.int .i64) 3 w' w.heap.size (fun _ => True) v0_ r1 ∧ Below w.heap.size w w' := by
 have hC := C_pairs hr0
 have e : l0.length = (l0.map fun x => (x.f0, x.f1)).length := (List.length_map _).symm
 rw [e] at hC ⊢
 exact Fl.Flood_calls k _ A0 c0 a1 a2 r1 r2 w hC h


end Go.Proofs.YtfikhfahpdhjbaaDoor.P
