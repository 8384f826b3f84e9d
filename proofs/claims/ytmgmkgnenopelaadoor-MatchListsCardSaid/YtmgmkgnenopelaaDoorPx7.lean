/- Printed by a program of this session (wip/tools) over the translation: Go functions as plain Lean functions, and their contracts. -/
import Derived.Test.YtmgmkgnenopelaaDoorPx0
import Derived.Test.YtmgmkgnenopelaaDoorPx1
import Derived.Test.YtmgmkgnenopelaaDoorPx3
import Derived.Test.YtmgmkgnenopelaaDoorPx4
import Derived.Test.YtmgmkgnenopelaaDoorPx5
import Derived.Test.YtmgmkgnenopelaaDoorPx6
namespace Go.Proofs.YtmgmkgnenopelaaDoor.P
open Go.RowKit Go.Proofs.YtmgmkgnenopelaaDoorW.PrintWords Go.Proofs.YtmgmkgnenopelaaDoorW.PrintLast Go.Proofs.YtmgmkgnenopelaaDoorW.PrintMore
attribute [local go_sem] max2_int min2_int max_two min_two max_three min_three max_four min_four   -- for this text's walks alone
set_option linter.unusedVariables false
set_option linter.unusedSimpArgs false

/-! ### brokerlaw02_awake: function 10 -/
def brokerlaw02_awake.f (k : Nat)  : Option (Bool) := (match_Common.f k (⟨#[97, 47, 43, 47, 99]⟩ : ByteArray) (⟨#[43, 47, 98, 47, 35]⟩ : ByteArray)).bind fun bt266 => ((match_Matches.f k (⟨#[115, 112, 111, 114, 116, 47, 43, 47, 115, 99, 111, 114, 101]⟩ : ByteArray) (⟨#[115, 112, 111, 114, 116, 47, 116, 101, 110, 110, 105, 115, 47, 115, 99, 111, 114, 101]⟩ : ByteArray)).bind fun t268 => (if t268 = true then ((match_Matches.f k (⟨#[115, 112, 111, 114, 116, 47, 43, 47, 115, 99, 111, 114, 101]⟩ : ByteArray) (⟨#[115, 112, 111, 114, 116, 47, 116, 101, 110, 110, 105, 115]⟩ : ByteArray)).bind fun t269 => (if t269 = true then (some false) else ((match_Matches.f k (⟨#[115, 112, 111, 114, 116, 47, 35]⟩ : ByteArray) (⟨#[115, 112, 111, 114, 116]⟩ : ByteArray)).bind fun t270 => (if t270 = true then ((match_Matches.f k (⟨#[43]⟩ : ByteArray) (⟨#[36, 115, 121, 115]⟩ : ByteArray)).bind fun t271 => (if t271 = true then (some false) else ((match_Covers.f k (⟨#[97, 47, 35]⟩ : ByteArray) (⟨#[97, 47, 43, 47, 98, 47, 35]⟩ : ByteArray)).bind fun t272 => (if t272 = true then ((match_Covers.f k (⟨#[43, 47, 35]⟩ : ByteArray) (⟨#[35]⟩ : ByteArray)).bind fun t273 => (if t273 = true then (some false) else ((match_Meets.f k (⟨#[97, 47, 35]⟩ : ByteArray) (⟨#[43, 47, 43]⟩ : ByteArray)).bind fun t274 => (if t274 = true then ((match_Meets.f k (⟨#[43]⟩ : ByteArray) (⟨#[36, 115, 121, 115]⟩ : ByteArray)).bind fun t275 => (if t275 = true then (some false) else (if bt266.1.toList = ([97, 47, 98, 47, 99] : List UInt8) then (if bt266.2 = true then ((match_Narrow.f k (([(⟨#[97, 47, 98]⟩ : ByteArray), (⟨#[97, 47, 35]⟩ : ByteArray), (⟨#[43, 47, 98]⟩ : ByteArray), (⟨#[97, 47, 35]⟩ : ByteArray)] : List ByteArray))).bind fun t279 => ((brokerref01_Same.f k t279 (([(⟨#[97, 47, 35]⟩ : ByteArray), (⟨#[43, 47, 98]⟩ : ByteArray)] : List ByteArray))).bind fun t285 => (if t285 = true then ((match_Select.f k (⟨#[97, 47, 43]⟩ : ByteArray) (([(⟨#[97]⟩ : ByteArray), (⟨#[97, 47, 98]⟩ : ByteArray)] : List ByteArray))).bind fun t289 => ((brokerref01_Same.f k t289 (([(⟨#[97, 47, 98]⟩ : ByteArray)] : List ByteArray))).bind fun t295 => (some t295))) else (some false)))) else (some false)) else (some false)))) else (some false))))) else (some false))))) else (some false))))) else (some false)))
theorem brokerlaw02_awake.mono : ∀ k, LeO (brokerlaw02_awake.f k ) (brokerlaw02_awake.f (k + 1) ) := by
 intro  k
 unfold brokerlaw02_awake.f
 repeat' first
   | (with_reducible exact brokerref01_Same.mono _ _ _)
   | (with_reducible exact match_Common.mono _ _ _)
   | (with_reducible exact match_Covers.mono _ _ _)
   | (with_reducible exact match_Matches.mono _ _ _)
   | (with_reducible exact match_Meets.mono _ _ _)
   | (with_reducible exact match_Narrow.mono _ _)
   | (with_reducible exact match_Select.mono _ _ _)
   | (with_reducible exact LeO.refl _)
   | (with_reducible exact LeO.none _)
   | (with_reducible refine LeO.ite ?_ ?_)
   | (with_reducible refine LeO.bind ?_ (fun _ => ?_))
   | exact brokerref01_Same.mono _ _ _
   | exact match_Common.mono _ _ _
   | exact match_Covers.mono _ _ _
   | exact match_Matches.mono _ _ _
   | exact match_Meets.mono _ _ _
   | exact match_Narrow.mono _ _
   | exact match_Select.mono _ _ _
   | exact LeO.none _
   | refine LeO.ite ?_ ?_
   | refine LeO.bind ?_ (fun _ => ?_)
set_option maxHeartbeats 8000000 in
set_option maxRecDepth 100000 in
theorem brokerlaw02_awake.calls (k : Nat)  (r : Bool) (w : World) (h : brokerlaw02_awake.f k  = some r) :
  Calls Tryd.prog 10 #[] w fun e w' => e = .returned (.bool r) ∧ Below w.heap.size w w' := by
 have HB := Aside0.mk (Below.refl w.heap.size w)
 have H : ((match_Common.f k (⟨#[97, 47, 43, 47, 99]⟩ : ByteArray) (⟨#[43, 47, 98, 47, 35]⟩ : ByteArray)).bind fun bt266 => ((match_Matches.f k (⟨#[115, 112, 111, 114, 116, 47, 43, 47, 115, 99, 111, 114, 101]⟩ : ByteArray) (⟨#[115, 112, 111, 114, 116, 47, 116, 101, 110, 110, 105, 115, 47, 115, 99, 111, 114, 101]⟩ : ByteArray)).bind fun t268 => (if t268 = true then ((match_Matches.f k (⟨#[115, 112, 111, 114, 116, 47, 43, 47, 115, 99, 111, 114, 101]⟩ : ByteArray) (⟨#[115, 112, 111, 114, 116, 47, 116, 101, 110, 110, 105, 115]⟩ : ByteArray)).bind fun t269 => (if t269 = true then (some false) else ((match_Matches.f k (⟨#[115, 112, 111, 114, 116, 47, 35]⟩ : ByteArray) (⟨#[115, 112, 111, 114, 116]⟩ : ByteArray)).bind fun t270 => (if t270 = true then ((match_Matches.f k (⟨#[43]⟩ : ByteArray) (⟨#[36, 115, 121, 115]⟩ : ByteArray)).bind fun t271 => (if t271 = true then (some false) else ((match_Covers.f k (⟨#[97, 47, 35]⟩ : ByteArray) (⟨#[97, 47, 43, 47, 98, 47, 35]⟩ : ByteArray)).bind fun t272 => (if t272 = true then ((match_Covers.f k (⟨#[43, 47, 35]⟩ : ByteArray) (⟨#[35]⟩ : ByteArray)).bind fun t273 => (if t273 = true then (some false) else ((match_Meets.f k (⟨#[97, 47, 35]⟩ : ByteArray) (⟨#[43, 47, 43]⟩ : ByteArray)).bind fun t274 => (if t274 = true then ((match_Meets.f k (⟨#[43]⟩ : ByteArray) (⟨#[36, 115, 121, 115]⟩ : ByteArray)).bind fun t275 => (if t275 = true then (some false) else (if bt266.1.toList = ([97, 47, 98, 47, 99] : List UInt8) then (if bt266.2 = true then ((match_Narrow.f k (([(⟨#[97, 47, 98]⟩ : ByteArray), (⟨#[97, 47, 35]⟩ : ByteArray), (⟨#[43, 47, 98]⟩ : ByteArray), (⟨#[97, 47, 35]⟩ : ByteArray)] : List ByteArray))).bind fun t279 => ((brokerref01_Same.f k t279 (([(⟨#[97, 47, 35]⟩ : ByteArray), (⟨#[43, 47, 98]⟩ : ByteArray)] : List ByteArray))).bind fun t285 => (if t285 = true then ((match_Select.f k (⟨#[97, 47, 43]⟩ : ByteArray) (([(⟨#[97]⟩ : ByteArray), (⟨#[97, 47, 98]⟩ : ByteArray)] : List ByteArray))).bind fun t289 => ((brokerref01_Same.f k t289 (([(⟨#[97, 47, 98]⟩ : ByteArray)] : List ByteArray))).bind fun t295 => (some t295))) else (some false)))) else (some false)) else (some false)))) else (some false))))) else (some false))))) else (some false))))) else (some false)))) = some r := h
 clear h
 replace H := Option.bind_eq_some_iff.mp H
 obtain ⟨⟨t266, t267⟩, A10, H⟩ := H
 replace H : ((match_Matches.f k (⟨#[115, 112, 111, 114, 116, 47, 43, 47, 115, 99, 111, 114, 101]⟩ : ByteArray) (⟨#[115, 112, 111, 114, 116, 47, 116, 101, 110, 110, 105, 115, 47, 115, 99, 111, 114, 101]⟩ : ByteArray)).bind fun t268 => (if t268 = true then ((match_Matches.f k (⟨#[115, 112, 111, 114, 116, 47, 43, 47, 115, 99, 111, 114, 101]⟩ : ByteArray) (⟨#[115, 112, 111, 114, 116, 47, 116, 101, 110, 110, 105, 115]⟩ : ByteArray)).bind fun t269 => (if t269 = true then (some false) else ((match_Matches.f k (⟨#[115, 112, 111, 114, 116, 47, 35]⟩ : ByteArray) (⟨#[115, 112, 111, 114, 116]⟩ : ByteArray)).bind fun t270 => (if t270 = true then ((match_Matches.f k (⟨#[43]⟩ : ByteArray) (⟨#[36, 115, 121, 115]⟩ : ByteArray)).bind fun t271 => (if t271 = true then (some false) else ((match_Covers.f k (⟨#[97, 47, 35]⟩ : ByteArray) (⟨#[97, 47, 43, 47, 98, 47, 35]⟩ : ByteArray)).bind fun t272 => (if t272 = true then ((match_Covers.f k (⟨#[43, 47, 35]⟩ : ByteArray) (⟨#[35]⟩ : ByteArray)).bind fun t273 => (if t273 = true then (some false) else ((match_Meets.f k (⟨#[97, 47, 35]⟩ : ByteArray) (⟨#[43, 47, 43]⟩ : ByteArray)).bind fun t274 => (if t274 = true then ((match_Meets.f k (⟨#[43]⟩ : ByteArray) (⟨#[36, 115, 121, 115]⟩ : ByteArray)).bind fun t275 => (if t275 = true then (some false) else (if t266.toList = ([97, 47, 98, 47, 99] : List UInt8) then (if t267 = true then ((match_Narrow.f k (([(⟨#[97, 47, 98]⟩ : ByteArray), (⟨#[97, 47, 35]⟩ : ByteArray), (⟨#[43, 47, 98]⟩ : ByteArray), (⟨#[97, 47, 35]⟩ : ByteArray)] : List ByteArray))).bind fun t279 => ((brokerref01_Same.f k t279 (([(⟨#[97, 47, 35]⟩ : ByteArray), (⟨#[43, 47, 98]⟩ : ByteArray)] : List ByteArray))).bind fun t285 => (if t285 = true then ((match_Select.f k (⟨#[97, 47, 43]⟩ : ByteArray) (([(⟨#[97]⟩ : ByteArray), (⟨#[97, 47, 98]⟩ : ByteArray)] : List ByteArray))).bind fun t289 => ((brokerref01_Same.f k t289 (([(⟨#[97, 47, 98]⟩ : ByteArray)] : List ByteArray))).bind fun t295 => (some t295))) else (some false)))) else (some false)) else (some false)))) else (some false))))) else (some false))))) else (some false))))) else (some false))) = some r := H
 have A1 := Aside0.mk A10
 clear A10
 replace H := Option.bind_eq_some_iff.mp H
 obtain ⟨t268, A20, H⟩ := H
 replace H : (if t268 = true then ((match_Matches.f k (⟨#[115, 112, 111, 114, 116, 47, 43, 47, 115, 99, 111, 114, 101]⟩ : ByteArray) (⟨#[115, 112, 111, 114, 116, 47, 116, 101, 110, 110, 105, 115]⟩ : ByteArray)).bind fun t269 => (if t269 = true then (some false) else ((match_Matches.f k (⟨#[115, 112, 111, 114, 116, 47, 35]⟩ : ByteArray) (⟨#[115, 112, 111, 114, 116]⟩ : ByteArray)).bind fun t270 => (if t270 = true then ((match_Matches.f k (⟨#[43]⟩ : ByteArray) (⟨#[36, 115, 121, 115]⟩ : ByteArray)).bind fun t271 => (if t271 = true then (some false) else ((match_Covers.f k (⟨#[97, 47, 35]⟩ : ByteArray) (⟨#[97, 47, 43, 47, 98, 47, 35]⟩ : ByteArray)).bind fun t272 => (if t272 = true then ((match_Covers.f k (⟨#[43, 47, 35]⟩ : ByteArray) (⟨#[35]⟩ : ByteArray)).bind fun t273 => (if t273 = true then (some false) else ((match_Meets.f k (⟨#[97, 47, 35]⟩ : ByteArray) (⟨#[43, 47, 43]⟩ : ByteArray)).bind fun t274 => (if t274 = true then ((match_Meets.f k (⟨#[43]⟩ : ByteArray) (⟨#[36, 115, 121, 115]⟩ : ByteArray)).bind fun t275 => (if t275 = true then (some false) else (if t266.toList = ([97, 47, 98, 47, 99] : List UInt8) then (if t267 = true then ((match_Narrow.f k (([(⟨#[97, 47, 98]⟩ : ByteArray), (⟨#[97, 47, 35]⟩ : ByteArray), (⟨#[43, 47, 98]⟩ : ByteArray), (⟨#[97, 47, 35]⟩ : ByteArray)] : List ByteArray))).bind fun t279 => ((brokerref01_Same.f k t279 (([(⟨#[97, 47, 35]⟩ : ByteArray), (⟨#[43, 47, 98]⟩ : ByteArray)] : List ByteArray))).bind fun t285 => (if t285 = true then ((match_Select.f k (⟨#[97, 47, 43]⟩ : ByteArray) (([(⟨#[97]⟩ : ByteArray), (⟨#[97, 47, 98]⟩ : ByteArray)] : List ByteArray))).bind fun t289 => ((brokerref01_Same.f k t289 (([(⟨#[97, 47, 98]⟩ : ByteArray)] : List ByteArray))).bind fun t295 => (some t295))) else (some false)))) else (some false)) else (some false)))) else (some false))))) else (some false))))) else (some false))))) else (some false)) = some r := H
 have A2 := Aside0.mk A20
 clear A20
 by_cases c3 : t268 = true
 ·subst c3
  have H1 : ((match_Matches.f k (⟨#[115, 112, 111, 114, 116, 47, 43, 47, 115, 99, 111, 114, 101]⟩ : ByteArray) (⟨#[115, 112, 111, 114, 116, 47, 116, 101, 110, 110, 105, 115]⟩ : ByteArray)).bind fun t269 => (if t269 = true then (some false) else ((match_Matches.f k (⟨#[115, 112, 111, 114, 116, 47, 35]⟩ : ByteArray) (⟨#[115, 112, 111, 114, 116]⟩ : ByteArray)).bind fun t270 => (if t270 = true then ((match_Matches.f k (⟨#[43]⟩ : ByteArray) (⟨#[36, 115, 121, 115]⟩ : ByteArray)).bind fun t271 => (if t271 = true then (some false) else ((match_Covers.f k (⟨#[97, 47, 35]⟩ : ByteArray) (⟨#[97, 47, 43, 47, 98, 47, 35]⟩ : ByteArray)).bind fun t272 => (if t272 = true then ((match_Covers.f k (⟨#[43, 47, 35]⟩ : ByteArray) (⟨#[35]⟩ : ByteArray)).bind fun t273 => (if t273 = true then (some false) else ((match_Meets.f k (⟨#[97, 47, 35]⟩ : ByteArray) (⟨#[43, 47, 43]⟩ : ByteArray)).bind fun t274 => (if t274 = true then ((match_Meets.f k (⟨#[43]⟩ : ByteArray) (⟨#[36, 115, 121, 115]⟩ : ByteArray)).bind fun t275 => (if t275 = true then (some false) else (if t266.toList = ([97, 47, 98, 47, 99] : List UInt8) then (if t267 = true then ((match_Narrow.f k (([(⟨#[97, 47, 98]⟩ : ByteArray), (⟨#[97, 47, 35]⟩ : ByteArray), (⟨#[43, 47, 98]⟩ : ByteArray), (⟨#[97, 47, 35]⟩ : ByteArray)] : List ByteArray))).bind fun t279 => ((brokerref01_Same.f k t279 (([(⟨#[97, 47, 35]⟩ : ByteArray), (⟨#[43, 47, 98]⟩ : ByteArray)] : List ByteArray))).bind fun t285 => (if t285 = true then ((match_Select.f k (⟨#[97, 47, 43]⟩ : ByteArray) (([(⟨#[97]⟩ : ByteArray), (⟨#[97, 47, 98]⟩ : ByteArray)] : List ByteArray))).bind fun t289 => ((brokerref01_Same.f k t289 (([(⟨#[97, 47, 98]⟩ : ByteArray)] : List ByteArray))).bind fun t295 => (some t295))) else (some false)))) else (some false)) else (some false)))) else (some false))))) else (some false))))) else (some false))))) = some r := by rw [if_pos rfl] at H; exact H
  clear H
  have H := H1
  clear H1
  replace H := Option.bind_eq_some_iff.mp H
  obtain ⟨t269, A40, H⟩ := H
  replace H : (if t269 = true then (some false) else ((match_Matches.f k (⟨#[115, 112, 111, 114, 116, 47, 35]⟩ : ByteArray) (⟨#[115, 112, 111, 114, 116]⟩ : ByteArray)).bind fun t270 => (if t270 = true then ((match_Matches.f k (⟨#[43]⟩ : ByteArray) (⟨#[36, 115, 121, 115]⟩ : ByteArray)).bind fun t271 => (if t271 = true then (some false) else ((match_Covers.f k (⟨#[97, 47, 35]⟩ : ByteArray) (⟨#[97, 47, 43, 47, 98, 47, 35]⟩ : ByteArray)).bind fun t272 => (if t272 = true then ((match_Covers.f k (⟨#[43, 47, 35]⟩ : ByteArray) (⟨#[35]⟩ : ByteArray)).bind fun t273 => (if t273 = true then (some false) else ((match_Meets.f k (⟨#[97, 47, 35]⟩ : ByteArray) (⟨#[43, 47, 43]⟩ : ByteArray)).bind fun t274 => (if t274 = true then ((match_Meets.f k (⟨#[43]⟩ : ByteArray) (⟨#[36, 115, 121, 115]⟩ : ByteArray)).bind fun t275 => (if t275 = true then (some false) else (if t266.toList = ([97, 47, 98, 47, 99] : List UInt8) then (if t267 = true then ((match_Narrow.f k (([(⟨#[97, 47, 98]⟩ : ByteArray), (⟨#[97, 47, 35]⟩ : ByteArray), (⟨#[43, 47, 98]⟩ : ByteArray), (⟨#[97, 47, 35]⟩ : ByteArray)] : List ByteArray))).bind fun t279 => ((brokerref01_Same.f k t279 (([(⟨#[97, 47, 35]⟩ : ByteArray), (⟨#[43, 47, 98]⟩ : ByteArray)] : List ByteArray))).bind fun t285 => (if t285 = true then ((match_Select.f k (⟨#[97, 47, 43]⟩ : ByteArray) (([(⟨#[97]⟩ : ByteArray), (⟨#[97, 47, 98]⟩ : ByteArray)] : List ByteArray))).bind fun t289 => ((brokerref01_Same.f k t289 (([(⟨#[97, 47, 98]⟩ : ByteArray)] : List ByteArray))).bind fun t295 => (some t295))) else (some false)))) else (some false)) else (some false)))) else (some false))))) else (some false))))) else (some false)))) = some r := H
  have A4 := Aside0.mk A40
  clear A40
  by_cases c5 : t269 = true
  ·subst c5
   have H1 : (some false) = some r := by rw [if_pos rfl] at H; exact H
   clear H
   have H := H1
   clear H1
   obtain rfl := Option.some.inj H
   go_enter Tryd.func10, Tryd.ntmps10
   go_wp2_with (first | ((with_reducible refine gate_callee (f := 13) rfl ?_); refine goesL_ (some 4) rfl rfl Tryd.func13 (by kernel_rfl) rfl #[.string (⟨#[97, 47, 43, 47, 99]⟩ : ByteArray), .string (⟨#[43, 47, 98, 47, 35]⟩ : ByteArray)] rfl (by (try simp only [List.map_toArray, List.map_cons, List.map_nil]); first | done | rfl | (simp only [List.length_drop, List.length_take]; rfl)) ?_; (with_reducible refine (match_Common.calls k (⟨#[97, 47, 43, 47, 99]⟩ : ByteArray) (⟨#[43, 47, 98, 47, 35]⟩ : ByteArray) t266 t267 _ A1.out).mono ?_); rintro e w6 ⟨rfl, hb⟩; refine ⟨_, rfl, ?_⟩; have n0_ := Aside0.mk (below_step (by repeat (first | (with_reducible first | exact HB.out | apply below_alloc | apply pw_below_drewN | apply below_drew1) | exact HB.out)) hb); clear HB; have HB := n0_; clear n0_; (try clear hb); (try clear hb2); (try clear hk); (try clear hi)) | ((with_reducible refine gate_callee (f := 11) rfl ?_); refine goesL_ (some 7) rfl rfl Tryd.func11 (by kernel_rfl) rfl #[.string (⟨#[115, 112, 111, 114, 116, 47, 43, 47, 115, 99, 111, 114, 101]⟩ : ByteArray), .string (⟨#[115, 112, 111, 114, 116, 47, 116, 101, 110, 110, 105, 115, 47, 115, 99, 111, 114, 101]⟩ : ByteArray)] rfl (by (try simp only [List.map_toArray, List.map_cons, List.map_nil]); first | done | rfl | (simp only [List.length_drop, List.length_take]; rfl)) ?_; (with_reducible refine (match_Matches.calls k (⟨#[115, 112, 111, 114, 116, 47, 43, 47, 115, 99, 111, 114, 101]⟩ : ByteArray) (⟨#[115, 112, 111, 114, 116, 47, 116, 101, 110, 110, 105, 115, 47, 115, 99, 111, 114, 101]⟩ : ByteArray) true _ A2.out).mono ?_); rintro e w7 ⟨rfl, hb⟩; refine ⟨_, rfl, ?_⟩; have n0_ := Aside0.mk (below_step (by repeat (first | (with_reducible first | exact HB.out | apply below_alloc | apply pw_below_drewN | apply below_drew1) | exact HB.out)) hb); clear HB; have HB := n0_; clear n0_; (try clear hb); (try clear hb2); (try clear hk); (try clear hi)) | (go_at_call 11; (with_reducible refine (match_Matches.calls k (⟨#[115, 112, 111, 114, 116, 47, 43, 47, 115, 99, 111, 114, 101]⟩ : ByteArray) (⟨#[115, 112, 111, 114, 116, 47, 116, 101, 110, 110, 105, 115]⟩ : ByteArray) true _ A4.out).mono ?_); rintro e w8 ⟨rfl, hb⟩; have n0_ := Aside0.mk (below_step (by repeat (first | (with_reducible first | exact HB.out | apply below_alloc | apply pw_below_drewN | apply below_drew1) | exact HB.out)) hb); clear HB; have HB := n0_; clear n0_; (try clear hb); (try clear hb2); (try clear hk); (try clear hi)))
   go_ret
   exact ⟨by first | rfl | (simp [errW_none, errW_some] <;> rfl) | (simp [*, errW_none, errW_some] <;> rfl), by repeat (first | (with_reducible first | exact HB.out | apply below_alloc | apply pw_below_drewN | apply below_drew1) | exact HB.out)⟩
  ·replace c5 := Bool.eq_false_iff.mpr c5
   subst c5
   have H1 : ((match_Matches.f k (⟨#[115, 112, 111, 114, 116, 47, 35]⟩ : ByteArray) (⟨#[115, 112, 111, 114, 116]⟩ : ByteArray)).bind fun t270 => (if t270 = true then ((match_Matches.f k (⟨#[43]⟩ : ByteArray) (⟨#[36, 115, 121, 115]⟩ : ByteArray)).bind fun t271 => (if t271 = true then (some false) else ((match_Covers.f k (⟨#[97, 47, 35]⟩ : ByteArray) (⟨#[97, 47, 43, 47, 98, 47, 35]⟩ : ByteArray)).bind fun t272 => (if t272 = true then ((match_Covers.f k (⟨#[43, 47, 35]⟩ : ByteArray) (⟨#[35]⟩ : ByteArray)).bind fun t273 => (if t273 = true then (some false) else ((match_Meets.f k (⟨#[97, 47, 35]⟩ : ByteArray) (⟨#[43, 47, 43]⟩ : ByteArray)).bind fun t274 => (if t274 = true then ((match_Meets.f k (⟨#[43]⟩ : ByteArray) (⟨#[36, 115, 121, 115]⟩ : ByteArray)).bind fun t275 => (if t275 = true then (some false) else (if t266.toList = ([97, 47, 98, 47, 99] : List UInt8) then (if t267 = true then ((match_Narrow.f k (([(⟨#[97, 47, 98]⟩ : ByteArray), (⟨#[97, 47, 35]⟩ : ByteArray), (⟨#[43, 47, 98]⟩ : ByteArray), (⟨#[97, 47, 35]⟩ : ByteArray)] : List ByteArray))).bind fun t279 => ((brokerref01_Same.f k t279 (([(⟨#[97, 47, 35]⟩ : ByteArray), (⟨#[43, 47, 98]⟩ : ByteArray)] : List ByteArray))).bind fun t285 => (if t285 = true then ((match_Select.f k (⟨#[97, 47, 43]⟩ : ByteArray) (([(⟨#[97]⟩ : ByteArray), (⟨#[97, 47, 98]⟩ : ByteArray)] : List ByteArray))).bind fun t289 => ((brokerref01_Same.f k t289 (([(⟨#[97, 47, 98]⟩ : ByteArray)] : List ByteArray))).bind fun t295 => (some t295))) else (some false)))) else (some false)) else (some false)))) else (some false))))) else (some false))))) else (some false))) = some r := by rw [if_neg (show ¬ (false = true) by decide)] at H; exact H
   clear H
   have H := H1
   clear H1
   replace H := Option.bind_eq_some_iff.mp H
   obtain ⟨t270, A90, H⟩ := H
   replace H : (if t270 = true then ((match_Matches.f k (⟨#[43]⟩ : ByteArray) (⟨#[36, 115, 121, 115]⟩ : ByteArray)).bind fun t271 => (if t271 = true then (some false) else ((match_Covers.f k (⟨#[97, 47, 35]⟩ : ByteArray) (⟨#[97, 47, 43, 47, 98, 47, 35]⟩ : ByteArray)).bind fun t272 => (if t272 = true then ((match_Covers.f k (⟨#[43, 47, 35]⟩ : ByteArray) (⟨#[35]⟩ : ByteArray)).bind fun t273 => (if t273 = true then (some false) else ((match_Meets.f k (⟨#[97, 47, 35]⟩ : ByteArray) (⟨#[43, 47, 43]⟩ : ByteArray)).bind fun t274 => (if t274 = true then ((match_Meets.f k (⟨#[43]⟩ : ByteArray) (⟨#[36, 115, 121, 115]⟩ : ByteArray)).bind fun t275 => (if t275 = true then (some false) else (if t266.toList = ([97, 47, 98, 47, 99] : List UInt8) then (if t267 = true then ((match_Narrow.f k (([(⟨#[97, 47, 98]⟩ : ByteArray), (⟨#[97, 47, 35]⟩ : ByteArray), (⟨#[43, 47, 98]⟩ : ByteArray), (⟨#[97, 47, 35]⟩ : ByteArray)] : List ByteArray))).bind fun t279 => ((brokerref01_Same.f k t279 (([(⟨#[97, 47, 35]⟩ : ByteArray), (⟨#[43, 47, 98]⟩ : ByteArray)] : List ByteArray))).bind fun t285 => (if t285 = true then ((match_Select.f k (⟨#[97, 47, 43]⟩ : ByteArray) (([(⟨#[97]⟩ : ByteArray), (⟨#[97, 47, 98]⟩ : ByteArray)] : List ByteArray))).bind fun t289 => ((brokerref01_Same.f k t289 (([(⟨#[97, 47, 98]⟩ : ByteArray)] : List ByteArray))).bind fun t295 => (some t295))) else (some false)))) else (some false)) else (some false)))) else (some false))))) else (some false))))) else (some false)) = some r := H
   have A9 := Aside0.mk A90
   clear A90
   by_cases c10 : t270 = true
   ·subst c10
    have H1 : ((match_Matches.f k (⟨#[43]⟩ : ByteArray) (⟨#[36, 115, 121, 115]⟩ : ByteArray)).bind fun t271 => (if t271 = true then (some false) else ((match_Covers.f k (⟨#[97, 47, 35]⟩ : ByteArray) (⟨#[97, 47, 43, 47, 98, 47, 35]⟩ : ByteArray)).bind fun t272 => (if t272 = true then ((match_Covers.f k (⟨#[43, 47, 35]⟩ : ByteArray) (⟨#[35]⟩ : ByteArray)).bind fun t273 => (if t273 = true then (some false) else ((match_Meets.f k (⟨#[97, 47, 35]⟩ : ByteArray) (⟨#[43, 47, 43]⟩ : ByteArray)).bind fun t274 => (if t274 = true then ((match_Meets.f k (⟨#[43]⟩ : ByteArray) (⟨#[36, 115, 121, 115]⟩ : ByteArray)).bind fun t275 => (if t275 = true then (some false) else (if t266.toList = ([97, 47, 98, 47, 99] : List UInt8) then (if t267 = true then ((match_Narrow.f k (([(⟨#[97, 47, 98]⟩ : ByteArray), (⟨#[97, 47, 35]⟩ : ByteArray), (⟨#[43, 47, 98]⟩ : ByteArray), (⟨#[97, 47, 35]⟩ : ByteArray)] : List ByteArray))).bind fun t279 => ((brokerref01_Same.f k t279 (([(⟨#[97, 47, 35]⟩ : ByteArray), (⟨#[43, 47, 98]⟩ : ByteArray)] : List ByteArray))).bind fun t285 => (if t285 = true then ((match_Select.f k (⟨#[97, 47, 43]⟩ : ByteArray) (([(⟨#[97]⟩ : ByteArray), (⟨#[97, 47, 98]⟩ : ByteArray)] : List ByteArray))).bind fun t289 => ((brokerref01_Same.f k t289 (([(⟨#[97, 47, 98]⟩ : ByteArray)] : List ByteArray))).bind fun t295 => (some t295))) else (some false)))) else (some false)) else (some false)))) else (some false))))) else (some false))))) = some r := by rw [if_pos rfl] at H; exact H
    clear H
    have H := H1
    clear H1
    replace H := Option.bind_eq_some_iff.mp H
    obtain ⟨t271, A110, H⟩ := H
    replace H : (if t271 = true then (some false) else ((match_Covers.f k (⟨#[97, 47, 35]⟩ : ByteArray) (⟨#[97, 47, 43, 47, 98, 47, 35]⟩ : ByteArray)).bind fun t272 => (if t272 = true then ((match_Covers.f k (⟨#[43, 47, 35]⟩ : ByteArray) (⟨#[35]⟩ : ByteArray)).bind fun t273 => (if t273 = true then (some false) else ((match_Meets.f k (⟨#[97, 47, 35]⟩ : ByteArray) (⟨#[43, 47, 43]⟩ : ByteArray)).bind fun t274 => (if t274 = true then ((match_Meets.f k (⟨#[43]⟩ : ByteArray) (⟨#[36, 115, 121, 115]⟩ : ByteArray)).bind fun t275 => (if t275 = true then (some false) else (if t266.toList = ([97, 47, 98, 47, 99] : List UInt8) then (if t267 = true then ((match_Narrow.f k (([(⟨#[97, 47, 98]⟩ : ByteArray), (⟨#[97, 47, 35]⟩ : ByteArray), (⟨#[43, 47, 98]⟩ : ByteArray), (⟨#[97, 47, 35]⟩ : ByteArray)] : List ByteArray))).bind fun t279 => ((brokerref01_Same.f k t279 (([(⟨#[97, 47, 35]⟩ : ByteArray), (⟨#[43, 47, 98]⟩ : ByteArray)] : List ByteArray))).bind fun t285 => (if t285 = true then ((match_Select.f k (⟨#[97, 47, 43]⟩ : ByteArray) (([(⟨#[97]⟩ : ByteArray), (⟨#[97, 47, 98]⟩ : ByteArray)] : List ByteArray))).bind fun t289 => ((brokerref01_Same.f k t289 (([(⟨#[97, 47, 98]⟩ : ByteArray)] : List ByteArray))).bind fun t295 => (some t295))) else (some false)))) else (some false)) else (some false)))) else (some false))))) else (some false)))) = some r := H
    have A11 := Aside0.mk A110
    clear A110
    by_cases c12 : t271 = true
    ·subst c12
     have H1 : (some false) = some r := by rw [if_pos rfl] at H; exact H
     clear H
     have H := H1
     clear H1
     obtain rfl := Option.some.inj H
     go_enter Tryd.func10, Tryd.ntmps10
     go_wp2_with (first | ((with_reducible refine gate_callee (f := 13) rfl ?_); refine goesL_ (some 4) rfl rfl Tryd.func13 (by kernel_rfl) rfl #[.string (⟨#[97, 47, 43, 47, 99]⟩ : ByteArray), .string (⟨#[43, 47, 98, 47, 35]⟩ : ByteArray)] rfl (by (try simp only [List.map_toArray, List.map_cons, List.map_nil]); first | done | rfl | (simp only [List.length_drop, List.length_take]; rfl)) ?_; (with_reducible refine (match_Common.calls k (⟨#[97, 47, 43, 47, 99]⟩ : ByteArray) (⟨#[43, 47, 98, 47, 35]⟩ : ByteArray) t266 t267 _ A1.out).mono ?_); rintro e w13 ⟨rfl, hb⟩; refine ⟨_, rfl, ?_⟩; have n0_ := Aside0.mk (below_step (by repeat (first | (with_reducible first | exact HB.out | apply below_alloc | apply pw_below_drewN | apply below_drew1) | exact HB.out)) hb); clear HB; have HB := n0_; clear n0_; (try clear hb); (try clear hb2); (try clear hk); (try clear hi)) | ((with_reducible refine gate_callee (f := 11) rfl ?_); refine goesL_ (some 7) rfl rfl Tryd.func11 (by kernel_rfl) rfl #[.string (⟨#[115, 112, 111, 114, 116, 47, 43, 47, 115, 99, 111, 114, 101]⟩ : ByteArray), .string (⟨#[115, 112, 111, 114, 116, 47, 116, 101, 110, 110, 105, 115, 47, 115, 99, 111, 114, 101]⟩ : ByteArray)] rfl (by (try simp only [List.map_toArray, List.map_cons, List.map_nil]); first | done | rfl | (simp only [List.length_drop, List.length_take]; rfl)) ?_; (with_reducible refine (match_Matches.calls k (⟨#[115, 112, 111, 114, 116, 47, 43, 47, 115, 99, 111, 114, 101]⟩ : ByteArray) (⟨#[115, 112, 111, 114, 116, 47, 116, 101, 110, 110, 105, 115, 47, 115, 99, 111, 114, 101]⟩ : ByteArray) true _ A2.out).mono ?_); rintro e w14 ⟨rfl, hb⟩; refine ⟨_, rfl, ?_⟩; have n0_ := Aside0.mk (below_step (by repeat (first | (with_reducible first | exact HB.out | apply below_alloc | apply pw_below_drewN | apply below_drew1) | exact HB.out)) hb); clear HB; have HB := n0_; clear n0_; (try clear hb); (try clear hb2); (try clear hk); (try clear hi)) | (go_at_call 11; (with_reducible refine (match_Matches.calls k (⟨#[115, 112, 111, 114, 116, 47, 43, 47, 115, 99, 111, 114, 101]⟩ : ByteArray) (⟨#[115, 112, 111, 114, 116, 47, 116, 101, 110, 110, 105, 115]⟩ : ByteArray) false _ A4.out).mono ?_); rintro e w15 ⟨rfl, hb⟩; have n0_ := Aside0.mk (below_step (by repeat (first | (with_reducible first | exact HB.out | apply below_alloc | apply pw_below_drewN | apply below_drew1) | exact HB.out)) hb); clear HB; have HB := n0_; clear n0_; (try clear hb); (try clear hb2); (try clear hk); (try clear hi)) | (go_at_call 11; (with_reducible refine (match_Matches.calls k (⟨#[115, 112, 111, 114, 116, 47, 35]⟩ : ByteArray) (⟨#[115, 112, 111, 114, 116]⟩ : ByteArray) true _ A9.out).mono ?_); rintro e w16 ⟨rfl, hb⟩; have n0_ := Aside0.mk (below_step (by repeat (first | (with_reducible first | exact HB.out | apply below_alloc | apply pw_below_drewN | apply below_drew1) | exact HB.out)) hb); clear HB; have HB := n0_; clear n0_; (try clear hb); (try clear hb2); (try clear hk); (try clear hi)) | (go_at_call 11; (with_reducible refine (match_Matches.calls k (⟨#[43]⟩ : ByteArray) (⟨#[36, 115, 121, 115]⟩ : ByteArray) true _ A11.out).mono ?_); rintro e w17 ⟨rfl, hb⟩; have n0_ := Aside0.mk (below_step (by repeat (first | (with_reducible first | exact HB.out | apply below_alloc | apply pw_below_drewN | apply below_drew1) | exact HB.out)) hb); clear HB; have HB := n0_; clear n0_; (try clear hb); (try clear hb2); (try clear hk); (try clear hi)))
     go_ret
     exact ⟨by first | rfl | (simp [errW_none, errW_some] <;> rfl) | (simp [*, errW_none, errW_some] <;> rfl), by repeat (first | (with_reducible first | exact HB.out | apply below_alloc | apply pw_below_drewN | apply below_drew1) | exact HB.out)⟩
    ·replace c12 := Bool.eq_false_iff.mpr c12
     subst c12
     have H1 : ((match_Covers.f k (⟨#[97, 47, 35]⟩ : ByteArray) (⟨#[97, 47, 43, 47, 98, 47, 35]⟩ : ByteArray)).bind fun t272 => (if t272 = true then ((match_Covers.f k (⟨#[43, 47, 35]⟩ : ByteArray) (⟨#[35]⟩ : ByteArray)).bind fun t273 => (if t273 = true then (some false) else ((match_Meets.f k (⟨#[97, 47, 35]⟩ : ByteArray) (⟨#[43, 47, 43]⟩ : ByteArray)).bind fun t274 => (if t274 = true then ((match_Meets.f k (⟨#[43]⟩ : ByteArray) (⟨#[36, 115, 121, 115]⟩ : ByteArray)).bind fun t275 => (if t275 = true then (some false) else (if t266.toList = ([97, 47, 98, 47, 99] : List UInt8) then (if t267 = true then ((match_Narrow.f k (([(⟨#[97, 47, 98]⟩ : ByteArray), (⟨#[97, 47, 35]⟩ : ByteArray), (⟨#[43, 47, 98]⟩ : ByteArray), (⟨#[97, 47, 35]⟩ : ByteArray)] : List ByteArray))).bind fun t279 => ((brokerref01_Same.f k t279 (([(⟨#[97, 47, 35]⟩ : ByteArray), (⟨#[43, 47, 98]⟩ : ByteArray)] : List ByteArray))).bind fun t285 => (if t285 = true then ((match_Select.f k (⟨#[97, 47, 43]⟩ : ByteArray) (([(⟨#[97]⟩ : ByteArray), (⟨#[97, 47, 98]⟩ : ByteArray)] : List ByteArray))).bind fun t289 => ((brokerref01_Same.f k t289 (([(⟨#[97, 47, 98]⟩ : ByteArray)] : List ByteArray))).bind fun t295 => (some t295))) else (some false)))) else (some false)) else (some false)))) else (some false))))) else (some false))) = some r := by rw [if_neg (show ¬ (false = true) by decide)] at H; exact H
     clear H
     have H := H1
     clear H1
     replace H := Option.bind_eq_some_iff.mp H
     obtain ⟨t272, A180, H⟩ := H
     replace H : (if t272 = true then ((match_Covers.f k (⟨#[43, 47, 35]⟩ : ByteArray) (⟨#[35]⟩ : ByteArray)).bind fun t273 => (if t273 = true then (some false) else ((match_Meets.f k (⟨#[97, 47, 35]⟩ : ByteArray) (⟨#[43, 47, 43]⟩ : ByteArray)).bind fun t274 => (if t274 = true then ((match_Meets.f k (⟨#[43]⟩ : ByteArray) (⟨#[36, 115, 121, 115]⟩ : ByteArray)).bind fun t275 => (if t275 = true then (some false) else (if t266.toList = ([97, 47, 98, 47, 99] : List UInt8) then (if t267 = true then ((match_Narrow.f k (([(⟨#[97, 47, 98]⟩ : ByteArray), (⟨#[97, 47, 35]⟩ : ByteArray), (⟨#[43, 47, 98]⟩ : ByteArray), (⟨#[97, 47, 35]⟩ : ByteArray)] : List ByteArray))).bind fun t279 => ((brokerref01_Same.f k t279 (([(⟨#[97, 47, 35]⟩ : ByteArray), (⟨#[43, 47, 98]⟩ : ByteArray)] : List ByteArray))).bind fun t285 => (if t285 = true then ((match_Select.f k (⟨#[97, 47, 43]⟩ : ByteArray) (([(⟨#[97]⟩ : ByteArray), (⟨#[97, 47, 98]⟩ : ByteArray)] : List ByteArray))).bind fun t289 => ((brokerref01_Same.f k t289 (([(⟨#[97, 47, 98]⟩ : ByteArray)] : List ByteArray))).bind fun t295 => (some t295))) else (some false)))) else (some false)) else (some false)))) else (some false))))) else (some false)) = some r := H
     have A18 := Aside0.mk A180
     clear A180
     by_cases c19 : t272 = true
     ·subst c19
      have H1 : ((match_Covers.f k (⟨#[43, 47, 35]⟩ : ByteArray) (⟨#[35]⟩ : ByteArray)).bind fun t273 => (if t273 = true then (some false) else ((match_Meets.f k (⟨#[97, 47, 35]⟩ : ByteArray) (⟨#[43, 47, 43]⟩ : ByteArray)).bind fun t274 => (if t274 = true then ((match_Meets.f k (⟨#[43]⟩ : ByteArray) (⟨#[36, 115, 121, 115]⟩ : ByteArray)).bind fun t275 => (if t275 = true then (some false) else (if t266.toList = ([97, 47, 98, 47, 99] : List UInt8) then (if t267 = true then ((match_Narrow.f k (([(⟨#[97, 47, 98]⟩ : ByteArray), (⟨#[97, 47, 35]⟩ : ByteArray), (⟨#[43, 47, 98]⟩ : ByteArray), (⟨#[97, 47, 35]⟩ : ByteArray)] : List ByteArray))).bind fun t279 => ((brokerref01_Same.f k t279 (([(⟨#[97, 47, 35]⟩ : ByteArray), (⟨#[43, 47, 98]⟩ : ByteArray)] : List ByteArray))).bind fun t285 => (if t285 = true then ((match_Select.f k (⟨#[97, 47, 43]⟩ : ByteArray) (([(⟨#[97]⟩ : ByteArray), (⟨#[97, 47, 98]⟩ : ByteArray)] : List ByteArray))).bind fun t289 => ((brokerref01_Same.f k t289 (([(⟨#[97, 47, 98]⟩ : ByteArray)] : List ByteArray))).bind fun t295 => (some t295))) else (some false)))) else (some false)) else (some false)))) else (some false))))) = some r := by rw [if_pos rfl] at H; exact H
      clear H
      have H := H1
      clear H1
      replace H := Option.bind_eq_some_iff.mp H
      obtain ⟨t273, A200, H⟩ := H
      replace H : (if t273 = true then (some false) else ((match_Meets.f k (⟨#[97, 47, 35]⟩ : ByteArray) (⟨#[43, 47, 43]⟩ : ByteArray)).bind fun t274 => (if t274 = true then ((match_Meets.f k (⟨#[43]⟩ : ByteArray) (⟨#[36, 115, 121, 115]⟩ : ByteArray)).bind fun t275 => (if t275 = true then (some false) else (if t266.toList = ([97, 47, 98, 47, 99] : List UInt8) then (if t267 = true then ((match_Narrow.f k (([(⟨#[97, 47, 98]⟩ : ByteArray), (⟨#[97, 47, 35]⟩ : ByteArray), (⟨#[43, 47, 98]⟩ : ByteArray), (⟨#[97, 47, 35]⟩ : ByteArray)] : List ByteArray))).bind fun t279 => ((brokerref01_Same.f k t279 (([(⟨#[97, 47, 35]⟩ : ByteArray), (⟨#[43, 47, 98]⟩ : ByteArray)] : List ByteArray))).bind fun t285 => (if t285 = true then ((match_Select.f k (⟨#[97, 47, 43]⟩ : ByteArray) (([(⟨#[97]⟩ : ByteArray), (⟨#[97, 47, 98]⟩ : ByteArray)] : List ByteArray))).bind fun t289 => ((brokerref01_Same.f k t289 (([(⟨#[97, 47, 98]⟩ : ByteArray)] : List ByteArray))).bind fun t295 => (some t295))) else (some false)))) else (some false)) else (some false)))) else (some false)))) = some r := H
      have A20 := Aside0.mk A200
      clear A200
      by_cases c21 : t273 = true
      ·subst c21
       have H1 : (some false) = some r := by rw [if_pos rfl] at H; exact H
       clear H
       have H := H1
       clear H1
       obtain rfl := Option.some.inj H
       go_enter Tryd.func10, Tryd.ntmps10
       go_wp2_with (first | ((with_reducible refine gate_callee (f := 13) rfl ?_); refine goesL_ (some 4) rfl rfl Tryd.func13 (by kernel_rfl) rfl #[.string (⟨#[97, 47, 43, 47, 99]⟩ : ByteArray), .string (⟨#[43, 47, 98, 47, 35]⟩ : ByteArray)] rfl (by (try simp only [List.map_toArray, List.map_cons, List.map_nil]); first | done | rfl | (simp only [List.length_drop, List.length_take]; rfl)) ?_; (with_reducible refine (match_Common.calls k (⟨#[97, 47, 43, 47, 99]⟩ : ByteArray) (⟨#[43, 47, 98, 47, 35]⟩ : ByteArray) t266 t267 _ A1.out).mono ?_); rintro e w22 ⟨rfl, hb⟩; refine ⟨_, rfl, ?_⟩; have n0_ := Aside0.mk (below_step (by repeat (first | (with_reducible first | exact HB.out | apply below_alloc | apply pw_below_drewN | apply below_drew1) | exact HB.out)) hb); clear HB; have HB := n0_; clear n0_; (try clear hb); (try clear hb2); (try clear hk); (try clear hi)) | ((with_reducible refine gate_callee (f := 11) rfl ?_); refine goesL_ (some 7) rfl rfl Tryd.func11 (by kernel_rfl) rfl #[.string (⟨#[115, 112, 111, 114, 116, 47, 43, 47, 115, 99, 111, 114, 101]⟩ : ByteArray), .string (⟨#[115, 112, 111, 114, 116, 47, 116, 101, 110, 110, 105, 115, 47, 115, 99, 111, 114, 101]⟩ : ByteArray)] rfl (by (try simp only [List.map_toArray, List.map_cons, List.map_nil]); first | done | rfl | (simp only [List.length_drop, List.length_take]; rfl)) ?_; (with_reducible refine (match_Matches.calls k (⟨#[115, 112, 111, 114, 116, 47, 43, 47, 115, 99, 111, 114, 101]⟩ : ByteArray) (⟨#[115, 112, 111, 114, 116, 47, 116, 101, 110, 110, 105, 115, 47, 115, 99, 111, 114, 101]⟩ : ByteArray) true _ A2.out).mono ?_); rintro e w23 ⟨rfl, hb⟩; refine ⟨_, rfl, ?_⟩; have n0_ := Aside0.mk (below_step (by repeat (first | (with_reducible first | exact HB.out | apply below_alloc | apply pw_below_drewN | apply below_drew1) | exact HB.out)) hb); clear HB; have HB := n0_; clear n0_; (try clear hb); (try clear hb2); (try clear hk); (try clear hi)) | (go_at_call 11; (with_reducible refine (match_Matches.calls k (⟨#[115, 112, 111, 114, 116, 47, 43, 47, 115, 99, 111, 114, 101]⟩ : ByteArray) (⟨#[115, 112, 111, 114, 116, 47, 116, 101, 110, 110, 105, 115]⟩ : ByteArray) false _ A4.out).mono ?_); rintro e w24 ⟨rfl, hb⟩; have n0_ := Aside0.mk (below_step (by repeat (first | (with_reducible first | exact HB.out | apply below_alloc | apply pw_below_drewN | apply below_drew1) | exact HB.out)) hb); clear HB; have HB := n0_; clear n0_; (try clear hb); (try clear hb2); (try clear hk); (try clear hi)) | (go_at_call 11; (with_reducible refine (match_Matches.calls k (⟨#[115, 112, 111, 114, 116, 47, 35]⟩ : ByteArray) (⟨#[115, 112, 111, 114, 116]⟩ : ByteArray) true _ A9.out).mono ?_); rintro e w25 ⟨rfl, hb⟩; have n0_ := Aside0.mk (below_step (by repeat (first | (with_reducible first | exact HB.out | apply below_alloc | apply pw_below_drewN | apply below_drew1) | exact HB.out)) hb); clear HB; have HB := n0_; clear n0_; (try clear hb); (try clear hb2); (try clear hk); (try clear hi)) | (go_at_call 11; (with_reducible refine (match_Matches.calls k (⟨#[43]⟩ : ByteArray) (⟨#[36, 115, 121, 115]⟩ : ByteArray) false _ A11.out).mono ?_); rintro e w26 ⟨rfl, hb⟩; have n0_ := Aside0.mk (below_step (by repeat (first | (with_reducible first | exact HB.out | apply below_alloc | apply pw_below_drewN | apply below_drew1) | exact HB.out)) hb); clear HB; have HB := n0_; clear n0_; (try clear hb); (try clear hb2); (try clear hk); (try clear hi)) | (go_at_call 15; (with_reducible refine (match_Covers.calls k (⟨#[97, 47, 35]⟩ : ByteArray) (⟨#[97, 47, 43, 47, 98, 47, 35]⟩ : ByteArray) true _ A18.out).mono ?_); rintro e w27 ⟨rfl, hb⟩; have n0_ := Aside0.mk (below_step (by repeat (first | (with_reducible first | exact HB.out | apply below_alloc | apply pw_below_drewN | apply below_drew1) | exact HB.out)) hb); clear HB; have HB := n0_; clear n0_; (try clear hb); (try clear hb2); (try clear hk); (try clear hi)) | (go_at_call 15; (with_reducible refine (match_Covers.calls k (⟨#[43, 47, 35]⟩ : ByteArray) (⟨#[35]⟩ : ByteArray) true _ A20.out).mono ?_); rintro e w28 ⟨rfl, hb⟩; have n0_ := Aside0.mk (below_step (by repeat (first | (with_reducible first | exact HB.out | apply below_alloc | apply pw_below_drewN | apply below_drew1) | exact HB.out)) hb); clear HB; have HB := n0_; clear n0_; (try clear hb); (try clear hb2); (try clear hk); (try clear hi)))
       go_ret
       exact ⟨by first | rfl | (simp [errW_none, errW_some] <;> rfl) | (simp [*, errW_none, errW_some] <;> rfl), by repeat (first | (with_reducible first | exact HB.out | apply below_alloc | apply pw_below_drewN | apply below_drew1) | exact HB.out)⟩
      ·replace c21 := Bool.eq_false_iff.mpr c21
       subst c21
       have H1 : ((match_Meets.f k (⟨#[97, 47, 35]⟩ : ByteArray) (⟨#[43, 47, 43]⟩ : ByteArray)).bind fun t274 => (if t274 = true then ((match_Meets.f k (⟨#[43]⟩ : ByteArray) (⟨#[36, 115, 121, 115]⟩ : ByteArray)).bind fun t275 => (if t275 = true then (some false) else (if t266.toList = ([97, 47, 98, 47, 99] : List UInt8) then (if t267 = true then ((match_Narrow.f k (([(⟨#[97, 47, 98]⟩ : ByteArray), (⟨#[97, 47, 35]⟩ : ByteArray), (⟨#[43, 47, 98]⟩ : ByteArray), (⟨#[97, 47, 35]⟩ : ByteArray)] : List ByteArray))).bind fun t279 => ((brokerref01_Same.f k t279 (([(⟨#[97, 47, 35]⟩ : ByteArray), (⟨#[43, 47, 98]⟩ : ByteArray)] : List ByteArray))).bind fun t285 => (if t285 = true then ((match_Select.f k (⟨#[97, 47, 43]⟩ : ByteArray) (([(⟨#[97]⟩ : ByteArray), (⟨#[97, 47, 98]⟩ : ByteArray)] : List ByteArray))).bind fun t289 => ((brokerref01_Same.f k t289 (([(⟨#[97, 47, 98]⟩ : ByteArray)] : List ByteArray))).bind fun t295 => (some t295))) else (some false)))) else (some false)) else (some false)))) else (some false))) = some r := by rw [if_neg (show ¬ (false = true) by decide)] at H; exact H
       clear H
       have H := H1
       clear H1
       replace H := Option.bind_eq_some_iff.mp H
       obtain ⟨t274, A290, H⟩ := H
       replace H : (if t274 = true then ((match_Meets.f k (⟨#[43]⟩ : ByteArray) (⟨#[36, 115, 121, 115]⟩ : ByteArray)).bind fun t275 => (if t275 = true then (some false) else (if t266.toList = ([97, 47, 98, 47, 99] : List UInt8) then (if t267 = true then ((match_Narrow.f k (([(⟨#[97, 47, 98]⟩ : ByteArray), (⟨#[97, 47, 35]⟩ : ByteArray), (⟨#[43, 47, 98]⟩ : ByteArray), (⟨#[97, 47, 35]⟩ : ByteArray)] : List ByteArray))).bind fun t279 => ((brokerref01_Same.f k t279 (([(⟨#[97, 47, 35]⟩ : ByteArray), (⟨#[43, 47, 98]⟩ : ByteArray)] : List ByteArray))).bind fun t285 => (if t285 = true then ((match_Select.f k (⟨#[97, 47, 43]⟩ : ByteArray) (([(⟨#[97]⟩ : ByteArray), (⟨#[97, 47, 98]⟩ : ByteArray)] : List ByteArray))).bind fun t289 => ((brokerref01_Same.f k t289 (([(⟨#[97, 47, 98]⟩ : ByteArray)] : List ByteArray))).bind fun t295 => (some t295))) else (some false)))) else (some false)) else (some false)))) else (some false)) = some r := H
       have A29 := Aside0.mk A290
       clear A290
       by_cases c30 : t274 = true
       ·subst c30
        have H1 : ((match_Meets.f k (⟨#[43]⟩ : ByteArray) (⟨#[36, 115, 121, 115]⟩ : ByteArray)).bind fun t275 => (if t275 = true then (some false) else (if t266.toList = ([97, 47, 98, 47, 99] : List UInt8) then (if t267 = true then ((match_Narrow.f k (([(⟨#[97, 47, 98]⟩ : ByteArray), (⟨#[97, 47, 35]⟩ : ByteArray), (⟨#[43, 47, 98]⟩ : ByteArray), (⟨#[97, 47, 35]⟩ : ByteArray)] : List ByteArray))).bind fun t279 => ((brokerref01_Same.f k t279 (([(⟨#[97, 47, 35]⟩ : ByteArray), (⟨#[43, 47, 98]⟩ : ByteArray)] : List ByteArray))).bind fun t285 => (if t285 = true then ((match_Select.f k (⟨#[97, 47, 43]⟩ : ByteArray) (([(⟨#[97]⟩ : ByteArray), (⟨#[97, 47, 98]⟩ : ByteArray)] : List ByteArray))).bind fun t289 => ((brokerref01_Same.f k t289 (([(⟨#[97, 47, 98]⟩ : ByteArray)] : List ByteArray))).bind fun t295 => (some t295))) else (some false)))) else (some false)) else (some false)))) = some r := by rw [if_pos rfl] at H; exact H
        clear H
        have H := H1
        clear H1
        replace H := Option.bind_eq_some_iff.mp H
        obtain ⟨t275, A310, H⟩ := H
        replace H : (if t275 = true then (some false) else (if t266.toList = ([97, 47, 98, 47, 99] : List UInt8) then (if t267 = true then ((match_Narrow.f k (([(⟨#[97, 47, 98]⟩ : ByteArray), (⟨#[97, 47, 35]⟩ : ByteArray), (⟨#[43, 47, 98]⟩ : ByteArray), (⟨#[97, 47, 35]⟩ : ByteArray)] : List ByteArray))).bind fun t279 => ((brokerref01_Same.f k t279 (([(⟨#[97, 47, 35]⟩ : ByteArray), (⟨#[43, 47, 98]⟩ : ByteArray)] : List ByteArray))).bind fun t285 => (if t285 = true then ((match_Select.f k (⟨#[97, 47, 43]⟩ : ByteArray) (([(⟨#[97]⟩ : ByteArray), (⟨#[97, 47, 98]⟩ : ByteArray)] : List ByteArray))).bind fun t289 => ((brokerref01_Same.f k t289 (([(⟨#[97, 47, 98]⟩ : ByteArray)] : List ByteArray))).bind fun t295 => (some t295))) else (some false)))) else (some false)) else (some false))) = some r := H
        have A31 := Aside0.mk A310
        clear A310
        by_cases c32 : t275 = true
        ·subst c32
         have H1 : (some false) = some r := by rw [if_pos rfl] at H; exact H
         clear H
         have H := H1
         clear H1
         obtain rfl := Option.some.inj H
         go_enter Tryd.func10, Tryd.ntmps10
         go_wp2_with (first | ((with_reducible refine gate_callee (f := 13) rfl ?_); refine goesL_ (some 4) rfl rfl Tryd.func13 (by kernel_rfl) rfl #[.string (⟨#[97, 47, 43, 47, 99]⟩ : ByteArray), .string (⟨#[43, 47, 98, 47, 35]⟩ : ByteArray)] rfl (by (try simp only [List.map_toArray, List.map_cons, List.map_nil]); first | done | rfl | (simp only [List.length_drop, List.length_take]; rfl)) ?_; (with_reducible refine (match_Common.calls k (⟨#[97, 47, 43, 47, 99]⟩ : ByteArray) (⟨#[43, 47, 98, 47, 35]⟩ : ByteArray) t266 t267 _ A1.out).mono ?_); rintro e w33 ⟨rfl, hb⟩; refine ⟨_, rfl, ?_⟩; have n0_ := Aside0.mk (below_step (by repeat (first | (with_reducible first | exact HB.out | apply below_alloc | apply pw_below_drewN | apply below_drew1) | exact HB.out)) hb); clear HB; have HB := n0_; clear n0_; (try clear hb); (try clear hb2); (try clear hk); (try clear hi)) | ((with_reducible refine gate_callee (f := 11) rfl ?_); refine goesL_ (some 7) rfl rfl Tryd.func11 (by kernel_rfl) rfl #[.string (⟨#[115, 112, 111, 114, 116, 47, 43, 47, 115, 99, 111, 114, 101]⟩ : ByteArray), .string (⟨#[115, 112, 111, 114, 116, 47, 116, 101, 110, 110, 105, 115, 47, 115, 99, 111, 114, 101]⟩ : ByteArray)] rfl (by (try simp only [List.map_toArray, List.map_cons, List.map_nil]); first | done | rfl | (simp only [List.length_drop, List.length_take]; rfl)) ?_; (with_reducible refine (match_Matches.calls k (⟨#[115, 112, 111, 114, 116, 47, 43, 47, 115, 99, 111, 114, 101]⟩ : ByteArray) (⟨#[115, 112, 111, 114, 116, 47, 116, 101, 110, 110, 105, 115, 47, 115, 99, 111, 114, 101]⟩ : ByteArray) true _ A2.out).mono ?_); rintro e w34 ⟨rfl, hb⟩; refine ⟨_, rfl, ?_⟩; have n0_ := Aside0.mk (below_step (by repeat (first | (with_reducible first | exact HB.out | apply below_alloc | apply pw_below_drewN | apply below_drew1) | exact HB.out)) hb); clear HB; have HB := n0_; clear n0_; (try clear hb); (try clear hb2); (try clear hk); (try clear hi)) | (go_at_call 11; (with_reducible refine (match_Matches.calls k (⟨#[115, 112, 111, 114, 116, 47, 43, 47, 115, 99, 111, 114, 101]⟩ : ByteArray) (⟨#[115, 112, 111, 114, 116, 47, 116, 101, 110, 110, 105, 115]⟩ : ByteArray) false _ A4.out).mono ?_); rintro e w35 ⟨rfl, hb⟩; have n0_ := Aside0.mk (below_step (by repeat (first | (with_reducible first | exact HB.out | apply below_alloc | apply pw_below_drewN | apply below_drew1) | exact HB.out)) hb); clear HB; have HB := n0_; clear n0_; (try clear hb); (try clear hb2); (try clear hk); (try clear hi)) | (go_at_call 11; (with_reducible refine (match_Matches.calls k (⟨#[115, 112, 111, 114, 116, 47, 35]⟩ : ByteArray) (⟨#[115, 112, 111, 114, 116]⟩ : ByteArray) true _ A9.out).mono ?_); rintro e w36 ⟨rfl, hb⟩; have n0_ := Aside0.mk (below_step (by repeat (first | (with_reducible first | exact HB.out | apply below_alloc | apply pw_below_drewN | apply below_drew1) | exact HB.out)) hb); clear HB; have HB := n0_; clear n0_; (try clear hb); (try clear hb2); (try clear hk); (try clear hi)) | (go_at_call 11; (with_reducible refine (match_Matches.calls k (⟨#[43]⟩ : ByteArray) (⟨#[36, 115, 121, 115]⟩ : ByteArray) false _ A11.out).mono ?_); rintro e w37 ⟨rfl, hb⟩; have n0_ := Aside0.mk (below_step (by repeat (first | (with_reducible first | exact HB.out | apply below_alloc | apply pw_below_drewN | apply below_drew1) | exact HB.out)) hb); clear HB; have HB := n0_; clear n0_; (try clear hb); (try clear hb2); (try clear hk); (try clear hi)) | (go_at_call 15; (with_reducible refine (match_Covers.calls k (⟨#[97, 47, 35]⟩ : ByteArray) (⟨#[97, 47, 43, 47, 98, 47, 35]⟩ : ByteArray) true _ A18.out).mono ?_); rintro e w38 ⟨rfl, hb⟩; have n0_ := Aside0.mk (below_step (by repeat (first | (with_reducible first | exact HB.out | apply below_alloc | apply pw_below_drewN | apply below_drew1) | exact HB.out)) hb); clear HB; have HB := n0_; clear n0_; (try clear hb); (try clear hb2); (try clear hk); (try clear hi)) | (go_at_call 15; (with_reducible refine (match_Covers.calls k (⟨#[43, 47, 35]⟩ : ByteArray) (⟨#[35]⟩ : ByteArray) false _ A20.out).mono ?_); rintro e w39 ⟨rfl, hb⟩; have n0_ := Aside0.mk (below_step (by repeat (first | (with_reducible first | exact HB.out | apply below_alloc | apply pw_below_drewN | apply below_drew1) | exact HB.out)) hb); clear HB; have HB := n0_; clear n0_; (try clear hb); (try clear hb2); (try clear hk); (try clear hi)) | (go_at_call 17; (with_reducible refine (match_Meets.calls k (⟨#[97, 47, 35]⟩ : ByteArray) (⟨#[43, 47, 43]⟩ : ByteArray) true _ A29.out).mono ?_); rintro e w40 ⟨rfl, hb⟩; have n0_ := Aside0.mk (below_step (by repeat (first | (with_reducible first | exact HB.out | apply below_alloc | apply pw_below_drewN | apply below_drew1) | exact HB.out)) hb); clear HB; have HB := n0_; clear n0_; (try clear hb); (try clear hb2); (try clear hk); (try clear hi)) | (go_at_call 17; (with_reducible refine (match_Meets.calls k (⟨#[43]⟩ : ByteArray) (⟨#[36, 115, 121, 115]⟩ : ByteArray) true _ A31.out).mono ?_); rintro e w41 ⟨rfl, hb⟩; have n0_ := Aside0.mk (below_step (by repeat (first | (with_reducible first | exact HB.out | apply below_alloc | apply pw_below_drewN | apply below_drew1) | exact HB.out)) hb); clear HB; have HB := n0_; clear n0_; (try clear hb); (try clear hb2); (try clear hk); (try clear hi)))
         go_ret
         exact ⟨by first | rfl | (simp [errW_none, errW_some] <;> rfl) | (simp [*, errW_none, errW_some] <;> rfl), by repeat (first | (with_reducible first | exact HB.out | apply below_alloc | apply pw_below_drewN | apply below_drew1) | exact HB.out)⟩
        ·replace c32 := Bool.eq_false_iff.mpr c32
         subst c32
         have H1 : (if t266.toList = ([97, 47, 98, 47, 99] : List UInt8) then (if t267 = true then ((match_Narrow.f k (([(⟨#[97, 47, 98]⟩ : ByteArray), (⟨#[97, 47, 35]⟩ : ByteArray), (⟨#[43, 47, 98]⟩ : ByteArray), (⟨#[97, 47, 35]⟩ : ByteArray)] : List ByteArray))).bind fun t279 => ((brokerref01_Same.f k t279 (([(⟨#[97, 47, 35]⟩ : ByteArray), (⟨#[43, 47, 98]⟩ : ByteArray)] : List ByteArray))).bind fun t285 => (if t285 = true then ((match_Select.f k (⟨#[97, 47, 43]⟩ : ByteArray) (([(⟨#[97]⟩ : ByteArray), (⟨#[97, 47, 98]⟩ : ByteArray)] : List ByteArray))).bind fun t289 => ((brokerref01_Same.f k t289 (([(⟨#[97, 47, 98]⟩ : ByteArray)] : List ByteArray))).bind fun t295 => (some t295))) else (some false)))) else (some false)) else (some false)) = some r := by rw [if_neg (show ¬ (false = true) by decide)] at H; exact H
         clear H
         have H := H1
         clear H1
         by_cases c42 : t266.toList = ([97, 47, 98, 47, 99] : List UInt8)
         ·rw [if_pos c42] at H
          have c42b0 : (t266.toList == ([97, 47, 98, 47, 99] : List UInt8)) = true := beq_iff_eq.mpr c42
          have c42b1 : (t266.toList != ([97, 47, 98, 47, 99] : List UInt8)) = false := bne_eq_false_iff_eq.mpr c42
          clear c42
          by_cases c43 : t267 = true
          ·subst c43
           have H1 : ((match_Narrow.f k (([(⟨#[97, 47, 98]⟩ : ByteArray), (⟨#[97, 47, 35]⟩ : ByteArray), (⟨#[43, 47, 98]⟩ : ByteArray), (⟨#[97, 47, 35]⟩ : ByteArray)] : List ByteArray))).bind fun t279 => ((brokerref01_Same.f k t279 (([(⟨#[97, 47, 35]⟩ : ByteArray), (⟨#[43, 47, 98]⟩ : ByteArray)] : List ByteArray))).bind fun t285 => (if t285 = true then ((match_Select.f k (⟨#[97, 47, 43]⟩ : ByteArray) (([(⟨#[97]⟩ : ByteArray), (⟨#[97, 47, 98]⟩ : ByteArray)] : List ByteArray))).bind fun t289 => ((brokerref01_Same.f k t289 (([(⟨#[97, 47, 98]⟩ : ByteArray)] : List ByteArray))).bind fun t295 => (some t295))) else (some false)))) = some r := by rw [if_pos rfl] at H; exact H
           clear H
           have H := H1
           clear H1
           obtain ⟨y276, hy276⟩ : ∃ y_ : List ByteArray, y_ = (([(⟨#[97, 47, 98]⟩ : ByteArray), (⟨#[97, 47, 35]⟩ : ByteArray), (⟨#[43, 47, 98]⟩ : ByteArray), (⟨#[97, 47, 35]⟩ : ByteArray)] : List ByteArray)) := ⟨_, rfl⟩
           replace H : ((match_Narrow.f k y276).bind fun t279 => ((brokerref01_Same.f k t279 (([(⟨#[97, 47, 35]⟩ : ByteArray), (⟨#[43, 47, 98]⟩ : ByteArray)] : List ByteArray))).bind fun t285 => (if t285 = true then ((match_Select.f k (⟨#[97, 47, 43]⟩ : ByteArray) (([(⟨#[97]⟩ : ByteArray), (⟨#[97, 47, 98]⟩ : ByteArray)] : List ByteArray))).bind fun t289 => ((brokerref01_Same.f k t289 (([(⟨#[97, 47, 98]⟩ : ByteArray)] : List ByteArray))).bind fun t295 => (some t295))) else (some false)))) = some r := by first | (rw [hy276]; with_reducible exact H) | (have H2_ := (Option.bind_some _ _).symm.trans H; rw [hy276]; with_reducible exact H2_) | (have H2_ := (Option.bind_some _ _).symm.trans H; with_reducible exact H2_) | with_reducible exact H | (rw [hy276]; exact H) | exact H
           have Ny276 := Aside0.mk hy276
           clear hy276
           replace H := Option.bind_eq_some_iff.mp H
           obtain ⟨t279, A440, H⟩ := H
           replace H : ((brokerref01_Same.f k t279 (([(⟨#[97, 47, 35]⟩ : ByteArray), (⟨#[43, 47, 98]⟩ : ByteArray)] : List ByteArray))).bind fun t285 => (if t285 = true then ((match_Select.f k (⟨#[97, 47, 43]⟩ : ByteArray) (([(⟨#[97]⟩ : ByteArray), (⟨#[97, 47, 98]⟩ : ByteArray)] : List ByteArray))).bind fun t289 => ((brokerref01_Same.f k t289 (([(⟨#[97, 47, 98]⟩ : ByteArray)] : List ByteArray))).bind fun t295 => (some t295))) else (some false))) = some r := H
           have A44 := Aside0.mk A440
           clear A440
           obtain ⟨y282, hy282⟩ : ∃ y_ : List ByteArray, y_ = (([(⟨#[97, 47, 35]⟩ : ByteArray), (⟨#[43, 47, 98]⟩ : ByteArray)] : List ByteArray)) := ⟨_, rfl⟩
           replace H : ((brokerref01_Same.f k t279 y282).bind fun t285 => (if t285 = true then ((match_Select.f k (⟨#[97, 47, 43]⟩ : ByteArray) (([(⟨#[97]⟩ : ByteArray), (⟨#[97, 47, 98]⟩ : ByteArray)] : List ByteArray))).bind fun t289 => ((brokerref01_Same.f k t289 (([(⟨#[97, 47, 98]⟩ : ByteArray)] : List ByteArray))).bind fun t295 => (some t295))) else (some false))) = some r := by first | (rw [hy282]; with_reducible exact H) | (have H2_ := (Option.bind_some _ _).symm.trans H; rw [hy282]; with_reducible exact H2_) | (have H2_ := (Option.bind_some _ _).symm.trans H; with_reducible exact H2_) | with_reducible exact H | (rw [hy282]; exact H) | exact H
           have Ny282 := Aside0.mk hy282
           clear hy282
           replace H := Option.bind_eq_some_iff.mp H
           obtain ⟨t285, A450, H⟩ := H
           replace H : (if t285 = true then ((match_Select.f k (⟨#[97, 47, 43]⟩ : ByteArray) (([(⟨#[97]⟩ : ByteArray), (⟨#[97, 47, 98]⟩ : ByteArray)] : List ByteArray))).bind fun t289 => ((brokerref01_Same.f k t289 (([(⟨#[97, 47, 98]⟩ : ByteArray)] : List ByteArray))).bind fun t295 => (some t295))) else (some false)) = some r := H
           have A45 := Aside0.mk A450
           clear A450
           by_cases c46 : t285 = true
           ·subst c46
            have H1 : ((match_Select.f k (⟨#[97, 47, 43]⟩ : ByteArray) (([(⟨#[97]⟩ : ByteArray), (⟨#[97, 47, 98]⟩ : ByteArray)] : List ByteArray))).bind fun t289 => ((brokerref01_Same.f k t289 (([(⟨#[97, 47, 98]⟩ : ByteArray)] : List ByteArray))).bind fun t295 => (some t295))) = some r := by rw [if_pos rfl] at H; exact H
            clear H
            have H := H1
            clear H1
            obtain ⟨y286, hy286⟩ : ∃ y_ : List ByteArray, y_ = (([(⟨#[97]⟩ : ByteArray), (⟨#[97, 47, 98]⟩ : ByteArray)] : List ByteArray)) := ⟨_, rfl⟩
            replace H : ((match_Select.f k (⟨#[97, 47, 43]⟩ : ByteArray) y286).bind fun t289 => ((brokerref01_Same.f k t289 (([(⟨#[97, 47, 98]⟩ : ByteArray)] : List ByteArray))).bind fun t295 => (some t295))) = some r := by first | (rw [hy286]; with_reducible exact H) | (have H2_ := (Option.bind_some _ _).symm.trans H; rw [hy286]; with_reducible exact H2_) | (have H2_ := (Option.bind_some _ _).symm.trans H; with_reducible exact H2_) | with_reducible exact H | (rw [hy286]; exact H) | exact H
            have Ny286 := Aside0.mk hy286
            clear hy286
            replace H := Option.bind_eq_some_iff.mp H
            obtain ⟨t289, A470, H⟩ := H
            replace H : ((brokerref01_Same.f k t289 (([(⟨#[97, 47, 98]⟩ : ByteArray)] : List ByteArray))).bind fun t295 => (some t295)) = some r := H
            have A47 := Aside0.mk A470
            clear A470
            obtain ⟨y292, hy292⟩ : ∃ y_ : List ByteArray, y_ = (([(⟨#[97, 47, 98]⟩ : ByteArray)] : List ByteArray)) := ⟨_, rfl⟩
            replace H : ((brokerref01_Same.f k t289 y292).bind fun t295 => (some t295)) = some r := by first | (rw [hy292]; with_reducible exact H) | (have H2_ := (Option.bind_some _ _).symm.trans H; rw [hy292]; with_reducible exact H2_) | (have H2_ := (Option.bind_some _ _).symm.trans H; with_reducible exact H2_) | with_reducible exact H | (rw [hy292]; exact H) | exact H
            have Ny292 := Aside0.mk hy292
            clear hy292
            replace H := Option.bind_eq_some_iff.mp H
            obtain ⟨t295, A480, H⟩ := H
            replace H : (some t295) = some r := H
            have A48 := Aside0.mk A480
            clear A480
            obtain rfl := Option.some.inj H
            go_enter Tryd.func10, Tryd.ntmps10
            go_wp2_with (first | ((with_reducible refine gate_callee (f := 13) rfl ?_); refine goesL_ (some 4) rfl rfl Tryd.func13 (by kernel_rfl) rfl #[.string (⟨#[97, 47, 43, 47, 99]⟩ : ByteArray), .string (⟨#[43, 47, 98, 47, 35]⟩ : ByteArray)] rfl (by (try simp only [List.map_toArray, List.map_cons, List.map_nil]); first | done | rfl | (simp only [List.length_drop, List.length_take]; rfl)) ?_; (with_reducible refine (match_Common.calls k (⟨#[97, 47, 43, 47, 99]⟩ : ByteArray) (⟨#[43, 47, 98, 47, 35]⟩ : ByteArray) t266 true _ A1.out).mono ?_); rintro e w49 ⟨rfl, hb⟩; refine ⟨_, rfl, ?_⟩; have n0_ := Aside0.mk (below_step (by repeat (first | (with_reducible first | exact HB.out | apply below_alloc | apply pw_below_drewN | apply below_drew1) | exact HB.out)) hb); clear HB; have HB := n0_; clear n0_; (try clear hb); (try clear hb2); (try clear hk); (try clear hi)) | ((with_reducible refine gate_callee (f := 11) rfl ?_); refine goesL_ (some 7) rfl rfl Tryd.func11 (by kernel_rfl) rfl #[.string (⟨#[115, 112, 111, 114, 116, 47, 43, 47, 115, 99, 111, 114, 101]⟩ : ByteArray), .string (⟨#[115, 112, 111, 114, 116, 47, 116, 101, 110, 110, 105, 115, 47, 115, 99, 111, 114, 101]⟩ : ByteArray)] rfl (by (try simp only [List.map_toArray, List.map_cons, List.map_nil]); first | done | rfl | (simp only [List.length_drop, List.length_take]; rfl)) ?_; (with_reducible refine (match_Matches.calls k (⟨#[115, 112, 111, 114, 116, 47, 43, 47, 115, 99, 111, 114, 101]⟩ : ByteArray) (⟨#[115, 112, 111, 114, 116, 47, 116, 101, 110, 110, 105, 115, 47, 115, 99, 111, 114, 101]⟩ : ByteArray) true _ A2.out).mono ?_); rintro e w50 ⟨rfl, hb⟩; refine ⟨_, rfl, ?_⟩; have n0_ := Aside0.mk (below_step (by repeat (first | (with_reducible first | exact HB.out | apply below_alloc | apply pw_below_drewN | apply below_drew1) | exact HB.out)) hb); clear HB; have HB := n0_; clear n0_; (try clear hb); (try clear hb2); (try clear hk); (try clear hi)) | (go_at_call 11; (with_reducible refine (match_Matches.calls k (⟨#[115, 112, 111, 114, 116, 47, 43, 47, 115, 99, 111, 114, 101]⟩ : ByteArray) (⟨#[115, 112, 111, 114, 116, 47, 116, 101, 110, 110, 105, 115]⟩ : ByteArray) false _ A4.out).mono ?_); rintro e w51 ⟨rfl, hb⟩; have n0_ := Aside0.mk (below_step (by repeat (first | (with_reducible first | exact HB.out | apply below_alloc | apply pw_below_drewN | apply below_drew1) | exact HB.out)) hb); clear HB; have HB := n0_; clear n0_; (try clear hb); (try clear hb2); (try clear hk); (try clear hi)) | (go_at_call 11; (with_reducible refine (match_Matches.calls k (⟨#[115, 112, 111, 114, 116, 47, 35]⟩ : ByteArray) (⟨#[115, 112, 111, 114, 116]⟩ : ByteArray) true _ A9.out).mono ?_); rintro e w52 ⟨rfl, hb⟩; have n0_ := Aside0.mk (below_step (by repeat (first | (with_reducible first | exact HB.out | apply below_alloc | apply pw_below_drewN | apply below_drew1) | exact HB.out)) hb); clear HB; have HB := n0_; clear n0_; (try clear hb); (try clear hb2); (try clear hk); (try clear hi)) | (go_at_call 11; (with_reducible refine (match_Matches.calls k (⟨#[43]⟩ : ByteArray) (⟨#[36, 115, 121, 115]⟩ : ByteArray) false _ A11.out).mono ?_); rintro e w53 ⟨rfl, hb⟩; have n0_ := Aside0.mk (below_step (by repeat (first | (with_reducible first | exact HB.out | apply below_alloc | apply pw_below_drewN | apply below_drew1) | exact HB.out)) hb); clear HB; have HB := n0_; clear n0_; (try clear hb); (try clear hb2); (try clear hk); (try clear hi)) | (go_at_call 15; (with_reducible refine (match_Covers.calls k (⟨#[97, 47, 35]⟩ : ByteArray) (⟨#[97, 47, 43, 47, 98, 47, 35]⟩ : ByteArray) true _ A18.out).mono ?_); rintro e w54 ⟨rfl, hb⟩; have n0_ := Aside0.mk (below_step (by repeat (first | (with_reducible first | exact HB.out | apply below_alloc | apply pw_below_drewN | apply below_drew1) | exact HB.out)) hb); clear HB; have HB := n0_; clear n0_; (try clear hb); (try clear hb2); (try clear hk); (try clear hi)) | (go_at_call 15; (with_reducible refine (match_Covers.calls k (⟨#[43, 47, 35]⟩ : ByteArray) (⟨#[35]⟩ : ByteArray) false _ A20.out).mono ?_); rintro e w55 ⟨rfl, hb⟩; have n0_ := Aside0.mk (below_step (by repeat (first | (with_reducible first | exact HB.out | apply below_alloc | apply pw_below_drewN | apply below_drew1) | exact HB.out)) hb); clear HB; have HB := n0_; clear n0_; (try clear hb); (try clear hb2); (try clear hk); (try clear hi)) | (go_at_call 17; (with_reducible refine (match_Meets.calls k (⟨#[97, 47, 35]⟩ : ByteArray) (⟨#[43, 47, 43]⟩ : ByteArray) true _ A29.out).mono ?_); rintro e w56 ⟨rfl, hb⟩; have n0_ := Aside0.mk (below_step (by repeat (first | (with_reducible first | exact HB.out | apply below_alloc | apply pw_below_drewN | apply below_drew1) | exact HB.out)) hb); clear HB; have HB := n0_; clear n0_; (try clear hb); (try clear hb2); (try clear hk); (try clear hi)) | (go_at_call 17; (with_reducible refine (match_Meets.calls k (⟨#[43]⟩ : ByteArray) (⟨#[36, 115, 121, 115]⟩ : ByteArray) false _ A31.out).mono ?_); rintro e w57 ⟨rfl, hb⟩; have n0_ := Aside0.mk (below_step (by repeat (first | (with_reducible first | exact HB.out | apply below_alloc | apply pw_below_drewN | apply below_drew1) | exact HB.out)) hb); clear HB; have HB := n0_; clear n0_; (try clear hb); (try clear hb2); (try clear hk); (try clear hi)) | ((with_reducible refine gate_dst (N := 41) rfl ?_); (try (refine gate_guard (by rfl) ?_; dsimp only)); refine Kd.R_lit Kd.string _ 9 ?hg (N := 41) ?hd (xs := ([(⟨#[97, 47, 98]⟩ : ByteArray), (⟨#[97, 47, 35]⟩ : ByteArray), (⟨#[43, 47, 98]⟩ : ByteArray), (⟨#[97, 47, 35]⟩ : ByteArray)] : List ByteArray)) (inner := [.string (⟨#[97, 47, 98]⟩ : ByteArray), .string (⟨#[97, 47, 35]⟩ : ByteArray), .string (⟨#[43, 47, 98]⟩ : ByteArray), .string (⟨#[97, 47, 35]⟩ : ByteArray)]) (ok := fun _ => True) (okp := fun _ => True) ?hr ?hp (fun _ hk => hk) trivial (Below.refl _ _) (Nat.le_refl _) (by simp) ?_; (case hd => rfl); (case hg => rfl); (case hr => first | (go_simp; done) | (go_simp; rfl)); (case hp => exact (Reps.one (show Kd.M Kd.string _ _ _ (⟨#[97, 47, 98]⟩ : ByteArray) [.string (⟨#[97, 47, 98]⟩ : ByteArray)] from rfl) (Reps.one (show Kd.M Kd.string _ _ _ (⟨#[97, 47, 35]⟩ : ByteArray) [.string (⟨#[97, 47, 35]⟩ : ByteArray)] from rfl) (Reps.one (show Kd.M Kd.string _ _ _ (⟨#[43, 47, 98]⟩ : ByteArray) [.string (⟨#[43, 47, 98]⟩ : ByteArray)] from rfl) (Reps.one (show Kd.M Kd.string _ _ _ (⟨#[97, 47, 35]⟩ : ByteArray) [.string (⟨#[97, 47, 35]⟩ : ByteArray)] from rfl) (Reps.none _ _)))))); intro v277 w58 ho59 hb hg_ hnew_; clear hg_ hnew_; (first | rw [← Ny276.out] at ho59 | (simp only [Int.reduceToNat] at ho59; rw [← Ny276.out] at ho59)); have n0_ := Aside0.mk (Kd.R_lower ho59 (below_size (by repeat (first | (with_reducible first | exact HB.out | apply below_alloc | apply pw_below_drewN | apply below_drew1) | exact HB.out)))); have n1_ := Aside0.mk (below_step (by repeat (first | (with_reducible first | exact HB.out | apply below_alloc | apply pw_below_drewN | apply below_drew1) | exact HB.out)) hb); clear HB; have HO278 := n0_; have HB := n1_; clear n0_ n1_; clear hb ho59; obtain ⟨Ao60, co60, eo60⟩ := Kd.R_slice HO278.out; subst eo60) | (go_at_call 21; (with_reducible refine (match_Narrow.calls k _ _ y276 t279 _ ?side1 ?side2 A44.out).mono ?_); (case side1 => repeat (first | exact (Kd.R_reads' HO278.out).2.2 | (with_reducible refine Kd.C_alloc ?_ _) | (with_reducible refine Kd.C_drewN ?_ _) | (with_reducible refine Kd.C_drew ?_))); (case side2 => exact (Kd.R_reads' HO278.out).2.1); rintro e w61 ⟨v280, rfl, ho0, hb⟩; have n0_ := Aside0.mk (Kd.R_elder' (by (with_reducible repeat (first | apply Kd.R_alloc | apply Kd.R_drewN | apply Kd.R_drew)); exact HO278.out) (Kd.R_base ho0) hb); have n1_ := Aside0.mk (Kd.R_lower (Kd.R_new' ho0 (Kd.R_lt (by (with_reducible repeat (first | apply Kd.R_alloc | apply Kd.R_drewN | apply Kd.R_drew)); exact HO278.out))) (below_size (by repeat (first | (with_reducible first | exact HB.out | apply below_alloc | apply pw_below_drewN | apply below_drew1) | exact HB.out)))); have n2_ := Aside0.mk (below_step (by repeat (first | (with_reducible first | exact HB.out | apply below_alloc | apply pw_below_drewN | apply below_drew1) | exact HB.out)) hb); clear HO278; clear HB; have HO278 := n0_; have HO281 := n1_; have HB := n2_; clear n0_ n1_ n2_; (try clear hb); (try clear hb2); (try clear hk); (try clear hi); (try clear ho0)) | ((with_reducible refine gate_dst (N := 43) rfl ?_); (try (refine gate_guard (by rfl) ?_; dsimp only)); refine Kd.R_lit Kd.string _ 9 ?hg (N := 43) ?hd (xs := ([(⟨#[97, 47, 35]⟩ : ByteArray), (⟨#[43, 47, 98]⟩ : ByteArray)] : List ByteArray)) (inner := [.string (⟨#[97, 47, 35]⟩ : ByteArray), .string (⟨#[43, 47, 98]⟩ : ByteArray)]) (ok := fun _ => True) (okp := fun _ => True) ?hr ?hp (fun _ hk => hk) trivial (Below.refl _ _) (Nat.le_refl _) (by simp) ?_; (case hd => rfl); (case hg => rfl); (case hr => first | (go_simp; done) | (go_simp; rfl)); (case hp => exact (Reps.one (show Kd.M Kd.string _ _ _ (⟨#[97, 47, 35]⟩ : ByteArray) [.string (⟨#[97, 47, 35]⟩ : ByteArray)] from rfl) (Reps.one (show Kd.M Kd.string _ _ _ (⟨#[43, 47, 98]⟩ : ByteArray) [.string (⟨#[43, 47, 98]⟩ : ByteArray)] from rfl) (Reps.none _ _)))); intro v283 w62 ho63 hb hg_ hnew_; clear hg_ hnew_; (first | rw [← Ny282.out] at ho63 | (simp only [Int.reduceToNat] at ho63; rw [← Ny282.out] at ho63)); have n0_ := Aside0.mk (Kd.R_elder' (by (with_reducible repeat (first | apply Kd.R_alloc | apply Kd.R_drewN | apply Kd.R_drew)); exact HO278.out) (Kd.R_base ho63) hb); have n1_ := Aside0.mk (Kd.R_elder' (by (with_reducible repeat (first | apply Kd.R_alloc | apply Kd.R_drewN | apply Kd.R_drew)); exact HO281.out) (Kd.R_base ho63) hb); have n2_ := Aside0.mk (Kd.R_lower (Kd.R_new' (Kd.R_new' ho63 (Kd.R_lt (by (with_reducible repeat (first | apply Kd.R_alloc | apply Kd.R_drewN | apply Kd.R_drew)); exact HO278.out))) (Kd.R_lt (by (with_reducible repeat (first | apply Kd.R_alloc | apply Kd.R_drewN | apply Kd.R_drew)); exact HO281.out))) (below_size (by repeat (first | (with_reducible first | exact HB.out | apply below_alloc | apply pw_below_drewN | apply below_drew1) | exact HB.out)))); have n3_ := Aside0.mk (below_step (by repeat (first | (with_reducible first | exact HB.out | apply below_alloc | apply pw_below_drewN | apply below_drew1) | exact HB.out)) hb); clear HO278; clear HO281; clear HB; have HO278 := n0_; have HO281 := n1_; have HO284 := n2_; have HB := n3_; clear n0_ n1_ n2_ n3_; clear hb ho63; obtain ⟨Ao64, co64, eo64⟩ := Kd.R_slice HO281.out; subst eo64; obtain ⟨Ao65, co65, eo65⟩ := Kd.R_slice HO284.out; subst eo65) | (go_at_call 20; (with_reducible refine (brokerref01_Same.calls k _ _ t279 _ _ y282 true _ ?side1 ?side2 ?side3 ?side4 A45.out).mono ?_); (case side1 => repeat (first | exact (Kd.R_reads' HO281.out).2.2 | (with_reducible refine Kd.C_alloc ?_ _) | (with_reducible refine Kd.C_drewN ?_ _) | (with_reducible refine Kd.C_drew ?_))); (case side2 => exact (Kd.R_reads' HO281.out).2.1); (case side3 => repeat (first | exact (Kd.R_reads' HO284.out).2.2 | (with_reducible refine Kd.C_alloc ?_ _) | (with_reducible refine Kd.C_drewN ?_ _) | (with_reducible refine Kd.C_drew ?_))); (case side4 => exact (Kd.R_reads' HO284.out).2.1); rintro e w' ⟨rfl, ⟨nd, rfl⟩⟩) | ((with_reducible refine gate_dst (N := 47) rfl ?_); (try (refine gate_guard (by rfl) ?_; dsimp only)); refine Kd.R_lit Kd.string _ 9 ?hg (N := 47) ?hd (xs := ([(⟨#[97]⟩ : ByteArray), (⟨#[97, 47, 98]⟩ : ByteArray)] : List ByteArray)) (inner := [.string (⟨#[97]⟩ : ByteArray), .string (⟨#[97, 47, 98]⟩ : ByteArray)]) (ok := fun _ => True) (okp := fun _ => True) ?hr ?hp (fun _ hk => hk) trivial (Below.refl _ _) (Nat.le_refl _) (by simp) ?_; (case hd => rfl); (case hg => rfl); (case hr => first | (go_simp; done) | (go_simp; rfl)); (case hp => exact (Reps.one (show Kd.M Kd.string _ _ _ (⟨#[97]⟩ : ByteArray) [.string (⟨#[97]⟩ : ByteArray)] from rfl) (Reps.one (show Kd.M Kd.string _ _ _ (⟨#[97, 47, 98]⟩ : ByteArray) [.string (⟨#[97, 47, 98]⟩ : ByteArray)] from rfl) (Reps.none _ _)))); intro v287 w66 ho67 hb hg_ hnew_; clear hg_ hnew_; (first | rw [← Ny286.out] at ho67 | (simp only [Int.reduceToNat] at ho67; rw [← Ny286.out] at ho67)); have n0_ := Aside0.mk (Kd.R_elder' (by (with_reducible repeat (first | apply Kd.R_alloc | apply Kd.R_drewN | apply Kd.R_drew)); exact HO278.out) (Kd.R_base ho67) hb); have n1_ := Aside0.mk (Kd.R_elder' (by (with_reducible repeat (first | apply Kd.R_alloc | apply Kd.R_drewN | apply Kd.R_drew)); exact HO281.out) (Kd.R_base ho67) hb); have n2_ := Aside0.mk (Kd.R_elder' (by (with_reducible repeat (first | apply Kd.R_alloc | apply Kd.R_drewN | apply Kd.R_drew)); exact HO284.out) (Kd.R_base ho67) hb); have n3_ := Aside0.mk (Kd.R_lower (Kd.R_new' (Kd.R_new' (Kd.R_new' ho67 (Kd.R_lt (by (with_reducible repeat (first | apply Kd.R_alloc | apply Kd.R_drewN | apply Kd.R_drew)); exact HO278.out))) (Kd.R_lt (by (with_reducible repeat (first | apply Kd.R_alloc | apply Kd.R_drewN | apply Kd.R_drew)); exact HO281.out))) (Kd.R_lt (by (with_reducible repeat (first | apply Kd.R_alloc | apply Kd.R_drewN | apply Kd.R_drew)); exact HO284.out))) (below_size (by repeat (first | (with_reducible first | exact HB.out | apply below_alloc | apply pw_below_drewN | apply below_drew1) | exact HB.out)))); have n4_ := Aside0.mk (below_step (by repeat (first | (with_reducible first | exact HB.out | apply below_alloc | apply pw_below_drewN | apply below_drew1) | exact HB.out)) hb); clear HO278; clear HO281; clear HO284; clear HB; have HO278 := n0_; have HO281 := n1_; have HO284 := n2_; have HO288 := n3_; have HB := n4_; clear n0_ n1_ n2_ n3_ n4_; clear hb ho67; obtain ⟨Ao68, co68, eo68⟩ := Kd.R_slice HO288.out; subst eo68) | (go_at_call 23; (with_reducible refine (match_Select.calls k (⟨#[97, 47, 43]⟩ : ByteArray) _ _ y286 t289 _ ?side1 ?side2 A47.out).mono ?_); (case side1 => repeat (first | exact (Kd.R_reads' HO288.out).2.2 | (with_reducible refine Kd.C_alloc ?_ _) | (with_reducible refine Kd.C_drewN ?_ _) | (with_reducible refine Kd.C_drew ?_))); (case side2 => exact (Kd.R_reads' HO288.out).2.1); rintro e w69 ⟨v290, rfl, ho0, hb⟩; have n0_ := Aside0.mk (Kd.R_elder' (by (with_reducible repeat (first | apply Kd.R_alloc | apply Kd.R_drewN | apply Kd.R_drew)); exact HO278.out) (Kd.R_base ho0) hb); have n1_ := Aside0.mk (Kd.R_elder' (by (with_reducible repeat (first | apply Kd.R_alloc | apply Kd.R_drewN | apply Kd.R_drew)); exact HO281.out) (Kd.R_base ho0) hb); have n2_ := Aside0.mk (Kd.R_elder' (by (with_reducible repeat (first | apply Kd.R_alloc | apply Kd.R_drewN | apply Kd.R_drew)); exact HO284.out) (Kd.R_base ho0) hb); have n3_ := Aside0.mk (Kd.R_elder' (by (with_reducible repeat (first | apply Kd.R_alloc | apply Kd.R_drewN | apply Kd.R_drew)); exact HO288.out) (Kd.R_base ho0) hb); have n4_ := Aside0.mk (Kd.R_lower (Kd.R_new' (Kd.R_new' (Kd.R_new' (Kd.R_new' ho0 (Kd.R_lt (by (with_reducible repeat (first | apply Kd.R_alloc | apply Kd.R_drewN | apply Kd.R_drew)); exact HO278.out))) (Kd.R_lt (by (with_reducible repeat (first | apply Kd.R_alloc | apply Kd.R_drewN | apply Kd.R_drew)); exact HO281.out))) (Kd.R_lt (by (with_reducible repeat (first | apply Kd.R_alloc | apply Kd.R_drewN | apply Kd.R_drew)); exact HO284.out))) (Kd.R_lt (by (with_reducible repeat (first | apply Kd.R_alloc | apply Kd.R_drewN | apply Kd.R_drew)); exact HO288.out))) (below_size (by repeat (first | (with_reducible first | exact HB.out | apply below_alloc | apply pw_below_drewN | apply below_drew1) | exact HB.out)))); have n5_ := Aside0.mk (below_step (by repeat (first | (with_reducible first | exact HB.out | apply below_alloc | apply pw_below_drewN | apply below_drew1) | exact HB.out)) hb); clear HO278; clear HO281; clear HO284; clear HO288; clear HB; have HO278 := n0_; have HO281 := n1_; have HO284 := n2_; have HO288 := n3_; have HO291 := n4_; have HB := n5_; clear n0_ n1_ n2_ n3_ n4_ n5_; (try clear hb); (try clear hb2); (try clear hk); (try clear hi); (try clear ho0)) | ((with_reducible refine gate_dst (N := 49) rfl ?_); (try (refine gate_guard (by rfl) ?_; dsimp only)); refine Kd.R_lit Kd.string _ 9 ?hg (N := 49) ?hd (xs := ([(⟨#[97, 47, 98]⟩ : ByteArray)] : List ByteArray)) (inner := [.string (⟨#[97, 47, 98]⟩ : ByteArray)]) (ok := fun _ => True) (okp := fun _ => True) ?hr ?hp (fun _ hk => hk) trivial (Below.refl _ _) (Nat.le_refl _) (by simp) ?_; (case hd => rfl); (case hg => rfl); (case hr => first | (go_simp; done) | (go_simp; rfl)); (case hp => exact (Reps.one (show Kd.M Kd.string _ _ _ (⟨#[97, 47, 98]⟩ : ByteArray) [.string (⟨#[97, 47, 98]⟩ : ByteArray)] from rfl) (Reps.none _ _))); intro v293 w70 ho71 hb hg_ hnew_; clear hg_ hnew_; (first | rw [← Ny292.out] at ho71 | (simp only [Int.reduceToNat] at ho71; rw [← Ny292.out] at ho71)); have n0_ := Aside0.mk (Kd.R_elder' (by (with_reducible repeat (first | apply Kd.R_alloc | apply Kd.R_drewN | apply Kd.R_drew)); exact HO278.out) (Kd.R_base ho71) hb); have n1_ := Aside0.mk (Kd.R_elder' (by (with_reducible repeat (first | apply Kd.R_alloc | apply Kd.R_drewN | apply Kd.R_drew)); exact HO281.out) (Kd.R_base ho71) hb); have n2_ := Aside0.mk (Kd.R_elder' (by (with_reducible repeat (first | apply Kd.R_alloc | apply Kd.R_drewN | apply Kd.R_drew)); exact HO284.out) (Kd.R_base ho71) hb); have n3_ := Aside0.mk (Kd.R_elder' (by (with_reducible repeat (first | apply Kd.R_alloc | apply Kd.R_drewN | apply Kd.R_drew)); exact HO288.out) (Kd.R_base ho71) hb); have n4_ := Aside0.mk (Kd.R_elder' (by (with_reducible repeat (first | apply Kd.R_alloc | apply Kd.R_drewN | apply Kd.R_drew)); exact HO291.out) (Kd.R_base ho71) hb); have n5_ := Aside0.mk (Kd.R_lower (Kd.R_new' (Kd.R_new' (Kd.R_new' (Kd.R_new' (Kd.R_new' ho71 (Kd.R_lt (by (with_reducible repeat (first | apply Kd.R_alloc | apply Kd.R_drewN | apply Kd.R_drew)); exact HO278.out))) (Kd.R_lt (by (with_reducible repeat (first | apply Kd.R_alloc | apply Kd.R_drewN | apply Kd.R_drew)); exact HO281.out))) (Kd.R_lt (by (with_reducible repeat (first | apply Kd.R_alloc | apply Kd.R_drewN | apply Kd.R_drew)); exact HO284.out))) (Kd.R_lt (by (with_reducible repeat (first | apply Kd.R_alloc | apply Kd.R_drewN | apply Kd.R_drew)); exact HO288.out))) (Kd.R_lt (by (with_reducible repeat (first | apply Kd.R_alloc | apply Kd.R_drewN | apply Kd.R_drew)); exact HO291.out))) (below_size (by repeat (first | (with_reducible first | exact HB.out | apply below_alloc | apply pw_below_drewN | apply below_drew1) | exact HB.out)))); have n6_ := Aside0.mk (below_step (by repeat (first | (with_reducible first | exact HB.out | apply below_alloc | apply pw_below_drewN | apply below_drew1) | exact HB.out)) hb); clear HO278; clear HO281; clear HO284; clear HO288; clear HO291; clear HB; have HO278 := n0_; have HO281 := n1_; have HO284 := n2_; have HO288 := n3_; have HO291 := n4_; have HO294 := n5_; have HB := n6_; clear n0_ n1_ n2_ n3_ n4_ n5_ n6_; clear hb ho71; obtain ⟨Ao72, co72, eo72⟩ := Kd.R_slice HO291.out; subst eo72; obtain ⟨Ao73, co73, eo73⟩ := Kd.R_slice HO294.out; subst eo73) | (go_at_call 20; (with_reducible refine (brokerref01_Same.calls k _ _ t289 _ _ y292 t295 _ ?side1 ?side2 ?side3 ?side4 A48.out).mono ?_); (case side1 => repeat (first | exact (Kd.R_reads' HO291.out).2.2 | (with_reducible refine Kd.C_alloc ?_ _) | (with_reducible refine Kd.C_drewN ?_ _) | (with_reducible refine Kd.C_drew ?_))); (case side2 => exact (Kd.R_reads' HO291.out).2.1); (case side3 => repeat (first | exact (Kd.R_reads' HO294.out).2.2 | (with_reducible refine Kd.C_alloc ?_ _) | (with_reducible refine Kd.C_drewN ?_ _) | (with_reducible refine Kd.C_drew ?_))); (case side4 => exact (Kd.R_reads' HO294.out).2.1); rintro e w' ⟨rfl, ⟨nd, rfl⟩⟩))
            go_ret
            exact ⟨by first | rfl | (simp [errW_none, errW_some] <;> rfl) | (simp [*, errW_none, errW_some] <;> rfl), by repeat (first | (with_reducible first | exact HB.out | apply below_alloc | apply pw_below_drewN | apply below_drew1) | exact HB.out)⟩
           ·replace c46 := Bool.eq_false_iff.mpr c46
            subst c46
            have H1 : (some false) = some r := by rw [if_neg (show ¬ (false = true) by decide)] at H; exact H
            clear H
            have H := H1
            clear H1
            obtain rfl := Option.some.inj H
            go_enter Tryd.func10, Tryd.ntmps10
            go_wp2_with (first | ((with_reducible refine gate_callee (f := 13) rfl ?_); refine goesL_ (some 4) rfl rfl Tryd.func13 (by kernel_rfl) rfl #[.string (⟨#[97, 47, 43, 47, 99]⟩ : ByteArray), .string (⟨#[43, 47, 98, 47, 35]⟩ : ByteArray)] rfl (by (try simp only [List.map_toArray, List.map_cons, List.map_nil]); first | done | rfl | (simp only [List.length_drop, List.length_take]; rfl)) ?_; (with_reducible refine (match_Common.calls k (⟨#[97, 47, 43, 47, 99]⟩ : ByteArray) (⟨#[43, 47, 98, 47, 35]⟩ : ByteArray) t266 true _ A1.out).mono ?_); rintro e w74 ⟨rfl, hb⟩; refine ⟨_, rfl, ?_⟩; have n0_ := Aside0.mk (below_step (by repeat (first | (with_reducible first | exact HB.out | apply below_alloc | apply pw_below_drewN | apply below_drew1) | exact HB.out)) hb); clear HB; have HB := n0_; clear n0_; (try clear hb); (try clear hb2); (try clear hk); (try clear hi)) | ((with_reducible refine gate_callee (f := 11) rfl ?_); refine goesL_ (some 7) rfl rfl Tryd.func11 (by kernel_rfl) rfl #[.string (⟨#[115, 112, 111, 114, 116, 47, 43, 47, 115, 99, 111, 114, 101]⟩ : ByteArray), .string (⟨#[115, 112, 111, 114, 116, 47, 116, 101, 110, 110, 105, 115, 47, 115, 99, 111, 114, 101]⟩ : ByteArray)] rfl (by (try simp only [List.map_toArray, List.map_cons, List.map_nil]); first | done | rfl | (simp only [List.length_drop, List.length_take]; rfl)) ?_; (with_reducible refine (match_Matches.calls k (⟨#[115, 112, 111, 114, 116, 47, 43, 47, 115, 99, 111, 114, 101]⟩ : ByteArray) (⟨#[115, 112, 111, 114, 116, 47, 116, 101, 110, 110, 105, 115, 47, 115, 99, 111, 114, 101]⟩ : ByteArray) true _ A2.out).mono ?_); rintro e w75 ⟨rfl, hb⟩; refine ⟨_, rfl, ?_⟩; have n0_ := Aside0.mk (below_step (by repeat (first | (with_reducible first | exact HB.out | apply below_alloc | apply pw_below_drewN | apply below_drew1) | exact HB.out)) hb); clear HB; have HB := n0_; clear n0_; (try clear hb); (try clear hb2); (try clear hk); (try clear hi)) | (go_at_call 11; (with_reducible refine (match_Matches.calls k (⟨#[115, 112, 111, 114, 116, 47, 43, 47, 115, 99, 111, 114, 101]⟩ : ByteArray) (⟨#[115, 112, 111, 114, 116, 47, 116, 101, 110, 110, 105, 115]⟩ : ByteArray) false _ A4.out).mono ?_); rintro e w76 ⟨rfl, hb⟩; have n0_ := Aside0.mk (below_step (by repeat (first | (with_reducible first | exact HB.out | apply below_alloc | apply pw_below_drewN | apply below_drew1) | exact HB.out)) hb); clear HB; have HB := n0_; clear n0_; (try clear hb); (try clear hb2); (try clear hk); (try clear hi)) | (go_at_call 11; (with_reducible refine (match_Matches.calls k (⟨#[115, 112, 111, 114, 116, 47, 35]⟩ : ByteArray) (⟨#[115, 112, 111, 114, 116]⟩ : ByteArray) true _ A9.out).mono ?_); rintro e w77 ⟨rfl, hb⟩; have n0_ := Aside0.mk (below_step (by repeat (first | (with_reducible first | exact HB.out | apply below_alloc | apply pw_below_drewN | apply below_drew1) | exact HB.out)) hb); clear HB; have HB := n0_; clear n0_; (try clear hb); (try clear hb2); (try clear hk); (try clear hi)) | (go_at_call 11; (with_reducible refine (match_Matches.calls k (⟨#[43]⟩ : ByteArray) (⟨#[36, 115, 121, 115]⟩ : ByteArray) false _ A11.out).mono ?_); rintro e w78 ⟨rfl, hb⟩; have n0_ := Aside0.mk (below_step (by repeat (first | (with_reducible first | exact HB.out | apply below_alloc | apply pw_below_drewN | apply below_drew1) | exact HB.out)) hb); clear HB; have HB := n0_; clear n0_; (try clear hb); (try clear hb2); (try clear hk); (try clear hi)) | (go_at_call 15; (with_reducible refine (match_Covers.calls k (⟨#[97, 47, 35]⟩ : ByteArray) (⟨#[97, 47, 43, 47, 98, 47, 35]⟩ : ByteArray) true _ A18.out).mono ?_); rintro e w79 ⟨rfl, hb⟩; have n0_ := Aside0.mk (below_step (by repeat (first | (with_reducible first | exact HB.out | apply below_alloc | apply pw_below_drewN | apply below_drew1) | exact HB.out)) hb); clear HB; have HB := n0_; clear n0_; (try clear hb); (try clear hb2); (try clear hk); (try clear hi)) | (go_at_call 15; (with_reducible refine (match_Covers.calls k (⟨#[43, 47, 35]⟩ : ByteArray) (⟨#[35]⟩ : ByteArray) false _ A20.out).mono ?_); rintro e w80 ⟨rfl, hb⟩; have n0_ := Aside0.mk (below_step (by repeat (first | (with_reducible first | exact HB.out | apply below_alloc | apply pw_below_drewN | apply below_drew1) | exact HB.out)) hb); clear HB; have HB := n0_; clear n0_; (try clear hb); (try clear hb2); (try clear hk); (try clear hi)) | (go_at_call 17; (with_reducible refine (match_Meets.calls k (⟨#[97, 47, 35]⟩ : ByteArray) (⟨#[43, 47, 43]⟩ : ByteArray) true _ A29.out).mono ?_); rintro e w81 ⟨rfl, hb⟩; have n0_ := Aside0.mk (below_step (by repeat (first | (with_reducible first | exact HB.out | apply below_alloc | apply pw_below_drewN | apply below_drew1) | exact HB.out)) hb); clear HB; have HB := n0_; clear n0_; (try clear hb); (try clear hb2); (try clear hk); (try clear hi)) | (go_at_call 17; (with_reducible refine (match_Meets.calls k (⟨#[43]⟩ : ByteArray) (⟨#[36, 115, 121, 115]⟩ : ByteArray) false _ A31.out).mono ?_); rintro e w82 ⟨rfl, hb⟩; have n0_ := Aside0.mk (below_step (by repeat (first | (with_reducible first | exact HB.out | apply below_alloc | apply pw_below_drewN | apply below_drew1) | exact HB.out)) hb); clear HB; have HB := n0_; clear n0_; (try clear hb); (try clear hb2); (try clear hk); (try clear hi)) | ((with_reducible refine gate_dst (N := 41) rfl ?_); (try (refine gate_guard (by rfl) ?_; dsimp only)); refine Kd.R_lit Kd.string _ 9 ?hg (N := 41) ?hd (xs := ([(⟨#[97, 47, 98]⟩ : ByteArray), (⟨#[97, 47, 35]⟩ : ByteArray), (⟨#[43, 47, 98]⟩ : ByteArray), (⟨#[97, 47, 35]⟩ : ByteArray)] : List ByteArray)) (inner := [.string (⟨#[97, 47, 98]⟩ : ByteArray), .string (⟨#[97, 47, 35]⟩ : ByteArray), .string (⟨#[43, 47, 98]⟩ : ByteArray), .string (⟨#[97, 47, 35]⟩ : ByteArray)]) (ok := fun _ => True) (okp := fun _ => True) ?hr ?hp (fun _ hk => hk) trivial (Below.refl _ _) (Nat.le_refl _) (by simp) ?_; (case hd => rfl); (case hg => rfl); (case hr => first | (go_simp; done) | (go_simp; rfl)); (case hp => exact (Reps.one (show Kd.M Kd.string _ _ _ (⟨#[97, 47, 98]⟩ : ByteArray) [.string (⟨#[97, 47, 98]⟩ : ByteArray)] from rfl) (Reps.one (show Kd.M Kd.string _ _ _ (⟨#[97, 47, 35]⟩ : ByteArray) [.string (⟨#[97, 47, 35]⟩ : ByteArray)] from rfl) (Reps.one (show Kd.M Kd.string _ _ _ (⟨#[43, 47, 98]⟩ : ByteArray) [.string (⟨#[43, 47, 98]⟩ : ByteArray)] from rfl) (Reps.one (show Kd.M Kd.string _ _ _ (⟨#[97, 47, 35]⟩ : ByteArray) [.string (⟨#[97, 47, 35]⟩ : ByteArray)] from rfl) (Reps.none _ _)))))); intro v277 w83 ho84 hb hg_ hnew_; clear hg_ hnew_; (first | rw [← Ny276.out] at ho84 | (simp only [Int.reduceToNat] at ho84; rw [← Ny276.out] at ho84)); have n0_ := Aside0.mk (Kd.R_lower ho84 (below_size (by repeat (first | (with_reducible first | exact HB.out | apply below_alloc | apply pw_below_drewN | apply below_drew1) | exact HB.out)))); have n1_ := Aside0.mk (below_step (by repeat (first | (with_reducible first | exact HB.out | apply below_alloc | apply pw_below_drewN | apply below_drew1) | exact HB.out)) hb); clear HB; have HO278 := n0_; have HB := n1_; clear n0_ n1_; clear hb ho84; obtain ⟨Ao85, co85, eo85⟩ := Kd.R_slice HO278.out; subst eo85) | (go_at_call 21; (with_reducible refine (match_Narrow.calls k _ _ y276 t279 _ ?side1 ?side2 A44.out).mono ?_); (case side1 => repeat (first | exact (Kd.R_reads' HO278.out).2.2 | (with_reducible refine Kd.C_alloc ?_ _) | (with_reducible refine Kd.C_drewN ?_ _) | (with_reducible refine Kd.C_drew ?_))); (case side2 => exact (Kd.R_reads' HO278.out).2.1); rintro e w86 ⟨v280, rfl, ho0, hb⟩; have n0_ := Aside0.mk (Kd.R_elder' (by (with_reducible repeat (first | apply Kd.R_alloc | apply Kd.R_drewN | apply Kd.R_drew)); exact HO278.out) (Kd.R_base ho0) hb); have n1_ := Aside0.mk (Kd.R_lower (Kd.R_new' ho0 (Kd.R_lt (by (with_reducible repeat (first | apply Kd.R_alloc | apply Kd.R_drewN | apply Kd.R_drew)); exact HO278.out))) (below_size (by repeat (first | (with_reducible first | exact HB.out | apply below_alloc | apply pw_below_drewN | apply below_drew1) | exact HB.out)))); have n2_ := Aside0.mk (below_step (by repeat (first | (with_reducible first | exact HB.out | apply below_alloc | apply pw_below_drewN | apply below_drew1) | exact HB.out)) hb); clear HO278; clear HB; have HO278 := n0_; have HO281 := n1_; have HB := n2_; clear n0_ n1_ n2_; (try clear hb); (try clear hb2); (try clear hk); (try clear hi); (try clear ho0)) | ((with_reducible refine gate_dst (N := 43) rfl ?_); (try (refine gate_guard (by rfl) ?_; dsimp only)); refine Kd.R_lit Kd.string _ 9 ?hg (N := 43) ?hd (xs := ([(⟨#[97, 47, 35]⟩ : ByteArray), (⟨#[43, 47, 98]⟩ : ByteArray)] : List ByteArray)) (inner := [.string (⟨#[97, 47, 35]⟩ : ByteArray), .string (⟨#[43, 47, 98]⟩ : ByteArray)]) (ok := fun _ => True) (okp := fun _ => True) ?hr ?hp (fun _ hk => hk) trivial (Below.refl _ _) (Nat.le_refl _) (by simp) ?_; (case hd => rfl); (case hg => rfl); (case hr => first | (go_simp; done) | (go_simp; rfl)); (case hp => exact (Reps.one (show Kd.M Kd.string _ _ _ (⟨#[97, 47, 35]⟩ : ByteArray) [.string (⟨#[97, 47, 35]⟩ : ByteArray)] from rfl) (Reps.one (show Kd.M Kd.string _ _ _ (⟨#[43, 47, 98]⟩ : ByteArray) [.string (⟨#[43, 47, 98]⟩ : ByteArray)] from rfl) (Reps.none _ _)))); intro v283 w87 ho88 hb hg_ hnew_; clear hg_ hnew_; (first | rw [← Ny282.out] at ho88 | (simp only [Int.reduceToNat] at ho88; rw [← Ny282.out] at ho88)); have n0_ := Aside0.mk (Kd.R_elder' (by (with_reducible repeat (first | apply Kd.R_alloc | apply Kd.R_drewN | apply Kd.R_drew)); exact HO278.out) (Kd.R_base ho88) hb); have n1_ := Aside0.mk (Kd.R_elder' (by (with_reducible repeat (first | apply Kd.R_alloc | apply Kd.R_drewN | apply Kd.R_drew)); exact HO281.out) (Kd.R_base ho88) hb); have n2_ := Aside0.mk (Kd.R_lower (Kd.R_new' (Kd.R_new' ho88 (Kd.R_lt (by (with_reducible repeat (first | apply Kd.R_alloc | apply Kd.R_drewN | apply Kd.R_drew)); exact HO278.out))) (Kd.R_lt (by (with_reducible repeat (first | apply Kd.R_alloc | apply Kd.R_drewN | apply Kd.R_drew)); exact HO281.out))) (below_size (by repeat (first | (with_reducible first | exact HB.out | apply below_alloc | apply pw_below_drewN | apply below_drew1) | exact HB.out)))); have n3_ := Aside0.mk (below_step (by repeat (first | (with_reducible first | exact HB.out | apply below_alloc | apply pw_below_drewN | apply below_drew1) | exact HB.out)) hb); clear HO278; clear HO281; clear HB; have HO278 := n0_; have HO281 := n1_; have HO284 := n2_; have HB := n3_; clear n0_ n1_ n2_ n3_; clear hb ho88; obtain ⟨Ao89, co89, eo89⟩ := Kd.R_slice HO281.out; subst eo89; obtain ⟨Ao90, co90, eo90⟩ := Kd.R_slice HO284.out; subst eo90) | (go_at_call 20; (with_reducible refine (brokerref01_Same.calls k _ _ t279 _ _ y282 false _ ?side1 ?side2 ?side3 ?side4 A45.out).mono ?_); (case side1 => repeat (first | exact (Kd.R_reads' HO281.out).2.2 | (with_reducible refine Kd.C_alloc ?_ _) | (with_reducible refine Kd.C_drewN ?_ _) | (with_reducible refine Kd.C_drew ?_))); (case side2 => exact (Kd.R_reads' HO281.out).2.1); (case side3 => repeat (first | exact (Kd.R_reads' HO284.out).2.2 | (with_reducible refine Kd.C_alloc ?_ _) | (with_reducible refine Kd.C_drewN ?_ _) | (with_reducible refine Kd.C_drew ?_))); (case side4 => exact (Kd.R_reads' HO284.out).2.1); rintro e w' ⟨rfl, ⟨nd, rfl⟩⟩))
            go_ret
            exact ⟨by first | rfl | (simp [errW_none, errW_some] <;> rfl) | (simp [*, errW_none, errW_some] <;> rfl), by repeat (first | (with_reducible first | exact HB.out | apply below_alloc | apply pw_below_drewN | apply below_drew1) | exact HB.out)⟩
          ·replace c43 := Bool.eq_false_iff.mpr c43
           subst c43
           have H1 : (some false) = some r := by rw [if_neg (show ¬ (false = true) by decide)] at H; exact H
           clear H
           have H := H1
           clear H1
           obtain rfl := Option.some.inj H
           go_enter Tryd.func10, Tryd.ntmps10
           go_wp2_with (first | ((with_reducible refine gate_callee (f := 13) rfl ?_); refine goesL_ (some 4) rfl rfl Tryd.func13 (by kernel_rfl) rfl #[.string (⟨#[97, 47, 43, 47, 99]⟩ : ByteArray), .string (⟨#[43, 47, 98, 47, 35]⟩ : ByteArray)] rfl (by (try simp only [List.map_toArray, List.map_cons, List.map_nil]); first | done | rfl | (simp only [List.length_drop, List.length_take]; rfl)) ?_; (with_reducible refine (match_Common.calls k (⟨#[97, 47, 43, 47, 99]⟩ : ByteArray) (⟨#[43, 47, 98, 47, 35]⟩ : ByteArray) t266 false _ A1.out).mono ?_); rintro e w91 ⟨rfl, hb⟩; refine ⟨_, rfl, ?_⟩; have n0_ := Aside0.mk (below_step (by repeat (first | (with_reducible first | exact HB.out | apply below_alloc | apply pw_below_drewN | apply below_drew1) | exact HB.out)) hb); clear HB; have HB := n0_; clear n0_; (try clear hb); (try clear hb2); (try clear hk); (try clear hi)) | ((with_reducible refine gate_callee (f := 11) rfl ?_); refine goesL_ (some 7) rfl rfl Tryd.func11 (by kernel_rfl) rfl #[.string (⟨#[115, 112, 111, 114, 116, 47, 43, 47, 115, 99, 111, 114, 101]⟩ : ByteArray), .string (⟨#[115, 112, 111, 114, 116, 47, 116, 101, 110, 110, 105, 115, 47, 115, 99, 111, 114, 101]⟩ : ByteArray)] rfl (by (try simp only [List.map_toArray, List.map_cons, List.map_nil]); first | done | rfl | (simp only [List.length_drop, List.length_take]; rfl)) ?_; (with_reducible refine (match_Matches.calls k (⟨#[115, 112, 111, 114, 116, 47, 43, 47, 115, 99, 111, 114, 101]⟩ : ByteArray) (⟨#[115, 112, 111, 114, 116, 47, 116, 101, 110, 110, 105, 115, 47, 115, 99, 111, 114, 101]⟩ : ByteArray) true _ A2.out).mono ?_); rintro e w92 ⟨rfl, hb⟩; refine ⟨_, rfl, ?_⟩; have n0_ := Aside0.mk (below_step (by repeat (first | (with_reducible first | exact HB.out | apply below_alloc | apply pw_below_drewN | apply below_drew1) | exact HB.out)) hb); clear HB; have HB := n0_; clear n0_; (try clear hb); (try clear hb2); (try clear hk); (try clear hi)) | (go_at_call 11; (with_reducible refine (match_Matches.calls k (⟨#[115, 112, 111, 114, 116, 47, 43, 47, 115, 99, 111, 114, 101]⟩ : ByteArray) (⟨#[115, 112, 111, 114, 116, 47, 116, 101, 110, 110, 105, 115]⟩ : ByteArray) false _ A4.out).mono ?_); rintro e w93 ⟨rfl, hb⟩; have n0_ := Aside0.mk (below_step (by repeat (first | (with_reducible first | exact HB.out | apply below_alloc | apply pw_below_drewN | apply below_drew1) | exact HB.out)) hb); clear HB; have HB := n0_; clear n0_; (try clear hb); (try clear hb2); (try clear hk); (try clear hi)) | (go_at_call 11; (with_reducible refine (match_Matches.calls k (⟨#[115, 112, 111, 114, 116, 47, 35]⟩ : ByteArray) (⟨#[115, 112, 111, 114, 116]⟩ : ByteArray) true _ A9.out).mono ?_); rintro e w94 ⟨rfl, hb⟩; have n0_ := Aside0.mk (below_step (by repeat (first | (with_reducible first | exact HB.out | apply below_alloc | apply pw_below_drewN | apply below_drew1) | exact HB.out)) hb); clear HB; have HB := n0_; clear n0_; (try clear hb); (try clear hb2); (try clear hk); (try clear hi)) | (go_at_call 11; (with_reducible refine (match_Matches.calls k (⟨#[43]⟩ : ByteArray) (⟨#[36, 115, 121, 115]⟩ : ByteArray) false _ A11.out).mono ?_); rintro e w95 ⟨rfl, hb⟩; have n0_ := Aside0.mk (below_step (by repeat (first | (with_reducible first | exact HB.out | apply below_alloc | apply pw_below_drewN | apply below_drew1) | exact HB.out)) hb); clear HB; have HB := n0_; clear n0_; (try clear hb); (try clear hb2); (try clear hk); (try clear hi)) | (go_at_call 15; (with_reducible refine (match_Covers.calls k (⟨#[97, 47, 35]⟩ : ByteArray) (⟨#[97, 47, 43, 47, 98, 47, 35]⟩ : ByteArray) true _ A18.out).mono ?_); rintro e w96 ⟨rfl, hb⟩; have n0_ := Aside0.mk (below_step (by repeat (first | (with_reducible first | exact HB.out | apply below_alloc | apply pw_below_drewN | apply below_drew1) | exact HB.out)) hb); clear HB; have HB := n0_; clear n0_; (try clear hb); (try clear hb2); (try clear hk); (try clear hi)) | (go_at_call 15; (with_reducible refine (match_Covers.calls k (⟨#[43, 47, 35]⟩ : ByteArray) (⟨#[35]⟩ : ByteArray) false _ A20.out).mono ?_); rintro e w97 ⟨rfl, hb⟩; have n0_ := Aside0.mk (below_step (by repeat (first | (with_reducible first | exact HB.out | apply below_alloc | apply pw_below_drewN | apply below_drew1) | exact HB.out)) hb); clear HB; have HB := n0_; clear n0_; (try clear hb); (try clear hb2); (try clear hk); (try clear hi)) | (go_at_call 17; (with_reducible refine (match_Meets.calls k (⟨#[97, 47, 35]⟩ : ByteArray) (⟨#[43, 47, 43]⟩ : ByteArray) true _ A29.out).mono ?_); rintro e w98 ⟨rfl, hb⟩; have n0_ := Aside0.mk (below_step (by repeat (first | (with_reducible first | exact HB.out | apply below_alloc | apply pw_below_drewN | apply below_drew1) | exact HB.out)) hb); clear HB; have HB := n0_; clear n0_; (try clear hb); (try clear hb2); (try clear hk); (try clear hi)) | (go_at_call 17; (with_reducible refine (match_Meets.calls k (⟨#[43]⟩ : ByteArray) (⟨#[36, 115, 121, 115]⟩ : ByteArray) false _ A31.out).mono ?_); rintro e w99 ⟨rfl, hb⟩; have n0_ := Aside0.mk (below_step (by repeat (first | (with_reducible first | exact HB.out | apply below_alloc | apply pw_below_drewN | apply below_drew1) | exact HB.out)) hb); clear HB; have HB := n0_; clear n0_; (try clear hb); (try clear hb2); (try clear hk); (try clear hi)))
           go_ret
           exact ⟨by first | rfl | (simp [errW_none, errW_some] <;> rfl) | (simp [*, errW_none, errW_some] <;> rfl), by repeat (first | (with_reducible first | exact HB.out | apply below_alloc | apply pw_below_drewN | apply below_drew1) | exact HB.out)⟩
         ·rw [if_neg c42] at H
          have c42b0 : (t266.toList == ([97, 47, 98, 47, 99] : List UInt8)) = false := beq_eq_false_iff_ne.mpr c42
          have c42b1 : (t266.toList != ([97, 47, 98, 47, 99] : List UInt8)) = true := bne_iff_ne.mpr c42
          obtain rfl := Option.some.inj H
          go_enter Tryd.func10, Tryd.ntmps10
          go_wp2_with (first | ((with_reducible refine gate_callee (f := 13) rfl ?_); refine goesL_ (some 4) rfl rfl Tryd.func13 (by kernel_rfl) rfl #[.string (⟨#[97, 47, 43, 47, 99]⟩ : ByteArray), .string (⟨#[43, 47, 98, 47, 35]⟩ : ByteArray)] rfl (by (try simp only [List.map_toArray, List.map_cons, List.map_nil]); first | done | rfl | (simp only [List.length_drop, List.length_take]; rfl)) ?_; (with_reducible refine (match_Common.calls k (⟨#[97, 47, 43, 47, 99]⟩ : ByteArray) (⟨#[43, 47, 98, 47, 35]⟩ : ByteArray) t266 t267 _ A1.out).mono ?_); rintro e w100 ⟨rfl, hb⟩; refine ⟨_, rfl, ?_⟩; have n0_ := Aside0.mk (below_step (by repeat (first | (with_reducible first | exact HB.out | apply below_alloc | apply pw_below_drewN | apply below_drew1) | exact HB.out)) hb); clear HB; have HB := n0_; clear n0_; (try clear hb); (try clear hb2); (try clear hk); (try clear hi)) | ((with_reducible refine gate_callee (f := 11) rfl ?_); refine goesL_ (some 7) rfl rfl Tryd.func11 (by kernel_rfl) rfl #[.string (⟨#[115, 112, 111, 114, 116, 47, 43, 47, 115, 99, 111, 114, 101]⟩ : ByteArray), .string (⟨#[115, 112, 111, 114, 116, 47, 116, 101, 110, 110, 105, 115, 47, 115, 99, 111, 114, 101]⟩ : ByteArray)] rfl (by (try simp only [List.map_toArray, List.map_cons, List.map_nil]); first | done | rfl | (simp only [List.length_drop, List.length_take]; rfl)) ?_; (with_reducible refine (match_Matches.calls k (⟨#[115, 112, 111, 114, 116, 47, 43, 47, 115, 99, 111, 114, 101]⟩ : ByteArray) (⟨#[115, 112, 111, 114, 116, 47, 116, 101, 110, 110, 105, 115, 47, 115, 99, 111, 114, 101]⟩ : ByteArray) true _ A2.out).mono ?_); rintro e w101 ⟨rfl, hb⟩; refine ⟨_, rfl, ?_⟩; have n0_ := Aside0.mk (below_step (by repeat (first | (with_reducible first | exact HB.out | apply below_alloc | apply pw_below_drewN | apply below_drew1) | exact HB.out)) hb); clear HB; have HB := n0_; clear n0_; (try clear hb); (try clear hb2); (try clear hk); (try clear hi)) | (go_at_call 11; (with_reducible refine (match_Matches.calls k (⟨#[115, 112, 111, 114, 116, 47, 43, 47, 115, 99, 111, 114, 101]⟩ : ByteArray) (⟨#[115, 112, 111, 114, 116, 47, 116, 101, 110, 110, 105, 115]⟩ : ByteArray) false _ A4.out).mono ?_); rintro e w102 ⟨rfl, hb⟩; have n0_ := Aside0.mk (below_step (by repeat (first | (with_reducible first | exact HB.out | apply below_alloc | apply pw_below_drewN | apply below_drew1) | exact HB.out)) hb); clear HB; have HB := n0_; clear n0_; (try clear hb); (try clear hb2); (try clear hk); (try clear hi)) | (go_at_call 11; (with_reducible refine (match_Matches.calls k (⟨#[115, 112, 111, 114, 116, 47, 35]⟩ : ByteArray) (⟨#[115, 112, 111, 114, 116]⟩ : ByteArray) true _ A9.out).mono ?_); rintro e w103 ⟨rfl, hb⟩; have n0_ := Aside0.mk (below_step (by repeat (first | (with_reducible first | exact HB.out | apply below_alloc | apply pw_below_drewN | apply below_drew1) | exact HB.out)) hb); clear HB; have HB := n0_; clear n0_; (try clear hb); (try clear hb2); (try clear hk); (try clear hi)) | (go_at_call 11; (with_reducible refine (match_Matches.calls k (⟨#[43]⟩ : ByteArray) (⟨#[36, 115, 121, 115]⟩ : ByteArray) false _ A11.out).mono ?_); rintro e w104 ⟨rfl, hb⟩; have n0_ := Aside0.mk (below_step (by repeat (first | (with_reducible first | exact HB.out | apply below_alloc | apply pw_below_drewN | apply below_drew1) | exact HB.out)) hb); clear HB; have HB := n0_; clear n0_; (try clear hb); (try clear hb2); (try clear hk); (try clear hi)) | (go_at_call 15; (with_reducible refine (match_Covers.calls k (⟨#[97, 47, 35]⟩ : ByteArray) (⟨#[97, 47, 43, 47, 98, 47, 35]⟩ : ByteArray) true _ A18.out).mono ?_); rintro e w105 ⟨rfl, hb⟩; have n0_ := Aside0.mk (below_step (by repeat (first | (with_reducible first | exact HB.out | apply below_alloc | apply pw_below_drewN | apply below_drew1) | exact HB.out)) hb); clear HB; have HB := n0_; clear n0_; (try clear hb); (try clear hb2); (try clear hk); (try clear hi)) | (go_at_call 15; (with_reducible refine (match_Covers.calls k (⟨#[43, 47, 35]⟩ : ByteArray) (⟨#[35]⟩ : ByteArray) false _ A20.out).mono ?_); rintro e w106 ⟨rfl, hb⟩; have n0_ := Aside0.mk (below_step (by repeat (first | (with_reducible first | exact HB.out | apply below_alloc | apply pw_below_drewN | apply below_drew1) | exact HB.out)) hb); clear HB; have HB := n0_; clear n0_; (try clear hb); (try clear hb2); (try clear hk); (try clear hi)) | (go_at_call 17; (with_reducible refine (match_Meets.calls k (⟨#[97, 47, 35]⟩ : ByteArray) (⟨#[43, 47, 43]⟩ : ByteArray) true _ A29.out).mono ?_); rintro e w107 ⟨rfl, hb⟩; have n0_ := Aside0.mk (below_step (by repeat (first | (with_reducible first | exact HB.out | apply below_alloc | apply pw_below_drewN | apply below_drew1) | exact HB.out)) hb); clear HB; have HB := n0_; clear n0_; (try clear hb); (try clear hb2); (try clear hk); (try clear hi)) | (go_at_call 17; (with_reducible refine (match_Meets.calls k (⟨#[43]⟩ : ByteArray) (⟨#[36, 115, 121, 115]⟩ : ByteArray) false _ A31.out).mono ?_); rintro e w108 ⟨rfl, hb⟩; have n0_ := Aside0.mk (below_step (by repeat (first | (with_reducible first | exact HB.out | apply below_alloc | apply pw_below_drewN | apply below_drew1) | exact HB.out)) hb); clear HB; have HB := n0_; clear n0_; (try clear hb); (try clear hb2); (try clear hk); (try clear hi)))
          go_ret
          exact ⟨by first | rfl | (simp [errW_none, errW_some] <;> rfl) | (simp [*, errW_none, errW_some] <;> rfl), by repeat (first | (with_reducible first | exact HB.out | apply below_alloc | apply pw_below_drewN | apply below_drew1) | exact HB.out)⟩
       ·replace c30 := Bool.eq_false_iff.mpr c30
        subst c30
        have H1 : (some false) = some r := by rw [if_neg (show ¬ (false = true) by decide)] at H; exact H
        clear H
        have H := H1
        clear H1
        obtain rfl := Option.some.inj H
        go_enter Tryd.func10, Tryd.ntmps10
        go_wp2_with (first | ((with_reducible refine gate_callee (f := 13) rfl ?_); refine goesL_ (some 4) rfl rfl Tryd.func13 (by kernel_rfl) rfl #[.string (⟨#[97, 47, 43, 47, 99]⟩ : ByteArray), .string (⟨#[43, 47, 98, 47, 35]⟩ : ByteArray)] rfl (by (try simp only [List.map_toArray, List.map_cons, List.map_nil]); first | done | rfl | (simp only [List.length_drop, List.length_take]; rfl)) ?_; (with_reducible refine (match_Common.calls k (⟨#[97, 47, 43, 47, 99]⟩ : ByteArray) (⟨#[43, 47, 98, 47, 35]⟩ : ByteArray) t266 t267 _ A1.out).mono ?_); rintro e w109 ⟨rfl, hb⟩; refine ⟨_, rfl, ?_⟩; have n0_ := Aside0.mk (below_step (by repeat (first | (with_reducible first | exact HB.out | apply below_alloc | apply pw_below_drewN | apply below_drew1) | exact HB.out)) hb); clear HB; have HB := n0_; clear n0_; (try clear hb); (try clear hb2); (try clear hk); (try clear hi)) | ((with_reducible refine gate_callee (f := 11) rfl ?_); refine goesL_ (some 7) rfl rfl Tryd.func11 (by kernel_rfl) rfl #[.string (⟨#[115, 112, 111, 114, 116, 47, 43, 47, 115, 99, 111, 114, 101]⟩ : ByteArray), .string (⟨#[115, 112, 111, 114, 116, 47, 116, 101, 110, 110, 105, 115, 47, 115, 99, 111, 114, 101]⟩ : ByteArray)] rfl (by (try simp only [List.map_toArray, List.map_cons, List.map_nil]); first | done | rfl | (simp only [List.length_drop, List.length_take]; rfl)) ?_; (with_reducible refine (match_Matches.calls k (⟨#[115, 112, 111, 114, 116, 47, 43, 47, 115, 99, 111, 114, 101]⟩ : ByteArray) (⟨#[115, 112, 111, 114, 116, 47, 116, 101, 110, 110, 105, 115, 47, 115, 99, 111, 114, 101]⟩ : ByteArray) true _ A2.out).mono ?_); rintro e w110 ⟨rfl, hb⟩; refine ⟨_, rfl, ?_⟩; have n0_ := Aside0.mk (below_step (by repeat (first | (with_reducible first | exact HB.out | apply below_alloc | apply pw_below_drewN | apply below_drew1) | exact HB.out)) hb); clear HB; have HB := n0_; clear n0_; (try clear hb); (try clear hb2); (try clear hk); (try clear hi)) | (go_at_call 11; (with_reducible refine (match_Matches.calls k (⟨#[115, 112, 111, 114, 116, 47, 43, 47, 115, 99, 111, 114, 101]⟩ : ByteArray) (⟨#[115, 112, 111, 114, 116, 47, 116, 101, 110, 110, 105, 115]⟩ : ByteArray) false _ A4.out).mono ?_); rintro e w111 ⟨rfl, hb⟩; have n0_ := Aside0.mk (below_step (by repeat (first | (with_reducible first | exact HB.out | apply below_alloc | apply pw_below_drewN | apply below_drew1) | exact HB.out)) hb); clear HB; have HB := n0_; clear n0_; (try clear hb); (try clear hb2); (try clear hk); (try clear hi)) | (go_at_call 11; (with_reducible refine (match_Matches.calls k (⟨#[115, 112, 111, 114, 116, 47, 35]⟩ : ByteArray) (⟨#[115, 112, 111, 114, 116]⟩ : ByteArray) true _ A9.out).mono ?_); rintro e w112 ⟨rfl, hb⟩; have n0_ := Aside0.mk (below_step (by repeat (first | (with_reducible first | exact HB.out | apply below_alloc | apply pw_below_drewN | apply below_drew1) | exact HB.out)) hb); clear HB; have HB := n0_; clear n0_; (try clear hb); (try clear hb2); (try clear hk); (try clear hi)) | (go_at_call 11; (with_reducible refine (match_Matches.calls k (⟨#[43]⟩ : ByteArray) (⟨#[36, 115, 121, 115]⟩ : ByteArray) false _ A11.out).mono ?_); rintro e w113 ⟨rfl, hb⟩; have n0_ := Aside0.mk (below_step (by repeat (first | (with_reducible first | exact HB.out | apply below_alloc | apply pw_below_drewN | apply below_drew1) | exact HB.out)) hb); clear HB; have HB := n0_; clear n0_; (try clear hb); (try clear hb2); (try clear hk); (try clear hi)) | (go_at_call 15; (with_reducible refine (match_Covers.calls k (⟨#[97, 47, 35]⟩ : ByteArray) (⟨#[97, 47, 43, 47, 98, 47, 35]⟩ : ByteArray) true _ A18.out).mono ?_); rintro e w114 ⟨rfl, hb⟩; have n0_ := Aside0.mk (below_step (by repeat (first | (with_reducible first | exact HB.out | apply below_alloc | apply pw_below_drewN | apply below_drew1) | exact HB.out)) hb); clear HB; have HB := n0_; clear n0_; (try clear hb); (try clear hb2); (try clear hk); (try clear hi)) | (go_at_call 15; (with_reducible refine (match_Covers.calls k (⟨#[43, 47, 35]⟩ : ByteArray) (⟨#[35]⟩ : ByteArray) false _ A20.out).mono ?_); rintro e w115 ⟨rfl, hb⟩; have n0_ := Aside0.mk (below_step (by repeat (first | (with_reducible first | exact HB.out | apply below_alloc | apply pw_below_drewN | apply below_drew1) | exact HB.out)) hb); clear HB; have HB := n0_; clear n0_; (try clear hb); (try clear hb2); (try clear hk); (try clear hi)) | (go_at_call 17; (with_reducible refine (match_Meets.calls k (⟨#[97, 47, 35]⟩ : ByteArray) (⟨#[43, 47, 43]⟩ : ByteArray) false _ A29.out).mono ?_); rintro e w116 ⟨rfl, hb⟩; have n0_ := Aside0.mk (below_step (by repeat (first | (with_reducible first | exact HB.out | apply below_alloc | apply pw_below_drewN | apply below_drew1) | exact HB.out)) hb); clear HB; have HB := n0_; clear n0_; (try clear hb); (try clear hb2); (try clear hk); (try clear hi)))
        go_ret
        exact ⟨by first | rfl | (simp [errW_none, errW_some] <;> rfl) | (simp [*, errW_none, errW_some] <;> rfl), by repeat (first | (with_reducible first | exact HB.out | apply below_alloc | apply pw_below_drewN | apply below_drew1) | exact HB.out)⟩
     ·replace c19 := Bool.eq_false_iff.mpr c19
      subst c19
      have H1 : (some false) = some r := by rw [if_neg (show ¬ (false = true) by decide)] at H; exact H
      clear H
      have H := H1
      clear H1
      obtain rfl := Option.some.inj H
      go_enter Tryd.func10, Tryd.ntmps10
      go_wp2_with (first | ((with_reducible refine gate_callee (f := 13) rfl ?_); refine goesL_ (some 4) rfl rfl Tryd.func13 (by kernel_rfl) rfl #[.string (⟨#[97, 47, 43, 47, 99]⟩ : ByteArray), .string (⟨#[43, 47, 98, 47, 35]⟩ : ByteArray)] rfl (by (try simp only [List.map_toArray, List.map_cons, List.map_nil]); first | done | rfl | (simp only [List.length_drop, List.length_take]; rfl)) ?_; (with_reducible refine (match_Common.calls k (⟨#[97, 47, 43, 47, 99]⟩ : ByteArray) (⟨#[43, 47, 98, 47, 35]⟩ : ByteArray) t266 t267 _ A1.out).mono ?_); rintro e w117 ⟨rfl, hb⟩; refine ⟨_, rfl, ?_⟩; have n0_ := Aside0.mk (below_step (by repeat (first | (with_reducible first | exact HB.out | apply below_alloc | apply pw_below_drewN | apply below_drew1) | exact HB.out)) hb); clear HB; have HB := n0_; clear n0_; (try clear hb); (try clear hb2); (try clear hk); (try clear hi)) | ((with_reducible refine gate_callee (f := 11) rfl ?_); refine goesL_ (some 7) rfl rfl Tryd.func11 (by kernel_rfl) rfl #[.string (⟨#[115, 112, 111, 114, 116, 47, 43, 47, 115, 99, 111, 114, 101]⟩ : ByteArray), .string (⟨#[115, 112, 111, 114, 116, 47, 116, 101, 110, 110, 105, 115, 47, 115, 99, 111, 114, 101]⟩ : ByteArray)] rfl (by (try simp only [List.map_toArray, List.map_cons, List.map_nil]); first | done | rfl | (simp only [List.length_drop, List.length_take]; rfl)) ?_; (with_reducible refine (match_Matches.calls k (⟨#[115, 112, 111, 114, 116, 47, 43, 47, 115, 99, 111, 114, 101]⟩ : ByteArray) (⟨#[115, 112, 111, 114, 116, 47, 116, 101, 110, 110, 105, 115, 47, 115, 99, 111, 114, 101]⟩ : ByteArray) true _ A2.out).mono ?_); rintro e w118 ⟨rfl, hb⟩; refine ⟨_, rfl, ?_⟩; have n0_ := Aside0.mk (below_step (by repeat (first | (with_reducible first | exact HB.out | apply below_alloc | apply pw_below_drewN | apply below_drew1) | exact HB.out)) hb); clear HB; have HB := n0_; clear n0_; (try clear hb); (try clear hb2); (try clear hk); (try clear hi)) | (go_at_call 11; (with_reducible refine (match_Matches.calls k (⟨#[115, 112, 111, 114, 116, 47, 43, 47, 115, 99, 111, 114, 101]⟩ : ByteArray) (⟨#[115, 112, 111, 114, 116, 47, 116, 101, 110, 110, 105, 115]⟩ : ByteArray) false _ A4.out).mono ?_); rintro e w119 ⟨rfl, hb⟩; have n0_ := Aside0.mk (below_step (by repeat (first | (with_reducible first | exact HB.out | apply below_alloc | apply pw_below_drewN | apply below_drew1) | exact HB.out)) hb); clear HB; have HB := n0_; clear n0_; (try clear hb); (try clear hb2); (try clear hk); (try clear hi)) | (go_at_call 11; (with_reducible refine (match_Matches.calls k (⟨#[115, 112, 111, 114, 116, 47, 35]⟩ : ByteArray) (⟨#[115, 112, 111, 114, 116]⟩ : ByteArray) true _ A9.out).mono ?_); rintro e w120 ⟨rfl, hb⟩; have n0_ := Aside0.mk (below_step (by repeat (first | (with_reducible first | exact HB.out | apply below_alloc | apply pw_below_drewN | apply below_drew1) | exact HB.out)) hb); clear HB; have HB := n0_; clear n0_; (try clear hb); (try clear hb2); (try clear hk); (try clear hi)) | (go_at_call 11; (with_reducible refine (match_Matches.calls k (⟨#[43]⟩ : ByteArray) (⟨#[36, 115, 121, 115]⟩ : ByteArray) false _ A11.out).mono ?_); rintro e w121 ⟨rfl, hb⟩; have n0_ := Aside0.mk (below_step (by repeat (first | (with_reducible first | exact HB.out | apply below_alloc | apply pw_below_drewN | apply below_drew1) | exact HB.out)) hb); clear HB; have HB := n0_; clear n0_; (try clear hb); (try clear hb2); (try clear hk); (try clear hi)) | (go_at_call 15; (with_reducible refine (match_Covers.calls k (⟨#[97, 47, 35]⟩ : ByteArray) (⟨#[97, 47, 43, 47, 98, 47, 35]⟩ : ByteArray) false _ A18.out).mono ?_); rintro e w122 ⟨rfl, hb⟩; have n0_ := Aside0.mk (below_step (by repeat (first | (with_reducible first | exact HB.out | apply below_alloc | apply pw_below_drewN | apply below_drew1) | exact HB.out)) hb); clear HB; have HB := n0_; clear n0_; (try clear hb); (try clear hb2); (try clear hk); (try clear hi)))
      go_ret
      exact ⟨by first | rfl | (simp [errW_none, errW_some] <;> rfl) | (simp [*, errW_none, errW_some] <;> rfl), by repeat (first | (with_reducible first | exact HB.out | apply below_alloc | apply pw_below_drewN | apply below_drew1) | exact HB.out)⟩
   ·replace c10 := Bool.eq_false_iff.mpr c10
    subst c10
    have H1 : (some false) = some r := by rw [if_neg (show ¬ (false = true) by decide)] at H; exact H
    clear H
    have H := H1
    clear H1
    obtain rfl := Option.some.inj H
    go_enter Tryd.func10, Tryd.ntmps10
    go_wp2_with (first | ((with_reducible refine gate_callee (f := 13) rfl ?_); refine goesL_ (some 4) rfl rfl Tryd.func13 (by kernel_rfl) rfl #[.string (⟨#[97, 47, 43, 47, 99]⟩ : ByteArray), .string (⟨#[43, 47, 98, 47, 35]⟩ : ByteArray)] rfl (by (try simp only [List.map_toArray, List.map_cons, List.map_nil]); first | done | rfl | (simp only [List.length_drop, List.length_take]; rfl)) ?_; (with_reducible refine (match_Common.calls k (⟨#[97, 47, 43, 47, 99]⟩ : ByteArray) (⟨#[43, 47, 98, 47, 35]⟩ : ByteArray) t266 t267 _ A1.out).mono ?_); rintro e w123 ⟨rfl, hb⟩; refine ⟨_, rfl, ?_⟩; have n0_ := Aside0.mk (below_step (by repeat (first | (with_reducible first | exact HB.out | apply below_alloc | apply pw_below_drewN | apply below_drew1) | exact HB.out)) hb); clear HB; have HB := n0_; clear n0_; (try clear hb); (try clear hb2); (try clear hk); (try clear hi)) | ((with_reducible refine gate_callee (f := 11) rfl ?_); refine goesL_ (some 7) rfl rfl Tryd.func11 (by kernel_rfl) rfl #[.string (⟨#[115, 112, 111, 114, 116, 47, 43, 47, 115, 99, 111, 114, 101]⟩ : ByteArray), .string (⟨#[115, 112, 111, 114, 116, 47, 116, 101, 110, 110, 105, 115, 47, 115, 99, 111, 114, 101]⟩ : ByteArray)] rfl (by (try simp only [List.map_toArray, List.map_cons, List.map_nil]); first | done | rfl | (simp only [List.length_drop, List.length_take]; rfl)) ?_; (with_reducible refine (match_Matches.calls k (⟨#[115, 112, 111, 114, 116, 47, 43, 47, 115, 99, 111, 114, 101]⟩ : ByteArray) (⟨#[115, 112, 111, 114, 116, 47, 116, 101, 110, 110, 105, 115, 47, 115, 99, 111, 114, 101]⟩ : ByteArray) true _ A2.out).mono ?_); rintro e w124 ⟨rfl, hb⟩; refine ⟨_, rfl, ?_⟩; have n0_ := Aside0.mk (below_step (by repeat (first | (with_reducible first | exact HB.out | apply below_alloc | apply pw_below_drewN | apply below_drew1) | exact HB.out)) hb); clear HB; have HB := n0_; clear n0_; (try clear hb); (try clear hb2); (try clear hk); (try clear hi)) | (go_at_call 11; (with_reducible refine (match_Matches.calls k (⟨#[115, 112, 111, 114, 116, 47, 43, 47, 115, 99, 111, 114, 101]⟩ : ByteArray) (⟨#[115, 112, 111, 114, 116, 47, 116, 101, 110, 110, 105, 115]⟩ : ByteArray) false _ A4.out).mono ?_); rintro e w125 ⟨rfl, hb⟩; have n0_ := Aside0.mk (below_step (by repeat (first | (with_reducible first | exact HB.out | apply below_alloc | apply pw_below_drewN | apply below_drew1) | exact HB.out)) hb); clear HB; have HB := n0_; clear n0_; (try clear hb); (try clear hb2); (try clear hk); (try clear hi)) | (go_at_call 11; (with_reducible refine (match_Matches.calls k (⟨#[115, 112, 111, 114, 116, 47, 35]⟩ : ByteArray) (⟨#[115, 112, 111, 114, 116]⟩ : ByteArray) false _ A9.out).mono ?_); rintro e w126 ⟨rfl, hb⟩; have n0_ := Aside0.mk (below_step (by repeat (first | (with_reducible first | exact HB.out | apply below_alloc | apply pw_below_drewN | apply below_drew1) | exact HB.out)) hb); clear HB; have HB := n0_; clear n0_; (try clear hb); (try clear hb2); (try clear hk); (try clear hi)))
    go_ret
    exact ⟨by first | rfl | (simp [errW_none, errW_some] <;> rfl) | (simp [*, errW_none, errW_some] <;> rfl), by repeat (first | (with_reducible first | exact HB.out | apply below_alloc | apply pw_below_drewN | apply below_drew1) | exact HB.out)⟩
 ·replace c3 := Bool.eq_false_iff.mpr c3
  subst c3
  have H1 : (some false) = some r := by rw [if_neg (show ¬ (false = true) by decide)] at H; exact H
  clear H
  have H := H1
  clear H1
  obtain rfl := Option.some.inj H
  go_enter Tryd.func10, Tryd.ntmps10
  go_wp2_with (first | ((with_reducible refine gate_callee (f := 13) rfl ?_); refine goesL_ (some 4) rfl rfl Tryd.func13 (by kernel_rfl) rfl #[.string (⟨#[97, 47, 43, 47, 99]⟩ : ByteArray), .string (⟨#[43, 47, 98, 47, 35]⟩ : ByteArray)] rfl (by (try simp only [List.map_toArray, List.map_cons, List.map_nil]); first | done | rfl | (simp only [List.length_drop, List.length_take]; rfl)) ?_; (with_reducible refine (match_Common.calls k (⟨#[97, 47, 43, 47, 99]⟩ : ByteArray) (⟨#[43, 47, 98, 47, 35]⟩ : ByteArray) t266 t267 _ A1.out).mono ?_); rintro e w127 ⟨rfl, hb⟩; refine ⟨_, rfl, ?_⟩; have n0_ := Aside0.mk (below_step (by repeat (first | (with_reducible first | exact HB.out | apply below_alloc | apply pw_below_drewN | apply below_drew1) | exact HB.out)) hb); clear HB; have HB := n0_; clear n0_; (try clear hb); (try clear hb2); (try clear hk); (try clear hi)) | ((with_reducible refine gate_callee (f := 11) rfl ?_); refine goesL_ (some 7) rfl rfl Tryd.func11 (by kernel_rfl) rfl #[.string (⟨#[115, 112, 111, 114, 116, 47, 43, 47, 115, 99, 111, 114, 101]⟩ : ByteArray), .string (⟨#[115, 112, 111, 114, 116, 47, 116, 101, 110, 110, 105, 115, 47, 115, 99, 111, 114, 101]⟩ : ByteArray)] rfl (by (try simp only [List.map_toArray, List.map_cons, List.map_nil]); first | done | rfl | (simp only [List.length_drop, List.length_take]; rfl)) ?_; (with_reducible refine (match_Matches.calls k (⟨#[115, 112, 111, 114, 116, 47, 43, 47, 115, 99, 111, 114, 101]⟩ : ByteArray) (⟨#[115, 112, 111, 114, 116, 47, 116, 101, 110, 110, 105, 115, 47, 115, 99, 111, 114, 101]⟩ : ByteArray) false _ A2.out).mono ?_); rintro e w128 ⟨rfl, hb⟩; refine ⟨_, rfl, ?_⟩; have n0_ := Aside0.mk (below_step (by repeat (first | (with_reducible first | exact HB.out | apply below_alloc | apply pw_below_drewN | apply below_drew1) | exact HB.out)) hb); clear HB; have HB := n0_; clear n0_; (try clear hb); (try clear hb2); (try clear hk); (try clear hi)))
  go_ret
  exact ⟨by first | rfl | (simp [errW_none, errW_some] <;> rfl) | (simp [*, errW_none, errW_some] <;> rfl), by repeat (first | (with_reducible first | exact HB.out | apply below_alloc | apply pw_below_drewN | apply below_drew1) | exact HB.out)⟩

/-! ### brokerlaw02_light: function 19 -/
def brokerlaw02_light.l0 : Nat → List ByteArray → Int → Option (Bool)
 | 0, _, _ => none
 | k + 1, x0, x3 => if x3 < (x0.length : Int) then (if x3 ≥ 32 then (some false) else (if 0 ≤ x3 then (if ((rdOf ByteArray.empty x0 x3).size : Int) > 4096 then (some false) else (brokerlaw02_light.l0 k x0 (wrap64 (x3 + 1)))) else (none))) else (some true)
def brokerlaw02_light.f (k : Nat) (l0 : List ByteArray) : Option (Bool) := brokerlaw02_light.l0 k l0 0
theorem brokerlaw02_light.mono_l : ∀ k, (∀ y0 y1, LeO (brokerlaw02_light.l0 k y0 y1) (brokerlaw02_light.l0 (k + 1) y0 y1))
 | 0 => fun _ _ r h => by simp [brokerlaw02_light.l0] at h
 | k + 1 => by
  have ih0 := brokerlaw02_light.mono_l k
  ·intro y0 y1
   unfold brokerlaw02_light.l0
   repeat' first
   | (with_reducible exact ih0 _ _)
   | (with_reducible exact LeO.refl _)
   | (with_reducible exact LeO.none _)
   | (with_reducible refine LeO.ite ?_ ?_)
   | (with_reducible refine LeO.bind ?_ (fun _ => ?_))
   | exact ih0 _ _
   | exact LeO.none _
   | refine LeO.ite ?_ ?_
   | refine LeO.bind ?_ (fun _ => ?_)
theorem brokerlaw02_light.mono : ∀ a0 k, LeO (brokerlaw02_light.f k a0) (brokerlaw02_light.f (k + 1) a0) := by
 intro a0 k
 have ih0 := brokerlaw02_light.mono_l k
 unfold brokerlaw02_light.f
 repeat' first
   | (with_reducible exact ih0 _ _)
   | (with_reducible exact LeO.refl _)
   | (with_reducible exact LeO.none _)
   | (with_reducible refine LeO.ite ?_ ?_)
   | (with_reducible refine LeO.bind ?_ (fun _ => ?_))
   | exact ih0 _ _
   | exact LeO.none _
   | refine LeO.ite ?_ ?_
   | refine LeO.bind ?_ (fun _ => ?_)
set_option maxHeartbeats 8000000 in
set_option maxRecDepth 100000 in
theorem brokerlaw02_light.calls (k : Nat) (A0 : Option Addr) (c0 : Nat) (l0 : List ByteArray) (r : Bool) (w : World) (hr0 : Kd.C Kd.string w A0 l0.length l0) (hc0 : l0.length ≤ c0) (h : brokerlaw02_light.f k l0 = some r) :
  Calls Tryd.prog 19 #[.slice A0 l0.length c0] w fun e w' => e = .returned (.bool r) ∧ Drawn0 w w' := by
 have HR0 := Aside0.mk hr0
 have HC0 := Aside0.mk hc0
 clear hr0 hc0
 have H : (brokerlaw02_light.l0 k l0 0) = some r := h
 clear h
 have H' := Aside0.mk H
 clear H
 go_enter Tryd.func19, Tryd.ntmps19
 go_wp2
 go_loopg [3] k (fun kq v3 w' => ∃ (x3_1 : Int), v3 = .int .i64 x3_1 ∧ Aside0 (brokerlaw02_light.l0 kq l0 x3_1 = some r) ∧ Aside0 (kq ≤ k) ∧ Drawn0 w w')
 case atStart => exact ⟨(0), (by first | rfl | (simp; done) | (simp [*]; done)), H', ⟨Nat.le_refl _⟩, by repeat (first | exact Drawn0.refl _ | apply Drawn0.step)⟩
 case round =>
  clear H'
  try clear c1
  obtain ⟨x3_1, rfl, HA, HK1, ⟨m1, rfl⟩⟩ := hrel
  cases gk with
  | zero => exact absurd HA.out (by simp [brokerlaw02_light.l0])
  | succ k1 =>
   have H := HA.out
   clear HA
   simp only [brokerlaw02_light.l0] at H
   by_cases c2 : x3_1 < (l0.length : Int)
   ·rw [if_pos c2] at H
    have c2b0 : decide (x3_1 < (l0.length : Int)) = true := decide_eq_true c2
    clear c2
    by_cases c3 : x3_1 ≥ 32
    ·rw [if_pos c3] at H
     have c3b0 : decide (32 ≤ x3_1) = true := decide_eq_true c3
     clear c3
     obtain rfl := Option.some.inj H
     go_wp2
     go_ret
     exact ⟨by first | rfl | (simp; done) | (simp [*]; done), by repeat (first | exact Drawn0.refl _ | apply Drawn0.step)⟩
    ·rw [if_neg c3] at H
     have c3b0 : decide (32 ≤ x3_1) = false := decide_eq_false c3
     clear c3
     by_cases c4 : 0 ≤ x3_1
     ·rw [if_pos c4] at H
      have c4b0 : decide (0 ≤ x3_1) = true := decide_eq_true c4
      clear c4
      by_cases c5 : ((rdOf ByteArray.empty l0 x3_1).size : Int) > 4096
      ·rw [if_pos c5] at H
       have c5b0 : decide (4096 < ((rdOf ByteArray.empty l0 x3_1).size : Int)) = true := decide_eq_true c5
       have c5b1 : decide (4096 < (rdOf ByteArray.empty l0 x3_1).size) = true := decide_eq_true (by omega)
       clear c5
       obtain rfl := Option.some.inj H
       have p296 : 0 ≤ (x3_1 : Int) := of_decide_eq_true (by first | (with_reducible assumption) | assumption)
       have q296 : x3_1 < (l0.length : Int) := of_decide_eq_true (by first | (with_reducible assumption) | assumption)
       obtain ⟨ad296, e296, hx296_0⟩ := Kd.at_string HR0.out x3_1 p296 q296
       cases e296
       replace p296 := eq_true p296
       replace q296 := eq_true q296
       go_wp2
       go_ret
       exact ⟨by first | rfl | (simp; done) | (simp [*]; done), by repeat (first | exact Drawn0.refl _ | apply Drawn0.step)⟩
      ·rw [if_neg c5] at H
       have c5b0 : decide (4096 < ((rdOf ByteArray.empty l0 x3_1).size : Int)) = false := decide_eq_false c5
       have c5b1 : decide (4096 < (rdOf ByteArray.empty l0 x3_1).size) = false := decide_eq_false (by omega)
       clear c5
       have H' := Aside0.mk H
       clear H
       have p296 : 0 ≤ (x3_1 : Int) := of_decide_eq_true (by first | (with_reducible assumption) | assumption)
       have q296 : x3_1 < (l0.length : Int) := of_decide_eq_true (by first | (with_reducible assumption) | assumption)
       obtain ⟨ad296, e296, hx296_0⟩ := Kd.at_string HR0.out x3_1 p296 q296
       cases e296
       replace p296 := eq_true p296
       replace q296 := eq_true q296
       go_wp2
       go_roundg k1
       case measure => have := HK1.out; omega
       case rel => exact ⟨(wrap64 (x3_1 + 1)), (by first | rfl | (simp; done) | (simp [*]; done)), H', ⟨by have := HK1.out; omega⟩, by repeat (first | exact Drawn0.refl _ | apply Drawn0.step)⟩
     ·rw [if_neg c4] at H
      exact absurd H (by simp)
   ·rw [if_neg c2] at H
    have c2b0 : decide (x3_1 < (l0.length : Int)) = false := decide_eq_false c2
    clear c2
    obtain rfl := Option.some.inj H
    go_wp2
    go_ret
    exact ⟨by first | rfl | (simp; done) | (simp [*]; done), by repeat (first | exact Drawn0.refl _ | apply Drawn0.step)⟩

/-! ### brokerref01_Levels: function 31 -/
def brokerref01_Levels.l0 : Nat → ByteArray → List ByteArray → Int → Int → Option (List ByteArray)
 | 0, _, _, _, _ => none
 | k + 1, x0, x3, x4, x5 => if x5 < (x0.size : Int) then (if 0 ≤ x5 then (if (bt x0 x5) = 47 then (if 0 ≤ x4 then (if x4 ≤ x5 then (if x5 ≤ (x0.size : Int) then (if x3.length < 8796093022208 then (brokerref01_Levels.l0 k x0 (x3 ++ [x0.extract (x4 : Int).toNat (x5 : Int).toNat]) (wrap64 (x5 + 1)) (wrap64 (x5 + 1))) else (none)) else (none)) else (none)) else (none)) else (brokerref01_Levels.l0 k x0 x3 x4 (wrap64 (x5 + 1)))) else (none)) else (if 0 ≤ x4 then (if x4 ≤ (x0.size : Int) then (if x3.length < 8796093022208 then (some (x3 ++ [x0.extract (x4 : Int).toNat x0.size])) else (none)) else (none)) else (none))
def brokerref01_Levels.f (k : Nat) (a0 : ByteArray) : Option (List ByteArray) := brokerref01_Levels.l0 k a0 ([] : List ByteArray) 0 0
theorem brokerref01_Levels.mono_l : ∀ k, (∀ y0 y1 y2 y3, LeO (brokerref01_Levels.l0 k y0 y1 y2 y3) (brokerref01_Levels.l0 (k + 1) y0 y1 y2 y3))
 | 0 => fun _ _ _ _ r h => by simp [brokerref01_Levels.l0] at h
 | k + 1 => by
  have ih0 := brokerref01_Levels.mono_l k
  ·intro y0 y1 y2 y3
   unfold brokerref01_Levels.l0
   repeat' first
   | (with_reducible exact ih0 _ _ _ _)
   | (with_reducible exact LeO.refl _)
   | (with_reducible exact LeO.none _)
   | (with_reducible refine LeO.ite ?_ ?_)
   | (with_reducible refine LeO.bind ?_ (fun _ => ?_))
   | exact ih0 _ _ _ _
   | exact LeO.none _
   | refine LeO.ite ?_ ?_
   | refine LeO.bind ?_ (fun _ => ?_)
theorem brokerref01_Levels.mono : ∀ a0 k, LeO (brokerref01_Levels.f k a0) (brokerref01_Levels.f (k + 1) a0) := by
 intro a0 k
 have ih0 := brokerref01_Levels.mono_l k
 unfold brokerref01_Levels.f
 repeat' first
   | (with_reducible exact ih0 _ _ _ _)
   | (with_reducible exact LeO.refl _)
   | (with_reducible exact LeO.none _)
   | (with_reducible refine LeO.ite ?_ ?_)
   | (with_reducible refine LeO.bind ?_ (fun _ => ?_))
   | exact ih0 _ _ _ _
   | exact LeO.none _
   | refine LeO.ite ?_ ?_
   | refine LeO.bind ?_ (fun _ => ?_)
set_option maxHeartbeats 8000000 in
set_option maxRecDepth 100000 in
theorem brokerref01_Levels.calls (k : Nat) (a0 : ByteArray) (r : List ByteArray) (w : World) (h : brokerref01_Levels.f k a0 = some r) :
  Calls Tryd.prog 31 #[.string a0] w fun e w' => ∃ v0_ : Value, e = .returned (v0_) ∧ Kd.R Kd.string 9 w' w.heap.size (fun _ => True) v0_ r ∧ Below w.heap.size w w' := by
 have HB := Aside0.mk (Below.refl w.heap.size w)
 have H : (brokerref01_Levels.l0 k a0 ([] : List ByteArray) 0 0) = some r := h
 clear h
 have H' := Aside0.mk H
 clear H
 go_enter Tryd.func31, Tryd.ntmps31
 go_wp2
 go_loopg [3, 4, 5] k (fun kq v3 v4 v5 w' => ∃ (x3_1 : List ByteArray) (x4_1 : Int) (x5_1 : Int), v4 = .int .i64 x4_1 ∧ v5 = .int .i64 x5_1 ∧ Aside0 (brokerref01_Levels.l0 kq a0 x3_1 x4_1 x5_1 = some r) ∧ Aside0 (kq ≤ k) ∧ Aside0 (Kd.R Kd.string 9 w' w.heap.size (fun _ => True) v3 x3_1) ∧ Aside0 (Below w.heap.size w w'))
 case atStart => exact ⟨(([] : List ByteArray)), (0), (0), (by first | rfl | (simp; done) | (simp [*]; done)), (by first | rfl | (simp; done) | (simp [*]; done)), H', ⟨Nat.le_refl _⟩, ⟨by first | exact Kd.R_nil _ _ _ _ _ | exact Kd.N_nil _ _ _ _ _ | exact Kd.V_nil _ _ _ _ _ | exact Kd.Q_nil _ _ _ _ _ | exact Kd.S_nil _ _ _ _ _⟩, ⟨by repeat (first | (with_reducible first | exact HB.out | apply below_alloc | apply pw_below_drewN | apply below_drew1) | exact HB.out)⟩⟩
 case round =>
  clear H'
  obtain ⟨x3_1, x4_1, x5_1, rfl, rfl, HA, HK1, HO_3, HB⟩ := hrel
  cases gk with
  | zero => exact absurd HA.out (by simp [brokerref01_Levels.l0])
  | succ k1 =>
   have H := HA.out
   clear HA
   simp only [brokerref01_Levels.l0] at H
   by_cases c2 : x5_1 < (a0.size : Int)
   ·rw [if_pos c2] at H
    have c2b0 : decide (x5_1 < (a0.size : Int)) = true := decide_eq_true c2
    clear c2
    by_cases c3 : 0 ≤ x5_1
    ·rw [if_pos c3] at H
     have c3b0 : decide (0 ≤ x5_1) = true := decide_eq_true c3
     clear c3
     by_cases c5 : (bt a0 x5_1) = 47
     ·rw [if_pos c5] at H
      have c5b0 : ((bt a0 x5_1) == 47) = true := beq_iff_eq.mpr c5
      have c5b1 : ((bt a0 x5_1) != 47) = false := bne_eq_false_iff_eq.mpr c5
      clear c5
      by_cases c6 : 0 ≤ x4_1
      ·rw [if_pos c6] at H
       have c6b0 := eq_true c6
       have c6b1 : decide (0 ≤ x4_1) = true := decide_eq_true c6
       clear c6
       by_cases c7 : x4_1 ≤ x5_1
       ·rw [if_pos c7] at H
        have c7b0 := eq_true c7
        have c7b1 : decide (x4_1 ≤ x5_1) = true := decide_eq_true c7
        clear c7
        by_cases c8 : x5_1 ≤ (a0.size : Int)
        ·rw [if_pos c8] at H
         have c8b0 := eq_true c8
         have c8b1 : decide (x5_1 ≤ (a0.size : Int)) = true := decide_eq_true c8
         clear c8
         by_cases c9 : x3_1.length < 8796093022208
         ·rw [if_pos c9] at H
          have LMc9 := Aside0.mk c9
          clear c9
          obtain ⟨y297, hy297⟩ : ∃ y_ : List ByteArray, y_ = (x3_1 ++ [a0.extract (x4_1 : Int).toNat (x5_1 : Int).toNat]) := ⟨_, rfl⟩
          replace H : (brokerref01_Levels.l0 k1 a0 y297 (wrap64 (x5_1 + 1)) (wrap64 (x5_1 + 1))) = some r := by first | (rw [hy297]; with_reducible exact H) | (have H2_ := (Option.bind_some _ _).symm.trans H; rw [hy297]; with_reducible exact H2_) | (have H2_ := (Option.bind_some _ _).symm.trans H; with_reducible exact H2_) | with_reducible exact H | (rw [hy297]; exact H) | exact H
          have Ny297 := Aside0.mk hy297
          clear hy297
          have H' := Aside0.mk H
          clear H
          have p4 : 0 ≤ (x5_1 : Int) := of_decide_eq_true (by first | (with_reducible assumption) | assumption)
          have q4 : x5_1 < (a0.size : Int) := of_decide_eq_true (by first | (with_reducible assumption) | assumption)
          have hx4 := bt_at a0 x5_1
          replace p4 := eq_true p4
          replace q4 := eq_true q4
          go_wp2_with (first | ((with_reducible refine gate_builtin (b := .append) (xs := #[.tmp 16, .tmp 21]) rfl ?_); at_builtin; refine Kd.R_append Kd.string (w0 := w) w.heap.size rfl (.tmp 16) (.tmp 21) 26 9 (.string ⟨#[]⟩) 16 rfl Tryd.underlying26 info9 rfl (by decide) (by omega) u3 x3_1 (a0.extract (x4_1 : Int).toNat (x5_1 : Int).toNat) [.string (a0.extract (x4_1 : Int).toNat (x5_1 : Int).toNat)] (fun _ => True) (fun _ => False) rfl rfl ?aP (fun _ hk => hk.elim) ?aF ?aO ?aB ?aS ?aL ?_; (case aP => exact rfl); (case aB => exact (by repeat (first | (with_reducible first | exact HB.out | apply below_alloc | apply pw_below_drewN | apply below_drew1) | exact HB.out))); (case aF => exact (fun _ _ => trivial)); (case aO => exact (by (with_reducible repeat (first | apply Kd.R_alloc | apply Kd.R_drewN | apply Kd.R_drew)); exact HO_3.out)); (case aS => exact (below_size (by repeat (first | (with_reducible first | exact HB.out | apply below_alloc | apply pw_below_drewN | apply below_drew1) | exact HB.out)))); (case aL => have := LMc9.out; omega); intro v298 w10 ho hb hg hat; rw [← Ny297.out] at ho; have n0_ := Aside0.mk (hb); have n1_ := Aside0.mk (ho); clear HB; clear HO_3; have HB := n0_; have HO299 := n1_; clear n0_ n1_; clear ho hb hg hat))
          go_roundg k1
          case measure => have := HK1.out; omega
          case rel => exact ⟨(y297), (wrap64 (x5_1 + 1)), (wrap64 (x5_1 + 1)), (by first | rfl | (simp; done) | (simp [*]; done)), (by first | rfl | (simp; done) | (simp [*]; done)), H', ⟨by have := HK1.out; omega⟩, ⟨by (with_reducible repeat (first | apply Kd.R_alloc | apply Kd.R_drewN | apply Kd.R_drew)); exact HO299.out⟩, ⟨by repeat (first | (with_reducible first | exact HB.out | apply below_alloc | apply pw_below_drewN | apply below_drew1) | exact HB.out)⟩⟩
         ·rw [if_neg c9] at H
          exact absurd H (by simp)
        ·rw [if_neg c8] at H
         exact absurd H (by simp)
       ·rw [if_neg c7] at H
        exact absurd H (by simp)
      ·rw [if_neg c6] at H
       exact absurd H (by simp)
     ·rw [if_neg c5] at H
      have c5b0 : ((bt a0 x5_1) == 47) = false := beq_eq_false_iff_ne.mpr c5
      have c5b1 : ((bt a0 x5_1) != 47) = true := bne_iff_ne.mpr c5
      have H' := Aside0.mk H
      clear H
      have p4 : 0 ≤ (x5_1 : Int) := of_decide_eq_true (by first | (with_reducible assumption) | assumption)
      have q4 : x5_1 < (a0.size : Int) := of_decide_eq_true (by first | (with_reducible assumption) | assumption)
      have hx4 := bt_at a0 x5_1
      replace p4 := eq_true p4
      replace q4 := eq_true q4
      go_wp2
      go_roundg k1
      case measure => have := HK1.out; omega
      case rel => exact ⟨(x3_1), (x4_1), (wrap64 (x5_1 + 1)), (by first | rfl | (simp; done) | (simp [*]; done)), (by first | rfl | (simp; done) | (simp [*]; done)), H', ⟨by have := HK1.out; omega⟩, ⟨by (with_reducible repeat (first | apply Kd.R_alloc | apply Kd.R_drewN | apply Kd.R_drew)); exact HO_3.out⟩, ⟨by repeat (first | (with_reducible first | exact HB.out | apply below_alloc | apply pw_below_drewN | apply below_drew1) | exact HB.out)⟩⟩
    ·rw [if_neg c3] at H
     exact absurd H (by simp)
   ·rw [if_neg c2] at H
    have c2b0 : decide (x5_1 < (a0.size : Int)) = false := decide_eq_false c2
    clear c2
    by_cases c11 : 0 ≤ x4_1
    ·rw [if_pos c11] at H
     have c11b0 := eq_true c11
     have c11b1 : decide (0 ≤ x4_1) = true := decide_eq_true c11
     clear c11
     by_cases c12 : x4_1 ≤ (a0.size : Int)
     ·rw [if_pos c12] at H
      have c12b0 := eq_true c12
      have c12b1 : decide (x4_1 ≤ (a0.size : Int)) = true := decide_eq_true c12
      clear c12
      by_cases c13 : x3_1.length < 8796093022208
      ·rw [if_pos c13] at H
       have LMc13 := Aside0.mk c13
       clear c13
       obtain ⟨y300, hy300⟩ : ∃ y_ : List ByteArray, y_ = (x3_1 ++ [a0.extract (x4_1 : Int).toNat a0.size]) := ⟨_, rfl⟩
       replace H : (some y300) = some r := by first | (rw [hy300]; with_reducible exact H) | (have H2_ := (Option.bind_some _ _).symm.trans H; rw [hy300]; with_reducible exact H2_) | (have H2_ := (Option.bind_some _ _).symm.trans H; with_reducible exact H2_) | with_reducible exact H | (rw [hy300]; exact H) | exact H
       have Ny300 := Aside0.mk hy300
       clear hy300
       obtain rfl := Option.some.inj H
       go_wp2_with (first | ((with_reducible refine gate_builtin (b := .append) (xs := #[.tmp 25, .tmp 29]) rfl ?_); at_builtin; refine Kd.R_append Kd.string (w0 := w) w.heap.size rfl (.tmp 25) (.tmp 29) 26 9 (.string ⟨#[]⟩) 16 rfl Tryd.underlying26 info9 rfl (by decide) (by omega) u3 x3_1 (a0.extract (x4_1 : Int).toNat a0.size) [.string (a0.extract (x4_1 : Int).toNat a0.size)] (fun _ => True) (fun _ => False) rfl rfl ?aP (fun _ hk => hk.elim) ?aF ?aO ?aB ?aS ?aL ?_; (case aP => exact rfl); (case aB => exact (by repeat (first | (with_reducible first | exact HB.out | apply below_alloc | apply pw_below_drewN | apply below_drew1) | exact HB.out))); (case aF => exact (fun _ _ => trivial)); (case aO => exact (by (with_reducible repeat (first | apply Kd.R_alloc | apply Kd.R_drewN | apply Kd.R_drew)); exact HO_3.out)); (case aS => exact (below_size (by repeat (first | (with_reducible first | exact HB.out | apply below_alloc | apply pw_below_drewN | apply below_drew1) | exact HB.out)))); (case aL => have := LMc13.out; omega); intro v301 w14 ho hb hg hat; rw [← Ny300.out] at ho; have n0_ := Aside0.mk (hb); have n1_ := Aside0.mk (ho); clear HB; clear HO_3; have HB := n0_; have HO302 := n1_; clear n0_ n1_; clear ho hb hg hat))
       go_ret
       exact ⟨_, by first | rfl | (simp [errW_none, errW_some] <;> rfl) | (simp [*, errW_none, errW_some] <;> rfl), by (with_reducible repeat (first | apply Kd.R_alloc | apply Kd.R_drewN | apply Kd.R_drew)); exact HO302.out, by repeat (first | (with_reducible first | exact HB.out | apply below_alloc | apply pw_below_drewN | apply below_drew1) | exact HB.out)⟩
      ·rw [if_neg c13] at H
       exact absurd H (by simp)
     ·rw [if_neg c12] at H
      exact absurd H (by simp)
    ·rw [if_neg c11] at H
     exact absurd H (by simp)

/-! ### brokerref01_Has: function 50 -/
def brokerref01_Has.l0 : Nat → ByteArray → Int → Int → Option (Bool)
 | 0, _, _, _ => none
 | k + 1, x0, x1, x5 => if x5 < (x0.size : Int) then (if 0 ≤ x5 then (if (bt x0 x5) = x1 then (some true) else (brokerref01_Has.l0 k x0 x1 (wrap64 (x5 + 1)))) else (none)) else (some false)
def brokerref01_Has.f (k : Nat) (a0 : ByteArray) (a1 : Int) : Option (Bool) := brokerref01_Has.l0 k a0 a1 0
theorem brokerref01_Has.mono_l : ∀ k, (∀ y0 y1 y2, LeO (brokerref01_Has.l0 k y0 y1 y2) (brokerref01_Has.l0 (k + 1) y0 y1 y2))
 | 0 => fun _ _ _ r h => by simp [brokerref01_Has.l0] at h
 | k + 1 => by
  have ih0 := brokerref01_Has.mono_l k
  ·intro y0 y1 y2
   unfold brokerref01_Has.l0
   repeat' first
   | (with_reducible exact ih0 _ _ _)
   | (with_reducible exact LeO.refl _)
   | (with_reducible exact LeO.none _)
   | (with_reducible refine LeO.ite ?_ ?_)
   | (with_reducible refine LeO.bind ?_ (fun _ => ?_))
   | exact ih0 _ _ _
   | exact LeO.none _
   | refine LeO.ite ?_ ?_
   | refine LeO.bind ?_ (fun _ => ?_)
theorem brokerref01_Has.mono : ∀ a0 a1 k, LeO (brokerref01_Has.f k a0 a1) (brokerref01_Has.f (k + 1) a0 a1) := by
 intro a0 a1 k
 have ih0 := brokerref01_Has.mono_l k
 unfold brokerref01_Has.f
 repeat' first
   | (with_reducible exact ih0 _ _ _)
   | (with_reducible exact LeO.refl _)
   | (with_reducible exact LeO.none _)
   | (with_reducible refine LeO.ite ?_ ?_)
   | (with_reducible refine LeO.bind ?_ (fun _ => ?_))
   | exact ih0 _ _ _
   | exact LeO.none _
   | refine LeO.ite ?_ ?_
   | refine LeO.bind ?_ (fun _ => ?_)
set_option maxHeartbeats 8000000 in
set_option maxRecDepth 100000 in
theorem brokerref01_Has.calls (k : Nat) (a0 : ByteArray) (a1 : Int) (r : Bool) (w : World) (h : brokerref01_Has.f k a0 a1 = some r) :
  Calls Tryd.prog 50 #[.string a0, .int .u8 a1] w fun e w' => e = .returned (.bool r) ∧ Drawn0 w w' := by
 have H : (brokerref01_Has.l0 k a0 a1 0) = some r := h
 clear h
 have H' := Aside0.mk H
 clear H
 go_enter Tryd.func50, Tryd.ntmps50
 go_wp2
 go_loopg [5] k (fun kq v5 w' => ∃ (x5_1 : Int), v5 = .int .i64 x5_1 ∧ Aside0 (brokerref01_Has.l0 kq a0 a1 x5_1 = some r) ∧ Aside0 (kq ≤ k) ∧ Drawn0 w w')
 case atStart => exact ⟨(0), (by first | rfl | (simp; done) | (simp [*]; done)), H', ⟨Nat.le_refl _⟩, by repeat (first | exact Drawn0.refl _ | apply Drawn0.step)⟩
 case round =>
  clear H'
  try clear p2
  obtain ⟨x5_1, rfl, HA, HK1, ⟨m1, rfl⟩⟩ := hrel
  cases gk with
  | zero => exact absurd HA.out (by simp [brokerref01_Has.l0])
  | succ k1 =>
   have H := HA.out
   clear HA
   simp only [brokerref01_Has.l0] at H
   by_cases c3 : x5_1 < (a0.size : Int)
   ·rw [if_pos c3] at H
    have c3b0 : decide (x5_1 < (a0.size : Int)) = true := decide_eq_true c3
    clear c3
    by_cases c4 : 0 ≤ x5_1
    ·rw [if_pos c4] at H
     have c4b0 : decide (0 ≤ x5_1) = true := decide_eq_true c4
     clear c4
     by_cases c6 : (bt a0 x5_1) = a1
     ·rw [if_pos c6] at H
      have c6b0 : ((bt a0 x5_1) == a1) = true := beq_iff_eq.mpr c6
      have c6b1 : ((bt a0 x5_1) != a1) = false := bne_eq_false_iff_eq.mpr c6
      clear c6
      obtain rfl := Option.some.inj H
      have p5 : 0 ≤ (x5_1 : Int) := of_decide_eq_true (by first | (with_reducible assumption) | assumption)
      have q5 : x5_1 < (a0.size : Int) := of_decide_eq_true (by first | (with_reducible assumption) | assumption)
      have hx5 := bt_at a0 x5_1
      replace p5 := eq_true p5
      replace q5 := eq_true q5
      go_wp2
      go_ret
      exact ⟨by first | rfl | (simp; done) | (simp [*]; done), by repeat (first | exact Drawn0.refl _ | apply Drawn0.step)⟩
     ·rw [if_neg c6] at H
      have c6b0 : ((bt a0 x5_1) == a1) = false := beq_eq_false_iff_ne.mpr c6
      have c6b1 : ((bt a0 x5_1) != a1) = true := bne_iff_ne.mpr c6
      have H' := Aside0.mk H
      clear H
      have p5 : 0 ≤ (x5_1 : Int) := of_decide_eq_true (by first | (with_reducible assumption) | assumption)
      have q5 : x5_1 < (a0.size : Int) := of_decide_eq_true (by first | (with_reducible assumption) | assumption)
      have hx5 := bt_at a0 x5_1
      replace p5 := eq_true p5
      replace q5 := eq_true q5
      go_wp2
      go_roundg k1
      case measure => have := HK1.out; omega
      case rel => exact ⟨(wrap64 (x5_1 + 1)), (by first | rfl | (simp; done) | (simp [*]; done)), H', ⟨by have := HK1.out; omega⟩, by repeat (first | exact Drawn0.refl _ | apply Drawn0.step)⟩
    ·rw [if_neg c4] at H
     exact absurd H (by simp)
   ·rw [if_neg c3] at H
    have c3b0 : decide (x5_1 < (a0.size : Int)) = false := decide_eq_false c3
    clear c3
    obtain rfl := Option.some.inj H
    go_wp2
    go_ret
    exact ⟨by first | rfl | (simp; done) | (simp [*]; done), by repeat (first | exact Drawn0.refl _ | apply Drawn0.step)⟩

/-! ### brokerref01_sized: function 49 -/
def brokerref01_sized.f (k : Nat) (a0 : ByteArray) : Option (Bool) := if (a0.size : Int) ≥ 1 then (if (a0.size : Int) ≤ 64 then ((brokerref01_Has.f k a0 0).bind fun t303 => (if t303 = true then (some false) else ((brokerref01_Levels.f k a0).bind fun t304 => (some (decide ((t304.length : Int) ≤ 8)))))) else (some false)) else (some false)
theorem brokerref01_sized.mono : ∀ a0 k, LeO (brokerref01_sized.f k a0) (brokerref01_sized.f (k + 1) a0) := by
 intro a0 k
 unfold brokerref01_sized.f
 repeat' first
   | (with_reducible exact brokerref01_Has.mono _ _ _)
   | (with_reducible exact brokerref01_Levels.mono _ _)
   | (with_reducible exact LeO.refl _)
   | (with_reducible exact LeO.none _)
   | (with_reducible refine LeO.ite ?_ ?_)
   | (with_reducible refine LeO.bind ?_ (fun _ => ?_))
   | exact brokerref01_Has.mono _ _ _
   | exact brokerref01_Levels.mono _ _
   | exact LeO.none _
   | refine LeO.ite ?_ ?_
   | refine LeO.bind ?_ (fun _ => ?_)
set_option maxHeartbeats 8000000 in
set_option maxRecDepth 100000 in
theorem brokerref01_sized.calls (k : Nat) (a0 : ByteArray) (r : Bool) (w : World) (h : brokerref01_sized.f k a0 = some r) :
  Calls Tryd.prog 49 #[.string a0] w fun e w' => e = .returned (.bool r) ∧ Below w.heap.size w w' := by
 have HB := Aside0.mk (Below.refl w.heap.size w)
 have H : (if (a0.size : Int) ≥ 1 then (if (a0.size : Int) ≤ 64 then ((brokerref01_Has.f k a0 0).bind fun t303 => (if t303 = true then (some false) else ((brokerref01_Levels.f k a0).bind fun t304 => (some (decide ((t304.length : Int) ≤ 8)))))) else (some false)) else (some false)) = some r := h
 clear h
 by_cases c2 : (a0.size : Int) ≥ 1
 ·rw [if_pos c2] at H
  have c2b0 : decide (1 ≤ (a0.size : Int)) = true := decide_eq_true c2
  have c2b1 : decide (1 ≤ a0.size) = true := decide_eq_true (by omega)
  clear c2
  by_cases c3 : (a0.size : Int) ≤ 64
  ·rw [if_pos c3] at H
   have c3b0 : decide ((a0.size : Int) ≤ 64) = true := decide_eq_true c3
   have c3b1 : decide (a0.size ≤ 64) = true := decide_eq_true (by omega)
   clear c3
   replace H := Option.bind_eq_some_iff.mp H
   obtain ⟨t303, A40, H⟩ := H
   replace H : (if t303 = true then (some false) else ((brokerref01_Levels.f k a0).bind fun t304 => (some (decide ((t304.length : Int) ≤ 8))))) = some r := H
   have A4 := Aside0.mk A40
   clear A40
   by_cases c5 : t303 = true
   ·subst c5
    have H1 : (some false) = some r := by rw [if_pos rfl] at H; exact H
    clear H
    have H := H1
    clear H1
    obtain rfl := Option.some.inj H
    go_enter Tryd.func49, Tryd.ntmps49
    go_wp2_with (first | (go_at_call 50; (with_reducible refine (brokerref01_Has.calls k a0 0 true _ A4.out).mono ?_); rintro e w' ⟨rfl, ⟨nd, rfl⟩⟩))
    go_ret
    exact ⟨by first | rfl | (simp [errW_none, errW_some] <;> rfl) | (simp [*, errW_none, errW_some] <;> rfl), by repeat (first | (with_reducible first | exact HB.out | apply below_alloc | apply pw_below_drewN | apply below_drew1) | exact HB.out)⟩
   ·replace c5 := Bool.eq_false_iff.mpr c5
    subst c5
    have H1 : ((brokerref01_Levels.f k a0).bind fun t304 => (some (decide ((t304.length : Int) ≤ 8)))) = some r := by rw [if_neg (show ¬ (false = true) by decide)] at H; exact H
    clear H
    have H := H1
    clear H1
    replace H := Option.bind_eq_some_iff.mp H
    obtain ⟨t304, A60, H⟩ := H
    replace H : (some (decide ((t304.length : Int) ≤ 8))) = some r := H
    have A6 := Aside0.mk A60
    clear A60
    obtain rfl := Option.some.inj H
    go_enter Tryd.func49, Tryd.ntmps49
    go_wp2_with (first | (go_at_call 50; (with_reducible refine (brokerref01_Has.calls k a0 0 false _ A4.out).mono ?_); rintro e w' ⟨rfl, ⟨nd, rfl⟩⟩) | (go_at_call 31; (with_reducible refine (brokerref01_Levels.calls k a0 t304 _ A6.out).mono ?_); rintro e w7 ⟨v305, rfl, ho0, hb⟩; have n0_ := Aside0.mk (Kd.R_lower ho0 (below_size (by repeat (first | (with_reducible first | exact HB.out | apply below_alloc | apply pw_below_drewN | apply below_drew1) | exact HB.out)))); have n1_ := Aside0.mk (below_step (by repeat (first | (with_reducible first | exact HB.out | apply below_alloc | apply pw_below_drewN | apply below_drew1) | exact HB.out)) hb); clear HB; have HO306 := n0_; have HB := n1_; clear n0_ n1_; (try clear hb); (try clear hb2); (try clear hk); (try clear hi); (try clear ho0); obtain ⟨Ao8, co8, eo8⟩ := Kd.R_slice HO306.out; subst eo8))
    go_ret
    exact ⟨by first | rfl | (simp [errW_none, errW_some] <;> rfl) | (simp [*, errW_none, errW_some] <;> rfl), by repeat (first | (with_reducible first | exact HB.out | apply below_alloc | apply pw_below_drewN | apply below_drew1) | exact HB.out)⟩
  ·rw [if_neg c3] at H
   have c3b0 : decide ((a0.size : Int) ≤ 64) = false := decide_eq_false c3
   have c3b1 : decide (a0.size ≤ 64) = false := decide_eq_false (by omega)
   clear c3
   obtain rfl := Option.some.inj H
   go_enter Tryd.func49, Tryd.ntmps49
   go_wp2
   go_ret
   exact ⟨by first | rfl | (simp [errW_none, errW_some] <;> rfl) | (simp [*, errW_none, errW_some] <;> rfl), by repeat (first | (with_reducible first | exact HB.out | apply below_alloc | apply pw_below_drewN | apply below_drew1) | exact HB.out)⟩
 ·rw [if_neg c2] at H
  have c2b0 : decide (1 ≤ (a0.size : Int)) = false := decide_eq_false c2
  have c2b1 : decide (1 ≤ a0.size) = false := decide_eq_false (by omega)
  clear c2
  obtain rfl := Option.some.inj H
  go_enter Tryd.func49, Tryd.ntmps49
  go_wp2
  go_ret
  exact ⟨by first | rfl | (simp [errW_none, errW_some] <;> rfl) | (simp [*, errW_none, errW_some] <;> rfl), by repeat (first | (with_reducible first | exact HB.out | apply below_alloc | apply pw_below_drewN | apply below_drew1) | exact HB.out)⟩

end Go.Proofs.YtmgmkgnenopelaaDoor.P
