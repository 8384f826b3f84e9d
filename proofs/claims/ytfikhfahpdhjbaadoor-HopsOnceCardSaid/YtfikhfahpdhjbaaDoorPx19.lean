/- Printed by a program of this session (wip/tools) over the translation: Go functions as plain Lean functions, and their contracts. -/
import Derived.Test.YtfikhfahpdhjbaaDoorPx0
import Derived.Test.YtfikhfahpdhjbaaDoorPx2
import Derived.Test.YtfikhfahpdhjbaaDoorPx3
import Derived.Test.YtfikhfahpdhjbaaDoorPx7
import Derived.Test.YtfikhfahpdhjbaaDoorPx12
namespace Go.Proofs.YtfikhfahpdhjbaaDoor.P
open Go.RowKit Go.Proofs.YtfikhfahpdhjbaaDoorW.PrintWords Go.Proofs.YtfikhfahpdhjbaaDoorW.PrintLast Go.Proofs.YtfikhfahpdhjbaaDoorW.PrintMore
attribute [local go_sem] max2_int min2_int max_two min_two max_three min_three max_four min_four str_gtr str_leq str_geq   -- for this text's walks alone
set_option linter.unusedVariables false
set_option linter.unusedSimpArgs false

/-! ### brokerlaw46_HopsOnce: function 6 -/
mutual
def brokerlaw46_HopsOnce.l0 : Nat → List ByteArray → List ByteArray → Int → ByteArray → ByteArray → Int → Bool → Int → Int → ByteArray → Int → List (S50) → Option (Bool)
 | 0, _, _, _, _, _, _, _, _, _, _, _, _ => none
 | k + 1, x0, x4, x5, x428000, x428001, x428002, x428003, x428004, x428005, x428006, x428007, x428008 => if x5 < (x0.length : Int) then (brokerlaw46_HopsOnce.j1 k x0 x4 x5 (decide (x5 < 20)) x428000 x428001 x428002 x428003 x428004 x428005 x428006 x428007 x428008) else (brokerlaw46_HopsOnce.j1 k x0 x4 x5 false x428000 x428001 x428002 x428003 x428004 x428005 x428006 x428007 x428008)
def brokerlaw46_HopsOnce.j1 : Nat → List ByteArray → List ByteArray → Int → Bool → ByteArray → ByteArray → Int → Bool → Int → Int → ByteArray → Int → List (S50) → Option (Bool)
 | 0, _, _, _, _, _, _, _, _, _, _, _, _, _ => none
 | k + 1, x0, x4, x5, x18, x428000, x428001, x428002, x428003, x428004, x428005, x428006, x428007, x428008 => if x18 = true then (brokerlaw46_HopsOnce.l1 k x0 x4 x5 false 0 x428000 x428001 x428002 x428003 x428004 x428005 x428006 x428007 x428008) else ((brokerlaw46_awake.f k).bind fun t428 => (some t428))
def brokerlaw46_HopsOnce.l1 : Nat → List ByteArray → List ByteArray → Int → Bool → Int → ByteArray → ByteArray → Int → Bool → Int → Int → ByteArray → Int → List (S50) → Option (Bool)
 | 0, _, _, _, _, _, _, _, _, _, _, _, _, _, _ => none
 | k + 1, x0, x4, x5, x6, x7, x428000, x428001, x428002, x428003, x428004, x428005, x428006, x428007, x428008 => if x7 < (x4.length : Int) then (if x6 = true then (brokerlaw46_HopsOnce.l1 k x0 x4 x5 true (wrap64 (x7 + 1)) x428000 x428001 x428002 x428003 x428004 x428005 x428006 x428007 x428008) else (if 0 ≤ x7 then (if 0 ≤ x5 then (if x5 < (x0.length : Int) then (brokerlaw46_HopsOnce.l1 k x0 x4 x5 ((rdOf ByteArray.empty x4 x7).toList == (rdOf ByteArray.empty x0 x5).toList) (wrap64 (x7 + 1)) x428000 x428001 x428002 x428003 x428004 x428005 x428006 x428007 x428008) else (none)) else (none)) else (none))) else (if 0 ≤ x5 then (if x5 < (x0.length : Int) then ((hops_Enter.f k x428000 x428001 x428002 x428003 x428004 x428005 x428006 x428007 x428008 (rdOf ByteArray.empty x0 x5)).bind fun bt432 => ((brokerref01_Name.f k (rdOf ByteArray.empty x0 x5)).bind fun t446 => (if t446 = true then (if x6 = true then (brokerlaw46_HopsOnce.j3 k x0 x4 x5 bt432.2.2.2.2.2.2.2.2.2 true x428000 x428001 x428002 x428003 x428004 x428005 x428006 x428007 x428008 bt432.1 bt432.2.1 bt432.2.2.1 bt432.2.2.2.1 bt432.2.2.2.2.1 bt432.2.2.2.2.2.1 bt432.2.2.2.2.2.2.1 bt432.2.2.2.2.2.2.2.1 bt432.2.2.2.2.2.2.2.2.1) else (brokerlaw46_HopsOnce.j3 k x0 x4 x5 bt432.2.2.2.2.2.2.2.2.2 (decide ((x4.length : Int) ≥ 8)) x428000 x428001 x428002 x428003 x428004 x428005 x428006 x428007 x428008 bt432.1 bt432.2.1 bt432.2.2.1 bt432.2.2.2.1 bt432.2.2.2.2.1 bt432.2.2.2.2.2.1 bt432.2.2.2.2.2.2.1 bt432.2.2.2.2.2.2.2.1 bt432.2.2.2.2.2.2.2.2.1)) else (if bt432.2.2.2.2.2.2.2.2.2 = 11 then (brokerlaw46_HopsOnce.j4 k x0 x4 x5 x428000 x428001 x428002 x428003 x428004 x428005 x428006 x428007 x428008) else (none))))) else (none)) else (none))
def brokerlaw46_HopsOnce.j4 : Nat → List ByteArray → List ByteArray → Int → ByteArray → ByteArray → Int → Bool → Int → Int → ByteArray → Int → List (S50) → Option (Bool)
 | 0, _, _, _, _, _, _, _, _, _, _, _, _ => none
 | k + 1, x0, x4, x5, x428000, x428001, x428002, x428003, x428004, x428005, x428006, x428007, x428008 => (hops_Path.f k x428000 x428001 x428002 x428003 x428004 x428005 x428006 x428007 x428008).bind fun t451 => ((brokerref01_Same.f k t451 x4).bind fun t454 => (if t454 = true then (brokerlaw46_HopsOnce.l0 k x0 x4 (wrap64 (x5 + 1)) x428000 x428001 x428002 x428003 x428004 x428005 x428006 x428007 x428008) else (none)))
def brokerlaw46_HopsOnce.j3 : Nat → List ByteArray → List ByteArray → Int → Int → Bool → ByteArray → ByteArray → Int → Bool → Int → Int → ByteArray → Int → List (S50) → ByteArray → ByteArray → Int → Bool → Int → Int → ByteArray → Int → List (S50) → Option (Bool)
 | 0, _, _, _, _, _, _, _, _, _, _, _, _, _, _, _, _, _, _, _, _, _, _, _ => none
 | k + 1, x0, x4, x5, x9, x67, x428000, x428001, x428002, x428003, x428004, x428005, x428006, x428007, x428008, x445000, x445001, x445002, x445003, x445004, x445005, x445006, x445007, x445008 => if x67 = true then (if x9 = 20 then (brokerlaw46_HopsOnce.j4 k x0 x4 x5 x428000 x428001 x428002 x428003 x428004 x428005 x428006 x428007 x428008) else (none)) else (if x9 = 0 then (if 0 ≤ x5 then (if x5 < (x0.length : Int) then (if x4.length < 8796093022208 then (brokerlaw46_HopsOnce.j4 k x0 (x4 ++ [rdOf ByteArray.empty x0 x5]) x5 x445000 x445001 x445002 x445003 x445004 x445005 x445006 x445007 x445008) else (none)) else (none)) else (none)) else (none))
end
def brokerlaw46_HopsOnce.f (k : Nat) (l0 : List ByteArray) : Option (Bool) := brokerlaw46_HopsOnce.l0 k l0 ([] : List ByteArray) 0 (⟨#[116]⟩ : ByteArray) (⟨#[]⟩ : ByteArray) 0 false 0 0 (⟨#[]⟩ : ByteArray) 0 ([] : List (S50))
theorem brokerlaw46_HopsOnce.mono_l : ∀ k, (∀ y0 y1 y2 y3 y4 y5 y6 y7 y8 y9 y10 y11, LeO (brokerlaw46_HopsOnce.l0 k y0 y1 y2 y3 y4 y5 y6 y7 y8 y9 y10 y11) (brokerlaw46_HopsOnce.l0 (k + 1) y0 y1 y2 y3 y4 y5 y6 y7 y8 y9 y10 y11)) ∧ (∀ y0 y1 y2 y3 y4 y5 y6 y7 y8 y9 y10 y11 y12, LeO (brokerlaw46_HopsOnce.j1 k y0 y1 y2 y3 y4 y5 y6 y7 y8 y9 y10 y11 y12) (brokerlaw46_HopsOnce.j1 (k + 1) y0 y1 y2 y3 y4 y5 y6 y7 y8 y9 y10 y11 y12)) ∧ (∀ y0 y1 y2 y3 y4 y5 y6 y7 y8 y9 y10 y11 y12 y13, LeO (brokerlaw46_HopsOnce.l1 k y0 y1 y2 y3 y4 y5 y6 y7 y8 y9 y10 y11 y12 y13) (brokerlaw46_HopsOnce.l1 (k + 1) y0 y1 y2 y3 y4 y5 y6 y7 y8 y9 y10 y11 y12 y13)) ∧ (∀ y0 y1 y2 y3 y4 y5 y6 y7 y8 y9 y10 y11, LeO (brokerlaw46_HopsOnce.j4 k y0 y1 y2 y3 y4 y5 y6 y7 y8 y9 y10 y11) (brokerlaw46_HopsOnce.j4 (k + 1) y0 y1 y2 y3 y4 y5 y6 y7 y8 y9 y10 y11)) ∧ (∀ y0 y1 y2 y3 y4 y5 y6 y7 y8 y9 y10 y11 y12 y13 y14 y15 y16 y17 y18 y19 y20 y21 y22, LeO (brokerlaw46_HopsOnce.j3 k y0 y1 y2 y3 y4 y5 y6 y7 y8 y9 y10 y11 y12 y13 y14 y15 y16 y17 y18 y19 y20 y21 y22) (brokerlaw46_HopsOnce.j3 (k + 1) y0 y1 y2 y3 y4 y5 y6 y7 y8 y9 y10 y11 y12 y13 y14 y15 y16 y17 y18 y19 y20 y21 y22))
 | 0 => ⟨fun _ _ _ _ _ _ _ _ _ _ _ _ r h => by simp [brokerlaw46_HopsOnce.l0] at h, fun _ _ _ _ _ _ _ _ _ _ _ _ _ r h => by simp [brokerlaw46_HopsOnce.j1] at h, fun _ _ _ _ _ _ _ _ _ _ _ _ _ _ r h => by simp [brokerlaw46_HopsOnce.l1] at h, fun _ _ _ _ _ _ _ _ _ _ _ _ r h => by simp [brokerlaw46_HopsOnce.j4] at h, fun _ _ _ _ _ _ _ _ _ _ _ _ _ _ _ _ _ _ _ _ _ _ _ r h => by simp [brokerlaw46_HopsOnce.j3] at h⟩
 | k + 1 => by
  obtain ⟨ih0, ih1, ih2, ih3, ih4⟩ := brokerlaw46_HopsOnce.mono_l k
  refine ⟨?_, ?_, ?_, ?_, ?_⟩
  ·intro y0 y1 y2 y3 y4 y5 y6 y7 y8 y9 y10 y11
   unfold brokerlaw46_HopsOnce.l0
   repeat' first
   | (with_reducible exact ih0 _ _ _ _ _ _ _ _ _ _ _ _)
   | (with_reducible exact ih1 _ _ _ _ _ _ _ _ _ _ _ _ _)
   | (with_reducible exact ih2 _ _ _ _ _ _ _ _ _ _ _ _ _ _)
   | (with_reducible exact ih3 _ _ _ _ _ _ _ _ _ _ _ _)
   | (with_reducible exact ih4 _ _ _ _ _ _ _ _ _ _ _ _ _ _ _ _ _ _ _ _ _ _ _)
   | (with_reducible exact brokerlaw46_awake.mono _)
   | (with_reducible exact brokerref01_Name.mono _ _)
   | (with_reducible exact brokerref01_Same.mono _ _ _)
   | (with_reducible exact hops_Enter.mono _ _ _ _ _ _ _ _ _ _ _)
   | (with_reducible exact hops_Path.mono _ _ _ _ _ _ _ _ _ _)
   | (with_reducible exact LeO.refl _)
   | (with_reducible exact LeO.none _)
   | (with_reducible refine LeO.ite ?_ ?_)
   | (with_reducible refine LeO.bind ?_ (fun _ => ?_))
   | exact ih0 _ _ _ _ _ _ _ _ _ _ _ _
   | exact ih1 _ _ _ _ _ _ _ _ _ _ _ _ _
   | exact ih2 _ _ _ _ _ _ _ _ _ _ _ _ _ _
   | exact ih3 _ _ _ _ _ _ _ _ _ _ _ _
   | exact ih4 _ _ _ _ _ _ _ _ _ _ _ _ _ _ _ _ _ _ _ _ _ _ _
   | exact brokerlaw46_awake.mono _
   | exact brokerref01_Name.mono _ _
   | exact brokerref01_Same.mono _ _ _
   | exact hops_Enter.mono _ _ _ _ _ _ _ _ _ _ _
   | exact hops_Path.mono _ _ _ _ _ _ _ _ _ _
   | exact LeO.none _
   | refine LeO.ite ?_ ?_
   | refine LeO.bind ?_ (fun _ => ?_)
  ·intro y0 y1 y2 y3 y4 y5 y6 y7 y8 y9 y10 y11 y12
   unfold brokerlaw46_HopsOnce.j1
   repeat' first
   | (with_reducible exact ih0 _ _ _ _ _ _ _ _ _ _ _ _)
   | (with_reducible exact ih1 _ _ _ _ _ _ _ _ _ _ _ _ _)
   | (with_reducible exact ih2 _ _ _ _ _ _ _ _ _ _ _ _ _ _)
   | (with_reducible exact ih3 _ _ _ _ _ _ _ _ _ _ _ _)
   | (with_reducible exact ih4 _ _ _ _ _ _ _ _ _ _ _ _ _ _ _ _ _ _ _ _ _ _ _)
   | (with_reducible exact brokerlaw46_awake.mono _)
   | (with_reducible exact brokerref01_Name.mono _ _)
   | (with_reducible exact brokerref01_Same.mono _ _ _)
   | (with_reducible exact hops_Enter.mono _ _ _ _ _ _ _ _ _ _ _)
   | (with_reducible exact hops_Path.mono _ _ _ _ _ _ _ _ _ _)
   | (with_reducible exact LeO.refl _)
   | (with_reducible exact LeO.none _)
   | (with_reducible refine LeO.ite ?_ ?_)
   | (with_reducible refine LeO.bind ?_ (fun _ => ?_))
   | exact ih0 _ _ _ _ _ _ _ _ _ _ _ _
   | exact ih1 _ _ _ _ _ _ _ _ _ _ _ _ _
   | exact ih2 _ _ _ _ _ _ _ _ _ _ _ _ _ _
   | exact ih3 _ _ _ _ _ _ _ _ _ _ _ _
   | exact ih4 _ _ _ _ _ _ _ _ _ _ _ _ _ _ _ _ _ _ _ _ _ _ _
   | exact brokerlaw46_awake.mono _
   | exact brokerref01_Name.mono _ _
   | exact brokerref01_Same.mono _ _ _
   | exact hops_Enter.mono _ _ _ _ _ _ _ _ _ _ _
   | exact hops_Path.mono _ _ _ _ _ _ _ _ _ _
   | exact LeO.none _
   | refine LeO.ite ?_ ?_
   | refine LeO.bind ?_ (fun _ => ?_)
  ·intro y0 y1 y2 y3 y4 y5 y6 y7 y8 y9 y10 y11 y12 y13
   unfold brokerlaw46_HopsOnce.l1
   repeat' first
   | (with_reducible exact ih0 _ _ _ _ _ _ _ _ _ _ _ _)
   | (with_reducible exact ih1 _ _ _ _ _ _ _ _ _ _ _ _ _)
   | (with_reducible exact ih2 _ _ _ _ _ _ _ _ _ _ _ _ _ _)
   | (with_reducible exact ih3 _ _ _ _ _ _ _ _ _ _ _ _)
   | (with_reducible exact ih4 _ _ _ _ _ _ _ _ _ _ _ _ _ _ _ _ _ _ _ _ _ _ _)
   | (with_reducible exact brokerlaw46_awake.mono _)
   | (with_reducible exact brokerref01_Name.mono _ _)
   | (with_reducible exact brokerref01_Same.mono _ _ _)
   | (with_reducible exact hops_Enter.mono _ _ _ _ _ _ _ _ _ _ _)
   | (with_reducible exact hops_Path.mono _ _ _ _ _ _ _ _ _ _)
   | (with_reducible exact LeO.refl _)
   | (with_reducible exact LeO.none _)
   | (with_reducible refine LeO.ite ?_ ?_)
   | (with_reducible refine LeO.bind ?_ (fun _ => ?_))
   | exact ih0 _ _ _ _ _ _ _ _ _ _ _ _
   | exact ih1 _ _ _ _ _ _ _ _ _ _ _ _ _
   | exact ih2 _ _ _ _ _ _ _ _ _ _ _ _ _ _
   | exact ih3 _ _ _ _ _ _ _ _ _ _ _ _
   | exact ih4 _ _ _ _ _ _ _ _ _ _ _ _ _ _ _ _ _ _ _ _ _ _ _
   | exact brokerlaw46_awake.mono _
   | exact brokerref01_Name.mono _ _
   | exact brokerref01_Same.mono _ _ _
   | exact hops_Enter.mono _ _ _ _ _ _ _ _ _ _ _
   | exact hops_Path.mono _ _ _ _ _ _ _ _ _ _
   | exact LeO.none _
   | refine LeO.ite ?_ ?_
   | refine LeO.bind ?_ (fun _ => ?_)
  ·intro y0 y1 y2 y3 y4 y5 y6 y7 y8 y9 y10 y11
   unfold brokerlaw46_HopsOnce.j4
   repeat' first
   | (with_reducible exact ih0 _ _ _ _ _ _ _ _ _ _ _ _)
   | (with_reducible exact ih1 _ _ _ _ _ _ _ _ _ _ _ _ _)
   | (with_reducible exact ih2 _ _ _ _ _ _ _ _ _ _ _ _ _ _)
   | (with_reducible exact ih3 _ _ _ _ _ _ _ _ _ _ _ _)
   | (with_reducible exact ih4 _ _ _ _ _ _ _ _ _ _ _ _ _ _ _ _ _ _ _ _ _ _ _)
   | (with_reducible exact brokerlaw46_awake.mono _)
   | (with_reducible exact brokerref01_Name.mono _ _)
   | (with_reducible exact brokerref01_Same.mono _ _ _)
   | (with_reducible exact hops_Enter.mono _ _ _ _ _ _ _ _ _ _ _)
   | (with_reducible exact hops_Path.mono _ _ _ _ _ _ _ _ _ _)
   | (with_reducible exact LeO.refl _)
   | (with_reducible exact LeO.none _)
   | (with_reducible refine LeO.ite ?_ ?_)
   | (with_reducible refine LeO.bind ?_ (fun _ => ?_))
   | exact ih0 _ _ _ _ _ _ _ _ _ _ _ _
   | exact ih1 _ _ _ _ _ _ _ _ _ _ _ _ _
   | exact ih2 _ _ _ _ _ _ _ _ _ _ _ _ _ _
   | exact ih3 _ _ _ _ _ _ _ _ _ _ _ _
   | exact ih4 _ _ _ _ _ _ _ _ _ _ _ _ _ _ _ _ _ _ _ _ _ _ _
   | exact brokerlaw46_awake.mono _
   | exact brokerref01_Name.mono _ _
   | exact brokerref01_Same.mono _ _ _
   | exact hops_Enter.mono _ _ _ _ _ _ _ _ _ _ _
   | exact hops_Path.mono _ _ _ _ _ _ _ _ _ _
   | exact LeO.none _
   | refine LeO.ite ?_ ?_
   | refine LeO.bind ?_ (fun _ => ?_)
  ·intro y0 y1 y2 y3 y4 y5 y6 y7 y8 y9 y10 y11 y12 y13 y14 y15 y16 y17 y18 y19 y20 y21 y22
   unfold brokerlaw46_HopsOnce.j3
   repeat' first
   | (with_reducible exact ih0 _ _ _ _ _ _ _ _ _ _ _ _)
   | (with_reducible exact ih1 _ _ _ _ _ _ _ _ _ _ _ _ _)
   | (with_reducible exact ih2 _ _ _ _ _ _ _ _ _ _ _ _ _ _)
   | (with_reducible exact ih3 _ _ _ _ _ _ _ _ _ _ _ _)
   | (with_reducible exact ih4 _ _ _ _ _ _ _ _ _ _ _ _ _ _ _ _ _ _ _ _ _ _ _)
   | (with_reducible exact brokerlaw46_awake.mono _)
   | (with_reducible exact brokerref01_Name.mono _ _)
   | (with_reducible exact brokerref01_Same.mono _ _ _)
   | (with_reducible exact hops_Enter.mono _ _ _ _ _ _ _ _ _ _ _)
   | (with_reducible exact hops_Path.mono _ _ _ _ _ _ _ _ _ _)
   | (with_reducible exact LeO.refl _)
   | (with_reducible exact LeO.none _)
   | (with_reducible refine LeO.ite ?_ ?_)
   | (with_reducible refine LeO.bind ?_ (fun _ => ?_))
   | exact ih0 _ _ _ _ _ _ _ _ _ _ _ _
   | exact ih1 _ _ _ _ _ _ _ _ _ _ _ _ _
   | exact ih2 _ _ _ _ _ _ _ _ _ _ _ _ _ _
   | exact ih3 _ _ _ _ _ _ _ _ _ _ _ _
   | exact ih4 _ _ _ _ _ _ _ _ _ _ _ _ _ _ _ _ _ _ _ _ _ _ _
   | exact brokerlaw46_awake.mono _
   | exact brokerref01_Name.mono _ _
   | exact brokerref01_Same.mono _ _ _
   | exact hops_Enter.mono _ _ _ _ _ _ _ _ _ _ _
   | exact hops_Path.mono _ _ _ _ _ _ _ _ _ _
   | exact LeO.none _
   | refine LeO.ite ?_ ?_
   | refine LeO.bind ?_ (fun _ => ?_)
theorem brokerlaw46_HopsOnce.mono : ∀ a0 k, LeO (brokerlaw46_HopsOnce.f k a0) (brokerlaw46_HopsOnce.f (k + 1) a0) := by
 intro a0 k
 obtain ⟨ih0, ih1, ih2, ih3, ih4⟩ := brokerlaw46_HopsOnce.mono_l k
 unfold brokerlaw46_HopsOnce.f
 repeat' first
   | (with_reducible exact ih0 _ _ _ _ _ _ _ _ _ _ _ _)
   | (with_reducible exact ih1 _ _ _ _ _ _ _ _ _ _ _ _ _)
   | (with_reducible exact ih2 _ _ _ _ _ _ _ _ _ _ _ _ _ _)
   | (with_reducible exact ih3 _ _ _ _ _ _ _ _ _ _ _ _)
   | (with_reducible exact ih4 _ _ _ _ _ _ _ _ _ _ _ _ _ _ _ _ _ _ _ _ _ _ _)
   | (with_reducible exact brokerlaw46_awake.mono _)
   | (with_reducible exact brokerref01_Name.mono _ _)
   | (with_reducible exact brokerref01_Same.mono _ _ _)
   | (with_reducible exact hops_Enter.mono _ _ _ _ _ _ _ _ _ _ _)
   | (with_reducible exact hops_Path.mono _ _ _ _ _ _ _ _ _ _)
   | (with_reducible exact LeO.refl _)
   | (with_reducible exact LeO.none _)
   | (with_reducible refine LeO.ite ?_ ?_)
   | (with_reducible refine LeO.bind ?_ (fun _ => ?_))
   | exact ih0 _ _ _ _ _ _ _ _ _ _ _ _
   | exact ih1 _ _ _ _ _ _ _ _ _ _ _ _ _
   | exact ih2 _ _ _ _ _ _ _ _ _ _ _ _ _ _
   | exact ih3 _ _ _ _ _ _ _ _ _ _ _ _
   | exact ih4 _ _ _ _ _ _ _ _ _ _ _ _ _ _ _ _ _ _ _ _ _ _ _
   | exact brokerlaw46_awake.mono _
   | exact brokerref01_Name.mono _ _
   | exact brokerref01_Same.mono _ _ _
   | exact hops_Enter.mono _ _ _ _ _ _ _ _ _ _ _
   | exact hops_Path.mono _ _ _ _ _ _ _ _ _ _
   | exact LeO.none _
   | refine LeO.ite ?_ ?_
   | refine LeO.bind ?_ (fun _ => ?_)
def brokerlaw46_HopsOnce.T10 : Bool × List (List Nat × List Nat) := (true, [([], []), ([0], [0]), ([1], [1]), ([1], [1]), ([2, 3, 1], [1, 2, 3]), ([4, 1], [1, 4]), ([1], [1]), ([1], [1]), ([6, 7, 1], [1, 6, 7]), ([8, 1], [1, 8]), ([5, 9, 1], [1, 5, 9]), ([1, 10], [1, 10]), ([11, 1, 0, 1, 2, 3, 4, 5, 6, 7, 8, 9, 10, 11], [0, 11])])
def brokerlaw46_HopsOnce.B10 : List Nat := [0, 1, 3, 3, 15, 31, 3, 3, 195, 451, 1023, 2047, 4095]
theorem brokerlaw46_HopsOnce.tab10 : rtab .any (opsOf Tryd.f6 10) = brokerlaw46_HopsOnce.T10 := by kernel_rfl
theorem brokerlaw46_HopsOnce.bits10 : waitsOk brokerlaw46_HopsOnce.T10.2 brokerlaw46_HopsOnce.B10 = true := by kernel_rfl
def brokerlaw46_HopsOnce.T11 : Bool × List (List Nat × List Nat) := (true, [([], []), ([], []), ([], []), ([1, 2], [1, 2]), ([3], [3]), ([0, 4], [0, 4]), ([5], [5]), ([6], [6]), ([6], [6]), ([], []), ([9, 7, 5, 0, 1, 2, 3, 4, 5, 6, 7, 9], [7, 9]), ([8, 10, 0, 1, 2, 3, 4, 5, 6, 7, 8, 9, 10], [8])])
def brokerlaw46_HopsOnce.B11 : List Nat := [0, 0, 0, 6, 14, 31, 63, 127, 127, 0, 767, 2047]
theorem brokerlaw46_HopsOnce.tab11 : rtab .any (opsOf Tryd.f6 11) = brokerlaw46_HopsOnce.T11 := by kernel_rfl
theorem brokerlaw46_HopsOnce.bits11 : waitsOk brokerlaw46_HopsOnce.T11.2 brokerlaw46_HopsOnce.B11 = true := by kernel_rfl
set_option maxHeartbeats 8000000 in
set_option maxRecDepth 100000 in
theorem brokerlaw46_HopsOnce.calls (k : Nat) (A0 : Option Addr) (c0 : Nat) (l0 : List ByteArray) (r : Bool) (w : World) (hr0 : Kd.C Kd.string w A0 l0.length l0) (hc0 : l0.length ≤ c0) (h : brokerlaw46_HopsOnce.f k l0 = some r) :
  Calls Tryd.prog 6 #[.slice A0 l0.length c0] w fun e w' => e = .returned (.bool r) ∧ Below w.heap.size w w' := by
 have hu24 := Tryd.underlying24
 have HR0 := Aside0.mk hr0
 have HC0 := Aside0.mk hc0
 clear hr0 hc0
 have HB := Aside0.mk (Below.refl w.heap.size w)
 have H : (brokerlaw46_HopsOnce.l0 k l0 ([] : List ByteArray) 0 (⟨#[116]⟩ : ByteArray) (⟨#[]⟩ : ByteArray) 0 false 0 0 (⟨#[]⟩ : ByteArray) 0 ([] : List (S50))) = some r := h
 clear h
 have H' := Aside0.mk H
 clear H
 go_enter Tryd.func6, Tryd.ntmps6
 go_wp2_with (first | ((with_reducible refine gate_dst (N := 3) rfl ?_); (try (refine gate_guard (by rfl) ?_; dsimp only)); refine box_event ?hg (N := 3) ?hd (cs := #[.string (⟨#[]⟩ : ByteArray), .string (⟨#[]⟩ : ByteArray), .int .i64 0, .bool false, .int .i64 0, .int .i64 0, .string (⟨#[]⟩ : ByteArray), .int .i64 0, .slice none 0 0]) (t := 24) ?hr ?_; (case hd => rfl); (case hg => rfl); (case hr => first | (go_simp; done) | (go_simp; rfl)); intro gb427 hg w2 hbox hb; have n0_ := Aside0.mk (below_step (by repeat (first | (with_reducible first | exact HB.out | apply below_alloc | apply pw_below_drewN | apply below_drew1) | exact HB.out)) hb); have n1_ := Aside0.mk (hbox); have n2_ := Aside0.mk ((by rw [hg]; exact (below_size (by repeat (first | (with_reducible first | exact HB.out | apply below_alloc | apply pw_below_drewN | apply below_drew1) | exact HB.out))) : w.heap.size ≤ gb427)); have n3_ := Aside0.mk ((by rw [hg]; exact (below_size (by repeat (first | (with_reducible first | exact HB.out | apply below_alloc | apply pw_below_drewN | apply below_drew1) | exact HB.out))) : w.heap.size ≤ gb427)); clear HB; have HB := n0_; have BK427 := n1_; have GW427 := n2_; have GE427 := n3_; clear n0_ n1_ n2_ n3_; clear hb hbox hg; have hcz3_0 : w2.cell? ⟨gb427, 0, none⟩ = some (.string (⟨#[]⟩ : ByteArray)) := (blk_cell BK427.out 0).trans rfl; have hcz3_1 : w2.cell? ⟨gb427, 1, none⟩ = some (.string (⟨#[]⟩ : ByteArray)) := (blk_cell BK427.out 1).trans rfl; have hcz3_2 : w2.cell? ⟨gb427, 2, none⟩ = some (.int .i64 0) := (blk_cell BK427.out 2).trans rfl; have hcz3_3 : w2.cell? ⟨gb427, 3, none⟩ = some (.bool false) := (blk_cell BK427.out 3).trans rfl; have hcz3_4 : w2.cell? ⟨gb427, 4, none⟩ = some (.int .i64 0) := (blk_cell BK427.out 4).trans rfl; have hcz3_5 : w2.cell? ⟨gb427, 5, none⟩ = some (.int .i64 0) := (blk_cell BK427.out 5).trans rfl; have hcz3_6 : w2.cell? ⟨gb427, 6, none⟩ = some (.string (⟨#[]⟩ : ByteArray)) := (blk_cell BK427.out 6).trans rfl; have hcz3_7 : w2.cell? ⟨gb427, 7, none⟩ = some (.int .i64 0) := (blk_cell BK427.out 7).trans rfl; have hcz3_8 : w2.cell? ⟨gb427, 8, none⟩ = some (.slice none 0 0) := (blk_cell BK427.out 8).trans rfl; have hfz3_0 := blk_frozen BK427.out 0; have hfz3_1 := blk_frozen BK427.out 1; have hfz3_2 := blk_frozen BK427.out 2; have hfz3_3 := blk_frozen BK427.out 3; have hfz3_4 := blk_frozen BK427.out 4; have hfz3_5 := blk_frozen BK427.out 5; have hfz3_6 := blk_frozen BK427.out 6; have hfz3_7 := blk_frozen BK427.out 7; have hfz3_8 := blk_frozen BK427.out 8))
 go_loopg [4, 5] k (fun kq v4 v5 w' => ∃ (x4_1 : List ByteArray) (x5_1 : Int) (x428000_1 : ByteArray) (x428001_1 : ByteArray) (x428002_1 : Int) (x428003_1 : Bool) (x428004_1 : Int) (x428005_1 : Int) (x428006_1 : ByteArray) (x428007_1 : Int) (x428008_1 : List (S50)) (u428008 : Value), v5 = .int .i64 x5_1 ∧ Aside0 (brokerlaw46_HopsOnce.l0 kq l0 x4_1 x5_1 x428000_1 x428001_1 x428002_1 x428003_1 x428004_1 x428005_1 x428006_1 x428007_1 x428008_1 = some r) ∧ Aside0 (kq ≤ k) ∧ Aside0 (Kd.R Kd.string 9 w' w.heap.size (fun _ => True) v4 x4_1) ∧ Aside0 (Kd.R k50 50 w' w.heap.size (fun _ => True) u428008 x428008_1) ∧ Aside0 (w'.heap[gb427]? = some (.cells #[.string x428000_1, .string x428001_1, .int .i64 x428002_1, .bool x428003_1, .int .i64 x428004_1, .int .i64 x428005_1, .string x428006_1, .int .i64 x428007_1, u428008] 24 (0, 0))) ∧ Aside0 (Below w.heap.size w w'))
 case atStart => exact ⟨(([] : List ByteArray)), (0), ((⟨#[116]⟩ : ByteArray)), ((⟨#[]⟩ : ByteArray)), (0), (false), (0), (0), ((⟨#[]⟩ : ByteArray)), (0), (([] : List (S50))), (.slice none 0 0), (by first | rfl | (simp; done) | (simp [*]; done)), H', ⟨Nat.le_refl _⟩, ⟨by first | exact Kd.R_nil _ _ _ _ _ | exact Kd.N_nil _ _ _ _ _ | exact Kd.V_nil _ _ _ _ _ | exact Kd.Q_nil _ _ _ _ _ | exact Kd.S_nil _ _ _ _ _⟩, ⟨by first | exact Kd.R_nil _ _ _ _ _ | exact Kd.N_nil _ _ _ _ _ | exact Kd.V_nil _ _ _ _ _ | exact Kd.Q_nil _ _ _ _ _ | exact Kd.S_nil _ _ _ _ _⟩, ⟨by (with_reducible repeat (first | refine blk_drewN ?_ _ | refine blk_drew ?_ | refine blk_alloc ?_ _)); refine blk_put (cs := #[.string (⟨#[116]⟩ : ByteArray), .string (⟨#[]⟩ : ByteArray), .int .i64 0, .bool false, .int .i64 0, .int .i64 0, .string (⟨#[]⟩ : ByteArray), .int .i64 0, .slice none 0 0]) ?_ 8 _ rfl; (with_reducible repeat (first | refine blk_drewN ?_ _ | refine blk_drew ?_ | refine blk_alloc ?_ _)); refine blk_put (cs := #[.string (⟨#[116]⟩ : ByteArray), .string (⟨#[]⟩ : ByteArray), .int .i64 0, .bool false, .int .i64 0, .int .i64 0, .string (⟨#[]⟩ : ByteArray), .int .i64 0, .slice none 0 0]) ?_ 7 _ rfl; (with_reducible repeat (first | refine blk_drewN ?_ _ | refine blk_drew ?_ | refine blk_alloc ?_ _)); refine blk_put (cs := #[.string (⟨#[116]⟩ : ByteArray), .string (⟨#[]⟩ : ByteArray), .int .i64 0, .bool false, .int .i64 0, .int .i64 0, .string (⟨#[]⟩ : ByteArray), .int .i64 0, .slice none 0 0]) ?_ 6 _ rfl; (with_reducible repeat (first | refine blk_drewN ?_ _ | refine blk_drew ?_ | refine blk_alloc ?_ _)); refine blk_put (cs := #[.string (⟨#[116]⟩ : ByteArray), .string (⟨#[]⟩ : ByteArray), .int .i64 0, .bool false, .int .i64 0, .int .i64 0, .string (⟨#[]⟩ : ByteArray), .int .i64 0, .slice none 0 0]) ?_ 5 _ rfl; (with_reducible repeat (first | refine blk_drewN ?_ _ | refine blk_drew ?_ | refine blk_alloc ?_ _)); refine blk_put (cs := #[.string (⟨#[116]⟩ : ByteArray), .string (⟨#[]⟩ : ByteArray), .int .i64 0, .bool false, .int .i64 0, .int .i64 0, .string (⟨#[]⟩ : ByteArray), .int .i64 0, .slice none 0 0]) ?_ 4 _ rfl; (with_reducible repeat (first | refine blk_drewN ?_ _ | refine blk_drew ?_ | refine blk_alloc ?_ _)); refine blk_put (cs := #[.string (⟨#[116]⟩ : ByteArray), .string (⟨#[]⟩ : ByteArray), .int .i64 0, .bool false, .int .i64 0, .int .i64 0, .string (⟨#[]⟩ : ByteArray), .int .i64 0, .slice none 0 0]) ?_ 3 _ rfl; (with_reducible repeat (first | refine blk_drewN ?_ _ | refine blk_drew ?_ | refine blk_alloc ?_ _)); refine blk_put (cs := #[.string (⟨#[116]⟩ : ByteArray), .string (⟨#[]⟩ : ByteArray), .int .i64 0, .bool false, .int .i64 0, .int .i64 0, .string (⟨#[]⟩ : ByteArray), .int .i64 0, .slice none 0 0]) ?_ 2 _ rfl; (with_reducible repeat (first | refine blk_drewN ?_ _ | refine blk_drew ?_ | refine blk_alloc ?_ _)); refine blk_put (cs := #[.string (⟨#[116]⟩ : ByteArray), .string (⟨#[]⟩ : ByteArray), .int .i64 0, .bool false, .int .i64 0, .int .i64 0, .string (⟨#[]⟩ : ByteArray), .int .i64 0, .slice none 0 0]) ?_ 1 _ rfl; (with_reducible repeat (first | refine blk_drewN ?_ _ | refine blk_drew ?_ | refine blk_alloc ?_ _)); refine blk_put (cs := #[.string (⟨#[]⟩ : ByteArray), .string (⟨#[]⟩ : ByteArray), .int .i64 0, .bool false, .int .i64 0, .int .i64 0, .string (⟨#[]⟩ : ByteArray), .int .i64 0, .slice none 0 0]) ?_ 0 _ rfl; (with_reducible repeat (first | refine blk_drewN ?_ _ | refine blk_drew ?_ | refine blk_alloc ?_ _)); exact BK427.out⟩, ⟨by repeat (first | (with_reducible first | exact HB.out | apply below_alloc | apply pw_below_drewN | apply below_drew1 | refine below_set ?_ GE427.out) | exact HB.out)⟩⟩
 case round =>
  clear H'
  try clear p2
  try clear hcz3_0
  try clear hcz3_1
  try clear hcz3_2
  try clear hcz3_3
  try clear hcz3_4
  try clear hcz3_5
  try clear hcz3_6
  try clear hcz3_7
  try clear hcz3_8
  try clear hfz3_0
  try clear hfz3_1
  try clear hfz3_2
  try clear hfz3_3
  try clear hfz3_4
  try clear hfz3_5
  try clear hfz3_6
  try clear hfz3_7
  try clear hfz3_8
  obtain ⟨x4_1, x5_1, x428000_1, x428001_1, x428002_1, x428003_1, x428004_1, x428005_1, x428006_1, x428007_1, x428008_1, u428008, rfl, HA, HK1, HO_4, HO_428008, BK427, HB⟩ := hrel
  cases gk with
  | zero => exact absurd HA.out (by simp [brokerlaw46_HopsOnce.l0])
  | succ k1 =>
   have H := HA.out
   clear HA
   simp only [brokerlaw46_HopsOnce.l0] at H
   have HC4 := Aside0.mk H
   clear H
   go_upto_region 4 with (fail)
   go_cut [18] (fun v18 wc => ∃ (kq : Nat) (x18_3 : Bool), v18 = .bool x18_3 ∧ Aside0 (brokerlaw46_HopsOnce.j1 kq l0 x4_1 x5_1 x18_3 x428000_1 x428001_1 x428002_1 x428003_1 x428004_1 x428005_1 x428006_1 x428007_1 x428008_1 = some r) ∧ Aside0 (kq ≤ k1) ∧ Aside0 (Kd.R Kd.string 9 wc w.heap.size (fun _ => True) u4 x4_1) ∧ Aside0 (Kd.R k50 50 wc w.heap.size (fun _ => True) u428008 x428008_1) ∧ Aside0 (wc.heap[gb427]? = some (.cells #[.string x428000_1, .string x428001_1, .int .i64 x428002_1, .bool x428003_1, .int .i64 x428004_1, .int .i64 x428005_1, .string x428006_1, .int .i64 x428007_1, u428008] 24 (0, 0))) ∧ Aside0 (Below w.heap.size w wc))
   case first =>
    have H := HC4.out
    clear HC4
    by_cases c5 : x5_1 < (l0.length : Int)
    ·rw [if_pos c5] at H
     have c5b0 : decide (x5_1 < (l0.length : Int)) = true := decide_eq_true c5
     clear c5
     (first | rw [c5b0] | (simp only [i64_w, i32_w]; rw [c5b0]) | skip)
     have H' := Aside0.mk H
     clear H
     go_wp2
     go_meet
     case rel => exact ⟨_, (decide (x5_1 < 20)), (by first | rfl | (simp; done) | (simp [*]; done)), H', ⟨by have := HK1.out; first | omega | exact Nat.le_refl _⟩, ⟨by (with_reducible repeat (first | apply Kd.R_alloc | apply Kd.R_drewN | apply Kd.R_drew)); exact HO_4.out⟩, ⟨by (with_reducible repeat (first | apply Kd.R_alloc | apply Kd.R_drewN | apply Kd.R_drew)); exact HO_428008.out⟩, ⟨by (with_reducible repeat (first | refine blk_drewN ?_ _ | refine blk_drew ?_ | refine blk_alloc ?_ _)); exact BK427.out⟩, ⟨by repeat (first | (with_reducible first | exact HB.out | apply below_alloc | apply pw_below_drewN | apply below_drew1 | refine below_set ?_ GE427.out) | exact HB.out)⟩⟩
    ·rw [if_neg c5] at H
     have c5b0 : decide (x5_1 < (l0.length : Int)) = false := decide_eq_false c5
     clear c5
     (first | rw [c5b0] | (simp only [i64_w, i32_w]; rw [c5b0]) | skip)
     have H' := Aside0.mk H
     clear H
     go_wp2
     go_meet
     case rel => exact ⟨_, (false), (by first | rfl | (simp; done) | (simp [*]; done)), H', ⟨by have := HK1.out; first | omega | exact Nat.le_refl _⟩, ⟨by (with_reducible repeat (first | apply Kd.R_alloc | apply Kd.R_drewN | apply Kd.R_drew)); exact HO_4.out⟩, ⟨by (with_reducible repeat (first | apply Kd.R_alloc | apply Kd.R_drewN | apply Kd.R_drew)); exact HO_428008.out⟩, ⟨by (with_reducible repeat (first | refine blk_drewN ?_ _ | refine blk_drew ?_ | refine blk_alloc ?_ _)); exact BK427.out⟩, ⟨by repeat (first | (with_reducible first | exact HB.out | apply below_alloc | apply pw_below_drewN | apply below_drew1 | refine below_set ?_ GE427.out) | exact HB.out)⟩⟩
   case rest =>
    clear HC4
    try clear p2
    try clear c5
    try clear c5b0
    try clear hcz3_0
    try clear hcz3_1
    try clear hcz3_2
    try clear hcz3_3
    try clear hcz3_4
    try clear hcz3_5
    try clear hcz3_6
    try clear hcz3_7
    try clear hcz3_8
    try clear hfz3_0
    try clear hfz3_1
    try clear hfz3_2
    try clear hfz3_3
    try clear hfz3_4
    try clear hfz3_5
    try clear hfz3_6
    try clear hfz3_7
    try clear hfz3_8
    try clear p2
    obtain ⟨kq, x18_3, rfl, HA, HJ3, HO_4, HO_428008, BK427, HB⟩ := hcut
    cases kq with
    | zero => exact absurd HA.out (by simp [brokerlaw46_HopsOnce.j1])
    | succ kj3 =>
     have H := HA.out
     clear HA
     simp only [brokerlaw46_HopsOnce.j1] at H
     by_cases c6 : x18_3 = true
     ·subst c6
      have H1 : (brokerlaw46_HopsOnce.l1 kj3 l0 x4_1 x5_1 false 0 x428000_1 x428001_1 x428002_1 x428003_1 x428004_1 x428005_1 x428006_1 x428007_1 x428008_1) = some r := by rw [if_pos rfl] at H; exact H
      clear H
      have H := H1
      clear H1
      have H' := Aside0.mk H
      clear H
      go_wp2
      go_loopg [6, 7] kj3 (fun kq v6 v7 w' => ∃ (x6_3 : Bool) (x7_3 : Int), v6 = .bool x6_3 ∧ v7 = .int .i64 x7_3 ∧ Aside0 (brokerlaw46_HopsOnce.l1 kq l0 x4_1 x5_1 x6_3 x7_3 x428000_1 x428001_1 x428002_1 x428003_1 x428004_1 x428005_1 x428006_1 x428007_1 x428008_1 = some r) ∧ Aside0 (kq ≤ kj3) ∧ Aside0 (Kd.R Kd.string 9 w' w.heap.size (fun _ => True) u4 x4_1) ∧ Aside0 (Kd.R k50 50 w' w.heap.size (fun _ => True) u428008 x428008_1) ∧ Aside0 (w'.heap[gb427]? = some (.cells #[.string x428000_1, .string x428001_1, .int .i64 x428002_1, .bool x428003_1, .int .i64 x428004_1, .int .i64 x428005_1, .string x428006_1, .int .i64 x428007_1, u428008] 24 (0, 0))) ∧ Aside0 (Below w.heap.size w w'))
      case atStart => exact ⟨(false), (0), (by first | rfl | (simp; done) | (simp [*]; done)), (by first | rfl | (simp; done) | (simp [*]; done)), H', ⟨Nat.le_refl _⟩, ⟨by (with_reducible repeat (first | apply Kd.R_alloc | apply Kd.R_drewN | apply Kd.R_drew)); exact HO_4.out⟩, ⟨by (with_reducible repeat (first | apply Kd.R_alloc | apply Kd.R_drewN | apply Kd.R_drew)); exact HO_428008.out⟩, ⟨by (with_reducible repeat (first | refine blk_drewN ?_ _ | refine blk_drew ?_ | refine blk_alloc ?_ _)); exact BK427.out⟩, ⟨by repeat (first | (with_reducible first | exact HB.out | apply below_alloc | apply pw_below_drewN | apply below_drew1 | refine below_set ?_ GE427.out) | exact HB.out)⟩⟩
      case round =>
       clear H'
       try clear p2
       try clear c5
       try clear c5b0
       try clear c6
       try clear hcz3_0
       try clear hcz3_1
       try clear hcz3_2
       try clear hcz3_3
       try clear hcz3_4
       try clear hcz3_5
       try clear hcz3_6
       try clear hcz3_7
       try clear hcz3_8
       try clear hfz3_0
       try clear hfz3_1
       try clear hfz3_2
       try clear hfz3_3
       try clear hfz3_4
       try clear hfz3_5
       try clear hfz3_6
       try clear hfz3_7
       try clear hfz3_8
       try clear p2
       obtain ⟨x6_3, x7_3, rfl, rfl, HA, HK3, HO_4, HO_428008, BK427, HB⟩ := hrel
       cases gk with
       | zero => exact absurd HA.out (by simp [brokerlaw46_HopsOnce.l1])
       | succ k3 =>
        have H := HA.out
        clear HA
        simp only [brokerlaw46_HopsOnce.l1] at H
        by_cases c7 : x7_3 < (x4_1.length : Int)
        ·rw [if_pos c7] at H
         have c7b0 : decide (x7_3 < (x4_1.length : Int)) = true := decide_eq_true c7
         clear c7
         by_cases c8 : x6_3 = true
         ·subst c8
          have H1 : (brokerlaw46_HopsOnce.l1 k3 l0 x4_1 x5_1 true (wrap64 (x7_3 + 1)) x428000_1 x428001_1 x428002_1 x428003_1 x428004_1 x428005_1 x428006_1 x428007_1 x428008_1) = some r := by rw [if_pos rfl] at H; exact H
          clear H
          have H := H1
          clear H1
          have H' := Aside0.mk H
          clear H
          obtain ⟨Ao9, co9, eo9⟩ := Kd.R_slice HO_4.out
          subst eo9
          try go_wp2
          have n0_ := Aside0.mk (Kd.R_drew HO_4.out)
          have n1_ := Aside0.mk (Kd.R_drew HO_428008.out)
          have n2_ := Aside0.mk (blk_drew BK427.out)
          have n3_ := Aside0.mk (below_drew1 HB.out)
          clear HO_4
          clear HO_428008
          clear BK427
          clear HB
          have HO_4 := n0_
          have HO_428008 := n1_
          have BK427 := n2_
          have HB := n3_
          clear n0_ n1_ n2_ n3_
          refine start_ (n := 13) (S := fun w' => True) (ds := []) #[false, false, false, false, false, false, false, false, false, false, false, false, false] (by kernel_rfl) rfl rfl trivial (fun hHeld => ?_); refine with_tabW brokerlaw46_HopsOnce.tab10 brokerlaw46_HopsOnce.bits10 (fun HT_ HW_ => ?_)
          generalize wr.drew = w10 at HO_4 HO_428008 BK427 HB hHeld ⊢
          refine pure_ (i := 0) (N := some 27) (v := ?_) (a' := ?_) #[true, false, false, false, false, false, false, false, false, false, false, false, false] rfl rfl (any_of HT_.out (by kernel_rfl)) (fun _ _ _ h => h) (Or.inl ⟨by rfl, ?_⟩) ?_ ?_
          rotate_left
          ·intro w'
           go_simp
           with_reducible rfl
          rotate_left
          ·simp only [Act.put, List.setIfInBounds_toArray, List.set_cons_zero, List.set_cons_succ, i64_w, i32_w]
           rfl
          refine pure_ (i := 1) (N := some 28) (v := ?_) (a' := ?_) #[true, true, false, false, false, false, false, false, false, false, false, false, false] rfl rfl (any_of HT_.out (by kernel_rfl)) (fun _ _ _ h => h) (Or.inl ⟨by rfl, ?_⟩) ?_ ?_
          rotate_left
          ·intro w'
           go_simp
           with_reducible rfl
          rotate_left
          ·simp only [Act.put, List.setIfInBounds_toArray, List.set_cons_zero, List.set_cons_succ, i64_w, i32_w]
           rfl
          refine pure_ (i := 2) (N := some 29) (v := undef) (a' := ?_) #[true, true, true, false, false, false, false, false, false, false, false, false, false] rfl rfl (any_of HT_.out (by kernel_rfl)) (fun _ _ _ h => h) (Or.inr ⟨by rfl, rfl⟩) ?_ ?_
          rotate_left
          ·simp only [Act.put, List.setIfInBounds_toArray, List.set_cons_zero, List.set_cons_succ, i64_w, i32_w]
           rfl
          refine pure_ (i := 3) (N := some 30) (v := undef) (a' := ?_) #[true, true, true, true, false, false, false, false, false, false, false, false, false] rfl rfl (any_of HT_.out (by kernel_rfl)) (fun _ _ _ h => h) (Or.inr ⟨by rfl, rfl⟩) ?_ ?_
          rotate_left
          ·simp only [Act.put, List.setIfInBounds_toArray, List.set_cons_zero, List.set_cons_succ, i64_w, i32_w]
           rfl
          refine pure_ (i := 4) (N := some 31) (v := undef) (a' := ?_) #[true, true, true, true, true, false, false, false, false, false, false, false, false] rfl rfl (any_of HT_.out (by kernel_rfl)) (fun _ _ _ h => h) (Or.inr ⟨by rfl, rfl⟩) ?_ ?_
          rotate_left
          ·simp only [Act.put, List.setIfInBounds_toArray, List.set_cons_zero, List.set_cons_succ, i64_w, i32_w]
           rfl
          refine pure_ (i := 5) (N := some 32) (v := undef) (a' := ?_) #[true, true, true, true, true, true, false, false, false, false, false, false, false] rfl rfl (any_of HT_.out (by kernel_rfl)) (fun _ _ _ h => h) (Or.inr ⟨by rfl, rfl⟩) ?_ ?_
          rotate_left
          ·simp only [Act.put, List.setIfInBounds_toArray, List.set_cons_zero, List.set_cons_succ, i64_w, i32_w]
           rfl
          refine pure_ (i := 6) (N := some 33) (v := undef) (a' := ?_) #[true, true, true, true, true, true, true, false, false, false, false, false, false] rfl rfl (any_of HT_.out (by kernel_rfl)) (fun _ _ _ h => h) (Or.inr ⟨by rfl, rfl⟩) ?_ ?_
          rotate_left
          ·simp only [Act.put, List.setIfInBounds_toArray, List.set_cons_zero, List.set_cons_succ, i64_w, i32_w]
           rfl
          refine pure_ (i := 7) (N := some 34) (v := undef) (a' := ?_) #[true, true, true, true, true, true, true, true, false, false, false, false, false] rfl rfl (any_of HT_.out (by kernel_rfl)) (fun _ _ _ h => h) (Or.inr ⟨by rfl, rfl⟩) ?_ ?_
          rotate_left
          ·simp only [Act.put, List.setIfInBounds_toArray, List.set_cons_zero, List.set_cons_succ, i64_w, i32_w]
           rfl
          refine pure_ (i := 8) (N := some 35) (v := undef) (a' := ?_) #[true, true, true, true, true, true, true, true, true, false, false, false, false] rfl rfl (any_of HT_.out (by kernel_rfl)) (fun _ _ _ h => h) (Or.inr ⟨by rfl, rfl⟩) ?_ ?_
          rotate_left
          ·simp only [Act.put, List.setIfInBounds_toArray, List.set_cons_zero, List.set_cons_succ, i64_w, i32_w]
           rfl
          refine pure_ (i := 9) (N := some 36) (v := undef) (a' := ?_) #[true, true, true, true, true, true, true, true, true, true, false, false, false] rfl rfl (any_of HT_.out (by kernel_rfl)) (fun _ _ _ h => h) (Or.inr ⟨by rfl, rfl⟩) ?_ ?_
          rotate_left
          ·simp only [Act.put, List.setIfInBounds_toArray, List.set_cons_zero, List.set_cons_succ, i64_w, i32_w]
           rfl
          refine pure_ (i := 10) (N := some 37) (v := undef) (a' := ?_) #[true, true, true, true, true, true, true, true, true, true, true, false, false] rfl rfl (any_of HT_.out (by kernel_rfl)) (fun _ _ _ h => h) (Or.inr ⟨by rfl, rfl⟩) ?_ ?_
          rotate_left
          ·simp only [Act.put, List.setIfInBounds_toArray, List.set_cons_zero, List.set_cons_succ, i64_w, i32_w]
           rfl
          refine pure_ (i := 11) (N := some 38) (v := ?_) (a' := ?_) #[true, true, true, true, true, true, true, true, true, true, true, true, false] rfl rfl (any_of HT_.out (by kernel_rfl)) (fun _ _ _ h => h) (Or.inl ⟨by rfl, ?_⟩) ?_ ?_
          rotate_left
          ·intro w'
           go_simp
           with_reducible rfl
          rotate_left
          ·simp only [Act.put, List.setIfInBounds_toArray, List.set_cons_zero, List.set_cons_succ, i64_w, i32_w]
           rfl
          refine pure_ (i := 12) (N := some 6) (v := ?_) (a' := ?_) #[true, true, true, true, true, true, true, true, true, true, true, true, true] rfl rfl (any_of HT_.out (by kernel_rfl)) (fun _ _ _ h => h) (Or.inl ⟨by rfl, ?_⟩) ?_ ?_
          rotate_left
          ·intro w'
           go_simp
           with_reducible rfl
          rotate_left
          ·simp only [Act.put, List.setIfInBounds_toArray, List.set_cons_zero, List.set_cons_succ, i64_w, i32_w]
           rfl
          refine done_ (done_of HT_.out (by kernel_rfl)) ?_
          try go_wp2
          go_roundg k3
          case measure => have := HK1.out; have := HJ3.out; have := HK3.out; omega
          case rel => exact ⟨(true), (wrap64 (x7_3 + 1)), (by first | rfl | (simp; done) | (simp [*]; done)), (by first | rfl | (simp; done) | (simp [*]; done)), H', ⟨by have := HK1.out; have := HJ3.out; have := HK3.out; omega⟩, ⟨by (with_reducible repeat (first | apply Kd.R_alloc | apply Kd.R_drewN | apply Kd.R_drew)); exact HO_4.out⟩, ⟨by (with_reducible repeat (first | apply Kd.R_alloc | apply Kd.R_drewN | apply Kd.R_drew)); exact HO_428008.out⟩, ⟨by (with_reducible repeat (first | refine blk_drewN ?_ _ | refine blk_drew ?_ | refine blk_alloc ?_ _)); exact BK427.out⟩, ⟨by repeat (first | (with_reducible first | exact HB.out | apply below_alloc | apply pw_below_drewN | apply below_drew1 | refine below_set ?_ GE427.out) | exact HB.out)⟩⟩
         ·replace c8 := Bool.eq_false_iff.mpr c8
          subst c8
          have H1 : (if 0 ≤ x7_3 then (if 0 ≤ x5_1 then (if x5_1 < (l0.length : Int) then (brokerlaw46_HopsOnce.l1 k3 l0 x4_1 x5_1 ((rdOf ByteArray.empty x4_1 x7_3).toList == (rdOf ByteArray.empty l0 x5_1).toList) (wrap64 (x7_3 + 1)) x428000_1 x428001_1 x428002_1 x428003_1 x428004_1 x428005_1 x428006_1 x428007_1 x428008_1) else (none)) else (none)) else (none)) = some r := by rw [if_neg (show ¬ (false = true) by decide)] at H; exact H
          clear H
          have H := H1
          clear H1
          by_cases c11 : 0 ≤ x7_3
          ·rw [if_pos c11] at H
           have c11b0 : decide (0 ≤ x7_3) = true := decide_eq_true c11
           clear c11
           by_cases c12 : 0 ≤ x5_1
           ·rw [if_pos c12] at H
            have c12b0 : decide (0 ≤ x5_1) = true := decide_eq_true c12
            clear c12
            by_cases c13 : x5_1 < (l0.length : Int)
            ·rw [if_pos c13] at H
             have c13b0 : decide (x5_1 < (l0.length : Int)) = true := decide_eq_true c13
             clear c13
             have H' := Aside0.mk H
             clear H
             obtain ⟨Ao14, co14, eo14⟩ := Kd.R_slice HO_4.out
             subst eo14
             try go_wp2
             have n0_ := Aside0.mk (Kd.R_drew HO_4.out)
             have n1_ := Aside0.mk (Kd.R_drew HO_428008.out)
             have n2_ := Aside0.mk (blk_drew BK427.out)
             have n3_ := Aside0.mk (below_drew1 HB.out)
             clear HO_4
             clear HO_428008
             clear BK427
             clear HB
             have HO_4 := n0_
             have HO_428008 := n1_
             have BK427 := n2_
             have HB := n3_
             clear n0_ n1_ n2_ n3_
             have p429 : 0 ≤ (x7_3 : Int) := of_decide_eq_true (by first | (with_reducible assumption) | assumption)
             have q429 : x7_3 < (x4_1.length : Int) := of_decide_eq_true (by first | (with_reducible assumption) | assumption)
             obtain ⟨ad429, e429, hx429_0⟩ := Kd.at_string (Kd.R_reads' HO_4.out).2.2 x7_3 p429 q429
             cases e429
             replace p429 := eq_true p429
             replace q429 := eq_true q429
             have p430 : 0 ≤ (x5_1 : Int) := of_decide_eq_true (by first | (with_reducible assumption) | assumption)
             have q430 : x5_1 < (l0.length : Int) := of_decide_eq_true (by first | (with_reducible assumption) | assumption)
             obtain ⟨ad430, e430, hx430_0⟩ := Kd.at_string HR0.out x5_1 p430 q430
             have hw430_0 := hx430_0
             cases e430
             replace hx430_0 := (HB.out.cell (World.block_lt_of_cell? w _ hx430_0)).trans hx430_0
             replace p430 := eq_true p430
             replace q430 := eq_true q430
             refine start_ (n := 13) (S := fun w' => w'.cell? (ad429.add (x7_3).toNat) = some (.string (rdOf ByteArray.empty x4_1 x7_3)) ∧ w'.cell? (ad430.add (x5_1).toNat) = some (.string (rdOf ByteArray.empty l0 x5_1))) (ds := []) #[false, false, false, false, false, false, false, false, false, false, false, false, false] (by kernel_rfl) rfl rfl ⟨hx429_0, ((HB.out.cell (World.block_lt_of_cell? w _ hw430_0)).trans hw430_0)⟩ (fun hHeld => ?_); refine with_tabW brokerlaw46_HopsOnce.tab10 brokerlaw46_HopsOnce.bits10 (fun HT_ HW_ => ?_)
             generalize wr.drew = w15 at HO_4 HO_428008 BK427 HB hx429_0 hx430_0 hHeld ⊢
             refine pure_ (i := 0) (N := some 27) (v := ?_) (a' := ?_) #[true, false, false, false, false, false, false, false, false, false, false, false, false] rfl rfl (any_of HT_.out (by kernel_rfl)) (fun _ _ _ h => h) (Or.inl ⟨by rfl, ?_⟩) ?_ ?_
             rotate_left
             ·intro w'
              go_simp
              with_reducible rfl
             rotate_left
             ·simp only [Act.put, List.setIfInBounds_toArray, List.set_cons_zero, List.set_cons_succ, i64_w, i32_w]
              rfl
             refine pure_ (i := 1) (N := some 28) (v := ?_) (a' := ?_) #[true, true, false, false, false, false, false, false, false, false, false, false, false] rfl rfl (any_of HT_.out (by kernel_rfl)) (fun _ _ _ h => h) (Or.inl ⟨by rfl, ?_⟩) ?_ ?_
             rotate_left
             ·intro w'
              go_simp
              with_reducible rfl
             rotate_left
             ·simp only [Act.put, List.setIfInBounds_toArray, List.set_cons_zero, List.set_cons_succ, i64_w, i32_w]
              rfl
             refine pure_ (i := 2) (N := some 29) (v := ?_) (a' := ?_) #[true, true, true, false, false, false, false, false, false, false, false, false, false] rfl rfl (any_of HT_.out (by kernel_rfl)) (fun _ _ _ h => h) (Or.inl ⟨by rfl, ?_⟩) ?_ ?_
             rotate_left
             ·intro w'
              go_simp
              with_reducible rfl
             rotate_left
             ·simp only [Act.put, List.setIfInBounds_toArray, List.set_cons_zero, List.set_cons_succ, i64_w, i32_w]
              rfl
             refine pure_ (i := 3) (N := some 30) (v := ?_) (a' := ?_) #[true, true, true, true, false, false, false, false, false, false, false, false, false] rfl rfl (any_of HT_.out (by kernel_rfl)) (fun _ _ _ h => h) (Or.inl ⟨by rfl, ?_⟩) ?_ ?_
             rotate_left
             ·intro w'
              go_simp
              with_reducible rfl
             rotate_left
             ·simp only [Act.put, List.setIfInBounds_toArray, List.set_cons_zero, List.set_cons_succ, i64_w, i32_w]
              rfl
             refine pure_ (i := 4) (N := some 31) (v := ?_) (a' := ?_) #[true, true, true, true, true, false, false, false, false, false, false, false, false] rfl rfl (any_of HT_.out (by kernel_rfl)) (fun _ _ _ h => h) (Or.inl ⟨by rfl, ?_⟩) ?_ ?_
             rotate_left
             ·intro w'
              go_simp
              with_reducible rfl
             rotate_left
             ·simp only [Act.put, List.setIfInBounds_toArray, List.set_cons_zero, List.set_cons_succ, i64_w, i32_w]
              rfl
             refine pure_ (i := 6) (N := some 33) (v := ?_) (a' := ?_) #[true, true, true, true, true, false, true, false, false, false, false, false, false] rfl rfl (any_of HT_.out (by kernel_rfl)) (fun _ _ _ h => h) (Or.inl ⟨by rfl, ?_⟩) ?_ ?_
             rotate_left
             ·intro w'
              go_simp
              with_reducible rfl
             rotate_left
             ·simp only [Act.put, List.setIfInBounds_toArray, List.set_cons_zero, List.set_cons_succ, i64_w, i32_w]
              rfl
             refine pure_ (i := 7) (N := some 34) (v := ?_) (a' := ?_) #[true, true, true, true, true, false, true, true, false, false, false, false, false] rfl rfl (any_of HT_.out (by kernel_rfl)) (fun _ _ _ h => h) (Or.inl ⟨by rfl, ?_⟩) ?_ ?_
             rotate_left
             ·intro w'
              go_simp
              with_reducible rfl
             rotate_left
             ·simp only [Act.put, List.setIfInBounds_toArray, List.set_cons_zero, List.set_cons_succ, i64_w, i32_w]
              rfl
             refine pure_ (i := 8) (N := some 35) (v := ?_) (a' := ?_) #[true, true, true, true, true, false, true, true, true, false, false, false, false] rfl rfl (any_of HT_.out (by kernel_rfl)) (fun _ _ _ h => h) (Or.inl ⟨by rfl, ?_⟩) ?_ ?_
             rotate_left
             ·intro w'
              go_simp
              with_reducible rfl
             rotate_left
             ·simp only [Act.put, List.setIfInBounds_toArray, List.set_cons_zero, List.set_cons_succ, i64_w, i32_w]
              rfl
             refine take_ (i := 5) (N := some 32) (v := ?_) (a' := ?_) #[true, true, true, true, true, true, true, true, true, false, false, false, false] rfl rfl (take_ofW HT_.out HW_.out (by kernel_rfl)) (fun _ _ _ h => h) (Or.inl ⟨by rfl, ?_⟩) hHeld ?_ ?_
             rotate_left
             ·rintro w' ⟨s0, s1⟩
              go_simp
              with_reducible rfl
             rotate_left
             ·simp only [Act.put, List.setIfInBounds_toArray, List.set_cons_zero, List.set_cons_succ, i64_w, i32_w]
              rfl
             refine take_ (i := 9) (N := some 36) (v := ?_) (a' := ?_) #[true, true, true, true, true, true, true, true, true, true, false, false, false] rfl rfl (take_ofW HT_.out HW_.out (by kernel_rfl)) (fun _ _ _ h => h) (Or.inl ⟨by rfl, ?_⟩) hHeld ?_ ?_
             rotate_left
             ·rintro w' ⟨s0, s1⟩
              go_simp
              with_reducible rfl
             rotate_left
             ·simp only [Act.put, List.setIfInBounds_toArray, List.set_cons_zero, List.set_cons_succ, i64_w, i32_w]
              rfl
             refine pure_ (i := 10) (N := some 37) (v := ?_) (a' := ?_) #[true, true, true, true, true, true, true, true, true, true, true, false, false] rfl rfl (any_of HT_.out (by kernel_rfl)) (fun _ _ _ h => h) (Or.inl ⟨by rfl, ?_⟩) ?_ ?_
             rotate_left
             ·intro w'
              go_simp
              with_reducible rfl
             rotate_left
             ·simp only [Act.put, List.setIfInBounds_toArray, List.set_cons_zero, List.set_cons_succ, i64_w, i32_w]
              rfl
             refine pure_ (i := 11) (N := some 38) (v := ?_) (a' := ?_) #[true, true, true, true, true, true, true, true, true, true, true, true, false] rfl rfl (any_of HT_.out (by kernel_rfl)) (fun _ _ _ h => h) (Or.inl ⟨by rfl, ?_⟩) ?_ ?_
             rotate_left
             ·intro w'
              go_simp
              with_reducible rfl
             rotate_left
             ·simp only [Act.put, List.setIfInBounds_toArray, List.set_cons_zero, List.set_cons_succ, i64_w, i32_w]
              rfl
             refine pure_ (i := 12) (N := some 6) (v := ?_) (a' := ?_) #[true, true, true, true, true, true, true, true, true, true, true, true, true] rfl rfl (any_of HT_.out (by kernel_rfl)) (fun _ _ _ h => h) (Or.inl ⟨by rfl, ?_⟩) ?_ ?_
             rotate_left
             ·intro w'
              go_simp
              with_reducible rfl
             rotate_left
             ·simp only [Act.put, List.setIfInBounds_toArray, List.set_cons_zero, List.set_cons_succ, i64_w, i32_w]
              rfl
             refine done_ (done_of HT_.out (by kernel_rfl)) ?_
             try go_wp2
             go_roundg k3
             case measure => have := HK1.out; have := HJ3.out; have := HK3.out; omega
             case rel => exact ⟨(((rdOf ByteArray.empty x4_1 x7_3).toList == (rdOf ByteArray.empty l0 x5_1).toList)), (wrap64 (x7_3 + 1)), (by first | rfl | (simp; done) | (simp [*]; done)), (by first | rfl | (simp; done) | (simp [*]; done)), H', ⟨by have := HK1.out; have := HJ3.out; have := HK3.out; omega⟩, ⟨by (with_reducible repeat (first | apply Kd.R_alloc | apply Kd.R_drewN | apply Kd.R_drew)); exact HO_4.out⟩, ⟨by (with_reducible repeat (first | apply Kd.R_alloc | apply Kd.R_drewN | apply Kd.R_drew)); exact HO_428008.out⟩, ⟨by (with_reducible repeat (first | refine blk_drewN ?_ _ | refine blk_drew ?_ | refine blk_alloc ?_ _)); exact BK427.out⟩, ⟨by repeat (first | (with_reducible first | exact HB.out | apply below_alloc | apply pw_below_drewN | apply below_drew1 | refine below_set ?_ GE427.out) | exact HB.out)⟩⟩
            ·rw [if_neg c13] at H
             exact absurd H (by simp)
           ·rw [if_neg c12] at H
            exact absurd H (by simp)
          ·rw [if_neg c11] at H
           exact absurd H (by simp)
        ·rw [if_neg c7] at H
         have c7b0 : decide (x7_3 < (x4_1.length : Int)) = false := decide_eq_false c7
         clear c7
         by_cases c16 : 0 ≤ x5_1
         ·rw [if_pos c16] at H
          have c16b0 : decide (0 ≤ x5_1) = true := decide_eq_true c16
          clear c16
          by_cases c17 : x5_1 < (l0.length : Int)
          ·rw [if_pos c17] at H
           have c17b0 : decide (x5_1 < (l0.length : Int)) = true := decide_eq_true c17
           clear c17
           replace H := Option.bind_eq_some_iff.mp H
           obtain ⟨⟨t432, t433, t434, t435, t436, t437, t438, t439, t440, t443⟩, A180, H⟩ := H
           replace H : ((brokerref01_Name.f k3 (rdOf ByteArray.empty l0 x5_1)).bind fun t446 => (if t446 = true then (if x6_3 = true then (brokerlaw46_HopsOnce.j3 k3 l0 x4_1 x5_1 t443 true x428000_1 x428001_1 x428002_1 x428003_1 x428004_1 x428005_1 x428006_1 x428007_1 x428008_1 t432 t433 t434 t435 t436 t437 t438 t439 t440) else (brokerlaw46_HopsOnce.j3 k3 l0 x4_1 x5_1 t443 (decide ((x4_1.length : Int) ≥ 8)) x428000_1 x428001_1 x428002_1 x428003_1 x428004_1 x428005_1 x428006_1 x428007_1 x428008_1 t432 t433 t434 t435 t436 t437 t438 t439 t440)) else (if t443 = 11 then (brokerlaw46_HopsOnce.j4 k3 l0 x4_1 x5_1 x428000_1 x428001_1 x428002_1 x428003_1 x428004_1 x428005_1 x428006_1 x428007_1 x428008_1) else (none)))) = some r := H
           have A18 := Aside0.mk A180
           clear A180
           have HC19 := Aside0.mk H
           clear H
           obtain ⟨Ao20, co20, eo20⟩ := Kd.R_slice HO_4.out
           subst eo20
           obtain ⟨Ao21, co21, eo21⟩ := Kd.R_slice HO_428008.out
           subst eo21
           try go_wp2
           have n0_ := Aside0.mk (Kd.R_drew HO_4.out)
           have n1_ := Aside0.mk (Kd.R_drew HO_428008.out)
           have n2_ := Aside0.mk (blk_drew BK427.out)
           have n3_ := Aside0.mk (below_drew1 HB.out)
           clear HO_4
           clear HO_428008
           clear BK427
           clear HB
           have HO_4 := n0_
           have HO_428008 := n1_
           have BK427 := n2_
           have HB := n3_
           clear n0_ n1_ n2_ n3_
           have p431 : 0 ≤ (x5_1 : Int) := of_decide_eq_true (by first | (with_reducible assumption) | assumption)
           have q431 : x5_1 < (l0.length : Int) := of_decide_eq_true (by first | (with_reducible assumption) | assumption)
           obtain ⟨ad431, e431, hx431_0⟩ := Kd.at_string HR0.out x5_1 p431 q431
           have hw431_0 := hx431_0
           cases e431
           replace hx431_0 := (HB.out.cell (World.block_lt_of_cell? w _ hx431_0)).trans hx431_0
           replace p431 := eq_true p431
           replace q431 := eq_true q431
           refine start_ (n := 12) (S := fun w' => w'.cell? ⟨gb427, 0, none⟩ = some (.string x428000_1) ∧ w'.cell? ⟨gb427, 1, none⟩ = some (.string x428001_1) ∧ w'.cell? ⟨gb427, 2, none⟩ = some (.int .i64 x428002_1) ∧ w'.cell? ⟨gb427, 3, none⟩ = some (.bool x428003_1) ∧ w'.cell? ⟨gb427, 4, none⟩ = some (.int .i64 x428004_1) ∧ w'.cell? ⟨gb427, 5, none⟩ = some (.int .i64 x428005_1) ∧ w'.cell? ⟨gb427, 6, none⟩ = some (.string x428006_1) ∧ w'.cell? ⟨gb427, 7, none⟩ = some (.int .i64 x428007_1) ∧ w'.cell? ⟨gb427, 8, none⟩ = some (.slice Ao21 x428008_1.length co21) ∧ w'.cell? (ad431.add (x5_1).toNat) = some (.string (rdOf ByteArray.empty l0 x5_1))) (ds := []) #[false, false, false, false, false, false, false, false, false, false, false, false] (by kernel_rfl) rfl rfl ⟨(blk_cell BK427.out 0).trans rfl, (blk_cell BK427.out 1).trans rfl, (blk_cell BK427.out 2).trans rfl, (blk_cell BK427.out 3).trans rfl, (blk_cell BK427.out 4).trans rfl, (blk_cell BK427.out 5).trans rfl, (blk_cell BK427.out 6).trans rfl, (blk_cell BK427.out 7).trans rfl, (blk_cell BK427.out 8).trans rfl, ((HB.out.cell (World.block_lt_of_cell? w _ hw431_0)).trans hw431_0)⟩ (fun hHeld => ?_); refine with_tabW brokerlaw46_HopsOnce.tab11 brokerlaw46_HopsOnce.bits11 (fun HT_ HW_ => ?_)
           generalize wr.drew = w22 at HO_4 HO_428008 BK427 HB hx431_0 hHeld ⊢
           refine pure_ (i := 1) (N := some 41) (v := ?_) (a' := ?_) #[false, true, false, false, false, false, false, false, false, false, false, false] rfl rfl (any_of HT_.out (by kernel_rfl)) (fun _ _ _ h => h) (Or.inl ⟨by rfl, ?_⟩) ?_ ?_
           rotate_left
           ·intro w'
            go_simp
            with_reducible rfl
           rotate_left
           ·simp only [Act.put, List.setIfInBounds_toArray, List.set_cons_zero, List.set_cons_succ, i64_w, i32_w]
            rfl
           refine pure_ (i := 2) (N := some 42) (v := ?_) (a' := ?_) #[false, true, true, false, false, false, false, false, false, false, false, false] rfl rfl (any_of HT_.out (by kernel_rfl)) (fun _ _ _ h => h) (Or.inl ⟨by rfl, ?_⟩) ?_ ?_
           rotate_left
           ·intro w'
            go_simp
            with_reducible rfl
           rotate_left
           ·simp only [Act.put, List.setIfInBounds_toArray, List.set_cons_zero, List.set_cons_succ, i64_w, i32_w]
            rfl
           refine pure_ (i := 3) (N := some 43) (v := ?_) (a' := ?_) #[false, true, true, true, false, false, false, false, false, false, false, false] rfl rfl (any_of HT_.out (by kernel_rfl)) (fun _ _ _ h => h) (Or.inl ⟨by rfl, ?_⟩) ?_ ?_
           rotate_left
           ·intro w'
            go_simp
            with_reducible rfl
           rotate_left
           ·simp only [Act.put, List.setIfInBounds_toArray, List.set_cons_zero, List.set_cons_succ, i64_w, i32_w]
            rfl
           refine take_ (i := 0) (N := some 40) (v := ?_) (a' := ?_) #[true, true, true, true, false, false, false, false, false, false, false, false] rfl rfl (take_ofW HT_.out HW_.out (by kernel_rfl)) (fun _ _ _ h => h) (Or.inl ⟨by rfl, ?_⟩) hHeld ?_ ?_
           rotate_left
           ·rintro w' ⟨s0, s1, s2, s3, s4, s5, s6, s7, s8, s9⟩
            go_simp
            with_reducible rfl
           rotate_left
           ·simp only [Act.put, List.setIfInBounds_toArray, List.set_cons_zero, List.set_cons_succ, i64_w, i32_w]
            rfl
           refine take_ (i := 4) (N := some 44) (v := ?_) (a' := ?_) #[true, true, true, true, true, false, false, false, false, false, false, false] rfl rfl (take_ofW HT_.out HW_.out (by kernel_rfl)) (fun _ _ _ h => h) (Or.inl ⟨by rfl, ?_⟩) hHeld ?_ ?_
           rotate_left
           ·rintro w' ⟨s0, s1, s2, s3, s4, s5, s6, s7, s8, s9⟩
            go_simp
            with_reducible rfl
           rotate_left
           ·simp only [Act.put, List.setIfInBounds_toArray, List.set_cons_zero, List.set_cons_succ, i64_w, i32_w]
            rfl
           refine join_ (σ := Value × Nat) 2 #[true, true, true, true, true, true, true, true, true, true, false, false] (fun s_ => [(45, .tuple #[.agg #[.string t432, .string t433, .int .i64 t434, .bool t435, .int .i64 t436, .int .i64 t437, .string t438, .int .i64 t439, s_.1], .int .i64 t443]), (8, .pointer (some ⟨s_.2, 0, none⟩)), (39, .tuple #[.agg #[.string t432, .string t433, .int .i64 t434, .bool t435, .int .i64 t436, .int .i64 t437, .string t438, .int .i64 t439, s_.1], .int .i64 t443]), (46, .agg #[.string t432, .string t433, .int .i64 t434, .bool t435, .int .i64 t436, .int .i64 t437, .string t438, .int .i64 t439, s_.1]), (47, .int .i64 t443)]) (fun s_ w' => (w'.cell? ⟨gb427, 0, none⟩ = some (.string x428000_1) ∧ w'.cell? ⟨gb427, 1, none⟩ = some (.string x428001_1) ∧ w'.cell? ⟨gb427, 2, none⟩ = some (.int .i64 x428002_1) ∧ w'.cell? ⟨gb427, 3, none⟩ = some (.bool x428003_1) ∧ w'.cell? ⟨gb427, 4, none⟩ = some (.int .i64 x428004_1) ∧ w'.cell? ⟨gb427, 5, none⟩ = some (.int .i64 x428005_1) ∧ w'.cell? ⟨gb427, 6, none⟩ = some (.string x428006_1) ∧ w'.cell? ⟨gb427, 7, none⟩ = some (.int .i64 x428007_1) ∧ w'.cell? ⟨gb427, 8, none⟩ = some (.slice Ao21 x428008_1.length co21) ∧ w'.cell? (ad431.add (x5_1).toNat) = some (.string (rdOf ByteArray.empty l0 x5_1))) ∧ (Kd.R k50 50 w' w.heap.size (fun k_ => some k_ ≠ (.slice Ao21 x428008_1.length co21 : Value).ownBlock) s_.1 t440) ∧ (Kd.R Kd.string 9 w' w.heap.size (fun _ => True) (.slice Ao20 x4_1.length co20) x4_1) ∧ (Kd.R k50 50 w' w.heap.size (fun k_ => some k_ ≠ (s_.1 : Value).ownBlock) (.slice Ao21 x428008_1.length co21) x428008_1) ∧ (w'.heap[gb427]? = some (.cells #[.string x428000_1, .string x428001_1, .int .i64 x428002_1, .bool x428003_1, .int .i64 x428004_1, .int .i64 x428005_1, .string x428006_1, .int .i64 x428007_1, .slice Ao21 x428008_1.length co21] 24 (0, 0))) ∧ (w'.heap[s_.2]? = some (.cells #[.string (⟨#[]⟩ : ByteArray), .string (⟨#[]⟩ : ByteArray), .int .i64 0, .bool false, .int .i64 0, .int .i64 0, .string (⟨#[]⟩ : ByteArray), .int .i64 0, .slice none 0 0] 24 (0, 0))) ∧ (w.heap.size ≤ s_.2) ∧ (w.heap.size ≤ s_.2) ∧ (gb427 ≠ s_.2) ∧ (s_.2 ≠ gb427) ∧ (Below w.heap.size w w')) ?_ ?_
           rotate_left
           ·intro hCont
            refine two_ (i := 5) (j := 9) (Ni := some 45) (Nj := some 8) #[true, true, true, true, true, true, false, false, false, false, false, false] #[true, true, true, true, true, false, false, false, false, true, false, false] rfl rfl rfl rfl (two_of HT_.out (by kernel_rfl)) (by decide) (by decide) (fun K hK => ?_) (fun K hK => ?_)
            ·skip
             refine goes_ Tryd.func16 (by kernel_rfl) rfl #[.agg #[.string x428000_1, .string x428001_1, .int .i64 x428002_1, .bool x428003_1, .int .i64 x428004_1, .int .i64 x428005_1, .string x428006_1, .int .i64 x428007_1, .slice Ao21 x428008_1.length co21], .string (rdOf ByteArray.empty l0 x5_1)] (by rfl) rfl rfl (by (try simp only [List.map_toArray, List.map_cons, List.map_nil]); first | done | rfl | (simp only [List.length_drop, List.length_take]; rfl)) ?_
             with_reducible refine (hops_Enter.calls k3 x428000_1 x428001_1 x428002_1 x428003_1 x428004_1 x428005_1 x428006_1 x428007_1 _ _ x428008_1 (rdOf ByteArray.empty l0 x5_1) t432 t433 t434 t435 t436 t437 t438 t439 t440 t443 _ ?side1 ?side2 A18.out).mono ?_
             (case side1 => repeat (first | exact (Kd.R_reads' HO_428008.out).2.2 | (with_reducible refine Kd.C_alloc ?_ _) | (with_reducible refine Kd.C_drewN ?_ _) | (with_reducible refine Kd.C_drew ?_)))
             (case side2 => exact (Kd.R_reads' HO_428008.out).2.1)
             rintro e w23 ⟨v441, rfl, ho0, hb⟩
             refine ⟨_, rfl, ?_⟩
             have n0_ := Aside0.mk (Kd.R_below (by (with_reducible repeat (first | apply Kd.R_alloc | apply Kd.R_drewN | apply Kd.R_drew)); exact HO_4.out) hb)
             have n1_ := Aside0.mk (Kd.R_elder' (by (with_reducible repeat (first | apply Kd.R_alloc | apply Kd.R_drewN | apply Kd.R_drew)); exact HO_428008.out) (Kd.R_base ho0) hb)
             have n2_ := Aside0.mk (Kd.R_lower (Kd.R_new' ho0 (Kd.R_lt (by (with_reducible repeat (first | apply Kd.R_alloc | apply Kd.R_drewN | apply Kd.R_drew)); exact HO_428008.out))) (below_size (by repeat (first | (with_reducible first | exact HB.out | apply below_alloc | apply pw_below_drewN | apply below_drew1 | refine below_set ?_ GE427.out) | exact HB.out))))
             have n3_ := Aside0.mk (blk_below (g := gb427) (o := .cells #[.string x428000_1, .string x428001_1, .int .i64 x428002_1, .bool x428003_1, .int .i64 x428004_1, .int .i64 x428005_1, .string x428006_1, .int .i64 x428007_1, .slice Ao21 x428008_1.length co21] 24 (0, 0)) (by (with_reducible repeat (first | refine blk_drewN ?_ _ | refine blk_drew ?_ | refine blk_alloc ?_ _)); exact BK427.out) hb)
             have n4_ := Aside0.mk (below_step (by repeat (first | (with_reducible first | exact HB.out | apply below_alloc | apply pw_below_drewN | apply below_drew1 | refine below_set ?_ GE427.out) | exact HB.out)) hb)
             clear HO_4
             clear HO_428008
             clear BK427
             clear HB
             have HO_4 := n0_
             have HO_428008 := n1_
             have HO442 := n2_
             have BK427 := n3_
             have HB := n4_
             clear n0_ n1_ n2_ n3_ n4_
             (try clear hb)
             (try clear hb2)
             (try clear hk)
             (try clear hi)
             (try clear ho0)
             refine hK.out _ _ ⟨(blk_cell BK427.out 0).trans rfl, (blk_cell BK427.out 1).trans rfl, (blk_cell BK427.out 2).trans rfl, (blk_cell BK427.out 3).trans rfl, (blk_cell BK427.out 4).trans rfl, (blk_cell BK427.out 5).trans rfl, (blk_cell BK427.out 6).trans rfl, (blk_cell BK427.out 7).trans rfl, (blk_cell BK427.out 8).trans rfl, ((HB.out.cell (World.block_lt_of_cell? w _ hw431_0)).trans hw431_0)⟩ (fun hHeld => ?_)
             clear hK K
             refine norm_ (a' := ?_) ?_ ?_
             rotate_left
             ·show Act.put _ (some 45) _ = _
              simp only [Act.put, List.setIfInBounds_toArray, List.set_cons_zero, List.set_cons_succ, i64_w, i32_w]
              rfl
             refine pure_ (i := 6) (N := some 39) (v := ?_) (a' := ?_) #[true, true, true, true, true, true, true, false, false, false, false, false] rfl rfl (any_of HT_.out (by kernel_rfl)) (fun _ _ _ h => h) (Or.inl ⟨by rfl, ?_⟩) ?_ ?_
             rotate_left
             ·intro w'
              go_simp
              with_reducible rfl
             rotate_left
             ·simp only [Act.put, List.setIfInBounds_toArray, List.set_cons_zero, List.set_cons_succ, i64_w, i32_w]
              rfl
             refine pure_ (i := 7) (N := some 46) (v := ?_) (a' := ?_) #[true, true, true, true, true, true, true, true, false, false, false, false] rfl rfl (any_of HT_.out (by kernel_rfl)) (fun _ _ _ h => h) (Or.inl ⟨by rfl, ?_⟩) ?_ ?_
             rotate_left
             ·intro w'
              go_simp
              with_reducible rfl
             rotate_left
             ·simp only [Act.put, List.setIfInBounds_toArray, List.set_cons_zero, List.set_cons_succ, i64_w, i32_w]
              rfl
             refine pure_ (i := 8) (N := some 47) (v := ?_) (a' := ?_) #[true, true, true, true, true, true, true, true, true, false, false, false] rfl rfl (any_of HT_.out (by kernel_rfl)) (fun _ _ _ h => h) (Or.inl ⟨by rfl, ?_⟩) ?_ ?_
             rotate_left
             ·intro w'
              go_simp
              with_reducible rfl
             rotate_left
             ·simp only [Act.put, List.setIfInBounds_toArray, List.set_cons_zero, List.set_cons_succ, i64_w, i32_w]
              rfl
             refine one_ (i := 9) (N := some 8) #[true, true, true, true, true, true, true, true, true, true, false, false] rfl rfl (one_of HT_.out (by kernel_rfl)) (by decide) (fun K hK => ?_)
             refine box_step ?hg (N := 8) ?hd (cs := #[.string (⟨#[]⟩ : ByteArray), .string (⟨#[]⟩ : ByteArray), .int .i64 0, .bool false, .int .i64 0, .int .i64 0, .string (⟨#[]⟩ : ByteArray), .int .i64 0, .slice none 0 0]) (t := 24) ?hr ?_; (case hd => rfl); (case hg => rfl); (case hr => first | (go_simp; done) | (go_simp; rfl))
             intro gb444 hg w24 hbox hb
             have n0_ := Aside0.mk (Kd.R_below (by (with_reducible repeat (first | apply Kd.R_alloc | apply Kd.R_drewN | apply Kd.R_drew)); exact HO_4.out) hb)
             have n1_ := Aside0.mk (Kd.R_below (by (with_reducible repeat (first | apply Kd.R_alloc | apply Kd.R_drewN | apply Kd.R_drew)); exact HO_428008.out) hb)
             have n2_ := Aside0.mk (Kd.R_below (by (with_reducible repeat (first | apply Kd.R_alloc | apply Kd.R_drewN | apply Kd.R_drew)); exact HO442.out) hb)
             have n3_ := Aside0.mk (blk_below (g := gb427) (o := .cells #[.string x428000_1, .string x428001_1, .int .i64 x428002_1, .bool x428003_1, .int .i64 x428004_1, .int .i64 x428005_1, .string x428006_1, .int .i64 x428007_1, .slice Ao21 x428008_1.length co21] 24 (0, 0)) (by (with_reducible repeat (first | refine blk_drewN ?_ _ | refine blk_drew ?_ | refine blk_alloc ?_ _)); exact BK427.out) hb)
             have n4_ := Aside0.mk (below_step (by repeat (first | (with_reducible first | exact HB.out | apply below_alloc | apply pw_below_drewN | apply below_drew1 | refine below_set ?_ GE427.out) | exact HB.out)) hb)
             have n5_ := Aside0.mk (hbox)
             have n6_ := Aside0.mk ((by rw [hg]; exact (below_size (by repeat (first | (with_reducible first | exact HB.out | apply below_alloc | apply pw_below_drewN | apply below_drew1 | refine below_set ?_ GE427.out) | exact HB.out))) : w.heap.size ≤ gb444))
             have n7_ := Aside0.mk ((by rw [hg]; exact (below_size (by repeat (first | (with_reducible first | exact HB.out | apply below_alloc | apply pw_below_drewN | apply below_drew1 | refine below_set ?_ GE427.out) | exact HB.out))) : w.heap.size ≤ gb444))
             have n8_ := Aside0.mk ((by rw [hg]; exact Nat.ne_of_lt (blk_lt (g := gb427) (o := .cells #[.string x428000_1, .string x428001_1, .int .i64 x428002_1, .bool x428003_1, .int .i64 x428004_1, .int .i64 x428005_1, .string x428006_1, .int .i64 x428007_1, .slice Ao21 x428008_1.length co21] 24 (0, 0)) (by (with_reducible repeat (first | refine blk_drewN ?_ _ | refine blk_drew ?_ | refine blk_alloc ?_ _)); exact BK427.out)) : gb427 ≠ gb444))
             have n9_ := Aside0.mk ((by rw [hg]; exact Nat.ne_of_gt (blk_lt (g := gb427) (o := .cells #[.string x428000_1, .string x428001_1, .int .i64 x428002_1, .bool x428003_1, .int .i64 x428004_1, .int .i64 x428005_1, .string x428006_1, .int .i64 x428007_1, .slice Ao21 x428008_1.length co21] 24 (0, 0)) (by (with_reducible repeat (first | refine blk_drewN ?_ _ | refine blk_drew ?_ | refine blk_alloc ?_ _)); exact BK427.out)) : gb444 ≠ gb427))
             clear HO_4
             clear HO_428008
             clear HO442
             clear BK427
             clear HB
             have HO_4 := n0_
             have HO_428008 := n1_
             have HO442 := n2_
             have BK427 := n3_
             have HB := n4_
             have BK444 := n5_
             have GW444 := n6_
             have GE444 := n7_
             have NB427_444 := n8_
             have NB444_427 := n9_
             clear n0_ n1_ n2_ n3_ n4_ n5_ n6_ n7_ n8_ n9_
             clear hb hbox hg
             refine hK.out _ _ ⟨(blk_cell BK427.out 0).trans rfl, (blk_cell BK427.out 1).trans rfl, (blk_cell BK427.out 2).trans rfl, (blk_cell BK427.out 3).trans rfl, (blk_cell BK427.out 4).trans rfl, (blk_cell BK427.out 5).trans rfl, (blk_cell BK427.out 6).trans rfl, (blk_cell BK427.out 7).trans rfl, (blk_cell BK427.out 8).trans rfl, ((HB.out.cell (World.block_lt_of_cell? w _ hw431_0)).trans hw431_0)⟩ (fun hHeld => ?_)
             clear hK K
             refine norm_ (a' := ?_) ?_ ?_
             rotate_left
             ·show Act.put _ (some 8) _ = _
              simp only [Act.put, List.setIfInBounds_toArray, List.set_cons_zero, List.set_cons_succ, i64_w, i32_w]
              rfl
             exact norm_ (by simp only [putAll, Act.put, List.setIfInBounds_toArray, List.set_cons_zero, List.set_cons_succ]) (hCont (v441, gb444) _ ⟨hHeld, (by (with_reducible repeat (first | apply Kd.R_alloc | apply Kd.R_drewN | apply Kd.R_drew)); exact Kd.R_mono HO442.out (fun _ hk => hk.2)), (by (with_reducible repeat (first | apply Kd.R_alloc | apply Kd.R_drewN | apply Kd.R_drew)); exact HO_4.out), (by (with_reducible repeat (first | apply Kd.R_alloc | apply Kd.R_drewN | apply Kd.R_drew)); exact Kd.R_mono HO_428008.out (fun _ hk => hk.2)), (by (with_reducible repeat (first | refine blk_drewN ?_ _ | refine blk_drew ?_ | refine blk_alloc ?_ _)); exact BK427.out), (by (with_reducible repeat (first | refine blk_drewN ?_ _ | refine blk_drew ?_ | refine blk_alloc ?_ _)); exact BK444.out), GW444.out, GE444.out, NB427_444.out, NB444_427.out, (by repeat (first | (with_reducible first | exact HB.out | apply below_alloc | apply pw_below_drewN | apply below_drew1 | refine below_set ?_ GE427.out | refine below_set ?_ GE444.out) | exact HB.out))⟩)
            ·skip
             refine box_step ?hg (N := 8) ?hd (cs := #[.string (⟨#[]⟩ : ByteArray), .string (⟨#[]⟩ : ByteArray), .int .i64 0, .bool false, .int .i64 0, .int .i64 0, .string (⟨#[]⟩ : ByteArray), .int .i64 0, .slice none 0 0]) (t := 24) ?hr ?_; (case hd => rfl); (case hg => rfl); (case hr => first | (go_simp; done) | (go_simp; rfl))
             intro gb444 hg w23 hbox hb
             have n0_ := Aside0.mk (Kd.R_below (by (with_reducible repeat (first | apply Kd.R_alloc | apply Kd.R_drewN | apply Kd.R_drew)); exact HO_4.out) hb)
             have n1_ := Aside0.mk (Kd.R_below (by (with_reducible repeat (first | apply Kd.R_alloc | apply Kd.R_drewN | apply Kd.R_drew)); exact HO_428008.out) hb)
             have n2_ := Aside0.mk (blk_below (g := gb427) (o := .cells #[.string x428000_1, .string x428001_1, .int .i64 x428002_1, .bool x428003_1, .int .i64 x428004_1, .int .i64 x428005_1, .string x428006_1, .int .i64 x428007_1, .slice Ao21 x428008_1.length co21] 24 (0, 0)) (by (with_reducible repeat (first | refine blk_drewN ?_ _ | refine blk_drew ?_ | refine blk_alloc ?_ _)); exact BK427.out) hb)
             have n3_ := Aside0.mk (below_step (by repeat (first | (with_reducible first | exact HB.out | apply below_alloc | apply pw_below_drewN | apply below_drew1 | refine below_set ?_ GE427.out) | exact HB.out)) hb)
             have n4_ := Aside0.mk (hbox)
             have n5_ := Aside0.mk ((by rw [hg]; exact (below_size (by repeat (first | (with_reducible first | exact HB.out | apply below_alloc | apply pw_below_drewN | apply below_drew1 | refine below_set ?_ GE427.out) | exact HB.out))) : w.heap.size ≤ gb444))
             have n6_ := Aside0.mk ((by rw [hg]; exact (below_size (by repeat (first | (with_reducible first | exact HB.out | apply below_alloc | apply pw_below_drewN | apply below_drew1 | refine below_set ?_ GE427.out) | exact HB.out))) : w.heap.size ≤ gb444))
             have n7_ := Aside0.mk ((by rw [hg]; exact Nat.ne_of_lt (blk_lt (g := gb427) (o := .cells #[.string x428000_1, .string x428001_1, .int .i64 x428002_1, .bool x428003_1, .int .i64 x428004_1, .int .i64 x428005_1, .string x428006_1, .int .i64 x428007_1, .slice Ao21 x428008_1.length co21] 24 (0, 0)) (by (with_reducible repeat (first | refine blk_drewN ?_ _ | refine blk_drew ?_ | refine blk_alloc ?_ _)); exact BK427.out)) : gb427 ≠ gb444))
             have n8_ := Aside0.mk ((by rw [hg]; exact Nat.ne_of_gt (blk_lt (g := gb427) (o := .cells #[.string x428000_1, .string x428001_1, .int .i64 x428002_1, .bool x428003_1, .int .i64 x428004_1, .int .i64 x428005_1, .string x428006_1, .int .i64 x428007_1, .slice Ao21 x428008_1.length co21] 24 (0, 0)) (by (with_reducible repeat (first | refine blk_drewN ?_ _ | refine blk_drew ?_ | refine blk_alloc ?_ _)); exact BK427.out)) : gb444 ≠ gb427))
             clear HO_4
             clear HO_428008
             clear BK427
             clear HB
             have HO_4 := n0_
             have HO_428008 := n1_
             have BK427 := n2_
             have HB := n3_
             have BK444 := n4_
             have GW444 := n5_
             have GE444 := n6_
             have NB427_444 := n7_
             have NB444_427 := n8_
             clear n0_ n1_ n2_ n3_ n4_ n5_ n6_ n7_ n8_
             clear hb hbox hg
             refine hK.out _ _ ⟨(blk_cell BK427.out 0).trans rfl, (blk_cell BK427.out 1).trans rfl, (blk_cell BK427.out 2).trans rfl, (blk_cell BK427.out 3).trans rfl, (blk_cell BK427.out 4).trans rfl, (blk_cell BK427.out 5).trans rfl, (blk_cell BK427.out 6).trans rfl, (blk_cell BK427.out 7).trans rfl, (blk_cell BK427.out 8).trans rfl, ((HB.out.cell (World.block_lt_of_cell? w _ hw431_0)).trans hw431_0)⟩ (fun hHeld => ?_)
             clear hK K
             refine norm_ (a' := ?_) ?_ ?_
             rotate_left
             ·show Act.put _ (some 8) _ = _
              simp only [Act.put, List.setIfInBounds_toArray, List.set_cons_zero, List.set_cons_succ, i64_w, i32_w]
              rfl
             refine one_ (i := 5) (N := some 45) #[true, true, true, true, true, true, false, false, false, true, false, false] rfl rfl (one_of HT_.out (by kernel_rfl)) (by decide) (fun K hK => ?_)
             refine goes_ Tryd.func16 (by kernel_rfl) rfl #[.agg #[.string x428000_1, .string x428001_1, .int .i64 x428002_1, .bool x428003_1, .int .i64 x428004_1, .int .i64 x428005_1, .string x428006_1, .int .i64 x428007_1, .slice Ao21 x428008_1.length co21], .string (rdOf ByteArray.empty l0 x5_1)] (by rfl) rfl rfl (by (try simp only [List.map_toArray, List.map_cons, List.map_nil]); first | done | rfl | (simp only [List.length_drop, List.length_take]; rfl)) ?_
             with_reducible refine (hops_Enter.calls k3 x428000_1 x428001_1 x428002_1 x428003_1 x428004_1 x428005_1 x428006_1 x428007_1 _ _ x428008_1 (rdOf ByteArray.empty l0 x5_1) t432 t433 t434 t435 t436 t437 t438 t439 t440 t443 _ ?side1 ?side2 A18.out).mono ?_
             (case side1 => repeat (first | exact (Kd.R_reads' HO_428008.out).2.2 | (with_reducible refine Kd.C_alloc ?_ _) | (with_reducible refine Kd.C_drewN ?_ _) | (with_reducible refine Kd.C_drew ?_)))
             (case side2 => exact (Kd.R_reads' HO_428008.out).2.1)
             rintro e w24 ⟨v441, rfl, ho0, hb⟩
             refine ⟨_, rfl, ?_⟩
             have n0_ := Aside0.mk (Kd.R_below (by (with_reducible repeat (first | apply Kd.R_alloc | apply Kd.R_drewN | apply Kd.R_drew)); exact HO_4.out) hb)
             have n1_ := Aside0.mk (Kd.R_elder' (by (with_reducible repeat (first | apply Kd.R_alloc | apply Kd.R_drewN | apply Kd.R_drew)); exact HO_428008.out) (Kd.R_base ho0) hb)
             have n2_ := Aside0.mk (Kd.R_lower (Kd.R_new' ho0 (Kd.R_lt (by (with_reducible repeat (first | apply Kd.R_alloc | apply Kd.R_drewN | apply Kd.R_drew)); exact HO_428008.out))) (below_size (by repeat (first | (with_reducible first | exact HB.out | apply below_alloc | apply pw_below_drewN | apply below_drew1 | refine below_set ?_ GE427.out | refine below_set ?_ GE444.out) | exact HB.out))))
             have n3_ := Aside0.mk (blk_below (g := gb427) (o := .cells #[.string x428000_1, .string x428001_1, .int .i64 x428002_1, .bool x428003_1, .int .i64 x428004_1, .int .i64 x428005_1, .string x428006_1, .int .i64 x428007_1, .slice Ao21 x428008_1.length co21] 24 (0, 0)) (by (with_reducible repeat (first | refine blk_drewN ?_ _ | refine blk_drew ?_ | refine blk_alloc ?_ _)); exact BK427.out) hb)
             have n4_ := Aside0.mk (blk_below (g := gb444) (o := .cells #[.string (⟨#[]⟩ : ByteArray), .string (⟨#[]⟩ : ByteArray), .int .i64 0, .bool false, .int .i64 0, .int .i64 0, .string (⟨#[]⟩ : ByteArray), .int .i64 0, .slice none 0 0] 24 (0, 0)) (by (with_reducible repeat (first | refine blk_drewN ?_ _ | refine blk_drew ?_ | refine blk_alloc ?_ _)); exact BK444.out) hb)
             have n5_ := Aside0.mk (below_step (by repeat (first | (with_reducible first | exact HB.out | apply below_alloc | apply pw_below_drewN | apply below_drew1 | refine below_set ?_ GE427.out | refine below_set ?_ GE444.out) | exact HB.out)) hb)
             clear HO_4
             clear HO_428008
             clear BK427
             clear BK444
             clear HB
             have HO_4 := n0_
             have HO_428008 := n1_
             have HO442 := n2_
             have BK427 := n3_
             have BK444 := n4_
             have HB := n5_
             clear n0_ n1_ n2_ n3_ n4_ n5_
             (try clear hb)
             (try clear hb2)
             (try clear hk)
             (try clear hi)
             (try clear ho0)
             refine hK.out _ _ ⟨(blk_cell BK427.out 0).trans rfl, (blk_cell BK427.out 1).trans rfl, (blk_cell BK427.out 2).trans rfl, (blk_cell BK427.out 3).trans rfl, (blk_cell BK427.out 4).trans rfl, (blk_cell BK427.out 5).trans rfl, (blk_cell BK427.out 6).trans rfl, (blk_cell BK427.out 7).trans rfl, (blk_cell BK427.out 8).trans rfl, ((HB.out.cell (World.block_lt_of_cell? w _ hw431_0)).trans hw431_0)⟩ (fun hHeld => ?_)
             clear hK K
             refine norm_ (a' := ?_) ?_ ?_
             rotate_left
             ·show Act.put _ (some 45) _ = _
              simp only [Act.put, List.setIfInBounds_toArray, List.set_cons_zero, List.set_cons_succ, i64_w, i32_w]
              rfl
             refine pure_ (i := 6) (N := some 39) (v := ?_) (a' := ?_) #[true, true, true, true, true, true, true, false, false, true, false, false] rfl rfl (any_of HT_.out (by kernel_rfl)) (fun _ _ _ h => h) (Or.inl ⟨by rfl, ?_⟩) ?_ ?_
             rotate_left
             ·intro w'
              go_simp
              with_reducible rfl
             rotate_left
             ·simp only [Act.put, List.setIfInBounds_toArray, List.set_cons_zero, List.set_cons_succ, i64_w, i32_w]
              rfl
             refine pure_ (i := 7) (N := some 46) (v := ?_) (a' := ?_) #[true, true, true, true, true, true, true, true, false, true, false, false] rfl rfl (any_of HT_.out (by kernel_rfl)) (fun _ _ _ h => h) (Or.inl ⟨by rfl, ?_⟩) ?_ ?_
             rotate_left
             ·intro w'
              go_simp
              with_reducible rfl
             rotate_left
             ·simp only [Act.put, List.setIfInBounds_toArray, List.set_cons_zero, List.set_cons_succ, i64_w, i32_w]
              rfl
             refine pure_ (i := 8) (N := some 47) (v := ?_) (a' := ?_) #[true, true, true, true, true, true, true, true, true, true, false, false] rfl rfl (any_of HT_.out (by kernel_rfl)) (fun _ _ _ h => h) (Or.inl ⟨by rfl, ?_⟩) ?_ ?_
             rotate_left
             ·intro w'
              go_simp
              with_reducible rfl
             rotate_left
             ·simp only [Act.put, List.setIfInBounds_toArray, List.set_cons_zero, List.set_cons_succ, i64_w, i32_w]
              rfl
             exact norm_ (by simp only [putAll, Act.put, List.setIfInBounds_toArray, List.set_cons_zero, List.set_cons_succ]) (hCont (v441, gb444) _ ⟨hHeld, (by (with_reducible repeat (first | apply Kd.R_alloc | apply Kd.R_drewN | apply Kd.R_drew)); exact Kd.R_mono HO442.out (fun _ hk => hk.2)), (by (with_reducible repeat (first | apply Kd.R_alloc | apply Kd.R_drewN | apply Kd.R_drew)); exact HO_4.out), (by (with_reducible repeat (first | apply Kd.R_alloc | apply Kd.R_drewN | apply Kd.R_drew)); exact Kd.R_mono HO_428008.out (fun _ hk => hk.2)), (by (with_reducible repeat (first | refine blk_drewN ?_ _ | refine blk_drew ?_ | refine blk_alloc ?_ _)); exact BK427.out), (by (with_reducible repeat (first | refine blk_drewN ?_ _ | refine blk_drew ?_ | refine blk_alloc ?_ _)); exact BK444.out), GW444.out, GE444.out, NB427_444.out, NB444_427.out, (by repeat (first | (with_reducible first | exact HB.out | apply below_alloc | apply pw_below_drewN | apply below_drew1 | refine below_set ?_ GE427.out | refine below_set ?_ GE444.out) | exact HB.out))⟩)
           rintro ⟨v441, gb444⟩ w25 ⟨hS_, h0_, h1_, h2_, h3_, h4_, h5_, h6_, h7_, h8_, h9_⟩
           have n0_ : Aside0 (Kd.R k50 50 w25 w.heap.size (fun k_ => some k_ ≠ (.slice Ao21 x428008_1.length co21 : Value).ownBlock) v441 t440) := ⟨h0_⟩
           have n1_ : Aside0 (Kd.R Kd.string 9 w25 w.heap.size (fun _ => True) (.slice Ao20 x4_1.length co20) x4_1) := ⟨h1_⟩
           have n2_ : Aside0 (Kd.R k50 50 w25 w.heap.size (fun k_ => some k_ ≠ (v441 : Value).ownBlock) (.slice Ao21 x428008_1.length co21) x428008_1) := ⟨h2_⟩
           have n3_ : Aside0 (w25.heap[gb427]? = some (.cells #[.string x428000_1, .string x428001_1, .int .i64 x428002_1, .bool x428003_1, .int .i64 x428004_1, .int .i64 x428005_1, .string x428006_1, .int .i64 x428007_1, .slice Ao21 x428008_1.length co21] 24 (0, 0))) := ⟨h3_⟩
           have n4_ : Aside0 (w25.heap[gb444]? = some (.cells #[.string (⟨#[]⟩ : ByteArray), .string (⟨#[]⟩ : ByteArray), .int .i64 0, .bool false, .int .i64 0, .int .i64 0, .string (⟨#[]⟩ : ByteArray), .int .i64 0, .slice none 0 0] 24 (0, 0))) := ⟨h4_⟩
           have n5_ : Aside0 (w.heap.size ≤ gb444) := ⟨h5_⟩
           have n6_ : Aside0 (w.heap.size ≤ gb444) := ⟨h6_⟩
           have n7_ : Aside0 (gb427 ≠ gb444) := ⟨h7_⟩
           have n8_ : Aside0 (gb444 ≠ gb427) := ⟨h8_⟩
           have n9_ : Aside0 (Below w.heap.size w w25) := ⟨h9_⟩
           clear HO_4
           clear HO_428008
           clear BK427
           clear HB
           clear h0_ h1_ h2_ h3_ h4_ h5_ h6_ h7_ h8_ h9_
           have HO442 := n0_
           have HO_4 := n1_
           have HO_428008 := n2_
           have BK427 := n3_
           have BK444 := n4_
           have GW444 := n5_
           have GE444 := n6_
           have NB427_444 := n7_
           have NB444_427 := n8_
           have HB := n9_
           clear n0_ n1_ n2_ n3_ n4_ n5_ n6_ n7_ n8_ n9_
           have hHeld : w25.cell? ⟨gb427, 0, none⟩ = some (.string x428000_1) ∧ w25.cell? ⟨gb427, 1, none⟩ = some (.string x428001_1) ∧ w25.cell? ⟨gb427, 2, none⟩ = some (.int .i64 x428002_1) ∧ w25.cell? ⟨gb427, 3, none⟩ = some (.bool x428003_1) ∧ w25.cell? ⟨gb427, 4, none⟩ = some (.int .i64 x428004_1) ∧ w25.cell? ⟨gb427, 5, none⟩ = some (.int .i64 x428005_1) ∧ w25.cell? ⟨gb427, 6, none⟩ = some (.string x428006_1) ∧ w25.cell? ⟨gb427, 7, none⟩ = some (.int .i64 x428007_1) ∧ w25.cell? ⟨gb427, 8, none⟩ = some (.slice Ao21 x428008_1.length co21) ∧ w25.cell? (ad431.add (x5_1).toNat) = some (.string (rdOf ByteArray.empty l0 x5_1)) := hS_
           obtain ⟨Ao34, co34, eo34⟩ := Kd.R_slice HO442.out
           (first | subst eo34 | (injection eo34 with f1_ f2_ f3_; have f4_ := f1_.symm; have f5_ := f3_.symm; clear f1_ f2_ f3_; subst f4_; subst f5_))
           refine norm_ (a' := ?_) ?_ ?_
           rotate_left
           ·simp only [putAll, Act.put, List.setIfInBounds_toArray, List.set_cons_zero, List.set_cons_succ]
            rfl
           refine one_ (i := 10) (N := none) #[true, true, true, true, true, true, true, true, true, true, true, false] rfl rfl (one_of HT_.out (by kernel_rfl)) (by decide) (fun K hK => ?_)
           have hs26 : w25.cell? ⟨gb444, 0, none⟩ = some (.string (⟨#[]⟩ : ByteArray)) := (blk_cell BK444.out 0).trans rfl
           have hfs26 := blk_frozen BK444.out 0
           have hns26_0 := NB427_444.out
           have hms26_0 := NB444_427.out
           have hs27 : w25.cell? ⟨gb444, 1, none⟩ = some (.string (⟨#[]⟩ : ByteArray)) := (blk_cell BK444.out 1).trans rfl
           have hfs27 := blk_frozen BK444.out 1
           have hns27_0 := NB427_444.out
           have hms27_0 := NB444_427.out
           have hs28 : w25.cell? ⟨gb444, 2, none⟩ = some (.int .i64 0) := (blk_cell BK444.out 2).trans rfl
           have hfs28 := blk_frozen BK444.out 2
           have hns28_0 := NB427_444.out
           have hms28_0 := NB444_427.out
           have hs29 : w25.cell? ⟨gb444, 3, none⟩ = some (.bool false) := (blk_cell BK444.out 3).trans rfl
           have hfs29 := blk_frozen BK444.out 3
           have hns29_0 := NB427_444.out
           have hms29_0 := NB444_427.out
           have hs30 : w25.cell? ⟨gb444, 4, none⟩ = some (.int .i64 0) := (blk_cell BK444.out 4).trans rfl
           have hfs30 := blk_frozen BK444.out 4
           have hns30_0 := NB427_444.out
           have hms30_0 := NB444_427.out
           have hs31 : w25.cell? ⟨gb444, 5, none⟩ = some (.int .i64 0) := (blk_cell BK444.out 5).trans rfl
           have hfs31 := blk_frozen BK444.out 5
           have hns31_0 := NB427_444.out
           have hms31_0 := NB444_427.out
           have hs32 : w25.cell? ⟨gb444, 6, none⟩ = some (.string (⟨#[]⟩ : ByteArray)) := (blk_cell BK444.out 6).trans rfl
           have hfs32 := blk_frozen BK444.out 6
           have hns32_0 := NB427_444.out
           have hms32_0 := NB444_427.out
           have hs33 : w25.cell? ⟨gb444, 7, none⟩ = some (.int .i64 0) := (blk_cell BK444.out 7).trans rfl
           have hfs33 := blk_frozen BK444.out 7
           have hns33_0 := NB427_444.out
           have hms33_0 := NB444_427.out
           have hs35 : w25.cell? ⟨gb444, 8, none⟩ = some (.slice none 0 0) := (blk_cell BK444.out 8).trans rfl
           have hfs35 := blk_frozen BK444.out 8
           have hns35_0 := NB427_444.out
           have hms35_0 := NB444_427.out
           refine skip_ (w1 := ?_) (by rfl) rfl ?_ ?_
           rotate_left
           ·go_simp
            rfl
           refine hK.out _ _ ⟨((cell_far (p := ⟨gb444, _, none⟩) NB427_444.out _).trans (((cell_far (p := ⟨gb444, _, none⟩) NB427_444.out _).trans (((cell_far (p := ⟨gb444, _, none⟩) NB427_444.out _).trans (((cell_far (p := ⟨gb444, _, none⟩) NB427_444.out _).trans (((cell_far (p := ⟨gb444, _, none⟩) NB427_444.out _).trans (((cell_far (p := ⟨gb444, _, none⟩) NB427_444.out _).trans (((cell_far (p := ⟨gb444, _, none⟩) NB427_444.out _).trans (((cell_far (p := ⟨gb444, _, none⟩) NB427_444.out _).trans (((cell_far (p := ⟨gb444, _, none⟩) NB427_444.out _).trans (hHeld.1)))))))))))))))))), ((cell_far (p := ⟨gb444, _, none⟩) NB427_444.out _).trans (((cell_far (p := ⟨gb444, _, none⟩) NB427_444.out _).trans (((cell_far (p := ⟨gb444, _, none⟩) NB427_444.out _).trans (((cell_far (p := ⟨gb444, _, none⟩) NB427_444.out _).trans (((cell_far (p := ⟨gb444, _, none⟩) NB427_444.out _).trans (((cell_far (p := ⟨gb444, _, none⟩) NB427_444.out _).trans (((cell_far (p := ⟨gb444, _, none⟩) NB427_444.out _).trans (((cell_far (p := ⟨gb444, _, none⟩) NB427_444.out _).trans (((cell_far (p := ⟨gb444, _, none⟩) NB427_444.out _).trans (hHeld.2.1)))))))))))))))))), ((cell_far (p := ⟨gb444, _, none⟩) NB427_444.out _).trans (((cell_far (p := ⟨gb444, _, none⟩) NB427_444.out _).trans (((cell_far (p := ⟨gb444, _, none⟩) NB427_444.out _).trans (((cell_far (p := ⟨gb444, _, none⟩) NB427_444.out _).trans (((cell_far (p := ⟨gb444, _, none⟩) NB427_444.out _).trans (((cell_far (p := ⟨gb444, _, none⟩) NB427_444.out _).trans (((cell_far (p := ⟨gb444, _, none⟩) NB427_444.out _).trans (((cell_far (p := ⟨gb444, _, none⟩) NB427_444.out _).trans (((cell_far (p := ⟨gb444, _, none⟩) NB427_444.out _).trans (hHeld.2.2.1)))))))))))))))))), ((cell_far (p := ⟨gb444, _, none⟩) NB427_444.out _).trans (((cell_far (p := ⟨gb444, _, none⟩) NB427_444.out _).trans (((cell_far (p := ⟨gb444, _, none⟩) NB427_444.out _).trans (((cell_far (p := ⟨gb444, _, none⟩) NB427_444.out _).trans (((cell_far (p := ⟨gb444, _, none⟩) NB427_444.out _).trans (((cell_far (p := ⟨gb444, _, none⟩) NB427_444.out _).trans (((cell_far (p := ⟨gb444, _, none⟩) NB427_444.out _).trans (((cell_far (p := ⟨gb444, _, none⟩) NB427_444.out _).trans (((cell_far (p := ⟨gb444, _, none⟩) NB427_444.out _).trans (hHeld.2.2.2.1)))))))))))))))))), ((cell_far (p := ⟨gb444, _, none⟩) NB427_444.out _).trans (((cell_far (p := ⟨gb444, _, none⟩) NB427_444.out _).trans (((cell_far (p := ⟨gb444, _, none⟩) NB427_444.out _).trans (((cell_far (p := ⟨gb444, _, none⟩) NB427_444.out _).trans (((cell_far (p := ⟨gb444, _, none⟩) NB427_444.out _).trans (((cell_far (p := ⟨gb444, _, none⟩) NB427_444.out _).trans (((cell_far (p := ⟨gb444, _, none⟩) NB427_444.out _).trans (((cell_far (p := ⟨gb444, _, none⟩) NB427_444.out _).trans (((cell_far (p := ⟨gb444, _, none⟩) NB427_444.out _).trans (hHeld.2.2.2.2.1)))))))))))))))))), ((cell_far (p := ⟨gb444, _, none⟩) NB427_444.out _).trans (((cell_far (p := ⟨gb444, _, none⟩) NB427_444.out _).trans (((cell_far (p := ⟨gb444, _, none⟩) NB427_444.out _).trans (((cell_far (p := ⟨gb444, _, none⟩) NB427_444.out _).trans (((cell_far (p := ⟨gb444, _, none⟩) NB427_444.out _).trans (((cell_far (p := ⟨gb444, _, none⟩) NB427_444.out _).trans (((cell_far (p := ⟨gb444, _, none⟩) NB427_444.out _).trans (((cell_far (p := ⟨gb444, _, none⟩) NB427_444.out _).trans (((cell_far (p := ⟨gb444, _, none⟩) NB427_444.out _).trans (hHeld.2.2.2.2.2.1)))))))))))))))))), ((cell_far (p := ⟨gb444, _, none⟩) NB427_444.out _).trans (((cell_far (p := ⟨gb444, _, none⟩) NB427_444.out _).trans (((cell_far (p := ⟨gb444, _, none⟩) NB427_444.out _).trans (((cell_far (p := ⟨gb444, _, none⟩) NB427_444.out _).trans (((cell_far (p := ⟨gb444, _, none⟩) NB427_444.out _).trans (((cell_far (p := ⟨gb444, _, none⟩) NB427_444.out _).trans (((cell_far (p := ⟨gb444, _, none⟩) NB427_444.out _).trans (((cell_far (p := ⟨gb444, _, none⟩) NB427_444.out _).trans (((cell_far (p := ⟨gb444, _, none⟩) NB427_444.out _).trans (hHeld.2.2.2.2.2.2.1)))))))))))))))))), ((cell_far (p := ⟨gb444, _, none⟩) NB427_444.out _).trans (((cell_far (p := ⟨gb444, _, none⟩) NB427_444.out _).trans (((cell_far (p := ⟨gb444, _, none⟩) NB427_444.out _).trans (((cell_far (p := ⟨gb444, _, none⟩) NB427_444.out _).trans (((cell_far (p := ⟨gb444, _, none⟩) NB427_444.out _).trans (((cell_far (p := ⟨gb444, _, none⟩) NB427_444.out _).trans (((cell_far (p := ⟨gb444, _, none⟩) NB427_444.out _).trans (((cell_far (p := ⟨gb444, _, none⟩) NB427_444.out _).trans (((cell_far (p := ⟨gb444, _, none⟩) NB427_444.out _).trans (hHeld.2.2.2.2.2.2.2.1)))))))))))))))))), ((cell_far (p := ⟨gb444, _, none⟩) NB427_444.out _).trans (((cell_far (p := ⟨gb444, _, none⟩) NB427_444.out _).trans (((cell_far (p := ⟨gb444, _, none⟩) NB427_444.out _).trans (((cell_far (p := ⟨gb444, _, none⟩) NB427_444.out _).trans (((cell_far (p := ⟨gb444, _, none⟩) NB427_444.out _).trans (((cell_far (p := ⟨gb444, _, none⟩) NB427_444.out _).trans (((cell_far (p := ⟨gb444, _, none⟩) NB427_444.out _).trans (((cell_far (p := ⟨gb444, _, none⟩) NB427_444.out _).trans (((cell_far (p := ⟨gb444, _, none⟩) NB427_444.out _).trans (hHeld.2.2.2.2.2.2.2.2.1)))))))))))))))))), ((cell_far (p := ⟨gb444, _, none⟩) (by first | exact Nat.ne_of_lt (Nat.lt_of_lt_of_le (by have := World.block_lt_of_cell? _ _ hw431_0; first | rwa [add_block] at this | exact this) GW444.out) | (rw [add_block]; exact Nat.ne_of_lt (Nat.lt_of_lt_of_le (by have := World.block_lt_of_cell? _ _ hw431_0; first | rwa [add_block] at this | exact this) GW444.out)) | (show (Addr.add _ _).block ≠ _; rw [add_block]; exact Nat.ne_of_lt (Nat.lt_of_lt_of_le (by have := World.block_lt_of_cell? _ _ hw431_0; first | rwa [add_block] at this | exact this) GW444.out)) | (dsimp only; exact Nat.ne_of_lt (Nat.lt_of_lt_of_le (by have := World.block_lt_of_cell? _ _ hw431_0; first | rwa [add_block] at this | exact this) GW444.out))) _).trans (((cell_far (p := ⟨gb444, _, none⟩) (by first | exact Nat.ne_of_lt (Nat.lt_of_lt_of_le (by have := World.block_lt_of_cell? _ _ hw431_0; first | rwa [add_block] at this | exact this) GW444.out) | (rw [add_block]; exact Nat.ne_of_lt (Nat.lt_of_lt_of_le (by have := World.block_lt_of_cell? _ _ hw431_0; first | rwa [add_block] at this | exact this) GW444.out)) | (show (Addr.add _ _).block ≠ _; rw [add_block]; exact Nat.ne_of_lt (Nat.lt_of_lt_of_le (by have := World.block_lt_of_cell? _ _ hw431_0; first | rwa [add_block] at this | exact this) GW444.out)) | (dsimp only; exact Nat.ne_of_lt (Nat.lt_of_lt_of_le (by have := World.block_lt_of_cell? _ _ hw431_0; first | rwa [add_block] at this | exact this) GW444.out))) _).trans (((cell_far (p := ⟨gb444, _, none⟩) (by first | exact Nat.ne_of_lt (Nat.lt_of_lt_of_le (by have := World.block_lt_of_cell? _ _ hw431_0; first | rwa [add_block] at this | exact this) GW444.out) | (rw [add_block]; exact Nat.ne_of_lt (Nat.lt_of_lt_of_le (by have := World.block_lt_of_cell? _ _ hw431_0; first | rwa [add_block] at this | exact this) GW444.out)) | (show (Addr.add _ _).block ≠ _; rw [add_block]; exact Nat.ne_of_lt (Nat.lt_of_lt_of_le (by have := World.block_lt_of_cell? _ _ hw431_0; first | rwa [add_block] at this | exact this) GW444.out)) | (dsimp only; exact Nat.ne_of_lt (Nat.lt_of_lt_of_le (by have := World.block_lt_of_cell? _ _ hw431_0; first | rwa [add_block] at this | exact this) GW444.out))) _).trans (((cell_far (p := ⟨gb444, _, none⟩) (by first | exact Nat.ne_of_lt (Nat.lt_of_lt_of_le (by have := World.block_lt_of_cell? _ _ hw431_0; first | rwa [add_block] at this | exact this) GW444.out) | (rw [add_block]; exact Nat.ne_of_lt (Nat.lt_of_lt_of_le (by have := World.block_lt_of_cell? _ _ hw431_0; first | rwa [add_block] at this | exact this) GW444.out)) | (show (Addr.add _ _).block ≠ _; rw [add_block]; exact Nat.ne_of_lt (Nat.lt_of_lt_of_le (by have := World.block_lt_of_cell? _ _ hw431_0; first | rwa [add_block] at this | exact this) GW444.out)) | (dsimp only; exact Nat.ne_of_lt (Nat.lt_of_lt_of_le (by have := World.block_lt_of_cell? _ _ hw431_0; first | rwa [add_block] at this | exact this) GW444.out))) _).trans (((cell_far (p := ⟨gb444, _, none⟩) (by first | exact Nat.ne_of_lt (Nat.lt_of_lt_of_le (by have := World.block_lt_of_cell? _ _ hw431_0; first | rwa [add_block] at this | exact this) GW444.out) | (rw [add_block]; exact Nat.ne_of_lt (Nat.lt_of_lt_of_le (by have := World.block_lt_of_cell? _ _ hw431_0; first | rwa [add_block] at this | exact this) GW444.out)) | (show (Addr.add _ _).block ≠ _; rw [add_block]; exact Nat.ne_of_lt (Nat.lt_of_lt_of_le (by have := World.block_lt_of_cell? _ _ hw431_0; first | rwa [add_block] at this | exact this) GW444.out)) | (dsimp only; exact Nat.ne_of_lt (Nat.lt_of_lt_of_le (by have := World.block_lt_of_cell? _ _ hw431_0; first | rwa [add_block] at this | exact this) GW444.out))) _).trans (((cell_far (p := ⟨gb444, _, none⟩) (by first | exact Nat.ne_of_lt (Nat.lt_of_lt_of_le (by have := World.block_lt_of_cell? _ _ hw431_0; first | rwa [add_block] at this | exact this) GW444.out) | (rw [add_block]; exact Nat.ne_of_lt (Nat.lt_of_lt_of_le (by have := World.block_lt_of_cell? _ _ hw431_0; first | rwa [add_block] at this | exact this) GW444.out)) | (show (Addr.add _ _).block ≠ _; rw [add_block]; exact Nat.ne_of_lt (Nat.lt_of_lt_of_le (by have := World.block_lt_of_cell? _ _ hw431_0; first | rwa [add_block] at this | exact this) GW444.out)) | (dsimp only; exact Nat.ne_of_lt (Nat.lt_of_lt_of_le (by have := World.block_lt_of_cell? _ _ hw431_0; first | rwa [add_block] at this | exact this) GW444.out))) _).trans (((cell_far (p := ⟨gb444, _, none⟩) (by first | exact Nat.ne_of_lt (Nat.lt_of_lt_of_le (by have := World.block_lt_of_cell? _ _ hw431_0; first | rwa [add_block] at this | exact this) GW444.out) | (rw [add_block]; exact Nat.ne_of_lt (Nat.lt_of_lt_of_le (by have := World.block_lt_of_cell? _ _ hw431_0; first | rwa [add_block] at this | exact this) GW444.out)) | (show (Addr.add _ _).block ≠ _; rw [add_block]; exact Nat.ne_of_lt (Nat.lt_of_lt_of_le (by have := World.block_lt_of_cell? _ _ hw431_0; first | rwa [add_block] at this | exact this) GW444.out)) | (dsimp only; exact Nat.ne_of_lt (Nat.lt_of_lt_of_le (by have := World.block_lt_of_cell? _ _ hw431_0; first | rwa [add_block] at this | exact this) GW444.out))) _).trans (((cell_far (p := ⟨gb444, _, none⟩) (by first | exact Nat.ne_of_lt (Nat.lt_of_lt_of_le (by have := World.block_lt_of_cell? _ _ hw431_0; first | rwa [add_block] at this | exact this) GW444.out) | (rw [add_block]; exact Nat.ne_of_lt (Nat.lt_of_lt_of_le (by have := World.block_lt_of_cell? _ _ hw431_0; first | rwa [add_block] at this | exact this) GW444.out)) | (show (Addr.add _ _).block ≠ _; rw [add_block]; exact Nat.ne_of_lt (Nat.lt_of_lt_of_le (by have := World.block_lt_of_cell? _ _ hw431_0; first | rwa [add_block] at this | exact this) GW444.out)) | (dsimp only; exact Nat.ne_of_lt (Nat.lt_of_lt_of_le (by have := World.block_lt_of_cell? _ _ hw431_0; first | rwa [add_block] at this | exact this) GW444.out))) _).trans (((cell_far (p := ⟨gb444, _, none⟩) (by first | exact Nat.ne_of_lt (Nat.lt_of_lt_of_le (by have := World.block_lt_of_cell? _ _ hw431_0; first | rwa [add_block] at this | exact this) GW444.out) | (rw [add_block]; exact Nat.ne_of_lt (Nat.lt_of_lt_of_le (by have := World.block_lt_of_cell? _ _ hw431_0; first | rwa [add_block] at this | exact this) GW444.out)) | (show (Addr.add _ _).block ≠ _; rw [add_block]; exact Nat.ne_of_lt (Nat.lt_of_lt_of_le (by have := World.block_lt_of_cell? _ _ hw431_0; first | rwa [add_block] at this | exact this) GW444.out)) | (dsimp only; exact Nat.ne_of_lt (Nat.lt_of_lt_of_le (by have := World.block_lt_of_cell? _ _ hw431_0; first | rwa [add_block] at this | exact this) GW444.out))) _).trans (hHeld.2.2.2.2.2.2.2.2.2))))))))))))))))))⟩ (fun hHeld => ?_)
           clear hK K
           refine pure_ (i := 11) (N := some 9) (v := ?_) (a' := ?_) #[true, true, true, true, true, true, true, true, true, true, true, true] rfl rfl (any_of HT_.out (by kernel_rfl)) (fun _ _ _ h => h) (Or.inl ⟨by rfl, ?_⟩) ?_ ?_
           rotate_left
           ·intro w'
            go_simp
            with_reducible rfl
           rotate_left
           ·simp only [Act.put, List.setIfInBounds_toArray, List.set_cons_zero, List.set_cons_succ, i64_w, i32_w]
            rfl
           refine done_ (done_of HT_.out (by kernel_rfl)) ?_
           go_upto_block 4 with (fail)
           go_cut [4] (fun v4 wc => ∃ (kq : Nat) (x4_18 : List ByteArray) (x428000_18 : ByteArray) (x428001_18 : ByteArray) (x428002_18 : Int) (x428003_18 : Bool) (x428004_18 : Int) (x428005_18 : Int) (x428006_18 : ByteArray) (x428007_18 : Int) (x428008_18 : List (S50)) (u428008 : Value), Aside0 (brokerlaw46_HopsOnce.j4 kq l0 x4_18 x5_1 x428000_18 x428001_18 x428002_18 x428003_18 x428004_18 x428005_18 x428006_18 x428007_18 x428008_18 = some r) ∧ Aside0 (kq ≤ k3) ∧ Aside0 (Kd.R Kd.string 9 wc w.heap.size (fun _ => True) v4 x4_18) ∧ Aside0 (Kd.R k50 50 wc w.heap.size (fun _ => True) u428008 x428008_18) ∧ Aside0 (Kd.R k50 50 wc w.heap.size (fun _ => True) (.slice Ao34 t440.length co34) t440) ∧ Aside0 (wc.heap[gb427]? = some (.cells #[.string x428000_18, .string x428001_18, .int .i64 x428002_18, .bool x428003_18, .int .i64 x428004_18, .int .i64 x428005_18, .string x428006_18, .int .i64 x428007_18, u428008] 24 (0, 0))) ∧ Aside0 (wc.heap[gb444]? = some (.cells #[.string t432, .string t433, .int .i64 t434, .bool t435, .int .i64 t436, .int .i64 t437, .string t438, .int .i64 t439, (.slice Ao34 t440.length co34)] 24 (0, 0))) ∧ Aside0 (Below w.heap.size w wc))
           case first =>
            have H := HC19.out
            clear HC19
            replace H := Option.bind_eq_some_iff.mp H
            obtain ⟨t446, A360, H⟩ := H
            replace H : (if t446 = true then (if x6_3 = true then (brokerlaw46_HopsOnce.j3 k3 l0 x4_1 x5_1 t443 true x428000_1 x428001_1 x428002_1 x428003_1 x428004_1 x428005_1 x428006_1 x428007_1 x428008_1 t432 t433 t434 t435 t436 t437 t438 t439 t440) else (brokerlaw46_HopsOnce.j3 k3 l0 x4_1 x5_1 t443 (decide ((x4_1.length : Int) ≥ 8)) x428000_1 x428001_1 x428002_1 x428003_1 x428004_1 x428005_1 x428006_1 x428007_1 x428008_1 t432 t433 t434 t435 t436 t437 t438 t439 t440)) else (if t443 = 11 then (brokerlaw46_HopsOnce.j4 k3 l0 x4_1 x5_1 x428000_1 x428001_1 x428002_1 x428003_1 x428004_1 x428005_1 x428006_1 x428007_1 x428008_1) else (none))) = some r := H
            have A36 := Aside0.mk A360
            clear A360
            by_cases c37 : t446 = true
            ·subst c37
             have H1 : (if x6_3 = true then (brokerlaw46_HopsOnce.j3 k3 l0 x4_1 x5_1 t443 true x428000_1 x428001_1 x428002_1 x428003_1 x428004_1 x428005_1 x428006_1 x428007_1 x428008_1 t432 t433 t434 t435 t436 t437 t438 t439 t440) else (brokerlaw46_HopsOnce.j3 k3 l0 x4_1 x5_1 t443 (decide ((x4_1.length : Int) ≥ 8)) x428000_1 x428001_1 x428002_1 x428003_1 x428004_1 x428005_1 x428006_1 x428007_1 x428008_1 t432 t433 t434 t435 t436 t437 t438 t439 t440)) = some r := by rw [if_pos rfl] at H; exact H
             clear H
             have H := H1
             clear H1
             have HC38 := Aside0.mk H
             clear H
             have p445 : 0 ≤ (x5_1 : Int) := of_decide_eq_true (by first | (with_reducible assumption) | assumption)
             have q445 : x5_1 < (l0.length : Int) := of_decide_eq_true (by first | (with_reducible assumption) | assumption)
             obtain ⟨ad445, e445, hx445_0⟩ := Kd.at_string HR0.out x5_1 p445 q445
             obtain rfl : ad431 = ad445 := (by injection e445)
             have hn445_0 : ad431.block ≠ gb444 := Nat.ne_of_lt (Nat.lt_of_lt_of_le (by have := World.block_lt_of_cell? _ _ hx445_0; first | rwa [add_block] at this | exact this) GW444.out)
             have hn445_1 : ad431.block ≠ gb444 := Nat.ne_of_lt (Nat.lt_of_lt_of_le (by have := World.block_lt_of_cell? _ _ hx445_0; first | rwa [add_block] at this | exact this) GW444.out)
             have hn445_2 : ad431.block ≠ gb444 := Nat.ne_of_lt (Nat.lt_of_lt_of_le (by have := World.block_lt_of_cell? _ _ hx445_0; first | rwa [add_block] at this | exact this) GW444.out)
             have hn445_3 : ad431.block ≠ gb444 := Nat.ne_of_lt (Nat.lt_of_lt_of_le (by have := World.block_lt_of_cell? _ _ hx445_0; first | rwa [add_block] at this | exact this) GW444.out)
             have hn445_4 : ad431.block ≠ gb444 := Nat.ne_of_lt (Nat.lt_of_lt_of_le (by have := World.block_lt_of_cell? _ _ hx445_0; first | rwa [add_block] at this | exact this) GW444.out)
             have hn445_5 : ad431.block ≠ gb444 := Nat.ne_of_lt (Nat.lt_of_lt_of_le (by have := World.block_lt_of_cell? _ _ hx445_0; first | rwa [add_block] at this | exact this) GW444.out)
             have hn445_6 : ad431.block ≠ gb444 := Nat.ne_of_lt (Nat.lt_of_lt_of_le (by have := World.block_lt_of_cell? _ _ hx445_0; first | rwa [add_block] at this | exact this) GW444.out)
             have hn445_7 : ad431.block ≠ gb444 := Nat.ne_of_lt (Nat.lt_of_lt_of_le (by have := World.block_lt_of_cell? _ _ hx445_0; first | rwa [add_block] at this | exact this) GW444.out)
             have hn445_8 : ad431.block ≠ gb444 := Nat.ne_of_lt (Nat.lt_of_lt_of_le (by have := World.block_lt_of_cell? _ _ hx445_0; first | rwa [add_block] at this | exact this) GW444.out)
             replace hx445_0 := (HB.out.cell (World.block_lt_of_cell? w _ hx445_0)).trans hx445_0
             replace hx445_0 := (cell_far (p := ⟨gb444, 0, none⟩) (by first | (rw [add_block]; exact hn445_0) | (show (Addr.add _ _).block ≠ _; rw [add_block]; exact hn445_0) | exact hn445_0) (.string t432)).trans hx445_0
             replace hx445_0 := (cell_far (p := ⟨gb444, 1, none⟩) (by first | (rw [add_block]; exact hn445_1) | (show (Addr.add _ _).block ≠ _; rw [add_block]; exact hn445_1) | exact hn445_1) (.string t433)).trans hx445_0
             replace hx445_0 := (cell_far (p := ⟨gb444, 2, none⟩) (by first | (rw [add_block]; exact hn445_2) | (show (Addr.add _ _).block ≠ _; rw [add_block]; exact hn445_2) | exact hn445_2) (.int .i64 t434)).trans hx445_0
             replace hx445_0 := (cell_far (p := ⟨gb444, 3, none⟩) (by first | (rw [add_block]; exact hn445_3) | (show (Addr.add _ _).block ≠ _; rw [add_block]; exact hn445_3) | exact hn445_3) (.bool t435)).trans hx445_0
             replace hx445_0 := (cell_far (p := ⟨gb444, 4, none⟩) (by first | (rw [add_block]; exact hn445_4) | (show (Addr.add _ _).block ≠ _; rw [add_block]; exact hn445_4) | exact hn445_4) (.int .i64 t436)).trans hx445_0
             replace hx445_0 := (cell_far (p := ⟨gb444, 5, none⟩) (by first | (rw [add_block]; exact hn445_5) | (show (Addr.add _ _).block ≠ _; rw [add_block]; exact hn445_5) | exact hn445_5) (.int .i64 t437)).trans hx445_0
             replace hx445_0 := (cell_far (p := ⟨gb444, 6, none⟩) (by first | (rw [add_block]; exact hn445_6) | (show (Addr.add _ _).block ≠ _; rw [add_block]; exact hn445_6) | exact hn445_6) (.string t438)).trans hx445_0
             replace hx445_0 := (cell_far (p := ⟨gb444, 7, none⟩) (by first | (rw [add_block]; exact hn445_7) | (show (Addr.add _ _).block ≠ _; rw [add_block]; exact hn445_7) | exact hn445_7) (.int .i64 t439)).trans hx445_0
             replace hx445_0 := (cell_far (p := ⟨gb444, 8, none⟩) (by first | (rw [add_block]; exact hn445_8) | (show (Addr.add _ _).block ≠ _; rw [add_block]; exact hn445_8) | exact hn445_8) (.slice Ao34 t440.length co34)).trans hx445_0
             clear hn445_0
             clear hn445_1
             clear hn445_2
             clear hn445_3
             clear hn445_4
             clear hn445_5
             clear hn445_6
             clear hn445_7
             clear hn445_8
             replace p445 := eq_true p445
             replace q445 := eq_true q445
             go_upto_region 19 with (first | ((with_reducible refine gate_callee (f := 21) rfl ?_); refine goesL_ (some 63) rfl rfl Tryd.func21 (by kernel_rfl) rfl #[.string (rdOf ByteArray.empty l0 x5_1)] rfl (by (try simp only [List.map_toArray, List.map_cons, List.map_nil]); first | done | rfl | (simp only [List.length_drop, List.length_take]; rfl)) ?_; (with_reducible refine (brokerref01_Name.calls k3 (rdOf ByteArray.empty l0 x5_1) true _ A36.out).mono ?_); rintro e w' ⟨rfl, ⟨nd, rfl⟩⟩; refine ⟨_, rfl, ?_⟩))
             (try simp only [Act.put, List.setIfInBounds_toArray, List.set_cons_zero, List.set_cons_succ])
             go_cut [67] (fun v67 wc => ∃ (kq : Nat) (x67_37 : Bool), v67 = .bool x67_37 ∧ Aside0 (brokerlaw46_HopsOnce.j3 kq l0 x4_1 x5_1 t443 x67_37 x428000_1 x428001_1 x428002_1 x428003_1 x428004_1 x428005_1 x428006_1 x428007_1 x428008_1 t432 t433 t434 t435 t436 t437 t438 t439 t440 = some r) ∧ Aside0 (kq ≤ k3) ∧ Aside0 (Kd.R Kd.string 9 wc w.heap.size (fun _ => True) (.slice Ao20 x4_1.length co20) x4_1) ∧ Aside0 (Kd.R k50 50 wc w.heap.size (fun k_ => some k_ ≠ ((.slice Ao34 t440.length co34) : Value).ownBlock) (.slice Ao21 x428008_1.length co21) x428008_1) ∧ Aside0 (Kd.R k50 50 wc w.heap.size (fun k_ => some k_ ≠ ((.slice Ao21 x428008_1.length co21) : Value).ownBlock) (.slice Ao34 t440.length co34) t440) ∧ Aside0 (wc.heap[gb427]? = some (.cells #[.string x428000_1, .string x428001_1, .int .i64 x428002_1, .bool x428003_1, .int .i64 x428004_1, .int .i64 x428005_1, .string x428006_1, .int .i64 x428007_1, (.slice Ao21 x428008_1.length co21)] 24 (0, 0))) ∧ Aside0 (wc.heap[gb444]? = some (.cells #[.string t432, .string t433, .int .i64 t434, .bool t435, .int .i64 t436, .int .i64 t437, .string t438, .int .i64 t439, (.slice Ao34 t440.length co34)] 24 (0, 0))) ∧ Aside0 (Below w.heap.size w wc))
             case first =>
              have H := HC38.out
              clear HC38
              by_cases c39 : x6_3 = true
              ·subst c39
               have H1 : (brokerlaw46_HopsOnce.j3 k3 l0 x4_1 x5_1 t443 true x428000_1 x428001_1 x428002_1 x428003_1 x428004_1 x428005_1 x428006_1 x428007_1 x428008_1 t432 t433 t434 t435 t436 t437 t438 t439 t440) = some r := by rw [if_pos rfl] at H; exact H
               clear H
               have H := H1
               clear H1
               have H' := Aside0.mk H
               clear H
               go_wp2
               go_meet
               case rel => exact ⟨_, (true), (by first | rfl | (simp; done) | (simp [*]; done)), H', ⟨by have := HK1.out; have := HJ3.out; have := HK3.out; first | omega | exact Nat.le_refl _⟩, ⟨by (with_reducible repeat (first | apply Kd.R_alloc | apply Kd.R_drewN | apply Kd.R_drew)); exact Kd.R_mono (Kd.R_far (p := ⟨gb444, 8, none⟩) (Kd.R_far (p := ⟨gb444, 7, none⟩) (Kd.R_far (p := ⟨gb444, 6, none⟩) (Kd.R_far (p := ⟨gb444, 5, none⟩) (Kd.R_far (p := ⟨gb444, 4, none⟩) (Kd.R_far (p := ⟨gb444, 3, none⟩) (Kd.R_far (p := ⟨gb444, 2, none⟩) (Kd.R_far (p := ⟨gb444, 1, none⟩) (Kd.R_far (p := ⟨gb444, 0, none⟩) (Kd.R_types HO_4.out BK444.out (by decide)) (fun _ hk => hk.2) (.string t432)) (fun _ hk => hk.2) (.string t433)) (fun _ hk => hk.2) (.int .i64 t434)) (fun _ hk => hk.2) (.bool t435)) (fun _ hk => hk.2) (.int .i64 t436)) (fun _ hk => hk.2) (.int .i64 t437)) (fun _ hk => hk.2) (.string t438)) (fun _ hk => hk.2) (.int .i64 t439)) (fun _ hk => hk.2) (.slice Ao34 t440.length co34)) (fun _ hk => trivial)⟩, ⟨by (with_reducible repeat (first | apply Kd.R_alloc | apply Kd.R_drewN | apply Kd.R_drew)); exact Kd.R_mono (Kd.R_far (p := ⟨gb444, 8, none⟩) (Kd.R_far (p := ⟨gb444, 7, none⟩) (Kd.R_far (p := ⟨gb444, 6, none⟩) (Kd.R_far (p := ⟨gb444, 5, none⟩) (Kd.R_far (p := ⟨gb444, 4, none⟩) (Kd.R_far (p := ⟨gb444, 3, none⟩) (Kd.R_far (p := ⟨gb444, 2, none⟩) (Kd.R_far (p := ⟨gb444, 1, none⟩) (Kd.R_far (p := ⟨gb444, 0, none⟩) (Kd.R_types HO_428008.out BK444.out (by decide)) (fun _ hk => hk.2) (.string t432)) (fun _ hk => hk.2) (.string t433)) (fun _ hk => hk.2) (.int .i64 t434)) (fun _ hk => hk.2) (.bool t435)) (fun _ hk => hk.2) (.int .i64 t436)) (fun _ hk => hk.2) (.int .i64 t437)) (fun _ hk => hk.2) (.string t438)) (fun _ hk => hk.2) (.int .i64 t439)) (fun _ hk => hk.2) (.slice Ao34 t440.length co34)) (fun _ hk => hk.1)⟩, ⟨by (with_reducible repeat (first | apply Kd.R_alloc | apply Kd.R_drewN | apply Kd.R_drew)); exact Kd.R_mono (Kd.R_far (p := ⟨gb444, 8, none⟩) (Kd.R_far (p := ⟨gb444, 7, none⟩) (Kd.R_far (p := ⟨gb444, 6, none⟩) (Kd.R_far (p := ⟨gb444, 5, none⟩) (Kd.R_far (p := ⟨gb444, 4, none⟩) (Kd.R_far (p := ⟨gb444, 3, none⟩) (Kd.R_far (p := ⟨gb444, 2, none⟩) (Kd.R_far (p := ⟨gb444, 1, none⟩) (Kd.R_far (p := ⟨gb444, 0, none⟩) (Kd.R_types HO442.out BK444.out (by decide)) (fun _ hk => hk.2) (.string t432)) (fun _ hk => hk.2) (.string t433)) (fun _ hk => hk.2) (.int .i64 t434)) (fun _ hk => hk.2) (.bool t435)) (fun _ hk => hk.2) (.int .i64 t436)) (fun _ hk => hk.2) (.int .i64 t437)) (fun _ hk => hk.2) (.string t438)) (fun _ hk => hk.2) (.int .i64 t439)) (fun _ hk => hk.2) (.slice Ao34 t440.length co34)) (fun _ hk => hk.1)⟩, ⟨by (with_reducible repeat (first | refine blk_drewN ?_ _ | refine blk_drew ?_ | refine blk_alloc ?_ _)); refine blk_far ?_ NB427_444.out _; (with_reducible repeat (first | refine blk_drewN ?_ _ | refine blk_drew ?_ | refine blk_alloc ?_ _)); refine blk_far ?_ NB427_444.out _; (with_reducible repeat (first | refine blk_drewN ?_ _ | refine blk_drew ?_ | refine blk_alloc ?_ _)); refine blk_far ?_ NB427_444.out _; (with_reducible repeat (first | refine blk_drewN ?_ _ | refine blk_drew ?_ | refine blk_alloc ?_ _)); refine blk_far ?_ NB427_444.out _; (with_reducible repeat (first | refine blk_drewN ?_ _ | refine blk_drew ?_ | refine blk_alloc ?_ _)); refine blk_far ?_ NB427_444.out _; (with_reducible repeat (first | refine blk_drewN ?_ _ | refine blk_drew ?_ | refine blk_alloc ?_ _)); refine blk_far ?_ NB427_444.out _; (with_reducible repeat (first | refine blk_drewN ?_ _ | refine blk_drew ?_ | refine blk_alloc ?_ _)); refine blk_far ?_ NB427_444.out _; (with_reducible repeat (first | refine blk_drewN ?_ _ | refine blk_drew ?_ | refine blk_alloc ?_ _)); refine blk_far ?_ NB427_444.out _; (with_reducible repeat (first | refine blk_drewN ?_ _ | refine blk_drew ?_ | refine blk_alloc ?_ _)); refine blk_far ?_ NB427_444.out _; (with_reducible repeat (first | refine blk_drewN ?_ _ | refine blk_drew ?_ | refine blk_alloc ?_ _)); exact BK427.out⟩, ⟨by (with_reducible repeat (first | refine blk_drewN ?_ _ | refine blk_drew ?_ | refine blk_alloc ?_ _)); refine blk_put (cs := #[.string t432, .string t433, .int .i64 t434, .bool t435, .int .i64 t436, .int .i64 t437, .string t438, .int .i64 t439, .slice none 0 0]) ?_ 8 _ rfl; (with_reducible repeat (first | refine blk_drewN ?_ _ | refine blk_drew ?_ | refine blk_alloc ?_ _)); refine blk_put (cs := #[.string t432, .string t433, .int .i64 t434, .bool t435, .int .i64 t436, .int .i64 t437, .string t438, .int .i64 0, .slice none 0 0]) ?_ 7 _ rfl; (with_reducible repeat (first | refine blk_drewN ?_ _ | refine blk_drew ?_ | refine blk_alloc ?_ _)); refine blk_put (cs := #[.string t432, .string t433, .int .i64 t434, .bool t435, .int .i64 t436, .int .i64 t437, .string (⟨#[]⟩ : ByteArray), .int .i64 0, .slice none 0 0]) ?_ 6 _ rfl; (with_reducible repeat (first | refine blk_drewN ?_ _ | refine blk_drew ?_ | refine blk_alloc ?_ _)); refine blk_put (cs := #[.string t432, .string t433, .int .i64 t434, .bool t435, .int .i64 t436, .int .i64 0, .string (⟨#[]⟩ : ByteArray), .int .i64 0, .slice none 0 0]) ?_ 5 _ rfl; (with_reducible repeat (first | refine blk_drewN ?_ _ | refine blk_drew ?_ | refine blk_alloc ?_ _)); refine blk_put (cs := #[.string t432, .string t433, .int .i64 t434, .bool t435, .int .i64 0, .int .i64 0, .string (⟨#[]⟩ : ByteArray), .int .i64 0, .slice none 0 0]) ?_ 4 _ rfl; (with_reducible repeat (first | refine blk_drewN ?_ _ | refine blk_drew ?_ | refine blk_alloc ?_ _)); refine blk_put (cs := #[.string t432, .string t433, .int .i64 t434, .bool false, .int .i64 0, .int .i64 0, .string (⟨#[]⟩ : ByteArray), .int .i64 0, .slice none 0 0]) ?_ 3 _ rfl; (with_reducible repeat (first | refine blk_drewN ?_ _ | refine blk_drew ?_ | refine blk_alloc ?_ _)); refine blk_put (cs := #[.string t432, .string t433, .int .i64 0, .bool false, .int .i64 0, .int .i64 0, .string (⟨#[]⟩ : ByteArray), .int .i64 0, .slice none 0 0]) ?_ 2 _ rfl; (with_reducible repeat (first | refine blk_drewN ?_ _ | refine blk_drew ?_ | refine blk_alloc ?_ _)); refine blk_put (cs := #[.string t432, .string (⟨#[]⟩ : ByteArray), .int .i64 0, .bool false, .int .i64 0, .int .i64 0, .string (⟨#[]⟩ : ByteArray), .int .i64 0, .slice none 0 0]) ?_ 1 _ rfl; (with_reducible repeat (first | refine blk_drewN ?_ _ | refine blk_drew ?_ | refine blk_alloc ?_ _)); refine blk_put (cs := #[.string (⟨#[]⟩ : ByteArray), .string (⟨#[]⟩ : ByteArray), .int .i64 0, .bool false, .int .i64 0, .int .i64 0, .string (⟨#[]⟩ : ByteArray), .int .i64 0, .slice none 0 0]) ?_ 0 _ rfl; (with_reducible repeat (first | refine blk_drewN ?_ _ | refine blk_drew ?_ | refine blk_alloc ?_ _)); exact BK444.out⟩, ⟨by repeat (first | (with_reducible first | exact HB.out | apply below_alloc | apply pw_below_drewN | apply below_drew1 | refine below_set ?_ GE427.out | refine below_set ?_ GE444.out) | exact HB.out)⟩⟩
              ·replace c39 := Bool.eq_false_iff.mpr c39
               subst c39
               have H1 : (brokerlaw46_HopsOnce.j3 k3 l0 x4_1 x5_1 t443 (decide ((x4_1.length : Int) ≥ 8)) x428000_1 x428001_1 x428002_1 x428003_1 x428004_1 x428005_1 x428006_1 x428007_1 x428008_1 t432 t433 t434 t435 t436 t437 t438 t439 t440) = some r := by rw [if_neg (show ¬ (false = true) by decide)] at H; exact H
               clear H
               have H := H1
               clear H1
               have H' := Aside0.mk H
               clear H
               go_wp2
               go_meet
               case rel => exact ⟨_, (decide ((x4_1.length : Int) ≥ 8)), (by first | rfl | (simp; done) | (simp [*]; done)), H', ⟨by have := HK1.out; have := HJ3.out; have := HK3.out; first | omega | exact Nat.le_refl _⟩, ⟨by (with_reducible repeat (first | apply Kd.R_alloc | apply Kd.R_drewN | apply Kd.R_drew)); exact Kd.R_mono (Kd.R_far (p := ⟨gb444, 8, none⟩) (Kd.R_far (p := ⟨gb444, 7, none⟩) (Kd.R_far (p := ⟨gb444, 6, none⟩) (Kd.R_far (p := ⟨gb444, 5, none⟩) (Kd.R_far (p := ⟨gb444, 4, none⟩) (Kd.R_far (p := ⟨gb444, 3, none⟩) (Kd.R_far (p := ⟨gb444, 2, none⟩) (Kd.R_far (p := ⟨gb444, 1, none⟩) (Kd.R_far (p := ⟨gb444, 0, none⟩) (Kd.R_types HO_4.out BK444.out (by decide)) (fun _ hk => hk.2) (.string t432)) (fun _ hk => hk.2) (.string t433)) (fun _ hk => hk.2) (.int .i64 t434)) (fun _ hk => hk.2) (.bool t435)) (fun _ hk => hk.2) (.int .i64 t436)) (fun _ hk => hk.2) (.int .i64 t437)) (fun _ hk => hk.2) (.string t438)) (fun _ hk => hk.2) (.int .i64 t439)) (fun _ hk => hk.2) (.slice Ao34 t440.length co34)) (fun _ hk => trivial)⟩, ⟨by (with_reducible repeat (first | apply Kd.R_alloc | apply Kd.R_drewN | apply Kd.R_drew)); exact Kd.R_mono (Kd.R_far (p := ⟨gb444, 8, none⟩) (Kd.R_far (p := ⟨gb444, 7, none⟩) (Kd.R_far (p := ⟨gb444, 6, none⟩) (Kd.R_far (p := ⟨gb444, 5, none⟩) (Kd.R_far (p := ⟨gb444, 4, none⟩) (Kd.R_far (p := ⟨gb444, 3, none⟩) (Kd.R_far (p := ⟨gb444, 2, none⟩) (Kd.R_far (p := ⟨gb444, 1, none⟩) (Kd.R_far (p := ⟨gb444, 0, none⟩) (Kd.R_types HO_428008.out BK444.out (by decide)) (fun _ hk => hk.2) (.string t432)) (fun _ hk => hk.2) (.string t433)) (fun _ hk => hk.2) (.int .i64 t434)) (fun _ hk => hk.2) (.bool t435)) (fun _ hk => hk.2) (.int .i64 t436)) (fun _ hk => hk.2) (.int .i64 t437)) (fun _ hk => hk.2) (.string t438)) (fun _ hk => hk.2) (.int .i64 t439)) (fun _ hk => hk.2) (.slice Ao34 t440.length co34)) (fun _ hk => hk.1)⟩, ⟨by (with_reducible repeat (first | apply Kd.R_alloc | apply Kd.R_drewN | apply Kd.R_drew)); exact Kd.R_mono (Kd.R_far (p := ⟨gb444, 8, none⟩) (Kd.R_far (p := ⟨gb444, 7, none⟩) (Kd.R_far (p := ⟨gb444, 6, none⟩) (Kd.R_far (p := ⟨gb444, 5, none⟩) (Kd.R_far (p := ⟨gb444, 4, none⟩) (Kd.R_far (p := ⟨gb444, 3, none⟩) (Kd.R_far (p := ⟨gb444, 2, none⟩) (Kd.R_far (p := ⟨gb444, 1, none⟩) (Kd.R_far (p := ⟨gb444, 0, none⟩) (Kd.R_types HO442.out BK444.out (by decide)) (fun _ hk => hk.2) (.string t432)) (fun _ hk => hk.2) (.string t433)) (fun _ hk => hk.2) (.int .i64 t434)) (fun _ hk => hk.2) (.bool t435)) (fun _ hk => hk.2) (.int .i64 t436)) (fun _ hk => hk.2) (.int .i64 t437)) (fun _ hk => hk.2) (.string t438)) (fun _ hk => hk.2) (.int .i64 t439)) (fun _ hk => hk.2) (.slice Ao34 t440.length co34)) (fun _ hk => hk.1)⟩, ⟨by (with_reducible repeat (first | refine blk_drewN ?_ _ | refine blk_drew ?_ | refine blk_alloc ?_ _)); refine blk_far ?_ NB427_444.out _; (with_reducible repeat (first | refine blk_drewN ?_ _ | refine blk_drew ?_ | refine blk_alloc ?_ _)); refine blk_far ?_ NB427_444.out _; (with_reducible repeat (first | refine blk_drewN ?_ _ | refine blk_drew ?_ | refine blk_alloc ?_ _)); refine blk_far ?_ NB427_444.out _; (with_reducible repeat (first | refine blk_drewN ?_ _ | refine blk_drew ?_ | refine blk_alloc ?_ _)); refine blk_far ?_ NB427_444.out _; (with_reducible repeat (first | refine blk_drewN ?_ _ | refine blk_drew ?_ | refine blk_alloc ?_ _)); refine blk_far ?_ NB427_444.out _; (with_reducible repeat (first | refine blk_drewN ?_ _ | refine blk_drew ?_ | refine blk_alloc ?_ _)); refine blk_far ?_ NB427_444.out _; (with_reducible repeat (first | refine blk_drewN ?_ _ | refine blk_drew ?_ | refine blk_alloc ?_ _)); refine blk_far ?_ NB427_444.out _; (with_reducible repeat (first | refine blk_drewN ?_ _ | refine blk_drew ?_ | refine blk_alloc ?_ _)); refine blk_far ?_ NB427_444.out _; (with_reducible repeat (first | refine blk_drewN ?_ _ | refine blk_drew ?_ | refine blk_alloc ?_ _)); refine blk_far ?_ NB427_444.out _; (with_reducible repeat (first | refine blk_drewN ?_ _ | refine blk_drew ?_ | refine blk_alloc ?_ _)); exact BK427.out⟩, ⟨by (with_reducible repeat (first | refine blk_drewN ?_ _ | refine blk_drew ?_ | refine blk_alloc ?_ _)); refine blk_put (cs := #[.string t432, .string t433, .int .i64 t434, .bool t435, .int .i64 t436, .int .i64 t437, .string t438, .int .i64 t439, .slice none 0 0]) ?_ 8 _ rfl; (with_reducible repeat (first | refine blk_drewN ?_ _ | refine blk_drew ?_ | refine blk_alloc ?_ _)); refine blk_put (cs := #[.string t432, .string t433, .int .i64 t434, .bool t435, .int .i64 t436, .int .i64 t437, .string t438, .int .i64 0, .slice none 0 0]) ?_ 7 _ rfl; (with_reducible repeat (first | refine blk_drewN ?_ _ | refine blk_drew ?_ | refine blk_alloc ?_ _)); refine blk_put (cs := #[.string t432, .string t433, .int .i64 t434, .bool t435, .int .i64 t436, .int .i64 t437, .string (⟨#[]⟩ : ByteArray), .int .i64 0, .slice none 0 0]) ?_ 6 _ rfl; (with_reducible repeat (first | refine blk_drewN ?_ _ | refine blk_drew ?_ | refine blk_alloc ?_ _)); refine blk_put (cs := #[.string t432, .string t433, .int .i64 t434, .bool t435, .int .i64 t436, .int .i64 0, .string (⟨#[]⟩ : ByteArray), .int .i64 0, .slice none 0 0]) ?_ 5 _ rfl; (with_reducible repeat (first | refine blk_drewN ?_ _ | refine blk_drew ?_ | refine blk_alloc ?_ _)); refine blk_put (cs := #[.string t432, .string t433, .int .i64 t434, .bool t435, .int .i64 0, .int .i64 0, .string (⟨#[]⟩ : ByteArray), .int .i64 0, .slice none 0 0]) ?_ 4 _ rfl; (with_reducible repeat (first | refine blk_drewN ?_ _ | refine blk_drew ?_ | refine blk_alloc ?_ _)); refine blk_put (cs := #[.string t432, .string t433, .int .i64 t434, .bool false, .int .i64 0, .int .i64 0, .string (⟨#[]⟩ : ByteArray), .int .i64 0, .slice none 0 0]) ?_ 3 _ rfl; (with_reducible repeat (first | refine blk_drewN ?_ _ | refine blk_drew ?_ | refine blk_alloc ?_ _)); refine blk_put (cs := #[.string t432, .string t433, .int .i64 0, .bool false, .int .i64 0, .int .i64 0, .string (⟨#[]⟩ : ByteArray), .int .i64 0, .slice none 0 0]) ?_ 2 _ rfl; (with_reducible repeat (first | refine blk_drewN ?_ _ | refine blk_drew ?_ | refine blk_alloc ?_ _)); refine blk_put (cs := #[.string t432, .string (⟨#[]⟩ : ByteArray), .int .i64 0, .bool false, .int .i64 0, .int .i64 0, .string (⟨#[]⟩ : ByteArray), .int .i64 0, .slice none 0 0]) ?_ 1 _ rfl; (with_reducible repeat (first | refine blk_drewN ?_ _ | refine blk_drew ?_ | refine blk_alloc ?_ _)); refine blk_put (cs := #[.string (⟨#[]⟩ : ByteArray), .string (⟨#[]⟩ : ByteArray), .int .i64 0, .bool false, .int .i64 0, .int .i64 0, .string (⟨#[]⟩ : ByteArray), .int .i64 0, .slice none 0 0]) ?_ 0 _ rfl; (with_reducible repeat (first | refine blk_drewN ?_ _ | refine blk_drew ?_ | refine blk_alloc ?_ _)); exact BK444.out⟩, ⟨by repeat (first | (with_reducible first | exact HB.out | apply below_alloc | apply pw_below_drewN | apply below_drew1 | refine below_set ?_ GE427.out | refine below_set ?_ GE444.out) | exact HB.out)⟩⟩
             case rest =>
              clear HC38
              try clear c1
              try clear c2
              try clear p2
              try clear c3
              try clear p4
              try clear q4
              try clear hx4
              try clear p6
              try clear c7
              try clear c7b0
              try clear c11
              try clear c12
              try clear c13
              try clear c16
              try clear c16b0
              try clear c17
              try clear c17b0
              try clear c21
              try clear c37
              try clear c39
              try clear hx429_0
              try clear hx430_0
              try clear hx431_0
              try clear hx445_0
              try clear p429
              try clear p430
              try clear p431
              try clear p445
              try clear q429
              try clear q430
              try clear q431
              try clear q445
              obtain ⟨kq, x67_37, rfl, HA, HJ37, HO_4, HO_428008, HO_445008, BK427, BK444, HB⟩ := hcut
              cases kq with
              | zero => exact absurd HA.out (by simp [brokerlaw46_HopsOnce.j3])
              | succ kj37 =>
               have H := HA.out
               clear HA
               simp only [brokerlaw46_HopsOnce.j3] at H
               by_cases c40 : x67_37 = true
               ·subst c40
                have H1 : (if t443 = 20 then (brokerlaw46_HopsOnce.j4 kj37 l0 x4_1 x5_1 x428000_1 x428001_1 x428002_1 x428003_1 x428004_1 x428005_1 x428006_1 x428007_1 x428008_1) else (none)) = some r := by rw [if_pos rfl] at H; exact H
                clear H
                have H := H1
                clear H1
                by_cases c41 : t443 = 20
                ·rw [if_pos c41] at H
                 have c41b0 : (t443 == 20) = true := beq_iff_eq.mpr c41
                 have c41b1 : (t443 != 20) = false := bne_eq_false_iff_eq.mpr c41
                 clear c41
                 have H' := Aside0.mk H
                 clear H
                 go_wp2
                 go_meet
                 case rel => exact ⟨_, (x4_1), (x428000_1), (x428001_1), (x428002_1), (x428003_1), (x428004_1), (x428005_1), (x428006_1), (x428007_1), (x428008_1), (.slice Ao21 x428008_1.length co21), H', ⟨by have := HK1.out; have := HJ3.out; have := HK3.out; have := HJ37.out; first | omega | exact Nat.le_refl _⟩, ⟨by (with_reducible repeat (first | apply Kd.R_alloc | apply Kd.R_drewN | apply Kd.R_drew)); exact HO_4.out⟩, ⟨by (with_reducible repeat (first | apply Kd.R_alloc | apply Kd.R_drewN | apply Kd.R_drew)); exact Kd.R_mono HO_428008.out (fun _ hk => trivial)⟩, ⟨by (with_reducible repeat (first | apply Kd.R_alloc | apply Kd.R_drewN | apply Kd.R_drew)); exact Kd.R_mono HO_445008.out (fun _ hk => trivial)⟩, ⟨by (with_reducible repeat (first | refine blk_drewN ?_ _ | refine blk_drew ?_ | refine blk_alloc ?_ _)); exact BK427.out⟩, ⟨by (with_reducible repeat (first | refine blk_drewN ?_ _ | refine blk_drew ?_ | refine blk_alloc ?_ _)); exact BK444.out⟩, ⟨by repeat (first | (with_reducible first | exact HB.out | apply below_alloc | apply pw_below_drewN | apply below_drew1 | refine below_set ?_ GE427.out | refine below_set ?_ GE444.out) | exact HB.out)⟩⟩
                ·rw [if_neg c41] at H
                 exact absurd H (by simp)
               ·replace c40 := Bool.eq_false_iff.mpr c40
                subst c40
                have H1 : (if t443 = 0 then (if 0 ≤ x5_1 then (if x5_1 < (l0.length : Int) then (if x4_1.length < 8796093022208 then (brokerlaw46_HopsOnce.j4 kj37 l0 (x4_1 ++ [rdOf ByteArray.empty l0 x5_1]) x5_1 t432 t433 t434 t435 t436 t437 t438 t439 t440) else (none)) else (none)) else (none)) else (none)) = some r := by rw [if_neg (show ¬ (false = true) by decide)] at H; exact H
                clear H
                have H := H1
                clear H1
                by_cases c42 : t443 = 0
                ·rw [if_pos c42] at H
                 have c42b0 : (t443 == 0) = true := beq_iff_eq.mpr c42
                 have c42b1 : (t443 != 0) = false := bne_eq_false_iff_eq.mpr c42
                 clear c42
                 by_cases c43 : 0 ≤ x5_1
                 ·rw [if_pos c43] at H
                  have c43b0 : decide (0 ≤ x5_1) = true := decide_eq_true c43
                  clear c43
                  by_cases c44 : x5_1 < (l0.length : Int)
                  ·rw [if_pos c44] at H
                   have c44b0 : decide (x5_1 < (l0.length : Int)) = true := decide_eq_true c44
                   clear c44
                   by_cases c45 : x4_1.length < 8796093022208
                   ·rw [if_pos c45] at H
                    have LMc45 := Aside0.mk c45
                    clear c45
                    obtain ⟨y448, hy448⟩ : ∃ y_ : List ByteArray, y_ = (x4_1 ++ [rdOf ByteArray.empty l0 x5_1]) := ⟨_, rfl⟩
                    replace H : (brokerlaw46_HopsOnce.j4 kj37 l0 y448 x5_1 t432 t433 t434 t435 t436 t437 t438 t439 t440) = some r := by first | (rw [hy448]; with_reducible exact H) | (have H2_ := (Option.bind_some _ _).symm.trans H; rw [hy448]; with_reducible exact H2_) | (have H2_ := (Option.bind_some _ _).symm.trans H; with_reducible exact H2_) | with_reducible exact H | (rw [hy448]; exact H) | exact H
                    have Ny448 := Aside0.mk hy448
                    clear hy448
                    have H' := Aside0.mk H
                    clear H
                    have hnb46 := NB444_427.out
                    have hnc46 := NB427_444.out
                    have hcz47_0 : wc.cell? ⟨gb444, 0, none⟩ = some (.string t432) := (blk_cell BK444.out 0).trans rfl
                    have hcz47_1 : wc.cell? ⟨gb444, 1, none⟩ = some (.string t433) := (blk_cell BK444.out 1).trans rfl
                    have hcz47_2 : wc.cell? ⟨gb444, 2, none⟩ = some (.int .i64 t434) := (blk_cell BK444.out 2).trans rfl
                    have hcz47_3 : wc.cell? ⟨gb444, 3, none⟩ = some (.bool t435) := (blk_cell BK444.out 3).trans rfl
                    have hcz47_4 : wc.cell? ⟨gb444, 4, none⟩ = some (.int .i64 t436) := (blk_cell BK444.out 4).trans rfl
                    have hcz47_5 : wc.cell? ⟨gb444, 5, none⟩ = some (.int .i64 t437) := (blk_cell BK444.out 5).trans rfl
                    have hcz47_6 : wc.cell? ⟨gb444, 6, none⟩ = some (.string t438) := (blk_cell BK444.out 6).trans rfl
                    have hcz47_7 : wc.cell? ⟨gb444, 7, none⟩ = some (.int .i64 t439) := (blk_cell BK444.out 7).trans rfl
                    have hcz47_8 : wc.cell? ⟨gb444, 8, none⟩ = some (.slice Ao34 t440.length co34) := (blk_cell BK444.out 8).trans rfl
                    have hfz47_0 := blk_frozen BK444.out 0
                    have hfz47_1 := blk_frozen BK444.out 1
                    have hfz47_2 := blk_frozen BK444.out 2
                    have hfz47_3 := blk_frozen BK444.out 3
                    have hfz47_4 := blk_frozen BK444.out 4
                    have hfz47_5 := blk_frozen BK444.out 5
                    have hfz47_6 := blk_frozen BK444.out 6
                    have hfz47_7 := blk_frozen BK444.out 7
                    have hfz47_8 := blk_frozen BK444.out 8
                    have hcz48_0 : wc.cell? ⟨gb427, 0, none⟩ = some (.string x428000_1) := (blk_cell BK427.out 0).trans rfl
                    have hcz48_1 : wc.cell? ⟨gb427, 1, none⟩ = some (.string x428001_1) := (blk_cell BK427.out 1).trans rfl
                    have hcz48_2 : wc.cell? ⟨gb427, 2, none⟩ = some (.int .i64 x428002_1) := (blk_cell BK427.out 2).trans rfl
                    have hcz48_3 : wc.cell? ⟨gb427, 3, none⟩ = some (.bool x428003_1) := (blk_cell BK427.out 3).trans rfl
                    have hcz48_4 : wc.cell? ⟨gb427, 4, none⟩ = some (.int .i64 x428004_1) := (blk_cell BK427.out 4).trans rfl
                    have hcz48_5 : wc.cell? ⟨gb427, 5, none⟩ = some (.int .i64 x428005_1) := (blk_cell BK427.out 5).trans rfl
                    have hcz48_6 : wc.cell? ⟨gb427, 6, none⟩ = some (.string x428006_1) := (blk_cell BK427.out 6).trans rfl
                    have hcz48_7 : wc.cell? ⟨gb427, 7, none⟩ = some (.int .i64 x428007_1) := (blk_cell BK427.out 7).trans rfl
                    have hcz48_8 : wc.cell? ⟨gb427, 8, none⟩ = some (.slice Ao21 x428008_1.length co21) := (blk_cell BK427.out 8).trans rfl
                    have hfz48_0 := blk_frozen BK427.out 0
                    have hfz48_1 := blk_frozen BK427.out 1
                    have hfz48_2 := blk_frozen BK427.out 2
                    have hfz48_3 := blk_frozen BK427.out 3
                    have hfz48_4 := blk_frozen BK427.out 4
                    have hfz48_5 := blk_frozen BK427.out 5
                    have hfz48_6 := blk_frozen BK427.out 6
                    have hfz48_7 := blk_frozen BK427.out 7
                    have hfz48_8 := blk_frozen BK427.out 8
                    have p447 : 0 ≤ (x5_1 : Int) := of_decide_eq_true (by first | (with_reducible assumption) | assumption)
                    have q447 : x5_1 < (l0.length : Int) := of_decide_eq_true (by first | (with_reducible assumption) | assumption)
                    obtain ⟨ad447, e447, hx447_0⟩ := Kd.at_string HR0.out x5_1 p447 q447
                    obtain rfl : ad431 = ad447 := (by injection e447)
                    have hn447_0 : ad431.block ≠ gb427 := Nat.ne_of_lt (Nat.lt_of_lt_of_le (by have := World.block_lt_of_cell? _ _ hx447_0; first | rwa [add_block] at this | exact this) GW427.out)
                    have hn447_1 : ad431.block ≠ gb427 := Nat.ne_of_lt (Nat.lt_of_lt_of_le (by have := World.block_lt_of_cell? _ _ hx447_0; first | rwa [add_block] at this | exact this) GW427.out)
                    have hn447_2 : ad431.block ≠ gb427 := Nat.ne_of_lt (Nat.lt_of_lt_of_le (by have := World.block_lt_of_cell? _ _ hx447_0; first | rwa [add_block] at this | exact this) GW427.out)
                    have hn447_3 : ad431.block ≠ gb427 := Nat.ne_of_lt (Nat.lt_of_lt_of_le (by have := World.block_lt_of_cell? _ _ hx447_0; first | rwa [add_block] at this | exact this) GW427.out)
                    have hn447_4 : ad431.block ≠ gb427 := Nat.ne_of_lt (Nat.lt_of_lt_of_le (by have := World.block_lt_of_cell? _ _ hx447_0; first | rwa [add_block] at this | exact this) GW427.out)
                    have hn447_5 : ad431.block ≠ gb427 := Nat.ne_of_lt (Nat.lt_of_lt_of_le (by have := World.block_lt_of_cell? _ _ hx447_0; first | rwa [add_block] at this | exact this) GW427.out)
                    have hn447_6 : ad431.block ≠ gb427 := Nat.ne_of_lt (Nat.lt_of_lt_of_le (by have := World.block_lt_of_cell? _ _ hx447_0; first | rwa [add_block] at this | exact this) GW427.out)
                    have hn447_7 : ad431.block ≠ gb427 := Nat.ne_of_lt (Nat.lt_of_lt_of_le (by have := World.block_lt_of_cell? _ _ hx447_0; first | rwa [add_block] at this | exact this) GW427.out)
                    have hn447_8 : ad431.block ≠ gb427 := Nat.ne_of_lt (Nat.lt_of_lt_of_le (by have := World.block_lt_of_cell? _ _ hx447_0; first | rwa [add_block] at this | exact this) GW427.out)
                    replace hx447_0 := (HB.out.cell (World.block_lt_of_cell? w _ hx447_0)).trans hx447_0
                    replace hx447_0 := (cell_far (p := ⟨gb427, 0, none⟩) (by first | (rw [add_block]; exact hn447_0) | (show (Addr.add _ _).block ≠ _; rw [add_block]; exact hn447_0) | exact hn447_0) (.string t432)).trans hx447_0
                    replace hx447_0 := (cell_far (p := ⟨gb427, 1, none⟩) (by first | (rw [add_block]; exact hn447_1) | (show (Addr.add _ _).block ≠ _; rw [add_block]; exact hn447_1) | exact hn447_1) (.string t433)).trans hx447_0
                    replace hx447_0 := (cell_far (p := ⟨gb427, 2, none⟩) (by first | (rw [add_block]; exact hn447_2) | (show (Addr.add _ _).block ≠ _; rw [add_block]; exact hn447_2) | exact hn447_2) (.int .i64 t434)).trans hx447_0
                    replace hx447_0 := (cell_far (p := ⟨gb427, 3, none⟩) (by first | (rw [add_block]; exact hn447_3) | (show (Addr.add _ _).block ≠ _; rw [add_block]; exact hn447_3) | exact hn447_3) (.bool t435)).trans hx447_0
                    replace hx447_0 := (cell_far (p := ⟨gb427, 4, none⟩) (by first | (rw [add_block]; exact hn447_4) | (show (Addr.add _ _).block ≠ _; rw [add_block]; exact hn447_4) | exact hn447_4) (.int .i64 t436)).trans hx447_0
                    replace hx447_0 := (cell_far (p := ⟨gb427, 5, none⟩) (by first | (rw [add_block]; exact hn447_5) | (show (Addr.add _ _).block ≠ _; rw [add_block]; exact hn447_5) | exact hn447_5) (.int .i64 t437)).trans hx447_0
                    replace hx447_0 := (cell_far (p := ⟨gb427, 6, none⟩) (by first | (rw [add_block]; exact hn447_6) | (show (Addr.add _ _).block ≠ _; rw [add_block]; exact hn447_6) | exact hn447_6) (.string t438)).trans hx447_0
                    replace hx447_0 := (cell_far (p := ⟨gb427, 7, none⟩) (by first | (rw [add_block]; exact hn447_7) | (show (Addr.add _ _).block ≠ _; rw [add_block]; exact hn447_7) | exact hn447_7) (.int .i64 t439)).trans hx447_0
                    replace hx447_0 := (cell_far (p := ⟨gb427, 8, none⟩) (by first | (rw [add_block]; exact hn447_8) | (show (Addr.add _ _).block ≠ _; rw [add_block]; exact hn447_8) | exact hn447_8) (.slice Ao34 t440.length co34)).trans hx447_0
                    clear hn447_0
                    clear hn447_1
                    clear hn447_2
                    clear hn447_3
                    clear hn447_4
                    clear hn447_5
                    clear hn447_6
                    clear hn447_7
                    clear hn447_8
                    replace p447 := eq_true p447
                    replace q447 := eq_true q447
                    go_wp2_with (first | ((with_reducible refine gate_builtin (b := .append) (xs := #[.tmp 51, .tmp 56]) rfl ?_); (try (refine gate_guard (by rfl) ?_; dsimp only)); at_builtin; refine Kd.R_append Kd.string (w0 := w) w.heap.size rfl (.tmp 51) (.tmp 56) 28 9 (.string ⟨#[]⟩) 16 rfl Tryd.underlying28 info9 rfl (by decide) (by omega) (.slice Ao20 x4_1.length co20) x4_1 (rdOf ByteArray.empty l0 x5_1) [.string (rdOf ByteArray.empty l0 x5_1)] (fun _ => True) (fun _ => False) rfl (by first | (go_simp; done) | (go_simp; rfl)) ?aP (fun _ hk => hk.elim) ?aF ?aO ?aB ?aS ?aL ?_; (case aP => exact rfl); (case aB => exact (by repeat (first | (with_reducible first | exact HB.out | apply below_alloc | apply pw_below_drewN | apply below_drew1 | refine below_set ?_ GE427.out | refine below_set ?_ GE444.out) | exact HB.out))); (case aF => exact (fun _ _ => trivial)); (case aO => exact (by (with_reducible repeat (first | apply Kd.R_alloc | apply Kd.R_drewN | apply Kd.R_drew)); exact Kd.R_mono (Kd.R_far (p := ⟨gb427, 8, none⟩) (Kd.R_far (p := ⟨gb427, 7, none⟩) (Kd.R_far (p := ⟨gb427, 6, none⟩) (Kd.R_far (p := ⟨gb427, 5, none⟩) (Kd.R_far (p := ⟨gb427, 4, none⟩) (Kd.R_far (p := ⟨gb427, 3, none⟩) (Kd.R_far (p := ⟨gb427, 2, none⟩) (Kd.R_far (p := ⟨gb427, 1, none⟩) (Kd.R_far (p := ⟨gb427, 0, none⟩) (Kd.R_types HO_4.out BK427.out (by decide)) (fun _ hk => hk.2) (.string t432)) (fun _ hk => hk.2) (.string t433)) (fun _ hk => hk.2) (.int .i64 t434)) (fun _ hk => hk.2) (.bool t435)) (fun _ hk => hk.2) (.int .i64 t436)) (fun _ hk => hk.2) (.int .i64 t437)) (fun _ hk => hk.2) (.string t438)) (fun _ hk => hk.2) (.int .i64 t439)) (fun _ hk => hk.2) (.slice Ao34 t440.length co34)) (fun _ hk => trivial))); (case aS => exact (below_size (by repeat (first | (with_reducible first | exact HB.out | apply below_alloc | apply pw_below_drewN | apply below_drew1 | refine below_set ?_ GE427.out | refine below_set ?_ GE444.out) | exact HB.out)))); (case aL => have := LMc45.out; omega); intro v449 w49 ho hb hg hat; rw [← Ny448.out] at ho; have n0_ := Aside0.mk (Kd.R_over' (by (with_reducible repeat (first | apply Kd.R_alloc | apply Kd.R_drewN | apply Kd.R_drew)); exact (Kd.R_mono (Kd.R_far (p := ⟨gb427, 8, none⟩) (Kd.R_far (p := ⟨gb427, 7, none⟩) (Kd.R_far (p := ⟨gb427, 6, none⟩) (Kd.R_far (p := ⟨gb427, 5, none⟩) (Kd.R_far (p := ⟨gb427, 4, none⟩) (Kd.R_far (p := ⟨gb427, 3, none⟩) (Kd.R_far (p := ⟨gb427, 2, none⟩) (Kd.R_far (p := ⟨gb427, 1, none⟩) (Kd.R_far (p := ⟨gb427, 0, none⟩) (Kd.R_types HO_428008.out BK427.out (by decide)) (fun _ hk => hk.2) (.string t432)) (fun _ hk => hk.2) (.string t433)) (fun _ hk => hk.2) (.int .i64 t434)) (fun _ hk => hk.2) (.bool t435)) (fun _ hk => hk.2) (.int .i64 t436)) (fun _ hk => hk.2) (.int .i64 t437)) (fun _ hk => hk.2) (.string t438)) (fun _ hk => hk.2) (.int .i64 t439)) (fun _ hk => hk.2) (.slice Ao34 t440.length co34)) (fun _ h_ => h_.1))) (Kd.R_typed (by (with_reducible repeat (first | apply Kd.R_alloc | apply Kd.R_drewN | apply Kd.R_drew)); exact (Kd.R_mono (Kd.R_far (p := ⟨gb427, 8, none⟩) (Kd.R_far (p := ⟨gb427, 7, none⟩) (Kd.R_far (p := ⟨gb427, 6, none⟩) (Kd.R_far (p := ⟨gb427, 5, none⟩) (Kd.R_far (p := ⟨gb427, 4, none⟩) (Kd.R_far (p := ⟨gb427, 3, none⟩) (Kd.R_far (p := ⟨gb427, 2, none⟩) (Kd.R_far (p := ⟨gb427, 1, none⟩) (Kd.R_far (p := ⟨gb427, 0, none⟩) (Kd.R_types HO_4.out BK427.out (by decide)) (fun _ hk => hk.2) (.string t432)) (fun _ hk => hk.2) (.string t433)) (fun _ hk => hk.2) (.int .i64 t434)) (fun _ hk => hk.2) (.bool t435)) (fun _ hk => hk.2) (.int .i64 t436)) (fun _ hk => hk.2) (.int .i64 t437)) (fun _ hk => hk.2) (.string t438)) (fun _ hk => hk.2) (.int .i64 t439)) (fun _ hk => hk.2) (.slice Ao34 t440.length co34)) (fun _ h_ => h_.1)))) (by decide) hg); have n1_ := Aside0.mk (Kd.R_over' (by (with_reducible repeat (first | apply Kd.R_alloc | apply Kd.R_drewN | apply Kd.R_drew)); exact (Kd.R_mono (Kd.R_far (p := ⟨gb427, 8, none⟩) (Kd.R_far (p := ⟨gb427, 7, none⟩) (Kd.R_far (p := ⟨gb427, 6, none⟩) (Kd.R_far (p := ⟨gb427, 5, none⟩) (Kd.R_far (p := ⟨gb427, 4, none⟩) (Kd.R_far (p := ⟨gb427, 3, none⟩) (Kd.R_far (p := ⟨gb427, 2, none⟩) (Kd.R_far (p := ⟨gb427, 1, none⟩) (Kd.R_far (p := ⟨gb427, 0, none⟩) (Kd.R_types HO_445008.out BK427.out (by decide)) (fun _ hk => hk.2) (.string t432)) (fun _ hk => hk.2) (.string t433)) (fun _ hk => hk.2) (.int .i64 t434)) (fun _ hk => hk.2) (.bool t435)) (fun _ hk => hk.2) (.int .i64 t436)) (fun _ hk => hk.2) (.int .i64 t437)) (fun _ hk => hk.2) (.string t438)) (fun _ hk => hk.2) (.int .i64 t439)) (fun _ hk => hk.2) (.slice Ao34 t440.length co34)) (fun _ h_ => h_.1))) (Kd.R_typed (by (with_reducible repeat (first | apply Kd.R_alloc | apply Kd.R_drewN | apply Kd.R_drew)); exact (Kd.R_mono (Kd.R_far (p := ⟨gb427, 8, none⟩) (Kd.R_far (p := ⟨gb427, 7, none⟩) (Kd.R_far (p := ⟨gb427, 6, none⟩) (Kd.R_far (p := ⟨gb427, 5, none⟩) (Kd.R_far (p := ⟨gb427, 4, none⟩) (Kd.R_far (p := ⟨gb427, 3, none⟩) (Kd.R_far (p := ⟨gb427, 2, none⟩) (Kd.R_far (p := ⟨gb427, 1, none⟩) (Kd.R_far (p := ⟨gb427, 0, none⟩) (Kd.R_types HO_4.out BK427.out (by decide)) (fun _ hk => hk.2) (.string t432)) (fun _ hk => hk.2) (.string t433)) (fun _ hk => hk.2) (.int .i64 t434)) (fun _ hk => hk.2) (.bool t435)) (fun _ hk => hk.2) (.int .i64 t436)) (fun _ hk => hk.2) (.int .i64 t437)) (fun _ hk => hk.2) (.string t438)) (fun _ hk => hk.2) (.int .i64 t439)) (fun _ hk => hk.2) (.slice Ao34 t440.length co34)) (fun _ h_ => h_.1)))) (by decide) hg); have n2_ := Aside0.mk (blk_grown (g := gb427) (o := .cells #[.string t432, .string t433, .int .i64 t434, .bool t435, .int .i64 t436, .int .i64 t437, .string t438, .int .i64 t439, .slice Ao34 t440.length co34] 24 (0, 0)) (by (with_reducible repeat (first | refine blk_drewN ?_ _ | refine blk_drew ?_ | refine blk_alloc ?_ _)); refine blk_put (cs := #[.string t432, .string t433, .int .i64 t434, .bool t435, .int .i64 t436, .int .i64 t437, .string t438, .int .i64 t439, .slice Ao21 x428008_1.length co21]) ?_ 8 _ rfl; (with_reducible repeat (first | refine blk_drewN ?_ _ | refine blk_drew ?_ | refine blk_alloc ?_ _)); refine blk_put (cs := #[.string t432, .string t433, .int .i64 t434, .bool t435, .int .i64 t436, .int .i64 t437, .string t438, .int .i64 x428007_1, .slice Ao21 x428008_1.length co21]) ?_ 7 _ rfl; (with_reducible repeat (first | refine blk_drewN ?_ _ | refine blk_drew ?_ | refine blk_alloc ?_ _)); refine blk_put (cs := #[.string t432, .string t433, .int .i64 t434, .bool t435, .int .i64 t436, .int .i64 t437, .string x428006_1, .int .i64 x428007_1, .slice Ao21 x428008_1.length co21]) ?_ 6 _ rfl; (with_reducible repeat (first | refine blk_drewN ?_ _ | refine blk_drew ?_ | refine blk_alloc ?_ _)); refine blk_put (cs := #[.string t432, .string t433, .int .i64 t434, .bool t435, .int .i64 t436, .int .i64 x428005_1, .string x428006_1, .int .i64 x428007_1, .slice Ao21 x428008_1.length co21]) ?_ 5 _ rfl; (with_reducible repeat (first | refine blk_drewN ?_ _ | refine blk_drew ?_ | refine blk_alloc ?_ _)); refine blk_put (cs := #[.string t432, .string t433, .int .i64 t434, .bool t435, .int .i64 x428004_1, .int .i64 x428005_1, .string x428006_1, .int .i64 x428007_1, .slice Ao21 x428008_1.length co21]) ?_ 4 _ rfl; (with_reducible repeat (first | refine blk_drewN ?_ _ | refine blk_drew ?_ | refine blk_alloc ?_ _)); refine blk_put (cs := #[.string t432, .string t433, .int .i64 t434, .bool x428003_1, .int .i64 x428004_1, .int .i64 x428005_1, .string x428006_1, .int .i64 x428007_1, .slice Ao21 x428008_1.length co21]) ?_ 3 _ rfl; (with_reducible repeat (first | refine blk_drewN ?_ _ | refine blk_drew ?_ | refine blk_alloc ?_ _)); refine blk_put (cs := #[.string t432, .string t433, .int .i64 x428002_1, .bool x428003_1, .int .i64 x428004_1, .int .i64 x428005_1, .string x428006_1, .int .i64 x428007_1, .slice Ao21 x428008_1.length co21]) ?_ 2 _ rfl; (with_reducible repeat (first | refine blk_drewN ?_ _ | refine blk_drew ?_ | refine blk_alloc ?_ _)); refine blk_put (cs := #[.string t432, .string x428001_1, .int .i64 x428002_1, .bool x428003_1, .int .i64 x428004_1, .int .i64 x428005_1, .string x428006_1, .int .i64 x428007_1, .slice Ao21 x428008_1.length co21]) ?_ 1 _ rfl; (with_reducible repeat (first | refine blk_drewN ?_ _ | refine blk_drew ?_ | refine blk_alloc ?_ _)); refine blk_put (cs := #[.string x428000_1, .string x428001_1, .int .i64 x428002_1, .bool x428003_1, .int .i64 x428004_1, .int .i64 x428005_1, .string x428006_1, .int .i64 x428007_1, .slice Ao21 x428008_1.length co21]) ?_ 0 _ rfl; (with_reducible repeat (first | refine blk_drewN ?_ _ | refine blk_drew ?_ | refine blk_alloc ?_ _)); exact BK427.out) hg (Kd.R_ne HO_4.out BK427.out (by decide))); have n3_ := Aside0.mk (blk_grown (g := gb444) (o := .cells #[.string t432, .string t433, .int .i64 t434, .bool t435, .int .i64 t436, .int .i64 t437, .string t438, .int .i64 t439, .slice Ao34 t440.length co34] 24 (0, 0)) (by (with_reducible repeat (first | refine blk_drewN ?_ _ | refine blk_drew ?_ | refine blk_alloc ?_ _)); refine blk_far ?_ NB444_427.out _; (with_reducible repeat (first | refine blk_drewN ?_ _ | refine blk_drew ?_ | refine blk_alloc ?_ _)); refine blk_far ?_ NB444_427.out _; (with_reducible repeat (first | refine blk_drewN ?_ _ | refine blk_drew ?_ | refine blk_alloc ?_ _)); refine blk_far ?_ NB444_427.out _; (with_reducible repeat (first | refine blk_drewN ?_ _ | refine blk_drew ?_ | refine blk_alloc ?_ _)); refine blk_far ?_ NB444_427.out _; (with_reducible repeat (first | refine blk_drewN ?_ _ | refine blk_drew ?_ | refine blk_alloc ?_ _)); refine blk_far ?_ NB444_427.out _; (with_reducible repeat (first | refine blk_drewN ?_ _ | refine blk_drew ?_ | refine blk_alloc ?_ _)); refine blk_far ?_ NB444_427.out _; (with_reducible repeat (first | refine blk_drewN ?_ _ | refine blk_drew ?_ | refine blk_alloc ?_ _)); refine blk_far ?_ NB444_427.out _; (with_reducible repeat (first | refine blk_drewN ?_ _ | refine blk_drew ?_ | refine blk_alloc ?_ _)); refine blk_far ?_ NB444_427.out _; (with_reducible repeat (first | refine blk_drewN ?_ _ | refine blk_drew ?_ | refine blk_alloc ?_ _)); refine blk_far ?_ NB444_427.out _; (with_reducible repeat (first | refine blk_drewN ?_ _ | refine blk_drew ?_ | refine blk_alloc ?_ _)); exact BK444.out) hg (Kd.R_ne HO_4.out BK444.out (by decide))); have n4_ := Aside0.mk (hb); have n5_ := Aside0.mk (ho); clear HO_428008; clear HO_445008; clear BK427; clear BK444; clear HB; clear HO_4; have HO_428008 := n0_; have HO_445008 := n1_; have BK427 := n2_; have BK444 := n3_; have HB := n4_; have HO450 := n5_; clear n0_ n1_ n2_ n3_ n4_ n5_; clear ho hb hg hat))
                    go_meet
                    case rel => exact ⟨_, (y448), (t432), (t433), (t434), (t435), (t436), (t437), (t438), (t439), (t440), (.slice Ao34 t440.length co34), H', ⟨by have := HK1.out; have := HJ3.out; have := HK3.out; have := HJ37.out; first | omega | exact Nat.le_refl _⟩, ⟨by (with_reducible repeat (first | apply Kd.R_alloc | apply Kd.R_drewN | apply Kd.R_drew)); exact HO450.out⟩, ⟨by (with_reducible repeat (first | apply Kd.R_alloc | apply Kd.R_drewN | apply Kd.R_drew)); exact Kd.R_mono HO_445008.out (fun _ hk => trivial)⟩, ⟨by (with_reducible repeat (first | apply Kd.R_alloc | apply Kd.R_drewN | apply Kd.R_drew)); exact Kd.R_mono HO_445008.out (fun _ hk => trivial)⟩, ⟨by (with_reducible repeat (first | refine blk_drewN ?_ _ | refine blk_drew ?_ | refine blk_alloc ?_ _)); exact BK427.out⟩, ⟨by (with_reducible repeat (first | refine blk_drewN ?_ _ | refine blk_drew ?_ | refine blk_alloc ?_ _)); exact BK444.out⟩, ⟨by repeat (first | (with_reducible first | exact HB.out | apply below_alloc | apply pw_below_drewN | apply below_drew1 | refine below_set ?_ GE427.out | refine below_set ?_ GE444.out) | exact HB.out)⟩⟩
                   ·rw [if_neg c45] at H
                    exact absurd H (by simp)
                  ·rw [if_neg c44] at H
                   exact absurd H (by simp)
                 ·rw [if_neg c43] at H
                  exact absurd H (by simp)
                ·rw [if_neg c42] at H
                 exact absurd H (by simp)
            ·replace c37 := Bool.eq_false_iff.mpr c37
             subst c37
             have H1 : (if t443 = 11 then (brokerlaw46_HopsOnce.j4 k3 l0 x4_1 x5_1 x428000_1 x428001_1 x428002_1 x428003_1 x428004_1 x428005_1 x428006_1 x428007_1 x428008_1) else (none)) = some r := by rw [if_neg (show ¬ (false = true) by decide)] at H; exact H
             clear H
             have H := H1
             clear H1
             by_cases c50 : t443 = 11
             ·rw [if_pos c50] at H
              have c50b0 : (t443 == 11) = true := beq_iff_eq.mpr c50
              have c50b1 : (t443 != 11) = false := bne_eq_false_iff_eq.mpr c50
              clear c50
              have H' := Aside0.mk H
              clear H
              have p445 : 0 ≤ (x5_1 : Int) := of_decide_eq_true (by first | (with_reducible assumption) | assumption)
              have q445 : x5_1 < (l0.length : Int) := of_decide_eq_true (by first | (with_reducible assumption) | assumption)
              obtain ⟨ad445, e445, hx445_0⟩ := Kd.at_string HR0.out x5_1 p445 q445
              obtain rfl : ad431 = ad445 := (by injection e445)
              have hn445_0 : ad431.block ≠ gb444 := Nat.ne_of_lt (Nat.lt_of_lt_of_le (by have := World.block_lt_of_cell? _ _ hx445_0; first | rwa [add_block] at this | exact this) GW444.out)
              have hn445_1 : ad431.block ≠ gb444 := Nat.ne_of_lt (Nat.lt_of_lt_of_le (by have := World.block_lt_of_cell? _ _ hx445_0; first | rwa [add_block] at this | exact this) GW444.out)
              have hn445_2 : ad431.block ≠ gb444 := Nat.ne_of_lt (Nat.lt_of_lt_of_le (by have := World.block_lt_of_cell? _ _ hx445_0; first | rwa [add_block] at this | exact this) GW444.out)
              have hn445_3 : ad431.block ≠ gb444 := Nat.ne_of_lt (Nat.lt_of_lt_of_le (by have := World.block_lt_of_cell? _ _ hx445_0; first | rwa [add_block] at this | exact this) GW444.out)
              have hn445_4 : ad431.block ≠ gb444 := Nat.ne_of_lt (Nat.lt_of_lt_of_le (by have := World.block_lt_of_cell? _ _ hx445_0; first | rwa [add_block] at this | exact this) GW444.out)
              have hn445_5 : ad431.block ≠ gb444 := Nat.ne_of_lt (Nat.lt_of_lt_of_le (by have := World.block_lt_of_cell? _ _ hx445_0; first | rwa [add_block] at this | exact this) GW444.out)
              have hn445_6 : ad431.block ≠ gb444 := Nat.ne_of_lt (Nat.lt_of_lt_of_le (by have := World.block_lt_of_cell? _ _ hx445_0; first | rwa [add_block] at this | exact this) GW444.out)
              have hn445_7 : ad431.block ≠ gb444 := Nat.ne_of_lt (Nat.lt_of_lt_of_le (by have := World.block_lt_of_cell? _ _ hx445_0; first | rwa [add_block] at this | exact this) GW444.out)
              have hn445_8 : ad431.block ≠ gb444 := Nat.ne_of_lt (Nat.lt_of_lt_of_le (by have := World.block_lt_of_cell? _ _ hx445_0; first | rwa [add_block] at this | exact this) GW444.out)
              replace hx445_0 := (HB.out.cell (World.block_lt_of_cell? w _ hx445_0)).trans hx445_0
              replace hx445_0 := (cell_far (p := ⟨gb444, 0, none⟩) (by first | (rw [add_block]; exact hn445_0) | (show (Addr.add _ _).block ≠ _; rw [add_block]; exact hn445_0) | exact hn445_0) (.string t432)).trans hx445_0
              replace hx445_0 := (cell_far (p := ⟨gb444, 1, none⟩) (by first | (rw [add_block]; exact hn445_1) | (show (Addr.add _ _).block ≠ _; rw [add_block]; exact hn445_1) | exact hn445_1) (.string t433)).trans hx445_0
              replace hx445_0 := (cell_far (p := ⟨gb444, 2, none⟩) (by first | (rw [add_block]; exact hn445_2) | (show (Addr.add _ _).block ≠ _; rw [add_block]; exact hn445_2) | exact hn445_2) (.int .i64 t434)).trans hx445_0
              replace hx445_0 := (cell_far (p := ⟨gb444, 3, none⟩) (by first | (rw [add_block]; exact hn445_3) | (show (Addr.add _ _).block ≠ _; rw [add_block]; exact hn445_3) | exact hn445_3) (.bool t435)).trans hx445_0
              replace hx445_0 := (cell_far (p := ⟨gb444, 4, none⟩) (by first | (rw [add_block]; exact hn445_4) | (show (Addr.add _ _).block ≠ _; rw [add_block]; exact hn445_4) | exact hn445_4) (.int .i64 t436)).trans hx445_0
              replace hx445_0 := (cell_far (p := ⟨gb444, 5, none⟩) (by first | (rw [add_block]; exact hn445_5) | (show (Addr.add _ _).block ≠ _; rw [add_block]; exact hn445_5) | exact hn445_5) (.int .i64 t437)).trans hx445_0
              replace hx445_0 := (cell_far (p := ⟨gb444, 6, none⟩) (by first | (rw [add_block]; exact hn445_6) | (show (Addr.add _ _).block ≠ _; rw [add_block]; exact hn445_6) | exact hn445_6) (.string t438)).trans hx445_0
              replace hx445_0 := (cell_far (p := ⟨gb444, 7, none⟩) (by first | (rw [add_block]; exact hn445_7) | (show (Addr.add _ _).block ≠ _; rw [add_block]; exact hn445_7) | exact hn445_7) (.int .i64 t439)).trans hx445_0
              replace hx445_0 := (cell_far (p := ⟨gb444, 8, none⟩) (by first | (rw [add_block]; exact hn445_8) | (show (Addr.add _ _).block ≠ _; rw [add_block]; exact hn445_8) | exact hn445_8) (.slice Ao34 t440.length co34)).trans hx445_0
              clear hn445_0
              clear hn445_1
              clear hn445_2
              clear hn445_3
              clear hn445_4
              clear hn445_5
              clear hn445_6
              clear hn445_7
              clear hn445_8
              replace p445 := eq_true p445
              replace q445 := eq_true q445
              go_wp2_with (first | ((with_reducible refine gate_callee (f := 21) rfl ?_); refine goesL_ (some 63) rfl rfl Tryd.func21 (by kernel_rfl) rfl #[.string (rdOf ByteArray.empty l0 x5_1)] rfl (by (try simp only [List.map_toArray, List.map_cons, List.map_nil]); first | done | rfl | (simp only [List.length_drop, List.length_take]; rfl)) ?_; (with_reducible refine (brokerref01_Name.calls k3 (rdOf ByteArray.empty l0 x5_1) false _ A36.out).mono ?_); rintro e w' ⟨rfl, ⟨nd, rfl⟩⟩; refine ⟨_, rfl, ?_⟩))
              go_meet
              case rel => exact ⟨_, (x4_1), (x428000_1), (x428001_1), (x428002_1), (x428003_1), (x428004_1), (x428005_1), (x428006_1), (x428007_1), (x428008_1), (.slice Ao21 x428008_1.length co21), H', ⟨by have := HK1.out; have := HJ3.out; have := HK3.out; first | omega | exact Nat.le_refl _⟩, ⟨by (with_reducible repeat (first | apply Kd.R_alloc | apply Kd.R_drewN | apply Kd.R_drew)); exact Kd.R_mono (Kd.R_far (p := ⟨gb444, 8, none⟩) (Kd.R_far (p := ⟨gb444, 7, none⟩) (Kd.R_far (p := ⟨gb444, 6, none⟩) (Kd.R_far (p := ⟨gb444, 5, none⟩) (Kd.R_far (p := ⟨gb444, 4, none⟩) (Kd.R_far (p := ⟨gb444, 3, none⟩) (Kd.R_far (p := ⟨gb444, 2, none⟩) (Kd.R_far (p := ⟨gb444, 1, none⟩) (Kd.R_far (p := ⟨gb444, 0, none⟩) (Kd.R_types HO_4.out BK444.out (by decide)) (fun _ hk => hk.2) (.string t432)) (fun _ hk => hk.2) (.string t433)) (fun _ hk => hk.2) (.int .i64 t434)) (fun _ hk => hk.2) (.bool t435)) (fun _ hk => hk.2) (.int .i64 t436)) (fun _ hk => hk.2) (.int .i64 t437)) (fun _ hk => hk.2) (.string t438)) (fun _ hk => hk.2) (.int .i64 t439)) (fun _ hk => hk.2) (.slice Ao34 t440.length co34)) (fun _ hk => trivial)⟩, ⟨by (with_reducible repeat (first | apply Kd.R_alloc | apply Kd.R_drewN | apply Kd.R_drew)); exact Kd.R_mono (Kd.R_far (p := ⟨gb444, 8, none⟩) (Kd.R_far (p := ⟨gb444, 7, none⟩) (Kd.R_far (p := ⟨gb444, 6, none⟩) (Kd.R_far (p := ⟨gb444, 5, none⟩) (Kd.R_far (p := ⟨gb444, 4, none⟩) (Kd.R_far (p := ⟨gb444, 3, none⟩) (Kd.R_far (p := ⟨gb444, 2, none⟩) (Kd.R_far (p := ⟨gb444, 1, none⟩) (Kd.R_far (p := ⟨gb444, 0, none⟩) (Kd.R_types HO_428008.out BK444.out (by decide)) (fun _ hk => hk.2) (.string t432)) (fun _ hk => hk.2) (.string t433)) (fun _ hk => hk.2) (.int .i64 t434)) (fun _ hk => hk.2) (.bool t435)) (fun _ hk => hk.2) (.int .i64 t436)) (fun _ hk => hk.2) (.int .i64 t437)) (fun _ hk => hk.2) (.string t438)) (fun _ hk => hk.2) (.int .i64 t439)) (fun _ hk => hk.2) (.slice Ao34 t440.length co34)) (fun _ hk => trivial)⟩, ⟨by (with_reducible repeat (first | apply Kd.R_alloc | apply Kd.R_drewN | apply Kd.R_drew)); exact Kd.R_mono (Kd.R_far (p := ⟨gb444, 8, none⟩) (Kd.R_far (p := ⟨gb444, 7, none⟩) (Kd.R_far (p := ⟨gb444, 6, none⟩) (Kd.R_far (p := ⟨gb444, 5, none⟩) (Kd.R_far (p := ⟨gb444, 4, none⟩) (Kd.R_far (p := ⟨gb444, 3, none⟩) (Kd.R_far (p := ⟨gb444, 2, none⟩) (Kd.R_far (p := ⟨gb444, 1, none⟩) (Kd.R_far (p := ⟨gb444, 0, none⟩) (Kd.R_types HO442.out BK444.out (by decide)) (fun _ hk => hk.2) (.string t432)) (fun _ hk => hk.2) (.string t433)) (fun _ hk => hk.2) (.int .i64 t434)) (fun _ hk => hk.2) (.bool t435)) (fun _ hk => hk.2) (.int .i64 t436)) (fun _ hk => hk.2) (.int .i64 t437)) (fun _ hk => hk.2) (.string t438)) (fun _ hk => hk.2) (.int .i64 t439)) (fun _ hk => hk.2) (.slice Ao34 t440.length co34)) (fun _ hk => trivial)⟩, ⟨by (with_reducible repeat (first | refine blk_drewN ?_ _ | refine blk_drew ?_ | refine blk_alloc ?_ _)); refine blk_far ?_ NB427_444.out _; (with_reducible repeat (first | refine blk_drewN ?_ _ | refine blk_drew ?_ | refine blk_alloc ?_ _)); refine blk_far ?_ NB427_444.out _; (with_reducible repeat (first | refine blk_drewN ?_ _ | refine blk_drew ?_ | refine blk_alloc ?_ _)); refine blk_far ?_ NB427_444.out _; (with_reducible repeat (first | refine blk_drewN ?_ _ | refine blk_drew ?_ | refine blk_alloc ?_ _)); refine blk_far ?_ NB427_444.out _; (with_reducible repeat (first | refine blk_drewN ?_ _ | refine blk_drew ?_ | refine blk_alloc ?_ _)); refine blk_far ?_ NB427_444.out _; (with_reducible repeat (first | refine blk_drewN ?_ _ | refine blk_drew ?_ | refine blk_alloc ?_ _)); refine blk_far ?_ NB427_444.out _; (with_reducible repeat (first | refine blk_drewN ?_ _ | refine blk_drew ?_ | refine blk_alloc ?_ _)); refine blk_far ?_ NB427_444.out _; (with_reducible repeat (first | refine blk_drewN ?_ _ | refine blk_drew ?_ | refine blk_alloc ?_ _)); refine blk_far ?_ NB427_444.out _; (with_reducible repeat (first | refine blk_drewN ?_ _ | refine blk_drew ?_ | refine blk_alloc ?_ _)); refine blk_far ?_ NB427_444.out _; (with_reducible repeat (first | refine blk_drewN ?_ _ | refine blk_drew ?_ | refine blk_alloc ?_ _)); exact BK427.out⟩, ⟨by (with_reducible repeat (first | refine blk_drewN ?_ _ | refine blk_drew ?_ | refine blk_alloc ?_ _)); refine blk_put (cs := #[.string t432, .string t433, .int .i64 t434, .bool t435, .int .i64 t436, .int .i64 t437, .string t438, .int .i64 t439, .slice none 0 0]) ?_ 8 _ rfl; (with_reducible repeat (first | refine blk_drewN ?_ _ | refine blk_drew ?_ | refine blk_alloc ?_ _)); refine blk_put (cs := #[.string t432, .string t433, .int .i64 t434, .bool t435, .int .i64 t436, .int .i64 t437, .string t438, .int .i64 0, .slice none 0 0]) ?_ 7 _ rfl; (with_reducible repeat (first | refine blk_drewN ?_ _ | refine blk_drew ?_ | refine blk_alloc ?_ _)); refine blk_put (cs := #[.string t432, .string t433, .int .i64 t434, .bool t435, .int .i64 t436, .int .i64 t437, .string (⟨#[]⟩ : ByteArray), .int .i64 0, .slice none 0 0]) ?_ 6 _ rfl; (with_reducible repeat (first | refine blk_drewN ?_ _ | refine blk_drew ?_ | refine blk_alloc ?_ _)); refine blk_put (cs := #[.string t432, .string t433, .int .i64 t434, .bool t435, .int .i64 t436, .int .i64 0, .string (⟨#[]⟩ : ByteArray), .int .i64 0, .slice none 0 0]) ?_ 5 _ rfl; (with_reducible repeat (first | refine blk_drewN ?_ _ | refine blk_drew ?_ | refine blk_alloc ?_ _)); refine blk_put (cs := #[.string t432, .string t433, .int .i64 t434, .bool t435, .int .i64 0, .int .i64 0, .string (⟨#[]⟩ : ByteArray), .int .i64 0, .slice none 0 0]) ?_ 4 _ rfl; (with_reducible repeat (first | refine blk_drewN ?_ _ | refine blk_drew ?_ | refine blk_alloc ?_ _)); refine blk_put (cs := #[.string t432, .string t433, .int .i64 t434, .bool false, .int .i64 0, .int .i64 0, .string (⟨#[]⟩ : ByteArray), .int .i64 0, .slice none 0 0]) ?_ 3 _ rfl; (with_reducible repeat (first | refine blk_drewN ?_ _ | refine blk_drew ?_ | refine blk_alloc ?_ _)); refine blk_put (cs := #[.string t432, .string t433, .int .i64 0, .bool false, .int .i64 0, .int .i64 0, .string (⟨#[]⟩ : ByteArray), .int .i64 0, .slice none 0 0]) ?_ 2 _ rfl; (with_reducible repeat (first | refine blk_drewN ?_ _ | refine blk_drew ?_ | refine blk_alloc ?_ _)); refine blk_put (cs := #[.string t432, .string (⟨#[]⟩ : ByteArray), .int .i64 0, .bool false, .int .i64 0, .int .i64 0, .string (⟨#[]⟩ : ByteArray), .int .i64 0, .slice none 0 0]) ?_ 1 _ rfl; (with_reducible repeat (first | refine blk_drewN ?_ _ | refine blk_drew ?_ | refine blk_alloc ?_ _)); refine blk_put (cs := #[.string (⟨#[]⟩ : ByteArray), .string (⟨#[]⟩ : ByteArray), .int .i64 0, .bool false, .int .i64 0, .int .i64 0, .string (⟨#[]⟩ : ByteArray), .int .i64 0, .slice none 0 0]) ?_ 0 _ rfl; (with_reducible repeat (first | refine blk_drewN ?_ _ | refine blk_drew ?_ | refine blk_alloc ?_ _)); exact BK444.out⟩, ⟨by repeat (first | (with_reducible first | exact HB.out | apply below_alloc | apply pw_below_drewN | apply below_drew1 | refine below_set ?_ GE427.out | refine below_set ?_ GE444.out) | exact HB.out)⟩⟩
             ·rw [if_neg c50] at H
              exact absurd H (by simp)
           case rest =>
            clear HC19
            try clear c1
            try clear c2
            try clear p2
            try clear c3
            try clear c4
            try clear p4
            try clear q4
            try clear hx4
            try clear c5
            try clear p6
            try clear c7
            try clear c7b0
            try clear c11
            try clear c12
            try clear c13
            try clear c16
            try clear c16b0
            try clear c17
            try clear c17b0
            try clear c21
            try clear c37
            try clear c39
            try clear c40
            try clear c41
            try clear c41b0
            try clear c41b1
            try clear c42
            try clear c42b0
            try clear c42b1
            try clear p42
            try clear q42
            try clear hx42
            try clear c43
            try clear c43b0
            try clear p43
            try clear q43
            try clear hx43
            try clear c44
            try clear c44b0
            try clear p44
            try clear q44
            try clear hx44
            try clear c45
            try clear c46
            try clear c50
            try clear c50b0
            try clear c50b1
            try clear hcz47_0
            try clear hcz47_1
            try clear hcz47_2
            try clear hcz47_3
            try clear hcz47_4
            try clear hcz47_5
            try clear hcz47_6
            try clear hcz47_7
            try clear hcz47_8
            try clear hcz48_0
            try clear hcz48_1
            try clear hcz48_2
            try clear hcz48_3
            try clear hcz48_4
            try clear hcz48_5
            try clear hcz48_6
            try clear hcz48_7
            try clear hcz48_8
            try clear hfz47_0
            try clear hfz47_1
            try clear hfz47_2
            try clear hfz47_3
            try clear hfz47_4
            try clear hfz47_5
            try clear hfz47_6
            try clear hfz47_7
            try clear hfz47_8
            try clear hfz48_0
            try clear hfz48_1
            try clear hfz48_2
            try clear hfz48_3
            try clear hfz48_4
            try clear hfz48_5
            try clear hfz48_6
            try clear hfz48_7
            try clear hfz48_8
            try clear hx429_0
            try clear hx430_0
            try clear hx431_0
            try clear hx445_0
            try clear hx447_0
            try clear p2
            try clear p4
            try clear p429
            try clear p430
            try clear p431
            try clear p445
            try clear p447
            try clear p6
            try clear q4
            try clear q429
            try clear q430
            try clear q431
            try clear q445
            try clear q447
            obtain ⟨kq, x4_18, x428000_18, x428001_18, x428002_18, x428003_18, x428004_18, x428005_18, x428006_18, x428007_18, x428008_18, u428008, HA, HJ18, HO_4, HO_428008, HO_445008, BK427, BK444, HB⟩ := hcut
            cases kq with
            | zero => exact absurd HA.out (by simp [brokerlaw46_HopsOnce.j4])
            | succ kj18 =>
             have H := HA.out
             clear HA
             simp only [brokerlaw46_HopsOnce.j4] at H
             replace H := Option.bind_eq_some_iff.mp H
             obtain ⟨t451, A510, H⟩ := H
             replace H : ((brokerref01_Same.f kj18 t451 x4_18).bind fun t454 => (if t454 = true then (brokerlaw46_HopsOnce.l0 kj18 l0 x4_18 (wrap64 (x5_1 + 1)) x428000_18 x428001_18 x428002_18 x428003_18 x428004_18 x428005_18 x428006_18 x428007_18 x428008_18) else (none))) = some r := H
             have A51 := Aside0.mk A510
             clear A510
             replace H := Option.bind_eq_some_iff.mp H
             obtain ⟨t454, A520, H⟩ := H
             replace H : (if t454 = true then (brokerlaw46_HopsOnce.l0 kj18 l0 x4_18 (wrap64 (x5_1 + 1)) x428000_18 x428001_18 x428002_18 x428003_18 x428004_18 x428005_18 x428006_18 x428007_18 x428008_18) else (none)) = some r := H
             have A52 := Aside0.mk A520
             clear A520
             by_cases c53 : t454 = true
             ·subst c53
              have H1 : (brokerlaw46_HopsOnce.l0 kj18 l0 x4_18 (wrap64 (x5_1 + 1)) x428000_18 x428001_18 x428002_18 x428003_18 x428004_18 x428005_18 x428006_18 x428007_18 x428008_18) = some r := by rw [if_pos rfl] at H; exact H
              clear H
              have H := H1
              clear H1
              have H' := Aside0.mk H
              clear H
              have hnb54 := NB427_444.out
              have hnc54 := NB444_427.out
              have hcz55_0 : wc.cell? ⟨gb427, 0, none⟩ = some (.string x428000_18) := (blk_cell BK427.out 0).trans rfl
              have hcz55_1 : wc.cell? ⟨gb427, 1, none⟩ = some (.string x428001_18) := (blk_cell BK427.out 1).trans rfl
              have hcz55_2 : wc.cell? ⟨gb427, 2, none⟩ = some (.int .i64 x428002_18) := (blk_cell BK427.out 2).trans rfl
              have hcz55_3 : wc.cell? ⟨gb427, 3, none⟩ = some (.bool x428003_18) := (blk_cell BK427.out 3).trans rfl
              have hcz55_4 : wc.cell? ⟨gb427, 4, none⟩ = some (.int .i64 x428004_18) := (blk_cell BK427.out 4).trans rfl
              have hcz55_5 : wc.cell? ⟨gb427, 5, none⟩ = some (.int .i64 x428005_18) := (blk_cell BK427.out 5).trans rfl
              have hcz55_6 : wc.cell? ⟨gb427, 6, none⟩ = some (.string x428006_18) := (blk_cell BK427.out 6).trans rfl
              have hcz55_7 : wc.cell? ⟨gb427, 7, none⟩ = some (.int .i64 x428007_18) := (blk_cell BK427.out 7).trans rfl
              have hcz55_8 : wc.cell? ⟨gb427, 8, none⟩ = some (u428008) := (blk_cell BK427.out 8).trans rfl
              have hfz55_0 := blk_frozen BK427.out 0
              have hfz55_1 := blk_frozen BK427.out 1
              have hfz55_2 := blk_frozen BK427.out 2
              have hfz55_3 := blk_frozen BK427.out 3
              have hfz55_4 := blk_frozen BK427.out 4
              have hfz55_5 := blk_frozen BK427.out 5
              have hfz55_6 := blk_frozen BK427.out 6
              have hfz55_7 := blk_frozen BK427.out 7
              have hfz55_8 := blk_frozen BK427.out 8
              obtain ⟨Ao56, co56, eo56⟩ := Kd.R_slice HO_428008.out
              subst eo56
              go_wp2_with (first | ((with_reducible refine gate_callee (f := 12) rfl ?_); refine goesL_ (some 77) rfl rfl Tryd.func12 (by kernel_rfl) rfl #[.agg #[.string x428000_18, .string x428001_18, .int .i64 x428002_18, .bool x428003_18, .int .i64 x428004_18, .int .i64 x428005_18, .string x428006_18, .int .i64 x428007_18, .slice Ao56 x428008_18.length co56]] rfl (by (try simp only [List.map_toArray, List.map_cons, List.map_nil]); first | done | rfl | (simp only [List.length_drop, List.length_take]; rfl)) ?_; (with_reducible refine (hops_Path.calls kj18 x428000_18 x428001_18 x428002_18 x428003_18 x428004_18 x428005_18 x428006_18 x428007_18 _ _ x428008_18 t451 _ ?side1 ?side2 A51.out).mono ?_); (case side1 => repeat (first | exact (Kd.R_reads' HO_428008.out).2.2 | (with_reducible refine Kd.C_alloc ?_ _) | (with_reducible refine Kd.C_drewN ?_ _) | (with_reducible refine Kd.C_drew ?_))); (case side2 => exact (Kd.R_reads' HO_428008.out).2.1); rintro e w57 ⟨v452, rfl, ho0, hb⟩; refine ⟨_, rfl, ?_⟩; have n0_ := Aside0.mk (Kd.R_elder' (by (with_reducible repeat (first | apply Kd.R_alloc | apply Kd.R_drewN | apply Kd.R_drew)); exact HO_4.out) (Kd.R_base ho0) hb); have n1_ := Aside0.mk (Kd.R_below (by (with_reducible repeat (first | apply Kd.R_alloc | apply Kd.R_drewN | apply Kd.R_drew)); exact HO_428008.out) hb); have n2_ := Aside0.mk (Kd.R_below (by (with_reducible repeat (first | apply Kd.R_alloc | apply Kd.R_drewN | apply Kd.R_drew)); exact HO_445008.out) hb); have n3_ := Aside0.mk (Kd.R_lower (Kd.R_new' ho0 (Kd.R_lt (by (with_reducible repeat (first | apply Kd.R_alloc | apply Kd.R_drewN | apply Kd.R_drew)); exact HO_4.out))) (below_size (by repeat (first | (with_reducible first | exact HB.out | apply below_alloc | apply pw_below_drewN | apply below_drew1 | refine below_set ?_ GE427.out | refine below_set ?_ GE444.out) | exact HB.out)))); have n4_ := Aside0.mk (blk_below (g := gb427) (o := .cells #[.string x428000_18, .string x428001_18, .int .i64 x428002_18, .bool x428003_18, .int .i64 x428004_18, .int .i64 x428005_18, .string x428006_18, .int .i64 x428007_18, .slice Ao56 x428008_18.length co56] 24 (0, 0)) (by (with_reducible repeat (first | refine blk_drewN ?_ _ | refine blk_drew ?_ | refine blk_alloc ?_ _)); exact BK427.out) hb); have n5_ := Aside0.mk (blk_below (g := gb444) (o := .cells #[.string t432, .string t433, .int .i64 t434, .bool t435, .int .i64 t436, .int .i64 t437, .string t438, .int .i64 t439, .slice Ao34 t440.length co34] 24 (0, 0)) (by (with_reducible repeat (first | refine blk_drewN ?_ _ | refine blk_drew ?_ | refine blk_alloc ?_ _)); exact BK444.out) hb); have n6_ := Aside0.mk (below_step (by repeat (first | (with_reducible first | exact HB.out | apply below_alloc | apply pw_below_drewN | apply below_drew1 | refine below_set ?_ GE427.out | refine below_set ?_ GE444.out) | exact HB.out)) hb); clear HO_4; clear HO_428008; clear HO_445008; clear BK427; clear BK444; clear HB; have HO_4 := n0_; have HO_428008 := n1_; have HO_445008 := n2_; have HO453 := n3_; have BK427 := n4_; have BK444 := n5_; have HB := n6_; clear n0_ n1_ n2_ n3_ n4_ n5_ n6_; (try clear hb); (try clear hb2); (try clear hk); (try clear hi); (try clear ho0); obtain ⟨Ao58, co58, eo58⟩ := Kd.R_slice HO453.out; subst eo58; obtain ⟨Ao59, co59, eo59⟩ := Kd.R_slice HO_4.out; subst eo59) | ((with_reducible refine gate_callee (f := 11) rfl ?_); refine goesL_ (some 79) rfl rfl Tryd.func11 (by kernel_rfl) rfl #[.slice Ao58 t451.length co58, .slice Ao59 x4_18.length co59] rfl (by (try simp only [List.map_toArray, List.map_cons, List.map_nil]); first | done | rfl | (simp only [List.length_drop, List.length_take]; rfl)) ?_; (with_reducible refine (brokerref01_Same.calls kj18 _ _ t451 _ _ x4_18 true _ ?side1 ?side2 ?side3 ?side4 A52.out).mono ?_); (case side1 => repeat (first | exact (Kd.R_reads' HO453.out).2.2 | (with_reducible refine Kd.C_alloc ?_ _) | (with_reducible refine Kd.C_drewN ?_ _) | (with_reducible refine Kd.C_drew ?_))); (case side2 => exact (Kd.R_reads' HO453.out).2.1); (case side3 => repeat (first | exact (Kd.R_reads' HO_4.out).2.2 | (with_reducible refine Kd.C_alloc ?_ _) | (with_reducible refine Kd.C_drewN ?_ _) | (with_reducible refine Kd.C_drew ?_))); (case side4 => exact (Kd.R_reads' HO_4.out).2.1); rintro e w' ⟨rfl, ⟨nd, rfl⟩⟩; refine ⟨_, rfl, ?_⟩))
              go_roundg kj18
              case measure => have := HK1.out; have := HJ3.out; have := HK3.out; have := HJ18.out; omega
              case rel => exact ⟨(x4_18), (wrap64 (x5_1 + 1)), (x428000_18), (x428001_18), (x428002_18), (x428003_18), (x428004_18), (x428005_18), (x428006_18), (x428007_18), (x428008_18), (.slice Ao56 x428008_18.length co56), (by first | rfl | (simp; done) | (simp [*]; done)), H', ⟨by have := HK1.out; have := HJ3.out; have := HK3.out; have := HJ18.out; omega⟩, ⟨by (with_reducible repeat (first | apply Kd.R_alloc | apply Kd.R_drewN | apply Kd.R_drew)); exact Kd.R_mono HO_4.out (fun _ hk => trivial)⟩, ⟨by (with_reducible repeat (first | apply Kd.R_alloc | apply Kd.R_drewN | apply Kd.R_drew)); exact Kd.R_mono HO_428008.out (fun _ hk => trivial)⟩, ⟨by (with_reducible repeat (first | refine blk_drewN ?_ _ | refine blk_drew ?_ | refine blk_alloc ?_ _)); exact BK427.out⟩, ⟨by repeat (first | (with_reducible first | exact HB.out | apply below_alloc | apply pw_below_drewN | apply below_drew1 | refine below_set ?_ GE427.out | refine below_set ?_ GE444.out) | exact HB.out)⟩⟩
             ·replace c53 := Bool.eq_false_iff.mpr c53
              subst c53
              have H1 : (none) = some r := by rw [if_neg (show ¬ (false = true) by decide)] at H; exact H
              clear H
              have H := H1
              clear H1
              exact absurd H (by simp)
          ·rw [if_neg c17] at H
           exact absurd H (by simp)
         ·rw [if_neg c16] at H
          exact absurd H (by simp)
     ·replace c6 := Bool.eq_false_iff.mpr c6
      subst c6
      have H1 : ((brokerlaw46_awake.f kj3).bind fun t428 => (some t428)) = some r := by rw [if_neg (show ¬ (false = true) by decide)] at H; exact H
      clear H
      have H := H1
      clear H1
      replace H := Option.bind_eq_some_iff.mp H
      obtain ⟨t428, A600, H⟩ := H
      replace H : (some t428) = some r := H
      have A60 := Aside0.mk A600
      clear A600
      obtain rfl := Option.some.inj H
      go_wp2_with (first | ((with_reducible refine gate_callee (f := 10) rfl ?_); refine goesL_ (some 81) rfl rfl Tryd.func10 (by kernel_rfl) rfl #[] rfl (by (try simp only [List.map_toArray, List.map_cons, List.map_nil]); first | done | rfl | (simp only [List.length_drop, List.length_take]; rfl)) ?_; (with_reducible refine (brokerlaw46_awake.calls kj3  t428 _ A60.out).mono ?_); rintro e w61 ⟨rfl, hb⟩; refine ⟨_, rfl, ?_⟩; have n0_ := Aside0.mk (Kd.R_below (by (with_reducible repeat (first | apply Kd.R_alloc | apply Kd.R_drewN | apply Kd.R_drew)); exact HO_4.out) hb); have n1_ := Aside0.mk (Kd.R_below (by (with_reducible repeat (first | apply Kd.R_alloc | apply Kd.R_drewN | apply Kd.R_drew)); exact HO_428008.out) hb); have n2_ := Aside0.mk (blk_below (g := gb427) (o := .cells #[.string x428000_1, .string x428001_1, .int .i64 x428002_1, .bool x428003_1, .int .i64 x428004_1, .int .i64 x428005_1, .string x428006_1, .int .i64 x428007_1, u428008] 24 (0, 0)) (by (with_reducible repeat (first | refine blk_drewN ?_ _ | refine blk_drew ?_ | refine blk_alloc ?_ _)); exact BK427.out) hb); have n3_ := Aside0.mk (below_step (by repeat (first | (with_reducible first | exact HB.out | apply below_alloc | apply pw_below_drewN | apply below_drew1 | refine below_set ?_ GE427.out) | exact HB.out)) hb); clear HO_4; clear HO_428008; clear BK427; clear HB; have HO_4 := n0_; have HO_428008 := n1_; have BK427 := n2_; have HB := n3_; clear n0_ n1_ n2_ n3_; (try clear hb); (try clear hb2); (try clear hk); (try clear hi)))
      go_ret
      exact ⟨by first | rfl | (simp [errW_none, errW_some] <;> rfl) | (simp [*, errW_none, errW_some] <;> rfl), by repeat (first | (with_reducible first | exact HB.out | apply below_alloc | apply pw_below_drewN | apply below_drew1 | refine below_set ?_ GE427.out) | exact HB.out)⟩

end Go.Proofs.YtfikhfahpdhjbaaDoor.P
