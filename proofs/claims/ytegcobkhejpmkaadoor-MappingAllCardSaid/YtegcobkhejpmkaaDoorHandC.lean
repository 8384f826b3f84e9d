/- mapping.check, walked by hand: two arrays of ten that are compared. -/
-- needs: mapping_wild mapping_reference topic_Filter topic_Valid topic_Levels
import Derived.Test.YtegcobkhejpmkaaDoorPx1
import Derived.DeepKeys
namespace Go.Proofs.YtegcobkhejpmkaaDoor.P
open Go.RowKit Go.Proofs.YtegcobkhejpmkaaDoorW.PrintWords Go.Proofs.YtegcobkhejpmkaaDoorW.PrintLast Go.Proofs.YtegcobkhejpmkaaDoorW.PrintMore
set_option linter.unusedVariables false

/-- The cells of an array of bools. -/
def boolA (l : List Bool) : Array Value := (l.map Value.bool).toArray
theorem boolA_at (l : List Bool) (i : Nat) (h : i < l.length) : (boolA l)[i]? = some (.bool (l.getD i false)) := by
  unfold boolA
  rw [List.getElem?_toArray, List.getElem?_map, List.getD_eq_getElem?_getD, List.getElem?_eq_getElem h]
  rfl
theorem boolA_set (l : List Bool) (i : Nat) : (boolA l).setIfInBounds i (.bool true) = boolA (l.set i true) := by
  unfold boolA
  rw [List.setIfInBounds_toArray, List.map_set]
theorem eqItems_bool (d : Nat) (x y : List Bool) (w : World) : ∀ is : List Nat, (∀ i ∈ is, i < x.length ∧ i < y.length) → (Op.eqItems (d + 1) 4 1 (boolA x) (boolA y) is).run Tryd.prog w = .ok (is.all fun i => x.getD i false == y.getD i false) w
  | [], _ => by simp [Op.eqItems]
  | i :: is, h => by
    have ih := eqItems_bool d x y w is (fun j hj => h j (List.mem_cons_of_mem _ hj))
    obtain ⟨h1, h2⟩ := h i List.mem_cons_self
    have hp : Tryd.prog.plainKey 4 = true := by kernel_rfl
    rw [Op.eqItems]
    have q1 : ∀ W, (part 4 (boolA x) (i * 1)).run Tryd.prog W = .ok (.bool (x.getD i false)) W := fun W => run_part_plain W hp (by rw [Nat.mul_one]; exact boolA_at x i h1)
    have q2 : ∀ W, (part 4 (boolA y) (i * 1)).run Tryd.prog W = .ok (.bool (y.getD i false)) W := fun W => run_part_plain W hp (by rw [Nat.mul_one]; exact boolA_at y i h2)
    have q3 : ∀ W a b, (Op.equalIn (d + 1) 4 (.bool a) (.bool b)).run Tryd.prog W = .ok (a == b) W := by
      intro W a b
      simp [Op.equalIn, run_underlying Tryd.underlying4]
    simp only [Sem.run_bind, q1, q2, q3, Result.andThen_ok]
    cases h3 : (x.getD i false == y.getD i false)
    · rw [List.all_cons, h3, Bool.false_and]
      simp
    · rw [List.all_cons, h3, Bool.true_and]
      simpa using ih
theorem all_eq (x y : List Bool) (n : Nat) (hx : x.length = n) (hy : y.length = n) : ((List.range n).all fun i => x.getD i false == y.getD i false) = (x == y) := by
  rw [Bool.eq_iff_iff, List.all_eq_true, beq_iff_eq]
  constructor
  · intro h
    refine List.ext_getElem (hx.trans hy.symm) fun i h1 h2 => ?_
    have := h i (List.mem_range.2 (by omega))
    rw [beq_iff_eq, List.getD_eq_getElem?_getD, List.getD_eq_getElem?_getD, List.getElem?_eq_getElem h1, List.getElem?_eq_getElem h2] at this
    exact this
  · intro h i _
    rw [h, beq_self_eq_true]
theorem equal_arr (x y : List Bool) (hx : x.length = 10) (hy : y.length = 10) (w : World) : (Op.equal 59 (.agg (boolA x)) (.agg (boolA y))).run Tryd.prog w = .ok (x == y) w := by
  obtain ⟨i, hi⟩ : ∃ i, Tryd.prog.info? 4 = some i := info_of_underlying Tryd.underlying4
  show (Op.equalIn (9999 + 1) 59 (.agg (boolA x)) (.agg (boolA y))).run Tryd.prog w = _
  rw [run_equalIn_array w 9999 _ _ Tryd.underlying59 hi, show Tryd.prog.cellsOf 4 = 1 by kernel_rfl, eqItems_bool 9998 x y w (List.range 10) (fun i hi => by have := List.mem_range.1 hi; omega), all_eq x y 10 hx hy]

def wildM (s : ByteArray) : Bool := (s.toList == [43]) || (s.toList == [35])
theorem wildM_val (s : ByteArray) : mapping_wild.f s = some (wildM s) := by
  unfold mapping_wild.f wildM
  by_cases h : s.toList = [43]
  · rw [if_pos h, h]
    rfl
  · rw [if_neg h, beq_eq_false_iff_ne.2 h, Bool.false_or]
def refM (s : ByteArray) : Int := (mapping_reference.f s).getD 0
theorem refM_val (s : ByteArray) : mapping_reference.f s = some (refM s) := by
  unfold refM
  have : ∃ r, mapping_reference.f s = some r := by
    unfold mapping_reference.f
    by_cases h : (s.size : Int) = 2
    · rw [if_pos h, if_pos (by omega), if_pos (show (1 : Int) < (s.size : Int) by omega)]
      repeat' split
      all_goals exact ⟨_, rfl⟩
    · rw [if_neg h]
      exact ⟨_, rfl⟩
  obtain ⟨r, hr⟩ := this
  rw [hr]
  rfl
theorem bt_lt (s : ByteArray) (i : Int) : 0 ≤ bt s i ∧ bt s i < 256 := by
  unfold bt
  split
  · have := (s[i.toNat]).toNat_lt
    omega
  · omega
theorem refM_in (s : ByteArray) : 0 ≤ refM s ∧ refM s ≤ 9 := by
  have h := refM_val s
  generalize refM s = r at h
  unfold mapping_reference.f at h
  have hb := bt_lt s 1
  split at h
  · split at h
    · split at h
      · split at h
        · split at h
          · split at h
            · have := Option.some.inj h
              omega
            · have := Option.some.inj h
              omega
          · have := Option.some.inj h
            omega
        · cases h
      · have := Option.some.inj h
        omega
    · cases h
  · have := Option.some.inj h
    omega
/-- The wildcards of the last d levels, marked by number. -/
def wantD (l : List ByteArray) : Nat → Nat → List Bool → List Bool
  | 0, _, x => x
  | d + 1, n, x => if wildM (rdOf ByteArray.empty l ((l.length - (d + 1) : Nat) : Int)) = true then wantD l d (n + 1) (x.set (n + 1) true) else wantD l d n x
/-- The references of the last d levels, marked by number. -/
def usedD (l : List ByteArray) : Nat → List Bool → List Bool
  | 0, x => x
  | d + 1, x => if refM (rdOf ByteArray.empty l ((l.length - (d + 1) : Nat) : Int)) > 0 then usedD l d (x.set (refM (rdOf ByteArray.empty l ((l.length - (d + 1) : Nat) : Int))).toNat true) else usedD l d x
def zeroB : List Bool := List.replicate 10 false
def checkF (a b : ByteArray) : Option Int := (topic_Filter.f a).bind fun t => if t = true then ((topic_Valid.f b).bind fun t2 => if t2 = true then ((topic_Levels.f a).bind fun l => (topic_Levels.f b).bind fun m => if l.length ≤ 8 then (if m.length ≤ 1000000 then some (if wantD l l.length 0 zeroB = usedD m m.length zeroB then 0 else 1) else none) else none) else some 12) else some 13
theorem info_arr : (Tryd.prog.info? 59).map (fun i => (i.zero, i.size, i.bytes)) = some (some (.agg #[.bool false, .bool false, .bool false, .bool false, .bool false, .bool false, .bool false, .bool false, .bool false, .bool false]), 10, 10) := by kernel_rfl

theorem ten : ∀ (x : List Bool), x.length = 10 → ∃ a0 a1 a2 a3 a4 a5 a6 a7 a8 a9, x = [a0, a1, a2, a3, a4, a5, a6, a7, a8, a9]
  | [a0, a1, a2, a3, a4, a5, a6, a7, a8, a9], _ => ⟨a0, a1, a2, a3, a4, a5, a6, a7, a8, a9, rfl⟩

set_option maxHeartbeats 8000000 in
set_option maxRecDepth 100000 in
theorem check_calls (a b : ByteArray) (r : Int) (w : World) (h : checkF a b = some r) : Calls Tryd.prog 30 #[.agg #[.string a, .string b]] w fun e w' => e = .returned (.int .i64 r) ∧ Below w.heap.size w w' := by
  unfold checkF at h
  obtain ⟨t, ht, h⟩ := Option.bind_eq_some_iff.1 h
  have hu28 := Tryd.underlying28
  have huA := Tryd.underlying59
  cases t with
  | false =>
    rw [if_neg (by decide)] at h
    obtain rfl := Option.some.inj h
    clear h
    have HT := Aside0.mk ht
    clear ht
    go_enter Tryd.func30, Tryd.ntmps30
    go_wp2_with (go_at_call 44; refine (topic_Filter.calls a false _ HT.out).mono ?_; rintro e w' ⟨rfl, hb⟩; have HB := Aside0.mk hb; clear hb)
    go_ret
    exact ⟨rfl, ((Below.refl _ w).alloc (Nat.le_refl _) _).trans (HB.out.mono (by simp))⟩
  | true =>
    rw [if_pos rfl] at h
    obtain ⟨t2, ht2, h⟩ := Option.bind_eq_some_iff.1 h
    have HT := Aside0.mk ht
    have HT2 := Aside0.mk ht2
    clear ht ht2
    cases t2 with
    | false =>
      rw [if_neg (by decide)] at h
      obtain rfl := Option.some.inj h
      clear h
      go_enter Tryd.func30, Tryd.ntmps30
      go_wp2_with (first | (go_at_call 44; refine (topic_Filter.calls a true _ HT.out).mono ?_; rintro e w1 ⟨rfl, hb⟩; have HB1 := Aside0.mk (((Below.refl _ w).alloc (Nat.le_refl _) _).trans (hb.mono (by simp))); have hbb := blk_below (blk_new w _) hb; have hbx := (blk_cell hbb 1).trans rfl; clear hb hbb) | (go_at_call 37; refine (topic_Valid.calls b false _ HT2.out).mono ?_; rintro e w2 ⟨rfl, hb⟩; have HB := Aside0.mk (HB1.out.trans (hb.mono HB1.out.size)); clear hb))
      go_ret
      exact ⟨rfl, HB.out⟩
    | true =>
      rw [if_pos rfl] at h
      obtain ⟨l, hl, h⟩ := Option.bind_eq_some_iff.1 h
      obtain ⟨m, hm, h⟩ := Option.bind_eq_some_iff.1 h
      split at h
      · rename_i hl8
        split at h
        · rename_i hm8
          obtain ⟨X, hX⟩ : ∃ X, X = wantD l l.length 0 zeroB := ⟨_, rfl⟩
          obtain ⟨Y, hY⟩ : ∃ Y, Y = usedD m m.length zeroB := ⟨_, rfl⟩
          rw [← hX, ← hY] at h
          have hr : r = if X = Y then 0 else 1 := (Option.some.inj h).symm
          have HRr := Aside0.mk hr
          have HX := Aside0.mk hX.symm
          have HY := Aside0.mk hY.symm
          have HL := Aside0.mk hl
          have HM := Aside0.mk hm
          have HL8 := Aside0.mk hl8
          have HM8 := Aside0.mk hm8
          clear h hr hX hY hl hm hl8 hm8
          go_enter Tryd.func30, Tryd.ntmps30
          go_wp2_with (first | (go_at_call 44; refine (topic_Filter.calls a true _ HT.out).mono ?_; rintro e w1 ⟨rfl, hb⟩; have HB1 := Aside0.mk (((Below.refl _ w).alloc (Nat.le_refl _) _).trans (hb.mono (by simp))); have hbb := blk_below (blk_new w _) hb; have hbx := (blk_cell hbb 1).trans rfl; have HBX := Aside0.mk hbb; clear hb hbb) | (go_at_call 37; refine (topic_Valid.calls b true _ HT2.out).mono ?_; rintro e w2 ⟨rfl, hb⟩; have HB := Aside0.mk (HB1.out.trans (hb.mono HB1.out.size)); have hbb := blk_below HBX.out hb; have HBX2 := Aside0.mk hbb; have hbx0 := (blk_cell (blk_alloc (blk_alloc hbb (.cells #[.bool false, .bool false, .bool false, .bool false, .bool false, .bool false, .bool false, .bool false, .bool false, .bool false] 59)) (.cells #[.bool false, .bool false, .bool false, .bool false, .bool false, .bool false, .bool false, .bool false, .bool false, .bool false] 59)) 0).trans rfl; clear hb hbb hbx HBX HB1) | (go_at_call 46; refine (topic_Levels.calls a l _ HL.out).mono ?_; rintro e w4 ⟨v0, rfl, ho, hb⟩; obtain ⟨A4, c4, e4⟩ := Kd.R_slice ho; subst e4; have HO := Aside0.mk ho; have HB4 := Aside0.mk hb; clear ho hb))
          have hlt := blk_lt HBX2.out
          have hbb := blk_below (blk_alloc (blk_alloc HBX2.out _) _) HB4.out
          have hbw : w4.heap[w2.heap.size]? = some (.cells (boolA zeroB) 59 (0, 0)) := blk_below (blk_alloc (blk_new w2 _) _) HB4.out
          have hbu : w4.heap[w2.heap.size + 1]? = some (.cells (boolA zeroB) 59 (0, 0)) := by
            have h1 := blk_below (blk_new (w2.alloc _) _) HB4.out
            simp only [World.size_alloc] at h1
            exact h1
          have hR : Kd.R Kd.string 9 w4 _ (fun k => w2.heap.size + 2 ≤ k) (.slice A4 l.length c4) l := Kd.R_mono (Kd.R_bound HO.out) (fun k hk => by have := hk.2.1; simpa using this)
          have hBel : Below w.heap.size w w4 := (((HB.out.alloc HB.out.size _).alloc (by have := HB.out.size; simp; omega) _).trans (HB4.out.mono (by have := HB.out.size; simp; omega)))
          have HLT := Aside0.mk hlt
          have HBB := Aside0.mk hbb
          have HBW := Aside0.mk hbw
          have HBU := Aside0.mk hbu
          have HR := Aside0.mk hR
          have HBE := Aside0.mk hBel
          clear hbx0 hlt hbb hbw hbu hR hBel HBX2 HB4 HO HB
          go_loopg [5, 23] l.length (fun gk s5 s23 wr => ∃ (i n : Nat) (x : List Bool), s23 = .int .i64 i ∧ s5 = .int .i64 n ∧ Aside0 (i + gk = l.length) ∧ Aside0 (wantD l gk n x = X) ∧ Aside0 (n + gk ≤ 9) ∧ Aside0 (x.length = 10) ∧ Aside0 (wr.heap[w.heap.size]? = some (.cells #[.string a, .string b] 28 (0, 0))) ∧ Aside0 (wr.heap[w2.heap.size]? = some (.cells (boolA x) 59 (0, 0))) ∧ Aside0 (wr.heap[w2.heap.size + 1]? = some (.cells (boolA zeroB) 59 (0, 0))) ∧ Aside0 (Kd.R Kd.string 9 wr ((w2.alloc (.cells #[.bool false, .bool false, .bool false, .bool false, .bool false, .bool false, .bool false, .bool false, .bool false, .bool false] 59)).alloc (.cells #[.bool false, .bool false, .bool false, .bool false, .bool false, .bool false, .bool false, .bool false, .bool false, .bool false] 59)).heap.size (fun k => w2.heap.size + 2 ≤ k) (.slice A4 l.length c4) l) ∧ Aside0 (Below w.heap.size w wr))
          case atStart => exact ⟨0, 0, zeroB, rfl, rfl, ⟨by omega⟩, HX, ⟨by have := HL8.out; omega⟩, ⟨rfl⟩, HBB, HBW, HBU, HR, HBE⟩
          case round =>
            clear HBB HBW HBU HR HBE HX
            obtain ⟨i, n, x, rfl, rfl, HI, HX, HN, HXL, HBB, HBW, HBU, HR, HBE⟩ := hrel
            cases gk with
            | zero =>
              have c9 : decide ((i : Int) < (l.length : Int)) = false := decide_eq_false (by have := HI.out; omega)
              have d9 : decide (i < l.length) = false := decide_eq_false (by have := HI.out; omega)
              obtain ⟨wo, hwo⟩ : ∃ wo, wo = wr := ⟨_, rfl⟩
              subst hwo
              have hxe : x = X := HX.out
              subst hxe
              have hbx1 := (blk_cell HBB.out 1).trans rfl
              clear HX HN HI
              go_wp2_with (go_at_call 46; refine (topic_Levels.calls b m _ HM.out).mono ?_; rintro e w6 ⟨v5, rfl, ho, hb⟩; obtain ⟨A6, c6, e6⟩ := Kd.R_slice ho; subst e6; have HO := Aside0.mk ho; have HB6 := Aside0.mk hb; clear ho hb)
              have hlw : w2.heap.size + 1 < wo.heap.size := blk_lt HBU.out
              have hbw := blk_below HBW.out HB6.out
              have hbu := blk_below HBU.out HB6.out
              have hR : Kd.R Kd.string 9 w6 _ (fun k => wo.heap.size ≤ k) (.slice A6 m.length c6) m := Kd.R_mono (Kd.R_bound HO.out) (fun k hk => hk.2.1)
              have hBel : Below w.heap.size w w6 := HBE.out.trans (HB6.out.mono HBE.out.size)
              have HLW := Aside0.mk hlw
              have HBW2 := Aside0.mk hbw
              have HBU2 := Aside0.mk hbu
              have HR2 := Aside0.mk hR
              have HBE2 := Aside0.mk hBel
              clear hlw hbw hbu hR hBel HBB HBW HBU HR HBE hbx1 HO HB6 c9 d9
              go_loopg [38] m.length (fun gk s38 wx => ∃ (i : Nat) (y : List Bool), s38 = .int .i64 i ∧ Aside0 (i + gk = m.length) ∧ Aside0 (usedD m gk y = Y) ∧ Aside0 (y.length = 10) ∧ Aside0 (wx.heap[w2.heap.size]? = some (.cells (boolA x) 59 (0, 0))) ∧ Aside0 (wx.heap[w2.heap.size + 1]? = some (.cells (boolA y) 59 (0, 0))) ∧ Aside0 (Kd.R Kd.string 9 wx wo.heap.size (fun k => wo.heap.size ≤ k) (.slice A6 m.length c6) m) ∧ Aside0 (Below w.heap.size w wx))
              case atStart => exact ⟨0, zeroB, rfl, ⟨by omega⟩, HY, ⟨rfl⟩, HBW2, HBU2, HR2, HBE2⟩
              case round =>
                clear HBW2 HBU2 HR2 HBE2 HY
                obtain ⟨j, y, rfl, HJ, HY, HYL, HBW, HBU, HR, HBE⟩ := hrel
                cases gk with
                | zero =>
                  have c9 : decide ((j : Int) < (m.length : Int)) = false := decide_eq_false (by have := HJ.out; omega)
                  have d9 : decide (j < m.length) = false := decide_eq_false (by have := HJ.out; omega)
                  have hye : y = Y := HY.out
                  subst hye
                  have heq := equal_arr x y HXL.out HYL.out
                  obtain ⟨x0, x1, x2, x3, x4, x5, x6, x7, x8, x9, hx10⟩ := ten x HXL.out
                  obtain ⟨y0, y1, y2, y3, y4, y5, y6, y7, y8, y9, hy10⟩ := ten y HYL.out
                  subst hx10 hy10
                  have heq' : ∀ W : World, (Op.equalIn 10000 59 (.agg #[.bool x0, .bool x1, .bool x2, .bool x3, .bool x4, .bool x5, .bool x6, .bool x7, .bool x8, .bool x9]) (.agg #[.bool y0, .bool y1, .bool y2, .bool y3, .bool y4, .bool y5, .bool y6, .bool y7, .bool y8, .bool y9])).run Tryd.prog W = .ok ([x0, x1, x2, x3, x4, x5, x6, x7, x8, x9] == [y0, y1, y2, y3, y4, y5, y6, y7, y8, y9]) W := fun W => heq W
                  have zw0 : wr.cell? ⟨w2.heap.size, 0, none⟩ = some (.bool x0) := (blk_cell HBW.out 0).trans rfl
                  have zw1 : wr.cell? ⟨w2.heap.size, 1, none⟩ = some (.bool x1) := (blk_cell HBW.out 1).trans rfl
                  have zw2 : wr.cell? ⟨w2.heap.size, 2, none⟩ = some (.bool x2) := (blk_cell HBW.out 2).trans rfl
                  have zw3 : wr.cell? ⟨w2.heap.size, 3, none⟩ = some (.bool x3) := (blk_cell HBW.out 3).trans rfl
                  have zw4 : wr.cell? ⟨w2.heap.size, 4, none⟩ = some (.bool x4) := (blk_cell HBW.out 4).trans rfl
                  have zw5 : wr.cell? ⟨w2.heap.size, 5, none⟩ = some (.bool x5) := (blk_cell HBW.out 5).trans rfl
                  have zw6 : wr.cell? ⟨w2.heap.size, 6, none⟩ = some (.bool x6) := (blk_cell HBW.out 6).trans rfl
                  have zw7 : wr.cell? ⟨w2.heap.size, 7, none⟩ = some (.bool x7) := (blk_cell HBW.out 7).trans rfl
                  have zw8 : wr.cell? ⟨w2.heap.size, 8, none⟩ = some (.bool x8) := (blk_cell HBW.out 8).trans rfl
                  have zw9 : wr.cell? ⟨w2.heap.size, 9, none⟩ = some (.bool x9) := (blk_cell HBW.out 9).trans rfl
                  have zu0 : wr.cell? ⟨w2.heap.size + 1, 0, none⟩ = some (.bool y0) := (blk_cell HBU.out 0).trans rfl
                  have zu1 : wr.cell? ⟨w2.heap.size + 1, 1, none⟩ = some (.bool y1) := (blk_cell HBU.out 1).trans rfl
                  have zu2 : wr.cell? ⟨w2.heap.size + 1, 2, none⟩ = some (.bool y2) := (blk_cell HBU.out 2).trans rfl
                  have zu3 : wr.cell? ⟨w2.heap.size + 1, 3, none⟩ = some (.bool y3) := (blk_cell HBU.out 3).trans rfl
                  have zu4 : wr.cell? ⟨w2.heap.size + 1, 4, none⟩ = some (.bool y4) := (blk_cell HBU.out 4).trans rfl
                  have zu5 : wr.cell? ⟨w2.heap.size + 1, 5, none⟩ = some (.bool y5) := (blk_cell HBU.out 5).trans rfl
                  have zu6 : wr.cell? ⟨w2.heap.size + 1, 6, none⟩ = some (.bool y6) := (blk_cell HBU.out 6).trans rfl
                  have zu7 : wr.cell? ⟨w2.heap.size + 1, 7, none⟩ = some (.bool y7) := (blk_cell HBU.out 7).trans rfl
                  have zu8 : wr.cell? ⟨w2.heap.size + 1, 8, none⟩ = some (.bool y8) := (blk_cell HBU.out 8).trans rfl
                  have zu9 : wr.cell? ⟨w2.heap.size + 1, 9, none⟩ = some (.bool y9) := (blk_cell HBU.out 9).trans rfl
                  have hrr := HRr.out
                  clear heq HXL HYL HY HJ
                  cases hc : ([x0, x1, x2, x3, x4, x5, x6, x7, x8, x9] == [y0, y1, y2, y3, y4, y5, y6, y7, y8, y9]) with
                  | true =>
                    rw [hc] at heq'
                    rw [if_pos (beq_iff_eq.1 hc)] at hrr
                    subst hrr
                    clear hc
                    go_wp2
                    go_ret
                    exact ⟨rfl, HBE.out⟩
                  | false =>
                    rw [hc] at heq'
                    rw [if_neg (fun e => by rw [beq_iff_eq.2 e] at hc; cases hc)] at hrr
                    subst hrr
                    clear hc
                    go_wp2
                    go_ret
                    exact ⟨rfl, HBE.out⟩
                | succ g =>
                  have hi : j = m.length - (g + 1) := by have := HJ.out; omega
                  have hlt : j < m.length := by have := HJ.out; omega
                  have c9 : decide ((j : Int) < (m.length : Int)) = true := decide_eq_true (by omega)
                  have c10 : 0 ≤ (j : Int) := Int.natCast_nonneg j
                  have c11 : (j : Int) < (m.length : Int) := by omega
                  have d9 : decide (j < m.length) = true := decide_eq_true hlt
                  have d11 : j < m.length := hlt
                  obtain ⟨ad, e0, hx⟩ := Kd.at_string (Kd.R_reads' HR.out).2.2 (j : Int) c10 c11
                  replace hx : wr.cell? (ad.add j) = some (.string (rdOf ByteArray.empty m (j : Int))) := hx
                  have h := HY.out
                  unfold usedD at h
                  rw [← hi] at h
                  subst e0
                  have HLI := Aside0.mk hlt
                  clear hi hlt HY
                  generalize hxe : rdOf ByteArray.empty m (j : Int) = q at h hx
                  clear hxe
                  have hw := fun (W : World) => mapping_reference.calls q (refM q) W (refM_val q)
                  obtain ⟨r0, r9⟩ := refM_in q
                  have hi1 : IntKind.i64.wrap ((j : Int) + 1) = ((j + 1 : Nat) : Int) := (i64_w _).trans (by unfold wrap64; have := HM8.out; have := HLI.out; omega)
                  have hi2 : wrap64 ((j : Int) + 1) = ((j + 1 : Nat) : Int) := (by unfold wrap64; have := HM8.out; have := HLI.out; omega)
                  generalize refM q = rf at h hw r0 r9
                  by_cases hpos : rf > 0
                  · rw [if_pos hpos] at h
                    have b0 : decide (0 < rf) = true := decide_eq_true hpos
                    have H := Aside0.mk h
                    have k2 : rf < 10 := by omega
                    have zc : wr.cell? ⟨w2.heap.size + 1, rf.toNat, none⟩ = some (.bool (y.getD rf.toNat false)) := (blk_cell HBU.out rf.toNat).trans (boolA_at y _ (by have := HYL.out; omega))
                    have zf : wr.frozen? ⟨w2.heap.size + 1, rf.toNat, none⟩ = false := blk_frozen HBU.out rf.toNat
                    clear h hpos
                    go_wp2_with (go_at_call 62; refine (hw _).mono ?_; rintro e w' ⟨rfl, ⟨nd, rfl⟩⟩)
                    go_roundg g
                    case measure => exact Nat.lt_succ_self _
                    case rel => exact ⟨j + 1, y.set rf.toNat true, by first | rfl | (simp; done) | (rw [hi2]), ⟨by have := HJ.out; omega⟩, H, ⟨by rw [List.length_set]; exact HYL.out⟩, ⟨(Below.heap_setCell _ _ _ _ (by show w2.heap.size ≠ w2.heap.size + 1; omega)).trans (blk_drewN HBW.out nd)⟩, ⟨by rw [← boolA_set]; exact blk_set (blk_drewN HBU.out nd) _ _⟩, ⟨Kd.R_far (Kd.R_drewN HR.out nd) (fun k hk => by show k ≠ w2.heap.size + 1; have := HLW.out; omega) _⟩, ⟨(pw_below_drewN HBE.out nd).setCell (by show w.heap.size ≤ w2.heap.size + 1; have := HLT.out; omega) _⟩⟩
                  · rw [if_neg hpos] at h
                    have b0 : decide (0 < rf) = false := decide_eq_false hpos
                    have H := Aside0.mk h
                    clear h hpos
                    go_wp2_with (go_at_call 62; refine (hw _).mono ?_; rintro e w' ⟨rfl, ⟨nd, rfl⟩⟩)
                    go_roundg g
                    case measure => exact Nat.lt_succ_self _
                    case rel => exact ⟨j + 1, y, by first | rfl | (simp; done) | (rw [hi2]), ⟨by have := HJ.out; omega⟩, H, HYL, ⟨blk_drewN HBW.out nd⟩, ⟨blk_drewN HBU.out nd⟩, ⟨Kd.R_drewN HR.out nd⟩, ⟨pw_below_drewN HBE.out nd⟩⟩
            | succ g =>
              have hi : i = l.length - (g + 1) := by have := HI.out; omega
              have hlt : i < l.length := by have := HI.out; omega
              have c9 : decide ((i : Int) < (l.length : Int)) = true := decide_eq_true (by omega)
              have c10 : 0 ≤ (i : Int) := Int.natCast_nonneg i
              have c11 : (i : Int) < (l.length : Int) := by omega
              have d9 : decide (i < l.length) = true := decide_eq_true hlt
              have d11 : i < l.length := hlt
              obtain ⟨ad, e0, hx⟩ := Kd.at_string (Kd.R_reads' HR.out).2.2 (i : Int) c10 c11
              replace hx : wr.cell? (ad.add i) = some (.string (rdOf ByteArray.empty l (i : Int))) := hx
              have h := HX.out
              unfold wantD at h
              rw [← hi] at h
              subst e0
              have HLI := Aside0.mk hlt
              clear hi hlt HX
              generalize hxe : rdOf ByteArray.empty l (i : Int) = q at h hx
              clear hxe
              have hw := fun (W : World) => mapping_wild.calls q (wildM q) W (wildM_val q)
              have hi1 : IntKind.i64.wrap ((i : Int) + 1) = ((i + 1 : Nat) : Int) := (i64_w _).trans (by unfold wrap64; have := HL8.out; have := HLI.out; omega)
              have hi2 : wrap64 ((i : Int) + 1) = ((i + 1 : Nat) : Int) := (by unfold wrap64; have := HL8.out; have := HLI.out; omega)
              by_cases hwb : wildM q = true
              · rw [if_pos hwb] at h
                rw [hwb] at hw
                have H := Aside0.mk h
                have hn9 : n + 1 ≤ 9 := by have := HN.out; omega
                have hn1 : IntKind.i64.wrap ((n : Int) + 1) = ((n + 1 : Nat) : Int) := (i64_w _).trans (by unfold wrap64; omega)
                have hn2 : wrap64 ((n : Int) + 1) = ((n + 1 : Nat) : Int) := (by unfold wrap64; omega)
                have k1 : (0 : Int) ≤ (n : Int) + 1 := by omega
                have k2 : (n : Int) + 1 < 10 := by omega
                have k3 : ((n : Int) + 1).toNat = n + 1 := by omega
                have zc : wr.cell? ⟨w2.heap.size, n + 1, none⟩ = some (.bool (x.getD (n + 1) false)) := (blk_cell HBW.out (n + 1)).trans (boolA_at x _ (by have := HXL.out; omega))
                have zf : wr.frozen? ⟨w2.heap.size, n + 1, none⟩ = false := blk_frozen HBW.out (n + 1)
                have HN9 := Aside0.mk hn9
                clear h hwb hn9
                go_wp2_with (go_at_call 61; refine (hw _).mono ?_; rintro e w' ⟨rfl, ⟨nd, rfl⟩⟩)
                go_roundg g
                case measure => exact Nat.lt_succ_self _
                case rel => exact ⟨i + 1, n + 1, x.set (n + 1) true, by first | rfl | (simp; done) | (rw [hi2]), by first | rfl | (simp; done) | (rw [hn2]), ⟨by have := HI.out; omega⟩, H, ⟨by have := HN.out; omega⟩, ⟨by rw [List.length_set]; exact HXL.out⟩, ⟨(Below.heap_setCell _ _ _ _ (by have := HLT.out; show w.heap.size ≠ w2.heap.size; omega)).trans (blk_drewN HBB.out nd)⟩, ⟨by rw [← boolA_set]; exact blk_set (blk_drewN HBW.out nd) _ _⟩, ⟨(Below.heap_setCell _ _ _ _ (by show w2.heap.size + 1 ≠ w2.heap.size; omega)).trans (blk_drewN HBU.out nd)⟩, ⟨Kd.R_far (Kd.R_drewN HR.out nd) (fun k hk => by show k ≠ w2.heap.size; omega) _⟩, ⟨(pw_below_drewN HBE.out nd).setCell (by show w.heap.size ≤ w2.heap.size; have := HLT.out; omega) _⟩⟩
              · rw [if_neg hwb] at h
                have hwb' : wildM q = false := by simpa using hwb
                rw [hwb'] at hw
                have H := Aside0.mk h
                clear h hwb hwb'
                go_wp2_with (go_at_call 61; refine (hw _).mono ?_; rintro e w' ⟨rfl, ⟨nd, rfl⟩⟩)
                go_roundg g
                case measure => exact Nat.lt_succ_self _
                case rel => exact ⟨i + 1, n, x, by first | rfl | (simp; done) | (rw [hi2]), rfl, ⟨by have := HI.out; omega⟩, H, ⟨by have := HN.out; omega⟩, HXL, ⟨blk_drewN HBB.out nd⟩, ⟨blk_drewN HBW.out nd⟩, ⟨blk_drewN HBU.out nd⟩, ⟨Kd.R_drewN HR.out nd⟩, ⟨pw_below_drewN HBE.out nd⟩⟩
        · cases h
      · cases h
end Go.Proofs.YtegcobkhejpmkaaDoor.P
