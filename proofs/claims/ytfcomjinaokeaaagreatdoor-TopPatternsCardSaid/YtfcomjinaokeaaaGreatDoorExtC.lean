/- The contract of topic.Filter, as a plain function of the levels. -/
import Derived.Test.YtfcomjinaokeaaaGreatDoorExtA
import Derived.Test.YtfcomjinaokeaaaGreatDoorExtB
import Derived.Deep.LoopGhost
import Derived.WalkMore
namespace Go.Proofs.YtfcomjinaokeaaaGreatDoor.Ext
open Go.Shelf Go.RowKit Go.Proofs.YtfcomjinaokeaaaGreatDoorW.PrintWords

theorem pw_trans2_ {w w1 w2 : World} (h : Below w.heap.size w w1) (k : Below w1.heap.size w1 w2) : Below w.heap.size w w2 := below_then h h.size k
theorem levels_walk (s : ByteArray) (w : World) (hs : s.size < 4294967281) :
    Calls Tryz.prog 15 #[.string s] w fun e w' => e = .returned (.slice (some ⟨w.heap.size, 0, none⟩) (splitL 47 s).length (splitL 47 s).length) ∧ w' = w.alloc (.cells ((splitL 47 s).map Value.string).toArray 9) := by
  have hlen : (splitL 47 s).length = Lib.countB s ⟨#[47]⟩ + 1 := Lib.splitB_all ⟨#[47]⟩ (Nat.le_refl 1) 0 _ s rfl
  have c := split_one Tryz.lays146 info9_ s 47 w hs
  have c' : Calls Tryz.prog 19 #[.string s, .string ⟨#[47]⟩] w fun e w' => e = .returned (.slice (some ⟨w.heap.size, 0, none⟩) (splitL 47 s).length (splitL 47 s).length) ∧ w' = w.alloc (.cells ((splitL 47 s).map Value.string).toArray 9) := by
    rw [hlen]
    exact c
  clear c hlen hs
  generalize splitL 47 s = xs at c' ⊢
  go_enter Tryz.func15, Tryz.ntmps15
  go_wp2_with (go_at_call 19; refine c'.mono ?_; rintro e w1 ⟨rfl, hw⟩; rw [hw])
  go_ret
  exact ⟨rfl, rfl⟩

/-- The byte j of level i of n levels may stand there. -/
def goodAt (n i : Nat) (x : ByteArray) (j : Nat) : Prop := (by_ x j = 43 → x.size = 1) ∧ (by_ x j = 35 → x.size = 1 ∧ i + 1 = n)
instance (n i : Nat) (x : ByteArray) (j : Nat) : Decidable (goodAt n i x j) := inferInstanceAs (Decidable (_ ∧ _))
def goodL (xs : List ByteArray) : Bool := decide (∀ i, i < xs.length → ∀ j, j < (xs.getD i ByteArray.empty).size → goodAt xs.length i (xs.getD i ByteArray.empty) j)
def filterB (s : ByteArray) : Bool := sizedB s && goodL (splitL 47 s)

theorem splitB_size (c : UInt8) : ∀ (k : Nat) (s x : ByteArray), x ∈ Lib.splitB ⟨#[c]⟩ 0 k s → x.size ≤ s.size
  | 0, s, x, h => by
    rw [Lib.splitB_zero] at h
    rw [List.mem_singleton.1 h]
    exact Nat.le_refl _
  | k + 1, s, x, h => by
    unfold Lib.splitB at h
    split at h
    · rw [List.mem_singleton.1 h]
      exact Nat.le_refl _
    · rcases List.mem_cons.1 h with h | h
      · subst h
        rw [ByteArray.size_extract]
        omega
      · refine Nat.le_trans (splitB_size c k _ x h) ?_
        rw [ByteArray.size_extract]
        omega
theorem splitL_size (c : UInt8) (s x : ByteArray) (h : x ∈ splitL c s) : x.size ≤ s.size := splitB_size c _ s x h

set_option maxHeartbeats 3200000 in
set_option maxRecDepth 100000 in
theorem filter_walk (s : ByteArray) (w : World) (h : sizedB s = true) :
    Calls Tryz.prog 5 #[.string s] w fun e w' => e = .returned (.bool (filterB s)) ∧ Below w.heap.size w w' := by
  have hsz := sized_size h
  have Hv : Hid (filterB s = goodL (splitL 47 s)) := by
    refine Lib.hid ?_
    unfold filterB
    rw [h]
    rfl
  have c30 := sized_calls s true w h (by omega)
  have hxsz := fun x hx => splitL_size 47 s x hx
  have hn : (splitL 47 s).length ≤ 65 := by
    have e := Lib.splitB_all ⟨#[47]⟩ (Nat.le_refl 1) 0 _ s rfl
    have := Lib.countB_le ⟨#[47]⟩ (Nat.le_refl 1) s.size s (Nat.le_refl _)
    unfold splitL
    omega
  have c18 := fun w1 => levels_walk s w1 (by omega)
  clear h
  generalize splitL 47 s = xs at *
  have C18 := Lib.hid c18
  clear c18
  go_enter Tryz.func5, Tryz.ntmps5
  go_wp2
  go_step3
  go_wp2_with (go_at_call 18; refine c30.mono ?_; rintro e w1 ⟨rfl, hb1⟩)
  have HB1 := Lib.hid hb1
  clear hb1 c30
  refine (C18.out w1).mono ?_
  rintro e w2 ⟨rfl, hw2⟩
  have hL : w2.heap[w1.heap.size]? = some (.cells (xs.map Value.string).toArray 9 (0, 0)) := by rw [hw2]; exact heap_alloc_new w1 _
  have hb2 : Below w1.heap.size w1 w2 := by rw [hw2]; exact (Below.refl _ w1).alloc (Nat.le_refl _) _
  have hLt : w1.heap.size < w2.heap.size := by rw [hw2]; simp
  have HB2 := Lib.hid (pw_trans_ HB1.out hb2)
  have Hlt := Lib.hid hLt
  have HL := Lib.hid hL
  have HLe : Hid (w.heap.size ≤ w1.heap.size) := Lib.hid HB1.out.size
  clear hw2 hb2 C18 hL hLt HB1
  generalize w1.heap.size = L at *
  go_wp2
  go_step3
  go_wp2
  go_loopg [4, 17] xs.length (fun g s4 s17 wx => ∃ k : Nat, k + g = xs.length ∧ s4 = .bool true ∧ s17 = .int .i64 k ∧ Hid (wx.heap[L]? = some (.cells (xs.map Value.string).toArray 9 (0, 0))) ∧ Hid (Below w.heap.size w wx) ∧ Hid (L < wx.heap.size) ∧
    Hid (∀ i, i < k → ∀ j, j < (xs.getD i ByteArray.empty).size → goodAt xs.length i (xs.getD i ByteArray.empty) j))
  case atStart => exact ⟨0, by omega, rfl, rfl, HL, HB2, Hlt, Lib.hid (fun i hi => absurd hi (Nat.not_lt_zero _))⟩
  case round =>
    obtain ⟨k, hkg, rfl, rfl, HLr, HBr, Hltr, Hall⟩ := hrel
    clear HL HB2 Hlt
    cases gk with
    | zero =>
      have hkz : ¬ ((k : Int) < (xs.length : Int)) := by omega
      have fin : filterB s = true := by
        rw [Hv.out]
        exact decide_eq_true (fun i hi => Hall.out i (by omega))
      have Hfin := Lib.hid fin
      clear fin
      go_wp2
      go_ret
      exact ⟨by rw [Hfin.out]; rfl, HBr.out⟩
    | succ g =>
      have hkz : (k : Int) < (xs.length : Int) := by omega
      have hk : k < xs.length := by omega
      have hcell : wr.cell? ⟨L, k, none⟩ = some (.string (xs.getD k ByteArray.empty)) := by
        have := blk_cell HLr.out k
        rw [this]
        simp [List.getD, hk]
      have Hgot : Hid (∀ j, j < (xs.getD k ByteArray.empty).size → ¬ goodAt xs.length k (xs.getD k ByteArray.empty) j → filterB s = false) := by
        refine Lib.hid (fun j hj hb => ?_)
        rw [Hv.out]
        exact decide_eq_false (fun h => hb (h k hk j hj))
      have Hnext : Hid ((∀ j, j < (xs.getD k ByteArray.empty).size → goodAt xs.length k (xs.getD k ByteArray.empty) j) → ∀ i, i < k + 1 → ∀ j, j < (xs.getD i ByteArray.empty).size → goodAt xs.length i (xs.getD i ByteArray.empty) j) := by
        refine Lib.hid (fun h i hi => ?_)
        by_cases e : i = k
        · subst e; exact h
        · exact Hall.out i (by omega)
      have hxs : (xs.getD k ByteArray.empty).size ≤ 64 := Nat.le_trans (hxsz _ (by rw [List.getD_eq_getElem?_getD, List.getElem?_eq_getElem hk]; exact List.getElem_mem hk)) hsz.2
      generalize xs.getD k ByteArray.empty = x at *
      have Hxs := Lib.hid hxsz
      clear hxsz
      go_wp2
      clear hcell
      obtain ⟨wo, rfl⟩ : ∃ wo : World, wo = wr := ⟨_, rfl⟩
      go_loopg [4, 8, 9] x.size (fun g2 s4 _ _ wi => ∃ pos : Nat, pos + g2 = x.size ∧ s4 = .bool true ∧ Hid (wi.heap[wo.heap.size]? = some (.stringIter x pos)) ∧ Hid (Below wo.heap.size wo wi) ∧ Hid (∀ j, j < pos → goodAt xs.length k x j))
      case atStart => exact ⟨0, by omega, rfl, Lib.hid (World.iter_heap wo x 0), Lib.hid ((Below.refl _ wo).alloc (Nat.le_refl _) _), Lib.hid (fun j hj => absurd hj (Nat.not_lt_zero _))⟩
      case round =>
        obtain ⟨pos, hpg, rfl, Hit, Hbw, Hgood⟩ := hrel
        cases gk with
        | zero =>
          have hp : ¬ pos < x.size := by omega
          have hnx : ∀ ty, (Instr.next (.pointer (some ⟨wo.heap.size, 0, none⟩)) true ty).run Tryz.prog wr = _ := fun ty => Lib.run_next_end_at wr wo.heap.size x pos ty Hit.out hp
          go_wp2
          go_roundg g
          case rel =>
            refine ⟨k + 1, by omega, rfl, by go_num, Lib.hid ?_, Lib.hid (pw_trans2_ HBr.out Hbw.out), Lib.hid (Nat.lt_of_lt_of_le Hltr.out Hbw.out.size), Lib.hid (Hnext.out (fun j hj => Hgood.out j (by omega)))⟩
            exact (Hbw.out.block L Hltr.out).trans HLr.out
          case measure => omega
        | succ g2 =>
          have hp : pos < x.size := by omega
          obtain ⟨c, wd, hd, hk1, hkk, hc32, hlow, hhigh⟩ := dec_step x pos hp
          have hnx : ∀ ty, (Instr.next (.pointer (some ⟨wo.heap.size, 0, none⟩)) true ty).run Tryz.prog wr = .ok (.tuple #[.bool true, .int .i64 pos, .int .i32 c]) (wr.iterAt wo.heap.size x (pos + wd)) := fun ty => by rw [Lib.run_next_any_at wr wo.heap.size x pos ty Hit.out hp, hd]
          have hit2 := Lib.iterAt_heap wr wo.heap.size x pos (pos + wd) Hit.out
          have hbw2 := Lib.below_iterAt Hbw.out (k := wo.heap.size) (Nat.le_refl _) x (pos + wd)
          have Hlow := Lib.hid hlow
          have Hhigh := Lib.hid hhigh
          clear hd hlow hhigh Hit Hbw
          generalize wr.iterAt wo.heap.size x (pos + wd) = W1 at hnx hit2 hbw2
          have Hit2 := Lib.hid hit2
          have Hbw2 := Lib.hid hbw2
          clear hit2 hbw2
          have hby : by_ x pos = c ∨ (128 ≤ c ∧ 128 ≤ by_ x pos) := by
            by_cases h7 : c < 128
            · exact .inl (Hlow.out h7).1
            · exact .inr ⟨by omega, Hhigh.out (by omega) pos (Nat.le_refl _) (by omega)⟩
          have Hby := Lib.hid hby
          clear hby
          have good2 : goodAt xs.length k x pos → ∀ j, j < pos + wd → goodAt xs.length k x j := by
            intro h j hj
            by_cases e : j < pos
            · exact Hgood.out j e
            · by_cases h7 : c < 128
              · obtain ⟨_, e2⟩ := Hlow.out h7
                obtain rfl : j = pos := by omega
                exact h
              · have := Hhigh.out (by omega) j (by omega) hj
                exact ⟨fun h => by omega, fun h => by omega⟩
          have Hgood2 := Lib.hid good2
          clear good2
          by_cases c43 : c = 43
          · have b1 : ((c : Int) == 43) = true := by rw [c43]; rfl
            by_cases one : x.size = 1
            · have b2 : ((x.size : Int) == 1) = true := by rw [one]; rfl
              have b3 : ((c : Int) == 35) = false := by rw [c43]; rfl
              have gd : goodAt xs.length k x pos := ⟨fun _ => one, fun h => by have := Hby.out; omega⟩
              have Hg := Lib.hid (Hgood2.out gd)
              have C43 := Lib.hid c43
              have One := Lib.hid one
              clear c43 one gd
              go_wp2
              go_roundg (x.size - (pos + wd))
              case rel => exact ⟨pos + wd, by omega, rfl, Hit2, Hbw2, Hg⟩
              case measure => omega
            · have b2 : ((x.size : Int) == 1) = false := by simp; omega
              have bad : ¬ goodAt xs.length k x pos := fun h => one (h.1 (by have := Hby.out; omega))
              have Hout := Lib.hid (Hgot.out pos hp bad)
              clear c43 one bad
              go_wp2
              rw [Exit.noGoto_ret]
              go_ret
              exact ⟨by rw [Hout.out]; rfl, pw_trans2_ HBr.out Hbw2.out⟩
          · have b1 : ((c : Int) == 43) = false := by simp; omega
            by_cases c35 : c = 35
            · have b3 : ((c : Int) == 35) = true := by rw [c35]; rfl
              by_cases one : x.size = 1
              · have b2 : ((x.size : Int) == 1) = true := by rw [one]; rfl
                by_cases last : k + 1 = xs.length
                · have b4 : decide ((k : Int) < (xs.length : Int) - 1) = false := decide_eq_false (by omega)
                  have gd : goodAt xs.length k x pos := ⟨fun _ => one, fun _ => ⟨one, last⟩⟩
                  have Hg := Lib.hid (Hgood2.out gd)
                  have C43 := Lib.hid c43
                  have C35 := Lib.hid c35
                  have One := Lib.hid one
                  have Last := Lib.hid last
                  clear c43 c35 one last gd
                  go_wp2
                  go_roundg (x.size - (pos + wd))
                  case rel => exact ⟨pos + wd, by omega, rfl, Hit2, Hbw2, Hg⟩
                  case measure => omega
                · have b4 : decide ((k : Int) < (xs.length : Int) - 1) = true := decide_eq_true (by omega)
                  have bad : ¬ goodAt xs.length k x pos := fun h => last (h.2 (by have := Hby.out; omega)).2
                  have Hout := Lib.hid (Hgot.out pos hp bad)
                  clear c43 c35 one last bad
                  go_wp2
                  rw [Exit.noGoto_ret]
                  go_ret
                  exact ⟨by rw [Hout.out]; rfl, pw_trans2_ HBr.out Hbw2.out⟩
              · have b2 : ((x.size : Int) == 1) = false := by simp; omega
                have bad : ¬ goodAt xs.length k x pos := fun h => one (h.2 (by have := Hby.out; omega)).1
                have Hout := Lib.hid (Hgot.out pos hp bad)
                clear c43 c35 one bad
                go_wp2
                rw [Exit.noGoto_ret]
                go_ret
                exact ⟨by rw [Hout.out]; rfl, pw_trans2_ HBr.out Hbw2.out⟩
            · have b3 : ((c : Int) == 35) = false := by simp; omega
              have gd : goodAt xs.length k x pos := ⟨fun h => by have := Hby.out; omega, fun h => by have := Hby.out; omega⟩
              have Hg := Lib.hid (Hgood2.out gd)
              have C43 := Lib.hid c43
              have C35 := Lib.hid c35
              clear c43 c35 gd
              go_wp2
              go_roundg (x.size - (pos + wd))
              case rel => exact ⟨pos + wd, by omega, rfl, Hit2, Hbw2, Hg⟩
              case measure => omega
theorem filter_calls (s : ByteArray) (r : Bool) (w : World) (hr : filterB s = r) (hs : s.size ≤ 9223372036854775807) :
    Calls Tryz.prog 5 #[.string s] w fun e w' => e = .returned (.bool r) ∧ Below w.heap.size w w' := by
  subst hr
  by_cases h : sizedB s = true
  · exact filter_walk s w h
  · have h' : sizedB s = false := by simpa using h
    have e : filterB s = false := by unfold filterB; rw [h']; rfl
    rw [e]
    have c30 := sized_calls s false w h' hs
    clear h h' e
    go_enter Tryz.func5, Tryz.ntmps5
    go_wp2
    go_step3
    go_wp2_with (go_at_call 18; refine c30.mono ?_; rintro e w1 ⟨rfl, hb1⟩)
    try rw [Exit.noGoto_ret]
    go_ret
    exact ⟨rfl, hb1⟩
end Go.Proofs.YtfcomjinaokeaaaGreatDoor.Ext
