/- access.Subscribes, walked. -/
import Derived.Test.YtgdamingkgafhaaDoorPx4
import Derived.Test.YtgdamingkgafhaaDoorHandC
-- needs: match_Meets match_Covers
namespace Go.Proofs.YtgdamingkgafhaaDoor.P
open Go.RowKit Go.Proofs.YtgdamingkgafhaaDoorW.PrintWords Go.Proofs.YtgdamingkgafhaaDoorW.PrintLast Go.Proofs.YtgdamingkgafhaaDoorW.PrintMore
attribute [local go_sem] max2_int min2_int max_two min_two max_three min_three max_four min_four   -- for this text's walks alone
set_option linter.unusedVariables false
set_option linter.unusedSimpArgs false


theorem subs1 (k : Nat) (obj : ByteArray) (B : Nat) (w : World) (hB : B < w.heap.size) (hc : w.cell? ⟨B, 0, none⟩ = some (.string obj)) (W : World) (s : ByteArray) (b : Bool) (hb : Below w.heap.size w W) (h : match_Meets.f k s obj = some b) :
    Calls Tryd.prog 38 (#[.string s] ++ #[.pointer (some ⟨B, 0, none⟩)]) W fun e w' => e = .returned (.bool b) ∧ Below W.heap.size W w' := by
  have hc' : W.cell? ⟨B, 0, none⟩ = some (.string obj) := (hb.cell (p := ⟨B, 0, none⟩) hB).trans hc
  show Calls Tryd.prog 38 #[.string s, .pointer (some ⟨B, 0, none⟩)] W _
  clear hb hc hB
  go_enter Tryd.func38, Tryd.ntmps38
  go_wp2_with (go_at_call 39; refine (match_Meets.calls k s obj b _ h).mono ?_; rintro e w' ⟨rfl, hb⟩)
  go_ret
  exact ⟨rfl, hb⟩

def subs.T2 : Bool × List (List Nat × List Nat) := (true, [([], []), ([0], [0]), ([1], [1]), ([2, 1], [1, 2]), ([1, 3], [1, 3]), ([4, 1], [4]), ([5], [5]), ([6, 5], [5, 6]), ([5], [5]), ([7, 8, 5, 5], [5, 7, 8]), ([5], [5]), ([9, 10, 9, 5], [5, 9, 10]), ([5, 11], [5, 11]), ([12, 11, 0, 1, 2, 3, 4, 5, 6, 7, 8, 9, 10, 11, 12], [12])])
def subs.B2 : List Nat := [0, 1, 3, 7, 15, 31, 63, 127, 63, 511, 63, 2047, 4095, 8191]
theorem subs.tab2 : rtab .any (opsOf Tryd.f19 2) = subs.T2 := by kernel_rfl
theorem subs.bits2 : waitsOk subs.T2.2 subs.B2 = true := by kernel_rfl
set_option maxHeartbeats 4000000 in
set_option maxRecDepth 100000 in
theorem Subscribes_calls (k : Nat) (A0 : Option Addr) (c0 : Nat) (l0 : List S42) (a1_0 a1_1 : ByteArray) (a2 : ByteArray) (r : Bool) (w : World) (hr0 : Kd.C k42 w A0 l0.length l0) (hc0 : l0.length ≤ c0)
    (h : allF (fun r => ruleF k a1_0 a1_1 2 r (fun e => match_Meets.f k e a2)) l0 (fun r => if r.f0 = true then (access_Expand.f k r.f3 a1_0 a1_1).bind fun e => match_Covers.f k e a2 else some false) = some r) :
    Calls Tryd.prog 19 #[.slice A0 l0.length c0, .agg #[.string a1_0, .string a1_1], .string a2] w fun e w' => e = .returned (.bool r) ∧ Below w.heap.size w w' := by
  have e38 : ∀ args W, (callFunc 38 args).run Tryd.prog W = .ok (.enter 38 args) W := enters_of Tryd.func38 (by kernel_rfl) rfl
  obtain ⟨W1, hW1⟩ : ∃ W1, W1 = w.alloc (.cells #[.string a1_0, .string a1_1] 28) := ⟨_, rfl⟩
  obtain ⟨W2, hW2⟩ : ∃ W2, W2 = W1.alloc (.cells #[.string a2] 9) := ⟨_, rfl⟩
  have s1 : W1.heap.size = w.heap.size + 1 := by rw [hW1]; simp
  have s2 : W2.heap.size = w.heap.size + 2 := by rw [hW2]; simp [s1]
  have hb1 : Below w.heap.size w W1 := hW1 ▸ (Below.refl _ w).alloc (Nat.le_refl _) _
  have hb2 : Below w.heap.size w W2 := hW2 ▸ hb1.alloc (by omega) _
  have c0' : W2.cell? ⟨w.heap.size, 0, none⟩ = some (.string a1_0) := by rw [hW2]; exact Lib.cell?_alloc_some _ (by rw [hW1]; simp)
  have c1' : W2.cell? ⟨w.heap.size, 1, none⟩ = some (.string a1_1) := by rw [hW2]; exact Lib.cell?_alloc_some _ (by rw [hW1]; simp)
  have c2 : W2.cell? ⟨w.heap.size + 1, 0, none⟩ = some (.string a2) := by rw [hW2, ← s1]; simp
  unfold allF at h
  split at h
  · rename_i ha
    have hc := first_calls k a1_0 a1_1 2 (fun e => match_Meets.f k e a2) 38 #[.pointer (some ⟨w.heap.size + 1, 0, none⟩)] e38 A0 c0 l0 W2 (Kd.C_below hr0 hb2) hc0 (fun W s b hb hs => subs1 k a2 (w.heap.size + 1) W2 (by omega) c2 W s b hb hs) (List.all_eq_true.1 ha)
    have hres : ∀ w', Below W2.heap.size W2 w' → Below w.heap.size w w' ∧ w'.cell? ⟨w.heap.size, 0, none⟩ = some (.string a1_0) ∧ w'.cell? ⟨w.heap.size, 1, none⟩ = some (.string a1_1) ∧ w'.cell? ⟨w.heap.size + 1, 0, none⟩ = some (.string a2) := fun w' hb => ⟨hb2.trans (hb.mono (by omega)), (hb.cell (World.block_lt_of_cell? _ _ c0')).trans c0', (hb.cell (World.block_lt_of_cell? _ _ c1')).trans c1', (hb.cell (World.block_lt_of_cell? _ _ c2)).trans c2⟩
    clear c0' c1' hb1 hb2 ha
    subst hW2; subst hW1
    generalize l0.find? (fun x => (ruleF k a1_0 a1_1 2 x (fun e => match_Meets.f k e a2)).getD false) = o at hc h
    cases o with
    | none =>
      obtain rfl := Option.some.inj h
      clear h c2 s1 s2
      replace hc : Calls Tryd.prog 34 _ _ fun e w' => e = .returned (.tuple #[.agg #[.bool false, .string ⟨#[]⟩, .int .i64 0, .string ⟨#[]⟩], .bool false]) ∧ Below _ _ w' := hc
      go_enter Tryd.func19, Tryd.ntmps19
      go_wp2_with (go_at_call 34; refine hc.mono ?_; rintro e wq ⟨rfl, hb'⟩; obtain ⟨hbw, y0, y1, y2⟩ := hres _ hb'; clear hb' hres hc)
      have S0 : Below w.heap.size w (wq.alloc (.cells #[.bool false, .string ⟨#[]⟩, .int .i64 0, .string ⟨#[]⟩] 42)).drew ∧ (wq.alloc (.cells #[.bool false, .string ⟨#[]⟩, .int .i64 0, .string ⟨#[]⟩] 42)).drew.cell? ⟨w.heap.size, 0, none⟩ = some (.string a1_0) ∧ (wq.alloc (.cells #[.bool false, .string ⟨#[]⟩, .int .i64 0, .string ⟨#[]⟩] 42)).drew.cell? ⟨w.heap.size, 1, none⟩ = some (.string a1_1) ∧ (wq.alloc (.cells #[.bool false, .string ⟨#[]⟩, .int .i64 0, .string ⟨#[]⟩] 42)).drew.cell? ⟨w.heap.size + 1, 0, none⟩ = some (.string a2) ∧ (wq.alloc (.cells #[.bool false, .string ⟨#[]⟩, .int .i64 0, .string ⟨#[]⟩] 42)).drew.cell? ⟨wq.heap.size, 0, none⟩ = some (.bool false) ∧ (wq.alloc (.cells #[.bool false, .string ⟨#[]⟩, .int .i64 0, .string ⟨#[]⟩] 42)).drew.cell? ⟨wq.heap.size, 3, none⟩ = some (.string ⟨#[]⟩) := ⟨(hbw.alloc hbw.size _).drew, Lib.cell?_alloc_some _ y0, Lib.cell?_alloc_some _ y1, Lib.cell?_alloc_some _ y2, by simp, by simp⟩
      have S1 : ∀ wr w1 : World, (Below w.heap.size w wr ∧ wr.cell? ⟨w.heap.size, 0, none⟩ = some (.string a1_0) ∧ wr.cell? ⟨w.heap.size, 1, none⟩ = some (.string a1_1) ∧ wr.cell? ⟨w.heap.size + 1, 0, none⟩ = some (.string a2) ∧ wr.cell? ⟨wq.heap.size, 0, none⟩ = some (.bool false) ∧ wr.cell? ⟨wq.heap.size, 3, none⟩ = some (.string ⟨#[]⟩)) → Below wr.heap.size wr w1 → Below w.heap.size w w1 ∧ w1.cell? ⟨w.heap.size, 0, none⟩ = some (.string a1_0) ∧ w1.cell? ⟨w.heap.size, 1, none⟩ = some (.string a1_1) ∧ w1.cell? ⟨w.heap.size + 1, 0, none⟩ = some (.string a2) ∧ w1.cell? ⟨wq.heap.size, 0, none⟩ = some (.bool false) ∧ w1.cell? ⟨wq.heap.size, 3, none⟩ = some (.string ⟨#[]⟩) := fun wr w1 ⟨s0, s1, s2, s3, s4, s5⟩ hb1 => ⟨s0.trans (hb1.mono s0.size), (hb1.cell (World.block_lt_of_cell? wr _ s1)).trans s1, (hb1.cell (World.block_lt_of_cell? wr _ s2)).trans s2, (hb1.cell (World.block_lt_of_cell? wr _ s3)).trans s3, (hb1.cell (World.block_lt_of_cell? wr _ s4)).trans s4, (hb1.cell (World.block_lt_of_cell? wr _ s5)).trans s5⟩
      clear y0 y1 y2
      refine start_ (n := 14) (S := fun w' => Below w.heap.size w w' ∧ w'.cell? ⟨w.heap.size, 0, none⟩ = some (.string a1_0) ∧ w'.cell? ⟨w.heap.size, 1, none⟩ = some (.string a1_1) ∧ w'.cell? ⟨w.heap.size + 1, 0, none⟩ = some (.string a2) ∧ w'.cell? ⟨wq.heap.size, 0, none⟩ = some (.bool false) ∧ w'.cell? ⟨wq.heap.size, 3, none⟩ = some (.string ⟨#[]⟩)) (ds := []) #[false, false, false, false, false, false, false, false, false, false, false, false, false, false] (by kernel_rfl) rfl rfl S0 (fun hHeld => ?_); refine with_tabW subs.tab2 subs.bits2 (fun HT_ HW_ => ?_)
      refine pure_ (i := 0) (N := some 16) (v := ?_) (a' := ?_) #[true, false, false, false, false, false, false, false, false, false, false, false, false, false] rfl rfl (any_of HT_.out (by kernel_rfl)) (fun _ _ _ h => h) (Or.inl ⟨by rfl, ?_⟩) ?_ ?_
      rotate_left
      · intro w'; go_simp; with_reducible rfl
      rotate_left
      · simp only [Act.put, List.setIfInBounds_toArray, List.set_cons_zero, List.set_cons_succ, i64_w, i32_w]; rfl
      refine pure_ (i := 1) (N := some 17) (v := ?_) (a' := ?_) #[true, true, false, false, false, false, false, false, false, false, false, false, false, false] rfl rfl (any_of HT_.out (by kernel_rfl)) (fun _ _ _ h => h) (Or.inl ⟨by rfl, ?_⟩) ?_ ?_
      rotate_left
      · intro w'; go_simp; with_reducible rfl
      rotate_left
      · simp only [Act.put, List.setIfInBounds_toArray, List.set_cons_zero, List.set_cons_succ, i64_w, i32_w]; rfl
      refine pure_ (i := 2) (N := some 18) (v := undef) (a' := ?_) #[true, true, true, false, false, false, false, false, false, false, false, false, false, false] rfl rfl (any_of HT_.out (by kernel_rfl)) (fun _ _ _ h => h) (Or.inr ⟨by rfl, rfl⟩) ?_ ?_
      rotate_left
      · simp only [Act.put, List.setIfInBounds_toArray, List.set_cons_zero, List.set_cons_succ, i64_w, i32_w]; rfl
      refine pure_ (i := 3) (N := some 19) (v := undef) (a' := ?_) #[true, true, true, true, false, false, false, false, false, false, false, false, false, false] rfl rfl (any_of HT_.out (by kernel_rfl)) (fun _ _ _ h => h) (Or.inr ⟨by rfl, rfl⟩) ?_ ?_
      rotate_left
      · simp only [Act.put, List.setIfInBounds_toArray, List.set_cons_zero, List.set_cons_succ, i64_w, i32_w]; rfl
      refine pure_ (i := 4) (N := some 20) (v := ?_) (a' := ?_) #[true, true, true, true, true, false, false, false, false, false, false, false, false, false] rfl rfl (any_of HT_.out (by kernel_rfl)) (fun _ _ _ h => h) (Or.inl ⟨by rfl, ?_⟩) ?_ ?_
      rotate_left
      · intro w'; go_simp; with_reducible rfl
      rotate_left
      · simp only [Act.put, List.setIfInBounds_toArray, List.set_cons_zero, List.set_cons_succ, i64_w, i32_w]; rfl
      refine pure_ (i := 5) (N := some 21) (v := ?_) (a' := ?_) #[true, true, true, true, true, true, false, false, false, false, false, false, false, false] rfl rfl (any_of HT_.out (by kernel_rfl)) (fun _ _ _ h => h) (Or.inl ⟨by rfl, ?_⟩) ?_ ?_
      rotate_left
      · intro w'; go_simp; with_reducible rfl
      rotate_left
      · simp only [Act.put, List.setIfInBounds_toArray, List.set_cons_zero, List.set_cons_succ, i64_w, i32_w]; rfl
      refine pure_ (i := 6) (N := some 22) (v := undef) (a' := ?_) #[true, true, true, true, true, true, true, false, false, false, false, false, false, false] rfl rfl (any_of HT_.out (by kernel_rfl)) (fun _ _ _ h => h) (Or.inr ⟨by rfl, rfl⟩) ?_ ?_
      rotate_left
      · simp only [Act.put, List.setIfInBounds_toArray, List.set_cons_zero, List.set_cons_succ, i64_w, i32_w]; rfl
      refine pure_ (i := 7) (N := some 23) (v := undef) (a' := ?_) #[true, true, true, true, true, true, true, true, false, false, false, false, false, false] rfl rfl (any_of HT_.out (by kernel_rfl)) (fun _ _ _ h => h) (Or.inr ⟨by rfl, rfl⟩) ?_ ?_
      rotate_left
      · simp only [Act.put, List.setIfInBounds_toArray, List.set_cons_zero, List.set_cons_succ, i64_w, i32_w]; rfl
      refine pure_ (i := 8) (N := some 24) (v := undef) (a' := ?_) #[true, true, true, true, true, true, true, true, true, false, false, false, false, false] rfl rfl (any_of HT_.out (by kernel_rfl)) (fun _ _ _ h => h) (Or.inr ⟨by rfl, rfl⟩) ?_ ?_
      rotate_left
      · simp only [Act.put, List.setIfInBounds_toArray, List.set_cons_zero, List.set_cons_succ, i64_w, i32_w]; rfl
      refine pure_ (i := 10) (N := some 26) (v := undef) (a' := ?_) #[true, true, true, true, true, true, true, true, true, false, true, false, false, false] rfl rfl (any_of HT_.out (by kernel_rfl)) (fun _ _ _ h => h) (Or.inr ⟨by rfl, rfl⟩) ?_ ?_
      rotate_left
      · simp only [Act.put, List.setIfInBounds_toArray, List.set_cons_zero, List.set_cons_succ, i64_w, i32_w]; rfl
      refine pure_ (i := 9) (N := some 25) (v := undef) (a' := ?_) #[true, true, true, true, true, true, true, true, true, true, true, false, false, false] rfl rfl (any_of HT_.out (by kernel_rfl)) (fun _ _ _ h => h) (Or.inr ⟨by rfl, rfl⟩) ?_ ?_
      rotate_left
      · simp only [Act.put, List.setIfInBounds_toArray, List.set_cons_zero, List.set_cons_succ, i64_w, i32_w]; rfl
      refine pure_ (i := 11) (N := some 27) (v := undef) (a' := ?_) #[true, true, true, true, true, true, true, true, true, true, true, true, false, false] rfl rfl (any_of HT_.out (by kernel_rfl)) (fun _ _ _ h => h) (Or.inr ⟨by rfl, rfl⟩) ?_ ?_
      rotate_left
      · simp only [Act.put, List.setIfInBounds_toArray, List.set_cons_zero, List.set_cons_succ, i64_w, i32_w]; rfl
      refine pure_ (i := 12) (N := some 28) (v := ?_) (a' := ?_) #[true, true, true, true, true, true, true, true, true, true, true, true, true, false] rfl rfl (any_of HT_.out (by kernel_rfl)) (fun _ _ _ h => h) (Or.inl ⟨by rfl, ?_⟩) ?_ ?_
      rotate_left
      · intro w'; go_simp; with_reducible rfl
      rotate_left
      · simp only [Act.put, List.setIfInBounds_toArray, List.set_cons_zero, List.set_cons_succ, i64_w, i32_w]; rfl
      refine pure_ (i := 13) (N := some 6) (v := ?_) (a' := ?_) #[true, true, true, true, true, true, true, true, true, true, true, true, true, true] rfl rfl (any_of HT_.out (by kernel_rfl)) (fun _ _ _ h => h) (Or.inl ⟨by rfl, ?_⟩) ?_ ?_
      rotate_left
      · intro w'; go_simp; with_reducible rfl
      rotate_left
      · simp only [Act.put, List.setIfInBounds_toArray, List.set_cons_zero, List.set_cons_succ, i64_w, i32_w]; rfl
      refine done_ (done_of HT_.out (by kernel_rfl)) ?_
      go_wp2
      go_ret
      exact ⟨rfl, hHeld.1⟩
    | some x =>
      clear c2 s1 s2
      replace hc : Calls Tryd.prog 34 _ _ fun e w' => e = .returned (.tuple #[.agg #[.bool x.f0, .string x.f1, .int .i64 x.f2, .string x.f3], .bool true]) ∧ Below _ _ w' := hc
      replace h : (if x.f0 = true then (access_Expand.f k x.f3 a1_0 a1_1).bind fun e => match_Covers.f k e a2 else some false) = some r := h
      cases hx : x.f0 with
      | true =>
        rw [hx, if_pos rfl] at h
        obtain ⟨e, he, hcv⟩ := Option.bind_eq_some_iff.1 h
        clear h
        rw [hx] at hc
        go_enter Tryd.func19, Tryd.ntmps19
        go_wp2_with (go_at_call 34; refine hc.mono ?_; rintro e wq ⟨rfl, hb'⟩; obtain ⟨hbw, y0, y1, y2⟩ := hres _ hb'; clear hb' hres hc)
        have S0 : Below w.heap.size w (wq.alloc (.cells #[.bool true, .string x.f1, .int .i64 x.f2, .string x.f3] 42)).drew ∧ (wq.alloc (.cells #[.bool true, .string x.f1, .int .i64 x.f2, .string x.f3] 42)).drew.cell? ⟨w.heap.size, 0, none⟩ = some (.string a1_0) ∧ (wq.alloc (.cells #[.bool true, .string x.f1, .int .i64 x.f2, .string x.f3] 42)).drew.cell? ⟨w.heap.size, 1, none⟩ = some (.string a1_1) ∧ (wq.alloc (.cells #[.bool true, .string x.f1, .int .i64 x.f2, .string x.f3] 42)).drew.cell? ⟨w.heap.size + 1, 0, none⟩ = some (.string a2) ∧ (wq.alloc (.cells #[.bool true, .string x.f1, .int .i64 x.f2, .string x.f3] 42)).drew.cell? ⟨wq.heap.size, 0, none⟩ = some (.bool true) ∧ (wq.alloc (.cells #[.bool true, .string x.f1, .int .i64 x.f2, .string x.f3] 42)).drew.cell? ⟨wq.heap.size, 3, none⟩ = some (.string x.f3) := ⟨(hbw.alloc hbw.size _).drew, Lib.cell?_alloc_some _ y0, Lib.cell?_alloc_some _ y1, Lib.cell?_alloc_some _ y2, by simp, by simp⟩
        have S1 : ∀ wr w1 : World, (Below w.heap.size w wr ∧ wr.cell? ⟨w.heap.size, 0, none⟩ = some (.string a1_0) ∧ wr.cell? ⟨w.heap.size, 1, none⟩ = some (.string a1_1) ∧ wr.cell? ⟨w.heap.size + 1, 0, none⟩ = some (.string a2) ∧ wr.cell? ⟨wq.heap.size, 0, none⟩ = some (.bool true) ∧ wr.cell? ⟨wq.heap.size, 3, none⟩ = some (.string x.f3)) → Below wr.heap.size wr w1 → Below w.heap.size w w1 ∧ w1.cell? ⟨w.heap.size, 0, none⟩ = some (.string a1_0) ∧ w1.cell? ⟨w.heap.size, 1, none⟩ = some (.string a1_1) ∧ w1.cell? ⟨w.heap.size + 1, 0, none⟩ = some (.string a2) ∧ w1.cell? ⟨wq.heap.size, 0, none⟩ = some (.bool true) ∧ w1.cell? ⟨wq.heap.size, 3, none⟩ = some (.string x.f3) := fun wr w1 ⟨s0, s1, s2, s3, s4, s5⟩ hb1 => ⟨s0.trans (hb1.mono s0.size), (hb1.cell (World.block_lt_of_cell? wr _ s1)).trans s1, (hb1.cell (World.block_lt_of_cell? wr _ s2)).trans s2, (hb1.cell (World.block_lt_of_cell? wr _ s3)).trans s3, (hb1.cell (World.block_lt_of_cell? wr _ s4)).trans s4, (hb1.cell (World.block_lt_of_cell? wr _ s5)).trans s5⟩
        clear y0 y1 y2
        refine start_ (n := 14) (S := fun w' => Below w.heap.size w w' ∧ w'.cell? ⟨w.heap.size, 0, none⟩ = some (.string a1_0) ∧ w'.cell? ⟨w.heap.size, 1, none⟩ = some (.string a1_1) ∧ w'.cell? ⟨w.heap.size + 1, 0, none⟩ = some (.string a2) ∧ w'.cell? ⟨wq.heap.size, 0, none⟩ = some (.bool true) ∧ w'.cell? ⟨wq.heap.size, 3, none⟩ = some (.string x.f3)) (ds := []) #[false, false, false, false, false, false, false, false, false, false, false, false, false, false] (by kernel_rfl) rfl rfl S0 (fun hHeld => ?_); refine with_tabW subs.tab2 subs.bits2 (fun HT_ HW_ => ?_)
        refine pure_ (i := 0) (N := some 16) (v := ?_) (a' := ?_) #[true, false, false, false, false, false, false, false, false, false, false, false, false, false] rfl rfl (any_of HT_.out (by kernel_rfl)) (fun _ _ _ h => h) (Or.inl ⟨by rfl, ?_⟩) ?_ ?_
        rotate_left
        · intro w'; go_simp; with_reducible rfl
        rotate_left
        · simp only [Act.put, List.setIfInBounds_toArray, List.set_cons_zero, List.set_cons_succ, i64_w, i32_w]; rfl
        refine pure_ (i := 1) (N := some 17) (v := ?_) (a' := ?_) #[true, true, false, false, false, false, false, false, false, false, false, false, false, false] rfl rfl (any_of HT_.out (by kernel_rfl)) (fun _ _ _ h => h) (Or.inl ⟨by rfl, ?_⟩) ?_ ?_
        rotate_left
        · intro w'; go_simp; with_reducible rfl
        rotate_left
        · simp only [Act.put, List.setIfInBounds_toArray, List.set_cons_zero, List.set_cons_succ, i64_w, i32_w]; rfl
        refine pure_ (i := 2) (N := some 18) (v := ?_) (a' := ?_) #[true, true, true, false, false, false, false, false, false, false, false, false, false, false] rfl rfl (any_of HT_.out (by kernel_rfl)) (fun _ _ _ h => h) (Or.inl ⟨by rfl, ?_⟩) ?_ ?_
        rotate_left
        · intro w'; go_simp; with_reducible rfl
        rotate_left
        · simp only [Act.put, List.setIfInBounds_toArray, List.set_cons_zero, List.set_cons_succ, i64_w, i32_w]; rfl
        refine take_ (i := 3) (N := some 19) (v := ?_) (a' := ?_) #[true, true, true, true, false, false, false, false, false, false, false, false, false, false] rfl rfl (take_ofW HT_.out HW_.out (by kernel_rfl)) (fun _ _ _ h => h) (Or.inl ⟨by rfl, ?_⟩) hHeld ?_ ?_
        rotate_left
        · rintro w' ⟨s0, s1, s2, s3, s4, s5⟩; go_simp; with_reducible rfl
        rotate_left
        · simp only [Act.put, List.setIfInBounds_toArray, List.set_cons_zero, List.set_cons_succ, i64_w, i32_w]; rfl
        refine pure_ (i := 4) (N := some 20) (v := ?_) (a' := ?_) #[true, true, true, true, true, false, false, false, false, false, false, false, false, false] rfl rfl (any_of HT_.out (by kernel_rfl)) (fun _ _ _ h => h) (Or.inl ⟨by rfl, ?_⟩) ?_ ?_
        rotate_left
        · intro w'; go_simp; with_reducible rfl
        rotate_left
        · simp only [Act.put, List.setIfInBounds_toArray, List.set_cons_zero, List.set_cons_succ, i64_w, i32_w]; rfl
        refine pure_ (i := 5) (N := some 21) (v := ?_) (a' := ?_) #[true, true, true, true, true, true, false, false, false, false, false, false, false, false] rfl rfl (any_of HT_.out (by kernel_rfl)) (fun _ _ _ h => h) (Or.inl ⟨by rfl, ?_⟩) ?_ ?_
        rotate_left
        · intro w'; go_simp; with_reducible rfl
        rotate_left
        · simp only [Act.put, List.setIfInBounds_toArray, List.set_cons_zero, List.set_cons_succ, i64_w, i32_w]; rfl
        refine pure_ (i := 6) (N := some 22) (v := ?_) (a' := ?_) #[true, true, true, true, true, true, true, false, false, false, false, false, false, false] rfl rfl (any_of HT_.out (by kernel_rfl)) (fun _ _ _ h => h) (Or.inl ⟨by rfl, ?_⟩) ?_ ?_
        rotate_left
        · intro w'; go_simp; with_reducible rfl
        rotate_left
        · simp only [Act.put, List.setIfInBounds_toArray, List.set_cons_zero, List.set_cons_succ, i64_w, i32_w]; rfl
        refine take_ (i := 7) (N := some 23) (v := ?_) (a' := ?_) #[true, true, true, true, true, true, true, true, false, false, false, false, false, false] rfl rfl (take_ofW HT_.out HW_.out (by kernel_rfl)) (fun _ _ _ h => h) (Or.inl ⟨by rfl, ?_⟩) hHeld ?_ ?_
        rotate_left
        · rintro w' ⟨s0, s1, s2, s3, s4, s5⟩; go_simp; with_reducible rfl
        rotate_left
        · simp only [Act.put, List.setIfInBounds_toArray, List.set_cons_zero, List.set_cons_succ, i64_w, i32_w]; rfl
        refine take_ (i := 8) (N := some 24) (v := ?_) (a' := ?_) #[true, true, true, true, true, true, true, true, true, false, false, false, false, false] rfl rfl (take_ofW HT_.out HW_.out (by kernel_rfl)) (fun _ _ _ h => h) (Or.inl ⟨by rfl, ?_⟩) hHeld ?_ ?_
        rotate_left
        · rintro w' ⟨s0, s1, s2, s3, s4, s5⟩; go_simp; with_reducible rfl
        rotate_left
        · simp only [Act.put, List.setIfInBounds_toArray, List.set_cons_zero, List.set_cons_succ, i64_w, i32_w]; rfl
        refine take_ (i := 10) (N := some 26) (v := ?_) (a' := ?_) #[true, true, true, true, true, true, true, true, true, false, true, false, false, false] rfl rfl (take_ofW HT_.out HW_.out (by kernel_rfl)) (fun _ _ _ h => h) (Or.inl ⟨by rfl, ?_⟩) hHeld ?_ ?_
        rotate_left
        · rintro w' ⟨s0, s1, s2, s3, s4, s5⟩; go_simp; with_reducible rfl
        rotate_left
        · simp only [Act.put, List.setIfInBounds_toArray, List.set_cons_zero, List.set_cons_succ, i64_w, i32_w]; rfl
        refine one_ (i := 9) (N := some 25) #[true, true, true, true, true, true, true, true, true, true, true, false, false, false] rfl rfl (one_of HT_.out (by kernel_rfl)) (by decide) (fun K hK => ?_)
        refine goes_ Tryd.func15 (by kernel_rfl) rfl #[.string x.f3, .agg #[.string a1_0, .string a1_1]] (by rfl) rfl rfl (by (try simp only [List.map_toArray, List.map_cons, List.map_nil]); first | done | rfl) ?_
        refine (access_Expand.calls k x.f3 a1_0 a1_1 e _ he).mono ?_
        rintro e1 w1 ⟨rfl, hb1⟩
        refine ⟨_, rfl, ?_⟩
        have hH2 := S1 _ _ hHeld hb1
        clear hHeld
        refine hK.out _ _ hH2 (fun hHeld => ?_)
        clear hK K
        refine norm_ (a' := ?_) ?_ ?_
        rotate_left
        · show Act.put _ (some 25) _ = _; simp only [Act.put, List.setIfInBounds_toArray, List.set_cons_zero, List.set_cons_succ, i64_w, i32_w]; rfl
        refine one_ (i := 11) (N := some 27) #[true, true, true, true, true, true, true, true, true, true, true, true, false, false] rfl rfl (one_of HT_.out (by kernel_rfl)) (by decide) (fun K hK => ?_)
        refine goes_ Tryd.func40 (by kernel_rfl) rfl #[.string e, .string a2] (by rfl) rfl rfl (by (try simp only [List.map_toArray, List.map_cons, List.map_nil]); first | done | rfl) ?_
        refine (match_Covers.calls k e a2 r _ hcv).mono ?_
        rintro e1 w2 ⟨rfl, hb1⟩
        refine ⟨_, rfl, ?_⟩
        have hH2 := S1 _ _ hHeld hb1
        clear hHeld
        refine hK.out _ _ hH2 (fun hHeld => ?_)
        clear hK K
        refine norm_ (a' := ?_) ?_ ?_
        rotate_left
        · show Act.put _ (some 27) _ = _; simp only [Act.put, List.setIfInBounds_toArray, List.set_cons_zero, List.set_cons_succ, i64_w, i32_w]; rfl
        refine pure_ (i := 12) (N := some 28) (v := ?_) (a' := ?_) #[true, true, true, true, true, true, true, true, true, true, true, true, true, false] rfl rfl (any_of HT_.out (by kernel_rfl)) (fun _ _ _ h => h) (Or.inl ⟨by rfl, ?_⟩) ?_ ?_
        rotate_left
        · intro w'; go_simp; with_reducible rfl
        rotate_left
        · simp only [Act.put, List.setIfInBounds_toArray, List.set_cons_zero, List.set_cons_succ, i64_w, i32_w]; rfl
        refine pure_ (i := 13) (N := some 6) (v := ?_) (a' := ?_) #[true, true, true, true, true, true, true, true, true, true, true, true, true, true] rfl rfl (any_of HT_.out (by kernel_rfl)) (fun _ _ _ h => h) (Or.inl ⟨by rfl, ?_⟩) ?_ ?_
        rotate_left
        · intro w'; go_simp; with_reducible rfl
        rotate_left
        · simp only [Act.put, List.setIfInBounds_toArray, List.set_cons_zero, List.set_cons_succ, i64_w, i32_w]; rfl
        refine done_ (done_of HT_.out (by kernel_rfl)) ?_
        go_wp2
        go_ret
        exact ⟨rfl, hHeld.1⟩
      | false =>
        rw [hx, if_neg (by decide)] at h
        obtain rfl := Option.some.inj h
        clear h
        rw [hx] at hc
        go_enter Tryd.func19, Tryd.ntmps19
        go_wp2_with (go_at_call 34; refine hc.mono ?_; rintro e wq ⟨rfl, hb'⟩; obtain ⟨hbw, y0, y1, y2⟩ := hres _ hb'; clear hb' hres hc)
        have S0 : Below w.heap.size w (wq.alloc (.cells #[.bool false, .string x.f1, .int .i64 x.f2, .string x.f3] 42)).drew ∧ (wq.alloc (.cells #[.bool false, .string x.f1, .int .i64 x.f2, .string x.f3] 42)).drew.cell? ⟨w.heap.size, 0, none⟩ = some (.string a1_0) ∧ (wq.alloc (.cells #[.bool false, .string x.f1, .int .i64 x.f2, .string x.f3] 42)).drew.cell? ⟨w.heap.size, 1, none⟩ = some (.string a1_1) ∧ (wq.alloc (.cells #[.bool false, .string x.f1, .int .i64 x.f2, .string x.f3] 42)).drew.cell? ⟨w.heap.size + 1, 0, none⟩ = some (.string a2) ∧ (wq.alloc (.cells #[.bool false, .string x.f1, .int .i64 x.f2, .string x.f3] 42)).drew.cell? ⟨wq.heap.size, 0, none⟩ = some (.bool false) ∧ (wq.alloc (.cells #[.bool false, .string x.f1, .int .i64 x.f2, .string x.f3] 42)).drew.cell? ⟨wq.heap.size, 3, none⟩ = some (.string x.f3) := ⟨(hbw.alloc hbw.size _).drew, Lib.cell?_alloc_some _ y0, Lib.cell?_alloc_some _ y1, Lib.cell?_alloc_some _ y2, by simp, by simp⟩
        have S1 : ∀ wr w1 : World, (Below w.heap.size w wr ∧ wr.cell? ⟨w.heap.size, 0, none⟩ = some (.string a1_0) ∧ wr.cell? ⟨w.heap.size, 1, none⟩ = some (.string a1_1) ∧ wr.cell? ⟨w.heap.size + 1, 0, none⟩ = some (.string a2) ∧ wr.cell? ⟨wq.heap.size, 0, none⟩ = some (.bool false) ∧ wr.cell? ⟨wq.heap.size, 3, none⟩ = some (.string x.f3)) → Below wr.heap.size wr w1 → Below w.heap.size w w1 ∧ w1.cell? ⟨w.heap.size, 0, none⟩ = some (.string a1_0) ∧ w1.cell? ⟨w.heap.size, 1, none⟩ = some (.string a1_1) ∧ w1.cell? ⟨w.heap.size + 1, 0, none⟩ = some (.string a2) ∧ w1.cell? ⟨wq.heap.size, 0, none⟩ = some (.bool false) ∧ w1.cell? ⟨wq.heap.size, 3, none⟩ = some (.string x.f3) := fun wr w1 ⟨s0, s1, s2, s3, s4, s5⟩ hb1 => ⟨s0.trans (hb1.mono s0.size), (hb1.cell (World.block_lt_of_cell? wr _ s1)).trans s1, (hb1.cell (World.block_lt_of_cell? wr _ s2)).trans s2, (hb1.cell (World.block_lt_of_cell? wr _ s3)).trans s3, (hb1.cell (World.block_lt_of_cell? wr _ s4)).trans s4, (hb1.cell (World.block_lt_of_cell? wr _ s5)).trans s5⟩
        clear y0 y1 y2
        refine start_ (n := 14) (S := fun w' => Below w.heap.size w w' ∧ w'.cell? ⟨w.heap.size, 0, none⟩ = some (.string a1_0) ∧ w'.cell? ⟨w.heap.size, 1, none⟩ = some (.string a1_1) ∧ w'.cell? ⟨w.heap.size + 1, 0, none⟩ = some (.string a2) ∧ w'.cell? ⟨wq.heap.size, 0, none⟩ = some (.bool false) ∧ w'.cell? ⟨wq.heap.size, 3, none⟩ = some (.string x.f3)) (ds := []) #[false, false, false, false, false, false, false, false, false, false, false, false, false, false] (by kernel_rfl) rfl rfl S0 (fun hHeld => ?_); refine with_tabW subs.tab2 subs.bits2 (fun HT_ HW_ => ?_)
        refine pure_ (i := 0) (N := some 16) (v := ?_) (a' := ?_) #[true, false, false, false, false, false, false, false, false, false, false, false, false, false] rfl rfl (any_of HT_.out (by kernel_rfl)) (fun _ _ _ h => h) (Or.inl ⟨by rfl, ?_⟩) ?_ ?_
        rotate_left
        · intro w'; go_simp; with_reducible rfl
        rotate_left
        · simp only [Act.put, List.setIfInBounds_toArray, List.set_cons_zero, List.set_cons_succ, i64_w, i32_w]; rfl
        refine pure_ (i := 1) (N := some 17) (v := ?_) (a' := ?_) #[true, true, false, false, false, false, false, false, false, false, false, false, false, false] rfl rfl (any_of HT_.out (by kernel_rfl)) (fun _ _ _ h => h) (Or.inl ⟨by rfl, ?_⟩) ?_ ?_
        rotate_left
        · intro w'; go_simp; with_reducible rfl
        rotate_left
        · simp only [Act.put, List.setIfInBounds_toArray, List.set_cons_zero, List.set_cons_succ, i64_w, i32_w]; rfl
        refine pure_ (i := 2) (N := some 18) (v := ?_) (a' := ?_) #[true, true, true, false, false, false, false, false, false, false, false, false, false, false] rfl rfl (any_of HT_.out (by kernel_rfl)) (fun _ _ _ h => h) (Or.inl ⟨by rfl, ?_⟩) ?_ ?_
        rotate_left
        · intro w'; go_simp; with_reducible rfl
        rotate_left
        · simp only [Act.put, List.setIfInBounds_toArray, List.set_cons_zero, List.set_cons_succ, i64_w, i32_w]; rfl
        refine take_ (i := 3) (N := some 19) (v := ?_) (a' := ?_) #[true, true, true, true, false, false, false, false, false, false, false, false, false, false] rfl rfl (take_ofW HT_.out HW_.out (by kernel_rfl)) (fun _ _ _ h => h) (Or.inl ⟨by rfl, ?_⟩) hHeld ?_ ?_
        rotate_left
        · rintro w' ⟨s0, s1, s2, s3, s4, s5⟩; go_simp; with_reducible rfl
        rotate_left
        · simp only [Act.put, List.setIfInBounds_toArray, List.set_cons_zero, List.set_cons_succ, i64_w, i32_w]; rfl
        refine pure_ (i := 4) (N := some 20) (v := ?_) (a' := ?_) #[true, true, true, true, true, false, false, false, false, false, false, false, false, false] rfl rfl (any_of HT_.out (by kernel_rfl)) (fun _ _ _ h => h) (Or.inl ⟨by rfl, ?_⟩) ?_ ?_
        rotate_left
        · intro w'; go_simp; with_reducible rfl
        rotate_left
        · simp only [Act.put, List.setIfInBounds_toArray, List.set_cons_zero, List.set_cons_succ, i64_w, i32_w]; rfl
        refine pure_ (i := 5) (N := some 21) (v := ?_) (a' := ?_) #[true, true, true, true, true, true, false, false, false, false, false, false, false, false] rfl rfl (any_of HT_.out (by kernel_rfl)) (fun _ _ _ h => h) (Or.inl ⟨by rfl, ?_⟩) ?_ ?_
        rotate_left
        · intro w'; go_simp; with_reducible rfl
        rotate_left
        · simp only [Act.put, List.setIfInBounds_toArray, List.set_cons_zero, List.set_cons_succ, i64_w, i32_w]; rfl
        refine pure_ (i := 6) (N := some 22) (v := undef) (a' := ?_) #[true, true, true, true, true, true, true, false, false, false, false, false, false, false] rfl rfl (any_of HT_.out (by kernel_rfl)) (fun _ _ _ h => h) (Or.inr ⟨by rfl, rfl⟩) ?_ ?_
        rotate_left
        · simp only [Act.put, List.setIfInBounds_toArray, List.set_cons_zero, List.set_cons_succ, i64_w, i32_w]; rfl
        refine pure_ (i := 7) (N := some 23) (v := undef) (a' := ?_) #[true, true, true, true, true, true, true, true, false, false, false, false, false, false] rfl rfl (any_of HT_.out (by kernel_rfl)) (fun _ _ _ h => h) (Or.inr ⟨by rfl, rfl⟩) ?_ ?_
        rotate_left
        · simp only [Act.put, List.setIfInBounds_toArray, List.set_cons_zero, List.set_cons_succ, i64_w, i32_w]; rfl
        refine pure_ (i := 8) (N := some 24) (v := undef) (a' := ?_) #[true, true, true, true, true, true, true, true, true, false, false, false, false, false] rfl rfl (any_of HT_.out (by kernel_rfl)) (fun _ _ _ h => h) (Or.inr ⟨by rfl, rfl⟩) ?_ ?_
        rotate_left
        · simp only [Act.put, List.setIfInBounds_toArray, List.set_cons_zero, List.set_cons_succ, i64_w, i32_w]; rfl
        refine pure_ (i := 10) (N := some 26) (v := undef) (a' := ?_) #[true, true, true, true, true, true, true, true, true, false, true, false, false, false] rfl rfl (any_of HT_.out (by kernel_rfl)) (fun _ _ _ h => h) (Or.inr ⟨by rfl, rfl⟩) ?_ ?_
        rotate_left
        · simp only [Act.put, List.setIfInBounds_toArray, List.set_cons_zero, List.set_cons_succ, i64_w, i32_w]; rfl
        refine pure_ (i := 9) (N := some 25) (v := undef) (a' := ?_) #[true, true, true, true, true, true, true, true, true, true, true, false, false, false] rfl rfl (any_of HT_.out (by kernel_rfl)) (fun _ _ _ h => h) (Or.inr ⟨by rfl, rfl⟩) ?_ ?_
        rotate_left
        · simp only [Act.put, List.setIfInBounds_toArray, List.set_cons_zero, List.set_cons_succ, i64_w, i32_w]; rfl
        refine pure_ (i := 11) (N := some 27) (v := undef) (a' := ?_) #[true, true, true, true, true, true, true, true, true, true, true, true, false, false] rfl rfl (any_of HT_.out (by kernel_rfl)) (fun _ _ _ h => h) (Or.inr ⟨by rfl, rfl⟩) ?_ ?_
        rotate_left
        · simp only [Act.put, List.setIfInBounds_toArray, List.set_cons_zero, List.set_cons_succ, i64_w, i32_w]; rfl
        refine pure_ (i := 12) (N := some 28) (v := ?_) (a' := ?_) #[true, true, true, true, true, true, true, true, true, true, true, true, true, false] rfl rfl (any_of HT_.out (by kernel_rfl)) (fun _ _ _ h => h) (Or.inl ⟨by rfl, ?_⟩) ?_ ?_
        rotate_left
        · intro w'; go_simp; with_reducible rfl
        rotate_left
        · simp only [Act.put, List.setIfInBounds_toArray, List.set_cons_zero, List.set_cons_succ, i64_w, i32_w]; rfl
        refine pure_ (i := 13) (N := some 6) (v := ?_) (a' := ?_) #[true, true, true, true, true, true, true, true, true, true, true, true, true, true] rfl rfl (any_of HT_.out (by kernel_rfl)) (fun _ _ _ h => h) (Or.inl ⟨by rfl, ?_⟩) ?_ ?_
        rotate_left
        · intro w'; go_simp; with_reducible rfl
        rotate_left
        · simp only [Act.put, List.setIfInBounds_toArray, List.set_cons_zero, List.set_cons_succ, i64_w, i32_w]; rfl
        refine done_ (done_of HT_.out (by kernel_rfl)) ?_
        go_wp2
        go_ret
        exact ⟨rfl, hHeld.1⟩
  · cases h
end Go.Proofs.YtgdamingkgafhaaDoor.P
