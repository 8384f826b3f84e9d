/- mapping.Apply, walked. -/
-- needs: match_Matches mapping_taken topic_Join topic_Valid
import Derived.Test.YtegcobkhejpmkaaDoorPx1
import Derived.Test.YtegcobkhejpmkaaDoorPx3
import Derived.Test.YtegcobkhejpmkaaDoorHandM
import Derived.Maps.OwnIn
import Derived.Laws.EntriesVeiled
import Derived.Maps.AppendAt
namespace Go.Proofs.YtegcobkhejpmkaaDoor.P
open Go.RowKit Go.Shelf Go.Proofs.YtegcobkhejpmkaaDoorW.PrintWords Go.Proofs.YtegcobkhejpmkaaDoorW.PrintLast Go.Proofs.YtegcobkhejpmkaaDoorW.PrintMore Go.Proofs.YtegcobkhejpmkaaDoor.Rk
attribute [local go_sem] Oper.semAt_some
set_option linter.all false
set_option linter.unusedVariables false

theorem info9A : (Tryd.prog.info? 9).map (fun i => (i.zero, i.size, i.bytes)) = some (some (.string ⟨#[]⟩), 1, 16) := by kernel_rfl
/-- A row of one's own abides the turn of a block that is no cells. -/
theorem R_abidesA {α : Type} {d : Kd α} {e : Nat} {W W' : World} {base : Nat} {ok : Nat → Prop} {v : Value} {xs : List α} {row : Option Nat} (h : d.R e W base ok v xs) (hg : W.grownBy W' row)
    (hr : ∀ r, row = some r → ∃ o : Obj, W.heap[r]? = some o ∧ o.isCells = false) : d.R e W' base ok v xs := by
  refine Kd.R_mono (Kd.R_grown (Kd.R_bound h) hg fun k hk e => ?_) (fun k hk => hk.1)
  obtain ⟨_, _, _, q, _, cells, hc⟩ := hk
  obtain ⟨o, ho, hn⟩ := hr k e.symm
  rw [hc] at ho
  cases ho
  cases hn
/-- The closure add of Apply. -/
theorem add1 (x : ByteArray) (xs : List ByteArray) (v : Value) (B6 base : Nat) (w0 W : World) (ok : Nat → Prop) (hB : Below base w0 W) (hbase : base ≤ B6) (hW : base ≤ W.heap.size) (hlen : (xs.length + 1) * 16 ≤ 140737488355328)
    (hb : W.heap[B6]? = some (.cells #[v] 32 (0, 0))) (hR : Kd.R Kd.string 9 W base ok v xs) (hok : ∀ k, ok k → k ≠ B6) (hfresh : ∀ k, W.heap.size ≤ k → ok k) :
    Calls Tryd.prog 33 #[.string x, .pointer (some ⟨B6, 0, none⟩)] W fun e W' => e = .returned (.tuple #[]) ∧
      ∃ v', W'.heap[B6]? = some (.cells #[v'] 32 (0, 0)) ∧ Kd.R Kd.string 9 W' base ok v' (xs ++ [x]) ∧ Below base w0 W' ∧ (v'.ownBlock = v.ownBlock ∨ ∃ b, v'.ownBlock = some b ∧ W.heap.size ≤ b) ∧
        W.heap.size ≤ W'.heap.size ∧ ∀ k, k < W.heap.size → k ≠ B6 → some k ≠ v.ownBlock → W'.heap[k]? = W.heap[k]? := by
  have hlt : B6 < W.heap.size := (Array.getElem?_eq_some_iff.1 hb).1
  have zb : W.cell? ⟨B6, 0, none⟩ = some v := (blk_cell hb 0).trans rfl
  have HSt : Aside0 (∀ (v4 : Value) (w4 : World), Kd.R Kd.string 9 w4 base ok v4 (xs ++ [x]) → Below base w0 w4 → W.grownBy w4 v.ownBlock → (v4.ownBlock = v.ownBlock ∨ ∃ b, v4.ownBlock = some b ∧ W.heap.size ≤ b) →
      (∃ g c, v4 = .slice (some ⟨g, 0, none⟩) (xs.length + 1) c) ∧ w4.cell? ⟨B6, 0, none⟩ = some v ∧ w4.frozen? ⟨B6, 0, none⟩ = false ∧
      ((w4.setCell ⟨B6, 0, none⟩ v4).heap[B6]? = some (.cells #[v4] 32 (0, 0)) ∧ Kd.R Kd.string 9 (w4.setCell ⟨B6, 0, none⟩ v4) base ok v4 (xs ++ [x]) ∧ Below base w0 (w4.setCell ⟨B6, 0, none⟩ v4) ∧ (v4.ownBlock = v.ownBlock ∨ ∃ b, v4.ownBlock = some b ∧ W.heap.size ≤ b) ∧
        W.heap.size ≤ (w4.setCell ⟨B6, 0, none⟩ v4).heap.size ∧ ∀ k, k < W.heap.size → k ≠ B6 → some k ≠ v.ownBlock → (w4.setCell ⟨B6, 0, none⟩ v4).heap[k]? = W.heap[k]?)) := ⟨by
    intro v4 w4 ho hb4 hg4 hat4
    have hbb : w4.heap[B6]? = some (.cells #[v] 32 (0, 0)) := (hg4.block B6 hlt (fun e => hok B6 (hR.1 B6 e.symm) rfl)).trans hb
    obtain ⟨inner, hown4⟩ := Kd.R_own ho
    rw [show (xs ++ [x]).length = xs.length + 1 from by rw [List.length_append]; rfl] at hown4
    refine ⟨ownsRow_succ hown4, (blk_cell hbb 0).trans rfl, blk_frozen hbb 0, blk_set hbb 0 v4, Kd.R_far ho (fun k hk => hok k hk) v4, hb4.setCell hbase v4, hat4, ?_, ?_⟩
    · simp only [World.setCell, Array.size_modify]
      exact hg4.size
    · intro k hk h1 h2
      exact (Below.heap_setCell w4 ⟨B6, 0, none⟩ v4 k h1).trans (hg4.block k hk h2)⟩
  have HR := Aside0.mk hR
  have HB := Aside0.mk hB
  have HF := Aside0.mk hfresh
  have HL := Aside0.mk hlen
  have HW := Aside0.mk hW
  obtain ⟨A, c, rfl, _, _⟩ := Kd.R_reads hR
  clear hb hR hok hfresh hlen hB hW hlt
  go_enter Tryd.func33, Tryd.ntmps33
  go_wp2_with ((with_reducible refine gate_builtin (b := .append) (xs := #[.tmp 3, .tmp 5]) rfl ?_); at_builtin; refine Kd.R_append Kd.string (w0 := w0) base rfl (.tmp 3) (.tmp 5) 32 9 (.string ⟨#[]⟩) 16 rfl Tryd.underlying32 info9A rfl (by decide) (by omega) (.slice A xs.length c) xs x [.string x] ok (fun _ => False) rfl rfl rfl (fun _ hk => hk.elim) ?aF ?aO ?aB ?aS ?aL ?_; (case aB => exact HB.out); (case aF => exact HF.out); (case aO => exact HR.out); (case aS => exact HW.out); (case aL => exact HL.out); intro v4 w4 ho hb4 hg4 hat4; obtain ⟨⟨g4, c4, rfl⟩, zc4, zf4, h5⟩ := HSt.out v4 w4 ho hb4 hg4 hat4; have H5 := Aside0.mk h5; clear h5 ho hb4 hg4 hat4)
  go_end0
  exact ⟨rfl, _, H5.out⟩

theorem mapped1 (b : ByteArray) (Ap : Option Addr) (np cp : Nat) (W : World) : Calls Tryd.prog 34 #[.string b, .slice Ap np cp] W fun e W' => e = .returned (.func (.func 66) #[] #[.pointer (some ⟨W.heap.size, 0, none⟩), .pointer (some ⟨W.heap.size + 1, 0, none⟩)]) ∧ W' = (W.alloc (.cells #[.string b] 9)).alloc (.cells #[.slice Ap np cp] 47) := by
  go_enter Tryd.func34, Tryd.ntmps34
  go_wp2
  go_ret
  exact ⟨by simp, rfl⟩
def fits (parts : List (List ByteArray)) (ls : List ByteArray) : Prop := parts.length ≤ 1000000 ∧ ls.length ≤ 1000000 ∧ (∀ p ∈ parts, p.length ≤ 1000000) ∧ (seqM parts ls).length ≤ 1000000
instance (parts : List (List ByteArray)) (ls : List ByteArray) : Decidable (fits parts ls) := inferInstanceAs (Decidable (_ ∧ _))
def applyF (k : Nat) (a b n : ByteArray) : Option (ByteArray × Bool) := (match_Matches.f k a n).bind fun t => if t = true then ((mapping_taken.f k a n).bind fun parts => (topic_Levels.f b).bind fun ls => if fits parts ls then ((topic_Join.f (seqM parts ls)).bind fun s => (topic_Valid.f s).bind fun v => if v = true then some (s, true) else some (⟨#[]⟩, false)) else none) else some (⟨#[]⟩, false)
def applyR.T5 : Bool × List (List Nat × List Nat) := (true, [([], []), ([0], [0]), ([], []), ([2], [2]), ([], []), ([3, 4], [3, 4]), ([1, 5, 5], [1, 5])])
def applyR.B5 : List Nat := [0, 1, 0, 4, 0, 28, 63]
theorem applyR.tab5 : rtab .any (opsOf Tryd.f14 5) = applyR.T5 := by kernel_rfl
theorem applyR.bits5 : waitsOk applyR.T5.2 applyR.B5 = true := by kernel_rfl

theorem wp_normalA {P : Program} {c : Code} {Q : Exit → Act → World → Prop} {a : Act} {w : World} (h : c.wp P (fun e a w => match e with | .normal => Q .normal a w | _ => False) a w) : c.wp P Q a w := by
  refine wp_mono h ?_
  intro e a w hq
  cases e <;> first | exact hq | exact hq.elim
/-- What lies in memory between two rounds. -/
def InvA (w0 wt : World) (s1 : Nat) (b : ByteArray) (vp : Value) (pre : List ByteArray) (vo : Value) (W : World) : Prop :=
  Below w0.heap.size w0 W ∧ wt.heap.size + 2 ≤ W.heap.size ∧ W.heap[s1]? = some (.cells #[vo] 32 (0, 0)) ∧ W.heap[s1 + 1]? = some (.cells #[.func (.func 33) #[] #[.pointer (some ⟨s1, 0, none⟩)]] 43 (0, 0)) ∧
  W.heap[wt.heap.size]? = some (.cells #[.string b] 9 (0, 0)) ∧ W.heap[wt.heap.size + 1]? = some (.cells #[vp] 47 (0, 0)) ∧ (∀ k, s1 + 2 ≤ k → k < wt.heap.size → W.heap[k]? = wt.heap[k]?) ∧
  Kd.R Kd.string 9 W w0.heap.size (fun k => wt.heap.size + 2 ≤ k) vo pre
theorem invA_own {w0 wt : World} {s1 : Nat} {b : ByteArray} {vp : Value} {pre : List ByteArray} {vo : Value} {W W' : World} {row : Option Nat} (hs : s1 + 2 ≤ wt.heap.size) (h0 : w0.heap.size ≤ s1) (h : InvA w0 wt s1 b vp pre vo W) (hg : W.grownBy W' row)
    (hr : ∀ r, row = some r → wt.heap.size + 2 ≤ r ∧ ∃ o : Obj, W.heap[r]? = some o ∧ o.isCells = false) : InvA w0 wt s1 b vp pre vo W' := by
  obtain ⟨hB, hz, h6, h7, ht, hp, hk, hR⟩ := h
  have keep : ∀ k, k < wt.heap.size + 2 → W'.heap[k]? = W.heap[k]? := fun k hk2 => hg.block k (by omega) (fun e => by have := (hr k e.symm).1; omega)
  exact ⟨hB.grown hg hB.size (fun k e => by have := (hr k e).1; omega), Nat.le_trans hz hg.size, (keep _ (by omega)).trans h6, (keep _ (by omega)).trans h7, (keep _ (by omega)).trans ht, (keep _ (by omega)).trans hp, fun k h1 h2 => (keep k (by omega)).trans (hk k h1 h2), R_abidesA hR hg (fun r e => (hr r e).2)⟩
/-- What lies in memory in a round. -/
def AxA (a n : ByteArray) (w0 w1 wt : World) (b : ByteArray) (vp : Value) (pre : List ByteArray) (x : ByteArray) (a' : Act) (W : World) : Prop :=
  ∃ vo : Value, InvA w0 wt w1.heap.size b vp pre vo W ∧ a' = { tmps := #[.agg #[.string a, .string b], .string n, .pointer (some ⟨w0.heap.size, 0, none⟩), undef, .string ⟨#[]⟩, .bool false, .pointer (some ⟨w1.heap.size, 0, none⟩), .pointer (some ⟨w1.heap.size + 1, 0, none⟩), .string x, undef, .pointer (some ⟨w0.heap.size, 0, none⟩), .string a, .string n, .bool true, .bool false, .func (.func 33) #[] #[.pointer (some ⟨w1.heap.size, 0, none⟩)], .pointer (some ⟨w0.heap.size, 1, none⟩), .string b, .pointer (some ⟨w0.heap.size, 0, none⟩), .string a, .string n, vp, .func (.func 66) #[] #[.pointer (some ⟨wt.heap.size, 0, none⟩), .pointer (some ⟨wt.heap.size + 1, 0, none⟩)], .string x, undef, undef, undef, undef, undef, undef, undef, undef, undef], defers := [] }
/-- A round. -/
theorem addR {w0 wt : World} {s1 : Nat} {b : ByteArray} {vp : Value} {pre : List ByteArray} {vo : Value} {W : World} (x : ByteArray) (hs : s1 + 2 ≤ wt.heap.size) (h0 : w0.heap.size ≤ s1) (h : InvA w0 wt s1 b vp pre vo W) (hlen : pre.length + 1 ≤ 1000000) :
    Calls Tryd.prog 33 #[.string x, .pointer (some ⟨s1, 0, none⟩)] W fun e W' => e = .returned (.tuple #[]) ∧ KeepsFrom (wt.heap.size + 2) W W' ∧ KeepC s1 W W' ∧ ∃ vo', InvA w0 wt s1 b vp (pre ++ [x]) vo' W' := by
  obtain ⟨hB, hz, h6, h7, ht, hp, hk, hR⟩ := h
  have hvo : ∀ k, vo.ownBlock = some k → wt.heap.size + 2 ≤ k := hR.1
  refine (add1 x pre vo s1 w0.heap.size w0 W (fun k => wt.heap.size + 2 ≤ k) hB h0 hB.size (by omega) h6 hR (fun k hk => by omega) (fun k hk => by omega)).mono ?_
  rintro e W' ⟨he, v', hb', hR', hB', hat, hsz, hkeep⟩
  have low : ∀ k, k < wt.heap.size + 2 → k ≠ s1 → W'.heap[k]? = W.heap[k]? := fun k hk2 hne => hkeep k (by omega) hne (fun e => by have := hvo k e.symm; omega)
  refine ⟨he, ⟨hsz, fun k o hB2 hk2 hn => ?_⟩, ⟨hsz, fun k cs t fr hk2 hm => ?_, fun k hm => ?_⟩, v', hB', Nat.le_trans hz hsz, hb', (low _ (by omega) (by omega)).trans h7, (low _ (by omega) (by omega)).trans ht, (low _ (by omega) (by omega)).trans hp, fun k h1 h2 => (low k (by omega) (by omega)).trans (hk k h1 h2), hR'⟩
  · refine (hkeep k (Array.getElem?_eq_some_iff.1 hk2).1 (by omega) (fun e => ?_)).trans hk2
    obtain ⟨cells, hc'⟩ := own_typed (Kd.R_own hR).choose_spec k e.symm
    rw [hc'] at hk2
    cases hk2
    cases hn
  · exact (hkeep k (Array.getElem?_eq_some_iff.1 hk2).1 (fun e => hm (.inl e)) (fun e => hm (.inr ⟨vo, (blk_cell h6 0).trans rfl, e.symm⟩))).trans hk2
  · rcases hm with rfl | ⟨v2, hv2, ho2⟩
    · exact .inl (.inl rfl)
    · rw [(blk_cell hb' 0).trans rfl] at hv2
      cases hv2
      rcases hat with h1 | ⟨b2, h1, h2⟩
      · exact .inl (.inr ⟨vo, (blk_cell h6 0).trans rfl, h1.symm.trans ho2⟩)
      · obtain rfl : k = b2 := Option.some.inj (ho2.symm.trans h1)
        exact .inr h2

set_option maxHeartbeats 8000000 in
set_option maxRecDepth 100000 in
theorem Apply_calls (k : Nat) (a b n r1 : ByteArray) (r2 : Bool) (w0 : World) (h : applyF k a b n = some (r1, r2)) :
    Calls Tryd.prog 14 #[.agg #[.string a, .string b], .string n] w0 fun e w' => e = .returned (.tuple #[.string r1, .bool r2]) ∧ Below w0.heap.size w0 w' := by
  unfold applyF at h
  obtain ⟨t, ht, h⟩ := Option.bind_eq_some_iff.1 h
  have hu28 := Tryd.underlying28
  have HM := Aside0.mk ht
  clear ht
  cases t with
  | false =>
    rw [if_neg (by decide)] at h
    cases h
    go_enter Tryd.func14, Tryd.ntmps14
    go_wp2_with (go_at_call 32; refine (match_Matches.calls k a n false _ HM.out).mono ?_; rintro e w1 ⟨rfl, hb⟩; have HB := Aside0.mk (((Below.refl _ w0).alloc (Nat.le_refl _) _).trans (hb.mono (by simp))); clear hb)
    go_ret2
    exact ⟨rfl, HB.out⟩
  | true =>
    rw [if_pos rfl] at h
    obtain ⟨parts, hp, h⟩ := Option.bind_eq_some_iff.1 h
    obtain ⟨ls, hl, h⟩ := Option.bind_eq_some_iff.1 h
    split at h
    · rename_i hfit
      obtain ⟨s, hj, h⟩ := Option.bind_eq_some_iff.1 h
      obtain ⟨v, hv, h⟩ := Option.bind_eq_some_iff.1 h
      have HT3 := Aside0.mk hp
      have HLS := Aside0.mk hl
      have HFT := Aside0.mk hfit
      have HJN := Aside0.mk hj
      have HVL := Aside0.mk hv
      have HRS := Aside0.mk h
      clear h hp hl hfit hj hv
      refine (callsIn_wide (n := 3)).1 ?_
      refine callsIn_of_wp_marks Tryd.func14 rfl trivial ?_ rfl
      simp only [Tryd.ntmps14, List.size_toArray, List.length_cons, List.length_nil, Nat.reduceAdd, Nat.reduceSub, Array.replicate_succ, Array.replicate_zero, List.push_toArray, List.append_toArray, List.nil_append, List.cons_append]
      refine wpIn_wide.2 ?_
      go_wp2_with (go_at_call 32; refine (match_Matches.calls k a n true _ HM.out).mono ?_; rintro e w1 ⟨rfl, hb⟩; have hbb := blk_below (blk_new w0 _) hb; have HBX := Aside0.mk hbb; have HB1 := Aside0.mk (((Below.refl _ w0).alloc (Nat.le_refl _) _).trans (hb.mono (by simp))); clear hb hbb)
      have hs1 : w1.heap.size = w1.heap.size := rfl
      have hlt := blk_lt HBX.out
      have hx3 := blk_drew (blk_alloc (blk_alloc HBX.out (.cells #[.slice none 0 0] 32)) (.cells #[.func (.func 33) #[] #[.pointer (some ⟨w1.heap.size, 0, none⟩)]] 43))
      have hs0 := (blk_cell hx3 0).trans rfl
      have hs1 := (blk_cell hx3 1).trans rfl
      refine wp_normalA ?_
      refine start_ (n := 7) (S := fun w' => w'.cell? ⟨w0.heap.size, 0, none⟩ = some (.string a) ∧ w'.cell? ⟨w0.heap.size, 1, none⟩ = some (.string b)) (ds := []) #[false, false, false, false, false, false, false] (by kernel_rfl) rfl rfl ⟨hs0, hs1⟩ (fun hHeld => ?_); refine with_tabW applyR.tab5 applyR.bits5 (fun HT_ HW_ => ?_)
      refine pure_ (i := 0) (N := some 16) (v := ?_) (a' := ?_) #[true, false, false, false, false, false, false] rfl rfl (any_of HT_.out (by kernel_rfl)) (fun _ _ _ h => h) (Or.inl ⟨by rfl, ?_⟩) ?_ ?_
      rotate_left
      · intro w'; go_simp; with_reducible rfl
      rotate_left
      · simp only [Act.put, List.setIfInBounds_toArray, List.set_cons_zero, List.set_cons_succ, i64_w, i32_w]; rfl
      refine take_ (i := 1) (N := some 17) (v := ?_) (a' := ?_) #[true, true, false, false, false, false, false] rfl rfl (take_ofW HT_.out HW_.out (by kernel_rfl)) (fun _ _ _ h => h) (Or.inl ⟨by rfl, ?_⟩) hHeld ?_ ?_
      rotate_left
      · rintro w' ⟨s0, s1⟩; go_simp; with_reducible rfl
      rotate_left
      · simp only [Act.put, List.setIfInBounds_toArray, List.set_cons_zero, List.set_cons_succ, i64_w, i32_w]; rfl
      refine pure_ (i := 2) (N := some 18) (v := ?_) (a' := ?_) #[true, true, true, false, false, false, false] rfl rfl (any_of HT_.out (by kernel_rfl)) (fun _ _ _ h => h) (Or.inl ⟨by rfl, ?_⟩) ?_ ?_
      rotate_left
      · intro w'; go_simp; with_reducible rfl
      rotate_left
      · simp only [Act.put, List.setIfInBounds_toArray, List.set_cons_zero, List.set_cons_succ, i64_w, i32_w]; rfl
      refine take_ (i := 3) (N := some 19) (v := ?_) (a' := ?_) #[true, true, true, true, false, false, false] rfl rfl (take_ofW HT_.out HW_.out (by kernel_rfl)) (fun _ _ _ h => h) (Or.inl ⟨by rfl, ?_⟩) hHeld ?_ ?_
      rotate_left
      · rintro w' ⟨s0, s1⟩; go_simp; with_reducible rfl
      rotate_left
      · simp only [Act.put, List.setIfInBounds_toArray, List.set_cons_zero, List.set_cons_succ, i64_w, i32_w]; rfl
      refine pure_ (i := 4) (N := some 20) (v := ?_) (a' := ?_) #[true, true, true, true, true, false, false] rfl rfl (any_of HT_.out (by kernel_rfl)) (fun _ _ _ h => h) (Or.inl ⟨by rfl, ?_⟩) ?_ ?_
      rotate_left
      · intro w'; go_simp; with_reducible rfl
      rotate_left
      · simp only [Act.put, List.setIfInBounds_toArray, List.set_cons_zero, List.set_cons_succ, i64_w, i32_w]; rfl
      refine one_ (i := 5) (N := some 21) #[true, true, true, true, true, true, false] rfl rfl (one_of HT_.out (by kernel_rfl)) (by decide) (fun K hK => ?_)
      refine goes_ Tryd.func35 (by kernel_rfl) rfl #[.string a, .string n] (by rfl) rfl rfl (by (try simp only [List.map_toArray, List.map_cons, List.map_nil]); first | done | rfl) ?_
      refine (mapping_taken.calls k a n parts _ HT3.out).mono ?_
      rintro e wt ⟨vp, rfl, hN, hbt⟩
      obtain ⟨Ap, cp, evp⟩ := Kd.N_slice hN
      subst evp
      refine ⟨_, rfl, ?_⟩
      refine hK.out _ _ ?_ (fun hHeld => ?_)
      · exact ⟨(hbt.cell (p := ⟨w0.heap.size, 0, none⟩) (World.block_lt_of_cell? _ _ hHeld.1)).trans hHeld.1, (hbt.cell (p := ⟨w0.heap.size, 1, none⟩) (World.block_lt_of_cell? _ _ hHeld.2)).trans hHeld.2⟩
      clear hK K
      refine norm_ (a' := ?_) ?_ ?_
      rotate_left
      · show Act.put _ (some 21) _ = _; simp only [Act.put, List.setIfInBounds_toArray, List.set_cons_zero, List.set_cons_succ, i64_w, i32_w]; rfl
      refine one_ (i := 6) (N := some 22) #[true, true, true, true, true, true, true] rfl rfl (one_of HT_.out (by kernel_rfl)) (by decide) (fun K hK => ?_)
      refine goes_ Tryd.func34 (by kernel_rfl) rfl #[.string b, .slice Ap parts.length cp] (by rfl) rfl rfl (by (try simp only [List.map_toArray, List.map_cons, List.map_nil]); first | done | rfl) ?_
      refine (mapped1 b Ap parts.length cp _).mono ?_
      rintro e wm ⟨rfl, rfl⟩
      refine ⟨_, rfl, ?_⟩
      refine hK.out _ _ ?_ (fun hHeld => ?_)
      · exact ⟨Lib.cell?_alloc_some _ (Lib.cell?_alloc_some _ hHeld.1), Lib.cell?_alloc_some _ (Lib.cell?_alloc_some _ hHeld.2)⟩
      clear hK K
      refine norm_ (a' := ?_) ?_ ?_
      rotate_left
      · show Act.put _ (some 22) _ = _; simp only [Act.put, List.setIfInBounds_toArray, List.set_cons_zero, List.set_cons_succ, i64_w, i32_w]; rfl
      refine done_ (done_of HT_.out (by kernel_rfl)) ?_
      try go_wp2
      obtain ⟨W3, hW3⟩ : ∃ W3, W3 = ((w1.alloc (.cells #[.slice none 0 0] 32)).alloc (.cells #[.func (.func 33) #[] #[.pointer (some ⟨w1.heap.size, 0, none⟩)]] 43)).drew := ⟨_, rfl⟩
      rw [← hW3] at hN hbt
      have s3 : W3.heap.size = w1.heap.size + 2 := by rw [hW3]; simp
      have h6 : W3.heap[w1.heap.size]? = some (.cells #[.slice none 0 0] 32 (0, 0)) := by rw [hW3]; exact blk_drew (blk_alloc (blk_new w1 _) _)
      have h7 : W3.heap[w1.heap.size + 1]? = some (.cells #[.func (.func 33) #[] #[.pointer (some ⟨w1.heap.size, 0, none⟩)]] 43 (0, 0)) := by
        rw [hW3]
        have := blk_new (w1.alloc (.cells #[.slice none 0 0] 32)) (.cells #[.func (.func 33) #[] #[.pointer (some ⟨w1.heap.size, 0, none⟩)]] 43)
        simp only [World.size_alloc] at this
        exact blk_drew this
      have hB3 : Below w0.heap.size w0 W3 := by
        rw [hW3]
        exact below_drew1 ((HB1.out.alloc HB1.out.size _).alloc (by have := HB1.out.size; simp; omega) _)
      have hB4 : Below w0.heap.size w0 wt := hB3.trans (hbt.mono hB3.size)
      have hst : w1.heap.size + 2 ≤ wt.heap.size := by have := hbt.size; omega
      have h01 : w0.heap.size ≤ w1.heap.size := HB1.out.size
      obtain ⟨hf1, hf2, hf3, hf4⟩ := HFT.out
      have hV : Kd.V (Kd.slice 9 Kd.string) 32 wt w0.heap.size (fun k => w1.heap.size + 2 ≤ k ∧ k < wt.heap.size) (.slice Ap parts.length cp) parts := Kd.V_mono (Kd.V_bound (Kd.N_V hN)) (fun k hk => ⟨by have := hk.1; omega, hk.2⟩)
      have hfirst : InvA w0 wt w1.heap.size b (.slice Ap parts.length cp) [] (.slice none 0 0) ((wt.alloc (.cells #[.string b] 9)).alloc (.cells #[.slice Ap parts.length cp] 47)) := by
        refine ⟨(hB4.alloc hB4.size _).alloc (by have := hB4.size; simp; omega) _, by simp, blk_alloc (blk_alloc (blk_below h6 hbt) _) _, blk_alloc (blk_alloc (blk_below h7 hbt) _) _, blk_alloc (blk_new wt _) _, ?_, fun k _ hk => ?_, Kd.R_nil _ _ _ _ _⟩
        · have := blk_new (wt.alloc (.cells #[.string b] 9)) (.cells #[.slice Ap parts.length cp] 47)
          simp only [World.size_alloc] at this
          exact this
        · exact (Below.heap_alloc _ _ _ (by simp; omega)).trans (Below.heap_alloc _ _ _ hk)
      have HFI := Aside0.mk hfirst
      have HVV := Aside0.mk hV
      clear hfirst hV hB3 hB4 h6 h7 hN hbt s3 hW3 hx3 hs0 hs1 hHeld hlt
      refine (wpIn_wide (n := 3)).1 ?_
      refine range_known3 (wt.heap.size + 2) (by simp) (gf := 66) (lb := #[.pointer (some ⟨wt.heap.size, 0, none⟩), .pointer (some ⟨wt.heap.size + 1, 0, none⟩)]) rfl (enters_of Tryd.func66 (by kernel_rfl) rfl) (encs := fun x : ByteArray => #[.string x]) (fun _ => rfl) w1.heap.size (by omega)
        (I := fun pre W => ∃ vo, InvA w0 wt w1.heap.size b (.slice Ap parts.length cp) pre vo W) (ok := okM (seqM parts ls)) (fin := finM (seqM parts ls)) ?run ?own ⟨_, HFI.out⟩ ?is (AxA a n w0 w1 wt b (.slice Ap parts.length cp)) ?ownA ?assign ?body ?done
      case run =>
        refine mapped_runs b parts ls (.slice Ap parts.length cp) _ wt.heap.size (wt.heap.size + 1) w1.heap.size w0.heap.size (fun k => w1.heap.size + 2 ≤ k ∧ k < wt.heap.size) wt (by decide) HLS.out hf2 hf1 hf3 HVV.out (fun k hk => hk.2) _ ?_
        rintro pre W ⟨vo, hB, hz, h6, h7, htt, hpp, hkk, hR⟩
        refine ⟨(blk_cell htt 0).trans rfl, (blk_cell hpp 0).trans rfl, blk_lt h6, fun k hk => hkk k hk.1 hk.2, fun k hm => ?_⟩
        rcases hm with rfl | ⟨v2, hv2, ho2⟩
        · exact blk_lt h6
        · have hv3 : W.cell? ⟨w1.heap.size, 0, none⟩ = some vo := (blk_cell h6 0).trans rfl
          obtain rfl : vo = v2 := Option.some.inj (hv3.symm.trans hv2)
          exact ((Kd.R_bound hR).1 k ho2).2.2.1
      case own =>
        rintro pre W W' row ⟨vo, h⟩ hg hr
        exact ⟨vo, invA_own hst h01 h hg hr⟩
      case is =>
        rintro pre W ⟨vo, h⟩
        exact blk_lt h.2.2.1
      case ownA =>
        rintro pre x a' _ W W' row ⟨vo, h, rfl⟩ hg hr
        exact ⟨vo, invA_own hst h01 h hg hr, rfl⟩
      case assign =>
        rintro l pre x W K ⟨vo, h⟩ _ hK
        gi_wp2
        exact hK _ _ (KeepsFrom.refl _ _) (KeepC.refl (blk_lt h.2.2.1)) ⟨vo, h, rfl⟩
      case body =>
        rintro l pre x a' W ⟨rest, hrest⟩ ⟨vo, h, rfl⟩
        have hlen : pre.length + 1 ≤ 1000000 := by
          have := congrArg List.length hrest
          rw [List.length_append, List.length_cons] at this
          omega
        have z7 : W.cell? ⟨w1.heap.size + 1, 0, none⟩ = some (.func (.func 33) #[] #[.pointer (some ⟨w1.heap.size, 0, none⟩)]) := (blk_cell h.2.2.2.1 0).trans rfl
        have hadd := addR x hst h01 h hlen
        have HAD := Aside0.mk hadd
        clear hadd h hlen hrest
        gi_wp2_with (refine ⟨trivial, ?_⟩; gi_at_call 33; refine (CallsIn.inRound l (callsIn_wide.2 HAD.out)).mono ?_; rintro e w6 ⟨rfl, hk6, hc6, h6'⟩)
        exact ⟨hk6, hc6, h6'⟩
      case done =>
        rintro D xs W hD hfin ⟨vo, h⟩ hK
        have hxs : xs = seqM parts ls := hfin
        subst hxs
        obtain ⟨hB, hz, h6, h7, htt, hpp, hkk, hR⟩ := h
        have z6 : W.cell? ⟨w1.heap.size, 0, none⟩ = some vo := (blk_cell h6 0).trans rfl
        obtain ⟨Ao, co, eo, hcap, hC⟩ := Kd.R_reads hR
        subst eo
        have HC := Aside0.mk hC
        have HCP := Aside0.mk hcap
        have HBW := Aside0.mk hB
        have HKD := Aside0.mk hK
        clear hC hcap hB hK hR h6 h7 htt hpp hkk hz hfin
        cases v with
        | true =>
          have hr := HRS.out
          rw [if_pos rfl] at hr
          cases hr
          clear HRS
          simp only [Exit.inBlock, Exit.then]
          go_wp2_with (first | (go_at_call 36; refine (topic_Join.calls Ao co (seqM parts ls) r1 _ HC.out HCP.out HJN.out).mono ?_; rintro e w7 ⟨rfl, hb⟩; have HB7 := Aside0.mk (HBW.out.trans (hb.mono HBW.out.size)); have HD7 := Aside0.mk (blk_below HKD.out hb); clear hb) | (go_at_call 37; refine (topic_Valid.calls r1 true _ HVL.out).mono ?_; rintro e w8 ⟨rfl, hb⟩; have HB8 := Aside0.mk (HB7.out.trans (hb.mono HB7.out.size)); have HD8 := Aside0.mk (blk_below HD7.out hb); clear hb))
          refine ⟨by simp, .inl ⟨_, _, rfl, run_takeDeferred (show w8.heap[D]? = _ from HD8.out), ?_⟩⟩
          refine ⟨_, results_tmp2 rfl _ _ _, rfl, HB8.out.grown (grownBy_putObj' _ D _) (by have := HB8.out.size; simpa using this) (fun k e => by cases e; omega)⟩
        | false =>
          have hr := HRS.out
          rw [if_neg (by decide)] at hr
          cases hr
          clear HRS
          simp only [Exit.inBlock, Exit.then]
          go_wp2_with (first | (go_at_call 36; refine (topic_Join.calls Ao co (seqM parts ls) s _ HC.out HCP.out HJN.out).mono ?_; rintro e w7 ⟨rfl, hb⟩; have HB7 := Aside0.mk (HBW.out.trans (hb.mono HBW.out.size)); have HD7 := Aside0.mk (blk_below HKD.out hb); clear hb) | (go_at_call 37; refine (topic_Valid.calls s false _ HVL.out).mono ?_; rintro e w8 ⟨rfl, hb⟩; have HB8 := Aside0.mk (HB7.out.trans (hb.mono HB7.out.size)); have HD8 := Aside0.mk (blk_below HD7.out hb); clear hb))
          refine ⟨by simp, .inl ⟨_, _, rfl, run_takeDeferred (show w8.heap[D]? = _ from HD8.out), ?_⟩⟩
          refine ⟨_, results_tmp2 rfl _ _ _, rfl, HB8.out.grown (grownBy_putObj' _ D _) (by have := HB8.out.size; simpa using this) (fun k e => by cases e; omega)⟩
    · cases h
end Go.Proofs.YtegcobkhejpmkaaDoor.P
