
/- The references of layer 1 over the printed functions: Has, Name, Levels, sized, Valid, Filter, Same, as the plain functions that the program's own are proved to be. -/
import Derived.Test.YtegcobkhejpmkaaDoorPx1
import Derived.Test.YtegcobkhejpmkaaDoorPx14
import Derived.Test.YtegcobkhejpmkaaDoorPx23
import Derived.Test.YtegcobkhejpmkaaDoorStr
namespace Go.Proofs.YtegcobkhejpmkaaDoor.Pure
open Go.RowKit Go.Proofs.YtegcobkhejpmkaaDoor.P Go.Proofs.YtegcobkhejpmkaaDoorW.PrintWords Go.Proofs.YtegcobkhejpmkaaDoorW.PrintLast Go.Proofs.YtegcobkhejpmkaaDoor.Ext
open Classical

/-- Is a byte among those of s? -/
def hasB (s : ByteArray) (c : Nat) : Bool := decide (∃ i, i < s.size ∧ by_ s i = c)
theorem has_l0 (s : ByteArray) (c : Nat) (hs : s.size ≤ 9223372036854775806) : ∀ d, d ≤ s.size → Ev (fun k => brokerref01_Has.l0 k s (c : Int) ((s.size - d : Nat) : Int)) (decide (∃ i, s.size - d ≤ i ∧ i < s.size ∧ by_ s i = c)) := by
  intro d
  induction d with
  | zero =>
    intro _
    refine ev_succ ?_
    simp only [brokerref01_Has.l0]
    refine ev_neg (by omega) (ev_some ?_)
    congr 1
    exact (decide_eq_false (fun ⟨i, h0, h1, _⟩ => by omega)).symm
  | succ d ih =>
    intro hd
    refine ev_succ ?_
    simp only [brokerref01_Has.l0]
    refine ev_pos (by omega) (ev_pos (by omega) ?_)
    rw [bt_by]
    by_cases h : by_ s (s.size - (d + 1)) = c
    · refine ev_pos (by rw [h]) (ev_some ?_)
      congr 1
      exact (decide_eq_true ⟨_, Nat.le_refl _, by omega, h⟩).symm
    · refine ev_neg (by omega) ?_
      rw [w64 (by omega) (by omega), show (((s.size - (d + 1) : Nat) : Int) + 1) = ((s.size - d : Nat) : Int) by omega]
      have e : decide (∃ i, s.size - (d + 1) ≤ i ∧ i < s.size ∧ by_ s i = c) = decide (∃ i, s.size - d ≤ i ∧ i < s.size ∧ by_ s i = c) := by
        refine decide_eq_decide.2 ⟨fun ⟨i, h0, h1, h2⟩ => ⟨i, ?_, h1, h2⟩, fun ⟨i, h0, h1, h2⟩ => ⟨i, by omega, h1, h2⟩⟩
        by_cases e : i = s.size - (d + 1)
        · subst e; exact absurd h2 h
        · omega
      rw [e]
      exact ih (by omega)
theorem has_ev (s : ByteArray) (c : Nat) (hs : s.size ≤ 9223372036854775806) : Ev (fun k => brokerref01_Has.f k s (c : Int)) (hasB s c) := by
  have := has_l0 s c hs s.size (Nat.le_refl _)
  rw [Nat.sub_self] at this
  simp only [brokerref01_Has.f]
  have e : hasB s c = decide (∃ i, 0 ≤ i ∧ i < s.size ∧ by_ s i = c) := decide_eq_decide.2 ⟨fun ⟨i, h1, h2⟩ => ⟨i, Nat.zero_le _, h1, h2⟩, fun ⟨i, _, h1, h2⟩ => ⟨i, h1, h2⟩⟩
  rw [e]
  exact this
theorem has_no {s : ByteArray} {c : Nat} (h : hasB s c = false) (i : Nat) (hi : i < s.size) : by_ s i ≠ c := fun e => of_decide_eq_false h ⟨i, hi, e⟩


/-- The levels of a string. -/
def levels (s : ByteArray) : List ByteArray := (pieces 47 (toL s)).map mkB
theorem levels_length (s : ByteArray) : (levels s).length = (toL s).count 47 + 1 := by unfold levels; rw [List.length_map, pieces_length]
theorem levels_split (s : ByteArray) : splitL 47 s = levels s := splitL_pieces 47 s
theorem extract_mk (s : ByteArray) (a b : Nat) : s.extract a b = mkB (((toL s).take b).drop a) := by rw [← toL_extract, mk_toL]
theorem lev_l0 (s : ByteArray) (hs : s.size ≤ 1000000000) : ∀ (d : Nat) (out : List ByteArray) (fr : Nat), d ≤ s.size → fr ≤ s.size - d → out.length ≤ fr → (∀ i, fr ≤ i → i < s.size - d → by_ s i ≠ 47) →
    Ev (fun k => brokerref01_Levels.l0 k s out (fr : Int) ((s.size - d : Nat) : Int)) (out ++ (pieces 47 ((toL s).drop fr)).map mkB) := by
  have hlen : (toL s).length = s.size := toL_len s
  have nomem : ∀ fr i, i ≤ s.size → (∀ j, fr ≤ j → j < i → by_ s j ≠ 47) → (47 : UInt8) ∉ ((toL s).take i).drop fr := by
    intro fr i hi hno hm
    obtain ⟨j, hj⟩ := List.mem_iff_getElem?.1 hm
    rw [List.getElem?_drop, List.getElem?_take] at hj
    split at hj
    · rename_i hlt
      refine hno (fr + j) (by omega) hlt ?_
      rw [by_toL, hj]
      rfl
    · cases hj
  intro d
  induction d with
  | zero =>
    intro out fr _ hfr ho hno
    refine ev_succ ?_
    simp only [brokerref01_Levels.l0]
    refine ev_neg (by omega) (ev_pos (by omega) (ev_pos (by omega) (ev_pos (by omega) (ev_some ?_))))
    have h := nomem fr s.size (Nat.le_refl _) (by rw [Nat.sub_zero] at hno; exact hno)
    rw [List.take_of_length_le (by omega)] at h
    rw [pieces_none _ _ h]
    show some (out ++ [s.extract fr s.size]) = _
    rw [extract_mk, List.take_of_length_le (by omega)]
    rfl
  | succ d ih =>
    intro out fr hd hfr ho hno
    refine ev_succ ?_
    simp only [brokerref01_Levels.l0]
    refine ev_pos (by omega) (ev_pos (by omega) ?_)
    rw [bt_by, w64 (by omega) (by omega), show (((s.size - (d + 1) : Nat) : Int) + 1) = ((s.size - d : Nat) : Int) by omega]
    by_cases h : by_ s (s.size - (d + 1)) = 47
    · refine ev_pos (by omega) (ev_pos (by omega) (ev_pos (by omega) (ev_pos (by omega) (ev_pos (by omega) ?_))))
      have ih' := ih (out ++ [s.extract fr (s.size - (d + 1))]) (s.size - d) (by omega) (Nat.le_refl _) (by simp; omega) (fun i h0 h1 => by omega)
      obtain ⟨c, hc, ec⟩ := toL_at (s := s) (i := s.size - (d + 1)) (by omega)
      have hc47 : c = 47 := u8_eq (n := 47) (by omega) (by omega)
      subst hc47
      have hsplit : (toL s).drop fr = ((toL s).take (s.size - (d + 1))).drop fr ++ 47 :: (toL s).drop (s.size - d) := by
        have e1 : (toL s) = (toL s).take (s.size - (d + 1)) ++ (toL s).drop (s.size - (d + 1)) := (List.take_append_drop _ _).symm
        have e2 : (toL s).drop (s.size - (d + 1)) = 47 :: (toL s).drop (s.size - d) := by
          have hlt : s.size - (d + 1) < (toL s).length := by omega
          rw [List.drop_eq_getElem_cons hlt, show s.size - (d + 1) + 1 = s.size - d by omega]
          congr 1
          rw [List.getElem?_eq_getElem hlt] at hc
          exact Option.some.inj hc
        conv => lhs; rw [e1]
        rw [List.drop_append_of_le_length (by rw [List.length_take]; omega), e2]
      rw [hsplit, pieces_hit _ _ _ (nomem fr (s.size - (d + 1)) (by omega) hno), List.map_cons, ← extract_mk]
      rw [List.append_assoc] at ih'
      exact ih'
    · refine ev_neg (by omega) (ih out fr (by omega) (by omega) ho (fun i h0 h1 => ?_))
      by_cases e : i = s.size - (d + 1)
      · subst e; exact h
      · exact hno i h0 (by omega)
theorem lev_ev (s : ByteArray) (hs : s.size ≤ 1000000000) : Ev (fun k => brokerref01_Levels.f k s) (levels s) := by
  have := lev_l0 s hs s.size [] 0 (Nat.le_refl _) (by omega) (by simp) (fun i h0 h1 => by omega)
  rw [Nat.sub_self] at this
  simp only [brokerref01_Levels.f]
  exact this

theorem refsized_all (s : ByteArray) : Ev (fun k => brokerref01_sized.f k s) (sizedB s) := by
  simp only [brokerref01_sized.f]
  by_cases h1 : (s.size : Int) ≥ 1
  · refine ev_pos h1 ?_
    by_cases h2 : (s.size : Int) ≤ 64
    · refine ev_pos h2 (ev_bind (has_ev s 0 (by omega)) (ev_if (fun hh => ev_some ?_) (fun hh => ?_)))
      · congr 1
        obtain ⟨i, hi, e⟩ := of_decide_eq_true hh
        exact (decide_eq_false (fun h => h.2.2.1 i hi e)).symm
      · refine ev_bind (lev_ev s (by omega)) (ev_some ?_)
        congr 1
        refine decide_eq_decide.2 ⟨fun h => ⟨by omega, by omega, fun i hi => has_no hh i hi, ?_⟩, fun h => ?_⟩
        · rw [cnt_all]; rw [levels_length] at h; omega
        · have := h.2.2.2; rw [cnt_all] at this; rw [levels_length]; omega
    · refine ev_neg h2 (ev_some ?_)
      congr 1
      exact (decide_eq_false (fun h => by have := h.2.1; omega)).symm
  · refine ev_neg h1 (ev_some ?_)
    congr 1
    exact (decide_eq_false (fun h => by have := h.1; omega)).symm

theorem one_sign {x : ByteArray} {c : Nat} (hc : c < 256) : toL x = [UInt8.ofNat c] ↔ x.size = 1 ∧ by_ x 0 = c := by
  constructor
  · intro h
    have := toL_len x
    rw [h] at this
    refine ⟨this.symm, ?_⟩
    rw [by_toL, h]
    show (UInt8.ofNat c).toNat = c
    rw [UInt8.toNat_ofNat']
    omega
  · rintro ⟨h1, h2⟩
    obtain ⟨b, hb, e⟩ := toL_at (s := x) (i := 0) (by omega)
    have hl := toL_len x
    rw [h1] at hl
    match h : toL x, hl with
    | [y], _ =>
      rw [h] at hb
      have : y = b := Option.some.inj hb
      rw [this, u8_eq (e.trans h2) hc]
theorem goodL_eq (xs : List ByteArray) : goodL xs = decide (∀ i, i < xs.length → (hasB (xs.getD i ByteArray.empty) 43 = true → toL (xs.getD i ByteArray.empty) = [43]) ∧ (hasB (xs.getD i ByteArray.empty) 35 = true → toL (xs.getD i ByteArray.empty) = [35] ∧ i + 1 = xs.length)) := by
  refine decide_eq_decide.2 ⟨fun h i hi => ⟨fun hh => ?_, fun hh => ?_⟩, fun h i hi j hj => ⟨fun e => ?_, fun e => ?_⟩⟩
  · obtain ⟨j, hj, e⟩ := of_decide_eq_true hh
    have := (h i hi j hj).1 e
    exact (one_sign (c := 43) (by omega)).2 ⟨this, by rw [← e]; congr 1; omega⟩
  · obtain ⟨j, hj, e⟩ := of_decide_eq_true hh
    have := (h i hi j hj).2 e
    exact ⟨(one_sign (c := 35) (by omega)).2 ⟨this.1, by rw [← e]; congr 1; omega⟩, this.2⟩
  · exact ((one_sign (c := 43) (by omega)).1 ((h i hi).1 (decide_eq_true ⟨j, hj, e⟩))).1
  · have := (h i hi).2 (decide_eq_true ⟨j, hj, e⟩)
    exact ⟨((one_sign (c := 35) (by omega)).1 this.1).1, this.2⟩
def okAt (xs : List ByteArray) (i : Nat) : Prop := (hasB (xs.getD i ByteArray.empty) 43 = true → toL (xs.getD i ByteArray.empty) = [43]) ∧ (hasB (xs.getD i ByteArray.empty) 35 = true → toL (xs.getD i ByteArray.empty) = [35] ∧ i + 1 = xs.length)
instance (xs : List ByteArray) (i : Nat) : Decidable (okAt xs i) := inferInstanceAs (Decidable (_ ∧ _))
theorem filt_l0 (xs : List ByteArray) (hn : xs.length ≤ 1000000) (hx : ∀ i, i < xs.length → (xs.getD i ByteArray.empty).size ≤ 9223372036854775806) : ∀ d, d ≤ xs.length → Ev (fun k => brokerref01_Filter.l0 k xs ((xs.length - d : Nat) : Int)) (decide (∀ i, xs.length - d ≤ i → i < xs.length → okAt xs i)) := by
  intro d
  induction d with
  | zero =>
    intro _
    refine ev_succ ?_
    simp only [brokerref01_Filter.l0]
    refine ev_neg (by omega) (ev_some ?_)
    congr 1
    exact (decide_eq_true (fun i h0 h1 => by omega)).symm
  | succ d ih =>
    intro hd
    have hxi := hx (xs.length - (d + 1)) (by omega)
    have erd : rdOf ByteArray.empty xs ((xs.length - (d + 1) : Nat) : Int) = xs.getD (xs.length - (d + 1)) ByteArray.empty := rfl
    have no : ¬ okAt xs (xs.length - (d + 1)) → decide (∀ i, xs.length - (d + 1) ≤ i → i < xs.length → okAt xs i) = false := fun h => decide_eq_false (fun h2 => h (h2 _ (Nat.le_refl _) (by omega)))
    have next : okAt xs (xs.length - (d + 1)) → Ev (fun k => brokerref01_Filter.l0 k xs (wrap64 (((xs.length - (d + 1) : Nat) : Int) + 1))) (decide (∀ i, xs.length - (d + 1) ≤ i → i < xs.length → okAt xs i)) := by
      intro hok
      rw [w64 (by omega) (by omega), show (((xs.length - (d + 1) : Nat) : Int) + 1) = ((xs.length - d : Nat) : Int) by omega]
      have e : decide (∀ i, xs.length - (d + 1) ≤ i → i < xs.length → okAt xs i) = decide (∀ i, xs.length - d ≤ i → i < xs.length → okAt xs i) := by
        refine decide_eq_decide.2 ⟨fun h i h0 h1 => h i (by omega) h1, fun h i h0 h1 => ?_⟩
        by_cases e : i = xs.length - (d + 1)
        · subst e; exact hok
        · exact h i (by omega) h1
      rw [e]
      exact ih (by omega)
    have j1 : (hasB (xs.getD (xs.length - (d + 1)) ByteArray.empty) 43 = true → toL (xs.getD (xs.length - (d + 1)) ByteArray.empty) = [43]) → Ev (fun k => brokerref01_Filter.j1 k xs ((xs.length - (d + 1) : Nat) : Int) false) (decide (∀ i, xs.length - (d + 1) ≤ i → i < xs.length → okAt xs i)) := by
      intro h43
      refine ev_succ ?_
      simp only [brokerref01_Filter.j1]
      refine ev_ff (ev_pos (by omega) (ev_pos (by omega) ?_))
      rw [erd]
      refine ev_bind (has_ev _ 35 hxi) (ev_if (fun h35 => ?_) (fun h35 => next ⟨h43, fun h => by rw [h35] at h; cases h⟩))
      rw [toList_toL]
      by_cases e : toL (xs.getD (xs.length - (d + 1)) ByteArray.empty) = [35]
      · refine ev_pos e ?_
        by_cases last : xs.length - (d + 1) + 1 = xs.length
        · rw [w64 (x := (xs.length : Int) - 1) (by omega) (by omega)]
          exact ev_pos (by omega) (next ⟨h43, fun _ => ⟨e, last⟩⟩)
        · rw [w64 (x := (xs.length : Int) - 1) (by omega) (by omega)]
          refine ev_neg (by omega) (ev_some ?_)
          rw [no (fun h => last (h.2 h35).2)]
      · refine ev_neg e (ev_some ?_)
        rw [no (fun h => e (h.2 h35).1)]
    refine ev_succ ?_
    simp only [brokerref01_Filter.l0]
    refine ev_pos (by omega) (ev_pos (by omega) ?_)
    rw [erd]
    refine ev_bind (has_ev _ 43 hxi) (ev_if (fun h43 => ?_) (fun h43 => j1 (fun h => by rw [h43] at h; cases h)))
    rw [toList_toL]
    by_cases e : toL (xs.getD (xs.length - (d + 1)) ByteArray.empty) = [43]
    · rw [show (toL (xs.getD (xs.length - (d + 1)) ByteArray.empty) != [43]) = false by rw [e]; rfl]
      exact j1 (fun _ => e)
    · rw [show (toL (xs.getD (xs.length - (d + 1)) ByteArray.empty) != [43]) = true by simpa using e]
      refine ev_succ ?_
      simp only [brokerref01_Filter.j1, if_true]
      refine ev_some ?_
      rw [no (fun h => e (h.1 h43))]
theorem levels_size (s x : ByteArray) (h : x ∈ levels s) : x.size ≤ s.size := splitL_size 47 s x (by rw [levels_split]; exact h)
theorem reffilter_all (s : ByteArray) : Ev (fun k => brokerref01_Filter.f k s) (filterB s) := by
  simp only [brokerref01_Filter.f]
  refine ev_bind (refsized_all s) (ev_if (fun h => ?_) (fun h => ev_some ?_))
  · have hsz := sized_size h
    refine ev_bind (lev_ev s (by omega)) ?_
    have hn : (levels s).length ≤ 1000000 := by
      rw [levels_length]
      have := List.count_le_length (a := (47 : UInt8)) (l := toL s)
      rw [toL_len] at this
      omega
    have := filt_l0 (levels s) hn (fun i hi => by
      have : (levels s).getD i ByteArray.empty ∈ levels s := by rw [List.getD_eq_getElem?_getD, List.getElem?_eq_getElem hi]; exact List.getElem_mem hi
      have := levels_size s _ this
      omega) (levels s).length (Nat.le_refl _)
    rw [Nat.sub_self] at this
    have e : filterB s = decide (∀ i, 0 ≤ i → i < (levels s).length → okAt (levels s) i) := by
      unfold filterB
      rw [h, levels_split, goodL_eq]
      exact decide_eq_decide.2 ⟨fun h i _ hi => h i hi, fun h i hi => h i (Nat.zero_le _) hi⟩
    rw [e]
    exact this
  · unfold filterB
    rw [h]
    rfl

/-- A list of texts is the same as itself. -/
theorem same_l0 (l : List ByteArray) (hl : l.length ≤ 1000000000) : ∀ d, d ≤ l.length → Ev (fun k => brokerref01_Same.l0 k l l ((l.length - d : Nat) : Int)) true := by
  intro d
  induction d with
  | zero =>
    intro _
    refine ev_succ ?_
    simp only [brokerref01_Same.l0]
    exact ev_neg (by omega) (ev_some rfl)
  | succ d ih =>
    intro hd
    refine ev_succ ?_
    simp only [brokerref01_Same.l0]
    refine ev_pos (by omega) (ev_pos (by omega) (ev_pos (by omega) (ev_pos trivial ?_)))
    rw [w64 (by omega) (by omega), show (((l.length - (d + 1) : Nat) : Int) + 1) = ((l.length - d : Nat) : Int) by omega]
    exact ih (by omega)
theorem same_ev (l : List ByteArray) (hl : l.length ≤ 1000000000) : Ev (fun k => brokerref01_Same.f k l l) true := by
  have := same_l0 l hl l.length (Nat.le_refl _)
  rw [Nat.sub_self] at this
  simp only [brokerref01_Same.f]
  exact ev_pos trivial this

theorem topic_valid (s : ByteArray) (hs : s.size ≤ 9223372036854775807) : topic_Valid.f s = some (validB s) := by unfold topic_Valid.f; rw [if_pos hs]
theorem topic_filter (s : ByteArray) (hs : s.size ≤ 9223372036854775807) : topic_Filter.f s = some (filterB s) := by unfold topic_Filter.f; rw [if_pos hs]
theorem topic_levels (s : ByteArray) (hs : s.size < 4294967281) : topic_Levels.f s = some (levels s) := by
  unfold topic_Levels.f strings_Split.f
  rw [splitF_eq 47 s hs]
  rfl
theorem refsized_ev (s : ByteArray) (_ : s.size ≤ 9223372036854775806) : Ev (fun k => brokerref01_sized.f k s) (sizedB s) := refsized_all s
theorem reffilter_ev (s : ByteArray) (_ : s.size ≤ 9223372036854775806) : Ev (fun k => brokerref01_Filter.f k s) (filterB s) := reffilter_all s
end Go.Proofs.YtegcobkhejpmkaaDoor.Pure
