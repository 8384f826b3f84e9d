/- The laws of layer 1 over the printed functions: Names, Valid, Levels, Joins, Plain. -/
import Derived.Test.YtpnekiledkgfiaaDoorPureT
import Derived.Test.YtpnekiledkgfiaaDoorPx4
namespace Go.Proofs.YtpnekiledkgfiaaDoor.Pure
open Go.RowKit Go.Proofs.YtpnekiledkgfiaaDoor.P Go.Proofs.YtpnekiledkgfiaaDoorW.PrintWords Go.Proofs.YtpnekiledkgfiaaDoorW.PrintLast Go.Proofs.YtpnekiledkgfiaaDoor.Ext

theorem awake_ev : Ev (fun k => brokerlaw01_awake.f k) true := by
  refine Ev.of (k := 10) ?_ (by decide +kernel)
  intro k
  exact brokerlaw01_awake.mono k

theorem TopicNames (s : ByteArray) (hs : s.size ≤ 9223372036854775806) : ∃ k, brokerlaw01_TopicNames.f k s = some true := by
  suffices h : Ev (fun k => brokerlaw01_TopicNames.f k s) true from h.rounds
  simp only [brokerlaw01_TopicNames.f]
  refine ev_bind awake_ev ?_
  simp only [if_true]
  exact ev_const (topic_name s (by omega)) (ev_bind (refname_ev s hs) (ev_some (by simp)))

theorem system_some (s : ByteArray) : ∃ b, topic_System.f s = some b := by
  unfold topic_System.f
  split
  · exact ⟨_, rfl⟩
  · exact ⟨_, rfl⟩
theorem system_eq (s : ByteArray) : brokerref01_System.f s = topic_System.f s := rfl
theorem TopicValid (s : ByteArray) (hs : s.size ≤ 9223372036854775806) : ∃ k, brokerlaw01_TopicValid.f k s = some true := by
  suffices h : Ev (fun k => brokerlaw01_TopicValid.f k s) true from h.rounds
  simp only [brokerlaw01_TopicValid.f]
  refine ev_bind awake_ev ?_
  simp only [if_true]
  refine ev_const (topic_valid s (by omega)) (ev_bind (refvalid_ev s hs) (ev_pos (by simp) ?_))
  refine ev_const (topic_filter s (by omega)) (ev_bind (reffilter_ev s hs) (ev_pos (by simp) ?_))
  obtain ⟨b, hb⟩ := system_some s
  exact ev_const hb (ev_const ((system_eq s).trans hb) (ev_some (by simp)))

theorem join_levels (s : ByteArray) (hs : s.size ≤ 1000000000) : topic_Join.f (levels s) = some s := by
  unfold topic_Join.f strings_Join.f
  have e : (levels s).map toL = pieces 47 (toL s) := map_toL _
  have hc := List.count_le_length (a := (47 : UInt8)) (l := toL s)
  rw [toL_len] at hc
  rw [joinF_eq _ 47 (by rw [e, join_pieces, toL_len]; omega) (by rw [levels_length]; omega), e, join_pieces]
  rfl
theorem levels_len (s : ByteArray) : (levels s).length ≤ s.size + 1 := by
  have hc := List.count_le_length (a := (47 : UInt8)) (l := toL s)
  rw [toL_len] at hc
  rw [levels_length]
  omega
theorem TopicLevels (s : ByteArray) (hs : s.size ≤ 1048576) : ∃ k, brokerlaw01_TopicLevels.f k s = some true := by
  suffices h : Ev (fun k => brokerlaw01_TopicLevels.f k s) true from h.rounds
  simp only [brokerlaw01_TopicLevels.f]
  refine ev_const (topic_levels s (by omega)) (ev_bind awake_ev ?_)
  simp only [if_true]
  have := levels_len s
  refine ev_bind (lev_ev s (by omega)) (ev_bind (same_ev _ (by omega)) ?_)
  simp only [if_true]
  exact ev_const (join_levels s (by omega)) (ev_some (by simp))

theorem goodL_free (s : ByteArray) (h : ∀ i, i < s.size → by_ s i ≠ 43 ∧ by_ s i ≠ 35) : goodL (levels s) = true := by
  refine decide_eq_true (fun i hi j hj => ?_)
  have hm : (levels s).getD i ByteArray.empty ∈ levels s := by rw [List.getD_eq_getElem?_getD, List.getElem?_eq_getElem hi]; exact List.getElem_mem hi
  obtain ⟨p, hp, e⟩ := List.mem_map.1 hm
  obtain ⟨c, hc, ec⟩ := toL_at hj
  have hcs : c ∈ toL s := pieces_sub 47 _ p hp c (by rw [← toL_mk p, e]; exact List.mem_of_getElem? hc)
  obtain ⟨m, hm⟩ := List.mem_iff_getElem?.1 hcs
  have hml : m < s.size := by rw [← toL_len]; exact (List.getElem?_eq_some_iff.1 hm).1
  have hb : by_ s m = by_ ((levels s).getD i ByteArray.empty) j := by rw [by_toL, hm, ← ec]; rfl
  have := h m hml
  rw [hb] at this
  exact ⟨fun h => absurd h this.1, fun h => absurd h this.2⟩
theorem valid_filter {s : ByteArray} (h : validB s = true) : filterB s = true := by
  unfold validB at h
  rw [Bool.and_eq_true] at h
  unfold filterB
  rw [h.1, levels_split, goodL_free s (of_decide_eq_true h.2)]
  rfl
theorem filter_valid {s : ByteArray} (h : filterB s = true) (h1 : hasB s 43 = false) (h2 : hasB s 35 = false) : validB s = true := by
  unfold filterB at h
  rw [Bool.and_eq_true] at h
  unfold validB
  rw [h.1, decide_eq_true (fun i hi => ⟨has_no h1 i hi, has_no h2 i hi⟩)]
  rfl
theorem TopicPlain (s : ByteArray) (hs : s.size ≤ 9223372036854775806) : ∃ k, brokerlaw01_TopicPlain.f k s = some true := by
  suffices h : Ev (fun k => brokerlaw01_TopicPlain.f k s) true from h.rounds
  simp only [brokerlaw01_TopicPlain.f]
  have fin : ∀ plain : Bool, (plain = true → hasB s 43 = false ∧ hasB s 35 = false) → Ev (fun k => brokerlaw01_TopicPlain.j0 k s plain) true := by
    intro plain hp
    refine ev_succ ?_
    simp only [brokerlaw01_TopicPlain.j0]
    refine ev_bind awake_ev ?_
    simp only [if_true]
    have tail : Ev (fun (_ : Nat) => (topic_Filter.f s).bind fun t226 => (if t226 = true then (if plain = true then ((topic_Valid.f s).bind fun t227 => (some t227)) else (some true)) else (some true))) true := by
      refine ev_const (topic_filter s (by omega)) (ev_if (fun hf => ev_if (fun hpl => ?_) (fun _ => ev_some rfl)) (fun _ => ev_some rfl))
      obtain ⟨h1, h2⟩ := hp hpl
      exact ev_const (topic_valid s (by omega)) (ev_some (by rw [filter_valid hf h1 h2]))
    refine ev_const (topic_valid s (by omega)) (ev_if (fun hv => ?_) (fun _ => tail))
    refine ev_const (topic_filter s (by omega)) ?_
    rw [valid_filter hv]
    simp only [if_true]
    rw [topic_filter s (by omega), valid_filter hv] at tail ⊢
    exact tail
  refine ev_bind (has_ev s 43 hs) (ev_if (fun _ => fin false (fun h => by cases h)) (fun h43 => ?_))
  refine ev_bind (has_ev s 35 hs) (fin _ (fun h => ⟨h43, by simpa using h⟩))

/-! ### Joins -/
theorem light_l0 (l : List ByteArray) (hl : l.length ≤ 9223372036854775806) : ∀ d, d ≤ l.length → ∃ b, Ev (fun k => brokerlaw01_light.l0 k l ((l.length - d : Nat) : Int)) b ∧ (b = true → ∀ i, l.length - d ≤ i → i < l.length → i < 64 ∧ (l.getD i ByteArray.empty).size ≤ 4096) := by
  intro d
  induction d with
  | zero =>
    intro _
    refine ⟨true, ?_, fun _ i h0 h1 => by omega⟩
    refine ev_succ ?_
    simp only [brokerlaw01_light.l0]
    exact ev_neg (by omega) (ev_some rfl)
  | succ d ih =>
    intro hd
    obtain ⟨b, hb, hall⟩ := ih (by omega)
    have erd : rdOf ByteArray.empty l ((l.length - (d + 1) : Nat) : Int) = l.getD (l.length - (d + 1)) ByteArray.empty := rfl
    by_cases h1 : l.length - (d + 1) < 64
    · by_cases h2 : (l.getD (l.length - (d + 1)) ByteArray.empty).size ≤ 4096
      · refine ⟨b, ?_, fun hbt i h3 h4 => ?_⟩
        · refine ev_succ ?_
          simp only [brokerlaw01_light.l0]
          refine ev_pos (by omega) (ev_neg (by omega) (ev_pos (by omega) (ev_neg (by rw [erd]; omega) ?_)))
          rw [w64 (by omega) (by omega), show (((l.length - (d + 1) : Nat) : Int) + 1) = ((l.length - d : Nat) : Int) by omega]
          exact hb
        · by_cases e : i = l.length - (d + 1)
          · subst e; exact ⟨h1, h2⟩
          · exact hall hbt i (by omega) h4
      · refine ⟨false, ?_, fun h => by cases h⟩
        refine ev_succ ?_
        simp only [brokerlaw01_light.l0]
        exact ev_pos (by omega) (ev_neg (by omega) (ev_pos (by omega) (ev_pos (by rw [erd]; omega) (ev_some rfl))))
    · refine ⟨false, ?_, fun h => by cases h⟩
      refine ev_succ ?_
      simp only [brokerlaw01_light.l0]
      exact ev_pos (by omega) (ev_pos (by omega) (ev_some rfl))
theorem light_ev (l : List ByteArray) (hl : l.length ≤ 9223372036854775806) : ∃ b, Ev (fun k => brokerlaw01_light.f k l) b ∧ (b = true → l.length ≤ 64 ∧ ∀ i, i < l.length → (l.getD i ByteArray.empty).size ≤ 4096) := by
  obtain ⟨b, hb, hall⟩ := light_l0 l hl l.length (Nat.le_refl _)
  rw [Nat.sub_self] at hb hall
  refine ⟨b, ?_, fun h => ⟨?_, fun i hi => (hall h i (Nat.zero_le _) hi).2⟩⟩
  · simp only [brokerlaw01_light.f]
    exact hb
  · by_cases hle : l.length ≤ 64
    · exact hle
    · have := (hall h (l.length - 1) (Nat.zero_le _) (by omega)).1
      omega

/-- What was joined of the first i elements. -/
theorem joined_len (xs : List (List UInt8)) (c : UInt8) (B : Nat) (h : ∀ x ∈ xs, x.length ≤ B) : (Lib.join xs [c]).length ≤ (B + 1) * xs.length := by
  induction xs with
  | nil => simp [Lib.join_nil]
  | cons x r ih =>
    cases r with
    | nil => rw [Lib.join_one]; have := h x List.mem_cons_self; simp; omega
    | cons y r =>
      rw [join_cons2]
      have h1 := ih (fun z hz => h z (List.mem_cons_of_mem _ hz))
      have h2 := h x List.mem_cons_self
      simp only [List.length_append, List.length_cons] at h1 ⊢
      rw [Nat.mul_add]
      omega
theorem join_snoc (xs : List (List UInt8)) (x : List UInt8) (c : UInt8) (h : xs ≠ []) : Lib.join (xs ++ [x]) [c] = Lib.join xs [c] ++ c :: x := by
  induction xs with
  | nil => exact absurd rfl h
  | cons a r ih =>
    cases r with
    | nil => show Lib.join [a, x] [c] = _; rw [join_cons2, Lib.join_one, Lib.join_one]
    | cons b r =>
      show Lib.join (a :: b :: (r ++ [x])) [c] = _
      rw [join_cons2, join_cons2]
      have := ih (by simp)
      show a ++ c :: Lib.join ((b :: r) ++ [x]) [c] = _
      rw [this]
      simp
theorem mk_append (a b : List UInt8) : mkB a ++ mkB b = mkB (a ++ b) := by
  apply toL_inj
  show (mkB a ++ mkB b).data.toList = _
  simp [mkB, toL]
theorem append_eq (a b : ByteArray) : a ++ b = mkB (toL a ++ toL b) := by rw [← mk_append, mk_toL, mk_toL]
theorem refjoin_l0 (l : List ByteArray) (hl : l.length ≤ 64) (hx : ∀ i, i < l.length → (l.getD i ByteArray.empty).size ≤ 4096) : ∀ d, d ≤ l.length →
    Ev (fun k => brokerref01_Join.l0 k l (mkB (Lib.join ((l.take (l.length - d)).map toL) [47])) ((l.length - d : Nat) : Int)) (mkB (Lib.join (l.map toL) [47])) := by
  intro d
  induction d with
  | zero =>
    intro _
    refine ev_succ ?_
    simp only [brokerref01_Join.l0]
    refine ev_neg (by omega) (ev_some ?_)
    rw [Nat.sub_zero, List.take_length]
  | succ d ih =>
    intro hd
    have ih' := ih (by omega)
    have hi : l.length - (d + 1) < l.length := by omega
    have hxi := hx _ hi
    have erd : rdOf ByteArray.empty l ((l.length - (d + 1) : Nat) : Int) = l.getD (l.length - (d + 1)) ByteArray.empty := rfl
    have etk : l.take (l.length - d) = l.take (l.length - (d + 1)) ++ [l.getD (l.length - (d + 1)) ByteArray.empty] := by
      rw [show l.length - d = (l.length - (d + 1)) + 1 by omega, List.take_succ_eq_append_getElem hi, List.getD_eq_getElem?_getD, List.getElem?_eq_getElem hi]
      rfl
    have hlen : (Lib.join ((l.take (l.length - (d + 1))).map toL) [47]).length ≤ 4097 * 64 := by
      have := joined_len ((l.take (l.length - (d + 1))).map toL) 47 4096 (fun x hxm => by
        obtain ⟨s, hs, rfl⟩ := List.mem_map.1 hxm
        obtain ⟨j, hj⟩ := List.mem_iff_getElem?.1 (List.mem_of_mem_take hs)
        have hjl := (List.getElem?_eq_some_iff.1 hj).1
        have := hx j hjl
        rw [List.getD_eq_getElem?_getD, hj] at this
        rw [toL_len]
        exact this)
      rw [List.length_map, List.length_take] at this
      refine Nat.le_trans this (Nat.mul_le_mul_left _ (by omega))
    refine ev_succ ?_
    simp only [brokerref01_Join.l0]
    refine ev_pos (by omega) ?_
    rw [erd, w64 (by omega) (by omega), show (((l.length - (d + 1) : Nat) : Int) + 1) = ((l.length - d : Nat) : Int) by omega]
    rw [etk, List.map_append] at ih'
    by_cases h0 : 0 < l.length - (d + 1)
    · have hne : (l.take (l.length - (d + 1))).map toL ≠ [] := by
        intro h
        have := congrArg List.length h
        rw [List.length_map, List.length_take] at this
        simp at this
        omega
      refine ev_pos (by omega) (ev_pos (by rw [size_mk]; omega) (ev_pos (by omega) (ev_pos ?_ ?_)))
      · rw [append_eq, size_mk, List.length_append, toL_mk, toL_len]
        show _ + 1 + _ ≤ _
        omega
      · have e : (mkB (Lib.join ((l.take (l.length - (d + 1))).map toL) [47]) ++ (⟨#[47]⟩ : ByteArray)) ++ l.getD (l.length - (d + 1)) ByteArray.empty = mkB (Lib.join ((l.take (l.length - (d + 1))).map toL ++ [l.getD (l.length - (d + 1)) ByteArray.empty].map toL) [47]) := by
          rw [show [l.getD (l.length - (d + 1)) ByteArray.empty].map toL = [toL (l.getD (l.length - (d + 1)) ByteArray.empty)] from rfl, join_snoc _ _ _ hne, append_eq, append_eq, toL_mk, toL_mk]
          congr 1
          show (_ ++ [47]) ++ _ = _
          simp
        rw [e]
        exact ih'
    · have hz : l.length - (d + 1) = 0 := by omega
      refine ev_neg (by omega) (ev_pos (by omega) (ev_pos ?_ ?_))
      · rw [size_mk]; omega
      · have e : mkB (Lib.join ((l.take (l.length - (d + 1))).map toL) [47]) ++ l.getD (l.length - (d + 1)) ByteArray.empty = mkB (Lib.join ((l.take (l.length - (d + 1))).map toL ++ [l.getD (l.length - (d + 1)) ByteArray.empty].map toL) [47]) := by
          rw [hz, List.take_zero, append_eq, toL_mk]
          congr 1
          show Lib.join [] [47] ++ _ = Lib.join ([] ++ [toL _]) [47]
          rw [Lib.join_nil, List.nil_append, List.nil_append, Lib.join_one]
        rw [e]
        exact ih'
theorem refjoin_ev (l : List ByteArray) (hl : l.length ≤ 64) (hx : ∀ i, i < l.length → (l.getD i ByteArray.empty).size ≤ 4096) : Ev (fun k => brokerref01_Join.f k l) (mkB (Lib.join (l.map toL) [47])) := by
  have := refjoin_l0 l hl hx l.length (Nat.le_refl _)
  rw [Nat.sub_self, List.take_zero] at this
  simp only [brokerref01_Join.f]
  exact this
theorem TopicJoins (l : List ByteArray) (hlen : l.length ≤ 9223372036854775806) : ∃ k, brokerlaw01_TopicJoins.f k l = some true := by
  suffices h : Ev (fun k => brokerlaw01_TopicJoins.f k l) true from h.rounds
  simp only [brokerlaw01_TopicJoins.f]
  obtain ⟨b, hb, hall⟩ := light_ev l hlen
  refine ev_bind hb (ev_if (fun hbt => ?_) (fun _ => ev_bind awake_ev (ev_some rfl)))
  obtain ⟨hl, hx⟩ := hall hbt
  have hxm : ∀ x ∈ l.map toL, x.length ≤ 4096 := by
    intro x hxm
    obtain ⟨s, hs, rfl⟩ := List.mem_map.1 hxm
    obtain ⟨j, hj⟩ := List.mem_iff_getElem?.1 hs
    have hjl := (List.getElem?_eq_some_iff.1 hj).1
    have := hx j hjl
    rw [List.getD_eq_getElem?_getD, hj] at this
    rw [toL_len]
    exact this
  have hjl : (Lib.join (l.map toL) [47]).length ≤ 4097 * 64 := by
    have := joined_len (l.map toL) 47 4096 hxm
    rw [List.length_map] at this
    exact Nat.le_trans this (Nat.mul_le_mul_left _ hl)
  have hj : topic_Join.f l = some (mkB (Lib.join (l.map toL) [47])) := by
    unfold topic_Join.f strings_Join.f
    rw [joinF_eq l 47 (by omega) (by omega)]
    rfl
  refine ev_const hj ?_
  have fin : ∀ d, d ≤ l.length → ∀ p : Bool, (p = true → l ≠ [] ∧ ∀ i, i < l.length - d → hasB (l.getD i ByteArray.empty) 47 = false) →
      Ev (fun k => brokerlaw01_TopicJoins.l0 k l (mkB (Lib.join (l.map toL) [47])) p ((l.length - d : Nat) : Int)) true := by
    intro d
    induction d with
    | zero =>
      intro _ p hp
      refine ev_succ ?_
      simp only [brokerlaw01_TopicJoins.l0]
      refine ev_neg (by omega) (ev_bind awake_ev ?_)
      simp only [if_true]
      refine ev_bind (refjoin_ev l hl hx) (ev_pos rfl (ev_if (fun hpt => ?_) (fun _ => ev_some rfl)))
      obtain ⟨hne, hno⟩ := hp hpt
      have e : levels (mkB (Lib.join (l.map toL) [47])) = l := by
        unfold levels
        rw [toL_mk, pieces_join 47 _ (by simpa using hne) (fun x hxm => by
          obtain ⟨s, hs, rfl⟩ := List.mem_map.1 hxm
          obtain ⟨j, hj⟩ := List.mem_iff_getElem?.1 hs
          have hjl := (List.getElem?_eq_some_iff.1 hj).1
          have h47 := hno j (by omega)
          rw [List.getD_eq_getElem?_getD, hj] at h47
          intro hm
          obtain ⟨m, hmm⟩ := List.mem_iff_getElem?.1 hm
          have hml : m < s.size := by rw [← toL_len]; exact (List.getElem?_eq_some_iff.1 hmm).1
          exact has_no h47 m hml (by show by_ s m = 47; rw [by_toL, hmm]; rfl)), List.map_map]
        have : (mkB ∘ toL) = id := funext mk_toL
        rw [this, List.map_id]
      refine ev_const (topic_levels _ (by rw [size_mk]; omega)) ?_
      rw [e]
      exact ev_bind (same_ev l (by omega)) (ev_some rfl)
    | succ d ih =>
      intro hd p hp
      refine ev_succ ?_
      simp only [brokerlaw01_TopicJoins.l0]
      have erd : rdOf ByteArray.empty l ((l.length - (d + 1) : Nat) : Int) = l.getD (l.length - (d + 1)) ByteArray.empty := rfl
      have hxi := hx (l.length - (d + 1)) (by omega)
      refine ev_pos (by omega) (ev_pos (by omega) ?_)
      rw [erd, w64 (by omega) (by omega), show (((l.length - (d + 1) : Nat) : Int) + 1) = ((l.length - d : Nat) : Int) by omega]
      refine ev_bind (has_ev _ 47 (by omega)) (ev_if (fun _ => ih (by omega) false (fun h => by cases h)) (fun h47 => ih (by omega) p (fun hpt => ?_)))
      obtain ⟨hne, hno⟩ := hp hpt
      refine ⟨hne, fun i hi => ?_⟩
      by_cases e : i = l.length - (d + 1)
      · subst e; exact h47
      · exact hno i (by omega)
  have := fin l.length (Nat.le_refl _) (decide ((l.length : Int) > 0)) (fun h => ⟨by
    intro e
    subst e
    simp at h, fun i hi => by omega⟩)
  rw [Nat.sub_self] at this
  exact this
end Go.Proofs.YtpnekiledkgfiaaDoor.Pure
