/- The specification's Topic, and that the program's is the same. -/
import Derived.Test.YtegcobkhejpmkaaDoorPx14
import Derived.Test.YtegcobkhejpmkaaDoorPx20
import Derived.Test.YtegcobkhejpmkaaDoorPx31
import Derived.Test.YtegcobkhejpmkaaDoorPx32
import Derived.Test.YtegcobkhejpmkaaDoorPureWg
import Derived.Test.YtegcobkhejpmkaaDoorPureJ
-- needs: brokerref45_Topic brokerref45_level brokerref01_Has brokerref01_Join brokerref01_Valid
namespace Go.Proofs.YtegcobkhejpmkaaDoor.Pure
open Go.RowKit Go.Proofs.YtegcobkhejpmkaaDoor.P Go.Proofs.YtegcobkhejpmkaaDoorW.PrintWords Go.Proofs.YtegcobkhejpmkaaDoorW.PrintLast Go.Proofs.YtegcobkhejpmkaaDoor.Ext

theorem hasB_mem (q : List UInt8) : hasB (mkB q) 47 = decide ((47 : UInt8) ∈ q) := by
  refine decide_eq_decide.2 ⟨fun ⟨i, hi, h⟩ => ?_, fun h => ?_⟩
  · obtain ⟨c, hc, ec⟩ := toL_at hi
    have : c = 47 := u8_eq (n := 47) (by omega) (by decide)
    rw [← this]
    exact List.mem_of_getElem? hc
  · obtain ⟨i, hi⟩ := List.mem_iff_getElem?.1 h
    have hl := (List.getElem?_eq_some_iff.1 hi).1
    refine ⟨i, by rw [size_mk]; exact hl, ?_⟩
    rw [by_toL, toL_mk, hi]
    rfl
theorem reftop_end (s : BA) (_ : s.size ≤ 1000) (out : List BA) (fr : Int) (hn : out.length ≤ 2048) (hx : ∀ x ∈ out, x.size ≤ 4096) : Ev (fun k => brokerref45_Topic.l0 k s out fr ((s.size + 1 : Nat) : Int)) (finR (some (out.map toL))) := by
  have hsz := slash_size hn hx
  refine ev_succ ?_
  simp only [brokerref45_Topic.l0]
  refine ev_neg (by omega) (ev_bind (refjoin_ev out hn (fun i hi => by
    rw [List.getD_eq_getElem?_getD, List.getElem?_eq_getElem hi]
    exact hx _ (List.getElem_mem hi))) ?_)
  show Ev _ (if validB (slash (out.map toL)) = true then _ else _)
  refine ev_bind (refvalid_ev _ (by show (slash (out.map toL)).size ≤ _; omega)) ?_
  show Ev (fun n => if validB (slash (out.map toL)) = true then some (slash (out.map toL), true) else _) _
  by_cases hv : validB (slash (out.map toL)) = true
  · rw [if_pos hv, if_pos hv]
    exact ev_some rfl
  · rw [if_neg hv, if_neg hv]
    exact ev_some rfl
theorem reftop_cut (s : BA) (hs : s.size ≤ 1000) (out : List BA) (fr i : Nat) (rest : Option (List (List UInt8))) (h1 : fr ≤ i) (h2 : i ≤ s.size) (ho : out.length ≤ fr)
    (go : ∀ q : List UInt8, q.length ≤ 1000 → Ev (fun k => brokerref45_Topic.l0 k s (out ++ [mkB q]) ((i + 1 : Nat) : Int) ((i + 1 : Nat) : Int)) (finR (rest.map ((out ++ [mkB q]).map toL ++ ·)))) :
    Ev (fun k => brokerref45_Topic.j1 k s out (fr : Int) (i : Int) false) (finR (((refOne (toL (s.extract fr i))).bind fun q => rest.map (q :: ·)).map (out.map toL ++ ·))) := by
  have hxs : (s.extract fr i).size ≤ 1000 := by
    rw [ByteArray.size_extract]
    omega
  refine ev_succ ?_
  simp only [brokerref45_Topic.j1]
  refine ev_ff (ev_pos (by omega) (ev_pos (by omega) (ev_pos (by omega) ?_)))
  rw [Int.toNat_natCast, Int.toNat_natCast, up1 i (by omega)]
  refine ev_bind (reflevel_ev _ (by omega)) ?_
  unfold refOne
  cases hd : decL (toL (s.extract fr i)) with
  | none => exact ev_neg (fun h => Bool.false_ne_true h) (ev_some rfl)
  | some q =>
    have hq := decL_len hd
    rw [toL_len] at hq
    show Ev (fun n => if decide (wordL q = toL (s.extract fr i)) = true then (brokerref01_Has.f n (mkB q) 47).bind _ else _) _
    by_cases hw : wordL q = toL (s.extract fr i)
    · refine ev_pos (decide_eq_true hw) (ev_bind (has_ev (mkB q) 47 (by rw [size_mk]; omega)) ?_)
      rw [hasB_mem]
      show Ev _ (finR (((if wordL q = toL (s.extract fr i) then (if 47 ∈ q then none else some q) else none : Option (List UInt8)).bind fun q => rest.map (q :: ·)).map (out.map toL ++ ·)))
      rw [if_pos hw]
      by_cases h47 : (47 : UInt8) ∈ q
      · rw [if_pos h47]
        exact ev_pos (decide_eq_true h47) (ev_some rfl)
      · rw [if_neg h47]
        have e : ((some q).bind fun q => rest.map (q :: ·)).map (out.map toL ++ ·) = rest.map ((out ++ [mkB q]).map toL ++ ·) := by
          rw [Option.bind_some, Option.map_map]
          congr 1
          funext t
          show out.map toL ++ q :: t = _
          rw [List.map_append, List.append_assoc]
          rfl
        rw [e]
        exact ev_neg (fun h => h47 (of_decide_eq_true h)) (ev_pos (by omega) (go q (by omega)))
    · show Ev _ (finR (((if wordL q = toL (s.extract fr i) then (if 47 ∈ q then none else some q) else none : Option (List UInt8)).bind fun q => rest.map (q :: ·)).map (out.map toL ++ ·)))
      rw [if_neg hw]
      exact ev_neg (fun h => hw (of_decide_eq_true h)) (ev_some rfl)
theorem cut_no (s : BA) : ∀ fr i, i ≤ s.size → (∀ j, fr ≤ j → j < i → by_ s j ≠ 46) → (46 : UInt8) ∉ ((toL s).take i).drop fr := by
  have hlen : (toL s).length = s.size := toL_len s
  intro fr i hi hno hm
  obtain ⟨j, hj⟩ := List.mem_iff_getElem?.1 hm
  rw [List.getElem?_drop, List.getElem?_take] at hj
  split at hj
  · rename_i hlt
    refine hno (fr + j) (by omega) hlt ?_
    rw [by_toL, hj]
    rfl
  · cases hj
theorem cut_at (s : BA) (fr i : Nat) (hfr : fr ≤ i) (hi : i < s.size) (hb : by_ s i = 46) : (toL s).drop fr = ((toL s).take i).drop fr ++ 46 :: (toL s).drop (i + 1) := by
  have hlen : (toL s).length = s.size := toL_len s
  obtain ⟨c, hc, ec⟩ := toL_at (s := s) (i := i) hi
  have hc46 : c = 46 := u8_eq (n := 46) (by omega) (by omega)
  subst hc46
  have e1 : (toL s) = (toL s).take i ++ (toL s).drop i := (List.take_append_drop _ _).symm
  have e2 : (toL s).drop i = 46 :: (toL s).drop (i + 1) := by
    have hlt : i < (toL s).length := by omega
    rw [List.drop_eq_getElem_cons hlt]
    congr 1
    rw [List.getElem?_eq_getElem hlt] at hc
    exact Option.some.inj hc
  conv => lhs; rw [e1]
  rw [List.drop_append_of_le_length (by rw [List.length_take]; omega), e2]
theorem reftop_l0 (s : BA) (hs : s.size ≤ 1000) : ∀ (d : Nat) (out : List BA) (fr : Nat), d ≤ s.size → fr ≤ s.size - d → out.length ≤ fr → (∀ x ∈ out, x.size ≤ 4096) → (∀ i, fr ≤ i → i < s.size - d → by_ s i ≠ 46) →
    Ev (fun k => brokerref45_Topic.l0 k s out (fr : Int) ((s.size - d : Nat) : Int)) (finR ((refAll (pieces 46 ((toL s).drop fr))).map (out.map toL ++ ·))) := by
  have hlen : (toL s).length = s.size := toL_len s
  intro d
  induction d with
  | zero =>
    intro out fr _ hfr ho hx hno
    refine ev_succ ?_
    simp only [brokerref45_Topic.l0]
    refine ev_pos (by omega) (ev_neg (by omega) ?_)
    have h := cut_no s fr s.size (Nat.le_refl _) (by rw [Nat.sub_zero] at hno; exact hno)
    have et : ((toL s).take s.size).drop fr = (toL s).drop fr := by rw [List.take_of_length_le (by omega)]
    rw [et] at h
    rw [pieces_none _ _ h, ← et, ← toL_extract]
    refine reftop_cut s hs out fr s.size (some []) (by omega) (Nat.le_refl _) ho (fun q hq => ?_)
    have := reftop_end s hs (out ++ [mkB q]) ((s.size + 1 : Nat) : Int) (by rw [List.length_append]; show _ + 1 ≤ _; omega) (fun x hm => by
      rcases List.mem_append.1 hm with h | h
      · exact hx x h
      · rw [List.mem_singleton.1 h, size_mk]
        omega)
    show Ev _ (finR (some ((out ++ [mkB q]).map toL ++ [])))
    rw [List.append_nil]
    exact this
  | succ d ih =>
    intro out fr hd hfr ho hx hno
    refine ev_succ ?_
    simp only [brokerref45_Topic.l0]
    refine ev_pos (by omega) (ev_pos (by omega) (ev_pos (by omega) ?_))
    rw [bt_by]
    have e1 : s.size - (d + 1) + 1 = s.size - d := by omega
    by_cases h : by_ s (s.size - (d + 1)) = 46
    · rw [h]
      rw [cut_at s fr _ hfr (by omega) h, pieces_hit _ _ _ (cut_no s fr _ (by omega) hno), ← toL_extract]
      refine reftop_cut s hs out fr (s.size - (d + 1)) _ hfr (by omega) ho (fun q hq => ?_)
      rw [e1]
      exact ih (out ++ [mkB q]) (s.size - d) (by omega) (Nat.le_refl _) (by rw [List.length_append]; show _ + 1 ≤ _; omega) (fun x hm => by
        rcases List.mem_append.1 hm with h | h
        · exact hx x h
        · rw [List.mem_singleton.1 h, size_mk]
          omega) (fun i h0 h1 => by omega)
    · have hne : ((by_ s (s.size - (d + 1)) : Int) != 46) = true := bne_iff_ne.2 (by omega)
      rw [hne]
      refine ev_succ ?_
      simp only [brokerref45_Topic.j1]
      rw [up1 _ (by omega), e1]
      refine ev_pos trivial (ih out fr (by omega) (by omega) ho hx (fun i h0 h1 => ?_))
      by_cases e : i = s.size - (d + 1)
      · subst e; exact h
      · exact hno i h0 (by omega)
theorem reftopic_ev (s : BA) (hs : s.size ≤ 1000) : Ev (fun k => brokerref45_Topic.f k s) (finR (refAll (pieces 46 (toL s)))) := by
  have := reftop_l0 s hs s.size [] 0 (Nat.le_refl _) (Nat.zero_le _) (Nat.zero_le _) (fun x h => by cases h) (fun i h0 h1 => by omega)
  rw [Nat.sub_self] at this
  simp only [brokerref45_Topic.f]
  have e2 : (refAll (pieces 46 (toL s))).map ((([] : List BA).map toL) ++ ·) = refAll (pieces 46 (toL s)) := by
    cases refAll (pieces 46 (toL s)) <;> rfl
  rw [List.drop_zero, e2] at this
  exact this
/-! ### the two are one -/
theorem refAll_some : ∀ {ps qs : List (List UInt8)}, refAll ps = some qs → decAll ps = some qs ∧ qs.map wordL = ps ∧ (∀ q ∈ qs, (47 : UInt8) ∉ q)
  | [], qs, h => by
    obtain rfl := Option.some.inj h
    exact ⟨rfl, rfl, fun q h => by cases h⟩
  | p :: r, qs, h => by
    unfold refAll at h
    obtain ⟨q, hq, h⟩ := Option.bind_eq_some_iff.1 h
    obtain ⟨t, ht, rfl⟩ := Option.map_eq_some_iff.1 h
    obtain ⟨h1, h2, h3⟩ := refAll_some ht
    unfold refOne at hq
    cases hd : decL p with
    | none =>
      rw [hd] at hq
      cases hq
    | some q' =>
      rw [hd] at hq
      replace hq : (if wordL q' = p then (if 47 ∈ q' then none else some q') else none : Option (List UInt8)) = some q := hq
      split at hq
      · rename_i hw
        split at hq
        · cases hq
        · rename_i h47
          obtain rfl := Option.some.inj hq
          refine ⟨?_, ?_, ?_⟩
          · unfold decAll
            rw [hd, Option.bind_some, h1]
            rfl
          · rw [List.map_cons, hw, h2]
          · intro x hx
            rcases List.mem_cons.1 hx with rfl | hx
            · exact h47
            · exact h3 x hx
      · cases hq
theorem refAll_words : ∀ ls : List (List UInt8), (∀ q ∈ ls, (47 : UInt8) ∉ q) → refAll (ls.map wordL) = some ls
  | [], _ => rfl
  | l :: r, h => by
    have ih := refAll_words r (fun q hq => h q (List.mem_cons_of_mem _ hq))
    rw [List.map_cons]
    unfold refAll
    have : refOne (wordL l) = some l := by
      unfold refOne
      rw [decL_word]
      show (if wordL l = wordL l then (if 47 ∈ l then none else some l) else none : Option (List UInt8)) = _
      rw [if_pos rfl, if_neg (h l (List.mem_cons_self ..))]
    rw [this, Option.bind_some, ih]
    rfl
theorem dots_pieces (l : List (List UInt8)) (h : l ≠ []) : pieces 46 (toL (dots ((l.map mkB).map wordB))) = l.map wordL := by
  unfold dots
  rw [toL_mk, List.map_map, List.map_map]
  have e : l.map (toL ∘ wordB ∘ mkB) = l.map wordL := rfl
  show pieces 46 (Lib.join (l.map (toL ∘ wordB ∘ mkB)) [46]) = _
  rw [e]
  refine pieces_join 46 _ ?_ ?_
  · intro hn
    exact h (List.map_eq_nil_iff.1 hn)
  · intro x hx
    obtain ⟨q, _, rfl⟩ := List.mem_map.1 hx
    exact word_no46 q
theorem key_pieces {n : BA} (h : validB n = true) : pieces 46 (toL (keyB n)) = (pieces 47 (toL n)).map wordL := by
  unfold keyB
  rw [if_pos h]
  exact dots_pieces _ (pieces_ne _ _)
theorem toL_ext {a b : BA} (h : pieces 46 (toL a) = pieces 46 (toL b)) : a = b := by
  have := congrArg (fun l => Lib.join l [46]) h
  simp only [join_pieces] at this
  exact toL_inj this
theorem topics_same (s : BA) : finT s (decAll (pieces 46 (toL s))) = finR (refAll (pieces 46 (toL s))) := by
  cases hr : refAll (pieces 46 (toL s)) with
  | some qs =>
    obtain ⟨h1, h2, h3⟩ := refAll_some hr
    rw [h1]
    show (if validB (slash qs) = true then (if keyB (slash qs) = s then (slash qs, true) else (⟨#[]⟩, false)) else (⟨#[]⟩, false)) = if validB (slash qs) = true then (slash qs, true) else (⟨#[]⟩, false)
    by_cases hv : validB (slash qs) = true
    · rw [if_pos hv, if_pos hv]
      have hne : qs ≠ [] := by
        intro e
        rw [e] at h2
        exact pieces_ne 46 (toL s) h2.symm
      have hp : pieces 47 (toL (slash qs)) = qs := by
        unfold slash
        rw [toL_mk]
        exact pieces_join 47 qs hne h3
      rw [if_pos (toL_ext (by rw [key_pieces hv, hp, h2]))]
    · rw [if_neg hv, if_neg hv]
  | none =>
    cases hd : decAll (pieces 46 (toL s)) with
    | none => rfl
    | some qs =>
      show (if validB (slash qs) = true then (if keyB (slash qs) = s then (slash qs, true) else (⟨#[]⟩, false)) else (⟨#[]⟩, false)) = (⟨#[]⟩, false)
      split
      · rename_i hv
        split
        · rename_i hk
          have hp := key_pieces hv
          rw [hk] at hp
          rw [hp, refAll_words _ (fun q hq => pieces_mem 47 _ q hq)] at hr
          cases hr
        · rfl
      · rfl
/-- A name's key is read back. -/
theorem topic_key {n : BA} (h : validB n = true) : finT (keyB n) (decAll (pieces 46 (toL (keyB n)))) = (n, true) := by
  rw [topics_same, key_pieces h, refAll_words _ (fun q hq => pieces_mem 47 _ q hq)]
  have e : slash (pieces 47 (toL n)) = n := by
    unfold slash
    rw [join_pieces, mk_toL]
  show (if validB (slash (pieces 47 (toL n))) = true then (slash (pieces 47 (toL n)), true) else (⟨#[]⟩, false)) = _
  rw [e, if_pos h]
/-- What is read back has the key that it was read from. -/
theorem topic_back {s t : BA} (h : finT s (decAll (pieces 46 (toL s))) = (t, true)) : validB t = true ∧ keyB t = s := by
  unfold finT at h
  split at h
  · split at h
    · rename_i hv
      split at h
      · rename_i hk
        obtain rfl := (Prod.mk.inj h).1
        exact ⟨hv, hk⟩
      · cases (Prod.mk.inj h).2
    · cases (Prod.mk.inj h).2
  · cases (Prod.mk.inj h).2
theorem key_inj {a b : BA} (ha : validB a = true) (hb : validB b = true) (h : keyB a = keyB b) : a = b := by
  have e := topic_key ha
  rw [h, topic_key hb] at e
  exact (Prod.mk.inj e).1.symm
end Go.Proofs.YtegcobkhejpmkaaDoor.Pure
