
/- The specification's Topic, and that the program's is the same. -/
import Derived.Test.YtfcomjinaokeaaaGreatDoorPureWg
import Derived.Test.YtfcomjinaokeaaaGreatDoorPureJ
-- needs: brokerref45_Topic brokerref45_level brokerref01_Has brokerref01_Join brokerref01_Valid
namespace Go.Proofs.YtfcomjinaokeaaaGreatDoor.Pure
open Go.RowKit Go.Proofs.YtfcomjinaokeaaaGreatDoor.P Go.Proofs.YtfcomjinaokeaaaGreatDoorW.PrintWords Go.Proofs.YtfcomjinaokeaaaGreatDoorW.PrintLast Go.Proofs.YtfcomjinaokeaaaGreatDoor.Ext

theorem hasB_mem (q : List UInt8) : hasB (mkB q) 47 = decide ((47 : UInt8) ∈ q) := by
  refine decide_eq_decide.2 ⟨fun ⟨i, hi, h⟩ => ?_, fun h => ?_⟩
  · obtain ⟨c, hc, ec⟩ := toL_at hi
    have : c = 47 := u8_eq (n := 47) (by omega) (by decide)
    rw [← this]
    exact List.mem_of_getElem? hc
  · obtain ⟨i, hi⟩ := List.mem_iff_getElem?.1 h
    have hl := (List.getElem?_eq_some_iff.1 hi).1
    refine ⟨i, by rw [size_mk]; exact hl, ?_⟩
    rw [by_toL, toL_mk, hi]
    rfl
theorem cut_no (s : BA) : ∀ fr i, i ≤ s.size → (∀ j, fr ≤ j → j < i → by_ s j ≠ 46) → (46 : UInt8) ∉ ((toL s).take i).drop fr := by
  have hlen : (toL s).length = s.size := toL_len s
  intro fr i hi hno hm
  obtain ⟨j, hj⟩ := List.mem_iff_getElem?.1 hm
  rw [List.getElem?_drop, List.getElem?_take] at hj
  split at hj
  · rename_i hlt
    refine hno (fr + j) (by omega) hlt ?_
    rw [by_toL, hj]
    rfl
  · cases hj
theorem cut_at (s : BA) (fr i : Nat) (hfr : fr ≤ i) (hi : i < s.size) (hb : by_ s i = 46) : (toL s).drop fr = ((toL s).take i).drop fr ++ 46 :: (toL s).drop (i + 1) := by
  have hlen : (toL s).length = s.size := toL_len s
  obtain ⟨c, hc, ec⟩ := toL_at (s := s) (i := i) hi
  have hc46 : c = 46 := u8_eq (n := 46) (by omega) (by omega)
  subst hc46
  have e1 : (toL s) = (toL s).take i ++ (toL s).drop i := (List.take_append_drop _ _).symm
  have e2 : (toL s).drop i = 46 :: (toL s).drop (i + 1) := by
    have hlt : i < (toL s).length := by omega
    rw [List.drop_eq_getElem_cons hlt]
    congr 1
    rw [List.getElem?_eq_getElem hlt] at hc
    exact Option.some.inj hc
  conv => lhs; rw [e1]
  rw [List.drop_append_of_le_length (by rw [List.length_take]; omega), e2]
/-! ### the two are one -/
theorem refAll_some : ∀ {ps qs : List (List UInt8)}, refAll ps = some qs → decAll ps = some qs ∧ qs.map wordL = ps ∧ (∀ q ∈ qs, (47 : UInt8) ∉ q)
  | [], qs, h => by
    obtain rfl := Option.some.inj h
    exact ⟨rfl, rfl, fun q h => by cases h⟩
  | p :: r, qs, h => by
    unfold refAll at h
    obtain ⟨q, hq, h⟩ := Option.bind_eq_some_iff.1 h
    obtain ⟨t, ht, rfl⟩ := Option.map_eq_some_iff.1 h
    obtain ⟨h1, h2, h3⟩ := refAll_some ht
    unfold refOne at hq
    cases hd : decL p with
    | none =>
      rw [hd] at hq
      cases hq
    | some q' =>
      rw [hd] at hq
      replace hq : (if wordL q' = p then (if 47 ∈ q' then none else some q') else none : Option (List UInt8)) = some q := hq
      split at hq
      · rename_i hw
        split at hq
        · cases hq
        · rename_i h47
          obtain rfl := Option.some.inj hq
          refine ⟨?_, ?_, ?_⟩
          · unfold decAll
            rw [hd, Option.bind_some, h1]
            rfl
          · rw [List.map_cons, hw, h2]
          · intro x hx
            rcases List.mem_cons.1 hx with rfl | hx
            · exact h47
            · exact h3 x hx
      · cases hq
theorem refAll_words : ∀ ls : List (List UInt8), (∀ q ∈ ls, (47 : UInt8) ∉ q) → refAll (ls.map wordL) = some ls
  | [], _ => rfl
  | l :: r, h => by
    have ih := refAll_words r (fun q hq => h q (List.mem_cons_of_mem _ hq))
    rw [List.map_cons]
    unfold refAll
    have : refOne (wordL l) = some l := by
      unfold refOne
      rw [decL_word]
      show (if wordL l = wordL l then (if 47 ∈ l then none else some l) else none : Option (List UInt8)) = _
      rw [if_pos rfl, if_neg (h l (List.mem_cons_self ..))]
    rw [this, Option.bind_some, ih]
    rfl
theorem dots_pieces (l : List (List UInt8)) (h : l ≠ []) : pieces 46 (toL (dots ((l.map mkB).map wordB))) = l.map wordL := by
  unfold dots
  rw [toL_mk, List.map_map, List.map_map]
  have e : l.map (toL ∘ wordB ∘ mkB) = l.map wordL := rfl
  show pieces 46 (Lib.join (l.map (toL ∘ wordB ∘ mkB)) [46]) = _
  rw [e]
  refine pieces_join 46 _ ?_ ?_
  · intro hn
    exact h (List.map_eq_nil_iff.1 hn)
  · intro x hx
    obtain ⟨q, _, rfl⟩ := List.mem_map.1 hx
    exact word_no46 q
theorem key_pieces {n : BA} (h : validB n = true) : pieces 46 (toL (keyB n)) = (pieces 47 (toL n)).map wordL := by
  unfold keyB
  rw [if_pos h]
  exact dots_pieces _ (pieces_ne _ _)
theorem toL_ext {a b : BA} (h : pieces 46 (toL a) = pieces 46 (toL b)) : a = b := by
  have := congrArg (fun l => Lib.join l [46]) h
  simp only [join_pieces] at this
  exact toL_inj this
theorem topics_same (s : BA) : finT s (decAll (pieces 46 (toL s))) = finR (refAll (pieces 46 (toL s))) := by
  cases hr : refAll (pieces 46 (toL s)) with
  | some qs =>
    obtain ⟨h1, h2, h3⟩ := refAll_some hr
    rw [h1]
    show (if validB (slash qs) = true then (if keyB (slash qs) = s then (slash qs, true) else (⟨#[]⟩, false)) else (⟨#[]⟩, false)) = if validB (slash qs) = true then (slash qs, true) else (⟨#[]⟩, false)
    by_cases hv : validB (slash qs) = true
    · rw [if_pos hv, if_pos hv]
      have hne : qs ≠ [] := by
        intro e
        rw [e] at h2
        exact pieces_ne 46 (toL s) h2.symm
      have hp : pieces 47 (toL (slash qs)) = qs := by
        unfold slash
        rw [toL_mk]
        exact pieces_join 47 qs hne h3
      rw [if_pos (toL_ext (by rw [key_pieces hv, hp, h2]))]
    · rw [if_neg hv, if_neg hv]
  | none =>
    cases hd : decAll (pieces 46 (toL s)) with
    | none => rfl
    | some qs =>
      show (if validB (slash qs) = true then (if keyB (slash qs) = s then (slash qs, true) else (⟨#[]⟩, false)) else (⟨#[]⟩, false)) = (⟨#[]⟩, false)
      split
      · rename_i hv
        split
        · rename_i hk
          have hp := key_pieces hv
          rw [hk] at hp
          rw [hp, refAll_words _ (fun q hq => pieces_mem 47 _ q hq)] at hr
          cases hr
        · rfl
      · rfl
/-- A name's key is read back. -/
theorem topic_key {n : BA} (h : validB n = true) : finT (keyB n) (decAll (pieces 46 (toL (keyB n)))) = (n, true) := by
  rw [topics_same, key_pieces h, refAll_words _ (fun q hq => pieces_mem 47 _ q hq)]
  have e : slash (pieces 47 (toL n)) = n := by
    unfold slash
    rw [join_pieces, mk_toL]
  show (if validB (slash (pieces 47 (toL n))) = true then (slash (pieces 47 (toL n)), true) else (⟨#[]⟩, false)) = _
  rw [e, if_pos h]
/-- What is read back has the key that it was read from. -/
theorem topic_back {s t : BA} (h : finT s (decAll (pieces 46 (toL s))) = (t, true)) : validB t = true ∧ keyB t = s := by
  unfold finT at h
  split at h
  · split at h
    · rename_i hv
      split at h
      · rename_i hk
        obtain rfl := (Prod.mk.inj h).1
        exact ⟨hv, hk⟩
      · cases (Prod.mk.inj h).2
    · cases (Prod.mk.inj h).2
  · cases (Prod.mk.inj h).2
theorem key_inj {a b : BA} (ha : validB a = true) (hb : validB b = true) (h : keyB a = keyB b) : a = b := by
  have e := topic_key ha
  rw [h, topic_key hb] at e
  exact (Prod.mk.inj e).1.symm
end Go.Proofs.YtfcomjinaokeaaaGreatDoor.Pure
