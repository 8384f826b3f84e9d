
/- MappingBack: Topic and Key undo one another; keys match patterns as names match filters. -/
import Derived.Test.YtfcomjinaokeaaaGreatDoorPx1
import Derived.Test.YtfcomjinaokeaaaGreatDoorPx6
import Derived.Test.YtfcomjinaokeaaaGreatDoorPureWi
import Derived.Test.YtfcomjinaokeaaaGreatDoorPureW
-- needs: brokerlaw45_MappingBack brokerref24_Matches brokerref24_Text brokerref02_Matches brokerref01_System mapping_Topic
namespace Go.Proofs.YtfcomjinaokeaaaGreatDoor.Pure
open Go.RowKit Go.Proofs.YtfcomjinaokeaaaGreatDoor.P Go.Proofs.YtfcomjinaokeaaaGreatDoorW.PrintWords Go.Proofs.YtfcomjinaokeaaaGreatDoorW.PrintLast Go.Proofs.YtfcomjinaokeaaaGreatDoor.Ext

theorem patL_no46 (l : List UInt8) : (46 : UInt8) ∉ patL l := by
  unfold patL
  repeat' split
  · decide
  · decide
  · exact word_no46 l
theorem wordL_no0 {l : List UInt8} (h : (0 : UInt8) ∉ l) : (0 : UInt8) ∉ wordL l := by
  unfold wordL
  repeat' split
  · decide
  · decide
  · intro k
    rcases esc_mem k with k | k | k
    · cases k
    · cases k
    · exact h k.1
theorem patL_no0 {l : List UInt8} (h : (0 : UInt8) ∉ l) : (0 : UInt8) ∉ patL l := by
  unfold patL
  repeat' split
  · decide
  · decide
  · exact wordL_no0 h
theorem join_no {c d : UInt8} (hcd : d ≠ c) : ∀ l : List (List UInt8), (∀ x ∈ l, d ∉ x) → d ∉ Lib.join l [c]
  | [], _ => by rw [Lib.join_nil]; intro h; cases h
  | [x], h => by rw [Lib.join_one]; exact h x (List.mem_cons_self ..)
  | x :: y :: r, h => by
    rw [join_cons2]
    intro k
    rcases List.mem_append.1 k with k | k
    · exact h x (List.mem_cons_self ..) k
    · rcases List.mem_cons.1 k with k | k
      · exact hcd k
      · exact join_no hcd (y :: r) (fun z hz => h z (List.mem_cons_of_mem _ hz)) k
theorem sized_no0 {s : BA} (h : sizedB s = true) : (0 : UInt8) ∉ toL s := by
  intro k
  obtain ⟨i, hi⟩ := List.mem_iff_getElem?.1 k
  have hl := (List.getElem?_eq_some_iff.1 hi).1
  rw [toL_len] at hl
  refine (of_decide_eq_true h).2.2.1 i hl ?_
  rw [by_toL, hi]
  rfl
theorem filter_sized {s : BA} (h : filterB s = true) : sizedB s = true := by
  unfold filterB at h
  rw [Bool.and_eq_true] at h
  exact h.1
theorem valid_sized {s : BA} (h : validB s = true) : sizedB s = true := by
  unfold validB at h
  rw [Bool.and_eq_true] at h
  exact h.1
theorem level_no0 {s x : BA} (h : sizedB s = true) (hx : x ∈ levels s) : (0 : UInt8) ∉ toL x := by
  obtain ⟨p, hp, rfl⟩ := List.mem_map.1 hx
  exact fun k => sized_no0 h (pieces_sub 47 _ p hp 0 k)
theorem dots_split (f : BA → BA) (l : List BA) (hl : l ≠ []) (hf : ∀ x, (46 : UInt8) ∉ toL (f x)) : pieces 46 (toL (dots (l.map f))) = (l.map f).map toL := by
  unfold dots
  rw [toL_mk]
  refine pieces_join 46 _ ?_ ?_
  · intro h
    exact hl (List.map_eq_nil_iff.1 (List.map_eq_nil_iff.1 h))
  · intro x hx
    obtain ⟨y, hy, rfl⟩ := List.mem_map.1 hx
    obtain ⟨z, _, rfl⟩ := List.mem_map.1 hy
    exact hf z
theorem dots_no0 (f : BA → BA) (l : List BA) (hf : ∀ x ∈ l, (0 : UInt8) ∉ toL (f x)) : (0 : UInt8) ∉ toL (dots (l.map f)) := by
  unfold dots
  rw [toL_mk]
  refine join_no (by decide) _ (fun x hx => ?_)
  obtain ⟨y, hy, rfl⟩ := List.mem_map.1 hx
  obtain ⟨z, hz, rfl⟩ := List.mem_map.1 hy
  exact hf z hz
theorem split_dots (f : BA → BA) (l : List BA) (hl : l ≠ []) (hf : ∀ x, (46 : UInt8) ∉ toL (f x)) (hs : (dots (l.map f)).size ≤ 64) : strings_Split.f (dots (l.map f)) (⟨#[46]⟩ : ByteArray) = some (l.map f) := by
  unfold strings_Split.f
  refine (splitF_eq 46 _ (by omega)).trans ?_
  rw [dots_split f l hl hf, List.map_map]
  congr 1
  conv => rhs; rw [← List.map_id (l.map f)]
  exact List.map_congr_left (fun x _ => rfl)
/-- A filter that begins with a wildcard begins with one of its two signs. -/
theorem wild_byte {s : BA} (h : wildL (levels s) = true) : by_ s 0 = 43 ∨ by_ s 0 = 35 := by
  cases hp : pieces 47 (toL s) with
  | nil => exact absurd hp (pieces_ne _ _)
  | cons p r =>
    have el : levels s = mkB p :: r.map mkB := by
      unfold levels
      rw [hp]
      rfl
    rw [el] at h
    replace h : (isP (mkB p) || isR (mkB p)) = true := h
    have at0 : ∀ c : UInt8, (toL s).head? = some c → by_ s 0 = c.toNat := by
      intro c hc
      rw [by_toL]
      cases hs : toL s with
      | nil =>
        rw [hs] at hc
        cases hc
      | cons b t =>
        rw [hs] at hc
        obtain rfl := Option.some.inj hc
        rfl
    rw [Bool.or_eq_true] at h
    rcases h with h | h
    · have e := isP_is h
      rw [toList_toL, toL_mk] at e
      exact .inl (at0 43 ((pieces_head 43 (by decide) _ _ _ hp).2 (by rw [e]; rfl)))
    · have e := isR_is h
      rw [toList_toL, toL_mk] at e
      exact .inr (at0 35 ((pieces_head 35 (by decide) _ _ _ hp).2 (by rw [e]; rfl)))
theorem key_of {n : BA} (h : validB n = true) : keyB n = dots ((levels n).map wordB) := by
  unfold keyB
  rw [if_pos h]
theorem key_small {n : BA} (h : validB n = true) : (keyB n).size ≤ 1000000 := by
  rw [key_of h]
  have hz := valid_size h
  have hl := lev_len hz
  have := joined_len (((levels n).map wordB).map toL) 46 130 (fun x hx => by
    obtain ⟨y, hy, rfl⟩ := List.mem_map.1 hx
    obtain ⟨z, hzm, rfl⟩ := List.mem_map.1 hy
    have hw := word_len (toL z)
    have := levels_size n z hzm
    rw [toL_len] at hw
    show (wordL (toL z)).length ≤ 130
    omega)
  rw [List.length_map, List.length_map] at this
  unfold dots
  rw [size_mk]
  omega
theorem topic_of {n : BA} (h : validB n = true) : Ev (fun k => mapping_Topic.f k (keyB n)) (n, true) := by
  have hz := valid_size h
  have := topicm_ev' (keyB n) (key_small h) (by
    rw [key_pieces h, List.length_map]
    have := lev_len hz
    unfold levels at this
    rw [List.length_map] at this
    omega) (fun p hp => by
    rw [key_pieces h] at hp
    obtain ⟨q, hq, rfl⟩ := List.mem_map.1 hp
    have hw := word_len q
    have := levels_size n (mkB q) (List.mem_map.2 ⟨q, hq, rfl⟩)
    rw [size_mk] at this
    omega)
  rw [topic_key h] at this
  exact this
theorem bne_self (l : List UInt8) : (l != l) = false := by
  rw [bne, beq_self_eq_true]
  rfl
end Go.Proofs.YtfcomjinaokeaaaGreatDoor.Pure
