
/- What the printed keys and patterns answer. -/
import Derived.Test.YtfcomjinaokeaaaGreatDoorPx1
import Derived.Test.YtfcomjinaokeaaaGreatDoorPx2
import Derived.Test.YtfcomjinaokeaaaGreatDoorPx3
import Derived.Test.YtfcomjinaokeaaaGreatDoorPx4
import Derived.Test.YtfcomjinaokeaaaGreatDoorPureWe
import Derived.Test.YtfcomjinaokeaaaGreatDoorPureR
-- needs: mapping_joined mapping_joined2 mapping_Key mapping_Pattern brokerref45_Key brokerref45_Pattern brokerref45_points brokerref45_Word
namespace Go.Proofs.YtfcomjinaokeaaaGreatDoor.Pure
open Go.RowKit Go.Proofs.YtfcomjinaokeaaaGreatDoor.P Go.Proofs.YtfcomjinaokeaaaGreatDoorW.PrintWords Go.Proofs.YtfcomjinaokeaaaGreatDoorW.PrintLast Go.Proofs.YtfcomjinaokeaaaGreatDoor.Ext

def wordB (x : BA) : BA := mkB (wordL (toL x))
def patB1 (x : BA) : BA := mkB (patL (toL x))
theorem wordB_size {x : BA} (h : x.size ≤ 1500) : (wordB x).size ≤ 4096 := by
  have := word_len (toL x)
  rw [toL_len] at this
  unfold wordB
  rw [size_mk]
  omega
theorem patB1_size {x : BA} (h : x.size ≤ 1500) : (patB1 x).size ≤ 4096 := by
  have := word_len (toL x)
  rw [toL_len] at this
  unfold patB1 patL
  rw [size_mk]
  repeat' split
  · simp
  · simp
  · omega
def dots (l : List BA) : BA := mkB (Lib.join (l.map toL) [46])
theorem dots_val {l : List BA} (hl : l.length ≤ 2048) (hx : ∀ x ∈ l, x.size ≤ 4096) : strings_Join.f l (⟨#[46]⟩ : ByteArray) = some (dots l) := by
  unfold strings_Join.f
  refine joinF_eq l 46 ?_ (by omega)
  have := joined_len (l.map toL) 46 4096 (fun x hxm => by
    obtain ⟨s, hs, rfl⟩ := List.mem_map.1 hxm
    rw [toL_len]
    exact hx s hs)
  rw [List.length_map] at this
  have : 4097 * l.length ≤ 4097 * 2048 := Nat.mul_le_mul_left _ hl
  omega
/-! ### joined -/
theorem joined_l0 (l : List BA) (hl : l.length ≤ 2048) : ∀ (r acc : List BA) (i : Nat), l.drop i = r → acc.length = i → i ≤ l.length → (∀ x ∈ r, x.size ≤ 1500) → (∀ x ∈ acc, x.size ≤ 4096) →
    Ev (fun k => mapping_joined.l0 k acc l (l.length : Int) (i : Int)) (dots (acc ++ r.map wordB)) := by
  intro r
  induction r with
  | nil =>
    intro acc i h ha hi hx hy
    have hz := drop_nil h
    refine ev_succ ?_
    simp only [mapping_joined.l0]
    refine ev_neg (by omega) (ev_some ?_)
    rw [List.map_nil, List.append_nil, dots_val (by omega) hy]
    rfl
  | cons a r ih =>
    intro acc i h ha hi hx hy
    obtain ⟨h1, h2, h3⟩ := drop_cons ByteArray.empty h
    have ha' := hx a (List.mem_cons_self ..)
    refine ev_succ ?_
    simp only [mapping_joined.l0]
    refine ev_pos (by omega) (ev_pos (by omega) (ev_pos (by omega) ?_))
    rw [rd_get, h2, up1 i (by omega)]
    refine ev_const (word_val a (by omega)) (ev_pos (by omega) ?_)
    have := ih (acc ++ [wordB a]) (i + 1) h3 (by rw [List.length_append, ha]; rfl) (by omega) (fun x hxm => hx x (List.mem_cons_of_mem _ hxm)) (fun x hxm => by
      rcases List.mem_append.1 hxm with h | h
      · exact hy x h
      · rw [List.mem_singleton.1 h]
        exact wordB_size ha')
    rw [List.append_assoc] at this
    exact this
theorem joined_ev (l : List BA) (s : BA) (hl : l.length ≤ 2048) (hx : ∀ x ∈ l, x.size ≤ 1500) : Ev (fun k => mapping_joined.f k l s) (dots (l.map wordB)) := by
  simp only [mapping_joined.f]
  exact joined_l0 l hl l [] 0 rfl rfl (Nat.zero_le _) hx (fun x h => by cases h)
theorem joined2_l0 (l : List BA) (hl : l.length ≤ 2048) : ∀ (r acc : List BA) (i : Nat), l.drop i = r → acc.length = i → i ≤ l.length → (∀ x ∈ r, x.size ≤ 1500) → (∀ x ∈ acc, x.size ≤ 4096) →
    Ev (fun k => mapping_joined2.l0 k acc l (l.length : Int) (i : Int)) (dots (acc ++ r.map patB1)) := by
  intro r
  induction r with
  | nil =>
    intro acc i h ha hi hx hy
    have hz := drop_nil h
    refine ev_succ ?_
    simp only [mapping_joined2.l0]
    refine ev_neg (by omega) (ev_some ?_)
    rw [List.map_nil, List.append_nil, dots_val (by omega) hy]
    rfl
  | cons a r ih =>
    intro acc i h ha hi hx hy
    obtain ⟨h1, h2, h3⟩ := drop_cons ByteArray.empty h
    have ha' := hx a (List.mem_cons_self ..)
    refine ev_succ ?_
    simp only [mapping_joined2.l0]
    refine ev_pos (by omega) (ev_pos (by omega) (ev_pos (by omega) ?_))
    rw [rd_get, h2, up1 i (by omega)]
    refine ev_const (pattern1_val a (by omega)) (ev_pos (by omega) ?_)
    have := ih (acc ++ [patB1 a]) (i + 1) h3 (by rw [List.length_append, ha]; rfl) (by omega) (fun x hxm => hx x (List.mem_cons_of_mem _ hxm)) (fun x hxm => by
      rcases List.mem_append.1 hxm with h | h
      · exact hy x h
      · rw [List.mem_singleton.1 h]
        exact patB1_size ha')
    rw [List.append_assoc] at this
    exact this
theorem joined2_ev (l : List BA) (s : BA) (hl : l.length ≤ 2048) (hx : ∀ x ∈ l, x.size ≤ 1500) : Ev (fun k => mapping_joined2.f k l s) (dots (l.map patB1)) := by
  simp only [mapping_joined2.f]
  exact joined2_l0 l hl l [] 0 rfl rfl (Nat.zero_le _) hx (fun x h => by cases h)
/-! ### Key, Pattern -/
def keyB (s : BA) : BA := if validB s = true then dots ((levels s).map wordB) else ⟨#[]⟩
def patsB (s : BA) : BA × Bool := if filterB s = true then (dots ((levels s).map patB1), true) else (⟨#[]⟩, false)
theorem lev_small {s : BA} (h : s.size ≤ 64) : (levels s).length ≤ 2048 ∧ ∀ x ∈ levels s, x.size ≤ 1500 := by
  have h1 := lev_len h
  refine ⟨by omega, fun x hx => ?_⟩
  have := levels_size s x hx
  omega
theorem key_ev (s : BA) (hs : s.size ≤ 9223372036854775806) : Ev (fun k => mapping_Key.f k s) (keyB s) := by
  simp only [mapping_Key.f, keyB]
  refine ev_const (topic_valid s (by omega)) ?_
  by_cases h : validB s = true
  · have hz := valid_size h
    rw [if_pos h]
    obtain ⟨h1, h2⟩ := lev_small hz
    exact ev_pos h (ev_const (topic_levels s (by omega)) (ev_bind (joined_ev _ _ h1 h2) (ev_some rfl)))
  · rw [if_neg h]
    exact ev_neg h (ev_some rfl)
theorem pattern_ev (s : BA) (hs : s.size ≤ 9223372036854775806) : Ev (fun k => mapping_Pattern.f k s) (patsB s) := by
  simp only [mapping_Pattern.f, patsB]
  refine ev_const (topic_filter s (by omega)) ?_
  by_cases h : filterB s = true
  · have hz := filter_size h
    rw [if_pos h]
    obtain ⟨h1, h2⟩ := lev_small hz
    exact ev_pos h (ev_const (topic_levels s (by omega)) (ev_bind (joined2_ev _ _ h1 h2) (ev_some rfl)))
  · rw [if_neg h]
    exact ev_neg h (ev_some rfl)
/-! ### the specification's -/
end Go.Proofs.YtfcomjinaokeaaaGreatDoor.Pure
