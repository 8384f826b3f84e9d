
/- The references of layer 1 over the printed functions: Has, Name, Levels, sized, Valid, Filter, Same, as the plain functions that the program's own are proved to be. -/
import Derived.Test.YtfcomjinaokeaaaGreatDoorPx1
import Derived.Test.YtfcomjinaokeaaaGreatDoorPx3
import Derived.Test.YtfcomjinaokeaaaGreatDoorPx7
import Derived.Test.YtfcomjinaokeaaaGreatDoorStr
namespace Go.Proofs.YtfcomjinaokeaaaGreatDoor.Pure
open Go.RowKit Go.Proofs.YtfcomjinaokeaaaGreatDoor.P Go.Proofs.YtfcomjinaokeaaaGreatDoorW.PrintWords Go.Proofs.YtfcomjinaokeaaaGreatDoorW.PrintLast Go.Proofs.YtfcomjinaokeaaaGreatDoor.Ext
open Classical

/-- Is a byte among those of s? -/
def hasB (s : ByteArray) (c : Nat) : Bool := decide (∃ i, i < s.size ∧ by_ s i = c)
theorem has_no {s : ByteArray} {c : Nat} (h : hasB s c = false) (i : Nat) (hi : i < s.size) : by_ s i ≠ c := fun e => of_decide_eq_false h ⟨i, hi, e⟩


/-- The levels of a string. -/
def levels (s : ByteArray) : List ByteArray := (pieces 47 (toL s)).map mkB
theorem levels_length (s : ByteArray) : (levels s).length = (toL s).count 47 + 1 := by unfold levels; rw [List.length_map, pieces_length]
theorem levels_split (s : ByteArray) : splitL 47 s = levels s := splitL_pieces 47 s
theorem extract_mk (s : ByteArray) (a b : Nat) : s.extract a b = mkB (((toL s).take b).drop a) := by rw [← toL_extract, mk_toL]
theorem one_sign {x : ByteArray} {c : Nat} (hc : c < 256) : toL x = [UInt8.ofNat c] ↔ x.size = 1 ∧ by_ x 0 = c := by
  constructor
  · intro h
    have := toL_len x
    rw [h] at this
    refine ⟨this.symm, ?_⟩
    rw [by_toL, h]
    show (UInt8.ofNat c).toNat = c
    rw [UInt8.toNat_ofNat']
    omega
  · rintro ⟨h1, h2⟩
    obtain ⟨b, hb, e⟩ := toL_at (s := x) (i := 0) (by omega)
    have hl := toL_len x
    rw [h1] at hl
    match h : toL x, hl with
    | [y], _ =>
      rw [h] at hb
      have : y = b := Option.some.inj hb
      rw [this, u8_eq (e.trans h2) hc]
theorem goodL_eq (xs : List ByteArray) : goodL xs = decide (∀ i, i < xs.length → (hasB (xs.getD i ByteArray.empty) 43 = true → toL (xs.getD i ByteArray.empty) = [43]) ∧ (hasB (xs.getD i ByteArray.empty) 35 = true → toL (xs.getD i ByteArray.empty) = [35] ∧ i + 1 = xs.length)) := by
  refine decide_eq_decide.2 ⟨fun h i hi => ⟨fun hh => ?_, fun hh => ?_⟩, fun h i hi j hj => ⟨fun e => ?_, fun e => ?_⟩⟩
  · obtain ⟨j, hj, e⟩ := of_decide_eq_true hh
    have := (h i hi j hj).1 e
    exact (one_sign (c := 43) (by omega)).2 ⟨this, by rw [← e]; congr 1; omega⟩
  · obtain ⟨j, hj, e⟩ := of_decide_eq_true hh
    have := (h i hi j hj).2 e
    exact ⟨(one_sign (c := 35) (by omega)).2 ⟨this.1, by rw [← e]; congr 1; omega⟩, this.2⟩
  · exact ((one_sign (c := 43) (by omega)).1 ((h i hi).1 (decide_eq_true ⟨j, hj, e⟩))).1
  · have := (h i hi).2 (decide_eq_true ⟨j, hj, e⟩)
    exact ⟨((one_sign (c := 35) (by omega)).1 this.1).1, this.2⟩
def okAt (xs : List ByteArray) (i : Nat) : Prop := (hasB (xs.getD i ByteArray.empty) 43 = true → toL (xs.getD i ByteArray.empty) = [43]) ∧ (hasB (xs.getD i ByteArray.empty) 35 = true → toL (xs.getD i ByteArray.empty) = [35] ∧ i + 1 = xs.length)
instance (xs : List ByteArray) (i : Nat) : Decidable (okAt xs i) := inferInstanceAs (Decidable (_ ∧ _))
theorem levels_size (s x : ByteArray) (h : x ∈ levels s) : x.size ≤ s.size := splitL_size 47 s x (by rw [levels_split]; exact h)
theorem topic_name (s : ByteArray) (hs : s.size ≤ 9223372036854775807) : topic_Name.f s = some (nameB s) := by unfold topic_Name.f; rw [if_pos hs]
theorem topic_valid (s : ByteArray) (hs : s.size ≤ 9223372036854775807) : topic_Valid.f s = some (validB s) := by unfold topic_Valid.f; rw [if_pos hs]
theorem topic_filter (s : ByteArray) (hs : s.size ≤ 9223372036854775807) : topic_Filter.f s = some (filterB s) := by unfold topic_Filter.f; rw [if_pos hs]
theorem topic_levels (s : ByteArray) (hs : s.size < 4294967281) : topic_Levels.f s = some (levels s) := by
  unfold topic_Levels.f strings_Split.f
  rw [splitF_eq 47 s hs]
  rfl
end Go.Proofs.YtfcomjinaokeaaaGreatDoor.Pure
