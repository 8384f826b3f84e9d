
/- Words of levels: escapes, and back; the program's and the specification's. -/
import Derived.Test.YtfcomjinaokeaaaGreatDoorPureJ
-- needs: mapping_word mapping_Pattern_1 mapping_level brokerref45_Word brokerref45_level
namespace Go.Proofs.YtfcomjinaokeaaaGreatDoor.Pure
open Go.RowKit Go.Proofs.YtfcomjinaokeaaaGreatDoor.P Go.Proofs.YtfcomjinaokeaaaGreatDoorW.PrintWords Go.Proofs.YtfcomjinaokeaaaGreatDoorW.PrintLast Go.Proofs.YtfcomjinaokeaaaGreatDoor.Ext

/-! ### lists of bytes -/
def escB (b : UInt8) : List UInt8 := if b = 46 then [37, 112] else if b = 37 then [37, 37] else [b]
def esc (l : List UInt8) : List UInt8 := l.flatMap escB
theorem esc_cons (b : UInt8) (l : List UInt8) : esc (b :: l) = escB b ++ esc l := rfl
theorem esc_append (a b : List UInt8) : esc (a ++ b) = esc a ++ esc b := List.flatMap_append
theorem escB_len (b : UInt8) : (escB b).length ≤ 2 := by
  unfold escB
  repeat' split
  all_goals simp
theorem esc_len : ∀ l : List UInt8, (esc l).length ≤ 2 * l.length
  | [] => Nat.le_refl _
  | b :: l => by
    have h1 := esc_len l
    have h2 := escB_len b
    rw [esc_cons, List.length_append, List.length_cons]
    omega
theorem esc_repl : ∀ l : List UInt8, replL 46 [37, 112] (replL 37 [37, 37] l) = esc l
  | [] => rfl
  | b :: l => by
    rw [replL_cons, replL_append, esc_repl l, esc_cons]
    congr 1
    unfold escB
    by_cases h : b = 37
    · subst h
      rfl
    · rw [if_neg h]
      show replL 46 [37, 112] [b] = _
      unfold replL
      rw [List.flatMap_cons, List.flatMap_nil, List.append_nil]
def wordL (l : List UInt8) : List UInt8 := if l = [] then [37, 101] else if l = [42] then [37, 97] else esc l
/-- What a text of escapes stands for. -/
def decD : List UInt8 → Option (List UInt8)
  | [] => some []
  | [b] => if b = 37 then none else some [b]
  | b :: c :: r => if b = 37 then (if c = 37 then (decD r).map (37 :: ·) else if c = 112 then (decD r).map (46 :: ·) else none) else (decD (c :: r)).map (b :: ·)
theorem decD_plain (b : UInt8) (r : List UInt8) (h : b ≠ 37) : decD (b :: r) = (decD r).map (b :: ·) := by
  cases r with
  | nil =>
    unfold decD
    rw [if_neg h]
    rfl
  | cons c r =>
    conv => lhs; unfold decD
    rw [if_neg h]
theorem decD_esc : ∀ l : List UInt8, decD (esc l) = some l
  | [] => rfl
  | b :: l => by
    have ih := decD_esc l
    rw [esc_cons]
    unfold escB
    by_cases h : b = 46
    · subst h
      show decD (37 :: 112 :: esc l) = _
      unfold decD
      rw [if_pos rfl, if_neg (by decide), if_pos rfl, ih]
      rfl
    · rw [if_neg h]
      by_cases h2 : b = 37
      · subst h2
        show decD (37 :: 37 :: esc l) = _
        unfold decD
        rw [if_pos rfl, if_pos rfl, ih]
        rfl
      · rw [if_neg h2]
        show decD (b :: esc l) = _
        rw [decD_plain b _ h2, ih]
        rfl
theorem esc_nil {l : List UInt8} (h : esc l = []) : l = [] := by
  cases l with
  | nil => rfl
  | cons b l =>
    rw [esc_cons] at h
    have := (List.append_eq_nil_iff.1 h).1
    unfold escB at this
    repeat' split at this
    all_goals cases this
/-- Behind a sign of escape stands a sign of escape or a p. -/
theorem esc_ne (l : List UInt8) (c : UInt8) (h1 : c ≠ 37) (h2 : c ≠ 112) : esc l ≠ [37, c] := by
  intro h
  cases l with
  | nil => cases h
  | cons b l =>
    rw [esc_cons] at h
    unfold escB at h
    split at h
    · injection h with _ h
      injection h with h _
      exact h2 h.symm
    · split at h
      · injection h with _ h
        injection h with h _
        exact h1 h.symm
      · rename_i hb
        injection h with h _
        exact hb h
def decL (w : List UInt8) : Option (List UInt8) := if w = [37, 101] then some [] else if w = [37, 97] then some [42] else decD w
theorem decL_word (l : List UInt8) : decL (wordL l) = some l := by
  unfold wordL
  by_cases h : l = []
  · rw [if_pos h, h]
    rfl
  · rw [if_neg h]
    by_cases h2 : l = [42]
    · rw [if_pos h2, h2]
      rfl
    · rw [if_neg h2]
      unfold decL
      rw [if_neg (esc_ne l 101 (by decide) (by decide)), if_neg (esc_ne l 97 (by decide) (by decide)), decD_esc]
theorem word_inj {a b : List UInt8} (h : wordL a = wordL b) : a = b := by
  have := congrArg decL h
  rw [decL_word, decL_word] at this
  exact Option.some.inj this
theorem escB_mem {b c : UInt8} (h : c ∈ escB b) : c = 37 ∨ c = 112 ∨ (c = b ∧ b ≠ 46) := by
  unfold escB at h
  split at h
  · rcases List.mem_cons.1 h with h | h
    · exact .inl h
    · exact .inr (.inl (List.mem_singleton.1 h))
  · rename_i h46
    split at h
    · rcases List.mem_cons.1 h with h | h
      · exact .inl h
      · exact .inl (List.mem_singleton.1 h)
    · exact .inr (.inr ⟨List.mem_singleton.1 h, h46⟩)
theorem esc_mem {l : List UInt8} {c : UInt8} (h : c ∈ esc l) : c = 37 ∨ c = 112 ∨ (c ∈ l ∧ c ≠ 46) := by
  unfold esc at h
  obtain ⟨b, hb, hc⟩ := List.mem_flatMap.1 h
  rcases escB_mem hc with h | h | ⟨rfl, h⟩
  · exact .inl h
  · exact .inr (.inl h)
  · exact .inr (.inr ⟨hb, h⟩)
/-- No word holds a point. -/
theorem word_no46 (l : List UInt8) : (46 : UInt8) ∉ wordL l := by
  unfold wordL
  repeat' split
  · decide
  · decide
  · intro h
    rcases esc_mem h with h | h | h
    · cases h
    · cases h
    · exact h.2 rfl
theorem word_len (l : List UInt8) : (wordL l).length ≤ 2 * l.length + 2 := by
  unfold wordL
  repeat' split
  · simp
  · simp
  · have := esc_len l
    omega
theorem word_ne (l : List UInt8) : wordL l ≠ [] := by
  unfold wordL
  repeat' split
  · simp
  · simp
  · rename_i h _
    exact fun e => h (esc_nil e)
/-- A word is the sign of one wildcard only where the level is. -/
theorem word_42 (l : List UInt8) : wordL l ≠ [42] := by
  unfold wordL
  repeat' split
  · simp
  · simp
  · rename_i h1 h2
    intro h
    have := decD_esc l
    rw [h] at this
    exact h2 (Option.some.inj this).symm
theorem word_35 {l : List UInt8} (h : wordL l = [35]) : l = [35] := by
  have := decL_word l
  rw [h] at this
  exact (Option.some.inj this).symm
end Go.Proofs.YtfcomjinaokeaaaGreatDoor.Pure
