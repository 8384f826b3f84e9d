/- Texts joined: PureJ PureAw PureWd PureWe PureWf PureWg PureWh PureWr PureWk PureWl PureWm PureWn PureAll. -/
import Derived.Test.YtegcobkhejpmkaaDoorPx20
import Derived.Test.YtegcobkhejpmkaaDoorPureM
import Derived.Test.YtegcobkhejpmkaaDoorPx13
import Derived.Test.YtegcobkhejpmkaaDoorStr
import Derived.Test.YtegcobkhejpmkaaDoorPx11
import Derived.Test.YtegcobkhejpmkaaDoorPx27
import Derived.Test.YtegcobkhejpmkaaDoorPx31
import Derived.Test.YtegcobkhejpmkaaDoorPx7
import Derived.Test.YtegcobkhejpmkaaDoorPx10
import Derived.Test.YtegcobkhejpmkaaDoorPx28
import Derived.Test.YtegcobkhejpmkaaDoorPx29
import Derived.Test.YtegcobkhejpmkaaDoorPx8
import Derived.Test.YtegcobkhejpmkaaDoorPx9
import Derived.Test.YtegcobkhejpmkaaDoorPureR
import Derived.Test.YtegcobkhejpmkaaDoorPx12
import Derived.Test.YtegcobkhejpmkaaDoorPx3
import Derived.Test.YtegcobkhejpmkaaDoorPx32
import Derived.Test.YtegcobkhejpmkaaDoorPx14
import Derived.Test.YtegcobkhejpmkaaDoorPx1
import Derived.Test.YtegcobkhejpmkaaDoorPx15
import Derived.Test.YtegcobkhejpmkaaDoorPx16
import Derived.Test.YtegcobkhejpmkaaDoorHandC
import Derived.Test.YtegcobkhejpmkaaDoorPx4
import Derived.Test.YtegcobkhejpmkaaDoorHandA
import Derived.Test.YtegcobkhejpmkaaDoorPx2
import Derived.Test.YtegcobkhejpmkaaDoorPx18
import Derived.Test.YtegcobkhejpmkaaDoorPx19
import Derived.Test.YtegcobkhejpmkaaDoorPx21
import Derived.Test.YtegcobkhejpmkaaDoorHandT
import Derived.Test.YtegcobkhejpmkaaDoorPx23
import Derived.Test.YtegcobkhejpmkaaDoorPx24
import Derived.Test.YtegcobkhejpmkaaDoorPx25
import Derived.Test.YtegcobkhejpmkaaDoorPx26
import Derived.Test.YtegcobkhejpmkaaDoorPx5
import Derived.Test.YtegcobkhejpmkaaDoorPx6
import Derived.Test.YtegcobkhejpmkaaDoorKinds

/- What the printed reference's Join answers. -/
namespace Go.Proofs.YtegcobkhejpmkaaDoor.Pure
open Go.RowKit Go.Proofs.YtegcobkhejpmkaaDoor.P Go.Proofs.YtegcobkhejpmkaaDoorW.PrintWords Go.Proofs.YtegcobkhejpmkaaDoorW.PrintLast Go.Proofs.YtegcobkhejpmkaaDoor.Ext

theorem refjoin_l0 (l : List ByteArray) (hl : l.length ≤ 2048) (hx : ∀ i, i < l.length → (l.getD i ByteArray.empty).size ≤ 4096) : ∀ d, d ≤ l.length →
    Ev (fun k => brokerref01_Join.l0 k l (mkB (Lib.join ((l.take (l.length - d)).map toL) [47])) ((l.length - d : Nat) : Int)) (mkB (Lib.join (l.map toL) [47])) := by
  intro d
  induction d with
  | zero =>
    intro _
    refine ev_succ ?_
    simp only [brokerref01_Join.l0]
    refine ev_neg (by omega) (ev_some ?_)
    rw [Nat.sub_zero, List.take_length]
  | succ d ih =>
    intro hd
    have ih' := ih (by omega)
    have hi : l.length - (d + 1) < l.length := by omega
    have hxi := hx _ hi
    have erd : rdOf ByteArray.empty l ((l.length - (d + 1) : Nat) : Int) = l.getD (l.length - (d + 1)) ByteArray.empty := rfl
    have etk : l.take (l.length - d) = l.take (l.length - (d + 1)) ++ [l.getD (l.length - (d + 1)) ByteArray.empty] := by
      rw [show l.length - d = (l.length - (d + 1)) + 1 by omega, List.take_succ_eq_append_getElem hi, List.getD_eq_getElem?_getD, List.getElem?_eq_getElem hi]
      rfl
    have hlen : (Lib.join ((l.take (l.length - (d + 1))).map toL) [47]).length ≤ 4097 * 2048 := by
      have := joined_len ((l.take (l.length - (d + 1))).map toL) 47 4096 (fun x hxm => by
        obtain ⟨s, hs, rfl⟩ := List.mem_map.1 hxm
        obtain ⟨j, hj⟩ := List.mem_iff_getElem?.1 (List.mem_of_mem_take hs)
        have hjl := (List.getElem?_eq_some_iff.1 hj).1
        have := hx j hjl
        rw [List.getD_eq_getElem?_getD, hj] at this
        rw [toL_len]
        exact this)
      rw [List.length_map, List.length_take] at this
      refine Nat.le_trans this (Nat.mul_le_mul_left _ (by omega))
    refine ev_succ ?_
    simp only [brokerref01_Join.l0]
    refine ev_pos (by omega) ?_
    rw [erd, w64 (by omega) (by omega), show (((l.length - (d + 1) : Nat) : Int) + 1) = ((l.length - d : Nat) : Int) by omega]
    rw [etk, List.map_append] at ih'
    by_cases h0 : 0 < l.length - (d + 1)
    · have hne : (l.take (l.length - (d + 1))).map toL ≠ [] := by
        intro h
        have := congrArg List.length h
        rw [List.length_map, List.length_take] at this
        simp at this
        omega
      refine ev_pos (by omega) (ev_pos (by rw [size_mk]; omega) (ev_pos (by omega) (ev_pos ?_ ?_)))
      · rw [append_eq, size_mk, List.length_append, toL_mk, toL_len]
        show _ + 1 + _ ≤ _
        omega
      · have e : (mkB (Lib.join ((l.take (l.length - (d + 1))).map toL) [47]) ++ (⟨#[47]⟩ : ByteArray)) ++ l.getD (l.length - (d + 1)) ByteArray.empty = mkB (Lib.join ((l.take (l.length - (d + 1))).map toL ++ [l.getD (l.length - (d + 1)) ByteArray.empty].map toL) [47]) := by
          rw [show [l.getD (l.length - (d + 1)) ByteArray.empty].map toL = [toL (l.getD (l.length - (d + 1)) ByteArray.empty)] from rfl, join_snoc _ _ _ hne, append_eq, append_eq, toL_mk, toL_mk]
          congr 1
          show (_ ++ [47]) ++ _ = _
          simp
        rw [e]
        exact ih'
    · have hz : l.length - (d + 1) = 0 := by omega
      refine ev_neg (by omega) (ev_pos (by omega) (ev_pos ?_ ?_))
      · rw [size_mk]; omega
      · have e : mkB (Lib.join ((l.take (l.length - (d + 1))).map toL) [47]) ++ l.getD (l.length - (d + 1)) ByteArray.empty = mkB (Lib.join ((l.take (l.length - (d + 1))).map toL ++ [l.getD (l.length - (d + 1)) ByteArray.empty].map toL) [47]) := by
          rw [hz, List.take_zero, append_eq, toL_mk]
          congr 1
          show Lib.join [] [47] ++ _ = Lib.join ([] ++ [toL _]) [47]
          rw [Lib.join_nil, List.nil_append, List.nil_append, Lib.join_one]
        rw [e]
        exact ih'
theorem refjoin_ev (l : List ByteArray) (hl : l.length ≤ 2048) (hx : ∀ i, i < l.length → (l.getD i ByteArray.empty).size ≤ 4096) : Ev (fun k => brokerref01_Join.f k l) (mkB (Lib.join (l.map toL) [47])) := by
  have := refjoin_l0 l hl hx l.length (Nat.le_refl _)
  rw [Nat.sub_self, List.take_zero] at this
  simp only [brokerref01_Join.f]
  exact this
end Go.Proofs.YtegcobkhejpmkaaDoor.Pure

/- The examples that every statement of the layer holds. -/
-- needs: brokerlaw45_awake
namespace Go.Proofs.YtegcobkhejpmkaaDoor.Pure
open Go.RowKit Go.Proofs.YtegcobkhejpmkaaDoor.P Go.Proofs.YtegcobkhejpmkaaDoorW.PrintWords Go.Proofs.YtegcobkhejpmkaaDoorW.PrintLast Go.Proofs.YtegcobkhejpmkaaDoor.Ext
theorem awake_ev : Ev (fun k => brokerlaw45_awake.f k) true := by
  refine Ev.of (k := 200) ?_ (by decide +kernel)
  intro k
  exact brokerlaw45_awake.mono k
end Go.Proofs.YtegcobkhejpmkaaDoor.Pure

/- Words of levels: escapes, and back; the program's and the specification's. -/
-- needs: mapping_word mapping_Pattern_1 mapping_level brokerref45_Word brokerref45_level
namespace Go.Proofs.YtegcobkhejpmkaaDoor.Pure
open Go.RowKit Go.Proofs.YtegcobkhejpmkaaDoor.P Go.Proofs.YtegcobkhejpmkaaDoorW.PrintWords Go.Proofs.YtegcobkhejpmkaaDoorW.PrintLast Go.Proofs.YtegcobkhejpmkaaDoor.Ext

/-! ### lists of bytes -/
def escB (b : UInt8) : List UInt8 := if b = 46 then [37, 112] else if b = 37 then [37, 37] else [b]
def esc (l : List UInt8) : List UInt8 := l.flatMap escB
theorem esc_cons (b : UInt8) (l : List UInt8) : esc (b :: l) = escB b ++ esc l := rfl
theorem esc_append (a b : List UInt8) : esc (a ++ b) = esc a ++ esc b := List.flatMap_append
theorem escB_len (b : UInt8) : (escB b).length ≤ 2 := by
  unfold escB
  repeat' split
  all_goals simp
theorem esc_len : ∀ l : List UInt8, (esc l).length ≤ 2 * l.length
  | [] => Nat.le_refl _
  | b :: l => by
    have h1 := esc_len l
    have h2 := escB_len b
    rw [esc_cons, List.length_append, List.length_cons]
    omega
theorem esc_repl : ∀ l : List UInt8, replL 46 [37, 112] (replL 37 [37, 37] l) = esc l
  | [] => rfl
  | b :: l => by
    rw [replL_cons, replL_append, esc_repl l, esc_cons]
    congr 1
    unfold escB
    by_cases h : b = 37
    · subst h
      rfl
    · rw [if_neg h]
      show replL 46 [37, 112] [b] = _
      unfold replL
      rw [List.flatMap_cons, List.flatMap_nil, List.append_nil]
def wordL (l : List UInt8) : List UInt8 := if l = [] then [37, 101] else if l = [42] then [37, 97] else esc l
/-- What a text of escapes stands for. -/
def decD : List UInt8 → Option (List UInt8)
  | [] => some []
  | [b] => if b = 37 then none else some [b]
  | b :: c :: r => if b = 37 then (if c = 37 then (decD r).map (37 :: ·) else if c = 112 then (decD r).map (46 :: ·) else none) else (decD (c :: r)).map (b :: ·)
theorem decD_plain (b : UInt8) (r : List UInt8) (h : b ≠ 37) : decD (b :: r) = (decD r).map (b :: ·) := by
  cases r with
  | nil =>
    unfold decD
    rw [if_neg h]
    rfl
  | cons c r =>
    conv => lhs; unfold decD
    rw [if_neg h]
theorem decD_esc : ∀ l : List UInt8, decD (esc l) = some l
  | [] => rfl
  | b :: l => by
    have ih := decD_esc l
    rw [esc_cons]
    unfold escB
    by_cases h : b = 46
    · subst h
      show decD (37 :: 112 :: esc l) = _
      unfold decD
      rw [if_pos rfl, if_neg (by decide), if_pos rfl, ih]
      rfl
    · rw [if_neg h]
      by_cases h2 : b = 37
      · subst h2
        show decD (37 :: 37 :: esc l) = _
        unfold decD
        rw [if_pos rfl, if_pos rfl, ih]
        rfl
      · rw [if_neg h2]
        show decD (b :: esc l) = _
        rw [decD_plain b _ h2, ih]
        rfl
theorem esc_nil {l : List UInt8} (h : esc l = []) : l = [] := by
  cases l with
  | nil => rfl
  | cons b l =>
    rw [esc_cons] at h
    have := (List.append_eq_nil_iff.1 h).1
    unfold escB at this
    repeat' split at this
    all_goals cases this
/-- Behind a sign of escape stands a sign of escape or a p. -/
theorem esc_ne (l : List UInt8) (c : UInt8) (h1 : c ≠ 37) (h2 : c ≠ 112) : esc l ≠ [37, c] := by
  intro h
  cases l with
  | nil => cases h
  | cons b l =>
    rw [esc_cons] at h
    unfold escB at h
    split at h
    · injection h with _ h
      injection h with h _
      exact h2 h.symm
    · split at h
      · injection h with _ h
        injection h with h _
        exact h1 h.symm
      · rename_i hb
        injection h with h _
        exact hb h
def decL (w : List UInt8) : Option (List UInt8) := if w = [37, 101] then some [] else if w = [37, 97] then some [42] else decD w
theorem decL_word (l : List UInt8) : decL (wordL l) = some l := by
  unfold wordL
  by_cases h : l = []
  · rw [if_pos h, h]
    rfl
  · rw [if_neg h]
    by_cases h2 : l = [42]
    · rw [if_pos h2, h2]
      rfl
    · rw [if_neg h2]
      unfold decL
      rw [if_neg (esc_ne l 101 (by decide) (by decide)), if_neg (esc_ne l 97 (by decide) (by decide)), decD_esc]
theorem word_inj {a b : List UInt8} (h : wordL a = wordL b) : a = b := by
  have := congrArg decL h
  rw [decL_word, decL_word] at this
  exact Option.some.inj this
theorem escB_mem {b c : UInt8} (h : c ∈ escB b) : c = 37 ∨ c = 112 ∨ (c = b ∧ b ≠ 46) := by
  unfold escB at h
  split at h
  · rcases List.mem_cons.1 h with h | h
    · exact .inl h
    · exact .inr (.inl (List.mem_singleton.1 h))
  · rename_i h46
    split at h
    · rcases List.mem_cons.1 h with h | h
      · exact .inl h
      · exact .inl (List.mem_singleton.1 h)
    · exact .inr (.inr ⟨List.mem_singleton.1 h, h46⟩)
theorem esc_mem {l : List UInt8} {c : UInt8} (h : c ∈ esc l) : c = 37 ∨ c = 112 ∨ (c ∈ l ∧ c ≠ 46) := by
  unfold esc at h
  obtain ⟨b, hb, hc⟩ := List.mem_flatMap.1 h
  rcases escB_mem hc with h | h | ⟨rfl, h⟩
  · exact .inl h
  · exact .inr (.inl h)
  · exact .inr (.inr ⟨hb, h⟩)
/-- No word holds a point. -/
theorem word_no46 (l : List UInt8) : (46 : UInt8) ∉ wordL l := by
  unfold wordL
  repeat' split
  · decide
  · decide
  · intro h
    rcases esc_mem h with h | h | h
    · cases h
    · cases h
    · exact h.2 rfl
theorem word_len (l : List UInt8) : (wordL l).length ≤ 2 * l.length + 2 := by
  unfold wordL
  repeat' split
  · simp
  · simp
  · have := esc_len l
    omega
theorem word_ne (l : List UInt8) : wordL l ≠ [] := by
  unfold wordL
  repeat' split
  · simp
  · simp
  · rename_i h _
    exact fun e => h (esc_nil e)
/-- A word is the sign of one wildcard only where the level is. -/
theorem word_42 (l : List UInt8) : wordL l ≠ [42] := by
  unfold wordL
  repeat' split
  · simp
  · simp
  · rename_i h1 h2
    intro h
    have := decD_esc l
    rw [h] at this
    exact h2 (Option.some.inj this).symm
theorem word_35 {l : List UInt8} (h : wordL l = [35]) : l = [35] := by
  have := decL_word l
  rw [h] at this
  exact (Option.some.inj this).symm
end Go.Proofs.YtegcobkhejpmkaaDoor.Pure

/- What the printed words, patterns and keys answer. -/
-- needs: mapping_word mapping_Pattern_1 mapping_level brokerref45_Word brokerref45_level brokerref45_points mapping_joined mapping_joined2 mapping_Key mapping_Pattern brokerref45_Key brokerref45_Pattern
namespace Go.Proofs.YtegcobkhejpmkaaDoor.Pure
open Go.RowKit Go.Proofs.YtegcobkhejpmkaaDoor.P Go.Proofs.YtegcobkhejpmkaaDoorW.PrintWords Go.Proofs.YtegcobkhejpmkaaDoorW.PrintLast Go.Proofs.YtegcobkhejpmkaaDoor.Ext

theorem refpoints_l0 (l : List ByteArray) (hl : l.length ≤ 2048) (hx : ∀ i, i < l.length → (l.getD i ByteArray.empty).size ≤ 4096) : ∀ d, d ≤ l.length →
    Ev (fun k => brokerref45_points.l0 k l (mkB (Lib.join ((l.take (l.length - d)).map toL) [46])) ((l.length - d : Nat) : Int)) (mkB (Lib.join (l.map toL) [46])) := by
  intro d
  induction d with
  | zero =>
    intro _
    refine ev_succ ?_
    simp only [brokerref45_points.l0]
    refine ev_neg (by omega) (ev_some ?_)
    rw [Nat.sub_zero, List.take_length]
  | succ d ih =>
    intro hd
    have ih' := ih (by omega)
    have hi : l.length - (d + 1) < l.length := by omega
    have hxi := hx _ hi
    have erd : rdOf ByteArray.empty l ((l.length - (d + 1) : Nat) : Int) = l.getD (l.length - (d + 1)) ByteArray.empty := rfl
    have etk : l.take (l.length - d) = l.take (l.length - (d + 1)) ++ [l.getD (l.length - (d + 1)) ByteArray.empty] := by
      rw [show l.length - d = (l.length - (d + 1)) + 1 by omega, List.take_succ_eq_append_getElem hi, List.getD_eq_getElem?_getD, List.getElem?_eq_getElem hi]
      rfl
    have hlen : (Lib.join ((l.take (l.length - (d + 1))).map toL) [46]).length ≤ 4097 * 2048 := by
      have := joined_len ((l.take (l.length - (d + 1))).map toL) 46 4096 (fun x hxm => by
        obtain ⟨s, hs, rfl⟩ := List.mem_map.1 hxm
        obtain ⟨j, hj⟩ := List.mem_iff_getElem?.1 (List.mem_of_mem_take hs)
        have hjl := (List.getElem?_eq_some_iff.1 hj).1
        have := hx j hjl
        rw [List.getD_eq_getElem?_getD, hj] at this
        rw [toL_len]
        exact this)
      rw [List.length_map, List.length_take] at this
      refine Nat.le_trans this (Nat.mul_le_mul_left _ (by omega))
    refine ev_succ ?_
    simp only [brokerref45_points.l0]
    refine ev_pos (by omega) ?_
    rw [erd, w64 (by omega) (by omega), show (((l.length - (d + 1) : Nat) : Int) + 1) = ((l.length - d : Nat) : Int) by omega]
    rw [etk, List.map_append] at ih'
    by_cases h0 : 0 < l.length - (d + 1)
    · have hne : (l.take (l.length - (d + 1))).map toL ≠ [] := by
        intro h
        have := congrArg List.length h
        rw [List.length_map, List.length_take] at this
        simp at this
        omega
      refine ev_pos (by omega) (ev_pos (by rw [size_mk]; omega) (ev_pos (by omega) (ev_pos ?_ ?_)))
      · rw [append_eq, size_mk, List.length_append, toL_mk, toL_len]
        show _ + 1 + _ ≤ _
        omega
      · have e : (mkB (Lib.join ((l.take (l.length - (d + 1))).map toL) [46]) ++ (⟨#[46]⟩ : ByteArray)) ++ l.getD (l.length - (d + 1)) ByteArray.empty = mkB (Lib.join ((l.take (l.length - (d + 1))).map toL ++ [l.getD (l.length - (d + 1)) ByteArray.empty].map toL) [46]) := by
          rw [show [l.getD (l.length - (d + 1)) ByteArray.empty].map toL = [toL (l.getD (l.length - (d + 1)) ByteArray.empty)] from rfl, join_snoc _ _ _ hne, append_eq, append_eq, toL_mk, toL_mk]
          congr 1
          show (_ ++ [46]) ++ _ = _
          simp
        rw [e]
        exact ih'
    · have hz : l.length - (d + 1) = 0 := by omega
      refine ev_neg (by omega) (ev_pos (by omega) (ev_pos ?_ ?_))
      · rw [size_mk]; omega
      · have e : mkB (Lib.join ((l.take (l.length - (d + 1))).map toL) [46]) ++ l.getD (l.length - (d + 1)) ByteArray.empty = mkB (Lib.join ((l.take (l.length - (d + 1))).map toL ++ [l.getD (l.length - (d + 1)) ByteArray.empty].map toL) [46]) := by
          rw [hz, List.take_zero, append_eq, toL_mk]
          congr 1
          show Lib.join [] [46] ++ _ = Lib.join ([] ++ [toL _]) [46]
          rw [Lib.join_nil, List.nil_append, List.nil_append, Lib.join_one]
        rw [e]
        exact ih'
theorem refpoints_ev (l : List ByteArray) (hl : l.length ≤ 2048) (hx : ∀ i, i < l.length → (l.getD i ByteArray.empty).size ≤ 4096) : Ev (fun k => brokerref45_points.f k l) (mkB (Lib.join (l.map toL) [46])) := by
  have := refpoints_l0 l hl hx l.length (Nat.le_refl _)
  rw [Nat.sub_self, List.take_zero] at this
  simp only [brokerref45_points.f]
  exact this

/-! ### words -/
def nums (l : List UInt8) : List Int := l.map fun b => (b.toNat : Int)
theorem nums_append (a b : List UInt8) : nums (a ++ b) = nums a ++ nums b := List.map_append
theorem nums_len (l : List UInt8) : (nums l).length = l.length := List.length_map ..
theorem strOf_nums (l : List UInt8) : strOfNums (nums l) = mkB l := by
  unfold strOfNums nums mkB
  rw [List.map_map]
  have : (l.map ((fun n : Int => UInt8.ofNat n.toNat) ∘ fun b => (b.toNat : Int))) = l := by
    conv => rhs; rw [← List.map_id l]
    refine List.map_congr_left (fun b _ => ?_)
    show UInt8.ofNat ((b.toNat : Int)).toNat = b
    rw [Int.toNat_natCast]
    exact UInt8.ofNat_toNat
  rw [this]
theorem at_drop {s : BA} {i : Nat} {b : UInt8} {r : List UInt8} (h : (toL s).drop i = b :: r) : i < s.size ∧ bt s (i : Int) = (b.toNat : Int) ∧ (toL s).drop (i + 1) = r := by
  obtain ⟨h1, h2, h3⟩ := drop_cons (0 : UInt8) h
  rw [toL_len] at h1
  refine ⟨h1, ?_, h3⟩
  obtain ⟨c, hc, ec⟩ := toL_at h1
  rw [bt_by, ← ec]
  rw [List.getD_eq_getElem?_getD, hc] at h2
  rw [← h2]
  rfl
theorem at_end {s : BA} {i : Nat} (h : (toL s).drop i = []) : s.size ≤ i := by
  have := drop_nil h
  rw [toL_len] at this
  exact this
theorem u8n {b : UInt8} {n : Nat} (hn : n < 256) : (b.toNat : Int) = (n : Int) ↔ b = UInt8.ofNat n := by
  constructor
  · intro h
    exact u8_eq (by omega) hn
  · intro h
    subst h
    rw [UInt8.toNat_ofNat']
    omega
theorem word_val (s : BA) (hs : s.size ≤ 400000) : mapping_word.f s = some (mkB (wordL (toL s))) := by
  unfold mapping_word.f wordL
  rw [toList_toL]
  by_cases h : toL s = []
  · rw [if_pos h, if_pos h]
    rfl
  · rw [if_neg h, if_neg h]
    by_cases h2 : toL s = [42]
    · rw [if_pos h2, if_pos h2]
      rfl
    · rw [if_neg h2, if_neg h2]
      have e1 : strings_ReplaceAll.f s (⟨#[37]⟩ : ByteArray) (⟨#[37, 37]⟩ : ByteArray) = some (mkB (replL 37 [37, 37] (toL s))) := by
        unfold strings_ReplaceAll.f replF
        rw [if_pos (show (⟨#[37]⟩ : ByteArray).size = 1 from rfl), if_pos (by omega), if_pos (show (⟨#[37, 37]⟩ : ByteArray).size = 2 from rfl)]
        rfl
      have hl : (replL 37 [37, 37] (toL s)).length ≤ 1000000 := by
        have : ∀ l : List UInt8, (replL 37 [37, 37] l).length ≤ 2 * l.length := by
          intro l
          induction l with
          | nil => exact Nat.le_refl _
          | cons b l ih =>
            unfold replL at ih ⊢
            rw [List.flatMap_cons, List.length_append, List.length_cons]
            split
            · show 2 + _ ≤ _
              omega
            · show 1 + _ ≤ _
              omega
        have := this (toL s)
        rw [toL_len] at this
        omega
      have e2 : strings_ReplaceAll.f (mkB (replL 37 [37, 37] (toL s))) (⟨#[46]⟩ : ByteArray) (⟨#[37, 112]⟩ : ByteArray) = some (mkB (replL 46 [37, 112] (replL 37 [37, 37] (toL s)))) := by
        unfold strings_ReplaceAll.f replF
        rw [if_pos (show (⟨#[46]⟩ : ByteArray).size = 1 from rfl), if_pos (by rw [size_mk]; omega), if_pos (show (⟨#[37, 112]⟩ : ByteArray).size = 2 from rfl)]
        rfl
      rw [e1, Option.bind_some, e2, Option.bind_some, esc_repl]
def patL (l : List UInt8) : List UInt8 := if l = [43] then [42] else if l = [35] then [35] else wordL l
theorem pattern1_val (s : BA) (hs : s.size ≤ 400000) : mapping_Pattern_1.f s = some (mkB (patL (toL s))) := by
  unfold mapping_Pattern_1.f patL
  rw [toList_toL]
  by_cases h : toL s = [43]
  · rw [if_pos h, if_pos h]
    rfl
  · rw [if_neg h, if_neg h]
    by_cases h2 : toL s = [35]
    · rw [if_pos h2, if_pos h2]
      rfl
    · rw [if_neg h2, if_neg h2, word_val s hs, Option.bind_some]
theorem refword_l0 (s : BA) (hs : s.size ≤ 1000000) : ∀ (r : List UInt8) (i : Nat) (p : List UInt8), (toL s).drop i = r → i ≤ s.size → p.length ≤ 2 * i →
    Ev (fun k => brokerref45_Word.l0 k s (nums p) (i : Int)) (mkB (p ++ esc r)) := by
  intro r
  induction r with
  | nil =>
    intro i p h hi hp
    have hz := at_end h
    refine ev_succ ?_
    simp only [brokerref45_Word.l0]
    refine ev_neg (by omega) (ev_some ?_)
    rw [strOf_nums]
    show _ = some (mkB (p ++ []))
    rw [List.append_nil]
  | cons b r ih =>
    intro i p h hi hp
    obtain ⟨h1, h2, h3⟩ := at_drop h
    refine ev_succ ?_
    simp only [brokerref45_Word.l0]
    refine ev_pos (by omega) (ev_pos (by omega) ?_)
    rw [h2, up1 i (by omega)]
    have go : ∀ q : List UInt8, q.length ≤ 2 → escB b = q → Ev (fun k => brokerref45_Word.l0 k s (nums p ++ nums q) ((i + 1 : Nat) : Int)) (mkB (p ++ esc (b :: r))) := by
      intro q hq e
      have := ih (i + 1) (p ++ q) h3 (by omega) (by rw [List.length_append]; omega)
      rw [nums_append, List.append_assoc, ← e, ← esc_cons] at this
      rw [← e]
      exact this
    by_cases c1 : b = 46
    · refine ev_pos (by rw [c1]; rfl) (ev_const rfl (ev_pos ?_ ?_))
      · rw [nums_len]; show _ + 2 < _; omega
      · exact go [37, 112] (Nat.le_refl _) (by rw [c1]; rfl)
    · refine ev_neg (fun h => c1 ((u8n (n := 46) (by decide)).1 h)) ?_
      by_cases c2 : b = 37
      · refine ev_pos (by rw [c2]; rfl) (ev_const rfl (ev_pos ?_ ?_))
        · rw [nums_len]; show _ + 2 < _; omega
        · exact go [37, 37] (Nat.le_refl _) (by rw [c2]; rfl)
      · refine ev_neg (fun h => c2 ((u8n (n := 37) (by decide)).1 h)) (ev_pos ?_ ?_)
        · rw [nums_len]; omega
        · exact go [b] (by show 1 ≤ 2; omega) (by unfold escB; rw [if_neg c1, if_neg c2])
theorem refword_ev (s : BA) (hs : s.size ≤ 1000000) : Ev (fun k => brokerref45_Word.f k s) (mkB (wordL (toL s))) := by
  simp only [brokerref45_Word.f, wordL]
  rw [toList_toL]
  by_cases h : toL s = []
  · rw [if_pos h]
    exact ev_pos h (ev_some rfl)
  · rw [if_neg h]
    refine ev_neg h ?_
    by_cases h2 : toL s = [42]
    · rw [if_pos h2]
      exact ev_pos h2 (ev_some rfl)
    · rw [if_neg h2]
      exact ev_neg h2 (refword_l0 s hs (toL s) 0 [] rfl (Nat.zero_le _) (Nat.zero_le _))
/-! ### levels read back -/
def decOf (o : Option (List UInt8)) : BA × Bool := match o with
  | some q => (mkB q, true)
  | none => (⟨#[]⟩, false)
theorem level_l0 (s : BA) (hs : s.size ≤ 1000000) : ∀ (n : Nat) (r : List UInt8) (i : Nat) (p : List UInt8), r.length ≤ n → (toL s).drop i = r → i ≤ s.size → p.length ≤ i →
    Ev (fun k => mapping_level.l0 k s (nums p) (i : Int)) (decOf ((decD r).map (p ++ ·))) := by
  intro n
  induction n with
  | zero =>
    intro r i p hn h hi hp
    obtain rfl : r = [] := List.eq_nil_of_length_eq_zero (by omega)
    have hz := at_end h
    refine ev_succ ?_
    simp only [mapping_level.l0]
    refine ev_neg (by omega) (ev_some ?_)
    rw [strOf_nums]
    show _ = some (mkB (p ++ []), true)
    rw [List.append_nil]
  | succ n ih =>
    intro r i p hn h hi hp
    cases r with
    | nil =>
      have hz := at_end h
      refine ev_succ ?_
      simp only [mapping_level.l0]
      refine ev_neg (by omega) (ev_some ?_)
      rw [strOf_nums]
      show _ = some (mkB (p ++ []), true)
      rw [List.append_nil]
    | cons b r =>
      obtain ⟨h1, h2, h3⟩ := at_drop h
      rw [List.length_cons] at hn
      refine ev_succ ?_
      simp only [mapping_level.l0]
      refine ev_pos (by omega) (ev_pos (by omega) ?_)
      rw [h2, up1 i (by omega)]
      have mp : ∀ (o : Option (List UInt8)) (c : UInt8), (o.map (c :: ·)).map (p ++ ·) = o.map ((p ++ [c]) ++ ·) := by
        intro o c
        cases o with
        | none => rfl
        | some q => simp
      by_cases c : b = 37
      · refine ev_pos (by rw [c]; rfl) ?_
        subst c
        cases r with
        | nil =>
          have hz := at_end h3
          refine ev_neg (by omega) (ev_succ ?_)
          simp only [mapping_level.j1]
          refine ev_ff (ev_neg (by omega) (ev_some ?_))
          rfl
        | cons c r =>
          obtain ⟨k1, k2, k3⟩ := at_drop h3
          rw [List.length_cons] at hn
          refine ev_pos (by omega) (ev_pos (by omega) ?_)
          rw [k2]
          refine ev_succ ?_
          simp only [mapping_level.j1]
          rw [k2, up1 (i + 1) (by omega)]
          by_cases c1 : c = 37
          · rw [c1]
            refine ev_pos (by rfl) (ev_pos (by rw [nums_len]; omega) ?_)
            have := ih r (i + 2) (p ++ [37]) (by omega) k3 (by omega) (by rw [List.length_append]; show _ + 1 ≤ _; omega)
            rw [nums_append] at this
            have e : decD (37 :: 37 :: r) = (decD r).map (37 :: ·) := by
              conv => lhs; unfold decD
              rfl
            rw [e, mp]
            exact this
          · refine ev_neg (fun h => c1 ((u8n (n := 37) (by decide)).1 (eq_of_beq h))) (ev_pos (by omega) (ev_pos (by omega) ?_))
            by_cases c2 : c = 112
            · rw [c2]
              refine ev_pos (by rfl) (ev_pos (by rw [nums_len]; omega) ?_)
              have := ih r (i + 2) (p ++ [46]) (by omega) k3 (by omega) (by rw [List.length_append]; show _ + 1 ≤ _; omega)
              rw [nums_append] at this
              have e : decD (37 :: 112 :: r) = (decD r).map (46 :: ·) := by
                conv => lhs; unfold decD
                rfl
              rw [e, mp]
              exact this
            · refine ev_neg (fun h => c2 ((u8n (n := 112) (by decide)).1 h)) (ev_some ?_)
              have e : decD (37 :: c :: r) = none := by
                unfold decD
                rw [if_pos rfl, if_neg c1, if_neg c2]
              rw [e]
              rfl
      · refine ev_neg (fun h => c ((u8n (n := 37) (by decide)).1 h)) (ev_pos (by rw [nums_len]; omega) ?_)
        have := ih r (i + 1) (p ++ [b]) (by omega) h3 (by omega) (by rw [List.length_append]; show _ + 1 ≤ _; omega)
        rw [nums_append] at this
        rw [decD_plain b r c, mp]
        exact this
theorem level_ev (s : BA) (hs : s.size ≤ 1000000) : Ev (fun k => mapping_level.f k s) (decOf (decL (toL s))) := by
  simp only [mapping_level.f, decL]
  rw [toList_toL]
  by_cases h : toL s = [37, 101]
  · rw [if_pos h]
    exact ev_pos h (ev_some rfl)
  · rw [if_neg h]
    refine ev_neg h ?_
    by_cases h2 : toL s = [37, 97]
    · rw [if_pos h2]
      exact ev_pos h2 (ev_some rfl)
    · rw [if_neg h2]
      have := level_l0 s hs _ (toL s) 0 [] (Nat.le_refl _) rfl (Nat.zero_le _) (Nat.zero_le _)
      have e : (decD (toL s)).map (([] : List UInt8) ++ ·) = decD (toL s) := by
        cases decD (toL s) <;> rfl
      rw [e] at this
      exact ev_neg h2 this
end Go.Proofs.YtegcobkhejpmkaaDoor.Pure

/- What the printed keys and patterns answer. -/
-- needs: mapping_joined mapping_joined2 mapping_Key mapping_Pattern brokerref45_Key brokerref45_Pattern brokerref45_points brokerref45_Word
namespace Go.Proofs.YtegcobkhejpmkaaDoor.Pure
open Go.RowKit Go.Proofs.YtegcobkhejpmkaaDoor.P Go.Proofs.YtegcobkhejpmkaaDoorW.PrintWords Go.Proofs.YtegcobkhejpmkaaDoorW.PrintLast Go.Proofs.YtegcobkhejpmkaaDoor.Ext

def wordB (x : BA) : BA := mkB (wordL (toL x))
def patB1 (x : BA) : BA := mkB (patL (toL x))
theorem wordB_size {x : BA} (h : x.size ≤ 1500) : (wordB x).size ≤ 4096 := by
  have := word_len (toL x)
  rw [toL_len] at this
  unfold wordB
  rw [size_mk]
  omega
theorem patB1_size {x : BA} (h : x.size ≤ 1500) : (patB1 x).size ≤ 4096 := by
  have := word_len (toL x)
  rw [toL_len] at this
  unfold patB1 patL
  rw [size_mk]
  repeat' split
  · simp
  · simp
  · omega
def dots (l : List BA) : BA := mkB (Lib.join (l.map toL) [46])
theorem dots_val {l : List BA} (hl : l.length ≤ 2048) (hx : ∀ x ∈ l, x.size ≤ 4096) : strings_Join.f l (⟨#[46]⟩ : ByteArray) = some (dots l) := by
  unfold strings_Join.f
  refine joinF_eq l 46 ?_ (by omega)
  have := joined_len (l.map toL) 46 4096 (fun x hxm => by
    obtain ⟨s, hs, rfl⟩ := List.mem_map.1 hxm
    rw [toL_len]
    exact hx s hs)
  rw [List.length_map] at this
  have : 4097 * l.length ≤ 4097 * 2048 := Nat.mul_le_mul_left _ hl
  omega
theorem refdots_ev {l : List BA} (hl : l.length ≤ 2048) (hx : ∀ x ∈ l, x.size ≤ 4096) : Ev (fun k => brokerref45_points.f k l) (dots l) :=
  refpoints_ev l hl (fun i hi => by
    rw [List.getD_eq_getElem?_getD, List.getElem?_eq_getElem hi]
    exact hx _ (List.getElem_mem hi))
/-! ### joined -/
theorem joined_l0 (l : List BA) (hl : l.length ≤ 2048) : ∀ (r acc : List BA) (i : Nat), l.drop i = r → acc.length = i → i ≤ l.length → (∀ x ∈ r, x.size ≤ 1500) → (∀ x ∈ acc, x.size ≤ 4096) →
    Ev (fun k => mapping_joined.l0 k acc l (l.length : Int) (i : Int)) (dots (acc ++ r.map wordB)) := by
  intro r
  induction r with
  | nil =>
    intro acc i h ha hi hx hy
    have hz := drop_nil h
    refine ev_succ ?_
    simp only [mapping_joined.l0]
    refine ev_neg (by omega) (ev_some ?_)
    rw [List.map_nil, List.append_nil, dots_val (by omega) hy]
    rfl
  | cons a r ih =>
    intro acc i h ha hi hx hy
    obtain ⟨h1, h2, h3⟩ := drop_cons ByteArray.empty h
    have ha' := hx a (List.mem_cons_self ..)
    refine ev_succ ?_
    simp only [mapping_joined.l0]
    refine ev_pos (by omega) (ev_pos (by omega) (ev_pos (by omega) ?_))
    rw [rd_get, h2, up1 i (by omega)]
    refine ev_const (word_val a (by omega)) (ev_pos (by omega) ?_)
    have := ih (acc ++ [wordB a]) (i + 1) h3 (by rw [List.length_append, ha]; rfl) (by omega) (fun x hxm => hx x (List.mem_cons_of_mem _ hxm)) (fun x hxm => by
      rcases List.mem_append.1 hxm with h | h
      · exact hy x h
      · rw [List.mem_singleton.1 h]
        exact wordB_size ha')
    rw [List.append_assoc] at this
    exact this
theorem joined_ev (l : List BA) (s : BA) (hl : l.length ≤ 2048) (hx : ∀ x ∈ l, x.size ≤ 1500) : Ev (fun k => mapping_joined.f k l s) (dots (l.map wordB)) := by
  simp only [mapping_joined.f]
  exact joined_l0 l hl l [] 0 rfl rfl (Nat.zero_le _) hx (fun x h => by cases h)
theorem joined2_l0 (l : List BA) (hl : l.length ≤ 2048) : ∀ (r acc : List BA) (i : Nat), l.drop i = r → acc.length = i → i ≤ l.length → (∀ x ∈ r, x.size ≤ 1500) → (∀ x ∈ acc, x.size ≤ 4096) →
    Ev (fun k => mapping_joined2.l0 k acc l (l.length : Int) (i : Int)) (dots (acc ++ r.map patB1)) := by
  intro r
  induction r with
  | nil =>
    intro acc i h ha hi hx hy
    have hz := drop_nil h
    refine ev_succ ?_
    simp only [mapping_joined2.l0]
    refine ev_neg (by omega) (ev_some ?_)
    rw [List.map_nil, List.append_nil, dots_val (by omega) hy]
    rfl
  | cons a r ih =>
    intro acc i h ha hi hx hy
    obtain ⟨h1, h2, h3⟩ := drop_cons ByteArray.empty h
    have ha' := hx a (List.mem_cons_self ..)
    refine ev_succ ?_
    simp only [mapping_joined2.l0]
    refine ev_pos (by omega) (ev_pos (by omega) (ev_pos (by omega) ?_))
    rw [rd_get, h2, up1 i (by omega)]
    refine ev_const (pattern1_val a (by omega)) (ev_pos (by omega) ?_)
    have := ih (acc ++ [patB1 a]) (i + 1) h3 (by rw [List.length_append, ha]; rfl) (by omega) (fun x hxm => hx x (List.mem_cons_of_mem _ hxm)) (fun x hxm => by
      rcases List.mem_append.1 hxm with h | h
      · exact hy x h
      · rw [List.mem_singleton.1 h]
        exact patB1_size ha')
    rw [List.append_assoc] at this
    exact this
theorem joined2_ev (l : List BA) (s : BA) (hl : l.length ≤ 2048) (hx : ∀ x ∈ l, x.size ≤ 1500) : Ev (fun k => mapping_joined2.f k l s) (dots (l.map patB1)) := by
  simp only [mapping_joined2.f]
  exact joined2_l0 l hl l [] 0 rfl rfl (Nat.zero_le _) hx (fun x h => by cases h)
/-! ### Key, Pattern -/
def keyB (s : BA) : BA := if validB s = true then dots ((levels s).map wordB) else ⟨#[]⟩
def patsB (s : BA) : BA × Bool := if filterB s = true then (dots ((levels s).map patB1), true) else (⟨#[]⟩, false)
theorem lev_small {s : BA} (h : s.size ≤ 64) : (levels s).length ≤ 2048 ∧ ∀ x ∈ levels s, x.size ≤ 1500 := by
  have h1 := lev_len h
  refine ⟨by omega, fun x hx => ?_⟩
  have := levels_size s x hx
  omega
theorem key_ev (s : BA) (hs : s.size ≤ 9223372036854775806) : Ev (fun k => mapping_Key.f k s) (keyB s) := by
  simp only [mapping_Key.f, keyB]
  refine ev_const (topic_valid s (by omega)) ?_
  by_cases h : validB s = true
  · have hz := valid_size h
    rw [if_pos h]
    obtain ⟨h1, h2⟩ := lev_small hz
    exact ev_pos h (ev_const (topic_levels s (by omega)) (ev_bind (joined_ev _ _ h1 h2) (ev_some rfl)))
  · rw [if_neg h]
    exact ev_neg h (ev_some rfl)
theorem pattern_ev (s : BA) (hs : s.size ≤ 9223372036854775806) : Ev (fun k => mapping_Pattern.f k s) (patsB s) := by
  simp only [mapping_Pattern.f, patsB]
  refine ev_const (topic_filter s (by omega)) ?_
  by_cases h : filterB s = true
  · have hz := filter_size h
    rw [if_pos h]
    obtain ⟨h1, h2⟩ := lev_small hz
    exact ev_pos h (ev_const (topic_levels s (by omega)) (ev_bind (joined2_ev _ _ h1 h2) (ev_some rfl)))
  · rw [if_neg h]
    exact ev_neg h (ev_some rfl)
/-! ### the specification's -/
theorem refkey_l0 (l : List BA) (hl : l.length ≤ 2048) : ∀ (r acc : List BA) (i : Nat), l.drop i = r → acc.length = i → i ≤ l.length → (∀ x ∈ r, x.size ≤ 1500) → (∀ x ∈ acc, x.size ≤ 4096) →
    Ev (fun k => brokerref45_Key.l0 k l acc (i : Int)) (dots (acc ++ r.map wordB)) := by
  intro r
  induction r with
  | nil =>
    intro acc i h ha hi hx hy
    have hz := drop_nil h
    refine ev_succ ?_
    simp only [brokerref45_Key.l0]
    refine ev_neg (by omega) ?_
    rw [List.map_nil, List.append_nil]
    exact ev_bind (refdots_ev (by omega) hy) (ev_some rfl)
  | cons a r ih =>
    intro acc i h ha hi hx hy
    obtain ⟨h1, h2, h3⟩ := drop_cons ByteArray.empty h
    have ha' := hx a (List.mem_cons_self ..)
    refine ev_succ ?_
    simp only [brokerref45_Key.l0]
    refine ev_pos (by omega) (ev_pos (by omega) ?_)
    rw [rd_get, h2, up1 i (by omega)]
    refine ev_bind (refword_ev a (by omega)) (ev_pos (by omega) ?_)
    have := ih (acc ++ [wordB a]) (i + 1) h3 (by rw [List.length_append, ha]; rfl) (by omega) (fun x hxm => hx x (List.mem_cons_of_mem _ hxm)) (fun x hxm => by
      rcases List.mem_append.1 hxm with h | h
      · exact hy x h
      · rw [List.mem_singleton.1 h]
        exact wordB_size ha')
    rw [List.append_assoc] at this
    exact this
theorem refkey_ev (s : BA) (hs : s.size ≤ 9223372036854775806) : Ev (fun k => brokerref45_Key.f k s) (keyB s) := by
  simp only [brokerref45_Key.f, keyB]
  refine ev_bind (refvalid_ev s hs) ?_
  by_cases h : validB s = true
  · have hz := valid_size h
    rw [if_pos h]
    obtain ⟨h1, h2⟩ := lev_small hz
    exact ev_pos h (ev_bind (lev_ev s (by omega)) (refkey_l0 _ h1 _ [] 0 rfl rfl (Nat.zero_le _) h2 (fun x h => by cases h)))
  · rw [if_neg h]
    exact ev_neg h (ev_some rfl)
theorem refpat_l0 (l : List BA) (hl : l.length ≤ 2048) : ∀ (r acc : List BA) (i : Nat), l.drop i = r → acc.length = i → i ≤ l.length → (∀ x ∈ r, x.size ≤ 1500) → (∀ x ∈ acc, x.size ≤ 4096) →
    Ev (fun k => brokerref45_Pattern.l0 k l acc (i : Int)) (dots (acc ++ r.map patB1), true) := by
  intro r
  induction r with
  | nil =>
    intro acc i h ha hi hx hy
    have hz := drop_nil h
    refine ev_succ ?_
    simp only [brokerref45_Pattern.l0]
    refine ev_neg (by omega) ?_
    rw [List.map_nil, List.append_nil]
    exact ev_bind (refdots_ev (by omega) hy) (ev_some rfl)
  | cons a r ih =>
    intro acc i h ha hi hx hy
    obtain ⟨h1, h2, h3⟩ := drop_cons ByteArray.empty h
    have ha' := hx a (List.mem_cons_self ..)
    refine ev_succ ?_
    simp only [brokerref45_Pattern.l0]
    refine ev_pos (by omega) (ev_pos (by omega) ?_)
    rw [rd_get, h2, up1 i (by omega), toList_toL]
    have := ih (acc ++ [patB1 a]) (i + 1) h3 (by rw [List.length_append, ha]; rfl) (by omega) (fun x hxm => hx x (List.mem_cons_of_mem _ hxm)) (fun x hxm => by
      rcases List.mem_append.1 hxm with h | h
      · exact hy x h
      · rw [List.mem_singleton.1 h]
        exact patB1_size ha')
    rw [List.append_assoc] at this
    by_cases c1 : toL a = [43]
    · refine ev_pos c1 (ev_pos (by omega) ?_)
      have e : patB1 a = (⟨#[42]⟩ : ByteArray) := by
        unfold patB1 patL
        rw [if_pos c1]
        rfl
      rw [e] at this
      rw [List.map_cons, e]
      exact this
    · refine ev_neg c1 ?_
      by_cases c2 : toL a = [35]
      · refine ev_pos c2 (ev_pos (by omega) ?_)
        have e : patB1 a = (⟨#[35]⟩ : ByteArray) := by
          unfold patB1 patL
          rw [if_neg c1, if_pos c2]
          rfl
        rw [e] at this
        rw [List.map_cons, e]
        exact this
      · have e : patB1 a = mkB (wordL (toL a)) := by
          unfold patB1 patL
          rw [if_neg c1, if_neg c2]
        refine ev_neg c2 (ev_bind (refword_ev a (by omega)) (ev_pos (by omega) ?_))
        rw [e] at this
        rw [List.map_cons, e]
        exact this
theorem refpattern_ev (s : BA) (hs : s.size ≤ 9223372036854775806) : Ev (fun k => brokerref45_Pattern.f k s) (patsB s) := by
  simp only [brokerref45_Pattern.f, patsB]
  refine ev_bind (reffilter_all s) ?_
  by_cases h : filterB s = true
  · have hz := filter_size h
    rw [if_pos h]
    obtain ⟨h1, h2⟩ := lev_small hz
    exact ev_pos h (ev_bind (lev_ev s (by omega)) (refpat_l0 _ h1 _ [] 0 rfl rfl (Nat.zero_le _) h2 (fun x h => by cases h)))
  · rw [if_neg h]
    exact ev_neg h (ev_some rfl)
end Go.Proofs.YtegcobkhejpmkaaDoor.Pure

/- What the printed Topic answers: the program's, the specification's; they are the same. -/
-- needs: mapping_level mapping_Topic topic_Join brokerref45_level brokerref45_Topic brokerref45_Word
namespace Go.Proofs.YtegcobkhejpmkaaDoor.Pure
open Go.RowKit Go.Proofs.YtegcobkhejpmkaaDoor.P Go.Proofs.YtegcobkhejpmkaaDoorW.PrintWords Go.Proofs.YtegcobkhejpmkaaDoorW.PrintLast Go.Proofs.YtegcobkhejpmkaaDoor.Ext

theorem decD_len : ∀ (n : Nat) (l q : List UInt8), l.length ≤ n → decD l = some q → q.length ≤ l.length := by
  intro n
  induction n with
  | zero =>
    intro l q hn h
    obtain rfl : l = [] := List.eq_nil_of_length_eq_zero (by omega)
    obtain rfl := Option.some.inj h
    exact Nat.le_refl _
  | succ n ih =>
    intro l q hn h
    cases l with
    | nil =>
      obtain rfl := Option.some.inj h
      exact Nat.le_refl _
    | cons b r =>
      rw [List.length_cons] at hn
      by_cases c : b = 37
      · subst c
        cases r with
        | nil => cases h
        | cons c r =>
          rw [List.length_cons] at hn
          unfold decD at h
          rw [if_pos rfl] at h
          split at h
          · obtain ⟨t, ht, rfl⟩ := Option.map_eq_some_iff.1 h
            have := ih r t (by omega) ht
            simp only [List.length_cons]
            omega
          · split at h
            · obtain ⟨t, ht, rfl⟩ := Option.map_eq_some_iff.1 h
              have := ih r t (by omega) ht
              simp only [List.length_cons]
              omega
            · cases h
      · rw [decD_plain b r c] at h
        obtain ⟨t, ht, rfl⟩ := Option.map_eq_some_iff.1 h
        have := ih r t (by omega) ht
        simp only [List.length_cons]
        omega
theorem decL_len {l q : List UInt8} (h : decL l = some q) : q.length ≤ l.length := by
  unfold decL at h
  split at h
  · obtain rfl := Option.some.inj h
    exact Nat.zero_le _
  · split at h
    · rename_i e
      obtain rfl := Option.some.inj h
      rw [e]
      decide
    · exact decD_len _ _ _ (Nat.le_refl _) h
/-! ### the specification's level -/
def refOf (s : BA) (o : Option (List UInt8)) : BA × Bool := match o with
  | some q => (mkB q, decide (wordL q = toL s))
  | none => (⟨#[]⟩, false)
theorem beq_word (q : List UInt8) (s : BA) : ((mkB (wordL q)).toList == s.toList) = decide (wordL q = toL s) := by
  rw [toList_toL, toList_toL, toL_mk]
  by_cases h : wordL q = toL s
  · rw [decide_eq_true h, h]
    exact beq_self_eq_true _
  · rw [decide_eq_false h]
    exact beq_eq_false_iff_ne.2 h
theorem reflevel_l0 (s : BA) (hs : s.size ≤ 100000) : ∀ (n : Nat) (r : List UInt8) (i : Nat) (p : List UInt8), r.length ≤ n → (toL s).drop i = r → i ≤ s.size → p.length ≤ i →
    Ev (fun k => brokerref45_level.l0 k s (nums p) (i : Int)) (refOf s ((decD r).map (p ++ ·))) := by
  have fin : ∀ (i : Nat) (p : List UInt8), s.size ≤ i → i ≤ s.size → p.length ≤ i → Ev (fun k => brokerref45_level.l0 k s (nums p) (i : Int)) (refOf s ((decD []).map (p ++ ·))) := by
    intro i p hz hi hp
    refine ev_succ ?_
    simp only [brokerref45_level.l0]
    refine ev_neg (by omega) ?_
    rw [strOf_nums]
    refine ev_bind (refword_ev (mkB p) (by rw [size_mk]; omega)) (ev_some ?_)
    rw [toL_mk, beq_word]
    show _ = some (mkB (p ++ []), decide (wordL (p ++ []) = toL s))
    rw [List.append_nil]
  intro n
  induction n with
  | zero =>
    intro r i p hn h hi hp
    obtain rfl : r = [] := List.eq_nil_of_length_eq_zero (by omega)
    exact fin i p (at_end h) hi hp
  | succ n ih =>
    intro r i p hn h hi hp
    cases r with
    | nil => exact fin i p (at_end h) hi hp
    | cons b r =>
      obtain ⟨h1, h2, h3⟩ := at_drop h
      rw [List.length_cons] at hn
      refine ev_succ ?_
      simp only [brokerref45_level.l0]
      refine ev_pos (by omega) (ev_pos (by omega) ?_)
      rw [h2, up1 i (by omega)]
      have mp : ∀ (o : Option (List UInt8)) (c : UInt8), (o.map (c :: ·)).map (p ++ ·) = o.map ((p ++ [c]) ++ ·) := by
        intro o c
        cases o with
        | none => rfl
        | some q => simp
      by_cases c : b = 37
      · refine ev_pos (by rw [c]; rfl) ?_
        subst c
        cases r with
        | nil =>
          have hz := at_end h3
          refine ev_pos (by omega) (ev_succ ?_)
          simp only [brokerref45_level.j1]
          exact ev_pos trivial (ev_some rfl)
        | cons c r =>
          obtain ⟨k1, k2, k3⟩ := at_drop h3
          rw [List.length_cons] at hn
          refine ev_neg (by omega) (ev_pos (by omega) (ev_pos (by omega) ?_))
          rw [k2]
          by_cases c1 : c = 37
          · refine ev_pos (by rw [c1]; rfl) (ev_succ ?_)
            simp only [brokerref45_level.j1]
            rw [k2, up1 (i + 1) (by omega), c1]
            refine ev_ff (ev_pos (by omega) (ev_pos (by omega) (ev_neg (by decide) (ev_pos (by rw [nums_len]; omega) ?_))))
            have := ih r (i + 2) (p ++ [37]) (by omega) k3 (by omega) (by rw [List.length_append]; show _ + 1 ≤ _; omega)
            rw [nums_append] at this
            have e : decD (37 :: 37 :: r) = (decD r).map (37 :: ·) := by
              conv => lhs; unfold decD
              rfl
            rw [e, mp]
            exact this
          · refine ev_neg (fun h => c1 ((u8n (n := 37) (by decide)).1 h)) (ev_succ ?_)
            simp only [brokerref45_level.j1]
            by_cases c2 : c = 112
            · rw [c2]
              refine ev_ff (ev_pos (by omega) (ev_pos (by omega) ?_))
              rw [k2, up1 (i + 1) (by omega), c2]
              refine ev_pos (by rfl) (ev_pos (by rw [nums_len]; omega) ?_)
              have := ih r (i + 2) (p ++ [46]) (by omega) k3 (by omega) (by rw [List.length_append]; show _ + 1 ≤ _; omega)
              rw [nums_append] at this
              have e : decD (37 :: 112 :: r) = (decD r).map (46 :: ·) := by
                conv => lhs; unfold decD
                rfl
              rw [e, mp]
              exact this
            · refine ev_pos (bne_iff_ne.2 fun h => c2 ((u8n (n := 112) (by decide)).1 h)) (ev_some ?_)
              have e : decD (37 :: c :: r) = none := by
                unfold decD
                rw [if_pos rfl, if_neg c1, if_neg c2]
              rw [e]
              rfl
      · refine ev_neg (fun h => c ((u8n (n := 37) (by decide)).1 h)) (ev_pos (by rw [nums_len]; omega) ?_)
        have := ih r (i + 1) (p ++ [b]) (by omega) h3 (by omega) (by rw [List.length_append]; show _ + 1 ≤ _; omega)
        rw [nums_append] at this
        rw [decD_plain b r c, mp]
        exact this
theorem reflevel_ev (s : BA) (hs : s.size ≤ 100000) : Ev (fun k => brokerref45_level.f k s) (refOf s (decL (toL s))) := by
  simp only [brokerref45_level.f, decL]
  rw [toList_toL]
  by_cases h : toL s = [37, 101]
  · rw [if_pos h]
    refine ev_pos h (ev_some ?_)
    show some (mkB [], true) = some (mkB [], decide (wordL [] = toL s))
    rw [decide_eq_true (by rw [h]; rfl)]
  · rw [if_neg h]
    refine ev_neg h ?_
    by_cases h2 : toL s = [37, 97]
    · rw [if_pos h2]
      refine ev_pos h2 (ev_some ?_)
      show some (mkB [42], true) = some (mkB [42], decide (wordL [42] = toL s))
      rw [decide_eq_true (by rw [h2]; rfl)]
    · rw [if_neg h2]
      have := reflevel_l0 s hs _ (toL s) 0 [] (Nat.le_refl _) rfl (Nat.zero_le _) (Nat.zero_le _)
      have e : (decD (toL s)).map (([] : List UInt8) ++ ·) = decD (toL s) := by
        cases decD (toL s) <;> rfl
      rw [e] at this
      exact ev_neg h2 this
/-! ### all levels -/
def decAll : List (List UInt8) → Option (List (List UInt8))
  | [] => some []
  | p :: r => (decL p).bind fun q => (decAll r).map (q :: ·)
def refOne (p : List UInt8) : Option (List UInt8) := match decL p with
  | some q => if wordL q = p then (if 47 ∈ q then none else some q) else none
  | none => none
def refAll : List (List UInt8) → Option (List (List UInt8))
  | [] => some []
  | p :: r => (refOne p).bind fun q => (refAll r).map (q :: ·)
def slash (qs : List (List UInt8)) : BA := mkB (Lib.join qs [47])
def finT (s : BA) (o : Option (List (List UInt8))) : BA × Bool := match o with
  | some qs => if validB (slash qs) = true then (if keyB (slash qs) = s then (slash qs, true) else (⟨#[]⟩, false)) else (⟨#[]⟩, false)
  | none => (⟨#[]⟩, false)
def finR (o : Option (List (List UInt8))) : BA × Bool := match o with
  | some qs => if validB (slash qs) = true then (slash qs, true) else (⟨#[]⟩, false)
  | none => (⟨#[]⟩, false)
theorem slash_size {l : List BA} (hl : l.length ≤ 2048) (hx : ∀ x ∈ l, x.size ≤ 4096) : (slash (l.map toL)).size ≤ 8390656 := by
  have := joined_len (l.map toL) 47 4096 (fun x hxm => by
    obtain ⟨s, hs, rfl⟩ := List.mem_map.1 hxm
    rw [toL_len]
    exact hx s hs)
  rw [List.length_map] at this
  have : 4097 * l.length ≤ 4097 * 2048 := Nat.mul_le_mul_left _ hl
  unfold slash
  rw [size_mk]
  omega
theorem join_val {l : List BA} (hl : l.length ≤ 2048) (hx : ∀ x ∈ l, x.size ≤ 4096) : topic_Join.f l = some (slash (l.map toL)) := by
  have h := slash_size hl hx
  unfold slash at h
  rw [size_mk] at h
  unfold topic_Join.f strings_Join.f
  rw [joinF_eq l 47 (by omega) (by omega)]
  rfl
theorem topic_l0 (s : BA) (ws : List BA) (hl : ws.length ≤ 2048) : ∀ (r acc : List BA) (i : Nat), ws.drop i = r → acc.length = i → i ≤ ws.length → (∀ x ∈ r, x.size ≤ 1500) → (∀ x ∈ acc, x.size ≤ 4096) →
    Ev (fun k => mapping_Topic.l0 k s acc ws (ws.length : Int) (i : Int)) (finT s ((decAll (r.map toL)).map (acc.map toL ++ ·))) := by
  intro r
  induction r with
  | nil =>
    intro acc i h ha hi hx hy
    have hz := drop_nil h
    have hsz := slash_size (by omega) hy
    refine ev_succ ?_
    simp only [mapping_Topic.l0]
    refine ev_neg (by omega) (ev_const (join_val (by omega) hy) (ev_const (topic_valid _ (by omega)) ?_))
    show Ev _ (finT s (some (acc.map toL ++ [])))
    rw [List.append_nil]
    unfold finT
    by_cases hv : validB (slash (acc.map toL)) = true
    · refine ev_pos hv (ev_bind (key_ev _ (by omega)) ?_)
      show Ev _ (if validB (slash (acc.map toL)) = true then _ else _)
      rw [if_pos hv]
      by_cases hk : keyB (slash (acc.map toL)) = s
      · rw [if_pos hk]
        exact ev_pos (by rw [hk]) (ev_some rfl)
      · rw [if_neg hk]
        exact ev_neg (fun h => hk (toList_inj h)) (ev_some rfl)
    · refine ev_neg hv (ev_some ?_)
      show _ = some (if validB (slash (acc.map toL)) = true then _ else _)
      rw [if_neg hv]
  | cons a r ih =>
    intro acc i h ha hi hx hy
    obtain ⟨h1, h2, h3⟩ := drop_cons ByteArray.empty h
    have ha' := hx a (List.mem_cons_self ..)
    refine ev_succ ?_
    simp only [mapping_Topic.l0]
    refine ev_pos (by omega) (ev_pos (by omega) (ev_pos (by omega) ?_))
    rw [rd_get, h2, up1 i (by omega)]
    refine ev_bind (level_ev a (by omega)) ?_
    rw [List.map_cons]
    unfold decAll
    cases hd : decL (toL a) with
    | none => exact ev_ff (ev_some rfl)
    | some q =>
      have hq := decL_len hd
      rw [toL_len] at hq
      have := ih (acc ++ [mkB q]) (i + 1) h3 (by rw [List.length_append, ha]; rfl) (by omega) (fun x hxm => hx x (List.mem_cons_of_mem _ hxm)) (fun x hxm => by
        rcases List.mem_append.1 hxm with h | h
        · exact hy x h
        · rw [List.mem_singleton.1 h, size_mk]
          omega)
      have e : ((some q).bind fun q => (decAll (r.map toL)).map (q :: ·)).map (acc.map toL ++ ·) = (decAll (r.map toL)).map ((acc ++ [mkB q]).map toL ++ ·) := by
        rw [Option.bind_some, Option.map_map]
        congr 1
        funext t
        show acc.map toL ++ q :: t = _
        rw [List.map_append, List.append_assoc]
        rfl
      rw [e]
      exact ev_tt (ev_pos (by omega) this)
theorem topicm_ev' (s : BA) (hs : s.size ≤ 1000000) (hn : (pieces 46 (toL s)).length ≤ 2048) (hp : ∀ p ∈ pieces 46 (toL s), p.length ≤ 1500) : Ev (fun k => mapping_Topic.f k s) (finT s (decAll (pieces 46 (toL s)))) := by
  simp only [mapping_Topic.f]
  refine ev_const (by unfold strings_Split.f; exact splitF_eq 46 s (by omega)) ?_
  have := topic_l0 s ((pieces 46 (toL s)).map mkB) (by rw [List.length_map]; exact hn) ((pieces 46 (toL s)).map mkB) [] 0 rfl rfl (Nat.zero_le _) (fun x hx => by
    obtain ⟨p, hm, rfl⟩ := List.mem_map.1 hx
    rw [size_mk]
    exact hp p hm) (fun x h => by cases h)
  have e : ((pieces 46 (toL s)).map mkB).map toL = pieces 46 (toL s) := map_toL _
  rw [e] at this
  have e2 : (decAll (pieces 46 (toL s))).map ((([] : List BA).map toL) ++ ·) = decAll (pieces 46 (toL s)) := by
    cases decAll (pieces 46 (toL s)) <;> rfl
  rw [e2] at this
  exact this
theorem topicm_ev (s : BA) (hs : s.size ≤ 1000) : Ev (fun k => mapping_Topic.f k s) (finT s (decAll (pieces 46 (toL s)))) := by
  have hc := List.count_le_length (a := (46 : UInt8)) (l := toL s)
  rw [toL_len] at hc
  refine topicm_ev' s (by omega) (by rw [pieces_length]; omega) (fun p hp => ?_)
  have := splitL_size 46 s (mkB p) (by rw [splitL_pieces]; exact List.mem_map.2 ⟨p, hp, rfl⟩)
  rw [size_mk] at this
  omega
end Go.Proofs.YtegcobkhejpmkaaDoor.Pure

/- The specification's Topic, and that the program's is the same. -/
-- needs: brokerref45_Topic brokerref45_level brokerref01_Has brokerref01_Join brokerref01_Valid
namespace Go.Proofs.YtegcobkhejpmkaaDoor.Pure
open Go.RowKit Go.Proofs.YtegcobkhejpmkaaDoor.P Go.Proofs.YtegcobkhejpmkaaDoorW.PrintWords Go.Proofs.YtegcobkhejpmkaaDoorW.PrintLast Go.Proofs.YtegcobkhejpmkaaDoor.Ext

theorem hasB_mem (q : List UInt8) : hasB (mkB q) 47 = decide ((47 : UInt8) ∈ q) := by
  refine decide_eq_decide.2 ⟨fun ⟨i, hi, h⟩ => ?_, fun h => ?_⟩
  · obtain ⟨c, hc, ec⟩ := toL_at hi
    have : c = 47 := u8_eq (n := 47) (by omega) (by decide)
    rw [← this]
    exact List.mem_of_getElem? hc
  · obtain ⟨i, hi⟩ := List.mem_iff_getElem?.1 h
    have hl := (List.getElem?_eq_some_iff.1 hi).1
    refine ⟨i, by rw [size_mk]; exact hl, ?_⟩
    rw [by_toL, toL_mk, hi]
    rfl
theorem reftop_end (s : BA) (_ : s.size ≤ 1000) (out : List BA) (fr : Int) (hn : out.length ≤ 2048) (hx : ∀ x ∈ out, x.size ≤ 4096) : Ev (fun k => brokerref45_Topic.l0 k s out fr ((s.size + 1 : Nat) : Int)) (finR (some (out.map toL))) := by
  have hsz := slash_size hn hx
  refine ev_succ ?_
  simp only [brokerref45_Topic.l0]
  refine ev_neg (by omega) (ev_bind (refjoin_ev out hn (fun i hi => by
    rw [List.getD_eq_getElem?_getD, List.getElem?_eq_getElem hi]
    exact hx _ (List.getElem_mem hi))) ?_)
  show Ev _ (if validB (slash (out.map toL)) = true then _ else _)
  refine ev_bind (refvalid_ev _ (by show (slash (out.map toL)).size ≤ _; omega)) ?_
  show Ev (fun n => if validB (slash (out.map toL)) = true then some (slash (out.map toL), true) else _) _
  by_cases hv : validB (slash (out.map toL)) = true
  · rw [if_pos hv, if_pos hv]
    exact ev_some rfl
  · rw [if_neg hv, if_neg hv]
    exact ev_some rfl
theorem reftop_cut (s : BA) (hs : s.size ≤ 1000) (out : List BA) (fr i : Nat) (rest : Option (List (List UInt8))) (h1 : fr ≤ i) (h2 : i ≤ s.size) (ho : out.length ≤ fr)
    (go : ∀ q : List UInt8, q.length ≤ 1000 → Ev (fun k => brokerref45_Topic.l0 k s (out ++ [mkB q]) ((i + 1 : Nat) : Int) ((i + 1 : Nat) : Int)) (finR (rest.map ((out ++ [mkB q]).map toL ++ ·)))) :
    Ev (fun k => brokerref45_Topic.j1 k s out (fr : Int) (i : Int) false) (finR (((refOne (toL (s.extract fr i))).bind fun q => rest.map (q :: ·)).map (out.map toL ++ ·))) := by
  have hxs : (s.extract fr i).size ≤ 1000 := by
    rw [ByteArray.size_extract]
    omega
  refine ev_succ ?_
  simp only [brokerref45_Topic.j1]
  refine ev_ff (ev_pos (by omega) (ev_pos (by omega) (ev_pos (by omega) ?_)))
  rw [Int.toNat_natCast, Int.toNat_natCast, up1 i (by omega)]
  refine ev_bind (reflevel_ev _ (by omega)) ?_
  unfold refOne
  cases hd : decL (toL (s.extract fr i)) with
  | none => exact ev_neg (fun h => Bool.false_ne_true h) (ev_some rfl)
  | some q =>
    have hq := decL_len hd
    rw [toL_len] at hq
    show Ev (fun n => if decide (wordL q = toL (s.extract fr i)) = true then (brokerref01_Has.f n (mkB q) 47).bind _ else _) _
    by_cases hw : wordL q = toL (s.extract fr i)
    · refine ev_pos (decide_eq_true hw) (ev_bind (has_ev (mkB q) 47 (by rw [size_mk]; omega)) ?_)
      rw [hasB_mem]
      show Ev _ (finR (((if wordL q = toL (s.extract fr i) then (if 47 ∈ q then none else some q) else none : Option (List UInt8)).bind fun q => rest.map (q :: ·)).map (out.map toL ++ ·)))
      rw [if_pos hw]
      by_cases h47 : (47 : UInt8) ∈ q
      · rw [if_pos h47]
        exact ev_pos (decide_eq_true h47) (ev_some rfl)
      · rw [if_neg h47]
        have e : ((some q).bind fun q => rest.map (q :: ·)).map (out.map toL ++ ·) = rest.map ((out ++ [mkB q]).map toL ++ ·) := by
          rw [Option.bind_some, Option.map_map]
          congr 1
          funext t
          show out.map toL ++ q :: t = _
          rw [List.map_append, List.append_assoc]
          rfl
        rw [e]
        exact ev_neg (fun h => h47 (of_decide_eq_true h)) (ev_pos (by omega) (go q (by omega)))
    · show Ev _ (finR (((if wordL q = toL (s.extract fr i) then (if 47 ∈ q then none else some q) else none : Option (List UInt8)).bind fun q => rest.map (q :: ·)).map (out.map toL ++ ·)))
      rw [if_neg hw]
      exact ev_neg (fun h => hw (of_decide_eq_true h)) (ev_some rfl)
theorem cut_no (s : BA) : ∀ fr i, i ≤ s.size → (∀ j, fr ≤ j → j < i → by_ s j ≠ 46) → (46 : UInt8) ∉ ((toL s).take i).drop fr := by
  have hlen : (toL s).length = s.size := toL_len s
  intro fr i hi hno hm
  obtain ⟨j, hj⟩ := List.mem_iff_getElem?.1 hm
  rw [List.getElem?_drop, List.getElem?_take] at hj
  split at hj
  · rename_i hlt
    refine hno (fr + j) (by omega) hlt ?_
    rw [by_toL, hj]
    rfl
  · cases hj
theorem cut_at (s : BA) (fr i : Nat) (hfr : fr ≤ i) (hi : i < s.size) (hb : by_ s i = 46) : (toL s).drop fr = ((toL s).take i).drop fr ++ 46 :: (toL s).drop (i + 1) := by
  have hlen : (toL s).length = s.size := toL_len s
  obtain ⟨c, hc, ec⟩ := toL_at (s := s) (i := i) hi
  have hc46 : c = 46 := u8_eq (n := 46) (by omega) (by omega)
  subst hc46
  have e1 : (toL s) = (toL s).take i ++ (toL s).drop i := (List.take_append_drop _ _).symm
  have e2 : (toL s).drop i = 46 :: (toL s).drop (i + 1) := by
    have hlt : i < (toL s).length := by omega
    rw [List.drop_eq_getElem_cons hlt]
    congr 1
    rw [List.getElem?_eq_getElem hlt] at hc
    exact Option.some.inj hc
  conv => lhs; rw [e1]
  rw [List.drop_append_of_le_length (by rw [List.length_take]; omega), e2]
theorem reftop_l0 (s : BA) (hs : s.size ≤ 1000) : ∀ (d : Nat) (out : List BA) (fr : Nat), d ≤ s.size → fr ≤ s.size - d → out.length ≤ fr → (∀ x ∈ out, x.size ≤ 4096) → (∀ i, fr ≤ i → i < s.size - d → by_ s i ≠ 46) →
    Ev (fun k => brokerref45_Topic.l0 k s out (fr : Int) ((s.size - d : Nat) : Int)) (finR ((refAll (pieces 46 ((toL s).drop fr))).map (out.map toL ++ ·))) := by
  have hlen : (toL s).length = s.size := toL_len s
  intro d
  induction d with
  | zero =>
    intro out fr _ hfr ho hx hno
    refine ev_succ ?_
    simp only [brokerref45_Topic.l0]
    refine ev_pos (by omega) (ev_neg (by omega) ?_)
    have h := cut_no s fr s.size (Nat.le_refl _) (by rw [Nat.sub_zero] at hno; exact hno)
    have et : ((toL s).take s.size).drop fr = (toL s).drop fr := by rw [List.take_of_length_le (by omega)]
    rw [et] at h
    rw [pieces_none _ _ h, ← et, ← toL_extract]
    refine reftop_cut s hs out fr s.size (some []) (by omega) (Nat.le_refl _) ho (fun q hq => ?_)
    have := reftop_end s hs (out ++ [mkB q]) ((s.size + 1 : Nat) : Int) (by rw [List.length_append]; show _ + 1 ≤ _; omega) (fun x hm => by
      rcases List.mem_append.1 hm with h | h
      · exact hx x h
      · rw [List.mem_singleton.1 h, size_mk]
        omega)
    show Ev _ (finR (some ((out ++ [mkB q]).map toL ++ [])))
    rw [List.append_nil]
    exact this
  | succ d ih =>
    intro out fr hd hfr ho hx hno
    refine ev_succ ?_
    simp only [brokerref45_Topic.l0]
    refine ev_pos (by omega) (ev_pos (by omega) (ev_pos (by omega) ?_))
    rw [bt_by]
    have e1 : s.size - (d + 1) + 1 = s.size - d := by omega
    by_cases h : by_ s (s.size - (d + 1)) = 46
    · rw [h]
      rw [cut_at s fr _ hfr (by omega) h, pieces_hit _ _ _ (cut_no s fr _ (by omega) hno), ← toL_extract]
      refine reftop_cut s hs out fr (s.size - (d + 1)) _ hfr (by omega) ho (fun q hq => ?_)
      rw [e1]
      exact ih (out ++ [mkB q]) (s.size - d) (by omega) (Nat.le_refl _) (by rw [List.length_append]; show _ + 1 ≤ _; omega) (fun x hm => by
        rcases List.mem_append.1 hm with h | h
        · exact hx x h
        · rw [List.mem_singleton.1 h, size_mk]
          omega) (fun i h0 h1 => by omega)
    · have hne : ((by_ s (s.size - (d + 1)) : Int) != 46) = true := bne_iff_ne.2 (by omega)
      rw [hne]
      refine ev_succ ?_
      simp only [brokerref45_Topic.j1]
      rw [up1 _ (by omega), e1]
      refine ev_pos trivial (ih out fr (by omega) (by omega) ho hx (fun i h0 h1 => ?_))
      by_cases e : i = s.size - (d + 1)
      · subst e; exact h
      · exact hno i h0 (by omega)
theorem reftopic_ev (s : BA) (hs : s.size ≤ 1000) : Ev (fun k => brokerref45_Topic.f k s) (finR (refAll (pieces 46 (toL s)))) := by
  have := reftop_l0 s hs s.size [] 0 (Nat.le_refl _) (Nat.zero_le _) (Nat.zero_le _) (fun x h => by cases h) (fun i h0 h1 => by omega)
  rw [Nat.sub_self] at this
  simp only [brokerref45_Topic.f]
  have e2 : (refAll (pieces 46 (toL s))).map ((([] : List BA).map toL) ++ ·) = refAll (pieces 46 (toL s)) := by
    cases refAll (pieces 46 (toL s)) <;> rfl
  rw [List.drop_zero, e2] at this
  exact this
/-! ### the two are one -/
theorem refAll_some : ∀ {ps qs : List (List UInt8)}, refAll ps = some qs → decAll ps = some qs ∧ qs.map wordL = ps ∧ (∀ q ∈ qs, (47 : UInt8) ∉ q)
  | [], qs, h => by
    obtain rfl := Option.some.inj h
    exact ⟨rfl, rfl, fun q h => by cases h⟩
  | p :: r, qs, h => by
    unfold refAll at h
    obtain ⟨q, hq, h⟩ := Option.bind_eq_some_iff.1 h
    obtain ⟨t, ht, rfl⟩ := Option.map_eq_some_iff.1 h
    obtain ⟨h1, h2, h3⟩ := refAll_some ht
    unfold refOne at hq
    cases hd : decL p with
    | none =>
      rw [hd] at hq
      cases hq
    | some q' =>
      rw [hd] at hq
      replace hq : (if wordL q' = p then (if 47 ∈ q' then none else some q') else none : Option (List UInt8)) = some q := hq
      split at hq
      · rename_i hw
        split at hq
        · cases hq
        · rename_i h47
          obtain rfl := Option.some.inj hq
          refine ⟨?_, ?_, ?_⟩
          · unfold decAll
            rw [hd, Option.bind_some, h1]
            rfl
          · rw [List.map_cons, hw, h2]
          · intro x hx
            rcases List.mem_cons.1 hx with rfl | hx
            · exact h47
            · exact h3 x hx
      · cases hq
theorem refAll_words : ∀ ls : List (List UInt8), (∀ q ∈ ls, (47 : UInt8) ∉ q) → refAll (ls.map wordL) = some ls
  | [], _ => rfl
  | l :: r, h => by
    have ih := refAll_words r (fun q hq => h q (List.mem_cons_of_mem _ hq))
    rw [List.map_cons]
    unfold refAll
    have : refOne (wordL l) = some l := by
      unfold refOne
      rw [decL_word]
      show (if wordL l = wordL l then (if 47 ∈ l then none else some l) else none : Option (List UInt8)) = _
      rw [if_pos rfl, if_neg (h l (List.mem_cons_self ..))]
    rw [this, Option.bind_some, ih]
    rfl
theorem dots_pieces (l : List (List UInt8)) (h : l ≠ []) : pieces 46 (toL (dots ((l.map mkB).map wordB))) = l.map wordL := by
  unfold dots
  rw [toL_mk, List.map_map, List.map_map]
  have e : l.map (toL ∘ wordB ∘ mkB) = l.map wordL := rfl
  show pieces 46 (Lib.join (l.map (toL ∘ wordB ∘ mkB)) [46]) = _
  rw [e]
  refine pieces_join 46 _ ?_ ?_
  · intro hn
    exact h (List.map_eq_nil_iff.1 hn)
  · intro x hx
    obtain ⟨q, _, rfl⟩ := List.mem_map.1 hx
    exact word_no46 q
theorem key_pieces {n : BA} (h : validB n = true) : pieces 46 (toL (keyB n)) = (pieces 47 (toL n)).map wordL := by
  unfold keyB
  rw [if_pos h]
  exact dots_pieces _ (pieces_ne _ _)
theorem toL_ext {a b : BA} (h : pieces 46 (toL a) = pieces 46 (toL b)) : a = b := by
  have := congrArg (fun l => Lib.join l [46]) h
  simp only [join_pieces] at this
  exact toL_inj this
theorem topics_same (s : BA) : finT s (decAll (pieces 46 (toL s))) = finR (refAll (pieces 46 (toL s))) := by
  cases hr : refAll (pieces 46 (toL s)) with
  | some qs =>
    obtain ⟨h1, h2, h3⟩ := refAll_some hr
    rw [h1]
    show (if validB (slash qs) = true then (if keyB (slash qs) = s then (slash qs, true) else (⟨#[]⟩, false)) else (⟨#[]⟩, false)) = if validB (slash qs) = true then (slash qs, true) else (⟨#[]⟩, false)
    by_cases hv : validB (slash qs) = true
    · rw [if_pos hv, if_pos hv]
      have hne : qs ≠ [] := by
        intro e
        rw [e] at h2
        exact pieces_ne 46 (toL s) h2.symm
      have hp : pieces 47 (toL (slash qs)) = qs := by
        unfold slash
        rw [toL_mk]
        exact pieces_join 47 qs hne h3
      rw [if_pos (toL_ext (by rw [key_pieces hv, hp, h2]))]
    · rw [if_neg hv, if_neg hv]
  | none =>
    cases hd : decAll (pieces 46 (toL s)) with
    | none => rfl
    | some qs =>
      show (if validB (slash qs) = true then (if keyB (slash qs) = s then (slash qs, true) else (⟨#[]⟩, false)) else (⟨#[]⟩, false)) = (⟨#[]⟩, false)
      split
      · rename_i hv
        split
        · rename_i hk
          have hp := key_pieces hv
          rw [hk] at hp
          rw [hp, refAll_words _ (fun q hq => pieces_mem 47 _ q hq)] at hr
          cases hr
        · rfl
      · rfl
/-- A name's key is read back. -/
theorem topic_key {n : BA} (h : validB n = true) : finT (keyB n) (decAll (pieces 46 (toL (keyB n)))) = (n, true) := by
  rw [topics_same, key_pieces h, refAll_words _ (fun q hq => pieces_mem 47 _ q hq)]
  have e : slash (pieces 47 (toL n)) = n := by
    unfold slash
    rw [join_pieces, mk_toL]
  show (if validB (slash (pieces 47 (toL n))) = true then (slash (pieces 47 (toL n)), true) else (⟨#[]⟩, false)) = _
  rw [e, if_pos h]
/-- What is read back has the key that it was read from. -/
theorem topic_back {s t : BA} (h : finT s (decAll (pieces 46 (toL s))) = (t, true)) : validB t = true ∧ keyB t = s := by
  unfold finT at h
  split at h
  · split at h
    · rename_i hv
      split at h
      · rename_i hk
        obtain rfl := (Prod.mk.inj h).1
        exact ⟨hv, hk⟩
      · cases (Prod.mk.inj h).2
    · cases (Prod.mk.inj h).2
  · cases (Prod.mk.inj h).2
theorem key_inj {a b : BA} (ha : validB a = true) (hb : validB b = true) (h : keyB a = keyB b) : a = b := by
  have e := topic_key ha
  rw [h, topic_key hb] at e
  exact (Prod.mk.inj e).1.symm
end Go.Proofs.YtegcobkhejpmkaaDoor.Pure

/- What the specification's rule and Check answer. -/
-- needs: brokerref45_rule brokerref45_Check brokerref45_wilds brokerref45_refers mapping_wild mapping_reference
namespace Go.Proofs.YtegcobkhejpmkaaDoor.Pure
open Go.RowKit Go.Proofs.YtegcobkhejpmkaaDoor.P Go.Proofs.YtegcobkhejpmkaaDoorW.PrintWords Go.Proofs.YtegcobkhejpmkaaDoorW.PrintLast Go.Proofs.YtegcobkhejpmkaaDoor.Ext

theorem refref_val (s : BA) : brokerref45_reference.f s = some (refM s) := refM_val s
theorem refwild45_val (s : BA) : brokerref45_wild.f s = some (wildM s) := wildM_val s
theorem wilds_l0 (l : List BA) (hl : l.length ≤ 1000) : ∀ (r : List BA) (i c : Nat), l.drop i = r → c ≤ i → i ≤ l.length → Ev (fun k => brokerref45_wilds.l0 k l (c : Int) (i : Int)) ((c + r.countP wildM : Nat) : Int) := by
  intro r
  induction r with
  | nil =>
    intro i c h hc hi
    have hz := drop_nil h
    refine ev_succ ?_
    simp only [brokerref45_wilds.l0]
    exact ev_neg (by omega) (ev_some rfl)
  | cons a r ih =>
    intro i c h hc hi
    obtain ⟨h1, h2, h3⟩ := drop_cons ByteArray.empty h
    refine ev_succ ?_
    simp only [brokerref45_wilds.l0]
    refine ev_pos (by omega) (ev_pos (by omega) ?_)
    rw [rd_get, h2, up1 i (by omega), up1 c (by omega)]
    refine ev_const (refwild45_val a) ?_
    cases hw : wildM a with
    | true =>
      have := ih (i + 1) (c + 1) h3 (by omega) (by omega)
      rw [List.countP_cons_of_pos hw, show c + (r.countP wildM + 1) = c + 1 + r.countP wildM by omega]
      exact ev_tt this
    | false =>
      have := ih (i + 1) c h3 (by omega) (by omega)
      rw [List.countP_cons_of_neg (by rw [hw]; decide)]
      exact ev_ff this
theorem wilds_ev (l : List BA) (hl : l.length ≤ 1000) : Ev (fun k => brokerref45_wilds.f k l) ((l.countP wildM : Nat) : Int) := by
  have := wilds_l0 l hl l 0 0 rfl (Nat.le_refl _) (Nat.zero_le _)
  rw [Nat.zero_add] at this
  simp only [brokerref45_wilds.f]
  exact this
def refsB (m : List BA) (n : Int) : Bool := m.any fun x => decide (refM x = n)
theorem refers_l0 (m : List BA) (hm : m.length ≤ 1000) (n : Int) : ∀ (r : List BA) (i : Nat), m.drop i = r → i ≤ m.length → Ev (fun k => brokerref45_refers.l0 k m n (i : Int)) (refsB r n) := by
  intro r
  induction r with
  | nil =>
    intro i h hi
    have hz := drop_nil h
    refine ev_succ ?_
    simp only [brokerref45_refers.l0]
    exact ev_neg (by omega) (ev_some rfl)
  | cons a r ih =>
    intro i h hi
    obtain ⟨h1, h2, h3⟩ := drop_cons ByteArray.empty h
    refine ev_succ ?_
    simp only [brokerref45_refers.l0]
    refine ev_pos (by omega) (ev_pos (by omega) ?_)
    rw [rd_get, h2, up1 i (by omega)]
    refine ev_const (refref_val a) ?_
    have e : refsB (a :: r) n = (decide (refM a = n) || refsB r n) := rfl
    rw [e]
    by_cases c : refM a = n
    · rw [decide_eq_true c]
      exact ev_pos c (ev_some rfl)
    · rw [decide_eq_false c]
      exact ev_neg c (ih (i + 1) h3 (by omega))
theorem refers_ev (m : List BA) (hm : m.length ≤ 1000) (n : Int) : Ev (fun k => brokerref45_refers.f k m n) (refsB m n) := by
  simp only [brokerref45_refers.f]
  exact refers_l0 m hm n m 0 rfl (Nat.zero_le _)
def ruleN (m : List BA) (w : Int) : Nat → Int
  | 0 => 0
  | d + 1 => if (refsB m ((9 - d : Nat) : Int) != decide (((9 - d : Nat) : Int) ≤ w)) = true then 1 else ruleN m w d
theorem rule_l0 (m : List BA) (hm : m.length ≤ 1000) (w : Int) : ∀ d, d ≤ 9 → Ev (fun k => brokerref45_rule.l0 k w m ((10 - d : Nat) : Int)) (ruleN m w d) := by
  intro d
  induction d with
  | zero =>
    intro _
    refine ev_succ ?_
    simp only [brokerref45_rule.l0]
    exact ev_neg (by omega) (ev_some rfl)
  | succ d ih =>
    intro hd
    refine ev_succ ?_
    simp only [brokerref45_rule.l0]
    rw [show ((10 - (d + 1) : Nat) : Int) = ((9 - d : Nat) : Int) by omega, up1 (9 - d) (by omega), show 9 - d + 1 = 10 - d by omega]
    refine ev_pos (by omega) (ev_bind (refers_ev m hm _) ?_)
    unfold ruleN
    by_cases c : (refsB m ((9 - d : Nat) : Int) != decide (((9 - d : Nat) : Int) ≤ w)) = true
    · rw [if_pos c]
      exact ev_pos c (ev_some rfl)
    · rw [if_neg c]
      exact ev_neg c (ih (by omega))
def ruleV (a b : BA) : Int := if filterB a = true then (if validB b = true then ruleN (levels b) (((levels a).countP wildM : Nat) : Int) 9 else 12) else 13
theorem refvalid_all (s : BA) : Ev (fun k => brokerref01_Valid.f k s) (validB s) := by
  by_cases h : s.size ≤ 9223372036854775806
  · exact refvalid_ev s h
  · have hz : sizedB s = false := by
      cases hs : sizedB s with
      | false => rfl
      | true =>
        have := (sized_size hs).2
        omega
    have e : validB s = false := by
      unfold validB
      rw [hz]
      rfl
    have hr := refsized_all s
    rw [hz] at hr
    rw [e]
    simp only [brokerref01_Valid.f]
    exact ev_bind hr (ev_ff (ev_some rfl))
theorem rule_ev (a b : BA) (_ : b.size ≤ 9223372036854775807) : Ev (fun k => brokerref45_rule.f k a b) (ruleV a b) := by
  simp only [brokerref45_rule.f]
  unfold ruleV
  refine ev_bind (reffilter_all a) ?_
  by_cases hf : filterB a = true
  · rw [if_pos hf]
    refine ev_pos hf (ev_bind (refvalid_all b) ?_)
    by_cases hv : validB b = true
    · rw [if_pos hv]
      have z1 := filter_size hf
      have z2 := valid_size hv
      have l1 := lev_len z1
      have l2 := lev_len z2
      exact ev_pos hv (ev_bind (lev_ev a (by omega)) (ev_bind (wilds_ev _ (by omega)) (ev_bind (lev_ev b (by omega)) (rule_l0 _ (by omega) _ 9 (Nat.le_refl _)))))
    · rw [if_neg hv]
      exact ev_neg hv (ev_some rfl)
  · rw [if_neg hf]
    exact ev_neg hf (ev_some rfl)
def firstV : List S28 → Int
  | [] => 0
  | r :: t => if ruleV r.f0 r.f1 = 0 then firstV t else ruleV r.f0 r.f1
theorem refcheck_l0 (l : List S28) (hl : l.length ≤ 1000) (hb : ∀ x ∈ l, x.f1.size ≤ 9223372036854775807) : ∀ (r : List S28) (i : Nat), l.drop i = r → i ≤ l.length → Ev (fun k => brokerref45_Check.l0 k l (i : Int)) (firstV r) := by
  intro r
  induction r with
  | nil =>
    intro i h hi
    have hz := drop_nil h
    refine ev_succ ?_
    simp only [brokerref45_Check.l0]
    exact ev_neg (by omega) (ev_some rfl)
  | cons a r ih =>
    intro i h hi
    obtain ⟨h1, h2, h3⟩ := drop_cons a h
    have hm : a ∈ l := List.mem_of_mem_drop (by rw [h]; exact List.mem_cons_self ..)
    have er : rd_T28 l (i : Int) = a := by
      have : l[i]? = some a := by
        have e := congrArg (fun x => x[0]?) h
        simpa using e
      unfold rd_T28
      first
        | (rw [Int.toNat_natCast, this]; rfl)
        | (simp [this])
    refine ev_succ ?_
    simp only [brokerref45_Check.l0]
    refine ev_pos (by omega) (ev_pos (by omega) ?_)
    rw [er, up1 i (by omega)]
    refine ev_bind (rule_ev a.f0 a.f1 (hb a hm)) ?_
    unfold firstV
    by_cases c : ruleV a.f0 a.f1 = 0
    · rw [if_pos c]
      exact ev_pos c (ih (i + 1) h3 (by omega))
    · rw [if_neg c]
      exact ev_neg c (ev_some rfl)
def refCheckV (l : List S28) : Int := if l.length > 32 then 5 else firstV l
theorem refcheck_ev (l : List S28) (hb : ∀ x ∈ l, x.f1.size ≤ 9223372036854775807) : Ev (fun k => brokerref45_Check.f k l) (refCheckV l) := by
  simp only [brokerref45_Check.f]
  unfold refCheckV
  by_cases h : l.length > 32
  · rw [if_pos h]
    exact ev_pos (by omega) (ev_some rfl)
  · rw [if_neg h]
    exact ev_neg (by omega) (refcheck_l0 l (by omega) hb l 0 rfl (Nat.zero_le _))
end Go.Proofs.YtegcobkhejpmkaaDoor.Pure

/- What Apply answers. -/
-- needs: mapping_taken mapping_Apply match_Matches
namespace Go.Proofs.YtegcobkhejpmkaaDoor.Pure
open Go.RowKit Go.Proofs.YtegcobkhejpmkaaDoor.P Go.Proofs.YtegcobkhejpmkaaDoorW.PrintWords Go.Proofs.YtegcobkhejpmkaaDoorW.PrintLast Go.Proofs.YtegcobkhejpmkaaDoor.Ext

/-! ### Apply -/
def takenF (ns : List BA) : List BA → Nat → List (List BA)
  | [], _ => []
  | x :: r, i => if isP x = true then (ns.take (i + 1)).drop i :: takenF ns r (i + 1) else if isR x = true then ns.drop (min i ns.length) :: takenF ns r (i + 1) else takenF ns r (i + 1)
theorem mn_nat (i n : Nat) : mn (i : Int) (n : Int) = ((min i n : Nat) : Int) := by
  unfold mn
  first
    | (split <;> omega)
    | omega
theorem taken_l0 (ns ls : List BA) (hn : ns.length ≤ 1000) (hl : ls.length ≤ 1000) : ∀ (r : List BA) (acc : List (List BA)) (i : Nat), ls.drop i = r → acc.length ≤ i → i ≤ ls.length → okL r → (r = [] ∨ matchL r (ns.drop i) = true) →
    Ev (fun k => mapping_taken.l0 k acc ns ls (ls.length : Int) (i : Int)) (acc ++ takenF ns r i) := by
  intro r
  induction r with
  | nil =>
    intro acc i h ha hi ho hm
    have hz := drop_nil h
    refine ev_succ ?_
    simp only [mapping_taken.l0]
    refine ev_neg (by omega) (ev_some ?_)
    show _ = some (acc ++ [])
    rw [List.append_nil]
  | cons a r ih =>
    intro acc i h ha hi ho hm
    obtain ⟨h1, h2, h3⟩ := drop_cons ByteArray.empty h
    obtain ⟨o1, o2⟩ := ho
    have hm' : matchL (a :: r) (ns.drop i) = true := by
      rcases hm with hm | hm
      · cases hm
      · exact hm
    refine ev_succ ?_
    simp only [mapping_taken.l0]
    refine ev_pos (by omega) (ev_pos (by omega) (ev_pos (by omega) ?_))
    rw [rd_get, h2, up1 i (by omega), mn_nat, Int.toNat_natCast, Int.toNat_natCast, Int.toNat_natCast]
    unfold takenF
    cases hr : isR a with
    | true =>
      have hp : isP a = false := by
        cases hp : isP a with
        | false => rfl
        | true => exact (RP hr hp).elim
      rw [if_neg (by rw [hp]; decide), if_pos rfl]
      have hmin : min i ns.length ≤ ns.length := Nat.min_le_right _ _
      have := ih (acc ++ [ns.drop (min i ns.length)]) (i + 1) h3 (by rw [List.length_append]; show _ + 1 ≤ _; omega) (by omega) o2 (.inl (o1 hr))
      rw [List.append_assoc] at this
      exact ev_neg (isP_not hp) (ev_pos (isR_is hr) (ev_pos (by omega) (ev_pos (by omega) (ev_pos (by omega) this))))
    | false =>
      cases hd : ns.drop i with
      | nil =>
        rw [hd] at hm'
        replace hm' : isR a = true := hm'
        rw [hr] at hm'
        cases hm'
      | cons x m =>
        obtain ⟨d1, d2, d3⟩ := drop_cons ByteArray.empty hd
        rw [hd] at hm'
        replace hm' : (isR a || ((isP a || eqB a x) && matchL r m)) = true := hm'
        rw [hr, Bool.false_or, Bool.and_eq_true] at hm'
        have hnext : r = [] ∨ matchL r (ns.drop (i + 1)) = true := .inr (by rw [d3]; exact hm'.2)
        cases hp : isP a with
        | true =>
          rw [if_pos rfl]
          have := ih (acc ++ [(ns.take (i + 1)).drop i]) (i + 1) h3 (by rw [List.length_append]; show _ + 1 ≤ _; omega) (by omega) o2 hnext
          rw [List.append_assoc] at this
          exact ev_pos (isP_is hp) (ev_pos (by omega) (ev_pos (by omega) (ev_pos (by omega) this)))
        | false =>
          rw [if_neg (by decide), if_neg (by decide)]
          exact ev_neg (isP_not hp) (ev_neg (isR_not hr) (ih acc (i + 1) h3 (by omega) (by omega) o2 hnext))
theorem taken_ev {a n : BA} (hf : filterB a = true) (hn : validB n = true) (hm : matchL (levels a) (levels n) = true) : Ev (fun k => mapping_taken.f k a n) (takenF (levels n) (levels a) 0) := by
  have z1 := filter_size hf
  have z2 := valid_size hn
  have l1 := lev_len z1
  have l2 := lev_len z2
  simp only [mapping_taken.f]
  exact ev_const (topic_levels n (by omega)) (ev_const (topic_levels a (by omega)) (taken_l0 (levels n) (levels a) (by omega) (by omega) (levels a) [] 0 rfl (Nat.le_refl _) (Nat.zero_le _) (filter_ok hf) (.inr hm)))
def applyV (a b n : BA) : BA × Bool := if matchB a n = true then (if validB (slash ((seqM (takenF (levels n) (levels a) 0) (levels b)).map toL)) = true then (slash ((seqM (takenF (levels n) (levels a) 0) (levels b)).map toL), true) else (⟨#[]⟩, false)) else (⟨#[]⟩, false)
theorem apply_ev (a b n : BA) (ha : a.size ≤ 9223372036854775806) (hn : n.size ≤ 9223372036854775806) (hb : b.size ≤ 1000000)
    (hfit : matchB a n = true → fits (takenF (levels n) (levels a) 0) (levels b) ∧ (seqM (takenF (levels n) (levels a) 0) (levels b)).length ≤ 2048 ∧ ∀ x ∈ seqM (takenF (levels n) (levels a) 0) (levels b), x.size ≤ 4096) :
    Ev (fun k => mapping_Apply.f k a b n) (applyV a b n) := by
  simp only [mapping_Apply.f, applyF]
  unfold applyV
  refine ev_bind (matches_ev a n (by omega) (by omega)) ?_
  by_cases hm : matchB a n = true
  · rw [if_pos hm]
    obtain ⟨f1, f2, f3⟩ := hfit hm
    obtain ⟨m1, m2, m3, m4⟩ := matchB_split hm
    have hsz := slash_size f2 f3
    refine ev_pos hm (ev_bind (taken_ev m1 m2 m4) (ev_const (topic_levels b (by omega)) (ev_pos f1 (ev_const (join_val f2 f3) (ev_const (topic_valid _ (by omega)) ?_)))))
    by_cases hv : validB (slash ((seqM (takenF (levels n) (levels a) 0) (levels b)).map toL)) = true
    · rw [if_pos hv, if_pos hv]
      exact ev_some rfl
    · rw [if_neg hv, if_neg hv]
      exact ev_some rfl
  · rw [if_neg hm]
    exact ev_neg hm (ev_some rfl)
end Go.Proofs.YtegcobkhejpmkaaDoor.Pure

/- mapping's check of a rule is the specification's. -/
-- needs: mapping_check mapping_Check brokerref45_rule
namespace Go.Proofs.YtegcobkhejpmkaaDoor.Pure
open Go.RowKit Go.Proofs.YtegcobkhejpmkaaDoor.P Go.Proofs.YtegcobkhejpmkaaDoorW.PrintWords Go.Proofs.YtegcobkhejpmkaaDoorW.PrintLast Go.Proofs.YtegcobkhejpmkaaDoor.Ext

theorem drop_get2 {n : List BA} {d : Nat} (h : d < n.length) : n.drop d = n.getD d ByteArray.empty :: n.drop (d + 1) := by
  rw [List.drop_eq_getElem_cons h, List.getD_eq_getElem?_getD, List.getElem?_eq_getElem h]
  rfl
theorem drop_back (l : List BA) (d : Nat) (h : d + 1 ≤ l.length) : l.drop (l.length - (d + 1)) = l.getD (l.length - (d + 1)) ByteArray.empty :: l.drop (l.length - d) := by
  rw [drop_get2 (by omega), show l.length - (d + 1) + 1 = l.length - d by omega]
theorem set_get (x : List Bool) (i k : Nat) (hi : i < x.length) : (x.set i true).getD k false = (x.getD k false || decide (k = i)) := by
  rw [List.getD_eq_getElem?_getD, List.getElem?_set, List.getD_eq_getElem?_getD]
  by_cases e : i = k
  · rw [if_pos e, if_pos hi, decide_eq_true e.symm, Bool.or_true]
    rfl
  · rw [if_neg e, decide_eq_false (fun h => e h.symm), Bool.or_false]
theorem want_get (l : List BA) : ∀ (d n : Nat) (x : List Bool), d ≤ l.length → n + d ≤ 9 → x.length = 10 → (wantD l d n x).length = 10 ∧ ∀ k, (wantD l d n x).getD k false = (x.getD k false || decide (n < k ∧ k ≤ n + (l.drop (l.length - d)).countP wildM)) := by
  intro d
  induction d with
  | zero =>
    intro n x _ _ hx
    refine ⟨hx, fun k => ?_⟩
    rw [Nat.sub_zero, List.drop_length, List.countP_nil, decide_eq_false (by omega), Bool.or_false]
    rfl
  | succ d ih =>
    intro n x hd hn hx
    have e := drop_back l d hd
    unfold wantD
    rw [rd_get, e]
    cases hw : wildM (l.getD (l.length - (d + 1)) ByteArray.empty) with
    | true =>
      rw [if_pos rfl, List.countP_cons_of_pos hw]
      obtain ⟨h1, h2⟩ := ih (n + 1) (x.set (n + 1) true) (by omega) (by omega) (by rw [List.length_set]; exact hx)
      refine ⟨h1, fun k => ?_⟩
      rw [h2 k, set_get x (n + 1) k (by omega), Bool.or_assoc]
      congr 1
      rw [← Bool.decide_or]
      exact decide_eq_decide.2 (by omega)
    | false =>
      rw [if_neg (by decide), List.countP_cons_of_neg (by rw [hw]; decide)]
      exact ih n x (by omega) (by omega) hx
theorem used_get (m : List BA) : ∀ (d : Nat) (x : List Bool), d ≤ m.length → x.length = 10 → (usedD m d x).length = 10 ∧ ∀ k : Nat, (usedD m d x).getD k false = (x.getD k false || (decide (0 < k) && refsB (m.drop (m.length - d)) (k : Int))) := by
  intro d
  induction d with
  | zero =>
    intro x _ hx
    refine ⟨hx, fun k => ?_⟩
    rw [Nat.sub_zero, List.drop_length]
    show x.getD k false = (x.getD k false || (decide (0 < k) && false))
    rw [Bool.and_false, Bool.or_false]
  | succ d ih =>
    intro x hd hx
    have e := drop_back m d hd
    unfold usedD
    rw [rd_get, e]
    generalize m.getD (m.length - (d + 1)) ByteArray.empty = a
    obtain ⟨r1, r2⟩ := refM_in a
    have er : ∀ k : Nat, refsB (a :: m.drop (m.length - d)) (k : Int) = (decide (refM a = (k : Int)) || refsB (m.drop (m.length - d)) (k : Int)) := fun k => rfl
    by_cases c : refM a > 0
    · rw [if_pos c]
      obtain ⟨h1, h2⟩ := ih (x.set (refM a).toNat true) (by omega) (by rw [List.length_set]; exact hx)
      refine ⟨h1, fun k => ?_⟩
      rw [h2 k, set_get x (refM a).toNat k (by omega), Bool.or_assoc, er]
      congr 1
      by_cases ek : k = (refM a).toNat
      · rw [decide_eq_true ek, decide_eq_true (show refM a = (k : Int) by omega), decide_eq_true (show 0 < k by omega)]
        rfl
      · rw [decide_eq_false ek, decide_eq_false (show ¬ refM a = (k : Int) by omega), Bool.false_or, Bool.false_or]
    · rw [if_neg c]
      obtain ⟨h1, h2⟩ := ih x (by omega) hx
      refine ⟨h1, fun k => ?_⟩
      rw [h2 k, er]
      congr 1
      by_cases ek : 0 < k
      · rw [decide_eq_false (show ¬ refM a = (k : Int) by omega), Bool.false_or]
      · rw [decide_eq_false ek, Bool.false_and, Bool.false_and]
theorem rule_zero (m : List BA) (w : Int) : ∀ d, d ≤ 9 → (ruleN m w d = 0 ∨ ruleN m w d = 1) ∧ (ruleN m w d = 0 ↔ ∀ j : Nat, 10 - d ≤ j → j ≤ 9 → refsB m (j : Int) = decide ((j : Int) ≤ w)) := by
  intro d
  induction d with
  | zero =>
    intro _
    exact ⟨.inl rfl, fun _ j h1 h2 => by omega, fun _ => rfl⟩
  | succ d ih =>
    intro hd
    obtain ⟨h1, h2⟩ := ih (by omega)
    unfold ruleN
    by_cases c : (refsB m ((9 - d : Nat) : Int) != decide (((9 - d : Nat) : Int) ≤ w)) = true
    · rw [if_pos c]
      refine ⟨.inr rfl, ⟨fun h => absurd h (by decide), fun h => ?_⟩⟩
      exact absurd (h (9 - d) (by omega) (by omega)) (bne_iff_ne.1 c)
    · rw [if_neg c]
      have c' : refsB m ((9 - d : Nat) : Int) = decide (((9 - d : Nat) : Int) ≤ w) := by
        cases hx : refsB m ((9 - d : Nat) : Int) <;> cases hy : decide (((9 - d : Nat) : Int) ≤ w) <;> first | rfl | (rw [hx, hy] at c; exact absurd rfl c)
      refine ⟨h1, h2.trans ⟨fun h j j1 j2 => ?_, fun h j j1 j2 => h j (by omega) j2⟩⟩
      by_cases e : j = 9 - d
      · rw [e]
        exact c'
      · exact h j (by omega) j2
theorem zero_get (k : Nat) : zeroB.getD k false = false := by
  unfold zeroB
  rw [List.getD_eq_getElem?_getD, List.getElem?_replicate]
  split <;> rfl
theorem marks_eq (l m : List BA) (hl : l.length ≤ 8) : (wantD l l.length 0 zeroB = usedD m m.length zeroB) ↔ ruleN m ((l.countP wildM : Nat) : Int) 9 = 0 := by
  obtain ⟨w1, w2⟩ := want_get l l.length 0 zeroB (Nat.le_refl _) (by omega) rfl
  obtain ⟨u1, u2⟩ := used_get m m.length zeroB (Nat.le_refl _) rfl
  rw [(rule_zero m _ 9 (Nat.le_refl _)).2]
  constructor
  · intro h j j1 j2
    have a := w2 j
    rw [h, u2 j, zero_get, Bool.false_or, Bool.false_or, Nat.sub_self, Nat.sub_self, List.drop_zero, List.drop_zero, decide_eq_true (show 0 < j by omega), Bool.true_and] at a
    rw [a]
    exact decide_eq_decide.2 (by omega)
  · intro h
    refine List.ext_getElem (by rw [w1, u1]) (fun k k1 k2 => ?_)
    have a := w2 k
    have b := u2 k
    rw [List.getD_eq_getElem?_getD, List.getElem?_eq_getElem k1] at a
    rw [List.getD_eq_getElem?_getD, List.getElem?_eq_getElem k2] at b
    replace a : (wantD l l.length 0 zeroB)[k] = _ := a
    replace b : (usedD m m.length zeroB)[k] = _ := b
    rw [a, b, zero_get, Bool.false_or, Bool.false_or, Nat.sub_self, Nat.sub_self, List.drop_zero, List.drop_zero]
    by_cases e : 0 < k
    · rw [decide_eq_true e, Bool.true_and, h k (by omega) (by omega)]
      exact decide_eq_decide.2 (by omega)
    · rw [decide_eq_false e, Bool.false_and]
      exact decide_eq_false (by omega)
theorem lev8 {s : BA} (h : sizedB s = true) : (levels s).length ≤ 8 := by
  have h4 := (of_decide_eq_true h).2.2.2
  rw [cnt_all] at h4
  rw [levels_length]
  omega
theorem sized_f {s : BA} (h : filterB s = true) : sizedB s = true := by
  unfold filterB at h
  rw [Bool.and_eq_true] at h
  exact h.1
theorem sized_v {s : BA} (h : validB s = true) : sizedB s = true := by
  unfold validB at h
  rw [Bool.and_eq_true] at h
  exact h.1
theorem check_val (a b : BA) (ha : a.size ≤ 9223372036854775807) (hb : b.size ≤ 9223372036854775807) : mapping_check.f a b = some (ruleV a b) := by
  unfold mapping_check.f checkF ruleV
  rw [topic_filter a ha, Option.bind_some]
  by_cases hf : filterB a = true
  · rw [if_pos hf, if_pos hf, topic_valid b hb, Option.bind_some]
    by_cases hv : validB b = true
    · have z1 := filter_size hf
      have z2 := valid_size hv
      have l1 := lev8 (sized_f hf)
      have l2 := lev8 (sized_v hv)
      rw [if_pos hv, if_pos hv, topic_levels a (by omega), Option.bind_some, topic_levels b (by omega), Option.bind_some, if_pos l1, if_pos (by omega)]
      congr 1
      have hm := marks_eq (levels a) (levels b) l1
      obtain ⟨hz, _⟩ := rule_zero (levels b) (((levels a).countP wildM : Nat) : Int) 9 (Nat.le_refl _)
      by_cases c : wantD (levels a) (levels a).length 0 zeroB = usedD (levels b) (levels b).length zeroB
      · rw [if_pos c, hm.1 c]
      · rw [if_neg c]
        rcases hz with hz | hz
        · exact absurd (hm.2 hz) c
        · exact hz.symm
    · rw [if_neg hv, if_neg hv]
  · rw [if_neg hf, if_neg hf]
theorem pcheck_l0 (l : List S28) (hl : l.length ≤ 1000) (hb : ∀ x ∈ l, x.f0.size ≤ 9223372036854775807 ∧ x.f1.size ≤ 9223372036854775807) : ∀ (r : List S28) (i : Nat), l.drop i = r → i ≤ l.length → Ev (fun k => mapping_Check.l0 k l (l.length : Int) (i : Int)) (firstV r) := by
  intro r
  induction r with
  | nil =>
    intro i h hi
    have hz := drop_nil h
    refine ev_succ ?_
    simp only [mapping_Check.l0]
    exact ev_neg (by omega) (ev_some rfl)
  | cons a r ih =>
    intro i h hi
    obtain ⟨h1, h2, h3⟩ := drop_cons z28 h
    have hm : a ∈ l := List.mem_of_mem_drop (by rw [h]; exact List.mem_cons_self ..)
    obtain ⟨b0, b1⟩ := hb a hm
    have er : rd_T28 l (i : Int) = a := h2
    refine ev_succ ?_
    simp only [mapping_Check.l0]
    refine ev_pos (by omega) (ev_pos (by omega) (ev_pos (by omega) ?_))
    rw [er, up1 i (by omega)]
    refine ev_const (check_val a.f0 a.f1 (by omega) (by omega)) ?_
    unfold firstV
    by_cases c : ruleV a.f0 a.f1 = 0
    · rw [if_pos c]
      exact ev_pos c (ih (i + 1) h3 (by omega))
    · rw [if_neg c]
      exact ev_neg c (ev_some rfl)
theorem pcheck_ev (l : List S28) (hb : ∀ x ∈ l, x.f0.size ≤ 9223372036854775807 ∧ x.f1.size ≤ 9223372036854775807) : Ev (fun k => mapping_Check.f k l) (refCheckV l) := by
  simp only [mapping_Check.f]
  unfold refCheckV
  by_cases h : l.length > 32
  · rw [if_pos h]
    exact ev_pos (by omega) (ev_some rfl)
  · rw [if_neg h]
    exact ev_neg (by omega) (pcheck_l0 l (by omega) hb l 0 rfl (Nat.zero_le _))
end Go.Proofs.YtegcobkhejpmkaaDoor.Pure

/- Apply by parts is Apply by number, for a rule that is checked. -/
-- needs: brokerref45_Apply brokerref45_takes brokerref45_Check brokerref01_Join brokerref02_Matches
namespace Go.Proofs.YtegcobkhejpmkaaDoor.Pure
open Go.RowKit Go.Proofs.YtegcobkhejpmkaaDoor.P Go.Proofs.YtegcobkhejpmkaaDoorW.PrintWords Go.Proofs.YtegcobkhejpmkaaDoorW.PrintLast Go.Proofs.YtegcobkhejpmkaaDoor.Ext

theorem wildM_eq (x : BA) : wildM x = (isP x || isR x) := by
  unfold wildM
  rw [beqR]
  congr 1
  unfold isP
  by_cases h : x.toList = [43]
  · rw [decide_eq_true h, h]
    exact beq_self_eq_true _
  · rw [decide_eq_false h]
    exact beq_eq_false_iff_ne.2 h
theorem takenF_cons (ns : List BA) (x : BA) (r : List BA) (i : Nat) : takenF ns (x :: r) i = if isP x = true then (ns.take (i + 1)).drop i :: takenF ns r (i + 1) else if isR x = true then ns.drop (min i ns.length) :: takenF ns r (i + 1) else takenF ns r (i + 1) := rfl
theorem taken_len (ns : List BA) : ∀ (r : List BA) (i : Nat), (takenF ns r i).length = r.countP wildM
  | [], _ => rfl
  | x :: r, i => by
    have ih := taken_len ns r (i + 1)
    unfold takenF
    cases hp : isP x with
    | true =>
      rw [if_pos rfl, List.length_cons, ih, List.countP_cons_of_pos (by rw [wildM_eq, hp]; rfl)]
    | false =>
      rw [if_neg (by decide)]
      cases hr : isR x with
      | true =>
        rw [if_pos rfl, List.length_cons, ih, List.countP_cons_of_pos (by rw [wildM_eq, hp, hr]; rfl)]
      | false =>
        rw [if_neg (by decide), ih, List.countP_cons_of_neg (by rw [wildM_eq, hp, hr]; decide)]
theorem taken_part (ns : List BA) : ∀ (r : List BA) (i : Nat) (p : List BA), p ∈ takenF ns r i → p.length ≤ ns.length ∧ ∀ x ∈ p, x ∈ ns
  | [], _, p, h => nomatch h
  | x :: r, i, p, h => by
    have ih := taken_part ns r (i + 1) p
    unfold takenF at h
    split at h
    · rcases List.mem_cons.1 h with rfl | h
      · refine ⟨by rw [List.length_drop, List.length_take]; omega, fun x hx => List.mem_of_mem_take (List.mem_of_mem_drop hx)⟩
      · exact ih h
    · split at h
      · rcases List.mem_cons.1 h with rfl | h
        · exact ⟨by rw [List.length_drop]; omega, fun x hx => List.mem_of_mem_drop hx⟩
        · exact ih h
      · exact ih h
theorem takesD_succ (ls ns : List BA) (d : Nat) (n : Int) : takesD ls ns (d + 1) n = (if (if wildB (ls.getD (ls.length - (d + 1)) ByteArray.empty) = true then wrap64 (n - 1) else n) = 0 then (if hashB (ls.getD (ls.length - (d + 1)) ByteArray.empty) = true then (if ls.length - (d + 1) ≤ ns.length then some (ns.drop (ls.length - (d + 1))) else none) else (if ls.length - (d + 1) + 1 ≤ ns.length then some ((ns.take (ls.length - (d + 1) + 1)).drop (ls.length - (d + 1))) else none)) else takesD ls ns d (if wildB (ls.getD (ls.length - (d + 1)) ByteArray.empty) = true then wrap64 (n - 1) else n)) := rfl
theorem takes_val (ls ns : List BA) (_ : ls.length ≤ 1000) : ∀ (d n : Nat), d ≤ ls.length → okL (ls.drop (ls.length - d)) → (ls.drop (ls.length - d) = [] ∨ (ls.length - d ≤ ns.length ∧ matchL (ls.drop (ls.length - d)) (ns.drop (ls.length - d)) = true)) →
    1 ≤ n → n ≤ (ls.drop (ls.length - d)).countP wildM → n ≤ 1000 → takesD ls ns d (n : Int) = some ((takenF ns (ls.drop (ls.length - d)) (ls.length - d)).getD (n - 1) []) := by
  intro d
  induction d with
  | zero =>
    intro n _ _ _ h1 h2 _
    rw [Nat.sub_zero, List.drop_length, List.countP_nil] at h2
    omega
  | succ d ih =>
    intro n hd ho hm h1 h2 h3
    have e := drop_back ls d hd
    have ei : ls.length - (d + 1) + 1 = ls.length - d := by omega
    rw [e] at ho hm h2 ⊢
    rw [takesD_succ]
    generalize ls.getD (ls.length - (d + 1)) ByteArray.empty = x at ho hm h2 ⊢
    obtain ⟨o1, o2⟩ := ho
    obtain ⟨hin, hm⟩ := hm.resolve_left (by simp)
    have hwB : wildB x = (isP x || isR x) := wildM_eq x
    have hhB : hashB x = isR x := beqR x
    have hw1 : wrap64 ((n : Int) - 1) = (n : Int) - 1 := w64 (by omega) (by omega)
    have key : ∀ m : Nat, 1 ≤ m → m ≤ (ls.drop (ls.length - d)).countP wildM → m ≤ 1000 → isR x = false → takesD ls ns d (m : Int) = some ((takenF ns (ls.drop (ls.length - d)) (ls.length - d)).getD (m - 1) []) := by
      intro m m1 m2 m3 hr
      refine ih m (by omega) o2 (.inr ?_) m1 m2 m3
      cases hd2 : ns.drop (ls.length - (d + 1)) with
      | nil =>
        rw [hd2] at hm
        replace hm : isR x = true := hm
        rw [hr] at hm
        cases hm
      | cons y t =>
        obtain ⟨d1, _, d3⟩ := drop_cons ByteArray.empty hd2
        rw [hd2] at hm
        replace hm : (isR x || ((isP x || eqB x y) && matchL (ls.drop (ls.length - d)) t)) = true := hm
        rw [hr, Bool.false_or, Bool.and_eq_true] at hm
        rw [ei] at d3
        exact ⟨by omega, by rw [d3]; exact hm.2⟩
    rw [hwB, hhB, hw1]
    clear hw1
    cases hr : isR x with
    | true =>
      have hp : isP x = false := by
        cases hp : isP x with
        | false => rfl
        | true => exact (RP hr hp).elim
      have hz := o1 hr
      rw [hz, List.countP_cons_of_pos (by rw [wildM_eq, hp, hr]; rfl), List.countP_nil] at h2
      have hn : n = 1 := by omega
      subst hn
      rw [hp, Bool.false_or, if_pos rfl, if_pos (by omega), if_pos rfl, if_pos hin]
      unfold takenF
      rw [if_neg (by rw [hp]; decide), if_pos hr, Nat.min_eq_left hin]
      rfl
    | false =>
      cases hp : isP x with
      | true =>
        rw [List.countP_cons_of_pos (by rw [wildM_eq, hp]; rfl)] at h2
        rw [Bool.true_or, if_pos rfl]
        unfold takenF
        rw [if_pos hp]
        by_cases c : n = 1
        · subst c
          have hlt : ls.length - (d + 1) + 1 ≤ ns.length := by
            cases hd2 : ns.drop (ls.length - (d + 1)) with
            | nil =>
              rw [hd2] at hm
              replace hm : isR x = true := hm
              rw [hr] at hm
              cases hm
            | cons y t =>
              have := (drop_cons ByteArray.empty hd2).1
              omega
          rw [if_pos (by omega), if_neg (by decide), if_pos hlt]
          rfl
        · rw [if_neg (by omega), show (n : Int) - 1 = ((n - 1 : Nat) : Int) by omega, key (n - 1) (by omega) (by omega) (by omega) hr, ei]
          congr 1
          rw [show n - 1 = (n - 1 - 1) + 1 by omega]
          rfl
      | false =>
        rw [List.countP_cons_of_neg (by rw [wildM_eq, hp, hr]; decide)] at h2
        rw [Bool.false_or, if_neg (show ¬ (false = true) by decide), if_neg (show ¬ ((n : Int) = 0) by omega), key n h1 h2 h3 hr]
        rw [takenF_cons, if_neg (by rw [hp]; decide), if_neg (by rw [hr]; decide), ei]
end Go.Proofs.YtegcobkhejpmkaaDoor.Pure

/- The specification's Apply is the program's, for a rule that is checked. -/
-- needs: brokerref45_Apply brokerref45_takes brokerref45_Check brokerref01_Join brokerref02_Matches brokerref45_reference
namespace Go.Proofs.YtegcobkhejpmkaaDoor.Pure
open Go.RowKit Go.Proofs.YtegcobkhejpmkaaDoor.P Go.Proofs.YtegcobkhejpmkaaDoorW.PrintWords Go.Proofs.YtegcobkhejpmkaaDoorW.PrintLast Go.Proofs.YtegcobkhejpmkaaDoor.Ext

theorem repl_part {parts : List (List BA)} {l : BA} (h : 0 < refM l) (h2 : refM l ≤ (parts.length : Int)) : repl parts l = parts.getD ((refM l).toNat - 1) [] := by
  unfold repl
  rw [if_pos ⟨h, h2⟩]
  congr 1
  omega
theorem repl_own {parts : List (List BA)} {l : BA} (h : ¬ 0 < refM l) : repl parts l = [l] := by
  unfold repl
  rw [if_neg (fun k => h k.1)]
theorem getD_mem {parts : List (List BA)} {i : Nat} (h : i < parts.length) : parts.getD i [] ∈ parts := by
  rw [List.getD_eq_getElem?_getD, List.getElem?_eq_getElem h]
  exact List.getElem_mem h
theorem repl_small {parts : List (List BA)} (B : Nat) (hp : ∀ p ∈ parts, p.length ≤ 8 ∧ ∀ x ∈ p, x.size ≤ B) (l : BA) (hl : l.size ≤ B) : (repl parts l).length ≤ 8 ∧ ∀ x ∈ repl parts l, x.size ≤ B := by
  unfold repl
  split
  · rename_i h
    exact hp _ (getD_mem (by omega))
  · refine ⟨by show 1 ≤ 8; omega, fun x hx => by rw [List.mem_singleton.1 hx]; exact hl⟩
theorem seq_small {parts : List (List BA)} (B : Nat) (hp : ∀ p ∈ parts, p.length ≤ 8 ∧ ∀ x ∈ p, x.size ≤ B) : ∀ ls : List BA, (∀ x ∈ ls, x.size ≤ B) → (seqM parts ls).length ≤ 8 * ls.length ∧ ∀ x ∈ seqM parts ls, x.size ≤ B
  | [], _ => ⟨Nat.le_refl _, fun x hx => nomatch hx⟩
  | l :: r, h => by
    obtain ⟨h1, h2⟩ := seq_small B hp r (fun x hx => h x (List.mem_cons_of_mem _ hx))
    obtain ⟨k1, k2⟩ := repl_small B hp l (h l (List.mem_cons_self ..))
    have e : seqM parts (l :: r) = repl parts l ++ seqM parts r := rfl
    rw [e]
    refine ⟨by rw [List.length_append, List.length_cons]; omega, fun x hx => ?_⟩
    rcases List.mem_append.1 hx with hx | hx
    · exact k2 x hx
    · exact h2 x hx
theorem refapply_l0 {a b n : BA} (hf : filterB a = true) (hn : validB n = true) (hb : validB b = true) (hm : matchL (levels a) (levels n) = true) (hr : ∀ l ∈ levels b, 0 < refM l → refM l ≤ (((levels a).countP wildM : Nat) : Int)) :
    ∀ (r acc : List BA) (i : Nat), (levels b).drop i = r → i ≤ (levels b).length → acc.length ≤ 8 * i → (∀ x ∈ acc, x.size ≤ 64) →
      Ev (fun k => brokerref45_Apply.l0 k n (levels b) acc (i : Int) a b) (finR (some ((acc ++ seqM (takenF (levels n) (levels a) 0) r).map toL))) := by
  have za := filter_size hf
  have zn := valid_size hn
  have zb := valid_size hb
  have la := lev8 (sized_f hf)
  have ln := lev8 (sized_v hn)
  have lb := lev8 (sized_v hb)
  have hp : ∀ p ∈ takenF (levels n) (levels a) 0, p.length ≤ 8 ∧ ∀ x ∈ p, x.size ≤ 64 := by
    intro p hpm
    obtain ⟨h1, h2⟩ := taken_part _ _ _ p hpm
    refine ⟨by omega, fun x hx => ?_⟩
    have := levels_size n x (h2 x hx)
    omega
  intro r
  induction r with
  | nil =>
    intro acc i h hi ha hx
    have hz := drop_nil h
    have hx' : ∀ x ∈ acc, x.size ≤ 4096 := fun x hxm => by
      have := hx x hxm
      omega
    have hsz := slash_size (l := acc) (by omega) hx'
    have e : acc ++ seqM (takenF (levels n) (levels a) 0) [] = acc := List.append_nil _
    rw [e]
    refine ev_succ ?_
    simp only [brokerref45_Apply.l0]
    refine ev_neg (by omega) (ev_bind (refjoin_ev acc (by omega) (fun i hi => by
      rw [List.getD_eq_getElem?_getD, List.getElem?_eq_getElem hi]
      exact hx' _ (List.getElem_mem hi))) ?_)
    show Ev _ (if validB (slash (acc.map toL)) = true then _ else _)
    refine ev_bind (refvalid_all _) ?_
    show Ev (fun n => if validB (slash (acc.map toL)) = true then some (slash (acc.map toL), true) else _) _
    by_cases hv : validB (slash (acc.map toL)) = true
    · rw [if_pos hv, if_pos hv]
      exact ev_some rfl
    · rw [if_neg hv, if_neg hv]
      exact ev_some rfl
  | cons l r ih =>
    intro acc i h hi ha hx
    obtain ⟨h1, h2, h3⟩ := drop_cons ByteArray.empty h
    have hlm : l ∈ levels b := List.mem_of_mem_drop (by rw [h]; exact List.mem_cons_self ..)
    have hls := levels_size b l hlm
    have es : acc ++ seqM (takenF (levels n) (levels a) 0) (l :: r) = (acc ++ repl (takenF (levels n) (levels a) 0) l) ++ seqM (takenF (levels n) (levels a) 0) r := by
      rw [List.append_assoc]
      rfl
    obtain ⟨k1, k2⟩ := repl_small 64 hp l (by omega)
    have nx := ih (acc ++ repl (takenF (levels n) (levels a) 0) l) (i + 1) h3 (by omega) (by rw [List.length_append]; omega) (fun x hxm => by
      rcases List.mem_append.1 hxm with hxm | hxm
      · exact hx x hxm
      · exact k2 x hxm)
    rw [es]
    refine ev_succ ?_
    simp only [brokerref45_Apply.l0]
    refine ev_pos (by omega) (ev_pos (by omega) ?_)
    rw [rd_get, h2, up1 i (by omega)]
    refine ev_const (refref_val l) ?_
    by_cases c : 0 < refM l
    · have hc := hr l hlm c
      obtain ⟨r1, r2⟩ := refM_in l
      have hlen := taken_len (levels n) (levels a) 0
      have e := repl_part c (by rw [hlen]; exact hc)
      have en : refM l = (((refM l).toNat : Nat) : Int) := by omega
      have tk := takes_val (levels a) (levels n) (by omega) (levels a).length (refM l).toNat (Nat.le_refl _) (by rw [Nat.sub_self, List.drop_zero]; exact filter_ok hf) (.inr ⟨by omega, by rw [Nat.sub_self, List.drop_zero]; exact hm⟩) (by omega) (by rw [Nat.sub_self, List.drop_zero]; omega) (by omega)
      rw [Nat.sub_self, List.drop_zero, ← e, ← en] at tk
      refine ev_pos c (ev_bind (lev_ev a (by omega)) (ev_bind (lev_ev n (by omega)) (ev_const (a := repl (takenF (levels n) (levels a) 0) l) ?_ (ev_pos (by omega) nx))))
      unfold brokerref45_takes.f takesF
      rw [if_pos (by omega), if_pos (by omega)]
      exact tk
    · rw [repl_own c] at nx ⊢
      exact ev_neg c (ev_pos (by omega) nx)
/-- Rules that are checked have their references in order. -/
theorem rule_refs {a b : BA} (h : ruleV a b = 0) : filterB a = true ∧ validB b = true ∧ ∀ l ∈ levels b, 0 < refM l → refM l ≤ (((levels a).countP wildM : Nat) : Int) := by
  unfold ruleV at h
  by_cases hf : filterB a = true
  · rw [if_pos hf] at h
    by_cases hv : validB b = true
    · rw [if_pos hv] at h
      refine ⟨hf, hv, fun l hl h0 => ?_⟩
      obtain ⟨r1, r2⟩ := refM_in l
      have := (rule_zero _ _ 9 (Nat.le_refl _)).2.1 h (refM l).toNat (by omega) (by omega)
      have hs : refsB (levels b) (((refM l).toNat : Nat) : Int) = true := by
        unfold refsB
        refine List.any_eq_true.2 ⟨l, hl, decide_eq_true (by omega)⟩
      rw [hs] at this
      have := of_decide_eq_true this.symm
      omega
    · rw [if_neg hv] at h
      exact absurd h (by decide)
  · rw [if_neg hf] at h
    exact absurd h (by decide)
theorem refapply_ev {a b n : BA} (h : ruleV a b = 0) (hn : n.size ≤ 9223372036854775806) : Ev (fun k => brokerref45_Apply.f k a b n) (applyV a b n) := by
  obtain ⟨hf, hb, hr⟩ := rule_refs h
  have za := filter_size hf
  have zb := valid_size hb
  simp only [brokerref45_Apply.f]
  unfold applyV
  refine ev_bind (refmatches_ev a n (by omega) hn) ?_
  by_cases hm : matchB a n = true
  · rw [if_pos hm]
    obtain ⟨_, hv, _, hl⟩ := matchB_split hm
    exact ev_pos hm (ev_bind (lev_ev b (by omega)) (refapply_l0 hf hv hb hl hr (levels b) [] 0 rfl (Nat.zero_le _) (Nat.le_refl _) (fun x hx => nomatch hx)))
  · rw [if_neg hm]
    exact ev_neg hm (ev_some rfl)
theorem apply_rule {a b n : BA} (h : ruleV a b = 0) (hn : n.size ≤ 9223372036854775806) : Ev (fun k => mapping_Apply.f k a b n) (applyV a b n) := by
  obtain ⟨hf, hb, hr⟩ := rule_refs h
  have za := filter_size hf
  have zb := valid_size hb
  refine apply_ev a b n (by omega) hn (by omega) (fun hm => ?_)
  obtain ⟨_, hv, _, _⟩ := matchB_split hm
  have zn := valid_size hv
  have la := lev8 (sized_f hf)
  have ln := lev8 (sized_v hv)
  have lb := lev8 (sized_v hb)
  have hp : ∀ p ∈ takenF (levels n) (levels a) 0, p.length ≤ 8 ∧ ∀ x ∈ p, x.size ≤ 64 := by
    intro p hpm
    obtain ⟨h1, h2⟩ := taken_part _ _ _ p hpm
    refine ⟨by omega, fun x hx => ?_⟩
    have := levels_size n x (h2 x hx)
    omega
  obtain ⟨s1, s2⟩ := seq_small 64 hp (levels b) (fun x hx => by
    have := levels_size b x hx
    omega)
  have hlen := taken_len (levels n) (levels a) 0
  have hcp := List.countP_le_length (p := wildM) (l := levels a)
  refine ⟨⟨by omega, by omega, fun p hpm => ?_, by omega⟩, by omega, fun x hx => ?_⟩
  · have := (hp p hpm).1
    omega
  · have := s2 x hx
    omega
end Go.Proofs.YtegcobkhejpmkaaDoor.Pure

/- MappingAll: All is the specification's. -/
-- needs: brokerlaw45_MappingAll brokerref45_All mapping_All brokerref45_has brokerlaw45_has brokerref01_Same slices_Index_string_string slices_Contains_string_string
namespace Go.Proofs.YtegcobkhejpmkaaDoor.Pure
open Go.RowKit Go.Proofs.YtegcobkhejpmkaaDoor.P Go.Proofs.YtegcobkhejpmkaaDoorW.PrintWords Go.Proofs.YtegcobkhejpmkaaDoorW.PrintLast Go.Proofs.YtegcobkhejpmkaaDoor.Ext

def hasV (l : List BA) (x : BA) : Bool := l.any fun y => eqB y x
theorem hasV_cons (a : BA) (l : List BA) (x : BA) : hasV (a :: l) x = (eqB a x || hasV l x) := rfl
theorem refhas_l0 (l : List BA) (x : BA) (hl : l.length ≤ 1000) : ∀ (r : List BA) (i : Nat), l.drop i = r → i ≤ l.length → Ev (fun k => brokerref45_has.l0 k l x (i : Int)) (hasV r x) := by
  intro r
  induction r with
  | nil =>
    intro i h hi
    have hz := drop_nil h
    refine ev_succ ?_
    simp only [brokerref45_has.l0]
    exact ev_neg (by omega) (ev_some rfl)
  | cons a r ih =>
    intro i h hi
    obtain ⟨h1, h2, h3⟩ := drop_cons ByteArray.empty h
    refine ev_succ ?_
    simp only [brokerref45_has.l0]
    refine ev_pos (by omega) (ev_pos (by omega) ?_)
    rw [rd_get, h2, up1 i (by omega), hasV_cons]
    cases c : eqB a x with
    | true => exact ev_pos (eqB_is c) (ev_some rfl)
    | false => exact ev_neg (eqB_not c) (ih (i + 1) h3 (by omega))
theorem lawhas_l0 (l : List BA) (x : BA) (hl : l.length ≤ 1000) : ∀ (r : List BA) (i : Nat), l.drop i = r → i ≤ l.length → Ev (fun k => brokerlaw45_has.l0 k l x (i : Int)) (hasV r x) := by
  intro r
  induction r with
  | nil =>
    intro i h hi
    have hz := drop_nil h
    refine ev_succ ?_
    simp only [brokerlaw45_has.l0]
    exact ev_neg (by omega) (ev_some rfl)
  | cons a r ih =>
    intro i h hi
    obtain ⟨h1, h2, h3⟩ := drop_cons ByteArray.empty h
    refine ev_succ ?_
    simp only [brokerlaw45_has.l0]
    refine ev_pos (by omega) (ev_pos (by omega) ?_)
    rw [rd_get, h2, up1 i (by omega), hasV_cons]
    cases c : eqB a x with
    | true => exact ev_pos (eqB_is c) (ev_some rfl)
    | false => exact ev_neg (eqB_not c) (ih (i + 1) h3 (by omega))
theorem refhas_ev (l : List BA) (x : BA) (hl : l.length ≤ 1000) : Ev (fun k => brokerref45_has.f k l x) (hasV l x) := by
  simp only [brokerref45_has.f]
  exact refhas_l0 l x hl l 0 rfl (Nat.zero_le _)
theorem lawhas_ev (l : List BA) (x : BA) (hl : l.length ≤ 1000) : Ev (fun k => brokerlaw45_has.f k l x) (hasV l x) := by
  simp only [brokerlaw45_has.f]
  exact lawhas_l0 l x hl l 0 rfl (Nat.zero_le _)
theorem index_l0 (l : List BA) (x : BA) (hl : l.length ≤ 1000) : ∀ (r : List BA) (i : Nat), l.drop i = r → i ≤ l.length → ∃ t : Int, Ev (fun k => slices_Index_string_string.l0 k l x (l.length : Int) (i : Int)) t ∧ decide (t ≥ 0) = hasV r x := by
  intro r
  induction r with
  | nil =>
    intro i h hi
    have hz := drop_nil h
    refine ⟨-1, ?_, rfl⟩
    refine ev_succ ?_
    simp only [slices_Index_string_string.l0]
    exact ev_neg (by omega) (ev_some rfl)
  | cons a r ih =>
    intro i h hi
    obtain ⟨h1, h2, h3⟩ := drop_cons ByteArray.empty h
    rw [hasV_cons]
    cases c : eqB a x with
    | true =>
      refine ⟨(i : Int), ?_, decide_eq_true (by omega)⟩
      refine ev_succ ?_
      simp only [slices_Index_string_string.l0]
      refine ev_pos (by omega) (ev_pos (by omega) (ev_pos (by omega) ?_))
      rw [rd_get, h2]
      exact ev_pos (eqB_is c).symm (ev_some rfl)
    | false =>
      obtain ⟨t, ht, hd⟩ := ih (i + 1) h3 (by omega)
      refine ⟨t, ?_, hd⟩
      refine ev_succ ?_
      simp only [slices_Index_string_string.l0]
      refine ev_pos (by omega) (ev_pos (by omega) (ev_pos (by omega) ?_))
      rw [rd_get, h2, up1 i (by omega)]
      exact ev_neg (fun h => eqB_not c h.symm) ht
theorem contains_ev (l : List BA) (x : BA) (hl : l.length ≤ 1000) : Ev (fun k => slices_Contains_string_string.f k l x) (hasV l x) := by
  obtain ⟨t, ht, hd⟩ := index_l0 l x hl l 0 rfl (Nat.zero_le _)
  simp only [slices_Contains_string_string.f, slices_Index_string_string.f]
  refine ev_bind ht (ev_some ?_)
  rw [← hd]
/-- What All gathers. -/
def addV (v : BA × Bool) (acc : List BA) : List BA := if v.2 = true then (if hasV acc v.1 = true then acc else acc ++ [v.1]) else acc
def allV (n : BA) : List S28 → List BA → List BA
  | [], acc => acc
  | r :: t, acc => allV n t (addV (applyV r.f0 r.f1 n) acc)
theorem addV_len (v : BA × Bool) (acc : List BA) : (addV v acc).length ≤ acc.length + 1 := by
  unfold addV
  repeat' split
  · omega
  · rw [List.length_append]
    exact Nat.le_refl _
  · omega
theorem hasV_append (a b : List BA) (x : BA) : hasV (a ++ b) x = (hasV a x || hasV b x) := List.any_append
theorem addV_keep {v : BA × Bool} {acc : List BA} {x : BA} (h : hasV acc x = true) : hasV (addV v acc) x = true := by
  unfold addV
  repeat' split
  · exact h
  · rw [hasV_append, h]
    rfl
  · exact h
theorem addV_has {v : BA × Bool} (acc : List BA) (h : v.2 = true) : hasV (addV v acc) v.1 = true := by
  unfold addV
  rw [if_pos h]
  split
  · assumption
  · rw [hasV_append, hasV_cons, eqB_self]
    simp
theorem allV_keep (n : BA) : ∀ (r : List S28) (acc : List BA) {x : BA}, hasV acc x = true → hasV (allV n r acc) x = true
  | [], _, _, h => h
  | _ :: t, _, _, h => allV_keep n t _ (addV_keep h)
theorem allV_has (n : BA) : ∀ (r : List S28) (acc : List BA) (y : S28), y ∈ r → (applyV y.f0 y.f1 n).2 = true → hasV (allV n r acc) (applyV y.f0 y.f1 n).1 = true
  | r :: t, acc, y, hy, h => by
    rcases List.mem_cons.1 hy with e | hy
    · subst e
      exact allV_keep n t _ (addV_has acc h)
    · exact allV_has n t _ y hy h
theorem allV_len (n : BA) : ∀ (r : List S28) (acc : List BA), (allV n r acc).length ≤ acc.length + r.length
  | [], _ => Nat.le_refl _
  | r :: t, acc => by
    have h1 := allV_len n t (addV (applyV r.f0 r.f1 n) acc)
    have h2 := addV_len (applyV r.f0 r.f1 n) acc
    show (allV n t (addV (applyV r.f0 r.f1 n) acc)).length ≤ _
    rw [List.length_cons]
    omega
theorem refall_l0 (n : BA) (hn : n.size ≤ 9223372036854775806) (l : List S28) (hl : l.length ≤ 32) (hc : ∀ x ∈ l, ruleV x.f0 x.f1 = 0) : ∀ (r : List S28) (acc : List BA) (i : Nat), l.drop i = r → i ≤ l.length → acc.length ≤ i →
    Ev (fun k => brokerref45_All.l0 k l n acc (i : Int)) (allV n r acc) := by
  intro r
  induction r with
  | nil =>
    intro acc i h hi ha
    have hz := drop_nil h
    refine ev_succ ?_
    simp only [brokerref45_All.l0]
    exact ev_neg (by omega) (ev_some rfl)
  | cons y r ih =>
    intro acc i h hi ha
    obtain ⟨h1, h2, h3⟩ := drop_cons z28 h
    have hy : y ∈ l := List.mem_of_mem_drop (by rw [h]; exact List.mem_cons_self ..)
    have er : rd_T28 l (i : Int) = y := h2
    have hla := addV_len (applyV y.f0 y.f1 n) acc
    have nx := ih (addV (applyV y.f0 y.f1 n) acc) (i + 1) h3 (by omega) (by omega)
    refine ev_succ ?_
    simp only [brokerref45_All.l0]
    refine ev_pos (by omega) (ev_pos (by omega) ?_)
    rw [er, up1 i (by omega)]
    refine ev_bind (refapply_ev (hc y hy) hn) ?_
    show Ev _ (allV n r (addV (applyV y.f0 y.f1 n) acc))
    unfold addV at nx ⊢
    by_cases c : (applyV y.f0 y.f1 n).2 = true
    · rw [if_pos c] at nx ⊢
      refine ev_pos c (ev_bind (refhas_ev acc _ (by omega)) ?_)
      by_cases c2 : hasV acc (applyV y.f0 y.f1 n).1 = true
      · rw [if_pos c2] at nx ⊢
        exact ev_pos c2 nx
      · rw [if_neg c2] at nx ⊢
        exact ev_neg c2 (ev_pos (by omega) nx)
    · rw [if_neg c] at nx ⊢
      exact ev_neg c nx
theorem progall_l0 (n : BA) (hn : n.size ≤ 9223372036854775806) (l : List S28) (hl : l.length ≤ 32) (hc : ∀ x ∈ l, ruleV x.f0 x.f1 = 0) : ∀ (r : List S28) (acc : List BA) (i : Nat), l.drop i = r → i ≤ l.length → acc.length ≤ i →
    Ev (fun k => mapping_All.l0 k n acc l (l.length : Int) (i : Int)) (allV n r acc) := by
  intro r
  induction r with
  | nil =>
    intro acc i h hi ha
    have hz := drop_nil h
    refine ev_succ ?_
    simp only [mapping_All.l0]
    exact ev_neg (by omega) (ev_some rfl)
  | cons y r ih =>
    intro acc i h hi ha
    obtain ⟨h1, h2, h3⟩ := drop_cons z28 h
    have hy : y ∈ l := List.mem_of_mem_drop (by rw [h]; exact List.mem_cons_self ..)
    have er : rd_T28 l (i : Int) = y := h2
    have hla := addV_len (applyV y.f0 y.f1 n) acc
    have nx := ih (addV (applyV y.f0 y.f1 n) acc) (i + 1) h3 (by omega) (by omega)
    refine ev_succ ?_
    simp only [mapping_All.l0]
    refine ev_pos (by omega) (ev_pos (by omega) (ev_pos (by omega) ?_))
    rw [er, up1 i (by omega)]
    refine ev_bind (apply_rule (hc y hy) hn) ?_
    show Ev _ (allV n r (addV (applyV y.f0 y.f1 n) acc))
    unfold addV at nx ⊢
    by_cases c : (applyV y.f0 y.f1 n).2 = true
    · rw [if_pos c] at nx ⊢
      refine ev_pos c (ev_bind (contains_ev acc _ (by omega)) ?_)
      by_cases c2 : hasV acc (applyV y.f0 y.f1 n).1 = true
      · rw [if_pos c2] at nx ⊢
        exact ev_pos c2 nx
      · rw [if_neg c2] at nx ⊢
        exact ev_neg c2 (ev_pos (by omega) nx)
    · rw [if_neg c] at nx ⊢
      exact ev_neg c nx
theorem lawall_l0 (n : BA) (hn : n.size ≤ 9223372036854775806) (l : List S28) (hl : l.length ≤ 32) (hc : ∀ x ∈ l, ruleV x.f0 x.f1 = 0) (out : List BA) (ho : out.length ≤ 32) (hs : ∀ y ∈ l, (applyV y.f0 y.f1 n).2 = true → hasV out (applyV y.f0 y.f1 n).1 = true) :
    ∀ (r : List S28) (i : Nat), l.drop i = r → i ≤ l.length → Ev (fun k => brokerlaw45_MappingAll.l0 k l n out (i : Int)) true := by
  intro r
  induction r with
  | nil =>
    intro i h hi
    have hz := drop_nil h
    refine ev_succ ?_
    simp only [brokerlaw45_MappingAll.l0]
    exact ev_neg (by omega) (ev_bind awake_ev (ev_some rfl))
  | cons y r ih =>
    intro i h hi
    obtain ⟨h1, h2, h3⟩ := drop_cons z28 h
    have hy : y ∈ l := List.mem_of_mem_drop (by rw [h]; exact List.mem_cons_self ..)
    have er : rd_T28 l (i : Int) = y := h2
    have nx := ih (i + 1) h3 (by omega)
    refine ev_succ ?_
    simp only [brokerlaw45_MappingAll.l0]
    refine ev_pos (by omega) (ev_pos (by omega) ?_)
    rw [er, up1 i (by omega)]
    refine ev_bind (apply_rule (hc y hy) hn) ?_
    by_cases c : (applyV y.f0 y.f1 n).2 = true
    · exact ev_pos c (ev_bind (lawhas_ev out _ (by omega)) (ev_pos (hs y hy c) nx))
    · exact ev_neg c nx
theorem first_zero : ∀ {l : List S28}, firstV l = 0 → ∀ x ∈ l, ruleV x.f0 x.f1 = 0
  | [], _, x, hx => nomatch hx
  | r :: t, h, x, hx => by
    unfold firstV at h
    by_cases c : ruleV r.f0 r.f1 = 0
    · rw [if_pos c] at h
      rcases List.mem_cons.1 hx with e | hx
      · subst e
        exact c
      · exact first_zero h x hx
    · rw [if_neg c] at h
      exact absurd h c
theorem MappingAll' {N : Nat} (l : List S28) (h : l.length ≤ N ∧ l.length ≤ maxLen ∧ ∀ x ∈ l, (x.f0.size ≤ N ∧ x.f0.size ≤ maxLen) ∧ (x.f1.size ≤ N ∧ x.f1.size ≤ maxLen)) (n : ByteArray) (hn : n.size ≤ 140737488351232) : ∃ k, brokerlaw45_MappingAll.f k l n = some true := by
  have hM : maxLen ≤ 9223372036854775807 := by decide
  have : Ev (fun k => brokerlaw45_MappingAll.f k l n) true := by
    simp only [brokerlaw45_MappingAll.f]
    refine ev_bind (refcheck_ev l (fun x hx => Nat.le_trans (h.2.2 x hx).2.2 hM)) ?_
    by_cases hc : refCheckV l = 0
    · unfold refCheckV at hc
      by_cases hl : l.length > 32
      · rw [if_pos hl] at hc
        exact absurd hc (by decide)
      · rw [if_neg hl] at hc
        have hz := first_zero hc
        have hlen := allV_len n l []
        rw [List.length_nil] at hlen
        refine ev_pos (by unfold refCheckV; rw [if_neg hl]; exact hc) ?_
        have e1 : Ev (fun k => mapping_All.f k l n) (allV n l []) := by
          simp only [mapping_All.f]
          exact progall_l0 n (by omega) l (by omega) hz l [] 0 rfl (Nat.zero_le _) (Nat.le_refl _)
        have e2 : Ev (fun k => brokerref45_All.f k l n) (allV n l []) := by
          simp only [brokerref45_All.f]
          exact refall_l0 n (by omega) l (by omega) hz l [] 0 rfl (Nat.zero_le _) (Nat.le_refl _)
        exact ev_bind e1 (ev_bind e2 (ev_bind (same_ev _ (by omega)) (ev_tt (lawall_l0 n (by omega) l (by omega) hz _ (by omega) (fun y hy hh => allV_has n l [] y hy hh) l 0 rfl (Nat.zero_le _)))))
    · exact ev_neg hc (ev_bind awake_ev (ev_some rfl))
  obtain ⟨k, hk⟩ := this
  exact ⟨k, hk k (Nat.le_refl _)⟩
end Go.Proofs.YtegcobkhejpmkaaDoor.Pure
