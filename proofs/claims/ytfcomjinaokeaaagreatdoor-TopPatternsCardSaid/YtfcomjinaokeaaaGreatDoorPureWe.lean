
/- What the printed words, patterns and keys answer. -/
import Derived.Test.YtfcomjinaokeaaaGreatDoorPx1
import Derived.Test.YtfcomjinaokeaaaGreatDoorPx5
import Derived.Test.YtfcomjinaokeaaaGreatDoorPureWd
-- needs: mapping_word mapping_Pattern_1 mapping_level brokerref45_Word brokerref45_level brokerref45_points mapping_joined mapping_joined2 mapping_Key mapping_Pattern brokerref45_Key brokerref45_Pattern
namespace Go.Proofs.YtfcomjinaokeaaaGreatDoor.Pure
open Go.RowKit Go.Proofs.YtfcomjinaokeaaaGreatDoor.P Go.Proofs.YtfcomjinaokeaaaGreatDoorW.PrintWords Go.Proofs.YtfcomjinaokeaaaGreatDoorW.PrintLast Go.Proofs.YtfcomjinaokeaaaGreatDoor.Ext

/-! ### words -/
def nums (l : List UInt8) : List Int := l.map fun b => (b.toNat : Int)
theorem nums_append (a b : List UInt8) : nums (a ++ b) = nums a ++ nums b := List.map_append
theorem nums_len (l : List UInt8) : (nums l).length = l.length := List.length_map ..
theorem strOf_nums (l : List UInt8) : strOfNums (nums l) = mkB l := by
  unfold strOfNums nums mkB
  rw [List.map_map]
  have : (l.map ((fun n : Int => UInt8.ofNat n.toNat) ∘ fun b => (b.toNat : Int))) = l := by
    conv => rhs; rw [← List.map_id l]
    refine List.map_congr_left (fun b _ => ?_)
    show UInt8.ofNat ((b.toNat : Int)).toNat = b
    rw [Int.toNat_natCast]
    exact UInt8.ofNat_toNat
  rw [this]
theorem at_drop {s : BA} {i : Nat} {b : UInt8} {r : List UInt8} (h : (toL s).drop i = b :: r) : i < s.size ∧ bt s (i : Int) = (b.toNat : Int) ∧ (toL s).drop (i + 1) = r := by
  obtain ⟨h1, h2, h3⟩ := drop_cons (0 : UInt8) h
  rw [toL_len] at h1
  refine ⟨h1, ?_, h3⟩
  obtain ⟨c, hc, ec⟩ := toL_at h1
  rw [bt_by, ← ec]
  rw [List.getD_eq_getElem?_getD, hc] at h2
  rw [← h2]
  rfl
theorem at_end {s : BA} {i : Nat} (h : (toL s).drop i = []) : s.size ≤ i := by
  have := drop_nil h
  rw [toL_len] at this
  exact this
theorem u8n {b : UInt8} {n : Nat} (hn : n < 256) : (b.toNat : Int) = (n : Int) ↔ b = UInt8.ofNat n := by
  constructor
  · intro h
    exact u8_eq (by omega) hn
  · intro h
    subst h
    rw [UInt8.toNat_ofNat']
    omega
theorem word_val (s : BA) (hs : s.size ≤ 400000) : mapping_word.f s = some (mkB (wordL (toL s))) := by
  unfold mapping_word.f wordL
  rw [toList_toL]
  by_cases h : toL s = []
  · rw [if_pos h, if_pos h]
    rfl
  · rw [if_neg h, if_neg h]
    by_cases h2 : toL s = [42]
    · rw [if_pos h2, if_pos h2]
      rfl
    · rw [if_neg h2, if_neg h2]
      have e1 : strings_ReplaceAll.f s (⟨#[37]⟩ : ByteArray) (⟨#[37, 37]⟩ : ByteArray) = some (mkB (replL 37 [37, 37] (toL s))) := by
        unfold strings_ReplaceAll.f replF
        rw [if_pos (show (⟨#[37]⟩ : ByteArray).size = 1 from rfl), if_pos (by omega), if_pos (show (⟨#[37, 37]⟩ : ByteArray).size = 2 from rfl)]
        rfl
      have hl : (replL 37 [37, 37] (toL s)).length ≤ 1000000 := by
        have : ∀ l : List UInt8, (replL 37 [37, 37] l).length ≤ 2 * l.length := by
          intro l
          induction l with
          | nil => exact Nat.le_refl _
          | cons b l ih =>
            unfold replL at ih ⊢
            rw [List.flatMap_cons, List.length_append, List.length_cons]
            split
            · show 2 + _ ≤ _
              omega
            · show 1 + _ ≤ _
              omega
        have := this (toL s)
        rw [toL_len] at this
        omega
      have e2 : strings_ReplaceAll.f (mkB (replL 37 [37, 37] (toL s))) (⟨#[46]⟩ : ByteArray) (⟨#[37, 112]⟩ : ByteArray) = some (mkB (replL 46 [37, 112] (replL 37 [37, 37] (toL s)))) := by
        unfold strings_ReplaceAll.f replF
        rw [if_pos (show (⟨#[46]⟩ : ByteArray).size = 1 from rfl), if_pos (by rw [size_mk]; omega), if_pos (show (⟨#[37, 112]⟩ : ByteArray).size = 2 from rfl)]
        rfl
      rw [e1, Option.bind_some, e2, Option.bind_some, esc_repl]
def patL (l : List UInt8) : List UInt8 := if l = [43] then [42] else if l = [35] then [35] else wordL l
theorem pattern1_val (s : BA) (hs : s.size ≤ 400000) : mapping_Pattern_1.f s = some (mkB (patL (toL s))) := by
  unfold mapping_Pattern_1.f patL
  rw [toList_toL]
  by_cases h : toL s = [43]
  · rw [if_pos h, if_pos h]
    rfl
  · rw [if_neg h, if_neg h]
    by_cases h2 : toL s = [35]
    · rw [if_pos h2, if_pos h2]
      rfl
    · rw [if_neg h2, if_neg h2, word_val s hs, Option.bind_some]
/-! ### levels read back -/
def decOf (o : Option (List UInt8)) : BA × Bool := match o with
  | some q => (mkB q, true)
  | none => (⟨#[]⟩, false)
theorem level_l0 (s : BA) (hs : s.size ≤ 1000000) : ∀ (n : Nat) (r : List UInt8) (i : Nat) (p : List UInt8), r.length ≤ n → (toL s).drop i = r → i ≤ s.size → p.length ≤ i →
    Ev (fun k => mapping_level.l0 k s (nums p) (i : Int)) (decOf ((decD r).map (p ++ ·))) := by
  intro n
  induction n with
  | zero =>
    intro r i p hn h hi hp
    obtain rfl : r = [] := List.eq_nil_of_length_eq_zero (by omega)
    have hz := at_end h
    refine ev_succ ?_
    simp only [mapping_level.l0]
    refine ev_neg (by omega) (ev_some ?_)
    rw [strOf_nums]
    show _ = some (mkB (p ++ []), true)
    rw [List.append_nil]
  | succ n ih =>
    intro r i p hn h hi hp
    cases r with
    | nil =>
      have hz := at_end h
      refine ev_succ ?_
      simp only [mapping_level.l0]
      refine ev_neg (by omega) (ev_some ?_)
      rw [strOf_nums]
      show _ = some (mkB (p ++ []), true)
      rw [List.append_nil]
    | cons b r =>
      obtain ⟨h1, h2, h3⟩ := at_drop h
      rw [List.length_cons] at hn
      refine ev_succ ?_
      simp only [mapping_level.l0]
      refine ev_pos (by omega) (ev_pos (by omega) ?_)
      rw [h2, up1 i (by omega)]
      have mp : ∀ (o : Option (List UInt8)) (c : UInt8), (o.map (c :: ·)).map (p ++ ·) = o.map ((p ++ [c]) ++ ·) := by
        intro o c
        cases o with
        | none => rfl
        | some q => simp
      by_cases c : b = 37
      · refine ev_pos (by rw [c]; rfl) ?_
        subst c
        cases r with
        | nil =>
          have hz := at_end h3
          refine ev_neg (by omega) (ev_succ ?_)
          simp only [mapping_level.j1]
          refine ev_ff (ev_neg (by omega) (ev_some ?_))
          rfl
        | cons c r =>
          obtain ⟨k1, k2, k3⟩ := at_drop h3
          rw [List.length_cons] at hn
          refine ev_pos (by omega) (ev_pos (by omega) ?_)
          rw [k2]
          refine ev_succ ?_
          simp only [mapping_level.j1]
          rw [k2, up1 (i + 1) (by omega)]
          by_cases c1 : c = 37
          · rw [c1]
            refine ev_pos (by rfl) (ev_pos (by rw [nums_len]; omega) ?_)
            have := ih r (i + 2) (p ++ [37]) (by omega) k3 (by omega) (by rw [List.length_append]; show _ + 1 ≤ _; omega)
            rw [nums_append] at this
            have e : decD (37 :: 37 :: r) = (decD r).map (37 :: ·) := by
              conv => lhs; unfold decD
              rfl
            rw [e, mp]
            exact this
          · refine ev_neg (fun h => c1 ((u8n (n := 37) (by decide)).1 (eq_of_beq h))) (ev_pos (by omega) (ev_pos (by omega) ?_))
            by_cases c2 : c = 112
            · rw [c2]
              refine ev_pos (by rfl) (ev_pos (by rw [nums_len]; omega) ?_)
              have := ih r (i + 2) (p ++ [46]) (by omega) k3 (by omega) (by rw [List.length_append]; show _ + 1 ≤ _; omega)
              rw [nums_append] at this
              have e : decD (37 :: 112 :: r) = (decD r).map (46 :: ·) := by
                conv => lhs; unfold decD
                rfl
              rw [e, mp]
              exact this
            · refine ev_neg (fun h => c2 ((u8n (n := 112) (by decide)).1 h)) (ev_some ?_)
              have e : decD (37 :: c :: r) = none := by
                unfold decD
                rw [if_pos rfl, if_neg c1, if_neg c2]
              rw [e]
              rfl
      · refine ev_neg (fun h => c ((u8n (n := 37) (by decide)).1 h)) (ev_pos (by rw [nums_len]; omega) ?_)
        have := ih r (i + 1) (p ++ [b]) (by omega) h3 (by omega) (by rw [List.length_append]; show _ + 1 ≤ _; omega)
        rw [nums_append] at this
        rw [decD_plain b r c, mp]
        exact this
theorem level_ev (s : BA) (hs : s.size ≤ 1000000) : Ev (fun k => mapping_level.f k s) (decOf (decL (toL s))) := by
  simp only [mapping_level.f, decL]
  rw [toList_toL]
  by_cases h : toL s = [37, 101]
  · rw [if_pos h]
    exact ev_pos h (ev_some rfl)
  · rw [if_neg h]
    refine ev_neg h ?_
    by_cases h2 : toL s = [37, 97]
    · rw [if_pos h2]
      exact ev_pos h2 (ev_some rfl)
    · rw [if_neg h2]
      have := level_l0 s hs _ (toL s) 0 [] (Nat.le_refl _) rfl (Nat.zero_le _) (Nat.zero_le _)
      have e : (decD (toL s)).map (([] : List UInt8) ++ ·) = decD (toL s) := by
        cases decD (toL s) <;> rfl
      rw [e] at this
      exact ev_neg h2 this
end Go.Proofs.YtfcomjinaokeaaaGreatDoor.Pure
