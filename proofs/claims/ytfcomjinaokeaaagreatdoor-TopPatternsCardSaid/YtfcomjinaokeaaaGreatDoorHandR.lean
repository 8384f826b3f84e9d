/- strings.ReplaceAll at an old of one byte (no cell of memory is asked for), strings.Contains at one byte: walked, turned from the shelf's road. -/
import Derived.Test.YtfcomjinaokeaaaGreatDoorExtB
import Derived.Shelf.Strings.Replace
namespace Go.Proofs.YtfcomjinaokeaaaGreatDoor.Ext
open Go.Shelf Go.RowKit Go.Proofs.YtfcomjinaokeaaaGreatDoorW.PrintWords
variable {P : Program} {ρ : Ren}

theorem count_one_ (L : Lays.n138 P ρ) (s : ByteArray) (c : UInt8) (w : World) : Calls P (ρ.f 138) #[.string s, .string ⟨#[c]⟩] w fun e w' => e = .returned (.int .i64 (Lib.countB s ⟨#[c]⟩ : Int)) ∧ w' = w :=
  (Any.strings_Count_one L s c w).mono fun e w' ⟨he, hw⟩ => ⟨by
    rw [he]
    show _ = Ending.returned (Value.int .i64 ((Lib.count s.data.toList [c] : Nat) : Int))
    rw [Lib.count_one]
    rfl, hw⟩
theorem replace_none_ (L : Lays.n154 P ρ) (s new : ByteArray) (c : UInt8) (w : World) (hne : (⟨#[c]⟩ : ByteArray) ≠ new) (h0 : Lib.countB s ⟨#[c]⟩ = 0) :
    Calls P (ρ.f 154) #[.string s, .string ⟨#[c]⟩, .string new, .int .i64 (-1)] w fun e w' => e = .returned (.string s) ∧ w' = w := by
  have hC := count_one_ { L with } s c w
  rw [h0] at hC
  have hbeq : ((⟨#[c]⟩ : ByteArray).toList == new.toList) = false := (Lib.bytes_beq_false_iff _ new).2 hne
  generalize (⟨#[c]⟩ : ByteArray) = old at hC hbeq
  have t3 := L.t3; have a3 := L.a3; have z3 := L.z3; have v3 := L.v3
  have t9 := L.t9; have a9 := L.a9; have z9 := L.z9; have v9 := L.v9
  have t4 := L.t4; have a4 := L.a4; have z4 := L.z4; have v4 := L.v4
  have e138 : ∀ args w, (callFunc (ρ.f 138) args).run P w = .ok (.enter (ρ.f 138) args) w := enters_of L.f138 (by kernel_rfl) rfl
  go_enter L.f154, Body.n154_ntmps ρ
  go_wp2_with (first | (go_at_fn (ρ.f 138); refine hC.mono ?_; rintro e w' ⟨rfl, hw⟩; rw [hw]))
  go_ret
  exact ⟨rfl, rfl⟩

set_option maxHeartbeats 16000000 in
set_option maxRecDepth 1000000 in
theorem replace_some_ (L : Lays.n154 P ρ) (X : Builder.Extra P ρ) (s new : ByteArray) (c : UInt8) (w : World) (hs : s.size < 4294967281) (hne : (⟨#[c]⟩ : ByteArray) ≠ new) (h0 : Lib.countB s ⟨#[c]⟩ ≠ 0)
    (hlen : s.size + Lib.countB s ⟨#[c]⟩ * new.size ≤ 140737488355328) :
    Calls P (ρ.f 154) #[.string s, .string ⟨#[c]⟩, .string new, .int .i64 (-1)] w fun e w' =>
      e = .returned (.string ⟨(Lib.replaceK [c] new.data.toList (Lib.countB s ⟨#[c]⟩) s.data.toList).toArray⟩) ∧ Below w.heap.size w w' := by
  have hC := count_one_ { L with } s c w
  have hI : ∀ x w, Calls P (ρ.f 143) #[.string x, .string ⟨#[c]⟩] w fun e w' => e = .returned (.int .i64 (Lib.index x.data.toList [c])) ∧ w' = w := fun x w =>
    (Any.strings_Index_one { L with } x c w).mono fun e w' ⟨he, hw⟩ => ⟨by rw [he, ← Lib.index_one], hw⟩
  obtain ⟨old, hold⟩ : ∃ old : ByteArray, (⟨#[c]⟩ : ByteArray) = old := ⟨_, rfl⟩
  have hol : [c] = old.data.toList := by rw [← hold]
  have hos : old.size = 1 := by rw [← hold]; rfl
  rw [hold] at hne h0 hlen hC hI ⊢
  rw [hol] at hI ⊢
  have hmul := Lib.countB_mul_le old (by omega) s.size s (Nat.le_refl _)
  rw [hos, Nat.mul_one] at hmul
  obtain ⟨K, hK⟩ : ∃ K : Nat, Lib.countB s old = K := ⟨_, rfl⟩
  have hKcount : K ≤ Lib.count (s.data.toList.drop 0) old.data.toList := by rw [List.drop_zero, ← hK]; exact Nat.le_refl _
  rw [hK] at hC hlen h0 hmul ⊢
  have hbeq : (old.toList == new.toList) = false := (Lib.bytes_beq_false_iff old new).2 hne
  have hcz : ((K : Int) == 0) = false := beq_eq_false_iff_ne.2 (by omega)
  have ho0 : (0 : Int) < (old.size : Int) := by omega
  have hlenL : s.data.toList.length = s.size := (Lib.size_eq s).symm
  have hlenO : old.data.toList.length = old.size := (Lib.size_eq old).symm
  have hga := Lib.grow_arg s.size K new.size old.size (by omega) (by rw [hos]; omega) (by omega)
  have hod : decide (0 < old.size) = true := decide_eq_true (by omega)
  have HOS := Any.hidR hos
  clear hK hol hold hne hos
  have mixed := L.mixed
  have t72 := L.t72; have a72 := L.a72; have z72 := L.z72; have v72 := L.v72; have u72 := run_underlying L.t72
  have t70 := L.t70; have a70 := L.a70; have z70 := L.z70; have v70 := L.v70; have u70 := run_underlying L.t70
  have t37 := L.t37; have a37 := L.a37; have z37 := L.z37; have v37 := L.v37; have u37 := run_underlying L.t37
  have t3 := L.t3; have a3 := L.a3; have z3 := L.z3; have v3 := L.v3; have u3 := run_underlying L.t3
  have t9 := L.t9; have a9 := L.a9; have z9 := L.z9; have v9 := L.v9; have u9 := run_underlying L.t9
  have t4 := L.t4; have a4 := L.a4; have z4 := L.z4; have v4 := L.v4; have u4 := run_underlying L.t4
  have e138 : ∀ args w, (callFunc (ρ.f 138) args).run P w = .ok (.enter (ρ.f 138) args) w := enters_of L.f138 (by kernel_rfl) rfl
  have e143 : ∀ args w, (callFunc (ρ.f 143) args).run P w = .ok (.enter (ρ.f 143) args) w := enters_of L.f143 (by kernel_rfl) rfl
  have e165 : ∀ args w, (callFunc (ρ.f 165) args).run P w = .ok (.enter (ρ.f 165) args) w := enters_of L.f165 (by kernel_rfl) rfl
  have e166 : ∀ args w, (callFunc (ρ.f 166) args).run P w = .ok (.enter (ρ.f 166) args) w := enters_of L.f166 (by kernel_rfl) rfl
  have e169 : ∀ args w, (callFunc (ρ.f 169) args).run P w = .ok (.enter (ρ.f 169) args) w := enters_of L.f169 (by kernel_rfl) rfl
  go_enter L.f154, Body.n154_ntmps ρ
  go_wp2_with (first | (go_at_fn (ρ.f 138); refine hC.mono ?_; rintro e w' ⟨rfl, hw⟩; rw [hw]))
  all_goals (
  clear hC
  try rw [hga]
  refine (Any.Builder_Grow_fresh { L with } X w.heap.size w.heap.size _ _ (Nat.le_refl _) (heap_alloc_new w _) (by simp) (by have := HOS.out; omega)).mono ?_
  rintro e w1 ⟨rfl, hb0, hb1⟩
  have H1 := Any.hidR (Or.inr hb0 : Lib.IsBuilder (ρ.t 72) (ρ.t 5) w.heap.size w.heap.size (Lib.byteCells []) w1)
  have Hb1 := Any.hidR (((Below.refl w.heap.size w).alloc (Nat.le_refl _) _).trans hb1)
  clear hb0 hb1 hga
  go_wp2_with fail
  go_loopg [11, 53] K (fun g s11 s53 wx => ∃ (i start : Nat) (acc : List UInt8), s53 = .int .i64 i ∧ s11 = .int .i64 start ∧ i + g = K ∧ start ≤ s.size ∧
    Hid (Lib.IsBuilder (ρ.t 72) (ρ.t 5) w.heap.size w.heap.size (Lib.byteCells acc) wx) ∧ Hid (Below w.heap.size w wx) ∧ Hid (acc ++ Lib.replaceK old.data.toList new.data.toList g (s.data.toList.drop start) = Lib.replaceK old.data.toList new.data.toList K s.data.toList) ∧
    g ≤ Lib.count (s.data.toList.drop start) old.data.toList ∧ acc.length + (s.size - start) + g * new.size ≤ s.size + K * new.size)
  case atStart => exact ⟨0, 0, [], rfl, rfl, by omega, Nat.zero_le _, H1, Hb1, Any.hidR (by simp), hKcount, by simp⟩
  case round =>
    obtain ⟨i, start, acc, rfl, rfl, hig, hst, HB, HW, HR, hgc, hbd⟩ := hrel
    have hBw : w.heap.size ≤ wr.heap.size := HW.out.size
    have c1 : (0 : Int) ≤ (start : Int) := by omega
    have c2 : (start : Int) ≤ (s.size : Int) := by omega
    cases gk with
    | zero =>
      have hiK : ¬ ((i : Int) < (K : Int)) := by omega
      go_wp2_with fail
      refine (Any.Builder_WriteString { L with } X w.heap.size w.heap.size _ _ wr HB.out (by rw [Lib.byteCells_length, ByteArray.size_extract]; omega) hBw).mono ?_
      rintro e w3 ⟨rfl, h3, hb3⟩
      rw [Lib.strCells_eq, Lib.extract_to_end, ← Lib.byteCells_append] at h3
      have hfin : acc ++ s.data.toList.drop start = Lib.replaceK old.data.toList new.data.toList K s.data.toList := HR.out
      rw [hfin] at h3
      have H3 := Any.hidR (Or.inr h3 : Lib.IsBuilder (ρ.t 72) (ρ.t 5) w.heap.size w.heap.size _ w3)
      have Hb3 := Any.hidR (HW.out.trans hb3)
      have hBw3 : w.heap.size ≤ w3.heap.size := Hb3.out.size
      clear h3 hb3 hfin
      go_wp2_with fail
      refine (Any.Builder_String_any { L with } X w.heap.size w.heap.size _ w3 H3.out hBw3).mono ?_
      rintro e w5 ⟨rfl, hb5⟩
      have Hb5 := Any.hidR (Hb3.out.trans hb5)
      clear hb5
      go_wp2
      go_ret
      exact ⟨rfl, Hb5.out⟩
    | succ g =>
      have hiK : (i : Int) < (K : Int) := by omega
      obtain ⟨j, hj⟩ := Lib.index_of_count (s := s.data.toList.drop start) (old := old.data.toList) (by omega)
      have hroom : j + old.size ≤ s.size - start := by
        have := Lib.index_room (s.data.toList.drop start) old.data.toList (by rw [hj]; omega)
        rw [hj, List.length_drop, hlenL, hlenO] at this
        omega
      have hsucc : (g + 1) * new.size = g * new.size + new.size := Nat.succ_mul _ _
      have c3 : (start : Int) ≤ (start : Int) + (j : Int) := by omega
      have c4 : (start : Int) + (j : Int) ≤ (s.size : Int) := by omega
      have hnext : Lib.byteCells acc ++ Lib.strCells (s.extract start (start + j)) ++ Lib.strCells new = Lib.byteCells (acc ++ (s.data.toList.drop start).take j ++ new.data.toList) := by
        rw [Lib.strCells_eq, Lib.strCells_eq, Lib.extract_data, Nat.add_sub_cancel_left, ← Lib.byteCells_append, ← Lib.byteCells_append]
      have hrep : (acc ++ (s.data.toList.drop start).take j ++ new.data.toList) ++ Lib.replaceK old.data.toList new.data.toList g (s.data.toList.drop (start + j + old.size)) = Lib.replaceK old.data.toList new.data.toList K s.data.toList := by
        rw [← HR.out, Lib.replaceK_hit _ _ g _ j hj, List.drop_drop, hlenO]
        simp only [List.append_assoc, Nat.add_assoc]
      have hcnt : g ≤ Lib.count (s.data.toList.drop (start + j + old.size)) old.data.toList := by
        have := Lib.count_hit (s := s.data.toList.drop start) (sub := old.data.toList) (i := j) (fun e => by rw [e] at hlenO; simp at hlenO; have := HOS.out; omega) hj
        rw [List.drop_drop, hlenO] at this
        rw [show start + j + old.size = start + (j + old.size) by omega]
        omega
      have htl : ((s.data.toList.drop start).take j).length = j := by rw [List.length_take, List.length_drop, hlenL]; have := HOS.out; omega
      have Hn := Any.hidR hnext
      have Hrep := Any.hidR hrep
      clear hnext hrep HR
      go_wp2_with (first | (go_at_fn (ρ.f 143); refine (hI _ _).mono ?_; rintro e w' ⟨rfl, hw⟩; rw [hw, Lib.extract_to_end, hj]))
      refine (Any.Builder_WriteString { L with } X w.heap.size w.heap.size _ (s.extract start (start + j)) wr HB.out (by rw [Lib.byteCells_length, ByteArray.size_extract]; omega) hBw).mono ?_
      rintro e w3 ⟨rfl, h3, hb3⟩
      have hBw3 : w.heap.size ≤ w3.heap.size := Nat.le_trans hBw hb3.size
      have H3 := Any.hidR h3
      have Hb3 := Any.hidR hb3
      clear h3 hb3
      go_wp2_with fail
      refine (Any.Builder_WriteString { L with } X w.heap.size w.heap.size _ new w3 (Or.inr H3.out) (by rw [List.length_append, Lib.byteCells_length, Lib.strCells_length, ByteArray.size_extract]; omega) hBw3).mono ?_
      rintro e w4 ⟨rfl, h4, hb4⟩
      rw [Hn.out] at h4
      have H4 := Any.hidR (Or.inr h4 : Lib.IsBuilder (ρ.t 72) (ρ.t 5) w.heap.size w.heap.size _ w4)
      have Hb4 := Any.hidR ((HW.out.trans Hb3.out).trans hb4)
      clear h4 hb4
      go_wp2
      go_roundg g
      case measure => omega
      case rel => exact ⟨i + 1, start + j + old.size, _, by first | rfl | (simp; unfold wrap64; omega), by first | rfl | simp | (simp; unfold wrap64; omega), by omega, by omega, H4, Hb4, Hrep, hcnt, by simp only [List.length_append, htl, ← Lib.size_eq]; omega⟩)

set_option maxHeartbeats 1000000 in
theorem replaceAll_one (L : Lays.n155 P ρ) (X : Builder.Extra P ρ) (s new : ByteArray) (c : UInt8) (w : World) (hs : s.size < 4294967281) (hne : (⟨#[c]⟩ : ByteArray) ≠ new) (hlen : s.size + Lib.countB s ⟨#[c]⟩ * new.size ≤ 140737488355328) :
    Calls P (ρ.f 155) #[.string s, .string ⟨#[c]⟩, .string new] w fun e w' => e = .returned (.string ⟨(Lib.replaceK [c] new.data.toList (Lib.countB s ⟨#[c]⟩) s.data.toList).toArray⟩) ∧ Below w.heap.size w w' := by
  have cl : Calls P (ρ.f 154) #[.string s, .string ⟨#[c]⟩, .string new, .int .i64 (-1)] w fun e w' => e = .returned (.string ⟨(Lib.replaceK [c] new.data.toList (Lib.countB s ⟨#[c]⟩) s.data.toList).toArray⟩) ∧ Below w.heap.size w w' := by
    by_cases h0 : Lib.countB s ⟨#[c]⟩ = 0
    · refine (replace_none_ { L with } s new c w hne h0).mono fun e w' ⟨he, hw⟩ => ⟨?_, hw ▸ Below.refl _ _⟩
      rw [he, h0, Lib.replaceK, Lib.mk_data]
    · exact replace_some_ { L with } X s new c w hs hne h0 hlen
  generalize (⟨#[c]⟩ : ByteArray) = old at cl ⊢
  have t3 := L.t3; have a3 := L.a3; have z3 := L.z3; have v3 := L.v3
  have t9 := L.t9; have a9 := L.a9; have z9 := L.z9; have v9 := L.v9
  have e154 : ∀ args w, (callFunc (ρ.f 154) args).run P w = .ok (.enter (ρ.f 154) args) w := enters_of L.f154 (by kernel_rfl) rfl
  go_enter L.f155, Body.n155_ntmps ρ
  go_wp2_with (go_at_fn (ρ.f 154); refine cl.mono ?_; rintro e w' ⟨rfl, hw⟩)
  go_ret
  exact ⟨rfl, hw⟩

/-! At this seat. -/
/-- A text with each byte c become a text. -/
def replL (c : UInt8) (new : List UInt8) (l : List UInt8) : List UInt8 := l.flatMap fun b => if b = c then new else [b]
theorem replL_cons (c : UInt8) (new : List UInt8) (b : UInt8) (l : List UInt8) : replL c new (b :: l) = (if b = c then new else [b]) ++ replL c new l := rfl
theorem replL_append (c : UInt8) (new a b : List UInt8) : replL c new (a ++ b) = replL c new a ++ replL c new b := List.flatMap_append
theorem replL_no (c : UInt8) (new : List UInt8) : ∀ l : List UInt8, c ∉ l → replL c new l = l
  | [], _ => rfl
  | b :: l, h => by
    rw [replL_cons, if_neg (fun e => h (by rw [e]; exact List.mem_cons_self)), replL_no c new l (fun hm => h (List.mem_cons_of_mem _ hm))]
    rfl
theorem first_of (c : UInt8) : ∀ l : List UInt8, c ∈ l → ∃ p q, l = p ++ c :: q ∧ c ∉ p
  | [], h => by cases h
  | b :: l, h => by
    by_cases e : b = c
    · exact ⟨[], l, by rw [e]; rfl, by simp⟩
    · obtain ⟨p, q, h1, h2⟩ := first_of c l ((List.mem_cons.1 h).resolve_left (fun h => e h.symm))
      exact ⟨b :: p, q, by rw [h1]; rfl, by
        simp only [List.mem_cons, not_or]
        exact ⟨fun h => e h.symm, h2⟩⟩
theorem index_first_ (c : UInt8) (p q : List UInt8) (h : c ∉ p) : Lib.index (p ++ c :: q) [c] = (p.length : Int) := by
  rw [Lib.index_one]
  have hge := Lib.indexByte_ge (p ++ c :: q) c
  by_cases e : Lib.indexByte (p ++ c :: q) c = -1
  · exact absurd (by simp) (Lib.indexByte_none e p.length)
  · obtain ⟨o, ho⟩ : ∃ o : Nat, Lib.indexByte (p ++ c :: q) c = o := ⟨(Lib.indexByte (p ++ c :: q) c).toNat, by omega⟩
    obtain ⟨h1, h2⟩ := Lib.indexByte_some ho
    rw [ho]
    by_cases hlt : p.length < o
    · exact absurd (by simp) (h2 p.length hlt)
    · by_cases hgt : o < p.length
      · rw [List.getElem?_append_left hgt] at h1
        exact absurd (List.mem_of_getElem? h1) h
      · omega
theorem replaceK_replL (c : UInt8) (new : List UInt8) : ∀ (k : Nat) (l : List UInt8), l.count c = k → Lib.replaceK [c] new k l = replL c new l
  | 0, l, h => (replL_no c new l (List.count_eq_zero.1 h)).symm
  | k + 1, l, h => by
    obtain ⟨p, q, rfl, hp⟩ := first_of c l (List.count_pos_iff.1 (by omega))
    have hc : q.count c = k := by
      rw [List.count_append, List.count_eq_zero.2 hp, List.count_cons_self] at h
      omega
    have ih := replaceK_replL c new k q hc
    rw [Lib.replaceK_hit _ _ k _ p.length (index_first_ c p q hp), replL_append, replL_cons, if_pos rfl, replL_no c new p hp, List.take_left]
    have e2 : p.length + [c].length = (p ++ [c]).length := by simp
    rw [e2, show p ++ c :: q = (p ++ [c]) ++ q by simp, List.drop_left, ih]
    simp
def replF (s old new : ByteArray) : Option ByteArray := if old.size = 1 then (if s.size ≤ 1000000 then (if new.size = 2 then some ⟨(replL (hd_ old) new.data.toList s.data.toList).toArray⟩ else none) else none) else none
theorem repl_calls (s old new r : ByteArray) (w : World) (h : replF s old new = some r) :
    Calls Tryz.prog 35 #[.string s, .string old, .string new] w fun e w' => e = .returned (.string r) ∧ Below w.heap.size w w' := by
  unfold replF at h
  split at h
  · rename_i h1
    split at h
    · rename_i hs
      split at h
      · rename_i h2
        injection h with h
        subst h
        obtain ⟨c, rfl⟩ := Lib.one_byte old h1
        have hle := Lib.countB_le ⟨#[c]⟩ (Nat.le_refl 1) s.size s (Nat.le_refl _)
        have hc : Lib.countB s ⟨#[c]⟩ = s.data.toList.count c := Lib.count_one c s.data.toList
        have hr : Lib.replaceK [c] new.data.toList (Lib.countB s ⟨#[c]⟩) s.data.toList = replL c new.data.toList s.data.toList := replaceK_replL c _ _ _ hc.symm
        have hne : (⟨#[c]⟩ : ByteArray) ≠ new := fun e => by rw [← e] at h2; cases h2
        have := replaceAll_one Tryz.lays155 Tryz.Builder_Extra_155 s new c w (by omega) hne (by rw [h2]; omega)
        rw [hr] at this
        exact this
      · cases h
    · cases h
  · cases h
/-- What strings.Contains gives at one byte. -/
def contF (s sub : ByteArray) : Option Bool := if sub.size = 1 then some (decide (0 ≤ Lib.indexByte s.data.toList (hd_ sub))) else none
theorem cont_calls (s sub : ByteArray) (r : Bool) (w : World) (h : contF s sub = some r) :
    Calls Tryz.prog 48 #[.string s, .string sub] w fun e w' => e = .returned (.bool r) ∧ Below w.heap.size w w' := by
  unfold contF at h
  split at h
  · rename_i h1
    injection h with h
    subst h
    obtain ⟨c, rfl⟩ := Lib.one_byte sub h1
    exact (Tryz.strings_Contains_one s c w).mono fun e w' ⟨he, hw⟩ => ⟨he, hw ▸ Below.refl _ _⟩
  · cases h
end Go.Proofs.YtfcomjinaokeaaaGreatDoor.Ext
