/- Strings as lists of bytes: pieces between separators, what Split and the references' loops give; no Go, no memory. -/
import Derived.Test.YtfcomjinaokeaaaGreatDoorExtC
import Derived.Test.YtfcomjinaokeaaaGreatDoorVocab
namespace Go.Proofs.YtfcomjinaokeaaaGreatDoor.Pure
open Go.RowKit Go.Proofs.YtfcomjinaokeaaaGreatDoorW.PrintWords Go.Proofs.YtfcomjinaokeaaaGreatDoorW.PrintLast Go.Proofs.YtfcomjinaokeaaaGreatDoor.Ext

section
variable {α β : Type}
theorem ev_succ {g : Nat → Option α} {r : α} (h : Ev (fun k => g (k + 1)) r) : Ev g r := by
  obtain ⟨K, hK⟩ := h
  refine ⟨K + 1, fun k hk => ?_⟩
  obtain ⟨m, rfl⟩ : ∃ m, k = m + 1 := ⟨k - 1, by omega⟩
  exact hK m (by omega)
theorem ev_pos {c : Prop} [Decidable c] {a b : Nat → Option α} {r : α} (hc : c) (h : Ev a r) : Ev (fun k => if c then a k else b k) r := by
  simp only [if_pos hc]
  exact h
theorem ev_neg {c : Prop} [Decidable c] {a b : Nat → Option α} {r : α} (hc : ¬ c) (h : Ev b r) : Ev (fun k => if c then a k else b k) r := by
  simp only [if_neg hc]
  exact h
theorem ev_some {o : Option α} {r : α} (h : o = some r) : Ev (fun _ => o) r := ⟨0, fun _ _ => h⟩
theorem ev_bind {g : Nat → Option α} {f : Nat → α → Option β} {a : α} {r : β} (h : Ev g a) (k : Ev (fun n => f n a) r) : Ev (fun n => (g n).bind (f n)) r := Ev.bind h k
theorem ev_const {o : Option α} {f : Nat → α → Option β} {a : α} {r : β} (h : o = some a) (k : Ev (fun n => f n a) r) : Ev (fun n => o.bind (f n)) r := Ev.bind (g := fun _ => o) (ev_some h) k
theorem ev_tt {a b : Nat → Option α} {r : α} (h : Ev a r) : Ev (fun k => if true = true then a k else b k) r := ev_pos rfl h
theorem ev_ff {a b : Nat → Option α} {r : α} (h : Ev b r) : Ev (fun k => if false = true then a k else b k) r := ev_neg (by decide) h
/-- A test over a Bool that is known to be b. -/
theorem ev_if {c : Bool} {a b : Nat → Option α} {r : α} (ht : c = true → Ev a r) (hf : c = false → Ev b r) : Ev (fun k => if c = true then a k else b k) r := by
  cases c
  · exact ev_ff (hf rfl)
  · exact ev_tt (ht rfl)
end
theorem w64 {x : Int} (h0 : -9223372036854775808 ≤ x) (h1 : x ≤ 9223372036854775807) : wrap64 x = x := by
  unfold wrap64
  omega

/-! ### Bytes -/
def mkB (l : List UInt8) : ByteArray := ⟨l.toArray⟩
def toL (s : ByteArray) : List UInt8 := s.data.toList
theorem toL_mk (l : List UInt8) : toL (mkB l) = l := rfl
theorem mk_toL (s : ByteArray) : mkB (toL s) = s := rfl
theorem toL_len (s : ByteArray) : (toL s).length = s.size := (Lib.size_eq s).symm
theorem size_mk (l : List UInt8) : (mkB l).size = l.length := by rw [← toL_len, toL_mk]
theorem toL_inj {s t : ByteArray} (h : toL s = toL t) : s = t := by rw [← mk_toL s, ← mk_toL t, h]
theorem toList_toL (s : ByteArray) : s.toList = toL s := Lib.toList_data s
theorem by_toL (s : ByteArray) (i : Nat) : by_ s i = ((toL s)[i]?.map (·.toNat)).getD 0 := by
  unfold by_ toL
  split
  · rename_i h
    rw [List.getElem?_eq_getElem (by rw [← Lib.size_eq]; exact h)]
    rfl
  · rename_i h
    rw [List.getElem?_eq_none (by rw [← Lib.size_eq]; omega)]
    rfl
theorem bt_by (s : ByteArray) (i : Nat) : bt s (i : Int) = (by_ s i : Int) := by
  unfold bt by_
  have e : ((i : Int)).toNat = i := rfl
  by_cases h : i < s.size
  · rw [dif_pos h, dif_pos (show ((i : Int)).toNat < s.size from h)]
    rfl
  · rw [dif_neg h, dif_neg (show ¬ ((i : Int)).toNat < s.size from h)]
    rfl
theorem toL_extract (s : ByteArray) (a b : Nat) : toL (s.extract a b) = ((toL s).take b).drop a := by
  unfold toL
  rw [Lib.extract_data, List.drop_take]
theorem toL_at {s : ByteArray} {i : Nat} (h : i < s.size) : ∃ c, (toL s)[i]? = some c ∧ c.toNat = by_ s i := by
  have hl : i < (toL s).length := by rw [toL_len]; exact h
  refine ⟨(toL s)[i], List.getElem?_eq_getElem hl, ?_⟩
  rw [by_toL, List.getElem?_eq_getElem hl]
  rfl
theorem u8_eq {c : UInt8} {n : Nat} (h : c.toNat = n) (hn : n < 256) : c = UInt8.ofNat n := by
  apply UInt8.toNat_inj.1
  rw [h, UInt8.toNat_ofNat']
  omega

/-! ### Pieces between separators -/
def onto (p : List UInt8) : List (List UInt8) → List (List UInt8)
  | [] => [p]
  | q :: r => (p ++ q) :: r
def pieces (c : UInt8) : List UInt8 → List (List UInt8)
  | [] => [[]]
  | b :: l => if b = c then [] :: pieces c l else onto [b] (pieces c l)
theorem pieces_ne (c : UInt8) (l : List UInt8) : pieces c l ≠ [] := by
  cases l with
  | nil => simp [pieces]
  | cons b l =>
    unfold pieces
    split
    · simp
    · cases pieces c l <;> simp [onto]
theorem onto_onto (p q : List UInt8) (l : List (List UInt8)) : onto p (onto q l) = onto (p ++ q) l := by
  cases l <;> simp [onto]
theorem onto_nil {l : List (List UInt8)} (h : l ≠ []) : onto [] l = l := by
  cases l with
  | nil => exact absurd rfl h
  | cons a l => rfl
theorem pieces_onto (c : UInt8) : ∀ (p l : List UInt8), c ∉ p → pieces c (p ++ l) = onto p (pieces c l)
  | [], l, _ => (onto_nil (pieces_ne c l)).symm
  | b :: p, l, h => by
    have hb : ¬ b = c := fun e => h (by rw [e]; exact List.mem_cons_self)
    have ih := pieces_onto c p l (fun hc => h (List.mem_cons_of_mem _ hc))
    show pieces c (b :: (p ++ l)) = _
    rw [pieces, if_neg hb, ih, onto_onto]
    rfl
theorem pieces_none (c : UInt8) (p : List UInt8) (h : c ∉ p) : pieces c p = [p] := by
  have := pieces_onto c p [] h
  rw [List.append_nil] at this
  rw [this]
  simp [pieces, onto]
theorem pieces_hit (c : UInt8) (p l : List UInt8) (h : c ∉ p) : pieces c (p ++ c :: l) = p :: pieces c l := by
  rw [pieces_onto c p (c :: l) h, pieces, if_pos rfl]
  simp [onto]
theorem pieces_length (c : UInt8) : ∀ l, (pieces c l).length = l.count c + 1
  | [] => rfl
  | b :: l => by
    have ih := pieces_length c l
    unfold pieces
    split
    · rename_i e
      subst e
      simp [ih]
    · rename_i e
      rw [List.count_cons_of_ne e, ← ih]
      cases h : pieces c l with
      | nil => exact absurd h (pieces_ne c l)
      | cons q r => simp [onto]
theorem pieces_mem (c : UInt8) : ∀ l p, p ∈ pieces c l → c ∉ p
  | [], p, h => by simp [pieces] at h; subst h; simp
  | b :: l, p, h => by
    unfold pieces at h
    split at h
    · rcases List.mem_cons.1 h with h | h
      · subst h; simp
      · exact pieces_mem c l p h
    · rename_i e
      cases h2 : pieces c l with
      | nil => exact absurd h2 (pieces_ne c l)
      | cons q r =>
        rw [h2] at h
        rcases List.mem_cons.1 h with h | h
        · subst h
          have := pieces_mem c l q (by rw [h2]; exact List.mem_cons_self)
          simp only [List.singleton_append, List.mem_cons, not_or]
          exact ⟨fun h => e h.symm, this⟩
        · exact pieces_mem c l p (by rw [h2]; exact List.mem_cons_of_mem _ h)
theorem split_at_first (c : UInt8) : ∀ l : List UInt8, c ∈ l → ∃ p q, l = p ++ c :: q ∧ c ∉ p
  | [], h => by cases h
  | b :: l, h => by
    by_cases e : b = c
    · exact ⟨[], l, by rw [e]; rfl, by simp⟩
    · obtain ⟨p, q, h1, h2⟩ := split_at_first c l (by
        rcases List.mem_cons.1 h with h | h
        · exact absurd h.symm e
        · exact h)
      exact ⟨b :: p, q, by rw [h1]; rfl, by
        simp only [List.mem_cons, not_or]
        exact ⟨fun h => e h.symm, h2⟩⟩
theorem indexByte_first (c : UInt8) (p q : List UInt8) (h : c ∉ p) : Lib.indexByte (p ++ c :: q) c = (p.length : Int) := by
  have hge := Lib.indexByte_ge (p ++ c :: q) c
  by_cases e : Lib.indexByte (p ++ c :: q) c = -1
  · exact absurd (by simp) (Lib.indexByte_none e p.length)
  · obtain ⟨o, ho⟩ : ∃ o : Nat, Lib.indexByte (p ++ c :: q) c = o := ⟨(Lib.indexByte (p ++ c :: q) c).toNat, by omega⟩
    obtain ⟨h1, h2⟩ := Lib.indexByte_some ho
    rw [ho]
    by_cases hlt : p.length < o
    · exact absurd (by simp) (h2 p.length hlt)
    · by_cases hgt : o < p.length
      · rw [List.getElem?_append_left hgt] at h1
        exact absurd (List.mem_of_getElem? h1) h
      · omega
theorem indexByte_miss (c : UInt8) (p : List UInt8) (h : c ∉ p) : Lib.indexByte p c = -1 := by
  have hge := Lib.indexByte_ge p c
  by_cases e : Lib.indexByte p c = -1
  · exact e
  · obtain ⟨o, ho⟩ : ∃ o : Nat, Lib.indexByte p c = o := ⟨(Lib.indexByte p c).toNat, by omega⟩
    exact absurd (List.mem_of_getElem? (Lib.indexByte_some ho).1) h
theorem splitK_pieces (c : UInt8) : ∀ (k : Nat) (l : List UInt8), l.count c = k → Lib.splitK [c] 0 k l = pieces c l
  | 0, l, h => by
    have hn : c ∉ l := List.count_eq_zero.1 h
    rw [pieces_none c l hn]
    rfl
  | k + 1, l, h => by
    obtain ⟨p, q, rfl, hp⟩ := split_at_first c l (List.count_pos_iff.1 (by omega))
    rw [pieces_hit c p q hp]
    have hc : q.count c = k := by
      rw [List.count_append, List.count_eq_zero.2 hp, List.count_cons_self] at h
      omega
    have ih := splitK_pieces c k q hc
    have hi : Lib.index (p ++ c :: q) [c] = (p.length : Int) := by rw [Lib.index_one, indexByte_first c p q hp]
    unfold Lib.splitK
    rw [hi, if_neg (by simp only [beq_iff_eq]; omega)]
    have e : ((p.length : Int)).toNat = p.length := rfl
    rw [e, Nat.add_zero, List.take_left]
    have e2 : p.length + [c].length = (p ++ [c]).length := by simp
    rw [e2, show p ++ c :: q = (p ++ [c]) ++ q by simp, List.drop_left, ih]
/-- What strings.Split gives at one byte, as pieces. -/
theorem splitL_pieces (c : UInt8) (s : ByteArray) : splitL c s = (pieces c (toL s)).map mkB := by
  have h := Lib.splitB_data ⟨#[c]⟩ 0 (Lib.countB s ⟨#[c]⟩) s
  have hc : Lib.countB s ⟨#[c]⟩ = (toL s).count c := Lib.count_one c (toL s)
  have h2 : (splitL c s).map toL = pieces c (toL s) := by
    show (splitL c s).map (·.data.toList) = _
    unfold splitL
    rw [h, hc]
    exact splitK_pieces c _ (toL s) rfl
  rw [← h2, List.map_map]
  have : (mkB ∘ toL) = id := funext mk_toL
  rw [this, List.map_id]
theorem splitF_eq (c : UInt8) (s : ByteArray) (h : s.size < 4294967281) : splitF s ⟨#[c]⟩ = some ((pieces c (toL s)).map mkB) := by
  unfold splitF
  rw [if_pos (show (⟨#[c]⟩ : ByteArray).size = 1 from rfl), if_pos h, ← splitL_pieces]
  rfl
theorem cnt_count (s : ByteArray) : ∀ n, n ≤ s.size → cnt s n = ((toL s).take n).count 47
  | 0, _ => rfl
  | n + 1, h => by
    obtain ⟨c, hc, e⟩ := toL_at (s := s) (i := n) (by omega)
    rw [cnt_succ, cnt_count s n (by omega), List.take_add_one, hc, List.count_append]
    congr 1
    by_cases h47 : c.toNat = 47
    · rw [if_pos (by omega), u8_eq h47 (by omega)]
      rfl
    · rw [if_neg (by omega)]
      have hne : ¬ c = 47 := fun h => h47 (by rw [h]; rfl)
      simp [hne]
theorem cnt_all (s : ByteArray) : cnt s s.size = (toL s).count 47 := by
  rw [cnt_count s _ (Nat.le_refl _), List.take_of_length_le (by rw [toL_len]; exact Nat.le_refl _)]
/-! ### Joined again -/
theorem join_cons2 (c : UInt8) (x y : List UInt8) (r : List (List UInt8)) : Lib.join (x :: y :: r) [c] = x ++ c :: Lib.join (y :: r) [c] := by
  rw [Lib.join_cons, Lib.join_cons]
  simp [Lib.joinTail]
theorem join_onto (c : UInt8) (p : List UInt8) (l : List (List UInt8)) (h : l ≠ []) : Lib.join (onto p l) [c] = p ++ Lib.join l [c] := by
  match l, h with
  | q :: r, _ =>
    show Lib.join ((p ++ q) :: r) [c] = _
    rw [Lib.join_cons, Lib.join_cons, List.append_assoc]
theorem join_pieces (c : UInt8) : ∀ l, Lib.join (pieces c l) [c] = l
  | [] => rfl
  | b :: l => by
    have ih := join_pieces c l
    unfold pieces
    split
    · rename_i e
      subst e
      match h : pieces b l, pieces_ne b l with
      | q :: r, _ => rw [join_cons2, ← h, ih]; rfl
    · rw [join_onto c [b] _ (pieces_ne c l), ih]
      rfl
theorem pieces_join (c : UInt8) : ∀ (xs : List (List UInt8)), xs ≠ [] → (∀ x ∈ xs, c ∉ x) → pieces c (Lib.join xs [c]) = xs
  | [x], _, h => by rw [Lib.join_one]; exact pieces_none c x (h x List.mem_cons_self)
  | x :: y :: r, _, h => by
    rw [join_cons2, pieces_hit c x _ (h x List.mem_cons_self), pieces_join c (y :: r) (by simp) (fun z hz => h z (List.mem_cons_of_mem _ hz))]
theorem pieces_sub (c : UInt8) : ∀ l p, p ∈ pieces c l → ∀ b ∈ p, b ∈ l
  | [], p, h => by simp [pieces] at h; subst h; simp
  | b :: l, p, h => by
    unfold pieces at h
    split at h
    · rcases List.mem_cons.1 h with h | h
      · subst h; simp
      · exact fun x hx => List.mem_cons_of_mem _ (pieces_sub c l p h x hx)
    · cases h2 : pieces c l with
      | nil => exact absurd h2 (pieces_ne c l)
      | cons q r =>
        rw [h2] at h
        rcases List.mem_cons.1 h with h | h
        · subst h
          intro x hx
          rcases List.mem_cons.1 hx with hx | hx
          · rw [hx]; exact List.mem_cons_self
          · exact List.mem_cons_of_mem _ (pieces_sub c l q (by rw [h2]; exact List.mem_cons_self) x hx)
        · exact fun x hx => List.mem_cons_of_mem _ (pieces_sub c l p (by rw [h2]; exact List.mem_cons_of_mem _ h) x hx)
theorem map_toL (l : List (List UInt8)) : (l.map mkB).map (·.data.toList) = l := by
  rw [List.map_map]
  have : ((fun s : ByteArray => s.data.toList) ∘ mkB) = id := rfl
  rw [this, List.map_id]
theorem joinF_eq (xs : List ByteArray) (c : UInt8) (h1 : (Lib.join (xs.map toL) [c]).length ≤ 140737488355328) (h2 : xs.length ≤ 140737488355328) : joinF xs ⟨#[c]⟩ = some (mkB (Lib.join (xs.map toL) [c])) := by
  unfold joinF
  rw [if_pos (show (Lib.join (xs.map (·.data.toList)) (⟨#[c]⟩ : ByteArray).data.toList).length ≤ 140737488355328 from h1), if_pos h2]
  rfl
end Go.Proofs.YtfcomjinaokeaaaGreatDoor.Pure
