/- Contracts of the topic functions that range over strings: Name, sized, Valid, as plain functions of the bytes. -/
import Derived.Test.YtfcomjinaokeaaaGreatDoorProg
import Derived.Test.YtfcomjinaokeaaaGreatDoorVocab
import Derived.WalkKit
import Derived.BigCall
import Derived.Lib.OthersKept
import Derived.Lib.RuneCount
import Derived.Laws.RangeAny
import Derived.Lib.Hide
namespace Go.Proofs.YtfcomjinaokeaaaGreatDoor.Ext
open Go.RowKit Go.Proofs.YtfcomjinaokeaaaGreatDoorW.PrintWords

theorem pw_trans_ {w w1 w2 : World} (h : Below w.heap.size w w1) (k : Below w1.heap.size w1 w2) : Below w.heap.size w w2 := below_then h h.size k
/-- The byte at a place, as a number (0 past the end). -/
def by_ (s : ByteArray) (i : Nat) : Nat := if h : i < s.size then (s[i]'h).toNat else 0
theorem by_lt (s : ByteArray) (i : Nat) : by_ s i < 256 := by
  unfold by_
  split
  · rename_i h
    exact (s[i]'h).toNat_lt
  · omega
theorem by_at (s : ByteArray) (i : Nat) (h : i < s.size) : by_ s i = (s[i]'h).toNat := by unfold by_; rw [dif_pos h]
theorem dec_low (s : ByteArray) (i : Nat) (h : i < s.size) (hb : by_ s i < 128) : Utf8.decode s i = (by_ s i, 1) := by
  rw [by_at s i h] at *
  exact decode_ascii s i h hb
theorem dec_high (s : ByteArray) (i : Nat) (h : i < s.size) (hb : 128 ≤ by_ s i) : 128 ≤ (Utf8.decode s i).1 ∧ 1 ≤ (Utf8.decode s i).2 := by
  rw [by_at s i h] at hb
  exact decode_high s i h hb
theorem get_by (s : ByteArray) (k : Nat) (h : k < s.size) : (s.get! k).toNat = by_ s k := by
  have e := get_at s k h
  rw [Nat.add_zero] at e
  rw [by_at s k h, e]
/-- A rune takes bytes of its own alone: behind its first byte no byte is below 128. -/
theorem dec_tail (s : ByteArray) (i : Nat) (j : Nat) (h0 : i < j) (h1 : j < i + (Utf8.decode s i).2) : j < s.size ∧ 128 ≤ by_ s j := by
  have key : ∀ k, (decide (i + k < s.size) && (s.get! (i + k)).toNat / 64 == 2) = true → i + k < s.size ∧ 128 ≤ by_ s (i + k) := by
    intro k hk
    simp only [Bool.and_eq_true, decide_eq_true_eq, beq_iff_eq] at hk
    obtain ⟨h, e⟩ := hk
    rw [get_by s _ h] at e
    exact ⟨h, by omega⟩
  simp only [Utf8.decode] at h1
  split at h1
  · dsimp only at h1; omega
  · split at h1
    · rename_i hc
      simp only [Bool.and_eq_true] at hc
      have k1 := key 1 (by simp only [Bool.and_eq_true]; exact hc.2)
      split at h1
      · dsimp only at h1
        obtain rfl : j = i + 1 := by omega
        exact k1
      · dsimp only at h1; omega
    · split at h1
      · rename_i hc
        simp only [Bool.and_eq_true] at hc
        have k1 := key 1 (by simp only [Bool.and_eq_true]; exact hc.1.2)
        have k2 := key 2 (by simp only [Bool.and_eq_true]; exact hc.2)
        split at h1
        · dsimp only at h1
          by_cases e : j = i + 1
          · subst e; exact k1
          · obtain rfl : j = i + 2 := by omega
            exact k2
        · dsimp only at h1; omega
      · split at h1
        · rename_i hc
          simp only [Bool.and_eq_true] at hc
          have k1 := key 1 (by simp only [Bool.and_eq_true]; exact hc.1.1.2)
          have k2 := key 2 (by simp only [Bool.and_eq_true]; exact hc.1.2)
          have k3 := key 3 (by simp only [Bool.and_eq_true]; exact hc.2)
          split at h1
          · dsimp only at h1
            by_cases e : j = i + 1
            · subst e; exact k1
            · by_cases e2 : j = i + 2
              · subst e2; exact k2
              · obtain rfl : j = i + 3 := by omega
                exact k3
          · dsimp only at h1; omega
        · dsimp only at h1; omega

/-- What a step of the range hands over. -/
theorem dec_cases (s : ByteArray) (i : Nat) (h : i < s.size) : ∃ c k, Utf8.decode s i = (c, k) ∧ (c < 128 → by_ s i = c ∧ k = 1) ∧ (128 ≤ c → 128 ≤ by_ s i) ∧ 1 ≤ k ∧ c ≤ 2147483647 := by
  refine ⟨(Utf8.decode s i).1, (Utf8.decode s i).2, rfl, ?_, ?_, ?_, decode_le s i⟩
  · intro hc
    by_cases hb : by_ s i < 128
    · rw [dec_low s i h hb]; exact ⟨rfl, rfl⟩
    · have := (dec_high s i h (by omega)).1; omega
  · intro hc
    by_cases hb : by_ s i < 128
    · rw [dec_low s i h hb] at hc; dsimp only at hc; omega
    · omega
  · by_cases hb : by_ s i < 128
    · rw [dec_low s i h hb]; exact Nat.le_refl _
    · exact (dec_high s i h (by omega)).2

/-- A letter; a sign of a name. -/
def low (c : Nat) : Bool := decide (97 ≤ c ∧ c ≤ 122)
def sign (c : Nat) : Bool := low c || decide (c = 45) || decide (48 ≤ c ∧ c ≤ 57)
/-- The byte at i is one that a name may have there. -/
def nameAt (s : ByteArray) (i : Nat) : Bool := if i = 0 then low (by_ s i) else sign (by_ s i)
def nameB (s : ByteArray) : Bool := decide (1 ≤ s.size ∧ s.size ≤ 16 ∧ ∀ i, i < s.size → nameAt s i = true)

theorem name_no (s : ByteArray) (i : Nat) (h : i < s.size) (hb : nameAt s i = false) : nameB s = false := by
  unfold nameB
  refine decide_eq_false (fun h2 => ?_)
  have := h2.2.2 i h
  rw [hb] at this
  cases this
theorem name_yes (s : ByteArray) (h1 : 1 ≤ s.size) (h2 : s.size ≤ 16) (hb : ∀ i, i < s.size → nameAt s i = true) : nameB s = true := decide_eq_true ⟨h1, h2, hb⟩

set_option maxHeartbeats 1600000 in
set_option maxRecDepth 100000 in
theorem name_walk (s : ByteArray) (w : World) (h1 : 1 ≤ s.size) (h2 : s.size ≤ 16) :
    Calls Tryz.prog 31 #[.string s] w fun e w' => e = .returned (.bool (nameB s)) ∧ Below w.heap.size w w' := by
  have d1 : decide ((s.size : Int) < 1) = false := decide_eq_false (by omega)
  have d2 : decide (16 < (s.size : Int)) = false := decide_eq_false (by omega)
  go_enter Tryz.func31, Tryz.ntmps31
  go_wp2
  go_loopw [3, 4, 5] (fun _ _ _ wr => ∃ pos : Nat, pos ≤ s.size ∧ wr.heap[w.heap.size]? = some (.stringIter s pos) ∧ Below w.heap.size w wr ∧ ∀ j, j < pos → nameAt s j = true) (fun _ _ _ wr => s.size - wr.iterPos w.heap.size)
  case atStart => exact ⟨0, Nat.zero_le _, World.iter_heap w s 0, (Below.refl _ w).alloc (Nat.le_refl _) _, fun j hj => absurd hj (Nat.not_lt_zero _)⟩
  case round =>
    obtain ⟨pos, hps, hit, hbw, hall⟩ := hrel
    have Hall := Lib.hid hall
    clear hall
    by_cases hp : pos < s.size
    · obtain ⟨c, k, hd, hlow, hhigh, hk, hc32⟩ := dec_cases s pos hp
      have hnx : ∀ ty, (Instr.next (.pointer (some ⟨w.heap.size, 0, none⟩)) true ty).run Tryz.prog wr = .ok (.tuple #[.bool true, .int .i64 pos, .int .i32 c]) (wr.iterAt w.heap.size s (pos + k)) := fun ty => by rw [Lib.run_next_any_at wr w.heap.size s pos ty hit hp, hd]
      have hit2 := Lib.iterAt_heap wr w.heap.size s pos (pos + k) hit
      have hbw2 := Lib.below_iterAt hbw (k := w.heap.size) (Nat.le_refl _) s (pos + k)
      have hmu : wr.iterPos w.heap.size = pos := by simp [World.iterPos, hit]
      generalize wr.iterAt w.heap.size s (pos + k) = W1 at hnx hit2 hbw2
      have hmu2 : W1.iterPos w.heap.size = pos + k := by simp [World.iterPos, hit2]
      have Hmu := Lib.hid hmu
      have Hmu2 := Lib.hid hmu2
      have Hlow := Lib.hid hlow
      have Hhigh := Lib.hid hhigh
      have Hit2 := Lib.hid hit2
      clear hmu hmu2 hlow hhigh hd hit hit2
      have go_on : nameAt s pos = true → k = 1 → pos + k ≤ s.size ∧ ∀ j, j < pos + k → nameAt s j = true := by
        intro h e
        subst e
        refine ⟨hp, fun j hj => ?_⟩
        by_cases ej : j = pos
        · subst ej; exact h
        · exact Hall.out j (by omega)
      have Hgo := Lib.hid go_on
      clear go_on
      have stop : nameAt s pos = false → nameB s = false := name_no s pos hp
      have Hstop := Lib.hid stop
      clear stop
      by_cases c1 : 97 ≤ c ∧ c ≤ 122
      · obtain ⟨c1, c2⟩ := c1
        go_wp2
        go_roundw
        case rel =>
          obtain ⟨e, ek⟩ := Hlow.out (by omega)
          have a := Hgo.out (by unfold nameAt; rw [e]; split <;> simp [low, sign, c1, c2]) ek
          exact ⟨pos + k, a.1, Hit2.out, hbw2, a.2⟩
        case measure => rw [Hmu.out, Hmu2.out]; omega
      · by_cases p0 : pos = 0
        · subst p0
          have out_ : nameB s = false := by
            refine Hstop.out ?_
            unfold nameAt low
            rw [if_pos rfl]
            refine decide_eq_false (fun h => ?_)
            by_cases h7 : c < 128
            · have := (Hlow.out h7).1; omega
            · have := Hhigh.out (by omega); omega
          have Hout := Lib.hid out_
          clear out_
          by_cases c2 : 97 ≤ c
          · have c3 : decide ((c : Int) ≤ 122) = false := decide_eq_false (by omega)
            clear c1
            go_wp2
            go_ret
            exact ⟨by rw [Hout.out]; rfl, hbw2⟩
          · clear c1
            go_wp2
            go_ret
            exact ⟨by rw [Hout.out]; rfl, hbw2⟩
        · by_cases ok : c = 45 ∨ (48 ≤ c ∧ c ≤ 57)
          · have on : nameAt s pos = true ∧ k = 1 := by
              obtain ⟨e, ek⟩ := Hlow.out (by omega)
              refine ⟨?_, ek⟩
              unfold nameAt sign
              rw [if_neg p0, e]
              rcases ok with ok | ok <;> simp [ok]
            have a := Hgo.out on.1 on.2
            have Ha := Lib.hid a
            clear a on
            have c2 : c < 97 := by omega
            clear c1
            by_cases c3 : c = 45
            · have b3 : ((c : Int) != 45) = false := by rw [c3]; rfl
              clear c3 ok
              go_wp2
              go_roundw
              case rel => exact ⟨pos + k, Ha.out.1, Hit2.out, hbw2, Ha.out.2⟩
              case measure => rw [Hmu.out, Hmu2.out]; omega
            · have c4 : 48 ≤ c := by omega
              have c5 : decide (57 < (c : Int)) = false := decide_eq_false (by omega)
              have c6 : decide ((c : Int) < 48) = false := decide_eq_false (by omega)
              have b3 : ((c : Int) != 45) = true := by simp; omega
              clear ok c3
              go_wp2
              go_roundw
              case rel => exact ⟨pos + k, Ha.out.1, Hit2.out, hbw2, Ha.out.2⟩
              case measure => rw [Hmu.out, Hmu2.out]; omega
          · have out_ : nameB s = false := by
              refine Hstop.out ?_
              unfold nameAt sign low
              rw [if_neg p0]
              have h1 : ¬ by_ s pos = 45 ∧ ¬ (48 ≤ by_ s pos ∧ by_ s pos ≤ 57) ∧ ¬ (97 ≤ by_ s pos ∧ by_ s pos ≤ 122) := by
                by_cases h7 : c < 128
                · have := (Hlow.out h7).1; omega
                · have := Hhigh.out (by omega); omega
              simp [h1.1, h1.2.1, h1.2.2]
            have Hout := Lib.hid out_
            clear out_
            have b3 : ((c : Int) != 45) = true := by simp; omega
            by_cases c2 : 97 ≤ c
            · have c4 : decide ((c : Int) ≤ 122) = false := decide_eq_false (by omega)
              have c5 : decide (57 < (c : Int)) = true := decide_eq_true (by omega)
              have c6 : decide ((c : Int) < 48) = false := decide_eq_false (by omega)
              clear c1 ok
              go_wp2
              go_ret
              exact ⟨by rw [Hout.out]; rfl, hbw2⟩
            · by_cases c4 : c < 48
              · clear c1 ok
                go_wp2
                go_ret
                exact ⟨by rw [Hout.out]; rfl, hbw2⟩
              · have c5 : decide (57 < (c : Int)) = true := decide_eq_true (by omega)
                have c6 : decide ((c : Int) < 48) = false := decide_eq_false (by omega)
                clear c1 ok
                go_wp2
                go_ret
                exact ⟨by rw [Hout.out]; rfl, hbw2⟩
    · have hnx : ∀ ty, (Instr.next (.pointer (some ⟨w.heap.size, 0, none⟩)) true ty).run Tryz.prog wr = _ := fun ty => Lib.run_next_end_at wr w.heap.size s pos ty hit hp
      go_wp2
      go_ret
      exact ⟨by rw [name_yes s h1 h2 (fun i hi => Hall.out i (by omega))]; rfl, hbw⟩

theorem name_calls (s : ByteArray) (r : Bool) (w : World) (hr : nameB s = r) (hs : s.size ≤ 9223372036854775807) :
    Calls Tryz.prog 31 #[.string s] w fun e w' => e = .returned (.bool r) ∧ Below w.heap.size w w' := by
  subst hr
  by_cases h1 : 1 ≤ s.size
  · by_cases h2 : s.size ≤ 16
    · exact name_walk s w h1 h2
    · have e : nameB s = false := decide_eq_false (fun h => h2 h.2.1)
      rw [e]
      have d1 : decide ((s.size : Int) < 1) = false := decide_eq_false (by omega)
      have d2 : decide (16 < (s.size : Int)) = true := decide_eq_true (by omega)
      clear h1 h2 e
      go_enter Tryz.func31, Tryz.ntmps31
      go_wp2
      go_ret
      exact ⟨rfl, Below.refl _ _⟩
  · have e : nameB s = false := decide_eq_false (fun h => h1 h.1)
    rw [e]
    have d1 : decide ((s.size : Int) < 1) = true := decide_eq_true (by omega)
    clear h1 e
    go_enter Tryz.func31, Tryz.ntmps31
    go_wp2
    go_ret
    exact ⟨rfl, Below.refl _ _⟩

/-- How many of the first n bytes are slashes. -/
def cnt (s : ByteArray) : Nat → Nat
  | 0 => 0
  | n + 1 => cnt s n + if by_ s n = 47 then 1 else 0
theorem cnt_le (s : ByteArray) : ∀ n, cnt s n ≤ n
  | 0 => Nat.le_refl _
  | n + 1 => by
    have := cnt_le s n
    unfold cnt
    split <;> omega
theorem cnt_succ (s : ByteArray) (n : Nat) : cnt s (n + 1) = cnt s n + if by_ s n = 47 then 1 else 0 := rfl
theorem cnt_skip (s : ByteArray) (i : Nat) : ∀ k, (∀ j, i ≤ j → j < i + k → by_ s j ≠ 47) → cnt s (i + k) = cnt s i
  | 0, _ => rfl
  | k + 1, h => by
    rw [← Nat.add_assoc, cnt_succ, if_neg (h (i + k) (by omega) (by omega)), cnt_skip s i k (fun j h0 h1 => h j h0 (by omega))]
    omega
def sizedB (s : ByteArray) : Bool := decide (1 ≤ s.size ∧ s.size ≤ 64 ∧ (∀ i, i < s.size → by_ s i ≠ 0) ∧ cnt s s.size ≤ 7)

/-- What a step of the range hands over, and what it passes. -/
theorem dec_step (s : ByteArray) (i : Nat) (h : i < s.size) : ∃ c k, Utf8.decode s i = (c, k) ∧ 1 ≤ k ∧ i + k ≤ s.size ∧ c ≤ 2147483647 ∧ (c < 128 → by_ s i = c ∧ k = 1) ∧ (128 ≤ c → ∀ j, i ≤ j → j < i + k → 128 ≤ by_ s j) := by
  obtain ⟨c, k, hd, hlow, hhigh, hk, hc⟩ := dec_cases s i h
  have ht := dec_tail s i
  rw [hd] at ht
  dsimp only at ht
  refine ⟨c, k, hd, hk, ?_, hc, hlow, fun h128 j h0 h1 => ?_⟩
  · by_cases e : k = 1
    · omega
    · have := (ht (i + (k - 1)) (by omega) (by omega)).1; omega
  · by_cases e : j = i
    · subst e; exact hhigh h128
    · exact (ht j (by omega) h1).2

set_option maxHeartbeats 1600000 in
set_option maxRecDepth 100000 in
theorem sized_walk (s : ByteArray) (w : World) (h1 : 1 ≤ s.size) (h2 : s.size ≤ 64) :
    Calls Tryz.prog 18 #[.string s] w fun e w' => e = .returned (.bool (sizedB s)) ∧ Below w.heap.size w w' := by
  have d1 : decide ((s.size : Int) < 1) = false := decide_eq_false (by omega)
  have d2 : decide (64 < (s.size : Int)) = false := decide_eq_false (by omega)
  go_enter Tryz.func18, Tryz.ntmps18
  go_wp2
  go_loopw [3, 5] (fun v3 _ wr => ∃ pos : Nat, pos ≤ s.size ∧ v3 = .int .i64 ((1 + cnt s pos : Nat) : Int) ∧ wr.heap[w.heap.size]? = some (.stringIter s pos) ∧ Below w.heap.size w wr ∧ ∀ j, j < pos → by_ s j ≠ 0) (fun _ _ wr => s.size - wr.iterPos w.heap.size)
  case atStart => exact ⟨0, Nat.zero_le _, rfl, World.iter_heap w s 0, (Below.refl _ w).alloc (Nat.le_refl _) _, fun j hj => absurd hj (Nat.not_lt_zero _)⟩
  case round =>
    obtain ⟨pos, hps, rfl, hit, hbw, hall⟩ := hrel
    have Hall := Lib.hid hall
    clear hall
    have hcl := cnt_le s pos
    by_cases hp : pos < s.size
    · obtain ⟨c, k, hd, hk, hkk, hc32, hlow, hhigh⟩ := dec_step s pos hp
      have hnx : ∀ ty, (Instr.next (.pointer (some ⟨w.heap.size, 0, none⟩)) true ty).run Tryz.prog wr = .ok (.tuple #[.bool true, .int .i64 pos, .int .i32 c]) (wr.iterAt w.heap.size s (pos + k)) := fun ty => by rw [Lib.run_next_any_at wr w.heap.size s pos ty hit hp, hd]
      have hit2 := Lib.iterAt_heap wr w.heap.size s pos (pos + k) hit
      have hbw2 := Lib.below_iterAt hbw (k := w.heap.size) (Nat.le_refl _) s (pos + k)
      have hmu : wr.iterPos w.heap.size = pos := by simp [World.iterPos, hit]
      generalize wr.iterAt w.heap.size s (pos + k) = W1 at hnx hit2 hbw2
      have hmu2 : W1.iterPos w.heap.size = pos + k := by simp [World.iterPos, hit2]
      have Hmu := Lib.hid hmu
      have Hmu2 := Lib.hid hmu2
      have Hlow := Lib.hid hlow
      have Hhigh := Lib.hid hhigh
      have Hit2 := Lib.hid hit2
      clear hmu hmu2 hlow hhigh hd hit hit2
      by_cases c0 : c = 0
      · have out_ : sizedB s = false := by
          refine decide_eq_false (fun h => h.2.2.1 pos hp ?_)
          rw [(Hlow.out (by omega)).1, c0]
        have Hout := Lib.hid out_
        have b0 : ((c : Int) == 0) = true := by rw [c0]; rfl
        clear out_ c0
        go_wp2
        go_ret
        exact ⟨by rw [Hout.out]; rfl, hbw2⟩
      · have b0 : ((c : Int) == 0) = false := by simp; omega
        have nz : ∀ j, j < pos + k → by_ s j ≠ 0 := by
          intro j hj
          by_cases e : j < pos
          · exact Hall.out j e
          · by_cases h7 : c < 128
            · obtain ⟨e1, e2⟩ := Hlow.out h7
              obtain rfl : j = pos := by omega
              omega
            · have := Hhigh.out (by omega) j (by omega) hj; omega
        have Hnz := Lib.hid nz
        clear nz
        by_cases c1 : c = 47
        · have b1 : ((c : Int) == 47) = true := by rw [c1]; rfl
          have ec : cnt s (pos + k) = cnt s pos + 1 := by
            obtain ⟨e1, e2⟩ := Hlow.out (by omega)
            subst e2
            rw [cnt_succ, if_pos (by omega)]
          have Hec := Lib.hid ec
          clear ec c0 c1
          go_wp2
          go_roundw
          case rel => exact ⟨pos + k, hkk, by rw [Hec.out]; congr 1, Hit2.out, hbw2, Hnz.out⟩
          case measure => rw [Hmu.out, Hmu2.out]; omega
        · have b1 : ((c : Int) == 47) = false := by simp; omega
          have ec : cnt s (pos + k) = cnt s pos := by
            refine cnt_skip s pos k (fun j h0 h1 => ?_)
            by_cases h7 : c < 128
            · obtain ⟨e1, e2⟩ := Hlow.out h7
              obtain rfl : j = pos := by omega
              omega
            · have := Hhigh.out (by omega) j h0 h1; omega
          have Hec := Lib.hid ec
          clear ec c0 c1
          go_wp2
          go_roundw
          case rel => exact ⟨pos + k, hkk, by rw [Hec.out], Hit2.out, hbw2, Hnz.out⟩
          case measure => rw [Hmu.out, Hmu2.out]; omega
    · have hnx : ∀ ty, (Instr.next (.pointer (some ⟨w.heap.size, 0, none⟩)) true ty).run Tryz.prog wr = _ := fun ty => Lib.run_next_end_at wr w.heap.size s pos ty hit hp
      have Hit := Lib.hid hit
      clear hit
      go_wp2
      go_ret
      refine ⟨?_, hbw⟩
      have e : pos = s.size := by omega
      have e2 : sizedB s = decide (((1 + cnt s pos : Nat) : Int) ≤ 8) := by
        unfold sizedB
        rw [e]
        refine decide_eq_decide.2 ⟨fun h => by omega, fun h => ⟨h1, h2, fun i hi => Hall.out i (by omega), by omega⟩⟩
      rw [e2]
      rfl
theorem sized_calls (s : ByteArray) (r : Bool) (w : World) (hr : sizedB s = r) (hs : s.size ≤ 9223372036854775807) :
    Calls Tryz.prog 18 #[.string s] w fun e w' => e = .returned (.bool r) ∧ Below w.heap.size w w' := by
  subst hr
  by_cases h1 : 1 ≤ s.size
  · by_cases h2 : s.size ≤ 64
    · exact sized_walk s w h1 h2
    · have e : sizedB s = false := decide_eq_false (fun h => h2 h.2.1)
      rw [e]
      have d1 : decide ((s.size : Int) < 1) = false := decide_eq_false (by omega)
      have d2 : decide (64 < (s.size : Int)) = true := decide_eq_true (by omega)
      clear h1 h2 e
      go_enter Tryz.func18, Tryz.ntmps18
      go_wp2
      go_ret
      exact ⟨rfl, Below.refl _ _⟩
  · have e : sizedB s = false := decide_eq_false (fun h => h1 h.1)
    rw [e]
    have d1 : decide ((s.size : Int) < 1) = true := decide_eq_true (by omega)
    clear h1 e
    go_enter Tryz.func18, Tryz.ntmps18
    go_wp2
    go_ret
    exact ⟨rfl, Below.refl _ _⟩

def validB (s : ByteArray) : Bool := sizedB s && decide (∀ i, i < s.size → by_ s i ≠ 43 ∧ by_ s i ≠ 35)
theorem sized_size {s : ByteArray} (h : sizedB s = true) : 1 ≤ s.size ∧ s.size ≤ 64 := by
  have := of_decide_eq_true h
  exact ⟨this.1, this.2.1⟩

set_option maxHeartbeats 1600000 in
set_option maxRecDepth 100000 in
theorem valid_walk (s : ByteArray) (w : World) (h : sizedB s = true) :
    Calls Tryz.prog 6 #[.string s] w fun e w' => e = .returned (.bool (validB s)) ∧ Below w.heap.size w w' := by
  have hsz := sized_size h
  have Hv : Hid (validB s = decide (∀ i, i < s.size → by_ s i ≠ 43 ∧ by_ s i ≠ 35)) := by
    refine Lib.hid ?_
    unfold validB
    rw [h]
    rfl
  have c30 := sized_calls s true w h (by omega)
  clear h
  go_enter Tryz.func6, Tryz.ntmps6
  go_wp2_with (go_at_call 18; refine c30.mono ?_; rintro e w1 ⟨rfl, hb1⟩)
  have HB1 := Lib.hid hb1
  clear hb1 c30
  go_loopw [4] (fun _ wr => ∃ pos : Nat, pos ≤ s.size ∧ wr.heap[w1.heap.size]? = some (.stringIter s pos) ∧ Below w1.heap.size w1 wr ∧ ∀ j, j < pos → by_ s j ≠ 43 ∧ by_ s j ≠ 35) (fun _ wr => s.size - wr.iterPos w1.heap.size)
  case atStart => exact ⟨0, Nat.zero_le _, World.iter_heap w1 s 0, (Below.refl _ w1).alloc (Nat.le_refl _) _, fun j hj => absurd hj (Nat.not_lt_zero _)⟩
  case round =>
    obtain ⟨pos, hps, hit, hbw, hall⟩ := hrel
    have Hall := Lib.hid hall
    clear hall
    by_cases hp : pos < s.size
    · obtain ⟨c, k, hd, hk, hkk, hc32, hlow, hhigh⟩ := dec_step s pos hp
      have hnx : ∀ ty, (Instr.next (.pointer (some ⟨w1.heap.size, 0, none⟩)) true ty).run Tryz.prog wr = .ok (.tuple #[.bool true, .int .i64 pos, .int .i32 c]) (wr.iterAt w1.heap.size s (pos + k)) := fun ty => by rw [Lib.run_next_any_at wr w1.heap.size s pos ty hit hp, hd]
      have hit2 := Lib.iterAt_heap wr w1.heap.size s pos (pos + k) hit
      have hbw2 := Lib.below_iterAt hbw (k := w1.heap.size) (Nat.le_refl _) s (pos + k)
      have hmu : wr.iterPos w1.heap.size = pos := by simp [World.iterPos, hit]
      generalize wr.iterAt w1.heap.size s (pos + k) = W1 at hnx hit2 hbw2
      have hmu2 : W1.iterPos w1.heap.size = pos + k := by simp [World.iterPos, hit2]
      have Hmu := Lib.hid hmu
      have Hmu2 := Lib.hid hmu2
      have Hlow := Lib.hid hlow
      have Hhigh := Lib.hid hhigh
      have Hit2 := Lib.hid hit2
      clear hmu hmu2 hlow hhigh hd hit hit2
      by_cases c0 : c = 43 ∨ c = 35
      · have out_ : validB s = false := by
          rw [Hv.out]
          refine decide_eq_false (fun h => ?_)
          have h1 := h pos hp
          have h2 := (Hlow.out (by omega)).1
          omega
        have Hout := Lib.hid out_
        clear out_
        by_cases c1 : c = 43
        · have b0 : ((c : Int) == 43) = true := by rw [c1]; rfl
          clear c0 c1
          go_wp2
          go_ret
          exact ⟨by rw [Hout.out]; rfl, pw_trans_ HB1.out hbw2⟩
        · have b0 : ((c : Int) == 43) = false := by simp; omega
          have b1 : ((c : Int) == 35) = true := by simp; omega
          clear c0 c1
          go_wp2
          go_ret
          exact ⟨by rw [Hout.out]; rfl, pw_trans_ HB1.out hbw2⟩
      · have b0 : ((c : Int) == 43) = false := by simp; omega
        have b1 : ((c : Int) == 35) = false := by simp; omega
        have nz : ∀ j, j < pos + k → by_ s j ≠ 43 ∧ by_ s j ≠ 35 := by
          intro j hj
          by_cases e : j < pos
          · exact Hall.out j e
          · by_cases h7 : c < 128
            · obtain ⟨e1, e2⟩ := Hlow.out h7
              obtain rfl : j = pos := by omega
              omega
            · have := Hhigh.out (by omega) j (by omega) hj; omega
        have Hnz := Lib.hid nz
        clear nz c0
        go_wp2
        go_roundw
        case rel => exact ⟨pos + k, hkk, Hit2.out, hbw2, Hnz.out⟩
        case measure => rw [Hmu.out, Hmu2.out]; omega
    · have hnx : ∀ ty, (Instr.next (.pointer (some ⟨w1.heap.size, 0, none⟩)) true ty).run Tryz.prog wr = _ := fun ty => Lib.run_next_end_at wr w1.heap.size s pos ty hit hp
      have Hit := Lib.hid hit
      clear hit
      go_wp2
      go_ret
      refine ⟨?_, pw_trans_ HB1.out hbw⟩
      rw [Hv.out, decide_eq_true (fun i hi => Hall.out i (by omega))]
      rfl
theorem valid_calls (s : ByteArray) (r : Bool) (w : World) (hr : validB s = r) (hs : s.size ≤ 9223372036854775807) :
    Calls Tryz.prog 6 #[.string s] w fun e w' => e = .returned (.bool r) ∧ Below w.heap.size w w' := by
  subst hr
  by_cases h : sizedB s = true
  · exact valid_walk s w h
  · have h' : sizedB s = false := by simpa using h
    have e : validB s = false := by unfold validB; rw [h']; rfl
    rw [e]
    have c30 := sized_calls s false w h' hs
    clear h h' e
    go_enter Tryz.func6, Tryz.ntmps6
    go_wp2_with (go_at_call 18; refine c30.mono ?_; rintro e w1 ⟨rfl, hb1⟩)
    go_ret
    exact ⟨rfl, hb1⟩
end Go.Proofs.YtfcomjinaokeaaaGreatDoor.Ext
