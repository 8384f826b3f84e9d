/- Messages: Get, Path, Passed, Set, Enter, Strip and the specification's, as plain functions. -/
import Derived.Test.YtfikhfahpdhjbaaDoorPx10
import Derived.Test.YtfikhfahpdhjbaaDoorPx12
import Derived.Test.YtfikhfahpdhjbaaDoorPx13
import Derived.Test.YtfikhfahpdhjbaaDoorPx15
import Derived.Test.YtfikhfahpdhjbaaDoorPx17
import Derived.Test.YtfikhfahpdhjbaaDoorPx2
import Derived.Test.YtfikhfahpdhjbaaDoorPx3
import Derived.Test.YtfikhfahpdhjbaaDoorPx4
import Derived.Test.YtfikhfahpdhjbaaDoorPx8
import Derived.Test.YtfikhfahpdhjbaaDoorPx9
import Derived.Test.YtfikhfahpdhjbaaDoorPureName
import Derived.Test.YtfikhfahpdhjbaaDoorPureProps
-- needs: message_Set hops_Enter hops_Strip brokerref05_Get brokerref46_Path brokerref46_Passed brokerref05_Set brokerref46_Enter brokerref05_Same brokerref46_Strip brokerlaw46_light
namespace Go.Proofs.YtfikhfahpdhjbaaDoor.Pure
open Go Go.RowKit Go.Proofs.YtfikhfahpdhjbaaDoor.P Go.Proofs.YtfikhfahpdhjbaaDoorW.PrintWords Go.Proofs.YtfikhfahpdhjbaaDoorW.PrintLast Go.Proofs.YtfikhfahpdhjbaaDoor.Ext

theorem toList_inj {a b : ByteArray} (h : a.toList = b.toList) : a = b := toL_inj (by rw [← toList_toL, ← toList_toL, h])
theorem rdAt (l : List S50) (i : Nat) (h : i < l.length) : rd_T50 l (i : Int) = l[i] := by
  show l.getD i z50 = _
  rw [List.getD_eq_getElem?_getD, List.getElem?_eq_getElem h]
  rfl
theorem rdS (l : List ByteArray) (i : Nat) (h : i < l.length) : rdOf ByteArray.empty l (i : Int) = l[i] := by
  show l.getD i ByteArray.empty = _
  rw [List.getD_eq_getElem?_getD, List.getElem?_eq_getElem h]
  rfl
theorem nx (i : Nat) (h : i ≤ 1000000) : wrap64 ((i : Int) + 1) = ((i + 1 : Nat) : Int) := by
  unfold wrap64
  omega
def pathK : ByteArray := ⟨#[112, 97, 116, 104]⟩

/-! ### light -/
def lightB (l : List S50) : Bool := decide (l.length ≤ 60) && l.all fun p => decide (p.f1.size ≤ 3000)
theorem light_ev (a b : ByteArray) (c : Int) (d : Bool) (e f : Int) (g : ByteArray) (h : Int) (l : List S50) : Ev (fun k => brokerlaw46_light.f k a b c d e f g h l) (lightB l) := by
  simp only [brokerlaw46_light.f]
  unfold lightB
  by_cases h60 : (l.length : Int) > 60
  · rw [decide_eq_false (by omega)]
    exact ev_pos h60 (ev_some rfl)
  · rw [decide_eq_true (by omega), Bool.true_and]
    refine ev_neg h60 ?_
    have : ∀ d' i : Nat, i + d' = l.length → Ev (fun k => brokerlaw46_light.l0 k (i : Int) a b c d e f g h l) ((l.drop i).all fun p => decide (p.f1.size ≤ 3000)) := by
      intro d'
      induction d' with
      | zero =>
        intro i hi
        refine ev_succ ?_
        simp only [brokerlaw46_light.l0]
        rw [List.drop_of_length_le (by omega)]
        exact ev_neg (by omega) (ev_some rfl)
      | succ d' ih =>
        intro i hi
        refine ev_succ ?_
        simp only [brokerlaw46_light.l0]
        rw [rdAt l i (by omega), nx i (by omega), List.drop_eq_getElem_cons (by omega), List.all_cons]
        refine ev_pos (by omega) (ev_pos (by omega) ?_)
        by_cases hb : ((l[i].f1).size : Int) > 3000
        · rw [decide_eq_false (by omega)]
          exact ev_pos hb (ev_some rfl)
        · rw [decide_eq_true (by omega), Bool.true_and]
          exact ev_neg hb (ih (i + 1) (by omega))
    exact this l.length 0 (by omega)
theorem light_len {l : List S50} (h : lightB l = true) : l.length ≤ 60 := by
  unfold lightB at h
  rw [Bool.and_eq_true] at h
  exact of_decide_eq_true h.1
theorem light_val {l : List S50} (h : lightB l = true) : ∀ p ∈ l, p.f1.size ≤ 3000 := fun p hp => by
  unfold lightB at h
  rw [Bool.and_eq_true] at h
  exact of_decide_eq_true (List.all_eq_true.1 h.2 p hp)

/-! ### Get -/
def getR (key : ByteArray) (l : List S50) : ByteArray × Bool := match getL key l with | some v => (v, true) | none => (⟨#[]⟩, false)
theorem getR_cons (key : ByteArray) (p : S50) (l : List S50) : getR key (p :: l) = if p.f0.toList = key.toList then (p.f1, true) else getR key l := by
  unfold getR
  show (match (if p.f0.toList = key.toList then some p.f1 else getL key l) with | some v => (v, true) | none => (⟨#[]⟩, false)) = _
  split <;> split <;> simp_all
theorem get_ev (key : ByteArray) (l : List S50) (hl : l.length ≤ 1000) : Ev (fun k => message_Get.f k l key) (getR key l) := by
  simp only [message_Get.f]
  have : ∀ d i : Nat, i + d = l.length → Ev (fun k => message_Get.l0 k key l (l.length : Int) (i : Int)) (getR key (l.drop i)) := by
    intro d
    induction d with
    | zero =>
      intro i hi
      refine ev_succ ?_
      simp only [message_Get.l0]
      rw [List.drop_of_length_le (by omega)]
      exact ev_neg (by omega) (ev_some rfl)
    | succ d ih =>
      intro i hi
      refine ev_succ ?_
      simp only [message_Get.l0]
      rw [rdAt l i (by omega), nx i (by omega), List.drop_eq_getElem_cons (by omega), getR_cons]
      refine ev_pos (by omega) (ev_pos (by omega) (ev_pos (by omega) ?_))
      by_cases h : l[i].f0.toList = key.toList
      · rw [if_pos h]
        exact ev_pos h (ev_some rfl)
      · rw [if_neg h]
        exact ev_neg h (ih (i + 1) (by omega))
  exact this l.length 0 (by omega)
theorem refget_ev (key : ByteArray) (l : List S50) (hl : l.length ≤ 1000) : Ev (fun k => brokerref05_Get.f k l key) (getR key l) := by
  simp only [brokerref05_Get.f]
  have : ∀ d i : Nat, i + d = l.length → Ev (fun k => brokerref05_Get.l0 k l key (i : Int)) (getR key (l.drop i)) := by
    intro d
    induction d with
    | zero =>
      intro i hi
      refine ev_succ ?_
      simp only [brokerref05_Get.l0]
      rw [List.drop_of_length_le (by omega)]
      exact ev_neg (by omega) (ev_some rfl)
    | succ d ih =>
      intro i hi
      refine ev_succ ?_
      simp only [brokerref05_Get.l0]
      rw [rdAt l i (by omega), nx i (by omega), List.drop_eq_getElem_cons (by omega), getR_cons]
      refine ev_pos (by omega) (ev_pos (by omega) ?_)
      by_cases h : l[i].f0.toList = key.toList
      · rw [if_pos h]
        exact ev_pos h (ev_some rfl)
      · rw [if_neg h]
        exact ev_neg h (ih (i + 1) (by omega))
  exact this l.length 0 (by omega)
def valL (l : List S50) : ByteArray := (getR pathK l).1
theorem val_small {l : List S50} (h : ∀ p ∈ l, p.f1.size ≤ 3000) : (valL l).size ≤ 3000 := by
  unfold valL getR
  cases hg : getL pathK l with
  | none => exact Nat.zero_le _
  | some v =>
    obtain ⟨p, hp, rfl⟩ := getL_mem hg
    exact h p hp

/-! ### Path -/
def pathL (l : List S50) : List ByteArray := if (valL l).toList = [] then [] else (pieces 44 (toL (valL l))).map mkB
theorem path_ev (a b : ByteArray) (c : Int) (d : Bool) (e f : Int) (g : ByteArray) (h : Int) (l : List S50) (hl : l.length ≤ 1000) (hv : (valL l).size ≤ 3000) : Ev (fun k => hops_Path.f k a b c d e f g h l) (pathL l) := by
  simp only [hops_Path.f]
  refine ev_bind (get_ev pathK l hl) ?_
  unfold pathL
  by_cases h0 : (valL l).toList = []
  · rw [if_pos h0]
    exact ev_pos h0 (ev_some rfl)
  · rw [if_neg h0]
    refine ev_neg h0 (ev_const ?_ (ev_some rfl))
    exact splitF_eq 44 _ (by show (valL l).size < _; omega)
theorem cut_mk (s : ByteArray) (a b : Nat) : s.extract a b = mkB (((toL s).take b).drop a) := by rw [← toL_extract, mk_toL]
theorem refpath_l0 (s : ByteArray) (hs : s.size ≤ 3000) : ∀ (d : Nat) (out : List ByteArray) (fr : Nat), d ≤ s.size → fr ≤ s.size - d → out.length ≤ s.size - d → (∀ i, fr ≤ i → i < s.size - d → by_ s i ≠ 44) →
    Ev (fun k => brokerref46_Path.l0 k s out (fr : Int) ((s.size - d : Nat) : Int)) (out ++ (pieces 44 ((toL s).drop fr)).map mkB) := by
  have hL : (toL s).length = s.size := toL_len s
  have nomem : ∀ (fr n : Nat), n ≤ s.size → (∀ i, fr ≤ i → i < n → by_ s i ≠ 44) → (44 : UInt8) ∉ ((toL s).take n).drop fr := by
    intro fr n hn h hm
    obtain ⟨j, hj, e⟩ := List.mem_iff_getElem.1 hm
    rw [List.length_drop, List.length_take] at hj
    rw [List.getElem_drop, List.getElem_take] at e
    refine h (fr + j) (by omega) (by omega) ?_
    rw [by_toL, List.getElem?_eq_getElem (by omega), e]
    rfl
  intro d
  induction d with
  | zero =>
    intro out fr _ hfr ho hno
    refine ev_succ ?_
    simp only [brokerref46_Path.l0]
    refine ev_neg (by omega) (ev_pos (by omega) (ev_pos (by omega) (ev_pos (by omega) (ev_some ?_))))
    rw [cut_mk, show ((fr : Int)).toNat = fr from rfl, List.take_of_length_le (by omega)]
    have h44 := nomem fr s.size (Nat.le_refl _) (fun i h0 h1 => hno i h0 (by omega))
    rw [List.take_of_length_le (by omega)] at h44
    rw [pieces_none _ _ h44]
    rfl
  | succ d ih =>
    intro out fr hd hfr ho hno
    have hu : wrap64 (((s.size - (d + 1) : Nat) : Int) + 1) = ((s.size - d : Nat) : Int) := by unfold wrap64; omega
    refine ev_succ ?_
    simp only [brokerref46_Path.l0]
    refine ev_pos (by omega) (ev_pos (by omega) ?_)
    rw [hu, bt_by]
    by_cases h : by_ s (s.size - (d + 1)) = 44
    · refine ev_pos (by rw [h]; rfl) (ev_pos (by omega) (ev_pos (by omega) (ev_pos (by omega) (ev_pos (by omega) ?_))))
      have hlt : s.size - (d + 1) < s.size := by omega
      have ih' := ih (out ++ [s.extract fr (s.size - (d + 1))]) (s.size - d) (by omega) (Nat.le_refl _) (by rw [List.length_append, List.length_singleton]; omega) (fun i h0 h1 => by omega)
      obtain ⟨c, hc, hcn⟩ := toL_at hlt
      have hc44 : c = 44 := u8_eq (n := 44) (hcn.trans h) (by omega)
      subst hc44
      have hsplit : (toL s).drop fr = ((toL s).take (s.size - (d + 1))).drop fr ++ 44 :: (toL s).drop (s.size - d) := by
        have e1 : (toL s) = (toL s).take (s.size - (d + 1)) ++ (toL s).drop (s.size - (d + 1)) := (List.take_append_drop _ _).symm
        have e2 : (toL s).drop (s.size - (d + 1)) = 44 :: (toL s).drop (s.size - d) := by
          have hlt : s.size - (d + 1) < (toL s).length := by omega
          rw [List.drop_eq_getElem_cons hlt, show s.size - (d + 1) + 1 = s.size - d by omega]
          congr 1
          rw [List.getElem?_eq_getElem hlt] at hc
          exact Option.some.inj hc
        conv => lhs; rw [e1]
        rw [List.drop_append_of_le_length (by rw [List.length_take]; omega), e2]
      rw [hsplit, pieces_hit _ _ _ (nomem fr (s.size - (d + 1)) (by omega) hno), List.map_cons, ← cut_mk]
      rw [List.append_assoc] at ih'
      exact ih'
    · refine ev_neg (by omega) (ih out fr (by omega) (by omega) (by omega) (fun i h0 h1 => ?_))
      by_cases e : i = s.size - (d + 1)
      · subst e; exact h
      · exact hno i h0 (by omega)
theorem refpath_ev (a b : ByteArray) (c : Int) (d : Bool) (e f : Int) (g : ByteArray) (h : Int) (l : List S50) (hl : l.length ≤ 1000) (hv : (valL l).size ≤ 3000) : Ev (fun k => brokerref46_Path.f k a b c d e f g h l) (pathL l) := by
  simp only [brokerref46_Path.f]
  refine ev_bind (refget_ev pathK l hl) ?_
  unfold pathL
  by_cases h0 : (valL l).toList = []
  · rw [if_pos h0]
    exact ev_pos h0 (ev_some rfl)
  · rw [if_neg h0]
    refine ev_neg h0 ?_
    have := refpath_l0 (valL l) hv (valL l).size [] 0 (Nat.le_refl _) (Nat.zero_le _) (Nat.zero_le _) (fun i _ h => by omega)
    rw [Nat.sub_self] at this
    exact this
theorem path_len {l : List S50} (hv : (valL l).size ≤ 3000) : (pathL l).length ≤ 3001 := by
  unfold pathL
  split
  · exact Nat.zero_le _
  · rw [List.length_map, pieces_length]
    have := List.count_le_length (a := (44 : UInt8)) (l := toL (valL l))
    rw [toL_len] at this
    omega
/-! ### Passed -/
def inB (x : ByteArray) (xs : List ByteArray) : Bool := xs.any fun y => y.toList == x.toList
theorem contains_ev (xs : List ByteArray) (x : ByteArray) (hl : xs.length ≤ 100000) : Ev (fun k => slices_Contains_string_string.f k xs x) (inB x xs) := by
  simp only [slices_Contains_string_string.f, slices_Index_string_string.f]
  have : ∀ d i : Nat, i + d = xs.length → ∃ r : Int, decide (r ≥ 0) = inB x (xs.drop i) ∧ Ev (fun k => slices_Index_string_string.l0 k xs x (xs.length : Int) (i : Int)) r := by
    intro d
    induction d with
    | zero =>
      intro i hi
      refine ⟨-1, ?_, ev_succ ?_⟩
      · rw [List.drop_of_length_le (by omega)]
        rfl
      · simp only [slices_Index_string_string.l0]
        exact ev_neg (by omega) (ev_some rfl)
    | succ d ih =>
      intro i hi
      by_cases h : x.toList = xs[i].toList
      · refine ⟨(i : Int), ?_, ev_succ ?_⟩
        · rw [List.drop_eq_getElem_cons (by omega)]
          unfold inB
          rw [List.any_cons, h, beq_self_eq_true, Bool.true_or]
          exact decide_eq_true (by omega)
        · simp only [slices_Index_string_string.l0]
          rw [rdS xs i (by omega)]
          exact ev_pos (by omega) (ev_pos (by omega) (ev_pos (by omega) (ev_pos h (ev_some rfl))))
      · obtain ⟨r, hr, hev⟩ := ih (i + 1) (by omega)
        refine ⟨r, ?_, ev_succ ?_⟩
        · rw [hr, List.drop_eq_getElem_cons (l := xs) (i := i) (by omega)]
          unfold inB
          rw [List.any_cons, beq_eq_false_iff_ne.2 (fun e => h e.symm), Bool.false_or]
        · simp only [slices_Index_string_string.l0]
          rw [rdS xs i (by omega), nx i (by omega)]
          exact ev_pos (by omega) (ev_pos (by omega) (ev_pos (by omega) (ev_neg h hev)))
  obtain ⟨r, hr, hev⟩ := this xs.length 0 (by omega)
  exact ev_bind hev (ev_some (by rw [hr]; rfl))
theorem passed_ev (a b : ByteArray) (c : Int) (d : Bool) (e f : Int) (g : ByteArray) (h : Int) (l : List S50) (x : ByteArray) (hl : l.length ≤ 1000) (hv : (valL l).size ≤ 3000) : Ev (fun k => hops_Passed.f k a b c d e f g h l x) (inB x (pathL l)) := by
  have := path_len hv
  simp only [hops_Passed.f]
  exact ev_bind (path_ev a b c d e f g h l hl hv) (ev_bind (contains_ev (pathL l) x (by omega)) (ev_some rfl))
theorem refpassed_ev (a b : ByteArray) (c : Int) (d : Bool) (e f : Int) (g : ByteArray) (h : Int) (l : List S50) (x : ByteArray) (hl : l.length ≤ 1000) (hv : (valL l).size ≤ 3000) : Ev (fun k => brokerref46_Passed.f k a b c d e f g h l x) (inB x (pathL l)) := by
  have hpl := path_len hv
  simp only [brokerref46_Passed.f]
  refine ev_bind (refpath_ev a b c d e f g h l hl hv) ?_
  generalize pathL l = xs at hpl
  have : ∀ d i : Nat, i + d = xs.length → Ev (fun k => brokerref46_Passed.l0 k x xs (i : Int)) (inB x (xs.drop i)) := by
    intro d
    induction d with
    | zero =>
      intro i hi
      refine ev_succ ?_
      simp only [brokerref46_Passed.l0]
      rw [List.drop_of_length_le (by omega)]
      exact ev_neg (by omega) (ev_some rfl)
    | succ d ih =>
      intro i hi
      refine ev_succ ?_
      simp only [brokerref46_Passed.l0]
      rw [rdS xs i (by omega), nx i (by omega), List.drop_eq_getElem_cons (by omega)]
      refine ev_pos (by omega) (ev_pos (by omega) ?_)
      have ih' := ih (i + 1) (by omega)
      unfold inB at ih' ⊢
      rw [List.any_cons]
      by_cases h : xs[i].toList = x.toList
      · rw [h, beq_self_eq_true, Bool.true_or]
        exact ev_pos rfl (ev_some rfl)
      · rw [beq_eq_false_iff_ne.2 h, Bool.false_or]
        exact ev_neg h ih'
  exact this xs.length 0 (by omega)
/-! ### Keys, and lists of properties in order -/
def okI (c : Int) : Bool := (decide (97 ≤ c) && decide (c ≤ 122)) || (decide (48 ≤ c) && decide (c ≤ 57)) || decide (c = 45)
theorem okI_yes {c : Int} (h : (97 ≤ c ∧ c ≤ 122) ∨ (48 ≤ c ∧ c ≤ 57) ∨ c = 45) : okI c = true := by
  unfold okI
  simp only [Bool.or_eq_true, Bool.and_eq_true, decide_eq_true_eq]
  omega
theorem okI_no {c : Int} (h : ¬ ((97 ≤ c ∧ c ≤ 122) ∨ (48 ≤ c ∧ c ≤ 57) ∨ c = 45)) : okI c = false := by
  refine Bool.eq_false_iff.2 fun e => h ?_
  unfold okI at e
  simp only [Bool.or_eq_true, Bool.and_eq_true, decide_eq_true_eq] at e
  omega
theorem key_if1 {α : Type} (c : Int) (a b : α) : (if c < 97 then (if c < 48 then (if c = 45 then a else b) else (if c > 57 then (if c = 45 then a else b) else a)) else (if c > 122 then (if c < 48 then (if c = 45 then a else b) else (if c > 57 then (if c = 45 then a else b) else a)) else a)) = if okI c = true then a else b := by
  by_cases h : (97 ≤ c ∧ c ≤ 122) ∨ (48 ≤ c ∧ c ≤ 57) ∨ c = 45
  · rw [if_pos (okI_yes h)]
    repeat' split
    all_goals first | rfl | (exfalso; omega)
  · have e : ¬ okI c = true := by rw [okI_no h]; decide
    rw [if_neg e]
    repeat' split
    all_goals first | rfl | (exfalso; omega)
theorem key_if2 {α : Type} (c : Int) (a b : α) : (if c ≥ 97 then (if c ≤ 122 then a else (if c ≥ 48 then (if c ≤ 57 then a else (if c = 45 then a else b)) else (if c = 45 then a else b))) else (if c ≥ 48 then (if c ≤ 57 then a else (if c = 45 then a else b)) else (if c = 45 then a else b))) = if okI c = true then a else b := by
  by_cases h : (97 ≤ c ∧ c ≤ 122) ∨ (48 ≤ c ∧ c ≤ 57) ∨ c = 45
  · rw [if_pos (okI_yes h)]
    repeat' split
    all_goals first | rfl | (exfalso; omega)
  · have e : ¬ okI c = true := by rw [okI_no h]; decide
    rw [if_neg e]
    repeat' split
    all_goals first | rfl | (exfalso; omega)
def keyD (s : ByteArray) : Nat → Bool
  | 0 => true
  | d + 1 => okI (bt s ((s.size - (d + 1) : Nat) : Int)) && keyD s d
def keyB (s : ByteArray) : Bool := decide (1 ≤ s.size ∧ s.size ≤ 16) && keyD s s.size
theorem key_ev (s : ByteArray) : Ev (fun k => message_key.f k s) (keyB s) := by
  unfold keyB
  simp only [message_key.f]
  have no : ¬ (1 ≤ s.size ∧ s.size ≤ 16) → Ev (fun k => message_key.j0 k s true) (decide (1 ≤ s.size ∧ s.size ≤ 16) && keyD s s.size) := fun h => by
    rw [decide_eq_false h, Bool.false_and]
    refine ev_succ ?_
    simp only [message_key.j0]
    exact ev_some rfl
  by_cases h1 : (s.size : Int) < 1
  · exact ev_pos h1 (no (by omega))
  · refine ev_neg h1 ?_
    by_cases h2 : (s.size : Int) > 16
    · rw [decide_eq_true h2]
      exact no (by omega)
    · rw [decide_eq_false h2, decide_eq_true (show 1 ≤ s.size ∧ s.size ≤ 16 from by omega), Bool.true_and]
      refine ev_succ ?_
      simp only [message_key.j0]
      refine ev_ff ?_
      have : ∀ d : Nat, d ≤ s.size → Ev (fun k => message_key.l0 k s ((s.size - d : Nat) : Int)) (keyD s d) := by
        intro d
        induction d with
        | zero =>
          intro _
          refine ev_succ ?_
          simp only [message_key.l0]
          exact ev_neg (by omega) (ev_some rfl)
        | succ d ih =>
          intro hd
          refine ev_succ ?_
          simp only [message_key.l0, key_if1]
          rw [nx _ (by omega), show s.size - (d + 1) + 1 = s.size - d from by omega]
          refine ev_pos (by omega) (ev_pos (by omega) ?_)
          show Ev _ (okI (bt s ((s.size - (d + 1) : Nat) : Int)) && keyD s d)
          cases okI (bt s ((s.size - (d + 1) : Nat) : Int)) with
          | true => exact ev_tt (ih (by omega))
          | false => exact ev_ff (ev_some rfl)
      have h := this s.size (Nat.le_refl _)
      rw [Nat.sub_self] at h
      exact h
theorem refkey_ev (s : ByteArray) : Ev (fun k => brokerref05_Key.f k s) (keyB s) := by
  unfold keyB
  simp only [brokerref05_Key.f]
  have no : ¬ (1 ≤ s.size ∧ s.size ≤ 16) → Ev (fun k => brokerref05_Key.j0 k s true) (decide (1 ≤ s.size ∧ s.size ≤ 16) && keyD s s.size) := fun h => by
    rw [decide_eq_false h, Bool.false_and]
    refine ev_succ ?_
    simp only [brokerref05_Key.j0]
    exact ev_some rfl
  by_cases h1 : (s.size : Int) < 1
  · exact ev_pos h1 (no (by omega))
  · refine ev_neg h1 ?_
    by_cases h2 : (s.size : Int) > 16
    · rw [decide_eq_true h2]
      exact no (by omega)
    · rw [decide_eq_false h2, decide_eq_true (show 1 ≤ s.size ∧ s.size ≤ 16 from by omega), Bool.true_and]
      refine ev_succ ?_
      simp only [brokerref05_Key.j0]
      refine ev_ff ?_
      have : ∀ d : Nat, d ≤ s.size → Ev (fun k => brokerref05_Key.l0 k s ((s.size - d : Nat) : Int)) (keyD s d) := by
        intro d
        induction d with
        | zero =>
          intro _
          refine ev_succ ?_
          simp only [brokerref05_Key.l0]
          exact ev_neg (by omega) (ev_some rfl)
        | succ d ih =>
          intro hd
          refine ev_succ ?_
          simp only [brokerref05_Key.l0, key_if2]
          rw [nx _ (by omega), show s.size - (d + 1) + 1 = s.size - d from by omega]
          refine ev_pos (by omega) (ev_pos (by omega) ?_)
          show Ev _ (okI (bt s ((s.size - (d + 1) : Nat) : Int)) && keyD s d)
          cases okI (bt s ((s.size - (d + 1) : Nat) : Int)) with
          | true => exact ev_tt (ih (by omega))
          | false => exact ev_ff (ev_some rfl)
      have h := this s.size (Nat.le_refl _)
      rw [Nat.sub_self] at h
      exact h
theorem key_path : keyB pathK = true := by decide +kernel
def propsD (l : List S50) : Nat → Int
  | 0 => 0
  | d + 1 => if keyB (rd_T50 l ((l.length - (d + 1) : Nat) : Int)).f0 = true then (if (rd_T50 l ((l.length - (d + 1) : Nat) : Int)).f1.size > 160 then 5 else if l.length - (d + 1) > 0 then (if less (rd_T50 l ((l.length - (d + 1) - 1 : Nat) : Int)).f0 (rd_T50 l ((l.length - (d + 1) : Nat) : Int)).f0 = true then propsD l d else 16) else propsD l d) else 16
def propsE (l : List S50) : Int := if l.length > 8 then 5 else propsD l l.length
theorem down (i : Nat) (h : i ≤ 1000000) (h0 : 0 < i) : wrap64 ((i : Int) - 1) = ((i - 1 : Nat) : Int) := by
  unfold wrap64
  omega
theorem props_ev (l : List S50) : Ev (fun k => message_Props.f k l) (propsE l) := by
  unfold propsE
  simp only [message_Props.f]
  by_cases h8 : l.length > 8
  · rw [if_pos h8]
    exact ev_pos (by omega) (ev_some rfl)
  · rw [if_neg h8]
    refine ev_neg (by omega) ?_
    have : ∀ d : Nat, d ≤ l.length → Ev (fun k => message_Props.l0 k l l (l.length : Int) ((l.length - d : Nat) : Int)) (propsD l d) := by
      intro d
      induction d with
      | zero =>
        intro _
        refine ev_succ ?_
        simp only [message_Props.l0]
        exact ev_neg (by omega) (ev_some rfl)
      | succ d ih =>
        intro hd
        have ih' := ih (by omega)
        refine ev_succ ?_
        simp only [message_Props.l0]
        rw [nx _ (by omega), show l.length - (d + 1) + 1 = l.length - d from by omega]
        refine ev_pos (by omega) (ev_pos (by omega) (ev_pos (by omega) (ev_bind (key_ev _) ?_)))
        unfold propsD
        by_cases hk : keyB (rd_T50 l ((l.length - (d + 1) : Nat) : Int)).f0 = true
        · rw [hk, if_pos rfl]
          refine ev_tt ?_
          by_cases hv : (rd_T50 l ((l.length - (d + 1) : Nat) : Int)).f1.size > 160
          · rw [if_pos hv]
            exact ev_pos (by omega) (ev_some rfl)
          · rw [if_neg hv]
            refine ev_neg (by omega) ?_
            by_cases hi : l.length - (d + 1) > 0
            · rw [if_pos hi, down _ (by omega) hi]
              refine ev_pos (by omega) (ev_pos (by omega) (ev_pos (by omega) ?_))
              by_cases hl : less (rd_T50 l ((l.length - (d + 1) - 1 : Nat) : Int)).f0 (rd_T50 l ((l.length - (d + 1) : Nat) : Int)).f0 = true
              · rw [if_pos hl]
                exact ev_pos hl ih'
              · rw [if_neg hl]
                exact ev_neg hl (ev_some rfl)
            · rw [if_neg hi]
              exact ev_neg (by omega) ih'
        · rw [if_neg hk]
          exact ev_neg hk (ev_some rfl)
    have h := this l.length (Nat.le_refl _)
    rw [Nat.sub_self] at h
    exact h
theorem refprops_ev (l : List S50) : Ev (fun k => brokerref05_Props.f k l) (propsE l) := by
  unfold propsE
  simp only [brokerref05_Props.f]
  by_cases h8 : l.length > 8
  · rw [if_pos h8]
    exact ev_pos (by omega) (ev_some rfl)
  · rw [if_neg h8]
    refine ev_neg (by omega) ?_
    have : ∀ d : Nat, d ≤ l.length → Ev (fun k => brokerref05_Props.l0 k l ((l.length - d : Nat) : Int)) (propsD l d) := by
      intro d
      induction d with
      | zero =>
        intro _
        refine ev_succ ?_
        simp only [brokerref05_Props.l0]
        exact ev_neg (by omega) (ev_some rfl)
      | succ d ih =>
        intro hd
        have ih' := ih (by omega)
        refine ev_succ ?_
        simp only [brokerref05_Props.l0]
        rw [nx _ (by omega), show l.length - (d + 1) + 1 = l.length - d from by omega]
        refine ev_pos (by omega) (ev_pos (by omega) (ev_bind (refkey_ev _) ?_))
        unfold propsD
        by_cases hk : keyB (rd_T50 l ((l.length - (d + 1) : Nat) : Int)).f0 = true
        · rw [hk, if_pos rfl]
          refine ev_tt ?_
          by_cases hv : (rd_T50 l ((l.length - (d + 1) : Nat) : Int)).f1.size > 160
          · rw [if_pos hv]
            exact ev_pos (by omega) (ev_some rfl)
          · rw [if_neg hv]
            refine ev_neg (by omega) ?_
            by_cases hi : l.length - (d + 1) > 0
            · rw [if_pos hi, down _ (by omega) hi]
              refine ev_pos (by omega) (ev_pos (by omega) (ev_pos (by omega) ?_))
              by_cases hl : less (rd_T50 l ((l.length - (d + 1) - 1 : Nat) : Int)).f0 (rd_T50 l ((l.length - (d + 1) : Nat) : Int)).f0 = true
              · rw [if_pos hl]
                exact ev_pos hl ih'
              · rw [if_neg hl]
                exact ev_neg hl (ev_some rfl)
            · rw [if_neg hi]
              exact ev_neg (by omega) ih'
        · rw [if_neg hk]
          exact ev_neg hk (ev_some rfl)
    have h := this l.length (Nat.le_refl _)
    rw [Nat.sub_self] at h
    exact h
theorem propsD_next {l : List S50} : ∀ d : Nat, d ≤ l.length → propsD l d = 0 → ∀ i, l.length - d ≤ i → i < l.length → 0 < i → less (rd_T50 l ((i - 1 : Nat) : Int)).f0 (rd_T50 l (i : Int)).f0 = true
  | 0, _, _, i, h1, h2, _ => by omega
  | d + 1, hd, h, i, h1, h2, h3 => by
    unfold propsD at h
    split at h
    · split at h
      · cases h
      · split at h
        · split at h
          · rename_i hl
            by_cases e : i = l.length - (d + 1)
            · rw [e]; exact hl
            · exact propsD_next d (by omega) h i (by omega) h2 h3
          · cases h
        · exact propsD_next d (by omega) h i (by omega) h2 h3
    · cases h
theorem propsE_srt {l : List S50} (h : propsE l = 0) : srt l ∧ l.length ≤ 8 := by
  unfold propsE at h
  split at h
  · cases h
  · rename_i h8
    have hn := propsD_next l.length (Nat.le_refl _) h
    refine ⟨List.pairwise_iff_getElem.2 ?_, by omega⟩
    have : ∀ d i j : Nat, (hi : i < l.length) → (hj : j < l.length) → j = i + d + 1 → less l[i].f0 l[j].f0 = true := by
      intro d
      induction d with
      | zero =>
        intro i j hi hj e
        have := hn j (by omega) hj (by omega)
        rw [rdAt l j hj, rdAt l (j - 1) (by omega)] at this
        simp only [show j - 1 = i from by omega] at this
        exact this
      | succ d ih =>
        intro i j hi hj e
        have h1 := ih i (j - 1) hi (by omega) (by omega)
        have h2 := hn j (by omega) hj (by omega)
        rw [rdAt l j hj, rdAt l (j - 1) (by omega)] at h2
        exact bl_trans _ _ _ h1 h2
    intro i j hi hj hij
    exact this (j - i - 1) i j hi hj (by omega)
/-! ### Set -/
theorem set_loop (key v : ByteArray) (l : List S50) (hl : l.length ≤ 8) : ∀ (d i : Nat) (acc : List S50) (pl : Bool), i + d = l.length → acc.length + 2 * d ≤ 1000 →
    Ev (fun k => message_Set.l0 k key v acc pl l (l.length : Int) (i : Int)) (acc ++ insP key ⟨key, v⟩ pl (l.drop i), 0) := by
  intro d
  induction d with
  | zero =>
    intro i acc pl hi ha
    refine ev_succ ?_
    simp only [message_Set.l0]
    rw [List.drop_of_length_le (by omega)]
    refine ev_neg (by omega) ?_
    cases pl with
    | true => exact ev_tt (ev_some (by unfold insP; simp))
    | false => exact ev_ff (ev_pos (by omega) (ev_some rfl))
  | succ d ih =>
    intro i acc pl hi ha
    have hj : ∀ x59 : Bool, (x59 = (!pl && !less l[i].f0 key)) → Ev (fun k => message_Set.j2 k key v acc pl l (l.length : Int) (i : Int) x59 l[i].f0 l[i].f1) (acc ++ insP key ⟨key, v⟩ pl (l.drop i), 0) := by
      intro x59 hx
      rw [List.drop_eq_getElem_cons (by omega)]
      unfold insP
      rw [← hx]
      refine ev_succ ?_
      simp only [message_Set.j2]
      rw [nx i (by omega)]
      have hor : (pl || !less l[i].f0 key) = (pl || x59) := by rw [hx]; cases pl <;> simp
      rw [hor]
      cases x59 with
      | true =>
        rw [if_pos rfl, Bool.or_true]
        refine ev_tt (ev_pos (by omega) (ev_const rfl ?_))
        by_cases he : l[i].f0.toList = key.toList
        · rw [if_pos he]
          refine ev_pos he ?_
          have := ih (i + 1) (acc ++ [⟨key, v⟩]) true (by omega) (by rw [List.length_append, List.length_singleton]; omega)
          rw [List.append_assoc] at this
          rw [List.append_nil]
          exact this
        · rw [if_neg he]
          refine ev_neg he (ev_pos (by rw [List.length_append, List.length_singleton]; omega) ?_)
          have := ih (i + 1) (acc ++ [⟨key, v⟩] ++ [⟨l[i].f0, l[i].f1⟩]) true (by omega) (by simp only [List.length_append, List.length_singleton]; omega)
          simp only [List.append_assoc] at this ⊢
          exact this
      | false =>
        rw [if_neg (by decide), Bool.or_false]
        refine ev_ff ?_
        by_cases he : l[i].f0.toList = key.toList
        · rw [if_pos he]
          exact ev_pos he (ih (i + 1) acc pl (by omega) (by omega))
        · rw [if_neg he]
          refine ev_neg he (ev_pos (by omega) ?_)
          have := ih (i + 1) (acc ++ [⟨l[i].f0, l[i].f1⟩]) pl (by omega) (by simp only [List.length_append, List.length_singleton]; omega)
          simp only [List.append_assoc] at this ⊢
          exact this
    refine ev_succ ?_
    simp only [message_Set.l0]
    rw [rdAt l i (by omega)]
    refine ev_pos (by omega) (ev_pos (by omega) (ev_pos (by omega) ?_))
    cases pl with
    | true => exact ev_tt (hj false (by rfl))
    | false => exact ev_ff (hj _ rfl)
theorem refset_loop1 (key : ByteArray) (l : List S50) (hl : l.length ≤ 8) : ∀ (d i : Nat) (acc : List S50), i + d = l.length → acc.length + d ≤ 1000 →
    Ev (fun k => brokerref05_Set.l1 k l key acc (i : Int)) (acc ++ (l.drop i).filter (fun p => less key p.f0), 0) := by
  intro d
  induction d with
  | zero =>
    intro i acc hi ha
    refine ev_succ ?_
    simp only [brokerref05_Set.l1]
    rw [List.drop_of_length_le (by omega)]
    exact ev_neg (by omega) (ev_some (by simp))
  | succ d ih =>
    intro i acc hi ha
    refine ev_succ ?_
    simp only [brokerref05_Set.l1]
    rw [rdAt l i (by omega), nx i (by omega), List.drop_eq_getElem_cons (by omega), List.filter_cons]
    refine ev_pos (by omega) (ev_pos (by omega) ?_)
    by_cases h : less key l[i].f0 = true
    · rw [if_pos h]
      have := ih (i + 1) (acc ++ [⟨l[i].f0, l[i].f1⟩]) (by omega) (by rw [List.length_append, List.length_singleton]; omega)
      rw [List.append_assoc] at this
      exact ev_pos h (ev_pos (by omega) this)
    · rw [if_neg h]
      exact ev_neg h (ih (i + 1) acc (by omega) (by omega))
theorem refset_loop0 (key v : ByteArray) (l : List S50) (hl : l.length ≤ 8) : ∀ (d i : Nat) (acc : List S50), i + d = l.length → acc.length + d ≤ 100 →
    Ev (fun k => brokerref05_Set.l0 k l key v acc (i : Int)) (acc ++ (l.drop i).filter (fun p => less p.f0 key) ++ (⟨key, v⟩ : S50) :: l.filter (fun p => less key p.f0), 0) := by
  intro d
  induction d with
  | zero =>
    intro i acc hi ha
    refine ev_succ ?_
    simp only [brokerref05_Set.l0]
    rw [List.drop_of_length_le (by omega)]
    refine ev_neg (by omega) (ev_pos (by omega) ?_)
    have := refset_loop1 key l hl l.length 0 (acc ++ [⟨key, v⟩]) (by omega) (by rw [List.length_append, List.length_singleton]; omega)
    rw [List.drop_zero, List.append_assoc] at this
    rw [List.filter_nil, List.append_nil]
    exact this
  | succ d ih =>
    intro i acc hi ha
    refine ev_succ ?_
    simp only [brokerref05_Set.l0]
    rw [rdAt l i (by omega), nx i (by omega), List.drop_eq_getElem_cons (by omega), List.filter_cons]
    refine ev_pos (by omega) (ev_pos (by omega) ?_)
    by_cases h : less l[i].f0 key = true
    · rw [if_pos h]
      have := ih (i + 1) (acc ++ [⟨l[i].f0, l[i].f1⟩]) (by omega) (by rw [List.length_append, List.length_singleton]; omega)
      rw [List.append_assoc acc] at this
      exact ev_pos h (ev_pos (by omega) this)
    · rw [if_neg h]
      exact ev_neg h (ih (i + 1) acc (by omega) (by omega))
def hasP (l : List S50) : Bool := (getR pathK l).2
def setE (l : List S50) (v : ByteArray) : Int := if propsE l = 0 then (if v.size > 160 then 5 else if hasP l = true then 0 else if l.length = 8 then 5 else 0) else propsE l
def setR (l : List S50) (v : ByteArray) : List S50 := if setE l v = 0 then setL pathK ⟨pathK, v⟩ l else []
theorem set_ev (l : List S50) (v : ByteArray) (hl : l.length ≤ 1000) : Ev (fun k => message_Set.f k l pathK v) (setR l v, setE l v) := by
  simp only [message_Set.f]
  refine ev_bind (props_ev l) (ev_bind (get_ev pathK l hl) ?_)
  unfold setR setE
  by_cases hp : propsE l = 0
  · obtain ⟨hs, h8⟩ := propsE_srt hp
    rw [if_pos hp]
    have go : Ev (fun k => message_Set.j0 k l pathK v) (setL pathK ⟨pathK, v⟩ l, 0) := by
      refine ev_succ ?_
      simp only [message_Set.j0]
      rw [nx _ (by omega)]
      refine ev_pos (by omega) (ev_pos (by omega) ?_)
      have := set_loop pathK v l h8 l.length 0 [] false (by omega) (by simp; omega)
      rw [List.drop_zero, List.nil_append, insP_eq _ _ _ hs] at this
      exact this
    have e1 : (getR pathK l).2 = hasP l := rfl
    refine ev_pos hp (ev_bind (key_ev pathK) ?_)
    rw [key_path]
    refine ev_tt ?_
    by_cases hv : v.size > 160
    · rw [if_pos hv, if_neg (by decide)]
      exact ev_pos (by omega) (ev_some rfl)
    · rw [if_neg hv]
      refine ev_neg (by omega) ?_
      by_cases hh : hasP l = true
      · rw [if_pos hh, if_pos rfl]
        exact ev_pos hh go
      · rw [if_neg hh]
        refine ev_neg hh ?_
        by_cases h88 : l.length = 8
        · rw [if_pos h88, if_neg (by decide)]
          exact ev_pos (by omega) (ev_some rfl)
        · rw [if_neg h88, if_pos rfl]
          exact ev_neg (by omega) go
  · rw [if_neg hp, if_neg hp]
    exact ev_neg hp (ev_some rfl)
theorem refset_ev (l : List S50) (v : ByteArray) (hl : l.length ≤ 1000) : Ev (fun k => brokerref05_Set.f k l pathK v) (setR l v, setE l v) := by
  simp only [brokerref05_Set.f]
  refine ev_bind (refprops_ev l) ?_
  unfold setR setE
  by_cases hp : propsE l = 0
  · obtain ⟨hs, h8⟩ := propsE_srt hp
    rw [if_pos hp]
    have go : Ev (fun k => brokerref05_Set.j0 k l pathK v false) (setL pathK ⟨pathK, v⟩ l, 0) := by
      refine ev_succ ?_
      simp only [brokerref05_Set.j0]
      refine ev_ff ?_
      have := refset_loop0 pathK v l h8 l.length 0 [] (by omega) (by simp; omega)
      rw [List.drop_zero, List.nil_append] at this
      exact this
    have bad : Ev (fun k => brokerref05_Set.j0 k l pathK v true) (([] : List S50), 5) := by
      refine ev_succ ?_
      simp only [brokerref05_Set.j0]
      exact ev_some rfl
    refine ev_pos hp (ev_bind (refkey_ev pathK) ?_)
    rw [key_path]
    refine ev_tt (ev_bind (refget_ev pathK l hl) ?_)
    by_cases hv : v.size > 160
    · rw [if_pos hv, if_neg (by decide)]
      exact ev_pos (by omega) bad
    · rw [if_neg hv]
      refine ev_neg (by omega) ?_
      have e1 : (getR pathK l).2 = hasP l := rfl
      rw [e1]
      by_cases h88 : l.length = 8
      · refine ev_pos (by omega) ?_
        cases hh : hasP l with
        | true =>
          rw [if_pos rfl, if_pos rfl]
          exact go
        | false =>
          rw [if_neg (show ¬ false = true by decide), if_pos h88, if_neg (show ¬ (5 : Int) = 0 by decide)]
          exact bad
      · refine ev_neg (by omega) ?_
        rw [if_neg h88]
        have : (if hasP l = true then (0 : Int) else 0) = 0 := by split <;> rfl
        rw [this, if_pos rfl]
        exact go
  · rw [if_neg hp, if_neg hp]
    exact ev_neg hp (ev_some rfl)
end Go.Proofs.YtfikhfahpdhjbaaDoor.Pure
