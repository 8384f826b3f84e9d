/- Lists of properties: order of keys, Set, Get and Strip as plain functions. No Go, no memory. -/
import Derived.Test.YtfikhfahpdhjbaaDoorPx0
namespace Go.Proofs.YtfikhfahpdhjbaaDoor.Pure
open Go Go.Proofs.YtfikhfahpdhjbaaDoor.P
theorem bl_irr : ∀ a : List UInt8, Op.bytesLess a a = false
  | [] => rfl
  | a :: x => by
    show (decide (a < a) || (a == a && Op.bytesLess x x)) = false
    rw [bl_irr x, Bool.and_false, Bool.or_false]
    exact decide_eq_false (UInt8.lt_irrefl a)
theorem bl_trans : ∀ a b c : List UInt8, Op.bytesLess a b = true → Op.bytesLess b c = true → Op.bytesLess a c = true
  | [], [], _, h, _ => by cases h
  | [], _ :: _, [], _, h => by cases h
  | [], _ :: _, _ :: _, _, _ => rfl
  | _ :: _, [], _, h, _ => by cases h
  | _ :: _, _ :: _, [], _, h => by cases h
  | a :: x, b :: y, c :: z, h1, h2 => by
    have ih := bl_trans x y z
    have e1 : (decide (a < b) || (a == b && Op.bytesLess x y)) = true := h1
    have e2 : (decide (b < c) || (b == c && Op.bytesLess y z)) = true := h2
    show (decide (a < c) || (a == c && Op.bytesLess x z)) = true
    simp only [Bool.or_eq_true, Bool.and_eq_true, decide_eq_true_eq, beq_iff_eq] at e1 e2 ⊢
    rcases e1 with e1 | ⟨rfl, e1⟩
    · rcases e2 with e2 | ⟨rfl, e2⟩
      · left
        rw [UInt8.lt_iff_toNat_lt] at e1 e2 ⊢
        omega
      · exact .inl e1
    · rcases e2 with e2 | ⟨rfl, e2⟩
      · exact .inl e2
      · exact .inr ⟨rfl, ih e1 e2⟩
theorem bl_tri : ∀ a b : List UInt8, Op.bytesLess a b = false → a ≠ b → Op.bytesLess b a = true
  | [], [], _, h => absurd rfl h
  | [], _ :: _, h, _ => by cases h
  | _ :: _, [], _, _ => rfl
  | a :: x, b :: y, h1, h2 => by
    have ih := bl_tri x y
    have e1 : (decide (a < b) || (a == b && Op.bytesLess x y)) = false := h1
    show (decide (b < a) || (b == a && Op.bytesLess y x)) = true
    simp only [Bool.or_eq_false_iff, Bool.and_eq_false_iff, decide_eq_false_iff_not, beq_eq_false_iff_ne] at e1
    simp only [Bool.or_eq_true, Bool.and_eq_true, decide_eq_true_eq, beq_iff_eq]
    obtain ⟨e1, e2⟩ := e1
    rw [UInt8.lt_iff_toNat_lt] at e1 ⊢
    by_cases e : a = b
    · subst e
      exact .inr ⟨rfl, ih (e2.resolve_left (fun h => h rfl)) (fun e => h2 (by rw [e]))⟩
    · exact .inl (by have : a.toNat ≠ b.toNat := fun h => e (UInt8.toNat_inj.1 h); omega)
def less (a b : ByteArray) : Bool := Op.bytesLess a.toList b.toList
def srt (l : List S50) : Prop := l.Pairwise fun a b => less a.f0 b.f0 = true
/-- The program's order of work: the new property is placed ahead of the first whose key is not less. -/
def insP (name : ByteArray) (new : S50) : Bool → List S50 → List S50
  | pl, [] => if pl then [] else [new]
  | pl, p :: r => (if (!pl && !less p.f0 name) = true then [new] else []) ++ (if p.f0.toList = name.toList then [] else [p]) ++ insP name new (pl || !less p.f0 name) r
def setL (name : ByteArray) (new : S50) (l : List S50) : List S50 := l.filter (fun p => less p.f0 name) ++ new :: l.filter (fun p => less name p.f0)
theorem filter_all {α : Type} (f : α → Bool) : ∀ l : List α, (∀ x ∈ l, f x = true) → l.filter f = l
  | [], _ => rfl
  | a :: l, h => by rw [List.filter_cons, if_pos (h a List.mem_cons_self), filter_all f l fun x hx => h x (List.mem_cons_of_mem _ hx)]
theorem filter_no {α : Type} (f : α → Bool) : ∀ l : List α, (∀ x ∈ l, f x = false) → l.filter f = []
  | [], _ => rfl
  | a :: l, h => by rw [List.filter_cons, if_neg (by rw [h a List.mem_cons_self]; decide), filter_no f l fun x hx => h x (List.mem_cons_of_mem _ hx)]
theorem insP_done (name : ByteArray) (new : S50) : ∀ l : List S50, (∀ x ∈ l, less name x.f0 = true) → insP name new true l = l
  | [], _ => rfl
  | p :: r, h => by
    have hp := h p List.mem_cons_self
    have hne : ¬ p.f0.toList = name.toList := fun e => by
      unfold less at hp
      rw [e, bl_irr] at hp
      cases hp
    unfold insP
    rw [if_neg (by simp), if_neg hne, Bool.true_or, insP_done name new r fun x hx => h x (List.mem_cons_of_mem _ hx)]
    rfl
theorem less_asym {a b : ByteArray} (h : less a b = true) : less b a = false := by
  cases h2 : less b a with
  | false => rfl
  | true =>
    have := bl_trans _ _ _ h h2
    rw [bl_irr] at this
    cases this
theorem insP_eq (name : ByteArray) (new : S50) : ∀ l : List S50, srt l → insP name new false l = setL name new l
  | [], _ => rfl
  | p :: r, h => by
    obtain ⟨h1, h2⟩ := List.pairwise_cons.1 h
    unfold insP setL
    rw [List.filter_cons, List.filter_cons]
    cases hl : less p.f0 name with
    | true =>
      have hne : ¬ p.f0.toList = name.toList := fun e => by
        unfold less at hl
        rw [e, bl_irr] at hl
        cases hl
      rw [if_neg (by decide), if_neg hne, if_pos rfl, if_neg (by rw [less_asym hl]; decide)]
      have ih := insP_eq name new r h2
      unfold setL at ih
      show [] ++ [p] ++ insP name new false r = _
      rw [ih]
      rfl
    | false =>
      have no : r.filter (fun q => less q.f0 name) = [] := by
        refine filter_no _ _ fun q hq => ?_
        have hq1 := h1 q hq
        cases h3 : less q.f0 name with
        | false => rfl
        | true =>
          have := bl_trans _ _ _ hq1 h3
          unfold less at hl
          rw [hl] at this
          cases this
      have big : ∀ q ∈ r, less name q.f0 = true := by
        intro q hq
        have hq1 := h1 q hq
        by_cases e : p.f0.toList = name.toList
        · unfold less at hq1 ⊢
          rw [← e]
          exact hq1
        · exact bl_trans _ _ _ (bl_tri _ _ hl e) hq1
      show [new] ++ (if p.f0.toList = name.toList then [] else [p]) ++ insP name new true r = r.filter (fun q => less q.f0 name) ++ new :: (if less name p.f0 = true then p :: r.filter (fun q => less name q.f0) else r.filter (fun q => less name q.f0))
      rw [no, insP_done name new r big, filter_all _ r big]
      by_cases e : p.f0.toList = name.toList
      · rw [if_pos e, if_neg]
        · rfl
        · unfold less
          rw [e, bl_irr]
          decide
      · rw [if_neg e, if_pos (show less name p.f0 = true from bl_tri _ _ hl e)]
        rfl
/-! ### Read, and without -/
def getL (name : ByteArray) : List S50 → Option ByteArray
  | [] => none
  | p :: r => if p.f0.toList = name.toList then some p.f1 else getL name r
theorem getL_setL (name v : ByteArray) (l : List S50) : getL name (setL name ⟨name, v⟩ l) = some v := by
  have : ∀ a : List S50, (∀ p ∈ a, less p.f0 name = true) → ∀ b, getL name (a ++ (⟨name, v⟩ : S50) :: b) = some v := by
    intro a
    induction a with
    | nil =>
      intro _ b
      show (if name.toList = name.toList then _ else _) = _
      rw [if_pos rfl]
    | cons p r ih =>
      intro h b
      show (if p.f0.toList = name.toList then _ else getL name (r ++ (⟨name, v⟩ : S50) :: b)) = _
      rw [if_neg, ih (fun q hq => h q (List.mem_cons_of_mem _ hq))]
      intro e
      have := h p List.mem_cons_self
      unfold less at this
      rw [e, bl_irr] at this
      cases this
  exact this _ (fun p hp => (List.mem_filter.1 hp).2) _
def keeps (name : ByteArray) (p : S50) : Bool := !(p.f0.toList == name.toList)
theorem keeps_ne {name : ByteArray} {p : S50} : keeps name p = true ↔ p.f0.toList ≠ name.toList := by
  unfold keeps
  simp
theorem strip_setL (name v : ByteArray) (l : List S50) (h : srt l) : (setL name ⟨name, v⟩ l).filter (keeps name) = l.filter (keeps name) := by
  rw [← insP_eq _ _ _ h]
  have : ∀ (l : List S50) (pl : Bool), (insP name ⟨name, v⟩ pl l).filter (keeps name) = l.filter (keeps name) := by
    intro l
    have hn : [(⟨name, v⟩ : S50)].filter (keeps name) = [] := filter_no _ _ fun x hx => by
      rw [List.mem_singleton.1 hx]
      unfold keeps
      simp
    induction l with
    | nil =>
      intro pl
      unfold insP
      cases pl
      · exact hn
      · rfl
    | cons p r ih =>
      intro pl
      unfold insP
      rw [List.filter_append, List.filter_append, ih]
      have e1 : (if (!pl && !less p.f0 name) = true then [(⟨name, v⟩ : S50)] else []).filter (keeps name) = [] := by
        split
        · exact hn
        · rfl
      rw [e1, List.nil_append]
      by_cases e : p.f0.toList = name.toList
      · rw [if_pos e, List.filter_cons, if_neg (fun h => keeps_ne.1 h e)]
        rfl
      · rw [if_neg e, List.filter_cons, List.filter_cons, if_pos (keeps_ne.2 e), if_pos (keeps_ne.2 e)]
        rfl
  exact this l false
theorem getL_strip (name : ByteArray) : ∀ l : List S50, getL name (l.filter (keeps name)) = none
  | [] => rfl
  | p :: r => by
    have ih := getL_strip name r
    rw [List.filter_cons]
    by_cases e : p.f0.toList = name.toList
    · rw [if_neg (fun h => keeps_ne.1 h e)]
      exact ih
    · rw [if_pos (keeps_ne.2 e)]
      show (if p.f0.toList = name.toList then _ else _) = _
      rw [if_neg e]
      exact ih
theorem getL_mem {name v : ByteArray} : ∀ {l : List S50}, getL name l = some v → ∃ p ∈ l, p.f1 = v
  | [], h => by cases h
  | p :: r, h => by
    have h' : (if p.f0.toList = name.toList then some p.f1 else getL name r) = some v := h
    split at h'
    · exact ⟨p, List.mem_cons_self, Option.some.inj h'⟩
    · obtain ⟨q, hq, e⟩ := getL_mem h'
      exact ⟨q, List.mem_cons_of_mem _ hq, e⟩
end Go.Proofs.YtfikhfahpdhjbaaDoor.Pure
