/- The flood as a plain function: what it reaches, how much it sends; the nodes that links join. No Go, no memory. -/
import Derived.Test.YtfikhfahpdhjbaaDoorFlBase
namespace Go.Proofs.YtfikhfahpdhjbaaDoor.Pure
open Go.Proofs.YtfikhfahpdhjbaaDoor
/-! ### What counts, and the other end -/
def cntP (n : Int) (l : Int × Int) : Bool := Fl.insideB n l.1 && Fl.insideB n l.2 && decide (l.1 ≠ l.2)
def endP (n v : Int) (l : Int × Int) : Nat := if cntP n l = true then (if v = l.1 ∨ v = l.2 then 1 else 0) else 0
def oth (v : Int) (l : Int × Int) : Int := if v = l.1 then l.2 else l.1
theorem cntP_iff (n : Int) (l : Int × Int) : cntP n l = true ↔ (0 ≤ l.1 ∧ l.1 < n) ∧ (0 ≤ l.2 ∧ l.2 < n) ∧ l.1 ≠ l.2 := by
  unfold cntP Fl.insideB
  simp only [Bool.and_eq_true, decide_eq_true_eq, and_assoc]
theorem endP_le (n v : Int) (l : Int × Int) : endP n v l ≤ 1 := by
  unfold endP
  split
  · split <;> omega
  · omega
theorem endP_one {n v : Int} {l : Int × Int} : endP n v l = 1 ↔ cntP n l = true ∧ (v = l.1 ∨ v = l.2) := by
  unfold endP
  by_cases h : cntP n l = true
  · rw [if_pos h]
    by_cases h2 : v = l.1 ∨ v = l.2
    · rw [if_pos h2]
      exact ⟨fun _ => ⟨h, h2⟩, fun _ => rfl⟩
    · rw [if_neg h2]
      exact ⟨fun e => by omega, fun e => absurd e.2 h2⟩
  · rw [if_neg h]
    exact ⟨fun e => by omega, fun e => absurd e.1 h⟩
theorem oth_end {n v : Int} {l : Int × Int} (h : endP n v l = 1) : endP n (oth v l) l = 1 ∧ oth (oth v l) l = v ∧ 0 ≤ oth v l ∧ oth v l < n := by
  obtain ⟨h1, h2⟩ := endP_one.1 h
  obtain ⟨a, b, c⟩ := (cntP_iff n l).1 h1
  rw [endP_one]
  unfold oth
  by_cases e : v = l.1
  · rw [if_pos e, if_neg (fun h => c h.symm)]
    exact ⟨⟨h1, .inr rfl⟩, e.symm, b⟩
  · rw [if_neg e, if_pos rfl]
    have e2 : v = l.2 := h2.resolve_left e
    exact ⟨⟨h1, .inl rfl⟩, e2.symm, a⟩
theorem sendOne_eq (n : Int) (x : Int × Int) (i : Nat) (l : Int × Int) : Fl.sendOne n x i l = if (i : Int) = x.2 then [] else if endP n x.1 l = 1 then [(oth x.1 l, (i : Int))] else [] := by
  unfold Fl.sendOne
  by_cases h : (i : Int) = x.2
  · rw [if_pos h, if_pos h]
  · rw [if_neg h, if_neg h]
    by_cases h1 : l.1 = l.2
    · rw [if_pos h1, if_neg (fun e => ((cntP_iff n l).1 (endP_one.1 e).1).2.2 h1)]
    · rw [if_neg h1]
      cases i1 : Fl.insideB n l.1 with
      | false =>
        rw [if_pos rfl, if_neg]
        intro e
        have := (endP_one.1 e).1
        unfold cntP at this
        rw [i1] at this
        cases this
      | true =>
        rw [if_neg (by decide)]
        cases i2 : Fl.insideB n l.2 with
        | false =>
          rw [if_pos rfl, if_neg]
          intro e
          have := (endP_one.1 e).1
          unfold cntP at this
          rw [i1, i2] at this
          cases this
        | true =>
          rw [if_neg (by decide)]
          have hc : cntP n l = true := by unfold cntP; rw [i1, i2, decide_eq_true h1]; rfl
          by_cases h2 : x.1 = l.1
          · rw [if_pos h2, if_pos (endP_one.2 ⟨hc, .inl h2⟩)]
            unfold oth
            rw [if_pos h2]
          · rw [if_neg h2]
            by_cases h3 : x.1 = l.2
            · rw [if_pos h3, if_pos (endP_one.2 ⟨hc, .inr h3⟩)]
              unfold oth
              rw [if_neg h2]
            · rw [if_neg h3, if_neg (fun e => (endP_one.1 e).2.elim h2 h3)]
/-- How many of the first links have an end at v. -/
def degN (n v : Int) (links : List (Int × Int)) : Nat → Nat
  | 0 => 0
  | i + 1 => degN n v links i + endP n v (links.getD i (0, 0))
theorem mem_sendN {n : Int} {x : Int × Int} {links : List (Int × Int)} {p : Int × Int} : ∀ {i : Nat}, p ∈ Fl.sendN n x links i ↔ ∃ j, j < i ∧ (j : Int) ≠ x.2 ∧ endP n x.1 (links.getD j (0, 0)) = 1 ∧ p = (oth x.1 (links.getD j (0, 0)), (j : Int))
  | 0 => ⟨fun h => (by cases h), fun ⟨j, h, _⟩ => (by omega)⟩
  | i + 1 => by
    show p ∈ Fl.sendN n x links i ++ Fl.sendOne n x i (links.getD i (0, 0)) ↔ _
    rw [List.mem_append, mem_sendN (i := i), sendOne_eq]
    constructor
    · rintro (⟨j, h1, h2⟩ | h)
      · exact ⟨j, by omega, h2⟩
      · split at h
        · cases h
        · rename_i hne
          split at h
          · rename_i he
            exact ⟨i, by omega, hne, he, List.mem_singleton.1 h⟩
          · cases h
    · rintro ⟨j, h1, h2, h3, h4⟩
      by_cases e : j = i
      · subst e
        right
        rw [if_neg h2, if_pos h3, h4]
        exact List.mem_cons_self
      · exact .inl ⟨j, by omega, h2, h3, h4⟩
theorem sendN_deg (n : Int) (x : Int × Int) (links : List (Int × Int)) : ∀ i : Nat, (Fl.sendN n x links i).length + (if 0 ≤ x.2 ∧ x.2 < i then endP n x.1 (links.getD x.2.toNat (0, 0)) else 0) = degN n x.1 links i
  | 0 => by
    rw [if_neg (by omega)]
    rfl
  | i + 1 => by
    have ih := sendN_deg n x links i
    show (Fl.sendN n x links i ++ Fl.sendOne n x i (links.getD i (0, 0))).length + _ = degN n x.1 links i + endP n x.1 (links.getD i (0, 0))
    rw [List.length_append, sendOne_eq]
    have hle := endP_le n x.1 (links.getD i (0, 0))
    by_cases h : (i : Int) = x.2
    · have e : x.2.toNat = i := by omega
      rw [if_pos h, if_pos (by omega), e]
      rw [if_neg (by omega)] at ih
      simp only [List.length_nil]
      omega
    · rw [if_neg h]
      have e2 : (0 ≤ x.2 ∧ x.2 < ((i + 1 : Nat) : Int)) ↔ (0 ≤ x.2 ∧ x.2 < (i : Int)) := by omega
      have e3 : (if endP n x.1 (links.getD i (0, 0)) = 1 then [(oth x.1 (links.getD i (0, 0)), (i : Int))] else []).length = endP n x.1 (links.getD i (0, 0)) := by
        split
        · rename_i h1
          rw [h1]
          rfl
        · simp only [List.length_nil]
          omega
      rw [e3]
      by_cases h0 : 0 ≤ x.2 ∧ x.2 < (i : Int)
      · rw [if_pos (e2.2 h0)]
        rw [if_pos h0] at ih
        omega
      · rw [if_neg (fun h => h0 (e2.1 h))]
        rw [if_neg h0] at ih
        omega
/-- A set of nodes that no link leaves. -/
def Cl (n : Int) (links : List (Int × Int)) (C : Int → Prop) : Prop := ∀ j, j < links.length → ∀ v, C v → endP n v (links.getD j (0, 0)) = 1 → C (oth v (links.getD j (0, 0)))
/-- What holds at each arrival but the first. -/
structure FlInv (n : Int) (links : List (Int × Int)) (start : Int) (i : Nat) (out : List Int) (way : List (Int × Int)) : Prop where
  hd : ∃ t, out = start :: t
  nd : out.Nodup
  rng : ∀ x ∈ way, 0 ≤ x.1 ∧ x.1 < n
  cl : ∀ C : Int → Prop, Cl n links C → C start → ∀ x ∈ way, C x.1
  ow : ∀ v ∈ out, ∃ x ∈ way, x.1 = v
  hi : i ≤ way.length
  lo : ∀ j, j < i → (way.getD j (0, 0)).1 ∈ out
  nb : ∀ v ∈ out, ∀ j, j < links.length → endP n v (links.getD j (0, 0)) = 1 → ∃ x ∈ way, x.1 = oth v (links.getD j (0, 0))
  src : ∀ x ∈ way, x = (start, -1) ∨ ∃ j, j < links.length ∧ x.2 = (j : Int) ∧ endP n x.1 (links.getD j (0, 0)) = 1 ∧ ∃ y ∈ way, y.1 = oth x.1 (links.getD j (0, 0))
  eq : way.length + out.length = 2 + (out.map fun v => degN n v links links.length).sum
theorem flInv_first (n : Int) (links : List (Int × Int)) (start : Int) (h0 : 0 ≤ start) (h1 : start < n) : FlInv n links start 1 [start] ((start, -1) :: Fl.sendN n (start, -1) links links.length) := by
  have hd := sendN_deg n (start, -1) links links.length
  rw [if_neg (by show ¬ ((0 : Int) ≤ -1 ∧ _); omega)] at hd
  refine ⟨⟨[], rfl⟩, by simp, ?_, ?_, ?_, by simp, ?_, ?_, ?_, ?_⟩
  · intro x hx
    rcases List.mem_cons.1 hx with rfl | hx
    · exact ⟨h0, h1⟩
    · obtain ⟨j, _, _, h3, rfl⟩ := mem_sendN.1 hx
      exact (oth_end h3).2.2
  · intro C hC hs x hx
    rcases List.mem_cons.1 hx with rfl | hx
    · exact hs
    · obtain ⟨j, h1, _, h3, rfl⟩ := mem_sendN.1 hx
      exact hC j h1 _ hs h3
  · intro v hv
    rw [List.mem_singleton] at hv
    subst hv
    exact ⟨_, List.mem_cons_self, rfl⟩
  · intro j hj
    obtain rfl : j = 0 := by omega
    exact List.mem_cons_self
  · intro v hv j hj he
    rw [List.mem_singleton] at hv
    subst hv
    exact ⟨_, List.mem_cons_of_mem _ (mem_sendN.2 ⟨j, hj, by show (j : Int) ≠ -1; omega, he, rfl⟩), rfl⟩
  · intro x hx
    rcases List.mem_cons.1 hx with rfl | hx
    · exact .inl rfl
    · obtain ⟨j, h1, _, h3, rfl⟩ := mem_sendN.1 hx
      exact .inr ⟨j, h1, rfl, (oth_end h3).1, _, List.mem_cons_self, (oth_end h3).2.1.symm⟩
  · have hd' : (Fl.sendN n (start, -1) links links.length).length = degN n start links links.length := hd
    simp only [List.length_cons, List.length_nil, List.map_cons, List.map_nil, List.sum_cons, List.sum_nil]
    omega
theorem flInv_step {n : Int} {links : List (Int × Int)} {start : Int} {i : Nat} {st : List Int × List (Int × Int)} (h : FlInv n links start i st.1 st.2) (hi : i < st.2.length) :
    FlInv n links start (i + 1) (Fl.stepSt n links st (st.2.getD i (0, 0))).1 (Fl.stepSt n links st (st.2.getD i (0, 0))).2 := by
  obtain ⟨out, way⟩ := st
  have hmem : way.getD i (0, 0) ∈ way := by
    rw [List.getD_eq_getElem?_getD, List.getElem?_eq_getElem hi]
    exact List.getElem_mem hi
  unfold Fl.stepSt
  dsimp only at h hi ⊢
  by_cases hc : out.contains (way.getD i (0, 0)).1 = true
  · rw [if_pos hc]
    refine ⟨h.hd, h.nd, h.rng, h.cl, h.ow, hi, ?_, h.nb, h.src, h.eq⟩
    intro j hj
    by_cases e : j = i
    · subst e
      exact List.contains_iff_mem.1 hc
    · exact h.lo j (by omega)
  · rw [if_neg hc]
    dsimp only
    have hnm : (way.getD i (0, 0)).1 ∉ out := fun e => hc (List.contains_iff_mem.2 e)
    generalize hx : way.getD i (0, 0) = x at hmem hnm
    obtain ⟨t, ht⟩ := h.hd
    obtain ⟨j0, hj0, hx2, hxe, y, hy, hyo⟩ := (h.src x hmem).resolve_left (fun e => hnm (by rw [ht, e]; exact List.mem_cons_self))
    have hd := sendN_deg n x links links.length
    rw [if_pos (by omega), show x.2.toNat = j0 from by omega, hxe] at hd
    refine ⟨⟨t ++ [x.1], by rw [ht]; rfl⟩, ?_, ?_, ?_, ?_, by rw [List.length_append]; omega, ?_, ?_, ?_, ?_⟩
    · rw [List.nodup_append]
      refine ⟨h.nd, by simp, ?_⟩
      intro a ha b hb e
      rw [List.mem_singleton] at hb
      subst hb e
      exact hnm ha
    · intro z hz
      rcases List.mem_append.1 hz with hz | hz
      · exact h.rng z hz
      · obtain ⟨j, _, _, h3, rfl⟩ := mem_sendN.1 hz
        exact (oth_end h3).2.2
    · intro C hC hs z hz
      rcases List.mem_append.1 hz with hz | hz
      · exact h.cl C hC hs z hz
      · obtain ⟨j, h1, _, h3, rfl⟩ := mem_sendN.1 hz
        exact hC j h1 _ (h.cl C hC hs x hmem) h3
    · intro v hv
      rcases List.mem_append.1 hv with hv | hv
      · obtain ⟨z, hz, e⟩ := h.ow v hv
        exact ⟨z, List.mem_append_left _ hz, e⟩
      · rw [List.mem_singleton] at hv
        exact ⟨x, List.mem_append_left _ hmem, hv.symm⟩
    · intro j hj
      have hjl : j < way.length := by omega
      rw [List.getD_eq_getElem?_getD, List.getElem?_append_left hjl, ← List.getD_eq_getElem?_getD]
      by_cases e : j = i
      · subst e
        rw [hx]
        exact List.mem_append_right _ List.mem_cons_self
      · exact List.mem_append_left _ (h.lo j (by omega))
    · intro v hv j hj he
      rcases List.mem_append.1 hv with hv | hv
      · obtain ⟨z, hz, e⟩ := h.nb v hv j hj he
        exact ⟨z, List.mem_append_left _ hz, e⟩
      · rw [List.mem_singleton] at hv
        subst hv
        by_cases e : (j : Int) = x.2
        · obtain rfl : j = j0 := by omega
          exact ⟨y, List.mem_append_left _ hy, hyo⟩
        · exact ⟨_, List.mem_append_right _ (mem_sendN.2 ⟨j, hj, e, he, rfl⟩), rfl⟩
    · intro z hz
      rcases List.mem_append.1 hz with hz | hz
      · rcases h.src z hz with e | ⟨j, a, b, c, y, hy, e⟩
        · exact .inl e
        · exact .inr ⟨j, a, b, c, y, List.mem_append_left _ hy, e⟩
      · obtain ⟨j, h1, _, h3, rfl⟩ := mem_sendN.1 hz
        exact .inr ⟨j, h1, rfl, (oth_end h3).1, x, List.mem_append_left _ hmem, (oth_end h3).2.1.symm⟩
    · have he := h.eq
      simp only [List.length_append, List.length_cons, List.length_nil, List.map_append, List.map_cons, List.map_nil, List.sum_append, List.sum_cons, List.sum_nil]
      omega
theorem flInv_end {n : Int} {links : List (Int × Int)} {start : Int} {r : List Int × List (Int × Int)} : ∀ (k i : Nat) (st : List Int × List (Int × Int)), FlInv n links start i st.1 st.2 → Fl.flood n links k i st = some r → FlInv n links start r.2.length r.1 r.2
  | 0, _, _, _, h => by cases h
  | k + 1, i, st, hv, h => by
    unfold Fl.flood at h
    split at h
    · rename_i hlt
      exact flInv_end k (i + 1) _ (flInv_step hv hlt) h
    · rename_i hge
      obtain rfl := Option.some.inj h
      have := hv.hi
      obtain rfl : i = st.2.length := by omega
      exact hv
theorem flInv_flood {n : Int} {links : List (Int × Int)} {start : Int} {r : List Int × List (Int × Int)} {k : Nat} (h0 : 0 ≤ start) (h1 : start < n) (h : Fl.flood n links k 0 ([], [(start, -1)]) = some r) : FlInv n links start r.2.length r.1 r.2 := by
  cases k with
  | zero => cases h
  | succ k =>
    unfold Fl.flood at h
    rw [if_pos (by show 0 < 1; omega)] at h
    exact flInv_end k 1 _ (flInv_first n links start h0 h1) h
/-- What is reached: closed, the least that is, each node once. -/
theorem flood_says {n : Int} {links : List (Int × Int)} {start : Int} {r : List Int × List (Int × Int)} {k : Nat} (h0 : 0 ≤ start) (h1 : start < n) (h : Fl.flood n links k 0 ([], [(start, -1)]) = some r) :
    (∃ t, r.1 = start :: t) ∧ r.1.Nodup ∧ (∀ v ∈ r.1, 0 ≤ v ∧ v < n) ∧ Cl n links (· ∈ r.1) ∧ (∀ C : Int → Prop, Cl n links C → C start → ∀ v ∈ r.1, C v) ∧ r.2.length + r.1.length = 2 + (r.1.map fun v => degN n v links links.length).sum := by
  have hv := flInv_flood h0 h1 h
  refine ⟨hv.hd, hv.nd, ?_, ?_, ?_, hv.eq⟩
  · intro v hm
    obtain ⟨x, hx, rfl⟩ := hv.ow v hm
    exact hv.rng x hx
  · intro j hj v hm he
    obtain ⟨x, hx, e⟩ := hv.nb v hm j hj he
    obtain ⟨i, hi, rfl⟩ := List.mem_iff_getElem.1 hx
    have := hv.lo i hi
    rw [List.getD_eq_getElem?_getD, List.getElem?_eq_getElem hi] at this
    rw [← e]
    exact this
  · intro C hC hs v hm
    obtain ⟨x, hx, rfl⟩ := hv.ow v hm
    exact hv.cl C hC hs x hx
/-! ### Twice the links -/
def insN (n : Int) (links : List (Int × Int)) (I : Int → Bool) : Nat → Nat
  | 0 => 0
  | i + 1 => insN n links I i + (if cntP n (links.getD i (0, 0)) = true ∧ I (links.getD i (0, 0)).1 = true then 1 else 0)
theorem sum_split {α : Type} (f g : α → Nat) : ∀ l : List α, (l.map fun v => f v + g v).sum = (l.map f).sum + (l.map g).sum
  | [] => rfl
  | a :: l => by
    have := sum_split f g l
    simp only [List.map_cons, List.sum_cons]
    omega
theorem sum_ends (a b : Int) (hab : a ≠ b) : ∀ l : List Int, (l.map fun v => if v = a ∨ v = b then 1 else 0).sum = l.count a + l.count b
  | [] => rfl
  | c :: l => by
    have := sum_ends a b hab l
    simp only [List.map_cons, List.sum_cons, List.count_cons, this, beq_iff_eq]
    by_cases h1 : c = a
    · rw [if_pos (.inl h1), if_pos h1, if_neg (fun e => hab (h1.symm.trans e))]
      omega
    · by_cases h2 : c = b
      · rw [if_pos (.inr h2), if_neg h1, if_pos h2]
        omega
      · rw [if_neg (fun e => e.elim h1 h2), if_neg h1, if_neg h2]
        omega
theorem sum_link (n : Int) (l : Int × Int) (out : List Int) (hnd : out.Nodup) (hcl : ∀ v ∈ out, endP n v l = 1 → oth v l ∈ out) (I : Int → Bool) (hI : ∀ v, I v = true ↔ v ∈ out) :
    (out.map fun v => endP n v l).sum = 2 * (if cntP n l = true ∧ I l.1 = true then 1 else 0) := by
  by_cases h : cntP n l = true
  · have hne := ((cntP_iff n l).1 h).2.2
    have e : (out.map fun v => endP n v l) = out.map fun v => if v = l.1 ∨ v = l.2 then 1 else 0 := by
      refine List.map_congr_left fun v _ => ?_
      unfold endP
      rw [if_pos h]
    rw [e, sum_ends _ _ hne, hnd.count, hnd.count]
    have i12 : l.1 ∈ out → l.2 ∈ out := fun hm => by
      have := hcl _ hm (endP_one.2 ⟨h, .inl rfl⟩)
      unfold oth at this
      rwa [if_pos rfl] at this
    have i21 : l.2 ∈ out → l.1 ∈ out := fun hm => by
      have := hcl _ hm (endP_one.2 ⟨h, .inr rfl⟩)
      unfold oth at this
      rwa [if_neg (fun e => hne e.symm)] at this
    by_cases hm : l.1 ∈ out
    · rw [if_pos hm, if_pos (i12 hm), if_pos ⟨h, (hI _).2 hm⟩]
    · rw [if_neg hm, if_neg (fun e => hm (i21 e)), if_neg (fun e => hm ((hI _).1 e.2))]
  · rw [if_neg (fun e => h e.1)]
    have e : (out.map fun v => endP n v l) = out.map fun _ => 0 := by
      refine List.map_congr_left fun v _ => ?_
      unfold endP
      rw [if_neg h]
    rw [e]
    clear hcl hI hnd e
    induction out with
    | nil => rfl
    | cons a t ih => simpa using ih
theorem sum_deg (n : Int) (links : List (Int × Int)) (out : List Int) (hnd : out.Nodup) (hcl : Cl n links (· ∈ out)) (I : Int → Bool) (hI : ∀ v, I v = true ↔ v ∈ out) : ∀ i, i ≤ links.length → (out.map fun v => degN n v links i).sum = 2 * insN n links I i
  | 0, _ => by
    show (out.map fun _ => 0).sum = 0
    clear hnd hcl hI
    induction out with
    | nil => rfl
    | cons a t ih => simpa using ih
  | i + 1, hi => by
    have ih := sum_deg n links out hnd hcl I hI i (by omega)
    show (out.map fun v => degN n v links i + endP n v (links.getD i (0, 0))).sum = 2 * (insN n links I i + _)
    rw [sum_split, ih, sum_link n _ out hnd (fun v hv he => hcl i (by omega) v hv he) I hI]
    omega
/-! ### The nodes that links join -/
def ats (s : List Bool) (v : Int) : Bool := s.getD v.toNat false
def merge1 (n : Int) (s : List Bool) (l : Int × Int) : List Bool := if cntP n l = true ∧ (ats s l.1 = true ∨ ats s l.2 = true) then (s.set l.1.toNat true).set l.2.toNat true else s
def mergeN (n : Int) (links : List (Int × Int)) (s : List Bool) : Nat → List Bool
  | 0 => s
  | i + 1 => merge1 n (mergeN n links s i) (links.getD i (0, 0))
def rounds (n : Int) (links : List (Int × Int)) (s : List Bool) : Nat → List Bool
  | 0 => s
  | r + 1 => mergeN n links (rounds n links s r) links.length
theorem merge1_len (n : Int) (s : List Bool) (l : Int × Int) : (merge1 n s l).length = s.length := by
  unfold merge1
  split
  · rw [List.length_set, List.length_set]
  · rfl
theorem mergeN_len (n : Int) (links : List (Int × Int)) (s : List Bool) : ∀ i, (mergeN n links s i).length = s.length
  | 0 => rfl
  | i + 1 => (merge1_len n _ _).trans (mergeN_len n links s i)
theorem rounds_len (n : Int) (links : List (Int × Int)) (s : List Bool) : ∀ i, (rounds n links s i).length = s.length
  | 0 => rfl
  | i + 1 => (mergeN_len n links _ _).trans (rounds_len n links s i)
theorem get_set_true (s : List Bool) (i j : Nat) : (s.set i true).getD j false = true ↔ (s.getD j false = true ∨ (i = j ∧ j < s.length)) := by
  rw [List.getD_eq_getElem?_getD, List.getD_eq_getElem?_getD, List.getElem?_set]
  by_cases e : i = j
  · subst e
    rw [if_pos rfl]
    by_cases h : i < s.length
    · rw [if_pos h]
      exact ⟨fun _ => .inr ⟨rfl, h⟩, fun _ => rfl⟩
    · rw [if_neg h, List.getElem?_eq_none (by omega)]
      exact ⟨fun h2 => (by cases h2), fun h2 => h2.elim (fun h3 => (by cases h3)) (fun h3 => absurd h3.2 h)⟩
  · rw [if_neg e]
    exact ⟨.inl, fun h => h.elim id (fun h2 => absurd h2.1 e)⟩
theorem merge1_up (n : Int) (s : List Bool) (l : Int × Int) (j : Nat) (h : s.getD j false = true) : (merge1 n s l).getD j false = true := by
  unfold merge1
  split
  · exact (get_set_true _ _ _).2 (.inl ((get_set_true _ _ _).2 (.inl h)))
  · exact h
theorem mergeN_up (n : Int) (links : List (Int × Int)) (s : List Bool) (j : Nat) (h : s.getD j false = true) : ∀ i, (mergeN n links s i).getD j false = true
  | 0 => h
  | i + 1 => merge1_up n _ _ j (mergeN_up n links s j h i)
theorem mergeN_up2 (n : Int) (links : List (Int × Int)) (s : List Bool) (j i : Nat) : ∀ d, (mergeN n links s i).getD j false = true → (mergeN n links s (i + d)).getD j false = true
  | 0, h => h
  | d + 1, h => merge1_up n _ _ j (mergeN_up2 n links s j i d h)
theorem rounds_up (n : Int) (links : List (Int × Int)) (s : List Bool) (j : Nat) (h : s.getD j false = true) : ∀ i, (rounds n links s i).getD j false = true
  | 0 => h
  | i + 1 => mergeN_up n links _ j (rounds_up n links s j h i) _
/-- Only what every closed set holds comes in. -/
theorem merge1_in {n : Int} {s : List Bool} {l : Int × Int} {C : Int → Prop} (hC : ∀ v, C v → endP n v l = 1 → C (oth v l)) (h : ∀ j : Nat, s.getD j false = true → C (j : Int)) : ∀ j : Nat, (merge1 n s l).getD j false = true → C (j : Int) := by
  intro j hj
  unfold merge1 at hj
  split at hj
  · rename_i hc
    obtain ⟨a, b, c⟩ := (cntP_iff n l).1 hc.1
    have e1 : ((l.1.toNat : Nat) : Int) = l.1 := by omega
    have e2 : ((l.2.toNat : Nat) : Int) = l.2 := by omega
    have both : C l.1 ∧ C l.2 := by
      rcases hc.2 with h1 | h1
      · have c1 : C l.1 := e1 ▸ h _ h1
        have := hC _ c1 (endP_one.2 ⟨hc.1, .inl rfl⟩)
        unfold oth at this
        rw [if_pos rfl] at this
        exact ⟨c1, this⟩
      · have c1 : C l.2 := e2 ▸ h _ h1
        have := hC _ c1 (endP_one.2 ⟨hc.1, .inr rfl⟩)
        unfold oth at this
        rw [if_neg (fun e => c e.symm)] at this
        exact ⟨this, c1⟩
    rcases (get_set_true _ _ _).1 hj with h1 | ⟨rfl, _⟩
    · rcases (get_set_true _ _ _).1 h1 with h2 | ⟨rfl, _⟩
      · exact h j h2
      · rw [e1]; exact both.1
    · rw [e2]; exact both.2
  · exact h j hj
theorem mergeN_in {n : Int} {links : List (Int × Int)} {s : List Bool} {C : Int → Prop} (hC : Cl n links C) (h : ∀ j : Nat, s.getD j false = true → C (j : Int)) : ∀ i, i ≤ links.length → ∀ j : Nat, (mergeN n links s i).getD j false = true → C (j : Int)
  | 0, _ => h
  | i + 1, hi => merge1_in (fun v hv he => hC i (by omega) v hv he) (mergeN_in hC h i (by omega))
theorem rounds_in {n : Int} {links : List (Int × Int)} {s : List Bool} {C : Int → Prop} (hC : Cl n links C) (h : ∀ j : Nat, s.getD j false = true → C (j : Int)) : ∀ r, ∀ j : Nat, (rounds n links s r).getD j false = true → C (j : Int)
  | 0 => h
  | r + 1 => mergeN_in hC (rounds_in hC h r) _ (Nat.le_refl _)
/-! ### After as many rounds as there are nodes nothing more comes -/
def trues (s : List Bool) : Nat := s.count true
theorem trues_le (s : List Bool) : trues s ≤ s.length := List.count_le_length
theorem trues_mono : ∀ (s t : List Bool), s.length = t.length → (∀ j : Nat, s.getD j false = true → t.getD j false = true) → trues s ≤ trues t ∧ (trues s = trues t → s = t)
  | [], [], _, _ => ⟨Nat.le_refl _, fun _ => rfl⟩
  | [], _ :: _, h, _ => by cases h
  | _ :: _, [], h, _ => by cases h
  | a :: s, b :: t, h, hup => by
    obtain ⟨i1, i2⟩ := trues_mono s t (Nat.succ.inj h) (fun j hj => hup (j + 1) hj)
    have h0 : a = true → b = true := fun e => hup 0 (by rw [e]; rfl)
    unfold trues at i1 i2 ⊢
    rw [List.count_cons, List.count_cons]
    cases a with
    | true =>
      rw [h0 rfl]
      exact ⟨by simpa using i1, fun e => by rw [i2 (by simpa using e)]⟩
    | false =>
      cases b with
      | true => exact ⟨by simp; omega, fun e => by simp at e; omega⟩
      | false => exact ⟨by simpa using i1, fun e => by rw [i2 (by simpa using e)]⟩
/-- A set that a round leaves as it is is closed. -/
theorem stable_closed {n : Int} {links : List (Int × Int)} {s : List Bool} (hs : (s.length : Int) = n) (h : mergeN n links s links.length = s) : Cl n links (fun v => 0 ≤ v ∧ ats s v = true) := by
  intro j hj v hv he
  obtain ⟨ho, _, hr⟩ := oth_end he
  obtain ⟨hc, hv2⟩ := endP_one.1 he
  obtain ⟨a, b, c⟩ := (cntP_iff n _).1 hc
  -- what lies after the link j
  have mono : ∀ i, i ≤ links.length → mergeN n links s i = s := by
    intro i hi
    have h1 := (trues_mono s (mergeN n links s i) (mergeN_len n links s i).symm (fun q hq => mergeN_up n links s q hq i))
    have h2 := (trues_mono (mergeN n links s i) s (mergeN_len n links s i) (fun q hq => by
      have := mergeN_up2 n links s q i (links.length - i) hq
      rw [show i + (links.length - i) = links.length from by omega, h] at this
      exact this))
    exact (h1.2 (Nat.le_antisymm h1.1 h2.1)).symm
  have hm := mono (j + 1) (by omega)
  have hm' : merge1 n s (links.getD j (0, 0)) = s := by
    have h2 : mergeN n links s (j + 1) = merge1 n (mergeN n links s j) (links.getD j (0, 0)) := rfl
    rw [mono j (by omega)] at h2
    rw [← h2]
    exact hm
  unfold merge1 at hm'
  rw [if_pos ⟨hc, hv2.elim (fun e => .inl (e ▸ hv.2)) (fun e => .inr (e ▸ hv.2))⟩] at hm'
  refine ⟨hr.1, ?_⟩
  unfold ats
  rw [← hm']
  refine (get_set_true _ _ _).2 ?_
  unfold oth
  by_cases e : v = (links.getD j (0, 0)).1
  · rw [if_pos e]
    right
    rw [List.length_set]
    exact ⟨rfl, by omega⟩
  · rw [if_neg e]
    left
    exact (get_set_true _ _ _).2 (.inr ⟨rfl, by omega⟩)
theorem rounds_grow {n : Int} {links : List (Int × Int)} {s : List Bool} : ∀ r, mergeN n links (rounds n links s r) links.length = rounds n links s r ∨ r + trues s ≤ trues (rounds n links s r)
  | 0 => .inr (by show 0 + trues s ≤ trues s; omega)
  | r + 1 => by
    show mergeN n links (mergeN n links (rounds n links s r) links.length) links.length = mergeN n links (rounds n links s r) links.length ∨ r + 1 + trues s ≤ trues (mergeN n links (rounds n links s r) links.length)
    rcases rounds_grow (n := n) (links := links) (s := s) r with h | h
    · rw [h]
      exact .inl h
    · obtain ⟨a, b⟩ := trues_mono (rounds n links s r) (mergeN n links (rounds n links s r) links.length) (mergeN_len n links _ _).symm (fun q hq => mergeN_up n links _ q hq _)
      by_cases e : trues (rounds n links s r) = trues (mergeN n links (rounds n links s r) links.length)
      · have := b e
        exact .inl (by rw [← this]; exact this.symm)
      · exact .inr (by omega)
theorem rounds_closed {n : Int} {links : List (Int × Int)} {s : List Bool} (hs : (s.length : Int) = n) (h1 : 1 ≤ trues s) : Cl n links (fun v => 0 ≤ v ∧ ats (rounds n links s s.length) v = true) := by
  refine stable_closed (by rw [rounds_len]; exact hs) ?_
  rcases rounds_grow (n := n) (links := links) (s := s) s.length with h | h
  · exact h
  · have := trues_le (rounds n links s s.length)
    rw [rounds_len] at this
    omega
/-- The nodes that the flood reaches are those that links join with the first. -/
theorem joined_iff {n : Int} {links : List (Int × Int)} {start : Int} {s : List Bool} (hs : (s.length : Int) = n) (h0 : 0 ≤ start) (hst : ∀ j : Nat, s.getD j false = true ↔ (j : Int) = start) {out : List Int}
    (hcl : Cl n links (· ∈ out)) (hin : ∀ C : Int → Prop, Cl n links C → C start → ∀ v ∈ out, C v) (hso : start ∈ out) : ∀ v : Int, 0 ≤ v → (ats (rounds n links s s.length) v = true ↔ v ∈ out) := by
  intro v hv
  have e : ((v.toNat : Nat) : Int) = v := by omega
  have hs1 : s.getD start.toNat false = true := (hst _).2 (by omega)
  constructor
  · intro h
    have := rounds_in (C := (· ∈ out)) hcl (fun j hj => by rw [(hst j).1 hj]; exact hso) s.length v.toNat h
    rwa [e] at this
  · intro h
    have hpos : 1 ≤ trues s := by
      unfold trues
      refine List.count_pos_iff.2 ?_
      rw [List.getD_eq_getElem?_getD] at hs1
      cases h2 : s[start.toNat]? with
      | none => rw [h2] at hs1; cases hs1
      | some b =>
        rw [h2] at hs1
        have : b = true := hs1
        subst this
        exact List.mem_of_getElem? h2
    exact (hin _ (rounds_closed hs hpos) ⟨h0, rounds_up n links s _ hs1 _⟩ v h).2
/-- How many of the first nodes are in. -/
def manyN (s : List Bool) : Nat → Nat
  | 0 => 0
  | i + 1 => manyN s i + (if s.getD i false = true then 1 else 0)
theorem manyN_filter (s : List Bool) : ∀ i, manyN s i = ((List.range i).filter fun j => s.getD j false).length
  | 0 => rfl
  | i + 1 => by
    show manyN s i + _ = _
    rw [List.range_succ, List.filter_append, List.length_append, manyN_filter s i]
    congr 1
    rw [List.filter_cons]
    cases h : s.getD i false
    · rfl
    · rfl
theorem many_out (s : List Bool) (m : Nat) (out : List Int) (hnd : out.Nodup) (h : ∀ v : Int, v ∈ out ↔ (0 ≤ v ∧ v < m ∧ ats s v = true)) : manyN s m = out.length := by
  rw [manyN_filter, ← List.length_map (f := fun j : Nat => (j : Int))]
  refine List.Perm.length_eq ((List.perm_ext_iff_of_nodup ?_ hnd).2 fun v => ?_)
  · refine List.pairwise_map.2 ?_
    have h1 : ((List.range m).filter fun j => s.getD j false).Nodup := List.nodup_range.sublist List.filter_sublist
    exact h1.imp fun hne e => hne (by omega)
  · rw [h, List.mem_map]
    constructor
    · rintro ⟨j, hj, rfl⟩
      obtain ⟨h1, h2⟩ := List.mem_filter.1 hj
      have := List.mem_range.1 h1
      exact ⟨by omega, by omega, h2⟩
    · rintro ⟨h1, h2, h3⟩
      exact ⟨v.toNat, List.mem_filter.2 ⟨List.mem_range.2 (by omega), h3⟩, by omega⟩
end Go.Proofs.YtfikhfahpdhjbaaDoor.Pure
