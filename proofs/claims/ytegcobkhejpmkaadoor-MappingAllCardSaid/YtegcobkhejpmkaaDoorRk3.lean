/- A range over a function whose iterator holds rows of its own over the rounds: the rounds write one box, that box's row, and what is new. -/
import Derived.RangeFuncNested
import Derived.RangeFuncBound
import Derived.RangeFuncCalls
import Derived.RangeFuncLeaves
namespace Go.Proofs.YtegcobkhejpmkaaDoor.Rk
open Go Go.RowKit

/-- What a round may write: the box B6, and the row that lies in it. -/
def may (B6 : Nat) (W : World) (k : Nat) : Prop := k = B6 ∨ ∃ v, W.cell? ⟨B6, 0, none⟩ = some v ∧ v.ownBlock = some k
/-- What may not be written lies as it lay. -/
structure KeepC (B6 : Nat) (W W' : World) : Prop where
  size : W.heap.size ≤ W'.heap.size
  blk : ∀ k cs t fr, W.heap[k]? = some (.cells cs t fr) → ¬ may B6 W k → W'.heap[k]? = some (.cells cs t fr)
  new : ∀ k, may B6 W' k → may B6 W k ∨ W.heap.size ≤ k
theorem KeepC.trans {B6 : Nat} {W1 W2 W3 : World} (h : KeepC B6 W1 W2) (g : KeepC B6 W2 W3) : KeepC B6 W1 W3 where
  size := Nat.le_trans h.size g.size
  blk k cs t fr hk hm := by
    refine g.blk k cs t fr (h.blk k cs t fr hk hm) fun hm2 => ?_
    rcases h.new k hm2 with h1 | h1
    · exact hm h1
    · have := (Array.getElem?_eq_some_iff.1 hk).1
      omega
  new k hm := by
    rcases g.new k hm with h1 | h1
    · exact h.new k h1
    · exact .inr (Nat.le_trans h.size h1)
/-- Where every old block but r lies as it lay, and r is no cells. -/
theorem KeepC.of_same {B6 : Nat} {W W' : World} (hB : B6 < W.heap.size) (hs : W.heap.size ≤ W'.heap.size) (h : ∀ k, k < W.heap.size → (∃ o, W.heap[k]? = some o ∧ o.isCells = false) ∨ W'.heap[k]? = W.heap[k]?) (h6 : W'.heap[B6]? = W.heap[B6]?) : KeepC B6 W W' where
  size := hs
  blk k cs t fr hk _ := by
    rcases h k (Array.getElem?_eq_some_iff.1 hk).1 with ⟨o, ho, hn⟩ | h1
    · rw [hk] at ho
      cases ho
      cases hn
    · exact h1.trans hk
  new k hm := by
    left
    rcases hm with rfl | ⟨v, hv, ho⟩
    · exact .inl rfl
    · refine .inr ⟨v, ?_, ho⟩
      unfold World.cell? at hv ⊢
      dsimp only at hv ⊢
      rw [h6] at hv
      exact hv
theorem KeepC.refl {B6 : Nat} {W : World} (hB : B6 < W.heap.size) : KeepC B6 W W := KeepC.of_same hB (Nat.le_refl _) (fun _ _ => .inr rfl) rfl
theorem KeepC.alloc {B6 : Nat} {W : World} (hB : B6 < W.heap.size) (o : Obj) : KeepC B6 W (W.alloc o) :=
  KeepC.of_same hB (by simp) (fun k hk => .inr (Below.heap_alloc W o k hk)) (Below.heap_alloc W o B6 hB)
theorem KeepC.below {B6 : Nat} {W W' : World} (hB : B6 < W.heap.size) (h : Below W.heap.size W W') : KeepC B6 W W' :=
  KeepC.of_same hB h.size (fun k hk => .inr (h.block k hk)) (h.block B6 hB)
theorem KeepC.putObj {B6 : Nat} {W : World} {L : Nat} {o : Obj} (hB : B6 < W.heap.size) (hL : W.heap[L]? = some o) (hn : o.isCells = false) (hne : B6 ≠ L) (o' : Obj) : KeepC B6 W (W.putObj L o') :=
  KeepC.of_same hB (by simp [World.putObj]) (fun k _ => by
    by_cases e : k = L
    · subst e
      exact .inl ⟨o, hL, hn⟩
    · exact .inr (World.putObj_heap_other e)) (World.putObj_heap_other hne)

/-- What an iterator promises where it knows the invariant I of the rounds, and that they keep what is its own. -/
def Runs3 {α : Type} (B6 : Nat) (m : Nat) (P : Program) (g : Nat) (lb : Array Value) (encs : α → Array Value) (I : List α → World → Prop) (ok : List α → α → Prop) (fin : List α → Prop) : Prop :=
  ∀ (l : Nat) (J : List α → World → Prop) (W : World), (∀ pre W', J pre W' → I pre W') → AbidesFrom W.heap.size J →
    (∀ pre x W1, J pre W1 → ok pre x → YieldAt Fence.wide (m - 1) P l (encs x) W1 fun e W' => e = .returned (.bool true) ∧ J (pre ++ [x]) W' ∧ KeepC B6 W1 W') →
    J [] W → CallsIn Fence.wide m P g (#[.func (.yield l) #[] #[]] ++ lb) W fun e W' => (∃ v, e = .returned v) ∧ ∃ xs, fin xs ∧ J xs W'
def goesOn3 (B6 B : Nat) (Q : World → Prop) (W : World) : Exit → Act → World → Prop
  | .normal, _, W' => KeepsFrom B W W' ∧ KeepC B6 W W' ∧ Q W'
  | _, _, _ => False

theorem range_known3 {α : Type} {P : Program} {n : Nat} {g : Operand} {ps : Array Tmp} {assign body : Code} {Q : Exit → Act → World → Prop} {a : Act} {w : World} (B : Nat) (hB : w.heap.size = B)
    {gf : Nat} {lb : Array Value} (hg : a.eval g = .func (.func gf) #[] lb) (eg : ∀ args w, (callFunc gf args).run P w = .ok (.enter gf args) w)
    {encs : α → Array Value} (hps : ∀ x, (encs x).size = ps.size) (B6 : Nat) (hB6 : B6 < B) {I : List α → World → Prop} {ok : List α → α → Prop} {fin : List α → Prop}
    (hrun : Runs3 B6 (n - 1) P gf lb encs I ok fin) (hI : OwnFrom B I) (h0 : I [] w) (hIs : ∀ pre W, I pre W → B6 < W.heap.size)
    (Ax : List α → α → Act → World → Prop) (hAx : ∀ pre x a', OwnFrom B (fun (_ : Unit) W => Ax pre x a' W))
    (hassign : ∀ (l : Nat) (pre : List α) (x : α) (W : World) (K : Act → World → Prop), I pre W → ok pre x → (∀ a' W', KeepsFrom B W W' → KeepC B6 W W' → Ax pre x a' W' → K a' W') →
      assign.wpIn (Fence.wide.inRound l) (n - 1 - 1) P (Exit.then K (fun _ _ _ => False)) { tmps := (ps.zip (encs x)).foldl (fun t (p, v) => t.setIfInBounds p v) a.tmps, defers := [] } W)
    (hbody : ∀ (l : Nat) (pre : List α) (x : α) (a' : Act) (W : World), ok pre x → Ax pre x a' W → body.wpIn (Fence.wide.inRound l) (n - 1 - 1) P (goesOn3 B6 B (I (pre ++ [x])) W) a' W)
    (hdone : ∀ (D : Nat) (xs : List α) (W : World), B ≤ D → fin xs → I xs W → W.heap[D]? = some (.deferred (some [])) → Q .normal { a with defers := { target := .collected D, args := #[] } :: a.defers } W) :
    (Code.rangeFunc g ps assign body).wpIn Fence.wide n P Q a w := by
  subst hB
  refine wpIn_rangeFunc fun fn hfn => ?_
  let rec_ : LoopState → Loop := fun st => { state := st, pending := none, fn, tmps := a.tmps, params := ps, assign, body, defers := w.heap.size }
  let W1 := (w.alloc (.deferred (some []))).alloc (.loop (rec_ .ready))
  have hL : W1.heap[w.heap.size + 1]? = some (.loop (rec_ .ready)) := by
    have := World.alloc_heap_new (w.alloc (.deferred (some []))) (.loop (rec_ .ready))
    rwa [World.size_alloc] at this
  have hK : W1.heap[w.heap.size]? = some (.deferred (some [])) := (Below.heap_alloc _ _ _ (by simp)).trans (World.alloc_heap_new w _)
  have s1 : W1.heap.size = w.heap.size + 2 := by simp [W1]
  refine ⟨w.heap.size + 1, [{ target := .collected w.heap.size, args := #[] }], W1, { target := .fn (.func gf) lb, args := #[.func (.yield (w.heap.size + 1)) #[] #[]] }, W1, gf,
    #[.func (.yield (w.heap.size + 1)) #[] #[]] ++ lb, W1, run_enterLoop_outer _ _ _ _ _, ?_, ?_, ?_, (fun h => (by cases h)), ?_⟩
  · simp only [resolve, hg]
    simp [go_sem]
  · intro f' _
    exact trivial
  · simp [invoke, go_sem, eg]
  · refine (hrun (w.heap.size + 1) (fun pre W => I pre W ∧ W.heap[w.heap.size + 1]? = some (.loop (rec_ .ready)) ∧ W.heap[w.heap.size]? = some (.deferred (some []))) W1 (fun _ _ h => h.1) ?_ ?_ ⟨hI.alloc _ (hI.alloc _ h0), hL, hK⟩).mono ?_
    · intro s A B row hs hg' hr
      refine ⟨hI s A B row hs.1 hg' fun r e => ?_, (grownBy_keeps hg' (fun r e => (hr r e).2) hs.2.1 rfl).trans hs.2.1, (grownBy_keeps hg' (fun r e => (hr r e).2) hs.2.2 rfl).trans hs.2.2⟩
      obtain ⟨hB, o, ho, hw⟩ := hr r e
      exact ⟨by omega, o, ho, Obj.not_cells_of_walk hw⟩
    · rintro pre x W ⟨hi, hl, hk⟩ hok
      have hy := run_yield (P := P) (args := encs x) hl (hps x)
      have hs6 := hIs pre W hi
      refine ⟨fn, _, assign, body, hy, roundIn_of_wpIn hfn (hassign _ pre x W _ hi hok fun a' Wa hkf hkc hax => ?_)⟩
      have hl1 := hkf.same _ _ (by omega) hl rfl
      have hk1 := hkf.same _ _ (Nat.le_refl _) hk rfl
      refine ⟨_, run_beginRound hl1 rfl, ?_⟩
      have hlt : w.heap.size + 1 < Wa.heap.size := (Array.getElem?_eq_some_iff.1 hl1).1
      have hl2 : (Wa.putObj (w.heap.size + 1) (.loop { rec_ .ready with state := .busy })).heap[w.heap.size + 1]? = some (.loop { rec_ .ready with state := .busy }) := World.putObj_heap_same hlt
      have hk2 : (Wa.putObj (w.heap.size + 1) (.loop { rec_ .ready with state := .busy })).heap[w.heap.size]? = some (.deferred (some [])) := (World.putObj_heap_other (by omega)).trans hk1
      have kc2 : KeepC B6 Wa (Wa.putObj (w.heap.size + 1) (.loop { rec_ .ready with state := .busy })) := KeepC.putObj (Nat.lt_of_lt_of_le hs6 hkc.size) hl1 rfl (by omega) _
      refine wpIn_mono (hbody _ pre x a' _ hok ((hAx pre x a').putObj (s := ()) _ hax (by omega) hl1 rfl)) ?_
      intro e a3 W3 hp
      cases e with
      | normal =>
        obtain ⟨hk3, hc3, hi3⟩ := hp
        have hl3 := hk3.same _ _ (by omega) hl2 rfl
        have hk4 := hk3.same _ _ (Nat.le_refl _) hk2 rfl
        exact ⟨_, _, run_endRound (P := P) none hl3, rfl, ⟨hI.putObj _ hi3 (by omega) hl3 rfl, World.putObj_heap_same (Array.getElem?_eq_some_iff.1 hl3).1, (World.putObj_heap_other (by omega)).trans hk4⟩,
          ((hkc.trans kc2).trans hc3).trans (KeepC.putObj (Nat.lt_of_lt_of_le hs6 (((hkc.trans kc2).trans hc3).size)) hl3 rfl (by omega) _)⟩
      | ret => exact hp.elim
      | exit id => exact hp.elim
      | goto t => exact hp.elim
      | panic ch => exact hp.elim
      | outgrown => exact hp.elim
    · rintro e W2 ⟨⟨v, rfl⟩, xs, hf, hi, hl, hk⟩
      exact ⟨none, _, run_endLoop (P := P) hl (by simp [rec_]), hdone _ xs _ (Nat.le_refl _) hf (hI.putObj _ hi (by omega) hl rfl) ((World.putObj_heap_other (by omega)).trans hk)⟩
end Go.Proofs.YtegcobkhejpmkaaDoor.Rk
