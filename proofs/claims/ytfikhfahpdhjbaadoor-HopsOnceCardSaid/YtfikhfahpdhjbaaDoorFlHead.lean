/- hops.Flood, walked. -/
import Derived.Test.YtfikhfahpdhjbaaDoorFlSend
import Derived.Test.YtfikhfahpdhjbaaDoorFlWait
import Derived.Test.YtfikhfahpdhjbaaDoorShelf
import Derived.Laws.EntriesVeiled
import Derived.Maps.OwnIn
namespace Go.Proofs.YtfikhfahpdhjbaaDoor.Fl
open Go.RowKit Go.Shelf Go.Proofs.YtfikhfahpdhjbaaDoorW.PrintWords Go.Proofs.YtfikhfahpdhjbaaDoorW.PrintMore Go.Proofs.YtfikhfahpdhjbaaDoor.Rk
attribute [local go_sem] Oper.semAt_some max2_int min2_int
set_option linter.unusedVariables false

/-- A row of one's own abides the turn of a block that is no cells. -/
theorem R_abides {α : Type} {d : Kd α} {e : Nat} {W W' : World} {base : Nat} {ok : Nat → Prop} {v : Value} {xs : List α} {row : Option Nat} (h : d.R e W base ok v xs) (hg : W.grownBy W' row)
    (hr : ∀ r, row = some r → ∃ o : Obj, W.heap[r]? = some o ∧ o.isCells = false) : d.R e W' base ok v xs := by
  refine Kd.R_mono (Kd.R_grown (Kd.R_bound h) hg fun k hk e => ?_) (fun k hk => hk.1)
  obtain ⟨_, _, _, q, _, cells, hc⟩ := hk
  obtain ⟨o, ho, hn⟩ := hr k e.symm
  rw [hc] at ho
  cases ho
  cases hn
theorem waiting1 (p : Addr) (W : World) : Calls Tryd.prog 44 #[.pointer (some p)] W fun e W' => e = .returned (.func (.func 57) #[] #[.pointer (some ⟨W.heap.size, 0, none⟩)]) ∧ W' = W.alloc (.cells #[.pointer (some p)] 71) := by
  go_enter Tryd.func44, Tryd.ntmps44
  go_wp2
  go_ret
  exact ⟨rfl, rfl⟩
/-- slices.Contains at a row of numbers of one's own. -/
theorem contains1 (W : World) (base : Nat) (ok : Nat → Prop) (vo : Value) (xs : List Int) (m : Int) (h : Kd.R (Kd.int .i64) 3 W base ok vo xs) : Calls Tryd.prog 45 #[vo, .int .i64 m] W fun e W' => e = .returned (.bool (xs.contains m)) ∧ W' = W := by
  obtain ⟨A, c, rfl, hcap, hC⟩ := Kd.R_reads h
  cases xs with
  | nil => exact Tryd.slices_Contains_int_empty A c m W
  | cons y ys =>
    obtain ⟨ad, rfl, hc⟩ := hC.2.2 (by simp)
    have cell : ∀ (j : Nat) z, (y :: ys)[j]? = some z → W.cell? (ad.add j) = some (.int .i64 z) := by
      intro j z hz
      obtain ⟨cs, _, e, hcc⟩ := hc j z hz
      have e' : cs = [.int .i64 z] := e
      subst e'
      have := hcc 0 _ rfl
      rwa [show j * (Kd.int .i64).sz + 0 = j from by show j * 1 + 0 = j; omega] at this
    have h0 := cell 0 y rfl
    obtain ⟨b, o, rfl⟩ : ∃ b o, ad = ⟨b, o, none⟩ := by
      obtain ⟨b, off, spot⟩ := ad
      have hspot : spot = none := by simpa [Addr.add] using World.cell?_spot h0
      subst hspot
      exact ⟨b, off, rfl⟩
    refine (Tryd.slices_Contains_int b o (y :: ys).length c (y :: ys) m W (Nat.le_refl _) hC.2.1 (fun j hj => ?_)).mono fun e w' ⟨he, hw⟩ => ⟨by rw [he, List.take_of_length_le (Nat.le_refl _)], hw⟩
    rw [← Go.WideShapes.add_plain]
    refine cell j _ ?_
    rw [List.getD_eq_getElem?_getD, List.getElem?_eq_getElem hj]
    rfl

/-- What lies in memory between two rounds. -/
def InvV (n : Int) (links : List (Int × Int)) (start : Int) (r : List Int × List (Int × Int)) (A0 : Option Addr) (c0 : Nat) (w0 : World) (pre : List (Int × Int)) (vb vo : Value) (W : World) : Prop :=
  Below w0.heap.size w0 W ∧ w0.heap.size + 8 ≤ W.heap.size ∧ W.heap[w0.heap.size]? = some (.cells #[.slice A0 links.length c0] 38 (0, 0)) ∧ W.heap[w0.heap.size + 1]? = some (.cells #[.int .i64 n] 3 (0, 0)) ∧
  W.heap[w0.heap.size + 2]? = some (.cells #[.func (.func 42) #[] #[.pointer (some ⟨w0.heap.size + 1, 0, none⟩)]] 63 (0, 0)) ∧
  W.heap[w0.heap.size + 5]? = some (.cells #[.func (.func 43) #[] #[.pointer (some ⟨w0.heap.size, 0, none⟩), .pointer (some ⟨w0.heap.size + 2, 0, none⟩), .pointer (some ⟨w0.heap.size + 4, 0, none⟩)]] 67 (0, 0)) ∧
  W.heap[w0.heap.size + 7]? = some (.cells #[.pointer (some ⟨w0.heap.size + 4, 0, none⟩)] 71 (0, 0)) ∧
  (∃ k, flood n links k pre.length (stOf n links start pre) = some r) ∧ pre.length ≤ (stOf n links start pre).2.length ∧
  W.heap[w0.heap.size + 4]? = some (.cells #[vb] 66 (0, 0)) ∧ W.heap[w0.heap.size + 6]? = some (.cells #[vo] 39 (0, 0)) ∧
  Kd.R kA 65 W w0.heap.size (fun k => k = w0.heap.size + 3 ∨ w0.heap.size + 8 ≤ k) vb (stOf n links start pre).2 ∧ Kd.R (Kd.int .i64) 3 W w0.heap.size (fun k => w0.heap.size + 8 ≤ k) vo (stOf n links start pre).1 ∧ (∀ b, vb.ownBlock = some b → vo.ownBlock ≠ some b)
theorem invV_own {n : Int} {links : List (Int × Int)} {start : Int} {r : List Int × List (Int × Int)} {A0 : Option Addr} {c0 : Nat} {w0 : World} {pre : List (Int × Int)} {vb vo : Value} {W W' : World} {row : Option Nat}
    (h : InvV n links start r A0 c0 w0 pre vb vo W) (hg : W.grownBy W' row) (hr : ∀ r, row = some r → w0.heap.size + 8 ≤ r ∧ ∃ o : Obj, W.heap[r]? = some o ∧ o.isCells = false) : InvV n links start r A0 c0 w0 pre vb vo W' := by
  obtain ⟨hB, hs, h0, h1, h2, h5, h7, hf, hl, h4, h6, hRb, hRo, hne⟩ := h
  have keep : ∀ k o, k < w0.heap.size + 8 → W.heap[k]? = some o → W'.heap[k]? = some o := fun k o hk ho => (hg.block k (by omega) (fun e => by have := (hr k e.symm).1; omega)).trans ho
  exact ⟨hB.grown hg hB.size (fun k e => by have := (hr k e).1; omega), Nat.le_trans hs hg.size, keep _ _ (by omega) h0, keep _ _ (by omega) h1, keep _ _ (by omega) h2, keep _ _ (by omega) h5, keep _ _ (by omega) h7, hf, hl, keep _ _ (by omega) h4, keep _ _ (by omega) h6, R_abides hRb hg (fun r e => (hr r e).2), R_abides hRo hg (fun r e => (hr r e).2), hne⟩
/-- The law, the place where the loop begins named. -/
theorem range_known' {α : Type} {P : Program} {n : Nat} {g : Operand} {ps : Array Tmp} {assign body : Code} {Q : Exit → Act → World → Prop} {a : Act} {w : World} (B : Nat) (hB : w.heap.size = B)
    {gf : Nat} {lb : Array Value} (hg : a.eval g = .func (.func gf) #[] lb) (eg : ∀ args w, (callFunc gf args).run P w = .ok (.enter gf args) w)
    {encs : α → Array Value} (hps : ∀ x, (encs x).size = ps.size) {I : List α → World → Prop} {ok : List α → α → Prop} {fin : List α → Prop}
    (hrun : Runs (n - 1) P gf lb encs I ok fin) (hI : OwnFrom B I) (h0 : I [] w)
    (Ax : List α → α → Act → World → Prop) (hAx : ∀ pre x a', OwnFrom B (fun (_ : Unit) W => Ax pre x a' W))
    (hassign : ∀ (l : Nat) (pre : List α) (x : α) (W : World) (K : Act → World → Prop), I pre W → ok pre x → (∀ a' W', KeepsFrom B W W' → Ax pre x a' W' → K a' W') →
      assign.wpIn (Fence.wide.inRound l) (n - 1 - 1) P (Exit.then K (fun _ _ _ => False)) { tmps := (ps.zip (encs x)).foldl (fun t (p, v) => t.setIfInBounds p v) a.tmps, defers := [] } W)
    (hbody : ∀ (l : Nat) (pre : List α) (x : α) (a' : Act) (W : World), ok pre x → Ax pre x a' W → body.wpIn (Fence.wide.inRound l) (n - 1 - 1) P (goesOn B (I (pre ++ [x])) W) a' W)
    (hdone : ∀ (D : Nat) (xs : List α) (W : World), B ≤ D → fin xs → I xs W → W.heap[D]? = some (.deferred (some [])) → Q .normal { a with defers := { target := .collected D, args := #[] } :: a.defers } W) :
    (Code.rangeFunc g ps assign body).wpIn Fence.wide n P Q a w := by
  subst hB
  exact range_known hg eg hps hrun hI h0 Ax hAx hassign hbody hdone

section
variable {P : Program} {F : Fence} {nF : Nat} {ops : Array Oper} {rest : List Oper} {o : Oper} {a : Act} {Q : Exit → Act → World → Prop} {α : Type}
/-- append(v, x) in a round, behind 'gi_at_builtin'. -/
theorem R_append_in (d : Kd α) {w0 W : World} (base : Nat) (hgd : o.guard = none) (s x : Operand) (t e : TypeId) (z : Value) (bytes : Nat)
    (ho : o.op = .call { callee := .builtin .append, args := #[s, x], argTypes := #[t, t] })
    (ht : P.underlying t = some (.slice e)) (hinfo : (P.info? e).map (fun i => (i.zero, i.size, i.bytes)) = some (some z, d.sz, bytes)) (hz : z.cells.size = d.sz) (hs0 : 0 < d.sz) (hb0 : 0 < bytes)
    (v : Value) (xs : List α) (p : α) (cs : List Value) (ok okp : Nat → Prop) (hs : a.eval s = v) (hx : a.eval x = .slice (some ⟨W.heap.size, 0, none⟩) 1 1) (hp : d.M W base okp p cs) (hokp : ∀ k, okp k → ok k ∧ some k ≠ v.ownBlock) (hfresh : ∀ k, W.heap.size ≤ k → ok k)
    (HO : d.R e W base ok v xs) (HB : Below base w0 W) (hbase : base ≤ W.heap.size) (hl : (xs.length + 1) * bytes ≤ 140737488355328)
    (h : ∀ v1 w1, d.R e w1 base ok v1 (xs ++ [p]) → Below base w0 w1 → W.grownBy w1 v.ownBlock → (v1.ownBlock = v.ownBlock ∨ ∃ b, v1.ownBlock = some b ∧ W.heap.size ≤ b) → wpListIn F nF P ops Q rest (a.put o.dst v1) w1) :
    wpListIn F nF P ops Q (o :: rest) a (W.alloc (.cells cs.toArray e)) := by
  obtain ⟨h0, inner, hown, hr⟩ := HO
  obtain ⟨i0, hi, hzz⟩ := Option.map_eq_some_iff.1 hinfo
  simp only [Prod.mk.injEq] at hzz
  obtain ⟨hz0, hz1, hz2⟩ := hzz
  have hlen : xs.length + 1 ≤ 140737488355328 := Nat.le_trans (Nat.le_mul_of_pos_right _ hb0) hl
  have hcl : cs.length = d.sz := d.K_len (d.K_of_M hp)
  refine wpListIn_append_own_at (w := W.alloc (.cells cs.toArray e)) hgd s x t ho base e i0 z d.sz bytes ht hi hz0 hz1 hz2 hz hs0 v xs.length inner hs (hown.alloc _) ⟨W.heap.size, 0, none⟩ 1 1 cs hx (by rw [hcl]; simp)
    (by simpa using World.news_of_block (cs := cs.toArray) (t := e) (fr := (0, 0)) (heap_alloc_new W (.cells cs.toArray e))) (d.K_one (d.K_of_M hp)) (by simp only [maxLen]; omega) hl (by simp; omega) ?_
  intro v1 w1 hown1 hg _ hat
  have hg1 := World.grownBy.trans (World.grownBy_alloc W _ _) hg
  have hat1 : v1.ownBlock = v.ownBlock ∨ ∃ b, v1.ownBlock = some b ∧ W.heap.size ≤ b := by
    rcases hat with hat | hat
    · exact .inl hat
    · exact .inr ⟨_, hat, by simp⟩
  exact h v1 w1 (Kd.R_appended h0 hr hp hokp hfresh hown1 hg1 hat1) ((HB.alloc hbase _).grown hg (by simp; omega) (own_base hown)) hg1 hat1
end
theorem info3 : (Tryd.prog.info? 3).map (fun i => (i.zero, i.size, i.bytes)) = some (some (.int .i64 0), 1, 8) := by kernel_rfl
/-- A row of scalars whose own block lies as it lay. -/
theorem R_own1 {α : Type} {d : Kd α} {e base : Nat} {ok : Nat → Prop} {W W1 : World} {v : Value} {xs : List α} (h : d.R e W base ok v xs) (hE : d.E = []) (hm : ∀ k, some k = v.ownBlock → W1.heap[k]? = W.heap[k]?) : d.R e W1 base ok v xs :=
  Kd.R_mono (Kd.R_step (Kd.R_tight hE h) (fun k hk _ => hm k hk)) (fun k hk => h.1 k hk.symm)
theorem flood_next {n : Int} {links : List (Int × Int)} {start : Int} {r : List Int × List (Int × Int)} {pre : List (Int × Int)} {x : Int × Int} (hf : ∃ k, flood n links k pre.length (stOf n links start pre) = some r) (h : okA n links start pre x) :
    (∃ k, flood n links k (pre ++ [x]).length (stOf n links start (pre ++ [x])) = some r) ∧ (pre ++ [x]).length ≤ (stOf n links start (pre ++ [x])).2.length := by
  obtain ⟨hlt, hx⟩ := h
  obtain ⟨k, hk⟩ := hf
  rw [stOf_snoc, List.length_append, List.length_singleton]
  constructor
  · cases k with
    | zero => cases hk
    | succ k =>
      unfold flood at hk
      rw [if_pos hlt, ← hx] at hk
      exact ⟨k, hk⟩
  · have := (step_grows n links (stOf n links start pre) x).1
    omega
def clampN (nodes : Int) : Int := min (max nodes 0) 32
def floodF (k : Nat) (links : List (Int × Int)) (nodes start : Int) : Option (List Int × Int) :=
  if insideB (clampN nodes) start = true then (if links.length ≤ 1000000 then (flood (clampN nodes) links k 0 ([], [(start, -1)])).bind fun r => (if r.2.length ≤ 1000000 then some (r.1, (r.2.length : Int) - 1) else none) else none) else some ([], 0)
/-- What lies in memory in a round. -/
def AxV (n : Int) (links : List (Int × Int)) (nodes start : Int) (r : List Int × List (Int × Int)) (A0 : Option Addr) (c0 : Nat) (w0 : World) (pre : List (Int × Int)) (x : Int × Int) (a' : Act) (W : World) : Prop :=
  ∃ (vb vo : Value) (Bx : Nat), InvV n links start r A0 c0 w0 pre vb vo W ∧ w0.heap.size + 8 ≤ Bx ∧ W.heap[Bx]? = some (.cells #[.int .i64 x.1, .int .i64 x.2] 65 (0, 0)) ∧ vb.ownBlock ≠ some Bx ∧ vo.ownBlock ≠ some Bx ∧
    a' = { tmps := #[.slice A0 links.length c0, .int .i64 nodes, .int .i64 start, .pointer (some ⟨w0.heap.size, 0, none⟩), .pointer (some ⟨w0.heap.size + 1, 0, none⟩), undef, .slice none 0 0, .int .i64 0, .pointer (some ⟨w0.heap.size + 2, 0, none⟩), .pointer (some ⟨w0.heap.size + 4, 0, none⟩), .pointer (some ⟨w0.heap.size + 5, 0, none⟩), .pointer (some ⟨w0.heap.size + 6, 0, none⟩), .pointer (some ⟨Bx, 0, none⟩), .int .i64 nodes, .int .i64 (max nodes 0), .int .i64 (min (max nodes 0) 32), .func (.func 42) #[] #[.pointer (some ⟨w0.heap.size + 1, 0, none⟩)], .func (.func 42) #[] #[.pointer (some ⟨w0.heap.size + 1, 0, none⟩)], .int .i64 start, .bool true, .bool false, .int .i64 start, .agg #[.int .i64 start, .int .i64 (-1)], .slice (some ⟨w0.heap.size + 3, 0, none⟩) 1 1, .func (.func 43) #[] #[.pointer (some ⟨w0.heap.size, 0, none⟩), .pointer (some ⟨w0.heap.size + 2, 0, none⟩), .pointer (some ⟨w0.heap.size + 4, 0, none⟩)], .func (.func 57) #[] #[.pointer (some ⟨w0.heap.size + 7, 0, none⟩)], .agg #[.int .i64 x.1, .int .i64 x.2], undef, undef, undef, undef, undef, undef, undef, undef, undef, undef, undef, undef, undef, undef, undef, undef, undef], defers := [] }

end Go.Proofs.YtfikhfahpdhjbaaDoor.Fl
