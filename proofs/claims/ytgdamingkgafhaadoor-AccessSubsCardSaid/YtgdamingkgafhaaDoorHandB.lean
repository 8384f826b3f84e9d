/- access.first, by its closure: slices.IndexFunc over rules. -/
import Derived.Test.YtgdamingkgafhaaDoorHandA
import Derived.Laws.ResultCell
namespace Go.Proofs.YtgdamingkgafhaaDoor.P
open Go.RowKit Go.Proofs.YtgdamingkgafhaaDoorW.PrintWords Go.Proofs.YtgdamingkgafhaaDoorW.PrintLast Go.Proofs.YtgdamingkgafhaaDoorW.PrintMore
attribute [local go_sem] max2_int min2_int max_two min_two max_three min_three max_four min_four   -- for this text's walks alone
set_option linter.unusedVariables false
set_option linter.unusedSimpArgs false

theorem index_empty (A : Option Addr) (c : Nat) (f : Value) (w : World) :
    Calls Tryd.prog 58 #[.slice A 0 c, f] w fun e w' => e = .returned (.int .i64 (-1)) ∧ Below w.heap.size w w' := by
  go_enter Tryd.func58, Tryd.ntmps58
  go_wp2
  go_loopg [5, 8] 0 (fun gg _ s8 wr => s8 = .int .i64 0 ∧ Aside (Below w.heap.size w wr))
  case atStart => exact ⟨rfl, Below.refl _ w⟩
  case round =>
    obtain ⟨rfl, BW⟩ := hrel
    go_wp2
    go_ret
    exact ⟨rfl, BW.out⟩

theorem idx_is {α : Type} [Inhabited α] (p : α → Bool) (zs : List α) (ix : Int) (h : (ix = -1 ∧ ∀ j, j < zs.length → p zs[j]! = false) ∨ ∃ j, j < zs.length ∧ ix = (j : Nat) ∧ p zs[j]! = true ∧ ∀ i, i < j → p zs[i]! = false) :
    Lib.idxBy (fun _ y => p y) (zs.take zs.length) default = ix := by
  rcases h with ⟨rfl, h⟩ | ⟨j, hj, rfl, h1, h2⟩
  · exact Lib.idxBy_miss (fun _ y => p y) zs zs.length default h
  · exact Lib.idxBy_hit (fun _ y => p y) zs zs.length j default hj (Nat.le_refl _) h1 h2

/-- slices.IndexFunc over rules, by a closure that answers at each rule of the list. -/
theorem index_calls (P : S42 → Option Bool) (g : Nat) (lb : Array Value) (eg : ∀ args W, (callFunc g args).run Tryd.prog W = .ok (.enter g args) W)
    (A0 : Option Addr) (c0 : Nat) (l0 : List S42) (w : World) (hr0 : Kd.C k42 w A0 l0.length l0)
    (hP : ∀ (W : World) (x : S42) (b : Bool), Below w.heap.size w W → P x = some b → Calls Tryd.prog g (#[.agg (encR x).toArray] ++ lb) W fun e w' => e = .returned (.bool b) ∧ Below w.heap.size w w')
    (hall : ∀ x ∈ l0, (P x).isSome = true) (ix : Int)
    (h : (ix = -1 ∧ ∀ j, j < l0.length → (P (l0.getD j z42)).getD false = false) ∨ ∃ j, j < l0.length ∧ ix = (j : Nat) ∧ (P (l0.getD j z42)).getD false = true ∧ ∀ i, i < j → (P (l0.getD i z42)).getD false = false) :
    Calls Tryd.prog 58 #[.slice A0 l0.length c0, .func (.func g) #[] lb] w fun e w' => e = .returned (.int .i64 ix) ∧ Below w.heap.size w w' := by
  cases hl : l0 with
  | nil =>
    subst hl
    have : ix = -1 := by
      rcases h with h | ⟨j, hj, _⟩
      · exact h.1
      · exact absurd hj (Nat.not_lt_zero _)
    subst this
    exact index_empty A0 c0 _ w
  | cons x0 xs0 =>
    rw [← hl]
    have hx0 : x0 ∈ l0 := by rw [hl]; exact List.mem_cons_self ..
    have hpos : 0 < l0.length := by rw [hl]; simp
    haveI : Inhabited { x : S42 // (P x).isSome = true } := ⟨⟨x0, hall x0 hx0⟩⟩
    have hzl : (l0.pmap (fun x hx => (⟨x, hx⟩ : { x : S42 // (P x).isSome = true })) hall).length = l0.length := List.length_pmap
    have hz : ∀ j, j < l0.length → ((l0.pmap (fun x hx => (⟨x, hx⟩ : { x : S42 // (P x).isSome = true })) hall)[j]!).1 = l0.getD j z42 := by
      intro j hj
      rw [getElem!_pos _ j (by rw [hzl]; exact hj), List.getElem_pmap]
      simp [List.getD, List.getElem?_eq_getElem hj]
    generalize hzs : l0.pmap (fun x hx => (⟨x, hx⟩ : { x : S42 // (P x).isSome = true })) hall = zs at hzl hz
    obtain ⟨ad, rfl, hc⟩ := hr0.2.2 hpos
    have cells : ∀ j, j < l0.length → ∀ i v, (encR (l0.getD j z42))[i]? = some v → w.cell? (ad.add (j * 4 + i)) = some v := by
      intro j hj i v hi
      obtain ⟨c, _, hK, hcc⟩ := hc j (l0.getD j z42) (by simp [List.getD, List.getElem?_eq_getElem hj])
      obtain rfl := k42_open hK
      exact hcc i v hi
    have h0 := cells 0 hpos 0 _ rfl
    obtain ⟨b, o, rfl⟩ : ∃ b o, ad = ⟨b, o, none⟩ := by
      obtain ⟨b, off, spot⟩ := ad
      have hspot : spot = none := by simpa [Addr.add] using World.cell?_spot h0
      subst hspot
      exact ⟨b, off, rfl⟩
    have hix := idx_is (fun x : { x : S42 // (P x).isSome = true } => (P x.1).getD false) zs ix (by
      rw [hzl]
      rcases h with ⟨h1, h2⟩ | ⟨j, hj, h1, h2, h3⟩
      · exact .inl ⟨h1, fun j hj => by rw [hz j hj]; exact h2 j hj⟩
      · exact .inr ⟨j, hj, h1, by rw [hz j hj]; exact h2, fun i hi => by rw [hz i (by omega)]; exact h3 i hi⟩)
    rw [hzl] at hix
    rw [← hix]
    refine AnyQ.slices_IndexFunc Tryd.l58 4 Tryd.isAgg42 Tryd.sizeOf42 (fun x : { x : S42 // (P x).isSome = true } => encR x.1) (fun _ => rfl) (fun x => (P x.1).getD false) g lb eg b o l0.length c0 zs w ?_ (Nat.le_of_eq hzl.symm) hr0.2.1 (World.block_lt_of_cell? w _ h0) ?_
    · intro W x hW
      refine hP W x.1 _ hW ?_
      have := x.2
      cases e : P x.1 with
      | none => rw [e] at this; cases this
      | some b =>
        show some b = some ((P x.1).getD false)
        rw [e]
        rfl
    · intro j hj i v hi
      rw [hzl] at hj
      have := cells j hj i v (by rw [← hz j hj]; exact hi)
      rw [Nat.add_assoc, ← Go.WideShapes.add_plain]
      exact this

theorem find_is (p : S42 → Bool) : ∀ l : List S42, (l.find? p = none ∧ ∀ j, j < l.length → p (l.getD j z42) = false) ∨ ∃ j, j < l.length ∧ l.find? p = some (l.getD j z42) ∧ p (l.getD j z42) = true ∧ ∀ i, i < j → p (l.getD i z42) = false
  | [] => .inl ⟨rfl, fun j hj => absurd hj (Nat.not_lt_zero _)⟩
  | x :: xs => by
    cases hx : p x with
    | true => exact .inr ⟨0, by simp, by simp [List.find?, hx], by simpa using hx, fun i hi => absurd hi (Nat.not_lt_zero _)⟩
    | false =>
      rcases find_is p xs with ⟨h1, h2⟩ | ⟨j, hj, h1, h2, h3⟩
      · refine .inl ⟨by simp [List.find?, hx, h1], fun j hj => ?_⟩
        cases j with
        | zero => simpa using hx
        | succ j => simpa using h2 j (by simpa using hj)
      · refine .inr ⟨j + 1, by simpa using hj, by simp [List.find?, hx, h1], by simpa using h2, fun i hi => ?_⟩
        cases i with
        | zero => simpa using hx
        | succ i => simpa using h3 i (by omega)

/-- access.first: the first rule that is for the user and the action, and that applies. -/
theorem first_calls (k : Nat) (c u : ByteArray) (a : Int) (q : ByteArray → Option Bool) (g : Nat) (lb : Array Value) (eg : ∀ args W, (callFunc g args).run Tryd.prog W = .ok (.enter g args) W)
    (A0 : Option Addr) (c0 : Nat) (l0 : List S42) (w : World) (hr0 : Kd.C k42 w A0 l0.length l0) (hc0 : l0.length ≤ c0)
    (hq : ∀ (W : World) (s : ByteArray) (b : Bool), Below w.heap.size w W → q s = some b → Calls Tryd.prog g (#[.string s] ++ lb) W fun e w' => e = .returned (.bool b) ∧ Below W.heap.size W w')
    (hall : ∀ x ∈ l0, (ruleF k c u a x q).isSome = true) :
    Calls Tryd.prog 34 #[.slice A0 l0.length c0, .agg #[.string c, .string u], .int .i64 a, .func (.func g) #[] lb] w fun e w' => e = .returned (.tuple #[.agg (encR ((l0.find? fun x => (ruleF k c u a x q).getD false).getD z42)).toArray, .bool (l0.find? fun x => (ruleF k c u a x q).getD false).isSome]) ∧ Below w.heap.size w w' := by
  have e59 : ∀ args W, (callFunc 59 args).run Tryd.prog W = .ok (.enter 59 args) W := enters_of Tryd.func59 (by kernel_rfl) rfl
  obtain ⟨W1, hW1⟩ : ∃ W1, W1 = w.alloc (.cells #[.string c, .string u] 28) := ⟨_, rfl⟩
  obtain ⟨W2, hW2⟩ : ∃ W2, W2 = W1.alloc (.cells #[.int .i64 a] 3) := ⟨_, rfl⟩
  obtain ⟨W3, hW3⟩ : ∃ W3, W3 = W2.alloc (.cells #[.func (.func g) #[] lb] 44) := ⟨_, rfl⟩
  obtain ⟨W4, hW4⟩ : ∃ W4, W4 = W3.alloc (.cells #[.bool false, .string ⟨#[]⟩, .int .i64 0, .string ⟨#[]⟩] 42) := ⟨_, rfl⟩
  have s1 : W1.heap.size = w.heap.size + 1 := by rw [hW1]; simp
  have s2 : W2.heap.size = w.heap.size + 2 := by rw [hW2]; simp [s1]
  have s3 : W3.heap.size = w.heap.size + 3 := by rw [hW3]; simp [s2]
  have s4 : W4.heap.size = w.heap.size + 4 := by rw [hW4]; simp [s3]
  have hb1 : Below w.heap.size w W1 := hW1 ▸ (Below.refl _ w).alloc (Nat.le_refl _) _
  have hb2 : Below w.heap.size w W2 := hW2 ▸ hb1.alloc (by omega) _
  have hb3 : Below w.heap.size w W3 := hW3 ▸ hb2.alloc (by omega) _
  have hb4 : Below w.heap.size w W4 := hW4 ▸ hb3.alloc (by omega) _
  have c1 : W4.cell? ⟨w.heap.size, 0, none⟩ = some (.string c) := by rw [hW4, hW3, hW2]; exact Lib.cell?_alloc_some _ (Lib.cell?_alloc_some _ (Lib.cell?_alloc_some _ (by rw [hW1]; simp)))
  have c2 : W4.cell? ⟨w.heap.size, 1, none⟩ = some (.string u) := by rw [hW4, hW3, hW2]; exact Lib.cell?_alloc_some _ (Lib.cell?_alloc_some _ (Lib.cell?_alloc_some _ (by rw [hW1]; simp)))
  have c3 : W4.cell? ⟨w.heap.size + 1, 0, none⟩ = some (.int .i64 a) := by rw [hW4, hW3]; exact Lib.cell?_alloc_some _ (Lib.cell?_alloc_some _ (by rw [hW2, ← s1]; simp))
  have c4 : W4.cell? ⟨w.heap.size + 2, 0, none⟩ = some (.func (.func g) #[] lb) := by rw [hW4]; exact Lib.cell?_alloc_some _ (by rw [hW3, ← s2]; simp)
  have hP := fun W x b hb hx => first1 k c u a q g lb w.heap.size (w.heap.size + 1) (w.heap.size + 2) W4 eg (by omega) (by omega) (by omega) c1 c2 c3 c4 (fun W s b hb hs => hq W s b (hb4.trans (hb.mono (by omega))) hs) x b hx W hb
  have hr4 : Kd.C k42 W4 A0 l0.length l0 := Kd.C_below hr0 hb4
  have hcon := fun ix h => index_calls (fun x => ruleF k c u a x q) 59 #[.pointer (some ⟨w.heap.size, 0, none⟩), .pointer (some ⟨w.heap.size + 1, 0, none⟩), .pointer (some ⟨w.heap.size + 2, 0, none⟩)] e59 A0 c0 l0 W4 hr4 (fun W x b hb hx => hP W x b hb hx) hall ix h
  have hblk : W4.heap[w.heap.size + 3]? = some (.cells #[.bool false, .string ⟨#[]⟩, .int .i64 0, .string ⟨#[]⟩] 42 (0, 0)) := by rw [hW4, ← s3]; exact blk_new W3 _
  have hres : ∀ w', Below W4.heap.size W4 w' → Below w.heap.size w w' ∧ (w'.cell? ⟨w.heap.size + 3, 0, none⟩ = some (.bool false) ∧ w'.cell? ⟨w.heap.size + 3, 1, none⟩ = some (.string ⟨#[]⟩) ∧ w'.cell? ⟨w.heap.size + 3, 2, none⟩ = some (.int .i64 0) ∧ w'.cell? ⟨w.heap.size + 3, 3, none⟩ = some (.string ⟨#[]⟩)) ∧ ∀ i, w'.frozen? ⟨w.heap.size + 3, i, none⟩ = false := fun w' hb' => by
    have hk := (hb'.block (w.heap.size + 3) (by omega)).trans hblk
    exact ⟨hb4.trans (hb'.mono (by omega)), ⟨(blk_cell hk 0).trans rfl, (blk_cell hk 1).trans rfl, (blk_cell hk 2).trans rfl, (blk_cell hk 3).trans rfl⟩, fun i => blk_frozen hk i⟩
  clear hP hq c1 c2 c3 c4 hb1 hb2 hb3 s1 s2 s3 s4 hblk
  rcases find_is (fun x => (ruleF k c u a x q).getD false) l0 with ⟨h1, h2⟩ | ⟨j, hj, h1, h2, h3⟩
  · have hc := hcon (-1) (.inl ⟨rfl, h2⟩)
    rw [h1]
    subst hW4; subst hW3; subst hW2; subst hW1
    clear hcon h1 h2 hall hr4 hb4
    show Calls Tryd.prog 34 #[.slice A0 l0.length c0, .agg #[.string c, .string u], .int .i64 a, .func (.func g) #[] lb] w fun e w' => e = .returned (.tuple #[.agg #[.bool false, .string ⟨#[]⟩, .int .i64 0, .string ⟨#[]⟩], .bool false]) ∧ Below w.heap.size w w'
    go_enter Tryd.func34, Tryd.ntmps34
    go_wp2_with (go_at_call 58; refine hc.mono ?_; rintro e w' ⟨rfl, hb'⟩; obtain ⟨hbw, ⟨z0, z1, z2, z3⟩, zf⟩ := hres _ hb'; have f0 := zf 0; have f1 := zf 1; have f2 := zf 2; have f3 := zf 3; clear zf hb' hres hc)
    refine bodyPost_ret (by rw [results_cell_tmp rfl]; go_simp; try rfl) rfl ?_
    exact ⟨rfl, (((hbw.setCell (by simp; omega) _).setCell (by simp; omega) _).setCell (by simp; omega) _).setCell (by simp; omega) _⟩
  · have hc := hcon j (.inr ⟨j, hj, rfl, h2, h3⟩)
    rw [h1]
    have p0 : (0 : Int) ≤ (j : Int) := Int.natCast_nonneg j
    have q0 : (j : Int) < (l0.length : Int) := by omega
    have p1 : decide ((j : Int) < 0) = false := decide_eq_false (by omega)
    obtain ⟨ad, e0, y0, y1, y2, y3⟩ := at_T42 hr0 (j : Int) p0 q0
    have e1 : rd_T42 l0 (j : Int) = l0.getD j z42 := rfl
    rw [e1, Int.toNat_natCast] at y0 y1 y2 y3
    clear e1
    have hB : ∀ w', Below w.heap.size w w' → w'.cell? (ad.add (j * 4)) = some (.bool (l0.getD j z42).f0) ∧ w'.cell? ⟨(ad.add (j * 4)).block, (ad.add (j * 4)).off + 1, none⟩ = some (.string (l0.getD j z42).f1) ∧ w'.cell? ⟨(ad.add (j * 4)).block, (ad.add (j * 4)).off + 2, none⟩ = some (.int .i64 (l0.getD j z42).f2) ∧ w'.cell? ⟨(ad.add (j * 4)).block, (ad.add (j * 4)).off + 3, none⟩ = some (.string (l0.getD j z42).f3) := fun w' hb => ⟨(hb.cell (World.block_lt_of_cell? w _ y0)).trans y0, (hb.cell (World.block_lt_of_cell? w _ y1)).trans y1, (hb.cell (World.block_lt_of_cell? w _ y2)).trans y2, (hb.cell (World.block_lt_of_cell? w _ y3)).trans y3⟩
    generalize l0.getD j z42 = r at h1 h2 hB ⊢
    subst hW4; subst hW3; subst hW2; subst hW1; subst e0
    clear hcon h1 h2 h3 hall hr4 hb4 y0 y1 y2 y3
    show Calls Tryd.prog 34 #[.slice (some ad) l0.length c0, .agg #[.string c, .string u], .int .i64 a, .func (.func g) #[] lb] w fun e w' => e = .returned (.tuple #[.agg #[.bool r.f0, .string r.f1, .int .i64 r.f2, .string r.f3], .bool true]) ∧ Below w.heap.size w w'
    go_enter Tryd.func34, Tryd.ntmps34
    go_wp2_with (go_at_call 58; refine hc.mono ?_; rintro e w' ⟨rfl, hb'⟩; obtain ⟨hbw, ⟨z0, z1, z2, z3⟩, zf⟩ := hres _ hb'; have f0 := zf 0; have f1 := zf 1; have f2 := zf 2; have f3 := zf 3; obtain ⟨y0, y1, y2, y3⟩ := hB w' hbw; clear zf hb' hres hc hB)
    refine bodyPost_ret (by rw [results_cell_tmp rfl]; go_simp; try rfl) rfl ?_
    exact ⟨rfl, (((hbw.setCell (by simp; omega) _).setCell (by simp; omega) _).setCell (by simp; omega) _).setCell (by simp; omega) _⟩
end Go.Proofs.YtgdamingkgafhaaDoor.P
