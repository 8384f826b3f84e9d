/- access.Shadowed, walked; slices.ContainsFunc over rules. -/
import Derived.Test.YtgdamingkgafhaaDoorPx5
import Derived.Test.YtgdamingkgafhaaDoorHandB
-- needs: access_shadows
namespace Go.Proofs.YtgdamingkgafhaaDoor.P
open Go.RowKit Go.Proofs.YtgdamingkgafhaaDoorW.PrintWords Go.Proofs.YtgdamingkgafhaaDoorW.PrintLast Go.Proofs.YtgdamingkgafhaaDoorW.PrintMore
attribute [local go_sem] max2_int min2_int max_two min_two max_three min_three max_four min_four   -- for this text's walks alone
set_option linter.unusedVariables false
set_option linter.unusedSimpArgs false

theorem contains_empty (A : Option Addr) (c : Nat) (f : Value) (w : World) :
    Calls Tryd.prog 43 #[.slice A 0 c, f] w fun e w' => e = .returned (.bool false) ∧ Below w.heap.size w w' := by
  have hc := index_empty A c f w
  go_enter Tryd.func43, Tryd.ntmps43
  go_wp2_with (go_at_call 58; refine hc.mono ?_; rintro e w' ⟨rfl, hb⟩)
  go_ret
  exact ⟨rfl, hb⟩

/-- slices.ContainsFunc over rules, by a closure that answers at each rule of the list. -/
theorem contains_calls (P : S42 → Option Bool) (g : Nat) (lb : Array Value) (eg : ∀ args W, (callFunc g args).run Tryd.prog W = .ok (.enter g args) W)
    (A0 : Option Addr) (c0 : Nat) (l0 : List S42) (w : World) (hr0 : Kd.C k42 w A0 l0.length l0)
    (hP : ∀ (W : World) (x : S42) (b : Bool), Below w.heap.size w W → P x = some b → Calls Tryd.prog g (#[.agg (encR x).toArray] ++ lb) W fun e w' => e = .returned (.bool b) ∧ Below w.heap.size w w')
    (hall : ∀ x ∈ l0, (P x).isSome = true) :
    Calls Tryd.prog 43 #[.slice A0 l0.length c0, .func (.func g) #[] lb] w fun e w' => e = .returned (.bool (l0.any fun x => (P x).getD false)) ∧ Below w.heap.size w w' := by
  cases hl : l0 with
  | nil => exact contains_empty A0 c0 _ w
  | cons x0 xs0 =>
    rw [← hl]
    have hx0 : x0 ∈ l0 := by rw [hl]; exact List.mem_cons_self ..
    have hpos : 0 < l0.length := by rw [hl]; simp
    haveI : Inhabited { x : S42 // (P x).isSome = true } := ⟨⟨x0, hall x0 hx0⟩⟩
    have hzl : (l0.pmap (fun x hx => (⟨x, hx⟩ : { x : S42 // (P x).isSome = true })) hall).length = l0.length := List.length_pmap
    have hz : ∀ j, j < l0.length → ((l0.pmap (fun x hx => (⟨x, hx⟩ : { x : S42 // (P x).isSome = true })) hall)[j]!).1 = l0.getD j z42 := by
      intro j hj
      rw [getElem!_pos _ j (by rw [hzl]; exact hj), List.getElem_pmap]
      simp [List.getD, List.getElem?_eq_getElem hj]
    have hany : (l0.pmap (fun x hx => (⟨x, hx⟩ : { x : S42 // (P x).isSome = true })) hall).any (fun x => (P x.1).getD false) = l0.any fun x => (P x).getD false := by
      clear hz hzl hl hpos hx0 this hr0 hP eg
      induction l0 with
      | nil => rfl
      | cons y ys ih => simp only [List.pmap, List.any_cons]; rw [ih (fun x hx => hall x (List.mem_cons_of_mem _ hx))]
    generalize hzs : l0.pmap (fun x hx => (⟨x, hx⟩ : { x : S42 // (P x).isSome = true })) hall = zs at hzl hz hany
    obtain ⟨ad, rfl, hc⟩ := hr0.2.2 hpos
    have cells : ∀ j, j < l0.length → ∀ i v, (encR (l0.getD j z42))[i]? = some v → w.cell? (ad.add (j * 4 + i)) = some v := by
      intro j hj i v hi
      obtain ⟨c, _, hK, hcc⟩ := hc j (l0.getD j z42) (by simp [List.getD, List.getElem?_eq_getElem hj])
      obtain rfl := k42_open hK
      exact hcc i v hi
    have h0 := cells 0 hpos 0 _ rfl
    obtain ⟨b, o, rfl⟩ : ∃ b o, ad = ⟨b, o, none⟩ := by
      obtain ⟨b, off, spot⟩ := ad
      have hspot : spot = none := by simpa [Addr.add] using World.cell?_spot h0
      subst hspot
      exact ⟨b, off, rfl⟩
    rw [← hany, show zs.any (fun x => (P x.1).getD false) = (zs.take l0.length).any (fun x => (P x.1).getD false) from by rw [List.take_of_length_le (Nat.le_of_eq hzl)]]
    refine AnyQ.slices_ContainsFunc Tryd.l43 4 Tryd.isAgg42 Tryd.sizeOf42 (fun x : { x : S42 // (P x).isSome = true } => encR x.1) (fun _ => rfl) (fun x => (P x.1).getD false) g lb eg b o l0.length c0 zs w ?_ (Nat.le_of_eq hzl.symm) hr0.2.1 (World.block_lt_of_cell? w _ h0) ?_
    · intro W x hW
      refine hP W x.1 _ hW ?_
      have := x.2
      cases e : P x.1 with
      | none => rw [e] at this; cases this
      | some b =>
        show some b = some ((P x.1).getD false)
        rw [e]
        rfl
    · intro j hj i v hi
      rw [hzl] at hj
      have := cells j hj i v (by rw [← hz j hj]; exact hi)
      rw [Nat.add_assoc, ← Go.WideShapes.add_plain]
      exact this

def shP (k : Nat) (y x : S42) : Option Bool := access_shadows.f k x.f0 x.f1 x.f2 x.f3 y.f0 y.f1 y.f2 y.f3
def shadB (k : Nat) (l : List S42) (i : Nat) : Option Bool := if (l.take i).all (fun x => (shP k (l.getD i z42) x).isSome) = true then some ((l.take i).any fun x => (shP k (l.getD i z42) x).getD false) else none
def shadG (k : Nat) (l : List S42) : Nat → Nat → List Int → Option (List Int)
  | 0, _, out => some out
  | d + 1, i, out => (shadB k l i).bind fun b => if b = true then (if out.length < 8796093022208 then shadG k l d (i + 1) (out ++ [(i : Int)]) else none) else shadG k l d (i + 1) out
def shadF (k : Nat) (l : List S42) : Option (List Int) := shadG k l l.length 0 []

/-- The closure of access.Shadowed. -/
theorem shad1 (k : Nat) (y : S42) (B : Nat) (w : World) (hB : B < w.heap.size) (hc0 : w.cell? ⟨B, 0, none⟩ = some (.bool y.f0)) (hc1 : w.cell? ⟨B, 1, none⟩ = some (.string y.f1)) (hc2 : w.cell? ⟨B, 2, none⟩ = some (.int .i64 y.f2)) (hc3 : w.cell? ⟨B, 3, none⟩ = some (.string y.f3))
    (W : World) (x : S42) (b : Bool) (hb : Below w.heap.size w W) (h : shP k y x = some b) :
    Calls Tryd.prog 44 (#[.agg (encR x).toArray] ++ #[.pointer (some ⟨B, 0, none⟩)]) W fun e w' => e = .returned (.bool b) ∧ Below w.heap.size w w' := by
  have d0 : ∀ o, (W.alloc o).cell? ⟨B, 0, none⟩ = some (.bool y.f0) := fun o => Lib.cell?_alloc_some _ ((hb.cell (p := ⟨B, 0, none⟩) hB).trans hc0)
  have d1 : ∀ o, (W.alloc o).cell? ⟨B, 1, none⟩ = some (.string y.f1) := fun o => Lib.cell?_alloc_some _ ((hb.cell (p := ⟨B, 1, none⟩) hB).trans hc1)
  have d2 : ∀ o, (W.alloc o).cell? ⟨B, 2, none⟩ = some (.int .i64 y.f2) := fun o => Lib.cell?_alloc_some _ ((hb.cell (p := ⟨B, 2, none⟩) hB).trans hc2)
  have d3 : ∀ o, (W.alloc o).cell? ⟨B, 3, none⟩ = some (.string y.f3) := fun o => Lib.cell?_alloc_some _ ((hb.cell (p := ⟨B, 3, none⟩) hB).trans hc3)
  show Calls Tryd.prog 44 #[.agg #[.bool x.f0, .string x.f1, .int .i64 x.f2, .string x.f3], .pointer (some ⟨B, 0, none⟩)] W _
  have hs := hb.size
  clear hc0 hc1 hc2 hc3 hB
  go_enter Tryd.func44, Tryd.ntmps44
  go_wp2_with (go_at_call 45; refine (access_shadows.calls k x.f0 x.f1 x.f2 x.f3 y.f0 y.f1 y.f2 y.f3 b _ h).mono ?_; rintro e w' ⟨rfl, hb1⟩)
  go_ret
  exact ⟨rfl, (hb.alloc hs _).trans (hb1.mono (by simp; omega))⟩

theorem up64 (i : Nat) (h : i + 1 ≤ 9223372036854775807) : wrap64 ((i : Int) + 1) = ((i + 1 : Nat) : Int) := by
  unfold wrap64
  omega
set_option maxHeartbeats 4000000 in
set_option maxRecDepth 100000 in
/-- access.Shadowed: the indexes at which an earlier rule shadows. -/
theorem Shadowed_calls (k : Nat) (A0 : Option Addr) (c0 : Nat) (l0 : List S42) (r : List Int) (w : World) (hr0 : Kd.C k42 w A0 l0.length l0) (hc0 : l0.length ≤ c0) (h : shadF k l0 = some r) :
    Calls Tryd.prog 22 #[.slice A0 l0.length c0] w fun e w' => ∃ v0_ : Value, e = .returned (v0_) ∧ Kd.R (Kd.int .i64) 3 w' w.heap.size (fun _ => True) v0_ r ∧ Below w.heap.size w w' := by
  have e44 : ∀ args W, (callFunc 44 args).run Tryd.prog W = .ok (.enter 44 args) W := enters_of Tryd.func44 (by kernel_rfl) rfl
  have hbig := hr0.2.1
  unfold shadF at h
  go_enter Tryd.func22, Tryd.ntmps22
  go_wp2
  go_loopg [3, 8] l0.length (fun gk v3 v8 w' => ∃ (out : List Int) (i : Nat), v8 = .int .i64 i ∧ Aside0 (i ≤ l0.length) ∧ Aside0 (l0.length - i ≤ gk) ∧ Aside0 (shadG k l0 (l0.length - i) i out = some r) ∧ Aside0 (Kd.R (Kd.int .i64) 3 w' w.heap.size (fun _ => True) v3 out) ∧ Aside0 (Below w.heap.size w w'))
  case atStart => exact ⟨[], 0, rfl, ⟨Nat.zero_le _⟩, ⟨by omega⟩, ⟨h⟩, ⟨Kd.R_nil _ _ _ _ _⟩, ⟨Below.refl _ _⟩⟩
  case round =>
    obtain ⟨out, i, rfl, HI, HG, HF, HO, HB⟩ := hrel
    clear h
    by_cases hi : i < l0.length
    · have hf := HF.out
      rw [show l0.length - i = (l0.length - (i + 1)) + 1 from by omega] at hf
      simp only [shadG] at hf
      obtain ⟨b, hsb, hf⟩ := Option.bind_eq_some_iff.1 hf
      obtain ⟨ad, e0, y0, y1, y2, y3⟩ := at_T42 hr0 (i : Int) (Int.natCast_nonneg i) (by omega)
      rw [show rd_T42 l0 (i : Int) = l0.getD i z42 from rfl, Int.toNat_natCast] at y0 y1 y2 y3
      unfold shadB at hsb
      generalize hy : l0.getD i z42 = y at y0 y1 y2 y3 hsb
      clear hy
      replace y0 := (HB.out.cell (World.block_lt_of_cell? w _ y0)).trans y0
      replace y1 := (HB.out.cell (World.block_lt_of_cell? w _ y1)).trans y1
      replace y2 := (HB.out.cell (World.block_lt_of_cell? w _ y2)).trans y2
      replace y3 := (HB.out.cell (World.block_lt_of_cell? w _ y3)).trans y3
      split at hsb
      · rename_i hall
        obtain rfl := Option.some.inj hsb
        have hlen : (l0.take i).length = i := by rw [List.length_take]; omega
        obtain ⟨W1, hW1⟩ : ∃ W1, W1 = wr.alloc (.cells #[.bool y.f0, .string y.f1, .int .i64 y.f2, .string y.f3] 42) := ⟨_, rfl⟩
        have hBW : Below w.heap.size w W1 := hW1 ▸ HB.out.alloc HB.out.size _
        have hCt : Kd.C k42 W1 A0 (l0.take i).length (l0.take i) := Kd.C_take (Kd.C_below hr0 hBW) (by omega)
        have z0 : W1.cell? ⟨wr.heap.size, 0, none⟩ = some (.bool y.f0) := by rw [hW1]; simp
        have z1 : W1.cell? ⟨wr.heap.size, 1, none⟩ = some (.string y.f1) := by rw [hW1]; simp
        have z2 : W1.cell? ⟨wr.heap.size, 2, none⟩ = some (.int .i64 y.f2) := by rw [hW1]; simp
        have z3 : W1.cell? ⟨wr.heap.size, 3, none⟩ = some (.string y.f3) := by rw [hW1]; simp
        have hcon := contains_calls (shP k y) 44 #[.pointer (some ⟨wr.heap.size, 0, none⟩)] e44 A0 c0 (l0.take i) W1 hCt (fun W x b hb hs => shad1 k y wr.heap.size W1 (World.block_lt_of_cell? W1 _ z0) z0 z1 z2 z3 W x b hb hs) (List.all_eq_true.1 hall)
        rw [hlen] at hcon
        have hO1 : Kd.R (Kd.int .i64) 3 W1 w.heap.size (fun _ => True) u3 out := hW1 ▸ Kd.R_alloc HO.out _
        obtain ⟨i0, hi0, _, hsz, _⟩ := info_parts info42
        have hcut := cut_to (P := Tryd.prog) 22 42 .i64 Tryd.underlying22 hi0 A0 l0.length c0 (i : Int) (Int.natCast_nonneg i) (by omega) hc0
        rw [Int.toNat_natCast] at hcut
        have c9 : decide ((i : Int) < (l0.length : Int)) = true := decide_eq_true (by omega)
        have c10 : (0 : Int) ≤ (i : Int) := Int.natCast_nonneg i
        have c11 : (i : Int) < (l0.length : Int) := by omega
        have HW := Aside0.mk hBW
        have HO1 := Aside0.mk hO1
        have HL := Aside0.mk hbig
        clear hBW hO1 z0 z1 z2 z3 hCt hsz hi0 hbig hsb hlen hall
        generalize ((l0.take i).any fun x => (shP k y x).getD false) = b at hf hcon
        subst hW1; subst e0
        cases b with
        | true =>
          rw [if_pos rfl] at hf
          split at hf
          · rename_i hlo
            have HF2 := Aside0.mk hf
            have HLo := Aside0.mk hlo
            clear hf hlo HF HO
            go_wp2_with (first | (go_at_call 43; refine hcon.mono ?_; rintro e w1 ⟨rfl, hb1⟩; have HW2 := Aside0.mk (HW.out.trans (hb1.mono HW.out.size)); have HO2 := Aside0.mk (Kd.R_below HO1.out hb1); clear hcon hb1) | ((with_reducible refine gate_builtin (b := .append) (xs := #[.tmp 18, .tmp 20]) rfl ?_); at_builtin; refine Kd.R_append (Kd.int .i64) (w0 := w) w.heap.size rfl (.tmp 18) (.tmp 20) 35 3 (.int .i64 0) 8 rfl Tryd.underlying35 info3 rfl (by decide) (by omega) u3 out (i : Int) [.int .i64 (i : Int)] (fun _ => True) (fun _ => False) rfl rfl ?aP (fun _ hk => hk.elim) ?aF ?aO ?aB ?aS ?aL ?_; (case aP => exact rfl); (case aB => exact (by repeat (first | (with_reducible first | exact HW2.out | apply below_alloc) | exact HW2.out))); (case aF => exact (fun _ _ => trivial)); (case aO => exact (by (with_reducible repeat (first | apply Kd.R_alloc)); exact HO2.out)); (case aS => exact (below_size (by repeat (first | (with_reducible first | exact HW2.out | apply below_alloc) | exact HW2.out)))); (case aL => have := HLo.out; omega); intro v4 w4 ho hb hg hat; have HW3 := Aside0.mk hb; have HO3 := Aside0.mk ho; clear hg hat ho hb))
            go_roundg (l0.length - (i + 1))
            case measure => have := HG.out; omega
            case rel => exact ⟨out ++ [(i : Int)], i + 1, by rw [up64 i (by have := HL.out; omega)], ⟨by omega⟩, ⟨Nat.le_refl _⟩, HF2, HO3, HW3⟩
          · cases hf
        | false =>
          rw [if_neg (by decide)] at hf
          have HF2 := Aside0.mk hf
          clear hf HF HO
          go_wp2_with (go_at_call 43; refine hcon.mono ?_; rintro e w1 ⟨rfl, hb1⟩; have HW2 := Aside0.mk (HW.out.trans (hb1.mono HW.out.size)); have HO2 := Aside0.mk (Kd.R_below HO1.out hb1); clear hcon hb1)
          go_roundg (l0.length - (i + 1))
          case measure => have := HG.out; omega
          case rel => exact ⟨out, i + 1, by rw [up64 i (by have := HL.out; omega)], ⟨by omega⟩, ⟨Nat.le_refl _⟩, HF2, HO2, HW2⟩
      · cases hsb
    · have hf := HF.out
      have hii : i = l0.length := by have := HI.out; omega
      subst hii
      rw [Nat.sub_self] at hf
      obtain rfl := Option.some.inj hf
      have c9 : decide (((l0.length : Nat) : Int) < (l0.length : Int)) = false := decide_eq_false (by omega)
      clear hf hi
      go_wp2
      go_ret
      exact ⟨_, rfl, HO.out, HB.out⟩

theorem shadB_mono (k : Nat) (l : List S42) (i : Nat) : LeO (shadB k l i) (shadB (k + 1) l i) := by
  intro r hr
  unfold shadB at hr ⊢
  split at hr
  · rename_i ha
    have same : ∀ x ∈ l.take i, shP (k + 1) (l.getD i z42) x = shP k (l.getD i z42) x := fun x hx => by
      obtain ⟨b, hb⟩ := Option.isSome_iff_exists.1 (List.all_eq_true.1 ha x hx)
      rw [hb]
      exact access_shadows.mono _ _ _ _ _ _ _ _ k b hb
    have e1 : (l.take i).all (fun x => (shP (k + 1) (l.getD i z42) x).isSome) = true := List.all_eq_true.2 fun x hx => by rw [same x hx]; exact List.all_eq_true.1 ha x hx
    have e2 : ∀ m : List S42, (∀ x ∈ m, shP (k + 1) (l.getD i z42) x = shP k (l.getD i z42) x) → m.any (fun x => (shP (k + 1) (l.getD i z42) x).getD false) = m.any (fun x => (shP k (l.getD i z42) x).getD false) := by
      intro m
      induction m with
      | nil => intro _; rfl
      | cons x xs ih =>
        intro hm
        simp only [List.any_cons]
        rw [hm x (List.mem_cons_self ..), ih fun y hy => hm y (List.mem_cons_of_mem _ hy)]
    rw [if_pos e1, e2 _ same]
    exact hr
  · cases hr
theorem shadG_mono (k : Nat) (l : List S42) : ∀ d i out, LeO (shadG k l d i out) (shadG (k + 1) l d i out)
  | 0, _, _ => LeO.refl _
  | d + 1, i, out => by
    unfold shadG
    exact LeO.bind (shadB_mono k l i) fun b => LeO.ite (LeO.ite (shadG_mono k l d _ _) (LeO.refl _)) (shadG_mono k l d _ _)
end Go.Proofs.YtgdamingkgafhaaDoor.P
