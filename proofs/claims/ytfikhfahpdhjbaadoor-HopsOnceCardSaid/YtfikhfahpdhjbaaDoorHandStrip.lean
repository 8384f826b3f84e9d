/- hops.Strip, walked by hand: slices.Clone, slices.IndexFunc, slices.DeleteFunc over properties. -/
import Derived.Test.YtfikhfahpdhjbaaDoorPx0
import Derived.Deep.RegionWith
import Derived.Lib.SliceRun
namespace Go.Proofs.YtfikhfahpdhjbaaDoor.P
open Go.RowKit Go.Proofs.YtfikhfahpdhjbaaDoorW.PrintWords Go.Proofs.YtfikhfahpdhjbaaDoorW.PrintLast Go.Proofs.YtfikhfahpdhjbaaDoorW.PrintMore
set_option linter.unusedVariables false

/-- A property that Strip keeps. -/
def keepsP (p : S50) : Bool := !(p.f0.toList == [112, 97, 116, 104])
theorem del39 (x : S50) (W : World) : Calls Tryd.prog 39 #[.agg #[.string x.f0, .string x.f1]] W fun e w' => e = .returned (.bool (!keepsP x)) ∧ w' = W.alloc (.cells #[.string x.f0, .string x.f1] 50) := by
  unfold keepsP
  rw [Bool.not_not]
  go_enter Tryd.func39, Tryd.ntmps39
  go_wp2
  go_ret
  exact ⟨rfl, rfl⟩

set_option maxRecDepth 100000 in
theorem Clone_calls (A : Option Addr) (c : Nat) (xs : List S50) (w : World) (hC : Kd.C k50 w A xs.length xs) (hc0 : xs.length ≤ c) (hs : xs.length ≤ 1000000) :
    Calls Tryd.prog 38 #[.slice A xs.length c] w fun e w' => ∃ v : Value, e = .returned v ∧ Kd.R k50 50 w' w.heap.size (fun _ => True) v xs ∧ Below w.heap.size w w' := by
  cases A with
  | none =>
    have hx : xs = [] := by
      rcases Nat.eq_zero_or_pos xs.length with h | h
      · exact List.eq_nil_of_length_eq_zero h
      · obtain ⟨ad, e, _⟩ := hC.2.2 h
        cases e
    subst hx
    have hnil : ∀ W : World, (binOp .eql 22 (.slice none 0 c) (.slice none 0 0)).run Tryd.prog W = .ok (.bool true) W := fun W => Lib.run_eql_slice_nil W 22 50 none 0 c 0 0 Tryd.underlying22
    simp only [List.length_nil]
    go_enter Tryd.func38, Tryd.ntmps38
    go_wp2
    go_ret
    exact ⟨_, rfl, Kd.R_nil _ _ _ _ _, Below.refl _ _⟩
  | some ad =>
    have HO : Aside0 (Kd.R k50 50 (w.alloc (.cells #[] 50)) w.heap.size (fun _ => True) (.slice (some ⟨w.heap.size, 0, none⟩) 0 0) []) :=
      ⟨⟨fun _ _ => trivial, [], ⟨rfl, .inr ⟨w.heap.size, 0, #[], rfl, Nat.le_refl _, blk_new w _, Nat.le_refl _, by decide, rfl, rfl⟩⟩, rfl, fun j p hj => by cases hj⟩⟩
    have HC : Aside0 (Kd.C k50 (w.alloc (.cells #[] 50)) (some ad) xs.length xs) := ⟨Kd.C_alloc hC _⟩
    have HS := Aside0.mk hs
    clear hC hs
    have hnil : ∀ W : World, (binOp .eql 22 (.slice (some ad) xs.length c) (.slice none 0 0)).run Tryd.prog W = .ok (.bool false) W := fun W => Lib.run_eql_slice_nil W 22 50 (some ad) xs.length c 0 0 Tryd.underlying22
    go_enter Tryd.func38, Tryd.ntmps38
    go_wp2_with ((with_reducible refine gate_builtin (b := .append) (xs := #[.tmp 5, .tmp 6]) rfl ?_); at_builtin; refine Kd.R_append_rows k50 (w0 := w) w.heap.size rfl (.tmp 5) (.tmp 6) 22 50 (.agg #[(.string ⟨#[]⟩), (.string ⟨#[]⟩)]) 32 rfl Tryd.underlying22 info50 rfl (by decide) (by omega) (.slice (some ⟨w.heap.size, 0, none⟩) 0 0) [] xs (some ad) xs.length c (fun _ => True) (fun _ => False) rfl rfl HO.out HC.out ?aK (fun _ hk => hk.elim) (fun _ _ => trivial) ?aB ?aS ?aL ?_; (case aK => intro x cs hx; obtain rfl := k50_open hx; exact k50_mkM _ _ _ x); (case aB => exact (Below.refl _ w).alloc (Nat.le_refl _) _); (case aS => simp only [World.size_alloc]; omega); (case aL => have := HS.out; simp only [List.length_nil]; omega); intro v4 w4 ho hb4 hg4 hat4; have HR4 := Aside0.mk ho; have HB4 := Aside0.mk hb4; clear ho hb4 hg4 hat4)
    go_ret
    exact ⟨_, rfl, HR4.out, HB4.out⟩

set_option maxRecDepth 100000 in
theorem Index_calls (A : Option Addr) (c : Nat) (xs : List S50) (w : World) (hC : Kd.C k50 w A xs.length xs) (hs : xs.length ≤ 1000000) :
    Calls Tryd.prog 56 #[.slice A xs.length c, .func (.func 39) #[] #[]] w fun e w' => (∃ i : Nat, (∀ j, j < i → keepsP (xs.getD j z50) = true) ∧ ((i < xs.length ∧ keepsP (xs.getD i z50) = false ∧ e = .returned (.int .i64 i)) ∨ (i = xs.length ∧ e = .returned (.int .i64 (-1))))) ∧ Below w.heap.size w w' := by
  have HS := Aside0.mk hs
  go_enter Tryd.func56, Tryd.ntmps56
  go_wp2
  go_loopg [8] xs.length (fun gk s8 wr => ∃ i : Nat, s8 = .int .i64 i ∧ Aside0 (i ≤ xs.length) ∧ Aside0 (xs.length - i ≤ gk) ∧ Aside0 (∀ j, j < i → keepsP (xs.getD j z50) = true) ∧ Aside0 (Below w.heap.size w wr))
  case atStart => exact ⟨0, rfl, ⟨Nat.zero_le _⟩, ⟨by omega⟩, ⟨fun j hj => absurd hj (Nat.not_lt_zero _)⟩, ⟨Below.refl _ _⟩⟩
  case round =>
    obtain ⟨i, rfl, HI, HG, HK, HB⟩ := hrel
    by_cases hi : i < xs.length
    · obtain ⟨ad, e0, y0, y1⟩ := at_T50 hC (i : Int) (Int.natCast_nonneg i) (by omega)
      replace y0 := (HB.out.cell (World.block_lt_of_cell? w _ y0)).trans y0
      replace y1 := (HB.out.cell (World.block_lt_of_cell? w _ y1)).trans y1
      have hgl : rd_T50 xs (i : Int) = xs.getD i z50 := rfl
      rw [hgl] at y0 y1
      simp only [Int.toNat_natCast] at y0 y1
      have hdel := del39 (xs.getD i z50) wr
      generalize hx : xs.getD i z50 = x at y0 y1 hdel
      have c9 : decide ((i : Int) < (xs.length : Int)) = true := decide_eq_true (by omega)
      have c10 : (0 : Int) ≤ (i : Int) := Int.natCast_nonneg i
      have c11 : (i : Int) < (xs.length : Int) := by omega
      subst e0
      cases hk : keepsP x with
      | true =>
        rw [hk] at hdel
        go_wp2_with (go_at_call 39; refine hdel.mono ?_; rintro e w' ⟨rfl, rfl⟩)
        go_roundg (xs.length - (i + 1))
        case measure => have := HG.out; omega
        case rel =>
          have hii := HI.out
          refine ⟨i + 1, by first | rfl | (rw [show wrap64 ((i : Int) + 1) = ((i + 1 : Nat) : Int) from by unfold wrap64; omega]), ⟨by omega⟩, ⟨Nat.le_refl _⟩, ⟨fun j hj => ?_⟩, ⟨HB.out.alloc HB.out.size _⟩⟩
          rcases Nat.lt_succ_iff_lt_or_eq.1 hj with h | h
          · exact HK.out j h
          · rw [h, hx]; exact hk
      | false =>
        rw [hk] at hdel
        go_wp2_with (go_at_call 39; refine hdel.mono ?_; rintro e w' ⟨rfl, rfl⟩)
        go_ret
        exact ⟨⟨i, HK.out, .inl ⟨hi, by rw [hx]; exact hk, rfl⟩⟩, HB.out.alloc HB.out.size _⟩
    · have hii : i = xs.length := by have := HI.out; omega
      subst hii
      have c9 : decide (((xs.length : Nat) : Int) < (xs.length : Int)) = false := decide_eq_false (by omega)
      go_wp2
      go_ret
      exact ⟨⟨_, HK.out, .inr ⟨rfl, rfl⟩⟩, HB.out⟩

theorem Index_none (A : Option Addr) (c : Nat) (xs : List S50) (w : World) (hC : Kd.C k50 w A xs.length xs) (hs : xs.length ≤ 1000000) (hall : ∀ j, j < xs.length → keepsP (xs.getD j z50) = true) :
    Calls Tryd.prog 56 #[.slice A xs.length c, .func (.func 39) #[] #[]] w fun e w' => e = .returned (.int .i64 (-1)) ∧ Below w.heap.size w w' := by
  refine (Index_calls A c xs w hC hs).mono ?_
  rintro e w' ⟨⟨i, hk, ⟨hlt, hf, he⟩ | ⟨_, he⟩⟩, hb⟩
  · have := hall i hlt
    rw [hf] at this
    cases this
  · exact ⟨he, hb⟩
theorem Index_some (A : Option Addr) (c : Nat) (xs : List S50) (w : World) (hC : Kd.C k50 w A xs.length xs) (hs : xs.length ≤ 1000000) (hall : ¬ ∀ j, j < xs.length → keepsP (xs.getD j z50) = true) :
    Calls Tryd.prog 56 #[.slice A xs.length c, .func (.func 39) #[] #[]] w fun e w' => ∃ i : Nat, e = .returned (.int .i64 i) ∧ i < xs.length ∧ keepsP (xs.getD i z50) = false ∧ (∀ j, j < i → keepsP (xs.getD j z50) = true) ∧ Below w.heap.size w w' := by
  refine (Index_calls A c xs w hC hs).mono ?_
  rintro e w' ⟨⟨i, hk, ⟨hlt, hf, he⟩ | ⟨hi, he⟩⟩, hb⟩
  · exact ⟨i, he, hlt, hf, hk, hb⟩
  · exact absurd (fun j hj => hk j (by omega)) hall

/-- clear(s) of properties. -/
theorem run_clearP (w : World) (ty : TypeId) (b o n c : Nat) (hn : 0 < n) (hc : ∀ j, j < n * 2 → (w.cell? ⟨b, o + j, none⟩).isSome = true) (hf : ∀ j, j < n * 2 → w.frozen? ⟨b, o + j, none⟩ = false) :
    (Builtin.clear_ #[22] ty #[.slice (some ⟨b, o, none⟩) n c]).run Tryd.prog w = .ok (.tuple #[]) (w.setCells b o (List.replicate (n * 2) (.string ⟨#[]⟩))) := by
  have hzc : (Builtin.zeroCells (Value.agg #[.string ⟨#[]⟩, .string ⟨#[]⟩]).cells n).toList = List.replicate (n * 2) (.string ⟨#[]⟩) := by
    apply List.ext_getElem
    · simp [Builtin.zeroCells, Value.cells]
    · intro i h1 h2
      simp [Builtin.zeroCells, Value.cells]
      rcases Nat.mod_two_eq_zero_or_one i with h | h <;> rw [h] <;> rfl
  have hst := run_storeCells_cells (P := Tryd.prog) b o (List.replicate (n * 2) (.string ⟨#[]⟩)) 0 w (by simpa using hc) (by simpa using hf) (by intro v hv'; rw [List.eq_of_mem_replicate hv']; rfl)
  simp only [Nat.add_zero] at hst
  obtain ⟨m, rfl⟩ : ∃ m, n = m + 1 := ⟨n - 1, by omega⟩
  simp [Builtin.clear_, run_underlying Tryd.underlying22, Tryd.zeroValue50, hzc, hst]
theorem filter_all (xs : List S50) (hall : ∀ j, j < xs.length → keepsP (xs.getD j z50) = true) : xs.filter keepsP = xs := by
  refine List.filter_eq_self.2 fun x hx => ?_
  obtain ⟨j, hj, rfl⟩ := List.getElem_of_mem hx
  have := hall j hj
  rwa [List.getD_eq_getElem?_getD, List.getElem?_eq_getElem hj] at this
theorem take_all (xs : List S50) (i : Nat) (hi : i ≤ xs.length) (hall : ∀ j, j < i → keepsP (xs.getD j z50) = true) : (xs.take i).filter keepsP = xs.take i := by
  refine filter_all _ fun j hj => ?_
  rw [List.length_take] at hj
  have := hall j (by omega)
  rwa [List.getD_eq_getElem?_getD, List.getElem?_take, if_pos (by omega), ← List.getD_eq_getElem?_getD]
theorem take_next (xs : List S50) (j : Nat) (hj : j < xs.length) : (xs.take (j + 1)).filter keepsP = (xs.take j).filter keepsP ++ (if keepsP (xs.getD j z50) = true then [xs.getD j z50] else []) := by
  rw [List.take_add_one, List.filter_append, List.getElem?_eq_getElem hj, List.getD_eq_getElem?_getD, List.getElem?_eq_getElem hj]
  rw [show (some xs[j]).toList = [xs[j]] from rfl, show (some xs[j]).getD z50 = xs[j] from rfl, List.filter_cons, List.filter_nil]

section
variable {W : World} {base g n cap : Nat} {ok : Nat → Prop} {ys : List S50}
theorem elem_at (h : Kd.R k50 50 W base ok (.slice (some ⟨g, 0, none⟩) n cap) ys) (j : Nat) (hj : j < n) : W.cell? ⟨g, j * 2, none⟩ = some (.string (ys.getD j z50).f0) ∧ W.cell? ⟨g, j * 2 + 1, none⟩ = some (.string (ys.getD j z50).f1) ∧ W.frozen? ⟨g, j * 2, none⟩ = false ∧ W.frozen? ⟨g, j * 2 + 1, none⟩ = false := by
  obtain ⟨c, hl, hM, hc, hf⟩ := Kd.R_elem h z50 (j : Int) (Int.natCast_nonneg j) (by omega)
  obtain rfl := k50_openM hM
  exact ⟨hc 0 _ rfl, hc 1 _ rfl, hf 0, hf 1⟩
theorem elem_put (h : Kd.R k50 50 W base ok (.slice (some ⟨g, 0, none⟩) n cap) ys) (j : Nat) (hj : j < n) (x : S50) :
    Kd.R k50 50 ((W.setCell ⟨g, j * 2, none⟩ (.string x.f0)).setCell ⟨g, j * 2 + 1, none⟩ (.string x.f1)) base ok (.slice (some ⟨g, 0, none⟩) n cap) (ys.set j x) ∧ W.grownBy ((W.setCell ⟨g, j * 2, none⟩ (.string x.f0)).setCell ⟨g, j * 2 + 1, none⟩ (.string x.f1)) (some g) := by
  obtain ⟨c, hl, hM, hc, hf⟩ := Kd.R_elem h z50 (j : Int) (Int.natCast_nonneg j) (by omega)
  obtain rfl := k50_openM hM
  exact Kd.R_seg h (j : Int) (Int.natCast_nonneg j) (by omega) (seg := [.string x.f0, .string x.f1]) (j := 0) (okp := fun _ => False) rfl hc (Nat.le_refl _) (x' := x) (k50_mkM _ _ _ x) (fun _ hk => hk.elim)
theorem elem_clear : ∀ (m : Nat) (W : World) (i : Nat) (ys : List S50), Kd.R k50 50 W base ok (.slice (some ⟨g, 0, none⟩) n cap) ys → i + m = n →
    ∃ ys', Kd.R k50 50 (W.setCells g (i * 2) (List.replicate (m * 2) (.string ⟨#[]⟩))) base ok (.slice (some ⟨g, 0, none⟩) n cap) ys' ∧ W.grownBy (W.setCells g (i * 2) (List.replicate (m * 2) (.string ⟨#[]⟩))) (some g) ∧ ys'.take i = ys.take i
  | 0, W, i, ys, h, _ => by
    rw [show List.replicate (0 * 2) (Value.string ⟨#[]⟩) = [] from rfl]
    exact ⟨ys, h, World.grownBy.refl W _, rfl⟩
  | m + 1, W, i, ys, h, e => by
    obtain ⟨h1, g1⟩ := elem_put h i (by omega) z50
    obtain ⟨ys', h2, g2, e2⟩ := elem_clear m _ (i + 1) _ h1 (by omega)
    have ew : W.setCells g (i * 2) (List.replicate ((m + 1) * 2) (.string ⟨#[]⟩)) = ((W.setCell ⟨g, i * 2, none⟩ (.string z50.f0)).setCell ⟨g, i * 2 + 1, none⟩ (.string z50.f1)).setCells g ((i + 1) * 2) (List.replicate (m * 2) (.string ⟨#[]⟩)) := by
      rw [show (m + 1) * 2 = m * 2 + 1 + 1 from by omega, show (i + 1) * 2 = i * 2 + 1 + 1 from by omega, List.replicate_succ, List.replicate_succ]
      rfl
    rw [ew]
    refine ⟨ys', h2, World.grownBy.trans g1 g2, ?_⟩
    have := congrArg (List.take i) e2
    rw [List.take_take, List.take_take, Nat.min_eq_left (by omega)] at this
    rw [this, List.take_set]
    exact List.set_eq_of_length_le (by rw [List.length_take]; omega)
end

set_option maxHeartbeats 1000000 in
set_option maxRecDepth 100000 in
theorem Delete_calls (v : Value) (xs : List S50) (w0 w : World) (hR : Kd.R k50 50 w w0.heap.size (fun _ => True) v xs) (hB : Below w0.heap.size w0 w) (hs : xs.length ≤ 1000000) :
    Calls Tryd.prog 37 #[v, .func (.func 39) #[] #[]] w fun e w' => ∃ v' : Value, e = .returned v' ∧ Kd.R k50 50 w' w0.heap.size (fun _ => True) v' (xs.filter keepsP) ∧ Below w0.heap.size w0 w' := by
  obtain ⟨A, c, rfl, hcap, hC⟩ := Kd.R_reads hR
  by_cases hall : ∀ j, j < xs.length → keepsP (xs.getD j z50) = true
  · have hidx := Index_none A c xs w hC hs hall
    rw [filter_all xs hall]
    go_enter Tryd.func37, Tryd.ntmps37
    go_wp2_with (go_at_call 56; refine hidx.mono ?_; rintro e w1 ⟨rfl, hb1⟩)
    go_ret
    exact ⟨_, rfl, Kd.R_below hR hb1, below_then hB (below_size hB) hb1⟩
  · have hidx := Index_some A c xs w hC hs hall
    have hpos : 0 < xs.length := Nat.pos_of_ne_zero fun e => hall (fun j hj => by omega)
    obtain ⟨g, cap, ev, hbg, hgl, cells0, hcells0⟩ := Kd.R_form hR hpos
    injection ev with eA _ ec
    subst eA; subst ec
    have HR0 := Aside0.mk hR
    have HB0 := Aside0.mk hB
    clear hR hB hC hall hcells0
    go_enter Tryd.func37, Tryd.ntmps37
    go_wp2_with (go_at_call 56; refine hidx.mono ?_; rintro e w1 ⟨i0, rfl, hi0, hki, hkj, hb1⟩; have HB1 := Aside0.mk hb1; clear hb1)
    have H0 : Aside0 ((xs.take (i0 + 1)).filter keepsP = xs.take i0) := ⟨by rw [take_next xs i0 hi0, hki, take_all xs i0 (by omega) hkj, if_neg (by decide), List.append_nil]⟩
    have HS := Aside0.mk hs
    have HR1 := Aside0.mk (Kd.R_below HR0.out HB1.out)
    have HW1 := Aside0.mk (below_then HB0.out (below_size HB0.out) HB1.out)
    clear HR0 HB0 HB1 hki hkj hidx hs
    go_loopg [5, 6] xs.length (fun gk s5 s6 wr => ∃ (i j : Nat) (ys : List S50), s5 = .int .i64 i ∧ s6 = .int .i64 j ∧ Aside0 (i < j ∧ j ≤ xs.length) ∧ Aside0 (xs.length - j ≤ gk) ∧ Aside0 (ys.length = xs.length) ∧ Aside0 (ys.take i = (xs.take j).filter keepsP) ∧ Aside0 (ys.drop j = xs.drop j) ∧ Aside0 (Kd.R k50 50 wr w0.heap.size (fun _ => True) (.slice (some ⟨g, 0, none⟩) xs.length c) ys) ∧ Aside0 (Below w0.heap.size w0 wr))
    case atStart => exact ⟨i0, i0 + 1, xs, rfl, by first | rfl | (rw [show wrap64 ((i0 : Int) + 1) = ((i0 + 1 : Nat) : Int) from by have := HS.out; unfold wrap64; omega]), ⟨by omega, by omega⟩, ⟨by omega⟩, ⟨rfl⟩, ⟨H0.out.symm⟩, ⟨rfl⟩, HR1, HW1⟩
    case round =>
      obtain ⟨i, j, ys, rfl, rfl, HI, HG, HL, HT, HD, HR, HB⟩ := hrel
      by_cases hj : j < xs.length
      · obtain ⟨y0, y1, _, _⟩ := elem_at HR.out j hj
        have hgl : ys.getD j z50 = xs.getD j z50 := by
          have := congrArg (fun l => l.getD 0 z50) HD.out
          simpa [List.getD_eq_getElem?_getD, List.getElem?_drop] using this
        rw [hgl] at y0 y1
        have hnx := take_next xs j hj
        generalize hx : xs.getD j z50 = x at y0 y1 hnx
        have c9 : decide ((j : Int) < (xs.length : Int)) = true := decide_eq_true (by omega)
        have c10 : (0 : Int) ≤ (j : Int) := Int.natCast_nonneg j
        have c11 : (j : Int) < (xs.length : Int) := by omega
        have hdel : ∀ o, Calls Tryd.prog 39 #[.agg #[.string x.f0, .string x.f1]] (wr.alloc o) fun e w' => e = .returned (.bool (!keepsP x)) ∧ w' = (wr.alloc o).alloc (.cells #[.string x.f0, .string x.f1] 50) := fun o => del39 x _
        cases hk : keepsP x with
        | false =>
          rw [hk] at hdel hnx
          rw [if_neg (by decide), List.append_nil] at hnx
          go_wp2_with (go_at_call 39; refine (hdel _).mono ?_; rintro e w' ⟨rfl, rfl⟩)
          go_roundg (xs.length - (j + 1))
          case measure => have := HG.out; omega
          case rel =>
            have hii := HI.out
            have hss := HS.out
            refine ⟨i, j + 1, ys, rfl, by first | rfl | (rw [show wrap64 ((j : Int) + 1) = ((j + 1 : Nat) : Int) from by unfold wrap64; omega]), ⟨by omega, by omega⟩, ⟨Nat.le_refl _⟩, HL, ⟨by rw [hnx]; exact HT.out⟩, ⟨?_⟩, ⟨Kd.R_alloc (Kd.R_alloc HR.out _) _⟩, ⟨(HB.out.alloc HB.out.size _).alloc (by have := HB.out.size; simp only [World.size_alloc]; omega) _⟩⟩
            have := congrArg (List.drop 1) HD.out
            simpa [List.drop_drop] using this
        | true =>
          rw [hk] at hdel hnx
          rw [if_pos rfl] at hnx
          have hilt : i < xs.length := by have := HI.out; omega
          have z0 : ∀ o o', ((wr.alloc o).alloc o').cell? ⟨g, i * 2, none⟩ = some (.string (ys.getD i z50).f0) := fun o o' => (elem_at (Kd.R_alloc (Kd.R_alloc HR.out o) o') i hilt).1
          have z1 : ∀ o o', ((wr.alloc o).alloc o').cell? ⟨g, i * 2 + 1, none⟩ = some (.string (ys.getD i z50).f1) := fun o o' => (elem_at (Kd.R_alloc (Kd.R_alloc HR.out o) o') i hilt).2.1
          have z2 : ∀ o o', ((wr.alloc o).alloc o').frozen? ⟨g, i * 2, none⟩ = false := fun o o' => (elem_at (Kd.R_alloc (Kd.R_alloc HR.out o) o') i hilt).2.2.1
          have z3 : ∀ o o', ((wr.alloc o).alloc o').frozen? ⟨g, i * 2 + 1, none⟩ = false := fun o o' => (elem_at (Kd.R_alloc (Kd.R_alloc HR.out o) o') i hilt).2.2.2
          have c12 : (0 : Int) ≤ (i : Int) := Int.natCast_nonneg i
          have c13 : (i : Int) < (xs.length : Int) := by omega
          go_wp2_with (go_at_call 39; refine (hdel _).mono ?_; rintro e w' ⟨rfl, rfl⟩)
          go_roundg (xs.length - (j + 1))
          case measure => have := HG.out; omega
          case rel =>
            have hii := HI.out
            have hss := HS.out
            have hll := HL.out
            refine ⟨i + 1, j + 1, ys.set i x, by first | rfl | (rw [show wrap64 ((i : Int) + 1) = ((i + 1 : Nat) : Int) from by unfold wrap64; omega]), by first | rfl | (rw [show wrap64 ((j : Int) + 1) = ((j + 1 : Nat) : Int) from by unfold wrap64; omega]), ⟨by omega, by omega⟩, ⟨Nat.le_refl _⟩, ⟨by rw [List.length_set]; exact hll⟩, ⟨?_⟩, ⟨?_⟩, ⟨(elem_put (Kd.R_alloc (Kd.R_alloc HR.out _) _) i hilt x).1⟩, ⟨(((HB.out.alloc HB.out.size _).alloc (by have := HB.out.size; simp only [World.size_alloc]; omega) _).setCell (p := ⟨g, i * 2, none⟩) hbg _).setCell (p := ⟨g, i * 2 + 1, none⟩) hbg _⟩⟩
            · rw [hnx, ← HT.out, List.take_add_one, List.take_set_of_le (Nat.le_refl _), List.getElem?_set_self (by omega)]
              rfl
            · rw [List.drop_set_of_lt (by omega)]
              have := congrArg (List.drop 1) HD.out
              simpa [List.drop_drop] using this
      · have hjj : j = xs.length := by have := HI.out; omega
        subst hjj
        have c9 : decide (((xs.length : Nat) : Int) < (xs.length : Int)) = false := decide_eq_false (by omega)
        have hilt : i < xs.length := HI.out.1
        have c12 : (0 : Int) ≤ (i : Int) := Int.natCast_nonneg i
        have c13 : (i : Int) ≤ (xs.length : Int) := by omega
        have c14 : ¬ c = i := by omega
        have c15 : (i : Int) ≤ (c : Int) := by omega
        have hel := fun (k : Nat) (hk : k < xs.length) => elem_at HR.out k hk
        have cells : ∀ q, q < (xs.length - i) * 2 → (wr.cell? ⟨g, i * 2 + q, none⟩).isSome = true ∧ wr.frozen? ⟨g, i * 2 + q, none⟩ = false := by
          intro q hq
          obtain ⟨y0, y1, y2, y3⟩ := hel (i + q / 2) (by omega)
          rcases Nat.mod_two_eq_zero_or_one q with h | h
          · rw [show i * 2 + q = (i + q / 2) * 2 from by omega, y0, y2]
            exact ⟨rfl, rfl⟩
          · rw [show i * 2 + q = (i + q / 2) * 2 + 1 from by omega, y1, y3]
            exact ⟨rfl, rfl⟩
        have hclr := run_clearP wr 0 g (i * 2) (xs.length - i) (c - i) (by omega) (fun q hq => (cells q hq).1) (fun q hq => (cells q hq).2)
        obtain ⟨ys', hR', hg', ht'⟩ := elem_clear (xs.length - i) wr i ys HR.out (by omega)
        have htk := HT.out
        rw [List.take_length] at htk
        have hil : i ≤ ys'.length := by
          have := (Kd.R_reads' hR').1
          omega
        have hfl : (xs.filter keepsP).length = i := by rw [← htk, List.length_take, HL.out]; omega
        have hRt := Kd.R_take hR' hil
        rw [ht', htk] at hRt
        have HRt := Aside0.mk hRt
        have HBt := Aside0.mk (HB.out.grown hg' HB.out.size (fun k e => by cases e; exact hbg))
        clear hRt hR' hg' cells hel
        go_wp2
        go_ret
        exact ⟨_, rfl, HRt.out, HBt.out⟩

/-- A record of nine cells is written. -/
theorem fill9 {w : World} {g t : Nat} {z0 z1 z2 z3 z4 z5 z6 z7 z8 : Value} (h : w.heap[g]? = some (.cells #[z0, z1, z2, z3, z4, z5, z6, z7, z8] t (0, 0))) (u0 u1 u2 u3 u4 u5 u6 u7 u8 : Value) :
    (((((((((w.setCell ⟨g, 0, none⟩ u0).setCell ⟨g, 1, none⟩ u1).setCell ⟨g, 2, none⟩ u2).setCell ⟨g, 3, none⟩ u3).setCell ⟨g, 4, none⟩ u4).setCell ⟨g, 5, none⟩ u5).setCell ⟨g, 6, none⟩ u6).setCell ⟨g, 7, none⟩ u7).setCell ⟨g, 8, none⟩ u8).heap[g]? = some (.cells #[u0, u1, u2, u3, u4, u5, u6, u7, u8] t (0, 0)) ∧ (∀ k, k ≠ g → (((((((((w.setCell ⟨g, 0, none⟩ u0).setCell ⟨g, 1, none⟩ u1).setCell ⟨g, 2, none⟩ u2).setCell ⟨g, 3, none⟩ u3).setCell ⟨g, 4, none⟩ u4).setCell ⟨g, 5, none⟩ u5).setCell ⟨g, 6, none⟩ u6).setCell ⟨g, 7, none⟩ u7).setCell ⟨g, 8, none⟩ u8).heap[k]? = w.heap[k]?) ∧ ∀ (n0 : Nat) (w0 : World), n0 ≤ g → Below n0 w0 w → Below n0 w0 (((((((((w.setCell ⟨g, 0, none⟩ u0).setCell ⟨g, 1, none⟩ u1).setCell ⟨g, 2, none⟩ u2).setCell ⟨g, 3, none⟩ u3).setCell ⟨g, 4, none⟩ u4).setCell ⟨g, 5, none⟩ u5).setCell ⟨g, 6, none⟩ u6).setCell ⟨g, 7, none⟩ u7).setCell ⟨g, 8, none⟩ u8) := by
  refine ⟨(blk_put (cs' := #[u0, u1, u2, u3, u4, u5, u6, u7, u8]) (blk_put (cs' := #[u0, u1, u2, u3, u4, u5, u6, u7, z8]) (blk_put (cs' := #[u0, u1, u2, u3, u4, u5, u6, z7, z8]) (blk_put (cs' := #[u0, u1, u2, u3, u4, u5, z6, z7, z8]) (blk_put (cs' := #[u0, u1, u2, u3, u4, z5, z6, z7, z8]) (blk_put (cs' := #[u0, u1, u2, u3, z4, z5, z6, z7, z8]) (blk_put (cs' := #[u0, u1, u2, z3, z4, z5, z6, z7, z8]) (blk_put (cs' := #[u0, u1, z2, z3, z4, z5, z6, z7, z8]) (blk_put (cs' := #[u0, z1, z2, z3, z4, z5, z6, z7, z8]) h 0 _ rfl) 1 _ rfl) 2 _ rfl) 3 _ rfl) 4 _ rfl) 5 _ rfl) 6 _ rfl) 7 _ rfl) 8 _ rfl), fun k hk => ?_, fun n0 w0 hg hb => ?_⟩
  · iterate 8 refine (Below.heap_setCell _ _ _ k hk).trans ?_
    exact Below.heap_setCell _ _ _ k hk
  · exact (((((((((hb.setCell (p := ⟨g, 0, none⟩) hg u0).setCell (p := ⟨g, 1, none⟩) hg u1).setCell (p := ⟨g, 2, none⟩) hg u2).setCell (p := ⟨g, 3, none⟩) hg u3).setCell (p := ⟨g, 4, none⟩) hg u4).setCell (p := ⟨g, 5, none⟩) hg u5).setCell (p := ⟨g, 6, none⟩) hg u6).setCell (p := ⟨g, 7, none⟩) hg u7).setCell (p := ⟨g, 8, none⟩) hg u8)

set_option maxHeartbeats 2000000 in
set_option maxRecDepth 100000 in
theorem Strip_calls (a0_0 : ByteArray) (a0_1 : ByteArray) (a0_2 : Int) (a0_3 : Bool) (a0_4 : Int) (a0_5 : Int) (a0_6 : ByteArray) (a0_7 : Int) (A0_8 : Option Addr) (c0_8 : Nat) (l0_8 : List S50) (w : World) (hr0_8 : Kd.C k50 w A0_8 l0_8.length l0_8) (hc0_8 : l0_8.length ≤ c0_8) (hs : l0_8.length ≤ 1000000) :
    Calls Tryd.prog 20 #[.agg #[.string a0_0, .string a0_1, .int .i64 a0_2, .bool a0_3, .int .i64 a0_4, .int .i64 a0_5, .string a0_6, .int .i64 a0_7, .slice A0_8 l0_8.length c0_8]] w fun e w' => ∃ v8_ : Value, e = .returned (.agg #[.string a0_0, .string a0_1, .int .i64 a0_2, .bool a0_3, .int .i64 a0_4, .int .i64 a0_5, .string a0_6, .int .i64 a0_7, v8_]) ∧ Kd.R k50 50 w' w.heap.size (fun _ => True) v8_ (l0_8.filter keepsP) ∧ Below w.heap.size w w' := by
  obtain ⟨W2, hW2⟩ : ∃ W2, W2 = (w.alloc (.cells #[.string a0_0, .string a0_1, .int .i64 a0_2, .bool a0_3, .int .i64 a0_4, .int .i64 a0_5, .string a0_6, .int .i64 a0_7, .slice A0_8 l0_8.length c0_8] 24)).alloc (.cells #[.string ⟨#[]⟩, .string ⟨#[]⟩, .int .i64 0, .bool false, .int .i64 0, .int .i64 0, .string ⟨#[]⟩, .int .i64 0, .slice none 0 0] 24) := ⟨_, rfl⟩
  have s2 : W2.heap.size = w.heap.size + 2 := by rw [hW2]; simp only [World.size_alloc]
  have hC2 : Kd.C k50 W2 A0_8 l0_8.length l0_8 := hW2 ▸ Kd.C_alloc (Kd.C_alloc hr0_8 _) _
  have h1 : W2.heap[w.heap.size]? = some (.cells #[.string a0_0, .string a0_1, .int .i64 a0_2, .bool a0_3, .int .i64 a0_4, .int .i64 a0_5, .string a0_6, .int .i64 a0_7, .slice A0_8 l0_8.length c0_8] 24 (0, 0)) := by rw [hW2]; exact (Below.heap_alloc _ _ _ (by simp)).trans (blk_new w _)
  have h2 : W2.heap[w.heap.size + 1]? = some (.cells #[.string ⟨#[]⟩, .string ⟨#[]⟩, .int .i64 0, .bool false, .int .i64 0, .int .i64 0, .string ⟨#[]⟩, .int .i64 0, .slice none 0 0] 24 (0, 0)) := by
    rw [hW2]
    have := blk_new (w.alloc (.cells #[.string a0_0, .string a0_1, .int .i64 a0_2, .bool a0_3, .int .i64 a0_4, .int .i64 a0_5, .string a0_6, .int .i64 a0_7, .slice A0_8 l0_8.length c0_8] 24)) (.cells #[.string ⟨#[]⟩, .string ⟨#[]⟩, .int .i64 0, .bool false, .int .i64 0, .int .i64 0, .string ⟨#[]⟩, .int .i64 0, .slice none 0 0] 24)
    rwa [World.size_alloc] at this
  have hBW : Below w.heap.size w W2 := hW2 ▸ ((Below.refl _ w).alloc (Nat.le_refl _) _).alloc (by simp only [World.size_alloc]; omega) _
  have HF : ∀ W4, Below W2.heap.size W2 W4 → (W4.cell? ⟨w.heap.size, 0, none⟩ = some (.string a0_0) ∧ W4.frozen? ⟨w.heap.size, 0, none⟩ = false ∧ W4.cell? ⟨w.heap.size, 1, none⟩ = some (.string a0_1) ∧ W4.frozen? ⟨w.heap.size, 1, none⟩ = false ∧ W4.cell? ⟨w.heap.size, 2, none⟩ = some (.int .i64 a0_2) ∧ W4.frozen? ⟨w.heap.size, 2, none⟩ = false ∧ W4.cell? ⟨w.heap.size, 3, none⟩ = some (.bool a0_3) ∧ W4.frozen? ⟨w.heap.size, 3, none⟩ = false ∧ W4.cell? ⟨w.heap.size, 4, none⟩ = some (.int .i64 a0_4) ∧ W4.frozen? ⟨w.heap.size, 4, none⟩ = false ∧ W4.cell? ⟨w.heap.size, 5, none⟩ = some (.int .i64 a0_5) ∧ W4.frozen? ⟨w.heap.size, 5, none⟩ = false ∧ W4.cell? ⟨w.heap.size, 6, none⟩ = some (.string a0_6) ∧ W4.frozen? ⟨w.heap.size, 6, none⟩ = false ∧ W4.cell? ⟨w.heap.size, 7, none⟩ = some (.int .i64 a0_7) ∧ W4.frozen? ⟨w.heap.size, 7, none⟩ = false ∧ W4.cell? ⟨w.heap.size, 8, none⟩ = some (.slice A0_8 l0_8.length c0_8) ∧ W4.frozen? ⟨w.heap.size, 8, none⟩ = false ∧ W4.cell? ⟨w.heap.size + 1, 0, none⟩ = some (.string ⟨#[]⟩) ∧ W4.frozen? ⟨w.heap.size + 1, 0, none⟩ = false ∧ W4.cell? ⟨w.heap.size + 1, 1, none⟩ = some (.string ⟨#[]⟩) ∧ W4.frozen? ⟨w.heap.size + 1, 1, none⟩ = false ∧ W4.cell? ⟨w.heap.size + 1, 2, none⟩ = some (.int .i64 0) ∧ W4.frozen? ⟨w.heap.size + 1, 2, none⟩ = false ∧ W4.cell? ⟨w.heap.size + 1, 3, none⟩ = some (.bool false) ∧ W4.frozen? ⟨w.heap.size + 1, 3, none⟩ = false ∧ W4.cell? ⟨w.heap.size + 1, 4, none⟩ = some (.int .i64 0) ∧ W4.frozen? ⟨w.heap.size + 1, 4, none⟩ = false ∧ W4.cell? ⟨w.heap.size + 1, 5, none⟩ = some (.int .i64 0) ∧ W4.frozen? ⟨w.heap.size + 1, 5, none⟩ = false ∧ W4.cell? ⟨w.heap.size + 1, 6, none⟩ = some (.string ⟨#[]⟩) ∧ W4.frozen? ⟨w.heap.size + 1, 6, none⟩ = false ∧ W4.cell? ⟨w.heap.size + 1, 7, none⟩ = some (.int .i64 0) ∧ W4.frozen? ⟨w.heap.size + 1, 7, none⟩ = false ∧ W4.cell? ⟨w.heap.size + 1, 8, none⟩ = some (.slice none 0 0) ∧ W4.frozen? ⟨w.heap.size + 1, 8, none⟩ = false) := by
    intro W4 hb
    replace h1 := (hb.block _ (by omega)).trans h1
    replace h2 := (hb.block _ (by omega)).trans h2
    exact ⟨(blk_cell h1 0).trans rfl, blk_frozen h1 0, (blk_cell h1 1).trans rfl, blk_frozen h1 1, (blk_cell h1 2).trans rfl, blk_frozen h1 2, (blk_cell h1 3).trans rfl, blk_frozen h1 3, (blk_cell h1 4).trans rfl, blk_frozen h1 4, (blk_cell h1 5).trans rfl, blk_frozen h1 5, (blk_cell h1 6).trans rfl, blk_frozen h1 6, (blk_cell h1 7).trans rfl, blk_frozen h1 7, (blk_cell h1 8).trans rfl, blk_frozen h1 8, (blk_cell h2 0).trans rfl, blk_frozen h2 0, (blk_cell h2 1).trans rfl, blk_frozen h2 1, (blk_cell h2 2).trans rfl, blk_frozen h2 2, (blk_cell h2 3).trans rfl, blk_frozen h2 3, (blk_cell h2 4).trans rfl, blk_frozen h2 4, (blk_cell h2 5).trans rfl, blk_frozen h2 5, (blk_cell h2 6).trans rfl, blk_frozen h2 6, (blk_cell h2 7).trans rfl, blk_frozen h2 7, (blk_cell h2 8).trans rfl, blk_frozen h2 8⟩
  have c38 := Clone_calls A0_8 c0_8 l0_8 W2 hC2 hc0_8 hs
  have c37 := fun v w3 (hR : Kd.R k50 50 w3 W2.heap.size (fun _ => True) v l0_8) (hB : Below W2.heap.size W2 w3) => Delete_calls v l0_8 W2 w3 hR hB hs
  have HBW := Aside0.mk hBW
  have HH2 := Aside0.mk h2
  clear hC2 h1 h2 hBW
  subst hW2
  go_enter Tryd.func20, Tryd.ntmps20
  go_wp2_with (first | (go_at_call 38; refine c38.mono ?_; rintro e w3 ⟨v, rfl, hR3, hB3⟩; replace c37 := c37 v w3 hR3 hB3; clear hR3 hB3) | (go_at_call 37; refine c37.mono ?_; rintro e w4 ⟨v', rfl, hR4, hB4⟩; obtain ⟨Av, cv, rfl⟩ := Kd.R_slice hR4; have HR4 := Aside0.mk hR4; have HB4 := Aside0.mk hB4; obtain ⟨f0_, f1_, f2_, f3_, f4_, f5_, f6_, f7_, f8_, f9_, f10_, f11_, f12_, f13_, f14_, f15_, f16_, f17_, f18_, f19_, f20_, f21_, f22_, f23_, f24_, f25_, f26_, f27_, f28_, f29_, f30_, f31_, f32_, f33_, f34_, f35_⟩ := HF w4 hB4; clear hR4 hB4))
  have hz := blk_far ((HB4.out.block _ (by omega)).trans HH2.out) (p := ⟨w.heap.size, 8, none⟩) (by show w.heap.size + 1 ≠ w.heap.size; omega) (.slice Av (l0_8.filter keepsP).length cv)
  obtain ⟨q1, q2, q3⟩ := fill9 hz (.string a0_0) (.string a0_1) (.int .i64 a0_2) (.bool a0_3) (.int .i64 a0_4) (.int .i64 a0_5) (.string a0_6) (.int .i64 a0_7) (.slice Av (l0_8.filter keepsP).length cv)
  refine bodyPost_ret (results_cell_row rfl _ _ (w.heap.size + 1) 24 #[.string a0_0, .string a0_1, .int .i64 a0_2, .bool a0_3, .int .i64 a0_4, .int .i64 a0_5, .string a0_6, .int .i64 a0_7, .slice Av (l0_8.filter keepsP).length cv] (0, 0) _ rfl q1 Tryd.underlying24 rfl (by kernel_rfl)) rfl ?_
  have hb1 := q3 w.heap.size w (Nat.le_succ _) ((below_then HBW.out (below_size HBW.out) HB4.out).setCell (p := ⟨w.heap.size, 8, none⟩) (Nat.le_refl _) _)
  refine ⟨_, rfl, Kd.R_lower (Kd.R_mono (Kd.R_step (Kd.R_bound HR4.out) (fun k hk _ => ?_)) (fun _ _ => trivial)) (by omega), hb1⟩
  have hk1 := hk.2.1
  exact (q2 k (by omega)).trans (Below.heap_setCell _ _ _ k (by show k ≠ w.heap.size; omega))
/-- The properties of a message. -/
theorem field24_8 (a b c d e f g h i : Value) (W : World) : (Instr.field 24 (Value.agg #[a, b, c, d, e, f, g, h, i]) 8).run Tryd.prog W = .ok i W := by
  simp [Instr.field, run_underlying Tryd.underlying24, asAgg, part, Tryd.isAgg22, Result.andThen, Sem.run_bind, Sem.run_pure]
end Go.Proofs.YtfikhfahpdhjbaaDoor.P
