/- hops.Flood, walked. -/
import Derived.Test.YtfikhfahpdhjbaaDoorFlRound
namespace Go.Proofs.YtfikhfahpdhjbaaDoor.Fl
open Go.RowKit Go.Shelf Go.Proofs.YtfikhfahpdhjbaaDoorW.PrintWords Go.Proofs.YtfikhfahpdhjbaaDoorW.PrintMore Go.Proofs.YtfikhfahpdhjbaaDoor.Rk
attribute [local go_sem] Oper.semAt_some max2_int min2_int
set_option linter.unusedVariables false

theorem down64 (n : Nat) (h : n ≤ 1000000) : wrap64 ((n : Int) - 1) = (n : Int) - 1 := by
  unfold wrap64
  omega

set_option maxHeartbeats 4000000 in
set_option maxRecDepth 100000 in
theorem Flood_calls (k : Nat) (links : List (Int × Int)) (A0 : Option Addr) (c0 : Nat) (nodes start : Int) (rs : List Int) (m : Int) (w0 : World) (hC : Kd.C kA w0 A0 links.length links) (h : floodF k links nodes start = some (rs, m)) :
    Calls Tryd.prog 22 #[.slice A0 links.length c0, .int .i64 nodes, .int .i64 start] w0 fun e W' => ∃ v0_ : Value, e = .returned (.tuple #[v0_, .int .i64 m]) ∧ Kd.R (Kd.int .i64) 3 W' w0.heap.size (fun _ => True) v0_ rs ∧ Below w0.heap.size w0 W' := by
  unfold floodF at h
  have hsz := hC.2.1
  cases hin : insideB (clampN nodes) start with
  | false =>
    rw [hin, if_neg (by decide)] at h
    cases h
    have hins : ∀ W : World, W.cell? ⟨w0.heap.size + 1, 0, none⟩ = some (.int .i64 (min (max nodes 0) 32)) → Calls Tryd.prog 42 #[.int .i64 start, .pointer (some ⟨w0.heap.size + 1, 0, none⟩)] W fun e w' => e = .returned (.bool false) ∧ w' = W := fun W hW => hin ▸ inside1 (clampN nodes) start _ W hW
    go_enter Tryd.func22, Tryd.ntmps22
    go_wp2_with (go_at_call 42; refine (hins _ ?_).mono ?_; rotate_left; rintro e w' ⟨rfl, rfl⟩)
    · go_ret2
      exact ⟨_, rfl, Kd.R_nil _ _ _ _ _, (((Below.refl _ w0).alloc (Nat.le_refl _) _).alloc (by simp only [World.size_alloc]; omega) _).alloc (by simp only [World.size_alloc]; omega) _⟩
    · exact (blk_cell (g := w0.heap.size + 1) (t := 3) (by simp only [heap_allocs, World.size_alloc]; repeat (first | rw [if_pos trivial] | rw [if_pos (by omega)] | rw [if_neg (by omega)])) 0).trans rfl
  | true =>
    rw [hin, if_pos rfl] at h
    split at h
    · rename_i hlk
      obtain ⟨r, hfl, hr⟩ := Option.bind_eq_some_iff.1 h
      split at hr
      · rename_i hrl
        cases hr
        clear h
        have hins : ∀ W : World, W.cell? ⟨w0.heap.size + 1, 0, none⟩ = some (.int .i64 (min (max nodes 0) 32)) → Calls Tryd.prog 42 #[.int .i64 start, .pointer (some ⟨w0.heap.size + 1, 0, none⟩)] W fun e w' => e = .returned (.bool true) ∧ w' = W := fun W hW => hin ▸ inside1 (clampN nodes) start _ W hW
        refine (callsIn_wide (n := 3)).1 ?_
        refine callsIn_of_wp_marks Tryd.func22 rfl trivial ?_ rfl
        simp only [Tryd.ntmps22, List.size_toArray, List.length_cons, List.length_nil, Nat.reduceAdd, Nat.reduceSub, Array.replicate_succ, Array.replicate_zero, List.push_toArray, List.append_toArray, List.nil_append, List.cons_append]
        gi_wp2_with (first | (refine ⟨trivial, ?_⟩; gi_at_call 42; refine (callsIn_wide.2 (hins _ ?_)).mono ?_; rotate_left; rintro e w' ⟨rfl, rfl⟩) | (refine ⟨trivial, ?_⟩; gi_at_call 44; refine (callsIn_wide.2 (waiting1 _ _)).mono ?_; rintro e w' ⟨rfl, rfl⟩))
        · simp only [Nat.add_assoc, Nat.reduceAdd]
          refine range_known' (w0.heap.size + 8) (by simp) (gf := 57) (lb := #[.pointer (some ⟨w0.heap.size + 7, 0, none⟩)]) rfl (enters_of Tryd.func57 (by kernel_rfl) rfl) (encs := fun x : Int × Int => #[.agg #[.int .i64 x.1, .int .i64 x.2]]) (fun _ => rfl)
            (I := fun pre W => ∃ vb vo, InvV (clampN nodes) links start r A0 c0 w0 pre vb vo W) (ok := okA (clampN nodes) links start) (fin := finA (clampN nodes) links start r)
            ?run ?own ?first (AxV (clampN nodes) links nodes start r A0 c0 w0) ?ownA ?assign ?body ?done
          case run =>
            exact waiting_runs (clampN nodes) links start r _ (w0.heap.size + 7) (w0.heap.size + 4) w0.heap.size (by decide) (fun k => k = w0.heap.size + 3 ∨ w0.heap.size + 8 ≤ k) hrl _ (fun pre W ⟨vb, vo, h⟩ => ⟨(blk_cell h.2.2.2.2.2.2.1 0).trans rfl, h.2.2.2.2.2.2.2.1, h.2.2.2.2.2.2.2.2.1, vb, (blk_cell h.2.2.2.2.2.2.2.2.2.1 0).trans rfl, h.2.2.2.2.2.2.2.2.2.2.2.1⟩)
          case own =>
            rintro pre W W' row ⟨vb, vo, h⟩ hg hr
            exact ⟨vb, vo, invV_own h hg hr⟩
          case first => exact ⟨_, _, first_inv A0 c0 w0 hfl⟩
          case ownA =>
            rintro pre x a' _ W W' row ⟨vb, vo, Bx, h, h1, h2, h3, h4, h5⟩ hg hr
            refine ⟨vb, vo, Bx, invV_own h hg hr, h1, blk_grown h2 hg (fun e => ?_), h3, h4, h5⟩
            obtain ⟨_, o, ho, hn⟩ := hr Bx e.symm
            rw [h2] at ho
            cases ho
            cases hn
          case assign =>
            rintro l pre x W K ⟨vb, vo, h⟩ _ hK
            gi_wp2
            refine hK _ _ ((KeepsOthers.alloc _ _).from _) ⟨vb, vo, W.heap.size, invV_own h (World.grownBy_alloc W _ none) (fun r e => by cases e), h.2.1, blk_new W _, fun e => ?_, fun e => ?_, rfl⟩
            · exact Nat.lt_irrefl _ ((Kd.R_bound h.2.2.2.2.2.2.2.2.2.2.2.1).1 _ e).2.2.1
            · exact Nat.lt_irrefl _ ((Kd.R_bound h.2.2.2.2.2.2.2.2.2.2.2.2.1).1 _ e).2.2.1
          case body =>
            rintro l pre x a' W hok ⟨vb, vo, Bx, hinv, hBx, hbx, hnb, hno, rfl⟩
            obtain ⟨hf', hlen'⟩ := flood_next hinv.2.2.2.2.2.2.2.1 hok
            obtain ⟨hBW, hs, h0, h1, h2, h5, h7, hf, hl, h4, h6, hRb, hRo, hne⟩ := hinv
            have zo : W.cell? ⟨w0.heap.size + 6, 0, none⟩ = some vo := (blk_cell h6 0).trans rfl
            have zx0 : W.cell? ⟨Bx, 0, none⟩ = some (.int .i64 x.1) := (blk_cell hbx 0).trans rfl
            have zx1 : W.cell? ⟨Bx, 1, none⟩ = some (.int .i64 x.2) := (blk_cell hbx 1).trans rfl
            have hcon := contains1 W _ _ vo _ x.1 hRo
            cases hc : (stOf (clampN nodes) links start pre).1.contains x.1 with
            | true =>
              have hst : stOf (clampN nodes) links start (pre ++ [x]) = stOf (clampN nodes) links start pre := by
                rw [stOf_snoc]
                unfold stepSt
                rw [if_pos hc]
              rw [hst] at hf' hlen'
              rw [hc] at hcon
              gi_wp2_with (refine ⟨trivial, ?_⟩; gi_at_call 45; refine (CallsIn.inRound l (callsIn_wide.2 hcon)).mono ?_; rintro e w' ⟨rfl, rfl⟩)
              refine ⟨KeepsFrom.refl _ _, vb, vo, hBW, hs, h0, h1, h2, h5, h7, by rw [hst]; exact hf', by rw [hst]; exact hlen', h4, h6, by rw [hst]; exact hRb, by rw [hst]; exact hRo, hne⟩
            | false =>
              rw [hc] at hcon
              have HSt := round_send hC hlk hrl hok ⟨hBW, hs, h0, h1, h2, h5, h7, hf, hl, h4, h6, hRb, hRo, hne⟩ hBx hbx hnb hno hc
              have hlo : (stOf (clampN nodes) links start pre).1.length ≤ 1000001 := lenO hf hl hrl
              have HRo := Aside0.mk hRo
              have HBW := Aside0.mk hBW
              have HLo := Aside0.mk hlo
              have HSz := Aside0.mk hs
              generalize (stOf (clampN nodes) links start pre).1 = os at HSt HRo HLo
              obtain ⟨Ao, co, rfl, _, _⟩ := Kd.R_reads HRo.out
              clear hRo hRb hBW hf hl hf' hlen' hlo hs hC
              gi_wp2_with (first
                | (refine ⟨trivial, ?_⟩; gi_at_call 45; refine (CallsIn.inRound l (callsIn_wide.2 hcon)).mono ?_; rintro e w' ⟨rfl, rfl⟩)
                | (gi_at_builtin; refine R_append_in (Kd.int .i64) (w0 := w0) w0.heap.size rfl (.tmp 32) (.tmp 35) 39 3 (.int .i64 0) 8 rfl Tryd.underlying39 info3 rfl (by decide) (by omega) (.slice Ao os.length co) os x.1 [.int .i64 x.1] (fun k => w0.heap.size + 8 ≤ k) (fun _ => False) rfl rfl rfl (fun _ hk => hk.elim) ?aF HRo.out HBW.out HBW.out.size ?aL ?_; (case aF => exact fun k hk => Nat.le_trans HSz.out hk); (case aL => have := HLo.out; omega); intro v4 w4 ho hb4 hg4 hat4; obtain ⟨⟨g4, c4, rfl⟩, zc4, zf4, zs5, zx0', zx1', hcall⟩ := HSt v4 w4 ho hb4 hg4 hat4; have HCall := Aside0.mk hcall; clear hcall ho hb4 hg4 hat4)
                | (refine ⟨trivial, ?_⟩; gi_at_call 43; refine (CallsIn.inRound l (callsIn_wide.2 HCall.out)).mono ?_; rintro e w6 ⟨rfl, hk6, h6'⟩))
              exact ⟨hk6, h6'⟩
          case done =>
            rintro D xs W hD hfin ⟨vb, vo, h⟩ hK
            have hfr : stOf (clampN nodes) links start xs = r := hfin
            obtain ⟨hBW, hs, _, _, _, _, _, _, _, h4, h6, hRb, hRo, _⟩ := h
            rw [hfr] at hRb hRo
            obtain ⟨Ab, cb, eb, _, _⟩ := Kd.R_reads hRb
            have z4 : W.drew.cell? ⟨w0.heap.size + 4, 0, none⟩ = some vb := (blk_cell h4 0).trans rfl
            have z6 : W.drew.cell? ⟨w0.heap.size + 6, 0, none⟩ = some vo := (blk_cell h6 0).trans rfl
            subst eb
            simp only [Exit.inBlock, Exit.then]
            gi_wp2
            refine wpIn_wide.2 ?_
            go_region
            all_goals gi_wp2
            refine ⟨by simp, .inl ⟨_, _, rfl, run_takeDeferred (show W.drew.heap[D]? = _ from hK), ?_⟩⟩
            refine ⟨_, results_tmp2 rfl _ _ _, _, rfl, Kd.R_mono (R_abides (Kd.R_drew hRo) (grownBy_putObj' _ D _) (fun r e => by cases e; exact ⟨_, hK, rfl⟩)) (fun _ _ => trivial), hBW.drew.grown (grownBy_putObj' _ D _) (by have := hBW.size; simpa using this) (fun k e => by cases e; omega)⟩
        · exact (blk_cell (g := w0.heap.size + 1) (t := 3) (by simp only [heap_allocs, World.size_alloc]; repeat (first | rw [if_pos trivial] | rw [if_pos (by omega)] | rw [if_neg (by omega)])) 0).trans rfl
      · cases hr
    · cases h

theorem flood_mono (n : Int) (links : List (Int × Int)) : ∀ (k i : Nat) (st : List Int × List (Int × Int)), LeO (flood n links k i st) (flood n links (k + 1) i st)
  | 0, _, _ => fun r h => by cases h
  | k + 1, i, st => by
    intro r h
    unfold flood at h ⊢
    split at h
    · rename_i hi
      rw [if_pos hi]
      exact flood_mono n links k _ _ r h
    · rename_i hi
      rw [if_neg hi]
      exact h
theorem floodF_mono (k : Nat) (links : List (Int × Int)) (nodes start : Int) : LeO (floodF k links nodes start) (floodF (k + 1) links nodes start) := by
  intro r h
  unfold floodF at h ⊢
  split at h
  · rename_i h1
    rw [if_pos h1]
    split at h
    · rename_i h2
      rw [if_pos h2]
      obtain ⟨x, hx, hr⟩ := Option.bind_eq_some_iff.1 h
      rw [flood_mono _ _ _ _ _ x hx]
      exact hr
    · cases h
  · rename_i h1
    rw [if_neg h1]
    exact h
end Go.Proofs.YtfikhfahpdhjbaaDoor.Fl
