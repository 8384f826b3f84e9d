/- The closure send of hops.Flood, walked. -/
import Derived.Test.YtfikhfahpdhjbaaDoorFlBase
namespace Go.Proofs.YtfikhfahpdhjbaaDoor.Fl
open Go.RowKit Go.Proofs.YtfikhfahpdhjbaaDoorW.PrintWords Go.Proofs.YtfikhfahpdhjbaaDoorW.PrintMore
set_option linter.unusedVariables false

set_option maxHeartbeats 8000000 in
set_option maxRecDepth 100000 in
/-- The closure send of Flood: what it appends to the buffer. -/
theorem send1 (n : Int) (links : List (Int × Int)) (A0 : Option Addr) (c0 : Nat) (x : Int × Int) (buf : List (Int × Int)) (v : Value) (Bl Bi Bn Bb : Nat) (w0 W : World) (ok : Nat → Prop)
    (hC : Kd.C kA w0 A0 links.length links) (hB : Below w0.heap.size w0 W) (hsmall : (buf.length + links.length + 1) * 16 ≤ 140737488355328)
    (hl : W.heap[Bl]? = some (.cells #[.slice A0 links.length c0] 38 (0, 0))) (hi : W.heap[Bi]? = some (.cells #[.func (.func 42) #[] #[.pointer (some ⟨Bn, 0, none⟩)]] 63 (0, 0))) (hn : W.heap[Bn]? = some (.cells #[.int .i64 n] 3 (0, 0)))
    (hb : W.heap[Bb]? = some (.cells #[v] 66 (0, 0))) (hne : Bl ≠ Bb ∧ Bi ≠ Bb ∧ Bn ≠ Bb) (hbase : w0.heap.size ≤ Bb) (hR : Kd.R kA 65 W w0.heap.size ok v buf) (hok : ∀ k, ok k → k ≠ Bb ∧ k ≠ Bl ∧ k ≠ Bi ∧ k ≠ Bn) (hfresh : ∀ k, W.heap.size ≤ k → ok k) :
    Calls Tryd.prog 43 #[.agg #[.int .i64 x.1, .int .i64 x.2], .pointer (some ⟨Bl, 0, none⟩), .pointer (some ⟨Bi, 0, none⟩), .pointer (some ⟨Bb, 0, none⟩)] W fun e W' => e = .returned (.tuple #[]) ∧
      ∃ v', W'.heap[Bb]? = some (.cells #[v'] 66 (0, 0)) ∧ Kd.R kA 65 W' w0.heap.size ok v' (buf ++ sendN n x links links.length) ∧ Below w0.heap.size w0 W' ∧ Kept Bb v.ownBlock W W' ∧ (v'.ownBlock = v.ownBlock ∨ ∃ b, v'.ownBlock = some b ∧ W.heap.size ≤ b) := by
  have hlt : Bb < W.heap.size := (Array.getElem?_eq_some_iff.1 hb).1
  have hown : ∀ k, v.ownBlock = some k → k < W.heap.size := fun k hk => ((Kd.R_bound hR).1 k hk).2.2.1
  obtain ⟨W1, hW1⟩ : ∃ W1, W1 = W.alloc (.cells #[.int .i64 x.1, .int .i64 x.2] 65) := ⟨_, rfl⟩
  have s1 : W1.heap.size = W.heap.size + 1 := by rw [hW1]; simp
  have hbx : W1.heap[W.heap.size]? = some (.cells #[.int .i64 x.1, .int .i64 x.2] 65 (0, 0)) := by rw [hW1]; exact blk_new W _
  have k1 : Kept Bb v.ownBlock W W1 := hW1 ▸ (Kept.refl _ _ W).alloc _
  have nl : ∀ k, k = Bl ∨ k = Bi ∨ k = Bn → some k ≠ v.ownBlock := fun k hk e => by
    have := hok k (hR.1 k e.symm)
    rcases hk with rfl | rfl | rfl
    · exact this.2.1 rfl
    · exact this.2.2.1 rfl
    · exact this.2.2.2 rfl
  have hl1 := k1.blk hl hne.1 (nl _ (.inl rfl))
  have hi1 := k1.blk hi hne.2.1 (nl _ (.inr (.inl rfl)))
  have hn1 := k1.blk hn hne.2.2 (nl _ (.inr (.inr rfl)))
  have hR1 : Kd.R kA 65 W1 w0.heap.size ok v buf := hW1 ▸ Kd.R_alloc hR _
  have hB1 : Below w0.heap.size w0 W1 := hW1 ▸ hB.alloc hB.size _
  have hb1 : W1.heap[Bb]? = some (.cells #[v] 66 (0, 0)) := by rw [hW1]; exact (Below.heap_alloc W _ Bb hlt).trans hb
  have hsl : (W1).cell? ⟨Bl, 0, none⟩ = some (.slice A0 links.length c0) := (blk_cell hl1 0).trans rfl
  have big := hC.2.1
  subst hW1
  go_enter Tryd.func43, Tryd.ntmps43
  go_wp2
  go_loopg [9] links.length (fun gk s9 wr => ∃ (i : Nat) (vi : Value), s9 = .int .i64 i ∧ Aside0 (i ≤ links.length) ∧ Aside0 (links.length - i ≤ gk) ∧ Aside0 (wr.heap[Bb]? = some (.cells #[vi] 66 (0, 0))) ∧ Aside0 (Kd.R kA 65 wr w0.heap.size ok vi (buf ++ sendN n x links i)) ∧ Aside0 (Below w0.heap.size w0 wr) ∧ Aside0 (Kept Bb v.ownBlock (W.alloc (.cells #[.int .i64 x.1, .int .i64 x.2] 65)) wr) ∧ Aside0 (vi.ownBlock = v.ownBlock ∨ ∃ b, vi.ownBlock = some b ∧ W.heap.size + 1 ≤ b))
  case atStart => exact ⟨0, v, rfl, ⟨Nat.zero_le _⟩, ⟨by omega⟩, ⟨hb1⟩, ⟨by rw [show sendN n x links 0 = [] from rfl, List.append_nil]; exact hR1⟩, ⟨hB1⟩, ⟨Kept.refl _ _ _⟩, ⟨.inl rfl⟩⟩
  case round =>
    obtain ⟨i, vi, rfl, HI, HG, HBb, HR, HB, HK, HO⟩ := hrel
    clear hb1 hR1 hB1 hB hb hR k1 hl hi hn hsl
    by_cases hi : i < links.length
    · obtain ⟨ad, e0, y0, y1⟩ := kA_at hC i hi
      replace y0 := (HB.out.cell (World.block_lt_of_cell? w0 _ y0)).trans y0
      replace y1 := (HB.out.cell (World.block_lt_of_cell? w0 _ y1)).trans y1
      generalize hgl : links.getD i (0, 0) = l at y0 y1
      have nW : some W.heap.size ≠ v.ownBlock := fun e => by have := hown _ e.symm; omega
      have hbx2 := HK.out.blk hbx (by omega) nW
      have hi2 := HK.out.blk hi1 hne.2.1 (nl _ (.inr (.inl rfl)))
      have hn2 := HK.out.blk hn1 hne.2.2 (nl _ (.inr (.inr rfl)))
      have z0 : ∀ o, (wr.alloc o).cell? ⟨W.heap.size, 0, none⟩ = some (.int .i64 x.1) := fun o => Lib.cell?_alloc_some _ ((blk_cell hbx2 0).trans rfl)
      have z1 : ∀ o, (wr.alloc o).cell? ⟨W.heap.size, 1, none⟩ = some (.int .i64 x.2) := fun o => Lib.cell?_alloc_some _ ((blk_cell hbx2 1).trans rfl)
      have zi : ∀ o, (wr.alloc o).cell? ⟨Bi, 0, none⟩ = some (.func (.func 42) #[] #[.pointer (some ⟨Bn, 0, none⟩)]) := fun o => Lib.cell?_alloc_some _ ((blk_cell hi2 0).trans rfl)
      have zn : ∀ o, (wr.alloc o).cell? ⟨Bn, 0, none⟩ = some (.int .i64 n) := fun o => Lib.cell?_alloc_some _ ((blk_cell hn2 0).trans rfl)
      have zb : ∀ o, (wr.alloc o).cell? ⟨Bb, 0, none⟩ = some vi := fun o => Lib.cell?_alloc_some _ ((blk_cell HBb.out 0).trans rfl)
      have hba : (wr.alloc (.cells #[.int .i64 l.1, .int .i64 l.2] 48)).heap[Bb]? = some (.cells #[vi] 66 (0, 0)) := (Below.heap_alloc wr _ Bb (Array.getElem?_eq_some_iff.1 HBb.out).1).trans HBb.out
      have c9 : decide ((i : Int) < (links.length : Int)) = true := decide_eq_true (by omega)
      have c10 : (0 : Int) ≤ (i : Int) := Int.natCast_nonneg i
      have c11 : (i : Int) < (links.length : Int) := by omega
      clear hbx2 hi2 hn2
      subst e0
      have hin0 := inside1 n l.1 Bn (wr.alloc (.cells #[.int .i64 l.1, .int .i64 l.2] 48)) (zn _)
      have hin1 := inside1 n l.2 Bn (wr.alloc (.cells #[.int .i64 l.1, .int .i64 l.2] 48)) (zn _)
      by_cases h1 : (i : Int) = x.2
      · have hone : sendOne n x i l = [] := by unfold sendOne; rw [if_pos h1]
        have b1 : ((i : Int) == x.2) = true := beq_iff_eq.2 h1
        clear h1
        go_wp2_with (first | (go_at_call_of 42 (Value.int IntKind.i64 l.1); refine hin0.mono ?_; rintro e w' ⟨rfl, rfl⟩) | (go_at_call_of 42 (Value.int IntKind.i64 l.2); refine hin1.mono ?_; rintro e w' ⟨rfl, rfl⟩))
        go_roundg (links.length - (i + 1))
        case measure => have := HG.out; omega
        case rel => exact ⟨i + 1, vi, by first | rfl | (rw [up64 i (by omega)]), ⟨by omega⟩, ⟨Nat.le_refl _⟩, ⟨hba⟩, ⟨by rw [show sendN n x links (i + 1) = sendN n x links i ++ sendOne n x i (links.getD i (0, 0)) from rfl, hgl, hone, List.append_nil]; exact Kd.R_alloc HR.out _⟩, ⟨HB.out.alloc HB.out.size _⟩, ⟨HK.out.alloc _⟩, HO⟩
      · have b1 : ((i : Int) == x.2) = false := by simpa using h1
        by_cases h2 : l.1 = l.2
        · have hone : sendOne n x i l = [] := by unfold sendOne; rw [if_neg h1, if_pos h2]
          have b2 : (l.1 == l.2) = true := beq_iff_eq.2 h2
          clear h1 h2
          go_wp2_with (first | (go_at_call_of 42 (Value.int IntKind.i64 l.1); refine hin0.mono ?_; rintro e w' ⟨rfl, rfl⟩) | (go_at_call_of 42 (Value.int IntKind.i64 l.2); refine hin1.mono ?_; rintro e w' ⟨rfl, rfl⟩))
          go_roundg (links.length - (i + 1))
          case measure => have := HG.out; omega
          case rel => exact ⟨i + 1, vi, by first | rfl | (rw [up64 i (by omega)]), ⟨by omega⟩, ⟨Nat.le_refl _⟩, ⟨hba⟩, ⟨by rw [show sendN n x links (i + 1) = sendN n x links i ++ sendOne n x i (links.getD i (0, 0)) from rfl, hgl, hone, List.append_nil]; exact Kd.R_alloc HR.out _⟩, ⟨HB.out.alloc HB.out.size _⟩, ⟨HK.out.alloc _⟩, HO⟩
        · have b2 : (l.1 == l.2) = false := by simpa using h2
          cases j0 : insideB n l.1 with
          | false =>
            rw [j0] at hin0
            have hone : sendOne n x i l = [] := by unfold sendOne; rw [if_neg h1, if_neg h2, if_pos j0]
            clear h1 h2
            go_wp2_with (first | (go_at_call_of 42 (Value.int IntKind.i64 l.1); refine hin0.mono ?_; rintro e w' ⟨rfl, rfl⟩) | (go_at_call_of 42 (Value.int IntKind.i64 l.2); refine hin1.mono ?_; rintro e w' ⟨rfl, rfl⟩))
            go_roundg (links.length - (i + 1))
            case measure => have := HG.out; omega
            case rel => exact ⟨i + 1, vi, by first | rfl | (rw [up64 i (by omega)]), ⟨by omega⟩, ⟨Nat.le_refl _⟩, ⟨hba⟩, ⟨by rw [show sendN n x links (i + 1) = sendN n x links i ++ sendOne n x i (links.getD i (0, 0)) from rfl, hgl, hone, List.append_nil]; exact Kd.R_alloc HR.out _⟩, ⟨HB.out.alloc HB.out.size _⟩, ⟨HK.out.alloc _⟩, HO⟩
          | true =>
            cases j1 : insideB n l.2 with
            | false =>
              rw [j0] at hin0
              rw [j1] at hin1
              have hone : sendOne n x i l = [] := by unfold sendOne; rw [if_neg h1, if_neg h2, if_neg (by rw [j0]; decide), if_pos j1]
              clear h1 h2
              go_wp2_with (first | (go_at_call_of 42 (Value.int IntKind.i64 l.1); refine hin0.mono ?_; rintro e w' ⟨rfl, rfl⟩) | (go_at_call_of 42 (Value.int IntKind.i64 l.2); refine hin1.mono ?_; rintro e w' ⟨rfl, rfl⟩))
              go_roundg (links.length - (i + 1))
              case measure => have := HG.out; omega
              case rel => exact ⟨i + 1, vi, by first | rfl | (rw [up64 i (by omega)]), ⟨by omega⟩, ⟨Nat.le_refl _⟩, ⟨hba⟩, ⟨by rw [show sendN n x links (i + 1) = sendN n x links i ++ sendOne n x i (links.getD i (0, 0)) from rfl, hgl, hone, List.append_nil]; exact Kd.R_alloc HR.out _⟩, ⟨HB.out.alloc HB.out.size _⟩, ⟨HK.out.alloc _⟩, HO⟩
            | true =>
              rw [j0] at hin0
              rw [j1] at hin1
              have hle := sendN_len n x links i
              have hln : (buf ++ sendN n x links i).length + 1 ≤ buf.length + links.length + 1 := by rw [List.length_append]; omega
              have HRr := HR
              generalize hbs : buf ++ sendN n x links i = bs at HRr hln
              have HBa := Aside0.mk (HB.out.alloc HB.out.size (.cells #[.int .i64 l.1, .int .i64 l.2] 48))
              have HRa := Aside0.mk (Kd.R_alloc HRr.out (.cells #[.int .i64 l.1, .int .i64 l.2] 48))
              have HFa : Aside0 (∀ k, (wr.alloc (.cells #[.int .i64 l.1, .int .i64 l.2] 48)).heap.size ≤ k → ok k) := ⟨fun k hk => hfresh k (by have := HK.out.1; simp at hk; omega)⟩
              have HLa : Aside0 ((bs.length + 1) * 16 ≤ 140737488355328) := ⟨by omega⟩
              have HSt : Aside0 (∀ (p : Int × Int) (v4 : Value) (w4 : World), Kd.R kA 65 w4 w0.heap.size ok v4 (bs ++ [p]) → Below w0.heap.size w0 w4 → (wr.alloc (.cells #[.int .i64 l.1, .int .i64 l.2] 48)).grownBy w4 vi.ownBlock → (v4.ownBlock = vi.ownBlock ∨ ∃ b, v4.ownBlock = some b ∧ (wr.alloc (.cells #[.int .i64 l.1, .int .i64 l.2] 48)).heap.size ≤ b) →
                  (∃ g c, v4 = .slice (some ⟨g, 0, none⟩) (bs.length + 1) c) ∧ w4.cell? ⟨Bb, 0, none⟩ = some vi ∧ w4.frozen? ⟨Bb, 0, none⟩ = false ∧
                  ((w4.setCell ⟨Bb, 0, none⟩ v4).heap[Bb]? = some (.cells #[v4] 66 (0, 0)) ∧ Kd.R kA 65 (w4.setCell ⟨Bb, 0, none⟩ v4) w0.heap.size ok v4 (bs ++ [p]) ∧ Below w0.heap.size w0 (w4.setCell ⟨Bb, 0, none⟩ v4) ∧ Kept Bb v.ownBlock (W.alloc (.cells #[.int .i64 x.1, .int .i64 x.2] 65)) (w4.setCell ⟨Bb, 0, none⟩ v4) ∧ (v4.ownBlock = v.ownBlock ∨ ∃ b, v4.ownBlock = some b ∧ W.heap.size + 1 ≤ b))) := ⟨by
                intro p v4 w4 ho hb4 hg4 hat4
                have hbb : w4.heap[Bb]? = some (.cells #[vi] 66 (0, 0)) := (hg4.block Bb (Array.getElem?_eq_some_iff.1 hba).1 (fun e => (hok Bb ((HRr.out).1 Bb e.symm)).1 rfl)).trans hba
                obtain ⟨inner, hown4⟩ := Kd.R_own ho
                rw [show (bs ++ [p]).length = bs.length + 1 from by rw [List.length_append]; rfl] at hown4
                refine ⟨ownsRow_succ hown4, (blk_cell hbb 0).trans rfl, blk_frozen hbb 0, blk_set hbb 0 v4, Kd.R_far ho (fun k hk => (hok k hk).1) v4, hb4.setCell hbase v4, (Kept.grown (HK.out.alloc _) hg4 ?_).setBb v4, ?_⟩
                · rcases HO.out with h | ⟨b, h, hb⟩
                  · exact .inl h
                  · exact .inr ⟨b, h, by rw [s1]; exact hb⟩
                · rcases hat4 with h | ⟨b, h, hb⟩
                  · rw [h]; exact HO.out
                  · refine .inr ⟨b, h, ?_⟩
                    have := HK.out.1
                    simp at hb this
                    omega⟩
              by_cases h3 : x.1 = l.1
              · have hone : sendOne n x i l = [(l.2, (i : Int))] := by unfold sendOne; rw [if_neg h1, if_neg h2, if_neg (by rw [j0]; decide), if_neg (by rw [j1]; decide), if_pos h3]
                have b3 : (x.1 == l.1) = true := beq_iff_eq.2 h3
                clear h1 h2 h3
                go_wp2_with (first | (go_at_call_of 42 (Value.int IntKind.i64 l.1); refine hin0.mono ?_; rintro e w' ⟨rfl, rfl⟩) | (go_at_call_of 42 (Value.int IntKind.i64 l.2); refine hin1.mono ?_; rintro e w' ⟨rfl, rfl⟩) | ((with_reducible refine gate_builtin (b := .append) (xs := #[.tmp 45, .tmp 50]) rfl ?_); at_builtin; refine Kd.R_append kA (w0 := w0) w0.heap.size rfl (.tmp 45) (.tmp 50) 66 65 (.agg #[.int .i64 0, .int .i64 0]) 16 rfl Tryd.underlying66 info65 rfl (by decide) (by omega) vi bs (l.2, (i : Int)) [.int .i64 l.2, .int .i64 (i : Int)] ok (fun _ => False) rfl ?aX ?aP (fun _ hk => hk.elim) ?aF ?aO ?aB ?aS ?aL ?_; (case aX => rw [World.size_alloc]; rfl); (case aP => exact kA_mk _ _ _ _); (case aB => exact HBa.out); (case aF => exact HFa.out); (case aO => exact HRa.out); (case aS => exact HBa.out.size); (case aL => exact HLa.out); intro v4 w4 ho hb4 hg4 hat4; obtain ⟨⟨g4, c4, rfl⟩, zc4, zf4, h5⟩ := HSt.out (l.2, (i : Int)) v4 w4 ho hb4 hg4 hat4; have H5 := Aside0.mk h5; clear h5 ho hb4 hg4 hat4))
                go_roundg (links.length - (i + 1))
                case measure => have := HG.out; omega
                case rel => exact ⟨i + 1, _, by first | rfl | (rw [up64 i (by omega)]), ⟨by omega⟩, ⟨Nat.le_refl _⟩, ⟨H5.out.1⟩, ⟨by rw [show sendN n x links (i + 1) = sendN n x links i ++ sendOne n x i (links.getD i (0, 0)) from rfl, hgl, hone, ← List.append_assoc, hbs]; exact H5.out.2.1⟩, ⟨H5.out.2.2.1⟩, ⟨H5.out.2.2.2.1⟩, ⟨H5.out.2.2.2.2⟩⟩
              · have b3 : (x.1 == l.1) = false := by simpa using h3
                by_cases h4 : x.1 = l.2
                · have hone : sendOne n x i l = [(l.1, (i : Int))] := by unfold sendOne; rw [if_neg h1, if_neg h2, if_neg (by rw [j0]; decide), if_neg (by rw [j1]; decide), if_neg h3, if_pos h4]
                  have b4 : (x.1 == l.2) = true := beq_iff_eq.2 h4
                  clear h1 h2 h3 h4
                  go_wp2_with (first | (go_at_call_of 42 (Value.int IntKind.i64 l.1); refine hin0.mono ?_; rintro e w' ⟨rfl, rfl⟩) | (go_at_call_of 42 (Value.int IntKind.i64 l.2); refine hin1.mono ?_; rintro e w' ⟨rfl, rfl⟩) | ((with_reducible refine gate_builtin (b := .append) (xs := #[.tmp 56, .tmp 61]) rfl ?_); at_builtin; refine Kd.R_append kA (w0 := w0) w0.heap.size rfl (.tmp 56) (.tmp 61) 66 65 (.agg #[.int .i64 0, .int .i64 0]) 16 rfl Tryd.underlying66 info65 rfl (by decide) (by omega) vi bs (l.1, (i : Int)) [.int .i64 l.1, .int .i64 (i : Int)] ok (fun _ => False) rfl ?aX ?aP (fun _ hk => hk.elim) ?aF ?aO ?aB ?aS ?aL ?_; (case aX => rw [World.size_alloc]; rfl); (case aP => exact kA_mk _ _ _ _); (case aB => exact HBa.out); (case aF => exact HFa.out); (case aO => exact HRa.out); (case aS => exact HBa.out.size); (case aL => exact HLa.out); intro v4 w4 ho hb4 hg4 hat4; obtain ⟨⟨g4, c4, rfl⟩, zc4, zf4, h5⟩ := HSt.out (l.1, (i : Int)) v4 w4 ho hb4 hg4 hat4; have H5 := Aside0.mk h5; clear h5 ho hb4 hg4 hat4))
                  go_roundg (links.length - (i + 1))
                  case measure => have := HG.out; omega
                  case rel => exact ⟨i + 1, _, by first | rfl | (rw [up64 i (by omega)]), ⟨by omega⟩, ⟨Nat.le_refl _⟩, ⟨H5.out.1⟩, ⟨by rw [show sendN n x links (i + 1) = sendN n x links i ++ sendOne n x i (links.getD i (0, 0)) from rfl, hgl, hone, ← List.append_assoc, hbs]; exact H5.out.2.1⟩, ⟨H5.out.2.2.1⟩, ⟨H5.out.2.2.2.1⟩, ⟨H5.out.2.2.2.2⟩⟩
                · have hone : sendOne n x i l = [] := by unfold sendOne; rw [if_neg h1, if_neg h2, if_neg (by rw [j0]; decide), if_neg (by rw [j1]; decide), if_neg h3, if_neg h4]
                  have b4 : (x.1 == l.2) = false := by simpa using h4
                  clear h1 h2 h3 h4
                  go_wp2_with (first | (go_at_call_of 42 (Value.int IntKind.i64 l.1); refine hin0.mono ?_; rintro e w' ⟨rfl, rfl⟩) | (go_at_call_of 42 (Value.int IntKind.i64 l.2); refine hin1.mono ?_; rintro e w' ⟨rfl, rfl⟩))
                  go_roundg (links.length - (i + 1))
                  case measure => have := HG.out; omega
                  case rel => exact ⟨i + 1, vi, by first | rfl | (rw [up64 i (by omega)]), ⟨by omega⟩, ⟨Nat.le_refl _⟩, ⟨hba⟩, ⟨by rw [show sendN n x links (i + 1) = sendN n x links i ++ sendOne n x i (links.getD i (0, 0)) from rfl, hgl, hone, List.append_nil]; exact Kd.R_alloc HR.out _⟩, ⟨HB.out.alloc HB.out.size _⟩, ⟨HK.out.alloc _⟩, HO⟩
    · have hii : i = links.length := by have := HI.out; omega
      subst hii
      have c9 : decide (((links.length : Nat) : Int) < (links.length : Int)) = false := decide_eq_false (by omega)
      go_wp2
      go_end0
      refine ⟨rfl, vi, HBb.out, HR.out, HB.out, ⟨by have := HK.out.1; simp at this; omega, fun k hk h1 h2 => (HK.out.2 k (by simp; omega) h1 h2).trans (Below.heap_alloc W _ k hk)⟩, ?_⟩
      rcases HO.out with h | ⟨b, h, hb⟩
      · exact .inl h
      · exact .inr ⟨b, h, by omega⟩
end Go.Proofs.YtfikhfahpdhjbaaDoor.Fl
