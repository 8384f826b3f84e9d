/- brokerref45.takes, walked by hand: it hands back a cut of the row that it was given. -/
-- needs: brokerref45_wild
import Derived.Test.YtegcobkhejpmkaaDoorPx14
import Derived.Lib.SliceRun
namespace Go.Proofs.YtegcobkhejpmkaaDoor.P
open Go.RowKit Go.Proofs.YtegcobkhejpmkaaDoorW.PrintWords Go.Proofs.YtegcobkhejpmkaaDoorW.PrintLast Go.Proofs.YtegcobkhejpmkaaDoorW.PrintMore
set_option linter.unusedVariables false

/-- An empty row, where a call has ended. -/
theorem nil_at {W w1 : World} (_hb : Below W.heap.size W w1) : Kd.R Kd.string 9 w1 W.heap.size (fun _ => True) (.slice none 0 0) ([] : List ByteArray) := Kd.R_nil _ _ _ _ _
def wildB (s : ByteArray) : Bool := (s.toList == [43]) || (s.toList == [35])
theorem wild_val (s : ByteArray) : brokerref45_wild.f s = some (wildB s) := by
  unfold brokerref45_wild.f wildB
  by_cases h : s.toList = [43]
  · rw [if_pos h, h]
    rfl
  · rw [if_neg h, beq_eq_false_iff_ne.2 h, Bool.false_or]
def hashB (s : ByteArray) : Bool := s.toList == [35]
/-- What the wildcard with a number takes, from the last d levels of the filter on. -/
def takesD (fr name : List ByteArray) : Nat → Int → Option (List ByteArray)
  | 0, _ => some []
  | d + 1, n =>
    let i := fr.length - (d + 1)
    let x := rdOf ByteArray.empty fr (i : Int)
    let n1 := if wildB x = true then wrap64 (n - 1) else n
    if n1 = 0 then (if hashB x = true then (if i ≤ name.length then some (name.drop i) else none) else (if i + 1 ≤ name.length then some ((name.take (i + 1)).drop i) else none)) else takesD fr name d n1
def takesF (fr name : List ByteArray) (n : Int) : Option (List ByteArray) := if fr.length ≤ 1000000 then (if name.length ≤ 1000000 then takesD fr name fr.length n else none) else none
theorem upT (i : Nat) (h : i ≤ 1000000) : wrap64 ((i : Int) + 1) = ((i + 1 : Nat) : Int) := by
  unfold wrap64
  omega

set_option maxHeartbeats 8000000 in
set_option maxRecDepth 100000 in
theorem takes_calls (A0 : Option Addr) (c0 : Nat) (l0 : List ByteArray) (A1 : Option Addr) (c1 : Nat) (l1 : List ByteArray) (a2 : Int) (r : List ByteArray) (w : World) (hr0 : Kd.C Kd.string w A0 l0.length l0) (hc0 : l0.length ≤ c0) (hr1 : Kd.C Kd.string w A1 l1.length l1) (hc1 : l1.length ≤ c1) (h : takesF l0 l1 a2 = some r) :
    Calls Tryd.prog 40 #[.slice A0 l0.length c0, .slice A1 l1.length c1, .int .i64 a2] w fun e w' => ∃ (A : Option Addr) (c : Nat), e = .returned (.slice A r.length c) ∧ Kd.C Kd.string w' A r.length r ∧ r.length ≤ c ∧ Below w.heap.size w w' := by
  unfold takesF at h
  split at h
  · rename_i hl0
    split at h
    · rename_i hl1
      have HR0 := Aside0.mk hr0
      have HR1 := Aside0.mk hr1
      have HC0 := Aside0.mk hc0
      have HC1 := Aside0.mk hc1
      have HL0 := Aside0.mk hl0
      have HL1 := Aside0.mk hl1
      have HB := Aside0.mk (Below.refl w.heap.size w)
      have H := Aside0.mk h
      clear h hr0 hr1 hc0 hc1 hl0 hl1
      go_enter Tryd.func40, Tryd.ntmps40
      go_wp2
      go_loopg [2, 7] l0.length (fun gk s2 s7 wr => ∃ (i : Nat) (n : Int), s7 = .int .i64 i ∧ s2 = .int .i64 n ∧ Aside0 (i + gk = l0.length) ∧ Aside0 (takesD l0 l1 gk n = some r) ∧ Aside0 (Below w.heap.size w wr))
      case atStart => exact ⟨0, a2, rfl, rfl, ⟨by omega⟩, H, HB⟩
      case round =>
        clear H HB
        obtain ⟨i, n, rfl, rfl, HI, H, HB⟩ := hrel
        cases gk with
        | zero =>
          have hr : [] = r := Option.some.inj H.out
          subst hr
          have c9 : decide ((i : Int) < (l0.length : Int)) = false := decide_eq_false (by have := HI.out; omega)
          have d9 : decide (i < l0.length) = false := decide_eq_false (by have := HI.out; omega)
          clear H
          go_wp2
          go_ret
          exact ⟨none, 0, rfl, Kd.C_nil _ _, Nat.le_refl _, HB.out⟩
        | succ g =>
          have hi : i = l0.length - (g + 1) := by have := HI.out; omega
          have hlt : i < l0.length := by have := HI.out; omega
          have c9 : decide ((i : Int) < (l0.length : Int)) = true := decide_eq_true (by omega)
          have c10 : 0 ≤ (i : Int) := Int.natCast_nonneg i
          have c11 : (i : Int) < (l0.length : Int) := by omega
          have d9 : decide (i < l0.length) = true := decide_eq_true hlt
          have d11 : i < l0.length := hlt
          obtain ⟨ad, e0, hx⟩ := Kd.at_string HR0.out (i : Int) c10 c11
          replace hx : wr.cell? (ad.add i) = some (.string (rdOf ByteArray.empty l0 (i : Int))) := (HB.out.cell (World.block_lt_of_cell? w _ hx)).trans hx
          have h := H.out
          unfold takesD at h
          simp only [← hi] at h
          subst e0
          have HLT := Aside0.mk hlt
          have HIE := Aside0.mk hi
          clear hi hlt H
          generalize hxe : rdOf ByteArray.empty l0 (i : Int) = x at h hx
          have hw := fun (W : World) => brokerref45_wild.calls x (wildB x) W (wild_val x)
          obtain ⟨n1, hn1⟩ : ∃ n1, n1 = (if wildB x = true then wrap64 (n - 1) else n) := ⟨_, rfl⟩
          rw [← hn1] at h
          have hup : IntKind.i64.wrap ((i : Int) + 1) = ((i + 1 : Nat) : Int) := (i64_w _).trans (upT i (by have := HL0.out; have := HLT.out; omega))
          have hup2 : wrap64 ((i : Int) + 1) = ((i + 1 : Nat) : Int) := upT i (by have := HL0.out; have := HLT.out; omega)
          by_cases h0 : n1 = 0
          · rw [if_pos h0] at h
            have b0 : (n1 == 0) = true := beq_iff_eq.2 h0
            by_cases hh : hashB x = true
            · rw [if_pos hh] at h
              split at h
              · rename_i hle
                have hr : l1.drop i = r := Option.some.inj h
                obtain ⟨i0, hi0, _, hsz, _⟩ := info_parts info9
                have hcut := cut_from (P := Tryd.prog) 32 9 .i64 Tryd.underlying32 hi0 1 hsz A1 l1.length c1 (i : Int) c10 (by omega)
                have hrr := fun (W : World) (hW : Kd.C Kd.string W A1 l1.length l1) => Kd.C_drop (c := c1) (m := i) hW hle HC1.out
                have hy : l1.length - i = r.length := by rw [← hr, List.length_drop]
                have hit : ((i : Int)).toNat = i := rfl
                rw [hit, hy] at hcut
                simp only [hr] at hrr
                have hsz1 : Kd.string.sz = 1 := rfl
                rw [hsz1] at hrr
                obtain ⟨A2, hA2⟩ : ∃ A2, A2 = (if c1 = i then A1 else A1.map (·.add (i * 1))) := ⟨_, rfl⟩
                obtain ⟨c2, hc2⟩ : ∃ c2, c2 = c1 - i := ⟨_, rfl⟩
                rw [← hA2] at hrr
                rw [← hA2, ← hc2] at hcut
                have HRR := Aside0.mk hrr
                have HLE : Aside0 (r.length ≤ c2) := ⟨by have := HC1.out; omega⟩
                clear hrr hsz hi0 hle h hy hr hit hA2 hc2 hup hup2
                have hhash : (x.toList == [35]) = true := hh
                clear hh
                by_cases hwb : wildB x = true
                · rw [if_pos hwb] at hn1
                  rw [hwb] at hw
                  have e1 : IntKind.i64.wrap (n - 1) = 0 := (i64_w _).trans (hn1.symm.trans h0)
                  have e2 : wrap64 (n - 1) = 0 := hn1.symm.trans h0
                  clear hn1 h0 b0 hwb
                  go_wp2_with (go_at_call 69; refine (hw _).mono ?_; rintro e w' ⟨rfl, ⟨nd, rfl⟩⟩)
                  go_ret
                  exact ⟨A2, c2, rfl, HRR.out _ (Kd.C_below HR1.out (pw_below_drewN HB.out nd)), HLE.out, pw_below_drewN HB.out nd⟩
                · rw [if_neg hwb] at hn1
                  have hwb' : wildB x = false := by simpa using hwb
                  rw [hwb'] at hw
                  have e1 : n = 0 := hn1.symm.trans h0
                  subst e1
                  clear hn1 h0 b0 hwb hwb'
                  go_wp2_with (go_at_call 69; refine (hw _).mono ?_; rintro e w' ⟨rfl, ⟨nd, rfl⟩⟩)
                  go_ret
                  exact ⟨A2, c2, rfl, HRR.out _ (Kd.C_below HR1.out (pw_below_drewN HB.out nd)), HLE.out, pw_below_drewN HB.out nd⟩
              · cases h
            · rw [if_neg hh] at h
              split at h
              · rename_i hle
                have hr : (l1.take (i + 1)).drop i = r := Option.some.inj h
                obtain ⟨i0, hi0, _, hsz, _⟩ := info_parts info9
                have hcut := cut_mid (P := Tryd.prog) 32 9 .i64 .i64 Tryd.underlying32 hi0 1 hsz A1 l1.length c1 (i : Int) ((i : Int) + 1) c10 (by omega) (by omega) HC1.out
                have hrr := fun (W : World) (hW : Kd.C Kd.string W A1 l1.length l1) => Kd.C_mid (c := c1) (lo := i) (hi := i + 1) hW (by omega) hle HC1.out
                have hy : (i + 1) - i = r.length := by rw [← hr, List.length_drop, List.length_take]; omega
                have hit : ((i : Int)).toNat = i := rfl
                have hit2 : ((i : Int) + 1).toNat = i + 1 := by omega
                rw [hit, hit2, hy] at hcut
                simp only [hr] at hrr
                have hsz1 : Kd.string.sz = 1 := rfl
                rw [hsz1] at hrr
                obtain ⟨A2, hA2⟩ : ∃ A2, A2 = (if c1 = i then A1 else A1.map (·.add (i * 1))) := ⟨_, rfl⟩
                obtain ⟨c2, hc2⟩ : ∃ c2, c2 = c1 - i := ⟨_, rfl⟩
                rw [← hA2] at hrr
                rw [← hA2, ← hc2] at hcut
                have HRR := Aside0.mk hrr
                have HLE : Aside0 (r.length ≤ c2) := ⟨by have := HC1.out; omega⟩
                clear hrr hsz hi0 hle h hy hr hit hit2 hA2 hc2
                have hhash : (x.toList == [35]) = false := by simpa [hashB] using hh
                clear hh
                by_cases hwb : wildB x = true
                · rw [if_pos hwb] at hn1
                  rw [hwb] at hw
                  have e1 : IntKind.i64.wrap (n - 1) = 0 := (i64_w _).trans (hn1.symm.trans h0)
                  have e2 : wrap64 (n - 1) = 0 := hn1.symm.trans h0
                  clear hn1 h0 b0 hwb
                  go_wp2_with (go_at_call 69; refine (hw _).mono ?_; rintro e w' ⟨rfl, ⟨nd, rfl⟩⟩)
                  go_ret
                  exact ⟨A2, c2, rfl, HRR.out _ (Kd.C_below HR1.out (pw_below_drewN HB.out nd)), HLE.out, pw_below_drewN HB.out nd⟩
                · rw [if_neg hwb] at hn1
                  have hwb' : wildB x = false := by simpa using hwb
                  rw [hwb'] at hw
                  have e1 : n = 0 := hn1.symm.trans h0
                  subst e1
                  clear hn1 h0 b0 hwb hwb'
                  go_wp2_with (go_at_call 69; refine (hw _).mono ?_; rintro e w' ⟨rfl, ⟨nd, rfl⟩⟩)
                  go_ret
                  exact ⟨A2, c2, rfl, HRR.out _ (Kd.C_below HR1.out (pw_below_drewN HB.out nd)), HLE.out, pw_below_drewN HB.out nd⟩
              · cases h
          · rw [if_neg h0] at h
            have b0 : (n1 == 0) = false := beq_eq_false_iff_ne.2 h0
            have H := Aside0.mk h
            clear h
            by_cases hwb : wildB x = true
            · rw [if_pos hwb] at hn1
              rw [hwb] at hw
              have e1 : IntKind.i64.wrap (n - 1) = n1 := (i64_w _).trans hn1.symm
              have e2 : wrap64 (n - 1) = n1 := hn1.symm
              clear hn1 h0 hwb
              go_wp2_with (go_at_call 69; refine (hw _).mono ?_; rintro e w' ⟨rfl, ⟨nd, rfl⟩⟩)
              go_roundg g
              case measure => exact Nat.lt_succ_self _
              case rel => exact ⟨i + 1, n1, by first | rfl | (simp; done) | (rw [hup2]), by first | rfl | (rw [e2]) | (simp; done), ⟨by have := HI.out; omega⟩, H, ⟨pw_below_drewN HB.out nd⟩⟩
            · rw [if_neg hwb] at hn1
              have hwb' : wildB x = false := by simpa using hwb
              rw [hwb'] at hw
              subst hn1
              clear h0 hwb hwb'
              go_wp2_with (go_at_call 69; refine (hw _).mono ?_; rintro e w' ⟨rfl, ⟨nd, rfl⟩⟩)
              go_roundg g
              case measure => exact Nat.lt_succ_self _
              case rel => exact ⟨i + 1, n1, by first | rfl | (simp; done) | (rw [hup2]), rfl, ⟨by have := HI.out; omega⟩, H, ⟨pw_below_drewN HB.out nd⟩⟩
    · cases h
  · cases h
end Go.Proofs.YtegcobkhejpmkaaDoor.P
