/- The iterator of mapping.mapped, walked: it hands over the levels, the references replaced. -/
-- needs: topic_Levels mapping_reference mapping_taken
import Derived.Test.YtegcobkhejpmkaaDoorPx1
import Derived.Test.YtegcobkhejpmkaaDoorPx3
import Derived.Test.YtegcobkhejpmkaaDoorHandC
import Derived.Test.YtegcobkhejpmkaaDoorRk3
import Derived.Shelf.Abstract
import Derived.WalkKit
import Derived.Lib.SliceRun
import Derived.OwnWalkIn
import Derived.TacticsInMore
import Derived.LoopNIn
import Derived.LoopIn
namespace Go.Proofs.YtegcobkhejpmkaaDoor.P
open Go.RowKit Go.Shelf Go.Proofs.YtegcobkhejpmkaaDoorW.PrintWords Go.Proofs.YtegcobkhejpmkaaDoorW.PrintLast Go.Proofs.YtegcobkhejpmkaaDoorW.PrintMore Go.Proofs.YtegcobkhejpmkaaDoor.Rk
attribute [local go_sem] Oper.semAt_some
set_option linter.unusedVariables false

/-- What a level becomes. -/
def repl (parts : List (List ByteArray)) (l : ByteArray) : List ByteArray := if 0 < refM l ∧ refM l ≤ (parts.length : Int) then parts.getD (refM l - 1).toNat [] else [l]
def seqM (parts : List (List ByteArray)) (ls : List ByteArray) : List ByteArray := ls.flatMap (repl parts)
theorem seqM_next (parts : List (List ByteArray)) (ls : List ByteArray) (i : Nat) (h : i < ls.length) : seqM parts (ls.take (i + 1)) = seqM parts (ls.take i) ++ repl parts ls[i] := by
  unfold seqM
  rw [List.take_succ_eq_append_getElem h, List.flatMap_append]
  simp
theorem seqM_split (parts : List (List ByteArray)) (ls : List ByteArray) (i : Nat) (h : i < ls.length) : seqM parts (ls.take i) ++ (repl parts ls[i] ++ seqM parts (ls.drop (i + 1))) = seqM parts ls := by
  unfold seqM
  have e : ls = ls.take i ++ ls[i] :: ls.drop (i + 1) := by
    rw [List.getElem_cons_drop, List.take_append_drop]
  conv => rhs; rw [e]
  rw [List.flatMap_append, List.flatMap_cons]
def okM (ys : List ByteArray) (pre : List ByteArray) (x : ByteArray) : Prop := ∃ rest, pre ++ x :: rest = ys
def finM (ys xs : List ByteArray) : Prop := xs = ys
theorem upM (i : Nat) (h : i ≤ 100000000) : wrap64 ((i : Int) + 1) = ((i + 1 : Nat) : Int) := by
  unfold wrap64
  omega
/-- A block that the rounds keep. -/
def OwnB (okP : Nat → Prop) (B6 : Nat) (W : World) (k : Nat) : Prop := okP k ∨ ((∃ cs t fr, W.heap[k]? = some (.cells cs t fr)) ∧ ¬ may B6 W k)
/-- A row of texts that the rounds keep. -/
def RowF (okP : Nat → Prop) (B6 : Nat) (W : World) (A : Option Addr) (n : Nat) (xs : List ByteArray) : Prop := ∃ ok, Kd.F Kd.string W ok A n xs ∧ ∀ k, ok k → k < W.heap.size → OwnB okP B6 W k
theorem RowF.keep {okP : Nat → Prop} {B6 : Nat} {W W' Wt : World} {A : Option Addr} {n : Nat} {xs : List ByteArray} (h : RowF okP B6 W A n xs) (hk : KeepC B6 W W') (hp : ∀ k, okP k → W.heap[k]? = Wt.heap[k]?) (hp' : ∀ k, okP k → W'.heap[k]? = Wt.heap[k]?) : RowF okP B6 W' A n xs := by
  obtain ⟨ok, hF, hok⟩ := h
  refine ⟨fun k => ok k ∧ k < W.heap.size, Kd.F_step (Kd.F_bound hF) fun k hk1 _ => ?_, fun k hk1 _ => ?_⟩
  · rcases hok k hk1.1 hk1.2 with ho | ⟨⟨cs, t, fr, hc⟩, hm⟩
    · exact (hp' k ho).trans (hp k ho).symm
    · exact (hk.blk k cs t fr hc hm).trans hc.symm
  · rcases hok k hk1.1 hk1.2 with ho | ⟨⟨cs, t, fr, hc⟩, hm⟩
    · exact .inl ho
    · refine .inr ⟨⟨cs, t, fr, hk.blk k cs t fr hc hm⟩, fun hm2 => ?_⟩
      rcases hk.new k hm2 with h1 | h1
      · exact hm h1
      · have := hk1.2
        omega
theorem RowF.C {okP : Nat → Prop} {B6 : Nat} {W : World} {A : Option Addr} {n : Nat} {xs : List ByteArray} (h : RowF okP B6 W A n xs) : Kd.C Kd.string W A n xs := by
  obtain ⟨ok, hF, _⟩ := h
  exact Kd.F_now hF
theorem may_below {B6 : Nat} {W W1 : World} (hB : B6 < W.heap.size) (hb : Below W.heap.size W W1) {k : Nat} (h : may B6 W1 k) : may B6 W k := by
  rcases h with rfl | ⟨v, hv, ho⟩
  · exact .inl rfl
  · exact .inr ⟨v, (hb.cell (p := ⟨B6, 0, none⟩) hB).symm.trans hv, ho⟩
/-- A row of one's own that is new since W. -/
theorem RowF.new {okP : Nat → Prop} {B6 e : Nat} {W W1 : World} {ok : Nat → Prop} {A : Option Addr} {c : Nat} {xs : List ByteArray} (h : Kd.R Kd.string e W1 W.heap.size ok (.slice A xs.length c) xs) (hB : B6 < W.heap.size) (hb : Below W.heap.size W W1) (hm : ∀ k, may B6 W k → k < W.heap.size) : RowF okP B6 W1 A xs.length xs := by
  refine ⟨_, Kd.R_F (Kd.R_bound h), fun k hk1 _ => .inr ?_⟩
  obtain ⟨_, hb1, hlt, q, _, cells, hc⟩ := hk1
  refine ⟨⟨cells, q, _, hc⟩, fun hm2 => ?_⟩
  have := hm k (may_below hB hb hm2)
  omega
/-- A row of one text that is new. -/
theorem RowF.one {okP : Nat → Prop} {B6 e : Nat} {W : World} (x : ByteArray) (hB : B6 < W.heap.size) (hm : ∀ k, may B6 W k → k < W.heap.size) : RowF okP B6 (W.alloc (.cells #[.string x] e)) (some ⟨W.heap.size, 0, none⟩) [x].length [x] := by
  refine RowF.new (W := W) (ok := fun _ => True) (c := 1) (e := e) ?_ hB ((Below.refl _ W).alloc (Nat.le_refl _) _) hm
  exact Kd.R_of_own ⟨by simp [encs], .inr ⟨W.heap.size, 1, _, rfl, Nat.le_refl _, heap_alloc_new W _, Nat.le_refl _, by decide, rfl, rfl⟩⟩ (fun _ _ => trivial)

theorem measM {n j : Nat} {v : Int} (hv : v = ((j + 1 : Nat) : Int)) (h : j < n) : n - (intOf (.int .i64 v)).toNat < n - (intOf (.int .i64 (j : Int))).toNat := by
  subst hv
  simp [intOf]
  omega
set_option maxHeartbeats 8000000 in
set_option maxRecDepth 100000 in
theorem mapped_runs (tx : ByteArray) (parts : List (List ByteArray)) (ls : List ByteArray) (vp : Value) (m Bt Bp B6 base : Nat) (okP : Nat → Prop) (Wt : World) (hm : 1 ≤ m) (hls : topic_Levels.f tx = some ls) (hn : ls.length ≤ 1000000) (hp : parts.length ≤ 1000000) (hpp : ∀ p ∈ parts, p.length ≤ 1000000)
    (hV : Kd.V (Kd.slice 9 Kd.string) 32 Wt base okP vp parts) (hokP : ∀ k, okP k → k < Wt.heap.size) (I : List ByteArray → World → Prop)
    (hI : ∀ pre W, I pre W → W.cell? ⟨Bt, 0, none⟩ = some (.string tx) ∧ W.cell? ⟨Bp, 0, none⟩ = some vp ∧ B6 < W.heap.size ∧ (∀ k, okP k → W.heap[k]? = Wt.heap[k]?) ∧ ∀ k, may B6 W k → k < W.heap.size) :
    Runs3 B6 m Tryd.prog 66 #[.pointer (some ⟨Bt, 0, none⟩), .pointer (some ⟨Bp, 0, none⟩)] (fun x : ByteArray => #[.string x]) I (okM (seqM parts ls)) (finM (seqM parts ls)) := by
  intro l J W hJI hAb hY h0
  show CallsIn Fence.wide m Tryd.prog 66 #[.func (.yield l) #[] #[], .pointer (some ⟨Bt, 0, none⟩), .pointer (some ⟨Bp, 0, none⟩)] W _
  obtain ⟨Ap, cp, evp, hcp, hFp⟩ := hV
  subst evp
  have HV : Aside0 (Kd.V (Kd.slice 9 Kd.string) 32 Wt base okP (.slice Ap parts.length cp) parts) := ⟨⟨Ap, cp, rfl, hcp, hFp⟩⟩
  clear hFp hcp
  obtain ⟨zt, zp, h6, hPw, hmy⟩ := hI _ _ (hJI _ _ h0)
  refine callsIn_of_wp Tryd.func66 rfl trivial ?_ rfl
  simp only [Tryd.ntmps66, List.size_toArray, List.length_cons, List.length_nil, Nat.reduceAdd, Nat.reduceSub, Array.replicate_succ, Array.replicate_zero, List.push_toArray, List.append_toArray, List.nil_append, List.cons_append]
  have HLS := Aside0.mk hls
  clear hls
  gi_wp2_with (refine ⟨trivial, ?_⟩; gi_at_call 46; refine (callsIn_wide.2 (topic_Levels.calls tx ls _ HLS.out)).mono ?_; rintro e w1 ⟨v0, rfl, ho, hb⟩; obtain ⟨A1, c1, e1⟩ := Kd.R_slice ho; subst e1; have HO := Aside0.mk ho; have HB1 := Aside0.mk hb; clear ho hb)
  have hJ1 : J [] w1 := hAb [] W w1 none h0 (grown_of_below HB1.out none) (fun r e => by cases e)
  have hrow : RowF okP B6 w1 A1 ls.length ls := RowF.new HO.out h6 HB1.out hmy
  have HJ1 := Aside0.mk hJ1
  have HF1 := Aside0.mk hrow
  clear zt zp h6 hPw hmy HO HB1 hJ1 hrow h0
  gi_loopw [13] (fun s13 wr => ∃ i : Nat, s13 = .int .i64 i ∧ Aside0 (i ≤ ls.length) ∧ Aside0 (J (seqM parts (ls.take i)) wr) ∧ Aside0 (RowF okP B6 wr A1 ls.length ls)) (fun s13 _ => ls.length - (intOf s13).toNat)
  case atStart => exact ⟨0, rfl, ⟨Nat.zero_le _⟩, HJ1, HF1⟩
  case round =>
    clear HJ1 HF1
    obtain ⟨i, rfl, HIL, HJ, HF⟩ := hrel
    by_cases hi : i < ls.length
    · have d1 : decide ((i : Int) < (ls.length : Int)) = true := decide_eq_true (by omega)
      have d2 : decide (i < ls.length) = true := decide_eq_true hi
      have d3 : (i : Int) < (ls.length : Int) := by omega
      have d4 : 0 ≤ (i : Int) := Int.natCast_nonneg i
      obtain ⟨zt, zp, h6, hPw, hmy⟩ := hI _ _ (hJI _ _ HJ.out)
      obtain ⟨ad, e0, hx⟩ := Kd.at_string HF.out.C (i : Int) d4 d3
      replace hx : wr.cell? (ad.add i) = some (.string (rdOf ByteArray.empty ls (i : Int))) := hx
      have hrd : rdOf ByteArray.empty ls (i : Int) = ls[i] := by
        show ls.getD i ByteArray.empty = _
        rw [List.getD_eq_getElem?_getD, List.getElem?_eq_getElem hi]
        rfl
      rw [hrd] at hx
      obtain ⟨rep, hrep⟩ : ∃ rep, rep = repl parts ls[i] := ⟨_, rfl⟩
      have hsp := seqM_split parts ls i hi
      have hnx := seqM_next parts ls i hi
      rw [← hrep] at hsp hnx
      have hi2 : wrap64 ((i : Int) + 1) = ((i + 1 : Nat) : Int) := upM i (by omega)
      have HI := Aside0.mk hi
      have HSP := Aside0.mk hsp
      have HNX := Aside0.mk hnx
      subst e0
      generalize hxe : ls[i] = x at hx hrep
      clear hxe hrd hsp hnx hi
      have hw := fun (W : World) => mapping_reference.calls x (refM x) W (refM_val x)
      obtain ⟨r0, r9⟩ := refM_in x
      unfold repl at hrep
      generalize refM x = rf at hrep hw r0 r9
      obtain ⟨wo, hwo⟩ : ∃ wo, wo = wr := ⟨_, rfl⟩
      subst hwo
      have zpa : ∀ o, (wo.alloc o).cell? ⟨Bp, 0, none⟩ = some (.slice Ap parts.length cp) := fun o => Lib.cell?_alloc_some _ zp
      have HI0 := HI
      by_cases hpos : 0 < rf
      · have b0 : decide (0 < rf) = true := decide_eq_true hpos
        by_cases hle : rf ≤ (parts.length : Int)
        · rw [if_pos ⟨hpos, hle⟩] at hrep
          have b1 : decide (rf ≤ (parts.length : Int)) = true := decide_eq_true hle
          have k0 : 0 ≤ rf - 1 := by omega
          have k1 : rf - 1 < (parts.length : Int) := by omega
          have k2 : IntKind.i64.wrap (rf - 1) = rf - 1 := (i64_w _).trans (by unfold wrap64; omega)
          have k3 : wrap64 (rf - 1) = rf - 1 := by unfold wrap64; omega
          have hVw : Kd.V (Kd.slice 9 Kd.string) 32 wo base okP (.slice Ap parts.length cp) parts := Kd.V_step HV.out (fun k hk _ => hPw k hk)
          obtain ⟨adp, eap⟩ : ∃ adp, Ap = some adp := by
            obtain ⟨ad', e', _⟩ := (Kd.F_now (Kd.V_at hVw).2.2).2.2 (by omega)
            exact ⟨ad', e'⟩
          subst eap
          obtain ⟨cs, _, hFK, hcell⟩ := Kd.V_get hVw [] (rf - 1) k0 k1
          rw [← hrep] at hFK
          obtain ⟨A7, c7, ecs, hc7, hF7⟩ := Kd.FK_slice_open hFK
          subst ecs
          have hz7 : wo.cell? (adp.add (rf - 1).toNat) = some (.slice A7 rep.length c7) := by
            have := hcell 0 _ rfl
            rwa [show (rf - 1).toNat * (Kd.slice 9 Kd.string).sz + 0 = (rf - 1).toNat from by show (rf - 1).toNat * 1 + 0 = _; omega] at this
          have hz7a : ∀ o, (wo.alloc o).cell? (adp.add (rf.toNat - 1)) = some (.slice A7 rep.length c7) := fun o => by rw [show rf.toNat - 1 = (rf - 1).toNat by omega]; exact Lib.cell?_alloc_some _ hz7
          have hrl : rep.length ≤ 1000000 := by
            refine hpp rep ?_
            rw [hrep, List.getD_eq_getElem?_getD, List.getElem?_eq_getElem (by omega)]
            exact List.getElem_mem _
          have HF7 : Aside0 (RowF okP B6 wo A7 rep.length rep) := ⟨⟨okP, hF7, fun k hk _ => .inl hk⟩⟩
          have HR7 := Aside0.mk hrl
          clear hVw hcell hFK hF7 hrl hle hrep
          gi_wp2_with (refine ⟨trivial, ?_⟩; gi_at_call 62; refine (callsIn_wide.2 (hw _)).mono ?_; rintro e w' ⟨rfl, ⟨nd, rfl⟩⟩)
          have h6b : B6 < (wo.alloc (.cells #[.string x] 9)).heap.size := by simp; omega
          have hbel : Below wo.heap.size wo ((wo.alloc (.cells #[.string x] 9)).drewN nd) := pw_below_drewN ((Below.refl _ wo).alloc (Nat.le_refl _) _) nd
          have hkc : KeepC B6 wo ((wo.alloc (.cells #[.string x] 9)).drewN nd) := KeepC.below h6 hbel
          have hJc : J (seqM parts (ls.take i)) ((wo.alloc (.cells #[.string x] 9)).drewN nd) := hAb _ wo _ none HJ.out (grown_of_below hbel none) (fun r e => by cases e)
          have hPc := (hI _ _ (hJI _ _ hJc)).2.2.2.1
          have hlev : RowF okP B6 ((wo.alloc (.cells #[.string x] 9)).drewN nd) (some ad) ls.length ls := HF.out.keep hkc hPw hPc
          have hrow : RowF okP B6 ((wo.alloc (.cells #[.string x] 9)).drewN nd) A7 rep.length rep := HF7.out.keep hkc hPw hPc
          have HRW := Aside0.mk hrow
          have HLV := Aside0.mk hlev
          have HJC := Aside0.mk hJc
          have HRL : Aside0 (rep.length ≤ 1000000) := ⟨HR7.out⟩
          have HNL : Aside0 (rep.length = rep.length) := ⟨rfl⟩
          clear hrow hlev hJc hPc hbel hkc h6b zt zp zpa h6 hPw hmy r0 r9 hpos hw HF HJ HI0 HF7 hz7 hz7a hc7 k0 k1 k2 k3 b1
          try clear hrep
          gi_loopw [36] (fun s36 wx => ∃ j : Nat, s36 = .int .i64 j ∧ Aside0 (j ≤ rep.length) ∧ Aside0 (J (seqM parts (ls.take i) ++ rep.take j) wx) ∧ Aside0 (RowF okP B6 wx A7 rep.length rep) ∧ Aside0 (RowF okP B6 wx (some ad) ls.length ls)) (fun s36 _ => rep.length - (intOf s36).toNat)
          case atStart => exact ⟨0, rfl, ⟨Nat.zero_le _⟩, ⟨by rw [List.take_zero, List.append_nil]; exact HJC.out⟩, HRW, HLV⟩
          case round =>
            clear HRW HLV HJC
            obtain ⟨j, rfl, HJL, HJ, HRW, HLV⟩ := hrel
            by_cases hj : j < rep.length
            · have d1 : decide ((j : Int) < (rep.length : Int)) = true := decide_eq_true (by have := HNL.out; omega)
              have d2 : decide (j < rep.length) = true := decide_eq_true (by have := HNL.out; omega)
              have d3 : (j : Int) < (rep.length : Int) := by omega
              have d3' : (j : Int) < (rep.length : Int) := by have := HNL.out; omega
              have d3n : j < rep.length := by have := HNL.out; omega
              have d4 : 0 ≤ (j : Int) := Int.natCast_nonneg j
              obtain ⟨ok, hF, hok⟩ := HRW.out
              obtain ⟨ad2, e0, hx2⟩ := Kd.at_string (Kd.F_now hF) (j : Int) d4 d3
              replace hx2 : wr.cell? (ad2.add j) = some (.string (rdOf ByteArray.empty rep (j : Int))) := hx2
              have hrd : rdOf ByteArray.empty rep (j : Int) = rep[j] := by
                show rep.getD j ByteArray.empty = _
                rw [List.getD_eq_getElem?_getD, List.getElem?_eq_getElem hj]
                rfl
              rw [hrd] at hx2
              have hnx : rep.take (j + 1) = rep.take j ++ [rep[j]] := List.take_succ_eq_append_getElem hj
              obtain ⟨fn, tmps, assign, body, hy, hRd⟩ := hY (seqM parts (ls.take i) ++ rep.take j) rep[j] wr HJ.out ⟨rep.drop (j + 1) ++ seqM parts (ls.drop (i + 1)), by
                rw [List.append_assoc, ← List.cons_append, List.getElem_cons_drop, ← List.append_assoc (rep.take j), List.take_append_drop]
                exact HSP.out⟩
              have HHJ := Aside0.mk hj
              have HNX2 := Aside0.mk hnx
              have e1 : wrap64 ((j : Int) + 1) = ((j + 1 : Nat) : Int) := upM j (by have := HRL.out; omega)
              subst e0
              clear hF hok hrd hnx d3
              generalize hxe : rep[j] = q at hx2 hy hRd HNX2
              clear hxe hj
              gi_wp2
              refine hRd.mono ?_
              rintro e W3 ⟨rfl, hJ3, hK3⟩
              gi_wp2
              go_roundw
              case rel => exact ⟨j + 1, by first | rfl | (simp; done) | (rw [e1]), ⟨HHJ.out⟩, ⟨by rw [HNX2.out, ← List.append_assoc]; exact hJ3⟩, ⟨HRW.out.keep hK3 (hI _ _ (hJI _ _ HJ.out)).2.2.2.1 (hI _ _ (hJI _ _ hJ3)).2.2.2.1⟩, ⟨HLV.out.keep hK3 (hI _ _ (hJI _ _ HJ.out)).2.2.2.1 (hI _ _ (hJI _ _ hJ3)).2.2.2.1⟩⟩
              case measure => first | exact measM (by first | rfl | exact e1 | (simp; done)) HHJ.out
            · have d1 : decide ((j : Int) < (rep.length : Int)) = false := decide_eq_false (by have := HNL.out; omega)
              have d2 : decide (j < rep.length) = false := decide_eq_false (by have := HNL.out; omega)
              have d3n : ¬ j < rep.length := by have := HNL.out; omega
              have hfin : seqM parts (ls.take i) ++ rep.take j = seqM parts (ls.take (i + 1)) := by
                rw [show j = rep.length from by have := HJL.out; omega, List.take_length]
                exact HNX.out.symm
              have HFN := Aside0.mk hfin
              clear hfin hj
              gi_wp2
              go_roundw
              case rel => exact ⟨i + 1, by first | rfl | (simp; done) | (rw [hi2]), ⟨HI.out⟩, ⟨by rw [← HFN.out]; exact HJ.out⟩, HLV⟩
              case measure => have := HI.out; simp [intOf]; omega
        · rw [if_neg (fun e => hle e.2)] at hrep
          have b1 : decide (rf ≤ (parts.length : Int)) = false := decide_eq_false hle
          clear hle
          gi_wp2_with (refine ⟨trivial, ?_⟩; gi_at_call 62; refine (callsIn_wide.2 (hw _)).mono ?_; rintro e w' ⟨rfl, ⟨nd, rfl⟩⟩)
          have h6b : B6 < (wo.alloc (.cells #[.string x] 9)).heap.size := by simp; omega
          have hbel : Below wo.heap.size wo ((wo.alloc (.cells #[.string x] 9)).drewN nd) := pw_below_drewN ((Below.refl _ wo).alloc (Nat.le_refl _) _) nd
          have hkc : KeepC B6 wo ((wo.alloc (.cells #[.string x] 9)).drewN nd) := KeepC.below h6 hbel
          have hJc : J (seqM parts (ls.take i)) ((wo.alloc (.cells #[.string x] 9)).drewN nd) := hAb _ wo _ none HJ.out (grown_of_below hbel none) (fun r e => by cases e)
          have hPc := (hI _ _ (hJI _ _ hJc)).2.2.2.1
          have hlev : RowF okP B6 ((wo.alloc (.cells #[.string x] 9)).drewN nd) (some ad) ls.length ls := HF.out.keep hkc hPw hPc
          have hrow : RowF okP B6 ((wo.alloc (.cells #[.string x] 9)).drewN nd) (some ⟨wo.heap.size, 0, none⟩) rep.length rep := (by rw [hrep]; exact RowF.keep (RowF.one x h6 hmy) (KeepC.below h6b (pw_below_drewN (Below.refl _ _) nd)) (hI _ _ (hJI _ _ (hAb _ wo _ none HJ.out (World.grownBy_alloc wo _ none) (fun r e => by cases e)))).2.2.2.1 hPc)
          have HRW := Aside0.mk hrow
          have HLV := Aside0.mk hlev
          have HJC := Aside0.mk hJc
          have HRL : Aside0 (rep.length ≤ 1000000) := ⟨by rw [hrep]; show 1 ≤ _; omega⟩
          have HNL : Aside0 (rep.length = 1) := ⟨by rw [hrep]; rfl⟩
          clear hrow hlev hJc hPc hbel hkc h6b zt zp zpa h6 hPw hmy r0 r9 hpos hw HF HJ HI0 
          try clear hrep
          gi_loopw [36] (fun s36 wx => ∃ j : Nat, s36 = .int .i64 j ∧ Aside0 (j ≤ rep.length) ∧ Aside0 (J (seqM parts (ls.take i) ++ rep.take j) wx) ∧ Aside0 (RowF okP B6 wx (some ⟨wo.heap.size, 0, none⟩) rep.length rep) ∧ Aside0 (RowF okP B6 wx (some ad) ls.length ls)) (fun s36 _ => rep.length - (intOf s36).toNat)
          case atStart => exact ⟨0, rfl, ⟨Nat.zero_le _⟩, ⟨by rw [List.take_zero, List.append_nil]; exact HJC.out⟩, HRW, HLV⟩
          case round =>
            clear HRW HLV HJC
            obtain ⟨j, rfl, HJL, HJ, HRW, HLV⟩ := hrel
            by_cases hj : j < rep.length
            · have d1 : decide ((j : Int) < (1 : Int)) = true := decide_eq_true (by have := HNL.out; omega)
              have d2 : decide (j < 1) = true := decide_eq_true (by have := HNL.out; omega)
              have d3 : (j : Int) < (rep.length : Int) := by omega
              have d3' : (j : Int) < (1 : Int) := by have := HNL.out; omega
              have d3n : j < 1 := by have := HNL.out; omega
              have d4 : 0 ≤ (j : Int) := Int.natCast_nonneg j
              obtain ⟨ok, hF, hok⟩ := HRW.out
              obtain ⟨ad2, e0, hx2⟩ := Kd.at_string (Kd.F_now hF) (j : Int) d4 d3
              replace hx2 : wr.cell? (ad2.add j) = some (.string (rdOf ByteArray.empty rep (j : Int))) := hx2
              have hrd : rdOf ByteArray.empty rep (j : Int) = rep[j] := by
                show rep.getD j ByteArray.empty = _
                rw [List.getD_eq_getElem?_getD, List.getElem?_eq_getElem hj]
                rfl
              rw [hrd] at hx2
              have hnx : rep.take (j + 1) = rep.take j ++ [rep[j]] := List.take_succ_eq_append_getElem hj
              obtain ⟨fn, tmps, assign, body, hy, hRd⟩ := hY (seqM parts (ls.take i) ++ rep.take j) rep[j] wr HJ.out ⟨rep.drop (j + 1) ++ seqM parts (ls.drop (i + 1)), by
                rw [List.append_assoc, ← List.cons_append, List.getElem_cons_drop, ← List.append_assoc (rep.take j), List.take_append_drop]
                exact HSP.out⟩
              have HHJ := Aside0.mk hj
              have HNX2 := Aside0.mk hnx
              have e1 : wrap64 ((j : Int) + 1) = ((j + 1 : Nat) : Int) := upM j (by have := HRL.out; omega)
              obtain rfl : (⟨wo.heap.size, 0, none⟩ : Addr) = ad2 := Option.some.inj e0
              replace hx2 : wr.cell? ⟨wo.heap.size, 0 + j, none⟩ = some (.string rep[j]) := by rw [← Go.WideShapes.add_plain]; exact hx2
              rw [Nat.zero_add] at hx2
              clear hF hok hrd hnx d3
              generalize hxe : rep[j] = q at hx2 hy hRd HNX2
              clear hxe hj
              gi_wp2
              refine hRd.mono ?_
              rintro e W3 ⟨rfl, hJ3, hK3⟩
              gi_wp2
              go_roundw
              case rel => exact ⟨j + 1, by first | rfl | (simp; done) | (rw [e1]), ⟨HHJ.out⟩, ⟨by rw [HNX2.out, ← List.append_assoc]; exact hJ3⟩, ⟨HRW.out.keep hK3 (hI _ _ (hJI _ _ HJ.out)).2.2.2.1 (hI _ _ (hJI _ _ hJ3)).2.2.2.1⟩, ⟨HLV.out.keep hK3 (hI _ _ (hJI _ _ HJ.out)).2.2.2.1 (hI _ _ (hJI _ _ hJ3)).2.2.2.1⟩⟩
              case measure => first | exact measM (by first | rfl | exact e1 | (simp; done)) HHJ.out
            · have d1 : decide ((j : Int) < (1 : Int)) = false := decide_eq_false (by have := HNL.out; omega)
              have d2 : decide (j < 1) = false := decide_eq_false (by have := HNL.out; omega)
              have d3n : ¬ j < 1 := by have := HNL.out; omega
              have hfin : seqM parts (ls.take i) ++ rep.take j = seqM parts (ls.take (i + 1)) := by
                rw [show j = rep.length from by have := HJL.out; omega, List.take_length]
                exact HNX.out.symm
              have HFN := Aside0.mk hfin
              clear hfin hj
              gi_wp2
              go_roundw
              case rel => exact ⟨i + 1, by first | rfl | (simp; done) | (rw [hi2]), ⟨HI.out⟩, ⟨by rw [← HFN.out]; exact HJ.out⟩, HLV⟩
              case measure => have := HI.out; simp [intOf]; omega
      · rw [if_neg (fun e => hpos e.1)] at hrep
        have b0 : decide (0 < rf) = false := decide_eq_false hpos
        gi_wp2_with (refine ⟨trivial, ?_⟩; gi_at_call 62; refine (callsIn_wide.2 (hw _)).mono ?_; rintro e w' ⟨rfl, ⟨nd, rfl⟩⟩)
        have h6b : B6 < (wo.alloc (.cells #[.string x] 9)).heap.size := by simp; omega
        have hbel : Below wo.heap.size wo ((wo.alloc (.cells #[.string x] 9)).drewN nd) := pw_below_drewN ((Below.refl _ wo).alloc (Nat.le_refl _) _) nd
        have hkc : KeepC B6 wo ((wo.alloc (.cells #[.string x] 9)).drewN nd) := KeepC.below h6 hbel
        have hJc : J (seqM parts (ls.take i)) ((wo.alloc (.cells #[.string x] 9)).drewN nd) := hAb _ wo _ none HJ.out (grown_of_below hbel none) (fun r e => by cases e)
        have hPc := (hI _ _ (hJI _ _ hJc)).2.2.2.1
        have hlev : RowF okP B6 ((wo.alloc (.cells #[.string x] 9)).drewN nd) (some ad) ls.length ls := HF.out.keep hkc hPw hPc
        have hrow : RowF okP B6 ((wo.alloc (.cells #[.string x] 9)).drewN nd) (some ⟨wo.heap.size, 0, none⟩) rep.length rep := (by rw [hrep]; exact RowF.keep (RowF.one x h6 hmy) (KeepC.below h6b (pw_below_drewN (Below.refl _ _) nd)) (hI _ _ (hJI _ _ (hAb _ wo _ none HJ.out (World.grownBy_alloc wo _ none) (fun r e => by cases e)))).2.2.2.1 hPc)
        have HRW := Aside0.mk hrow
        have HLV := Aside0.mk hlev
        have HJC := Aside0.mk hJc
        have HRL : Aside0 (rep.length ≤ 1000000) := ⟨by rw [hrep]; show 1 ≤ _; omega⟩
        have HNL : Aside0 (rep.length = 1) := ⟨by rw [hrep]; rfl⟩
        clear hrow hlev hJc hPc hbel hkc h6b zt zp zpa h6 hPw hmy r0 r9 hpos hw HF HJ HI0 
        try clear hrep
        gi_loopw [36] (fun s36 wx => ∃ j : Nat, s36 = .int .i64 j ∧ Aside0 (j ≤ rep.length) ∧ Aside0 (J (seqM parts (ls.take i) ++ rep.take j) wx) ∧ Aside0 (RowF okP B6 wx (some ⟨wo.heap.size, 0, none⟩) rep.length rep) ∧ Aside0 (RowF okP B6 wx (some ad) ls.length ls)) (fun s36 _ => rep.length - (intOf s36).toNat)
        case atStart => exact ⟨0, rfl, ⟨Nat.zero_le _⟩, ⟨by rw [List.take_zero, List.append_nil]; exact HJC.out⟩, HRW, HLV⟩
        case round =>
          clear HRW HLV HJC
          obtain ⟨j, rfl, HJL, HJ, HRW, HLV⟩ := hrel
          by_cases hj : j < rep.length
          · have d1 : decide ((j : Int) < (1 : Int)) = true := decide_eq_true (by have := HNL.out; omega)
            have d2 : decide (j < 1) = true := decide_eq_true (by have := HNL.out; omega)
            have d3 : (j : Int) < (rep.length : Int) := by omega
            have d3' : (j : Int) < (1 : Int) := by have := HNL.out; omega
            have d3n : j < 1 := by have := HNL.out; omega
            have d4 : 0 ≤ (j : Int) := Int.natCast_nonneg j
            obtain ⟨ok, hF, hok⟩ := HRW.out
            obtain ⟨ad2, e0, hx2⟩ := Kd.at_string (Kd.F_now hF) (j : Int) d4 d3
            replace hx2 : wr.cell? (ad2.add j) = some (.string (rdOf ByteArray.empty rep (j : Int))) := hx2
            have hrd : rdOf ByteArray.empty rep (j : Int) = rep[j] := by
              show rep.getD j ByteArray.empty = _
              rw [List.getD_eq_getElem?_getD, List.getElem?_eq_getElem hj]
              rfl
            rw [hrd] at hx2
            have hnx : rep.take (j + 1) = rep.take j ++ [rep[j]] := List.take_succ_eq_append_getElem hj
            obtain ⟨fn, tmps, assign, body, hy, hRd⟩ := hY (seqM parts (ls.take i) ++ rep.take j) rep[j] wr HJ.out ⟨rep.drop (j + 1) ++ seqM parts (ls.drop (i + 1)), by
              rw [List.append_assoc, ← List.cons_append, List.getElem_cons_drop, ← List.append_assoc (rep.take j), List.take_append_drop]
              exact HSP.out⟩
            have HHJ := Aside0.mk hj
            have HNX2 := Aside0.mk hnx
            have e1 : wrap64 ((j : Int) + 1) = ((j + 1 : Nat) : Int) := upM j (by have := HRL.out; omega)
            obtain rfl : (⟨wo.heap.size, 0, none⟩ : Addr) = ad2 := Option.some.inj e0
            replace hx2 : wr.cell? ⟨wo.heap.size, 0 + j, none⟩ = some (.string rep[j]) := by rw [← Go.WideShapes.add_plain]; exact hx2
            rw [Nat.zero_add] at hx2
            clear hF hok hrd hnx d3
            generalize hxe : rep[j] = q at hx2 hy hRd HNX2
            clear hxe hj
            gi_wp2
            refine hRd.mono ?_
            rintro e W3 ⟨rfl, hJ3, hK3⟩
            gi_wp2
            go_roundw
            case rel => exact ⟨j + 1, by first | rfl | (simp; done) | (rw [e1]), ⟨HHJ.out⟩, ⟨by rw [HNX2.out, ← List.append_assoc]; exact hJ3⟩, ⟨HRW.out.keep hK3 (hI _ _ (hJI _ _ HJ.out)).2.2.2.1 (hI _ _ (hJI _ _ hJ3)).2.2.2.1⟩, ⟨HLV.out.keep hK3 (hI _ _ (hJI _ _ HJ.out)).2.2.2.1 (hI _ _ (hJI _ _ hJ3)).2.2.2.1⟩⟩
            case measure => first | exact measM (by first | rfl | exact e1 | (simp; done)) HHJ.out
          · have d1 : decide ((j : Int) < (1 : Int)) = false := decide_eq_false (by have := HNL.out; omega)
            have d2 : decide (j < 1) = false := decide_eq_false (by have := HNL.out; omega)
            have d3n : ¬ j < 1 := by have := HNL.out; omega
            have hfin : seqM parts (ls.take i) ++ rep.take j = seqM parts (ls.take (i + 1)) := by
              rw [show j = rep.length from by have := HJL.out; omega, List.take_length]
              exact HNX.out.symm
            have HFN := Aside0.mk hfin
            clear hfin hj
            gi_wp2
            go_roundw
            case rel => exact ⟨i + 1, by first | rfl | (simp; done) | (rw [hi2]), ⟨HI.out⟩, ⟨by rw [← HFN.out]; exact HJ.out⟩, HLV⟩
            case measure => have := HI.out; simp [intOf]; omega
    · have d1 : decide ((i : Int) < (ls.length : Int)) = false := decide_eq_false (by omega)
      have d2 : decide (i < ls.length) = false := decide_eq_false hi
      have hie : i = ls.length := by have := HIL.out; omega
      have hfin : seqM parts (ls.take i) = seqM parts ls := by rw [hie, List.take_length]
      have HFN := Aside0.mk hfin
      clear hie hfin
      gi_wp2
      go_end0
      exact ⟨⟨_, rfl⟩, _, HFN.out, HJ.out⟩
end Go.Proofs.YtegcobkhejpmkaaDoor.P
