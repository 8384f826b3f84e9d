/- The law TopPatterns, walked over what its callees answer. -/
import Derived.Test.YtfcomjinaokeaaaGreatDoorHandY
namespace Go.Proofs.YtfcomjinaokeaaaGreatDoor.P
open Go.RowKit Go.Proofs.YtfcomjinaokeaaaGreatDoorW.PrintWords Go.Proofs.YtfcomjinaokeaaaGreatDoorW.PrintLast Go.Proofs.YtfcomjinaokeaaaGreatDoorW.PrintMore
set_option linter.unusedVariables false

/-- What a call answers at these arguments, from every world. -/
def Ret (f : Nat) (args : Array Value) (v : Value) : Prop := ∀ W, Calls Tryz.prog f args W fun e w' => e = .returned v ∧ Below W.heap.size W w'
theorem OneB.set {n : Nat} {q : ByteArray} {v : Value} {w : World} (h : OneB n q v w) {p : Addr} (hp : p.block < n) (x : Value) : OneB n q v (w.setCell p x) := by
  obtain ⟨b, o, c, rfl, h1, h3, h6⟩ := h
  exact ⟨b, o, c, rfl, by simp [h1], fun j u hj => (World.cell?_setCell_other _ _ _ _ (fun e => absurd hp (by rw [e]; exact Nat.not_lt.2 h6))).trans (h3 j u hj), h6⟩

set_option maxHeartbeats 2000000 in
set_option maxRecDepth 100000 in
theorem top_none (a b : ByteArray) (w : World) (h1 : Ret 4 #[.string ⟨#[97, 47, 43]⟩] (.tuple #[.string ⟨#[97, 46, 42]⟩, .bool true])) (h2 : Ret 4 #[.string a] (.tuple #[.string ByteArray.empty, .bool false])) (h3 : Ret 5 #[.string a] (.bool false)) :
    Calls Tryz.prog 3 #[.string a, .string b] w fun e w' => e = .returned (.bool true) ∧ Below w.heap.size w w' := by
  go_enter Tryz.func3, Tryz.ntmps3
  go_wp2_with fail
  refine (h1 _).mono ?_
  rintro e w1 ⟨rfl, hb1⟩
  go_wp2_with fail
  refine (h2 _).mono ?_
  rintro e w2 ⟨rfl, hb2⟩
  go_wp2_with fail
  refine (h3 _).mono ?_
  rintro e w3 ⟨rfl, hb3⟩
  go_wp2_with fail
  go_ret
  exact ⟨rfl, hb1.trans ((hb2.trans (hb3.mono hb2.size)).mono hb1.size)⟩

set_option maxHeartbeats 2000000 in
set_option maxRecDepth 100000 in
theorem top_novalid (a b p : ByteArray) (w : World) (h1 : Ret 4 #[.string ⟨#[97, 47, 43]⟩] (.tuple #[.string ⟨#[97, 46, 42]⟩, .bool true])) (h2 : Ret 4 #[.string a] (.tuple #[.string p, .bool true])) (h3 : Ret 5 #[.string a] (.bool true)) (h4 : Ret 6 #[.string b] (.bool false)) :
    Calls Tryz.prog 3 #[.string a, .string b] w fun e w' => e = .returned (.bool true) ∧ Below w.heap.size w w' := by
  go_enter Tryz.func3, Tryz.ntmps3
  go_wp2_with fail
  refine (h1 _).mono ?_
  rintro e w1 ⟨rfl, hb1⟩
  go_wp2_with fail
  refine (h2 _).mono ?_
  rintro e w2 ⟨rfl, hb2⟩
  go_wp2_with fail
  refine (h3 _).mono ?_
  rintro e w3 ⟨rfl, hb3⟩
  go_wp2_with fail
  refine (h4 _).mono ?_
  rintro e w4 ⟨rfl, hb4⟩
  go_wp2_with fail
  go_ret
  exact ⟨rfl, hb1.trans ((hb2.trans ((hb3.trans (hb4.mono hb3.size)).mono hb2.size)).mono hb1.size)⟩

set_option maxHeartbeats 2000000 in
set_option maxRecDepth 100000 in
theorem top_longp (a b p k : ByteArray) (w : World) (h1 : Ret 4 #[.string ⟨#[97, 47, 43]⟩] (.tuple #[.string ⟨#[97, 46, 42]⟩, .bool true])) (h2 : Ret 4 #[.string a] (.tuple #[.string p, .bool true])) (h3 : Ret 5 #[.string a] (.bool true)) (h4 : Ret 6 #[.string b] (.bool true)) (h5 : Ret 7 #[.string b] (.string k)) (h6 : Ret 8 #[.string k] (.tuple #[.string b, .bool true])) (hp : (p.size : Int) > 64) :
    Calls Tryz.prog 3 #[.string a, .string b] w fun e w' => e = .returned (.bool true) ∧ Below w.heap.size w w' := by
  go_enter Tryz.func3, Tryz.ntmps3
  go_wp2_with fail
  refine (h1 _).mono ?_
  rintro e w1 ⟨rfl, hb1⟩
  go_wp2_with fail
  refine (h2 _).mono ?_
  rintro e w2 ⟨rfl, hb2⟩
  go_wp2_with fail
  refine (h3 _).mono ?_
  rintro e w3 ⟨rfl, hb3⟩
  go_wp2_with fail
  refine (h4 _).mono ?_
  rintro e w4 ⟨rfl, hb4⟩
  go_wp2_with fail
  refine (h5 _).mono ?_
  rintro e w5 ⟨rfl, hb5⟩
  go_wp2_with fail
  refine (h6 _).mono ?_
  rintro e w6 ⟨rfl, hb6⟩
  go_wp2_with fail
  go_ret
  exact ⟨rfl, hb1.trans ((hb2.trans ((hb3.trans ((hb4.trans ((hb5.trans (hb6.mono hb5.size)).mono hb4.size)).mono hb3.size)).mono hb2.size)).mono hb1.size)⟩

set_option maxHeartbeats 2000000 in
set_option maxRecDepth 100000 in
theorem top_longk (a b p k : ByteArray) (w : World) (h1 : Ret 4 #[.string ⟨#[97, 47, 43]⟩] (.tuple #[.string ⟨#[97, 46, 42]⟩, .bool true])) (h2 : Ret 4 #[.string a] (.tuple #[.string p, .bool true])) (h3 : Ret 5 #[.string a] (.bool true)) (h4 : Ret 6 #[.string b] (.bool true)) (h5 : Ret 7 #[.string b] (.string k)) (h6 : Ret 8 #[.string k] (.tuple #[.string b, .bool true])) (hp : ¬ (p.size : Int) > 64) (hk : (k.size : Int) > 64) :
    Calls Tryz.prog 3 #[.string a, .string b] w fun e w' => e = .returned (.bool true) ∧ Below w.heap.size w w' := by
  go_enter Tryz.func3, Tryz.ntmps3
  go_wp2_with fail
  refine (h1 _).mono ?_
  rintro e w1 ⟨rfl, hb1⟩
  go_wp2_with fail
  refine (h2 _).mono ?_
  rintro e w2 ⟨rfl, hb2⟩
  go_wp2_with fail
  refine (h3 _).mono ?_
  rintro e w3 ⟨rfl, hb3⟩
  go_wp2_with fail
  refine (h4 _).mono ?_
  rintro e w4 ⟨rfl, hb4⟩
  go_wp2_with fail
  refine (h5 _).mono ?_
  rintro e w5 ⟨rfl, hb5⟩
  go_wp2_with fail
  refine (h6 _).mono ?_
  rintro e w6 ⟨rfl, hb6⟩
  go_wp2_with fail
  go_ret
  exact ⟨rfl, hb1.trans ((hb2.trans ((hb3.trans ((hb4.trans ((hb5.trans (hb6.mono hb5.size)).mono hb4.size)).mono hb3.size)).mono hb2.size)).mono hb1.size)⟩

set_option maxHeartbeats 4000000 in
set_option maxRecDepth 100000 in
theorem top_true_plus (a b p k : ByteArray) (w : World) (h1 : Ret 4 #[.string ⟨#[97, 47, 43]⟩] (.tuple #[.string ⟨#[97, 46, 42]⟩, .bool true])) (h2 : Ret 4 #[.string a] (.tuple #[.string p, .bool true])) (h3 : Ret 5 #[.string a] (.bool true)) (h4 : Ret 6 #[.string b] (.bool true)) (h5 : Ret 7 #[.string b] (.string k)) (h6 : Ret 8 #[.string k] (.tuple #[.string b, .bool true])) (hp : ¬ (p.size : Int) > 64) (hk : ¬ (k.size : Int) > 64) (hN : NameOk topicsS) (hq : NameOk qS) (hpp : PlainOk p) (hpk : PlainOk k) (hm : MatchIs p k true) (h7 : Ret 12 #[.string b] (.bool true)) (ha : 0 < a.size) (hw : (a[0].toNat : Int) = 43) :
    Calls Tryz.prog 3 #[.string a, .string b] w fun e w' => e = .returned (.bool true) ∧ Below w.heap.size w w' := by
  go_enter Tryz.func3, Tryz.ntmps3
  go_wp2_with fail
  refine (h1 _).mono ?_
  rintro e w1 ⟨rfl, hb1⟩
  go_wp2_with fail
  refine (h2 _).mono ?_
  rintro e w2 ⟨rfl, hb2⟩
  go_wp2_with fail
  refine (h3 _).mono ?_
  rintro e w3 ⟨rfl, hb3⟩
  go_wp2_with fail
  refine (h4 _).mono ?_
  rintro e w4 ⟨rfl, hb4⟩
  go_wp2_with fail
  refine (h5 _).mono ?_
  rintro e w5 ⟨rfl, hb5⟩
  go_wp2_with fail
  refine (h6 _).mono ?_
  rintro e w6 ⟨rfl, hb6⟩
  have B6 := Aside0.mk (hb1.trans ((hb2.trans ((hb3.trans ((hb4.trans ((hb5.trans (hb6.mono hb5.size)).mono hb4.size)).mono hb3.size)).mono hb2.size)).mono hb1.size))
  go_wp2_with fail
  refine (declare_calls hN _).mono ?_
  rintro e w7 ⟨v7, rfl, hx7, hb7⟩
  have HX := Aside0.mk hx7
  obtain ⟨b7, o7, c7, rfl, hy7⟩ := hx7
  clear hy7
  go_wp2_with fail
  refine (bind_calls (n := 0) _ p _ ((HX.out.alloc _).low (Nat.zero_le _)) hN hq hpp).mono ?_
  rintro e w8 ⟨v8, u8, rfl, hx8, hy8, hb8⟩
  have HX8 := Aside0.mk hx8
  have HY8 := Aside0.mk hy8
  obtain ⟨b8, o8, c8, rfl, hz8⟩ := hx8
  obtain ⟨b9, o9, c9, rfl, hz9⟩ := hy8
  clear hz8 hz9
  obtain ⟨hc8, hf8⟩ := bcell hb8
  have z8 : w7.heap.size < w8.heap.size := by have := hb8.size; simp at this; omega
  have y7 : w6.heap.size ≤ w7.heap.size := hb7.size
  have hlt : w7.heap.size < (w7.alloc (.cells #[.slice (some ⟨b7, o7, none⟩) 1 c7, .slice none 0 0] 29)).heap.size := by simp
  have B8 := Aside0.mk (((hb7.alloc y7 _).trans (hb8.mono (Nat.le_trans y7 (Nat.le_of_lt hlt)))).setCell (p := ⟨w7.heap.size, 0, none⟩) y7 (.slice (some ⟨b8, o8, none⟩) 1 c8) |>.setCell (p := ⟨w7.heap.size, 1, none⟩) y7 (.slice (some ⟨b9, o9, none⟩) 1 c9))
  go_wp2_with fail
  refine (route_calls _ _ p k true _ ((HX8.out.set hlt _).set hlt _) ((HY8.out.set hlt _).set hlt _) hm hN hpk).mono ?_
  rintro e w9 ⟨v9, rfl, hq9, hb9⟩
  have B9 := Aside0.mk (B6.out.trans ((B8.out.trans (hb9.mono (by simp; omega))).mono B6.out.size))
  obtain ⟨b10, o10, c10, rfl, l1, l2⟩ := out_true hq9
  replace l2 : w9.cell? ⟨b10, o10, none⟩ = some (.string ⟨#[113]⟩) := l2
  clear hq9
  go_wp2_with fail
  refine (h7 _).mono ?_
  rintro e w10 ⟨rfl, hb10⟩
  go_wp2_with fail
  go_ret
  exact ⟨rfl, B9.out.trans (hb10.mono B9.out.size)⟩

set_option maxHeartbeats 4000000 in
set_option maxRecDepth 100000 in
theorem top_true_hash (a b p k : ByteArray) (w : World) (h1 : Ret 4 #[.string ⟨#[97, 47, 43]⟩] (.tuple #[.string ⟨#[97, 46, 42]⟩, .bool true])) (h2 : Ret 4 #[.string a] (.tuple #[.string p, .bool true])) (h3 : Ret 5 #[.string a] (.bool true)) (h4 : Ret 6 #[.string b] (.bool true)) (h5 : Ret 7 #[.string b] (.string k)) (h6 : Ret 8 #[.string k] (.tuple #[.string b, .bool true])) (hp : ¬ (p.size : Int) > 64) (hk : ¬ (k.size : Int) > 64) (hN : NameOk topicsS) (hq : NameOk qS) (hpp : PlainOk p) (hpk : PlainOk k) (hm : MatchIs p k true) (h7 : Ret 12 #[.string b] (.bool true)) (ha : 0 < a.size) (hw : (a[0].toNat : Int) = 35) :
    Calls Tryz.prog 3 #[.string a, .string b] w fun e w' => e = .returned (.bool true) ∧ Below w.heap.size w w' := by
  go_enter Tryz.func3, Tryz.ntmps3
  go_wp2_with fail
  refine (h1 _).mono ?_
  rintro e w1 ⟨rfl, hb1⟩
  go_wp2_with fail
  refine (h2 _).mono ?_
  rintro e w2 ⟨rfl, hb2⟩
  go_wp2_with fail
  refine (h3 _).mono ?_
  rintro e w3 ⟨rfl, hb3⟩
  go_wp2_with fail
  refine (h4 _).mono ?_
  rintro e w4 ⟨rfl, hb4⟩
  go_wp2_with fail
  refine (h5 _).mono ?_
  rintro e w5 ⟨rfl, hb5⟩
  go_wp2_with fail
  refine (h6 _).mono ?_
  rintro e w6 ⟨rfl, hb6⟩
  have B6 := Aside0.mk (hb1.trans ((hb2.trans ((hb3.trans ((hb4.trans ((hb5.trans (hb6.mono hb5.size)).mono hb4.size)).mono hb3.size)).mono hb2.size)).mono hb1.size))
  go_wp2_with fail
  refine (declare_calls hN _).mono ?_
  rintro e w7 ⟨v7, rfl, hx7, hb7⟩
  have HX := Aside0.mk hx7
  obtain ⟨b7, o7, c7, rfl, hy7⟩ := hx7
  clear hy7
  go_wp2_with fail
  refine (bind_calls (n := 0) _ p _ ((HX.out.alloc _).low (Nat.zero_le _)) hN hq hpp).mono ?_
  rintro e w8 ⟨v8, u8, rfl, hx8, hy8, hb8⟩
  have HX8 := Aside0.mk hx8
  have HY8 := Aside0.mk hy8
  obtain ⟨b8, o8, c8, rfl, hz8⟩ := hx8
  obtain ⟨b9, o9, c9, rfl, hz9⟩ := hy8
  clear hz8 hz9
  obtain ⟨hc8, hf8⟩ := bcell hb8
  have z8 : w7.heap.size < w8.heap.size := by have := hb8.size; simp at this; omega
  have y7 : w6.heap.size ≤ w7.heap.size := hb7.size
  have hlt : w7.heap.size < (w7.alloc (.cells #[.slice (some ⟨b7, o7, none⟩) 1 c7, .slice none 0 0] 29)).heap.size := by simp
  have B8 := Aside0.mk (((hb7.alloc y7 _).trans (hb8.mono (Nat.le_trans y7 (Nat.le_of_lt hlt)))).setCell (p := ⟨w7.heap.size, 0, none⟩) y7 (.slice (some ⟨b8, o8, none⟩) 1 c8) |>.setCell (p := ⟨w7.heap.size, 1, none⟩) y7 (.slice (some ⟨b9, o9, none⟩) 1 c9))
  go_wp2_with fail
  refine (route_calls _ _ p k true _ ((HX8.out.set hlt _).set hlt _) ((HY8.out.set hlt _).set hlt _) hm hN hpk).mono ?_
  rintro e w9 ⟨v9, rfl, hq9, hb9⟩
  have B9 := Aside0.mk (B6.out.trans ((B8.out.trans (hb9.mono (by simp; omega))).mono B6.out.size))
  obtain ⟨b10, o10, c10, rfl, l1, l2⟩ := out_true hq9
  replace l2 : w9.cell? ⟨b10, o10, none⟩ = some (.string ⟨#[113]⟩) := l2
  clear hq9
  go_wp2_with fail
  refine (h7 _).mono ?_
  rintro e w10 ⟨rfl, hb10⟩
  go_wp2_with fail
  go_ret
  exact ⟨rfl, B9.out.trans (hb10.mono B9.out.size)⟩

set_option maxHeartbeats 4000000 in
set_option maxRecDepth 100000 in
theorem top_true_sys (a b p k : ByteArray) (w : World) (h1 : Ret 4 #[.string ⟨#[97, 47, 43]⟩] (.tuple #[.string ⟨#[97, 46, 42]⟩, .bool true])) (h2 : Ret 4 #[.string a] (.tuple #[.string p, .bool true])) (h3 : Ret 5 #[.string a] (.bool true)) (h4 : Ret 6 #[.string b] (.bool true)) (h5 : Ret 7 #[.string b] (.string k)) (h6 : Ret 8 #[.string k] (.tuple #[.string b, .bool true])) (hp : ¬ (p.size : Int) > 64) (hk : ¬ (k.size : Int) > 64) (hN : NameOk topicsS) (hq : NameOk qS) (hpp : PlainOk p) (hpk : PlainOk k) (hm : MatchIs p k true) (h7 : Ret 12 #[.string b] (.bool true)) (ha : 0 < a.size) (hw : ((a[0].toNat : Int) == 43) = false) (hw2 : ((a[0].toNat : Int) == 35) = false) (h8 : Ret 13 #[.string a, .string b] (.bool true)) :
    Calls Tryz.prog 3 #[.string a, .string b] w fun e w' => e = .returned (.bool true) ∧ Below w.heap.size w w' := by
  go_enter Tryz.func3, Tryz.ntmps3
  go_wp2_with fail
  refine (h1 _).mono ?_
  rintro e w1 ⟨rfl, hb1⟩
  go_wp2_with fail
  refine (h2 _).mono ?_
  rintro e w2 ⟨rfl, hb2⟩
  go_wp2_with fail
  refine (h3 _).mono ?_
  rintro e w3 ⟨rfl, hb3⟩
  go_wp2_with fail
  refine (h4 _).mono ?_
  rintro e w4 ⟨rfl, hb4⟩
  go_wp2_with fail
  refine (h5 _).mono ?_
  rintro e w5 ⟨rfl, hb5⟩
  go_wp2_with fail
  refine (h6 _).mono ?_
  rintro e w6 ⟨rfl, hb6⟩
  have B6 := Aside0.mk (hb1.trans ((hb2.trans ((hb3.trans ((hb4.trans ((hb5.trans (hb6.mono hb5.size)).mono hb4.size)).mono hb3.size)).mono hb2.size)).mono hb1.size))
  go_wp2_with fail
  refine (declare_calls hN _).mono ?_
  rintro e w7 ⟨v7, rfl, hx7, hb7⟩
  have HX := Aside0.mk hx7
  obtain ⟨b7, o7, c7, rfl, hy7⟩ := hx7
  clear hy7
  go_wp2_with fail
  refine (bind_calls (n := 0) _ p _ ((HX.out.alloc _).low (Nat.zero_le _)) hN hq hpp).mono ?_
  rintro e w8 ⟨v8, u8, rfl, hx8, hy8, hb8⟩
  have HX8 := Aside0.mk hx8
  have HY8 := Aside0.mk hy8
  obtain ⟨b8, o8, c8, rfl, hz8⟩ := hx8
  obtain ⟨b9, o9, c9, rfl, hz9⟩ := hy8
  clear hz8 hz9
  obtain ⟨hc8, hf8⟩ := bcell hb8
  have z8 : w7.heap.size < w8.heap.size := by have := hb8.size; simp at this; omega
  have y7 : w6.heap.size ≤ w7.heap.size := hb7.size
  have hlt : w7.heap.size < (w7.alloc (.cells #[.slice (some ⟨b7, o7, none⟩) 1 c7, .slice none 0 0] 29)).heap.size := by simp
  have B8 := Aside0.mk (((hb7.alloc y7 _).trans (hb8.mono (Nat.le_trans y7 (Nat.le_of_lt hlt)))).setCell (p := ⟨w7.heap.size, 0, none⟩) y7 (.slice (some ⟨b8, o8, none⟩) 1 c8) |>.setCell (p := ⟨w7.heap.size, 1, none⟩) y7 (.slice (some ⟨b9, o9, none⟩) 1 c9))
  go_wp2_with fail
  refine (route_calls _ _ p k true _ ((HX8.out.set hlt _).set hlt _) ((HY8.out.set hlt _).set hlt _) hm hN hpk).mono ?_
  rintro e w9 ⟨v9, rfl, hq9, hb9⟩
  have B9 := Aside0.mk (B6.out.trans ((B8.out.trans (hb9.mono (by simp; omega))).mono B6.out.size))
  obtain ⟨b10, o10, c10, rfl, l1, l2⟩ := out_true hq9
  replace l2 : w9.cell? ⟨b10, o10, none⟩ = some (.string ⟨#[113]⟩) := l2
  clear hq9
  go_wp2_with fail
  refine (h7 _).mono ?_
  rintro e w10 ⟨rfl, hb10⟩
  go_wp2_with fail
  refine (h8 _).mono ?_
  rintro e w11 ⟨rfl, hb11⟩
  go_wp2_with fail
  go_ret
  exact ⟨rfl, B9.out.trans ((hb10.trans (hb11.mono hb10.size)).mono B9.out.size)⟩

set_option maxHeartbeats 4000000 in
set_option maxRecDepth 100000 in
theorem top_true_nosys (a b p k : ByteArray) (w : World) (h1 : Ret 4 #[.string ⟨#[97, 47, 43]⟩] (.tuple #[.string ⟨#[97, 46, 42]⟩, .bool true])) (h2 : Ret 4 #[.string a] (.tuple #[.string p, .bool true])) (h3 : Ret 5 #[.string a] (.bool true)) (h4 : Ret 6 #[.string b] (.bool true)) (h5 : Ret 7 #[.string b] (.string k)) (h6 : Ret 8 #[.string k] (.tuple #[.string b, .bool true])) (hp : ¬ (p.size : Int) > 64) (hk : ¬ (k.size : Int) > 64) (hN : NameOk topicsS) (hq : NameOk qS) (hpp : PlainOk p) (hpk : PlainOk k) (hm : MatchIs p k true) (h7 : Ret 12 #[.string b] (.bool false)) (h8 : Ret 13 #[.string a, .string b] (.bool true)) :
    Calls Tryz.prog 3 #[.string a, .string b] w fun e w' => e = .returned (.bool true) ∧ Below w.heap.size w w' := by
  go_enter Tryz.func3, Tryz.ntmps3
  go_wp2_with fail
  refine (h1 _).mono ?_
  rintro e w1 ⟨rfl, hb1⟩
  go_wp2_with fail
  refine (h2 _).mono ?_
  rintro e w2 ⟨rfl, hb2⟩
  go_wp2_with fail
  refine (h3 _).mono ?_
  rintro e w3 ⟨rfl, hb3⟩
  go_wp2_with fail
  refine (h4 _).mono ?_
  rintro e w4 ⟨rfl, hb4⟩
  go_wp2_with fail
  refine (h5 _).mono ?_
  rintro e w5 ⟨rfl, hb5⟩
  go_wp2_with fail
  refine (h6 _).mono ?_
  rintro e w6 ⟨rfl, hb6⟩
  have B6 := Aside0.mk (hb1.trans ((hb2.trans ((hb3.trans ((hb4.trans ((hb5.trans (hb6.mono hb5.size)).mono hb4.size)).mono hb3.size)).mono hb2.size)).mono hb1.size))
  go_wp2_with fail
  refine (declare_calls hN _).mono ?_
  rintro e w7 ⟨v7, rfl, hx7, hb7⟩
  have HX := Aside0.mk hx7
  obtain ⟨b7, o7, c7, rfl, hy7⟩ := hx7
  clear hy7
  go_wp2_with fail
  refine (bind_calls (n := 0) _ p _ ((HX.out.alloc _).low (Nat.zero_le _)) hN hq hpp).mono ?_
  rintro e w8 ⟨v8, u8, rfl, hx8, hy8, hb8⟩
  have HX8 := Aside0.mk hx8
  have HY8 := Aside0.mk hy8
  obtain ⟨b8, o8, c8, rfl, hz8⟩ := hx8
  obtain ⟨b9, o9, c9, rfl, hz9⟩ := hy8
  clear hz8 hz9
  obtain ⟨hc8, hf8⟩ := bcell hb8
  have z8 : w7.heap.size < w8.heap.size := by have := hb8.size; simp at this; omega
  have y7 : w6.heap.size ≤ w7.heap.size := hb7.size
  have hlt : w7.heap.size < (w7.alloc (.cells #[.slice (some ⟨b7, o7, none⟩) 1 c7, .slice none 0 0] 29)).heap.size := by simp
  have B8 := Aside0.mk (((hb7.alloc y7 _).trans (hb8.mono (Nat.le_trans y7 (Nat.le_of_lt hlt)))).setCell (p := ⟨w7.heap.size, 0, none⟩) y7 (.slice (some ⟨b8, o8, none⟩) 1 c8) |>.setCell (p := ⟨w7.heap.size, 1, none⟩) y7 (.slice (some ⟨b9, o9, none⟩) 1 c9))
  go_wp2_with fail
  refine (route_calls _ _ p k true _ ((HX8.out.set hlt _).set hlt _) ((HY8.out.set hlt _).set hlt _) hm hN hpk).mono ?_
  rintro e w9 ⟨v9, rfl, hq9, hb9⟩
  have B9 := Aside0.mk (B6.out.trans ((B8.out.trans (hb9.mono (by simp; omega))).mono B6.out.size))
  obtain ⟨b10, o10, c10, rfl, l1, l2⟩ := out_true hq9
  replace l2 : w9.cell? ⟨b10, o10, none⟩ = some (.string ⟨#[113]⟩) := l2
  clear hq9
  go_wp2_with fail
  refine (h7 _).mono ?_
  rintro e w10 ⟨rfl, hb10⟩
  go_wp2_with fail
  refine (h8 _).mono ?_
  rintro e w11 ⟨rfl, hb11⟩
  go_wp2_with fail
  go_ret
  exact ⟨rfl, B9.out.trans ((hb10.trans (hb11.mono hb10.size)).mono B9.out.size)⟩

set_option maxHeartbeats 4000000 in
set_option maxRecDepth 100000 in
theorem top_false_plus (a b p k : ByteArray) (w : World) (h1 : Ret 4 #[.string ⟨#[97, 47, 43]⟩] (.tuple #[.string ⟨#[97, 46, 42]⟩, .bool true])) (h2 : Ret 4 #[.string a] (.tuple #[.string p, .bool true])) (h3 : Ret 5 #[.string a] (.bool true)) (h4 : Ret 6 #[.string b] (.bool true)) (h5 : Ret 7 #[.string b] (.string k)) (h6 : Ret 8 #[.string k] (.tuple #[.string b, .bool true])) (hp : ¬ (p.size : Int) > 64) (hk : ¬ (k.size : Int) > 64) (hN : NameOk topicsS) (hq : NameOk qS) (hpp : PlainOk p) (hpk : PlainOk k) (hm : MatchIs p k false) (h7 : Ret 12 #[.string b] (.bool true)) (ha : 0 < a.size) (hw : (a[0].toNat : Int) = 43) :
    Calls Tryz.prog 3 #[.string a, .string b] w fun e w' => e = .returned (.bool true) ∧ Below w.heap.size w w' := by
  go_enter Tryz.func3, Tryz.ntmps3
  go_wp2_with fail
  refine (h1 _).mono ?_
  rintro e w1 ⟨rfl, hb1⟩
  go_wp2_with fail
  refine (h2 _).mono ?_
  rintro e w2 ⟨rfl, hb2⟩
  go_wp2_with fail
  refine (h3 _).mono ?_
  rintro e w3 ⟨rfl, hb3⟩
  go_wp2_with fail
  refine (h4 _).mono ?_
  rintro e w4 ⟨rfl, hb4⟩
  go_wp2_with fail
  refine (h5 _).mono ?_
  rintro e w5 ⟨rfl, hb5⟩
  go_wp2_with fail
  refine (h6 _).mono ?_
  rintro e w6 ⟨rfl, hb6⟩
  have B6 := Aside0.mk (hb1.trans ((hb2.trans ((hb3.trans ((hb4.trans ((hb5.trans (hb6.mono hb5.size)).mono hb4.size)).mono hb3.size)).mono hb2.size)).mono hb1.size))
  go_wp2_with fail
  refine (declare_calls hN _).mono ?_
  rintro e w7 ⟨v7, rfl, hx7, hb7⟩
  have HX := Aside0.mk hx7
  obtain ⟨b7, o7, c7, rfl, hy7⟩ := hx7
  clear hy7
  go_wp2_with fail
  refine (bind_calls (n := 0) _ p _ ((HX.out.alloc _).low (Nat.zero_le _)) hN hq hpp).mono ?_
  rintro e w8 ⟨v8, u8, rfl, hx8, hy8, hb8⟩
  have HX8 := Aside0.mk hx8
  have HY8 := Aside0.mk hy8
  obtain ⟨b8, o8, c8, rfl, hz8⟩ := hx8
  obtain ⟨b9, o9, c9, rfl, hz9⟩ := hy8
  clear hz8 hz9
  obtain ⟨hc8, hf8⟩ := bcell hb8
  have z8 : w7.heap.size < w8.heap.size := by have := hb8.size; simp at this; omega
  have y7 : w6.heap.size ≤ w7.heap.size := hb7.size
  have hlt : w7.heap.size < (w7.alloc (.cells #[.slice (some ⟨b7, o7, none⟩) 1 c7, .slice none 0 0] 29)).heap.size := by simp
  have B8 := Aside0.mk (((hb7.alloc y7 _).trans (hb8.mono (Nat.le_trans y7 (Nat.le_of_lt hlt)))).setCell (p := ⟨w7.heap.size, 0, none⟩) y7 (.slice (some ⟨b8, o8, none⟩) 1 c8) |>.setCell (p := ⟨w7.heap.size, 1, none⟩) y7 (.slice (some ⟨b9, o9, none⟩) 1 c9))
  go_wp2_with fail
  refine (route_calls _ _ p k false _ ((HX8.out.set hlt _).set hlt _) ((HY8.out.set hlt _).set hlt _) hm hN hpk).mono ?_
  rintro e w9 ⟨v9, rfl, hq9, hb9⟩
  have B9 := Aside0.mk (B6.out.trans ((B8.out.trans (hb9.mono (by simp; omega))).mono B6.out.size))
  obtain rfl := out_false hq9
  clear hq9
  go_wp2_with fail
  refine (h7 _).mono ?_
  rintro e w10 ⟨rfl, hb10⟩
  go_wp2_with fail
  go_ret
  exact ⟨rfl, B9.out.trans (hb10.mono B9.out.size)⟩

set_option maxHeartbeats 4000000 in
set_option maxRecDepth 100000 in
theorem top_false_hash (a b p k : ByteArray) (w : World) (h1 : Ret 4 #[.string ⟨#[97, 47, 43]⟩] (.tuple #[.string ⟨#[97, 46, 42]⟩, .bool true])) (h2 : Ret 4 #[.string a] (.tuple #[.string p, .bool true])) (h3 : Ret 5 #[.string a] (.bool true)) (h4 : Ret 6 #[.string b] (.bool true)) (h5 : Ret 7 #[.string b] (.string k)) (h6 : Ret 8 #[.string k] (.tuple #[.string b, .bool true])) (hp : ¬ (p.size : Int) > 64) (hk : ¬ (k.size : Int) > 64) (hN : NameOk topicsS) (hq : NameOk qS) (hpp : PlainOk p) (hpk : PlainOk k) (hm : MatchIs p k false) (h7 : Ret 12 #[.string b] (.bool true)) (ha : 0 < a.size) (hw : (a[0].toNat : Int) = 35) :
    Calls Tryz.prog 3 #[.string a, .string b] w fun e w' => e = .returned (.bool true) ∧ Below w.heap.size w w' := by
  go_enter Tryz.func3, Tryz.ntmps3
  go_wp2_with fail
  refine (h1 _).mono ?_
  rintro e w1 ⟨rfl, hb1⟩
  go_wp2_with fail
  refine (h2 _).mono ?_
  rintro e w2 ⟨rfl, hb2⟩
  go_wp2_with fail
  refine (h3 _).mono ?_
  rintro e w3 ⟨rfl, hb3⟩
  go_wp2_with fail
  refine (h4 _).mono ?_
  rintro e w4 ⟨rfl, hb4⟩
  go_wp2_with fail
  refine (h5 _).mono ?_
  rintro e w5 ⟨rfl, hb5⟩
  go_wp2_with fail
  refine (h6 _).mono ?_
  rintro e w6 ⟨rfl, hb6⟩
  have B6 := Aside0.mk (hb1.trans ((hb2.trans ((hb3.trans ((hb4.trans ((hb5.trans (hb6.mono hb5.size)).mono hb4.size)).mono hb3.size)).mono hb2.size)).mono hb1.size))
  go_wp2_with fail
  refine (declare_calls hN _).mono ?_
  rintro e w7 ⟨v7, rfl, hx7, hb7⟩
  have HX := Aside0.mk hx7
  obtain ⟨b7, o7, c7, rfl, hy7⟩ := hx7
  clear hy7
  go_wp2_with fail
  refine (bind_calls (n := 0) _ p _ ((HX.out.alloc _).low (Nat.zero_le _)) hN hq hpp).mono ?_
  rintro e w8 ⟨v8, u8, rfl, hx8, hy8, hb8⟩
  have HX8 := Aside0.mk hx8
  have HY8 := Aside0.mk hy8
  obtain ⟨b8, o8, c8, rfl, hz8⟩ := hx8
  obtain ⟨b9, o9, c9, rfl, hz9⟩ := hy8
  clear hz8 hz9
  obtain ⟨hc8, hf8⟩ := bcell hb8
  have z8 : w7.heap.size < w8.heap.size := by have := hb8.size; simp at this; omega
  have y7 : w6.heap.size ≤ w7.heap.size := hb7.size
  have hlt : w7.heap.size < (w7.alloc (.cells #[.slice (some ⟨b7, o7, none⟩) 1 c7, .slice none 0 0] 29)).heap.size := by simp
  have B8 := Aside0.mk (((hb7.alloc y7 _).trans (hb8.mono (Nat.le_trans y7 (Nat.le_of_lt hlt)))).setCell (p := ⟨w7.heap.size, 0, none⟩) y7 (.slice (some ⟨b8, o8, none⟩) 1 c8) |>.setCell (p := ⟨w7.heap.size, 1, none⟩) y7 (.slice (some ⟨b9, o9, none⟩) 1 c9))
  go_wp2_with fail
  refine (route_calls _ _ p k false _ ((HX8.out.set hlt _).set hlt _) ((HY8.out.set hlt _).set hlt _) hm hN hpk).mono ?_
  rintro e w9 ⟨v9, rfl, hq9, hb9⟩
  have B9 := Aside0.mk (B6.out.trans ((B8.out.trans (hb9.mono (by simp; omega))).mono B6.out.size))
  obtain rfl := out_false hq9
  clear hq9
  go_wp2_with fail
  refine (h7 _).mono ?_
  rintro e w10 ⟨rfl, hb10⟩
  go_wp2_with fail
  go_ret
  exact ⟨rfl, B9.out.trans (hb10.mono B9.out.size)⟩

set_option maxHeartbeats 4000000 in
set_option maxRecDepth 100000 in
theorem top_false_sys (a b p k : ByteArray) (w : World) (h1 : Ret 4 #[.string ⟨#[97, 47, 43]⟩] (.tuple #[.string ⟨#[97, 46, 42]⟩, .bool true])) (h2 : Ret 4 #[.string a] (.tuple #[.string p, .bool true])) (h3 : Ret 5 #[.string a] (.bool true)) (h4 : Ret 6 #[.string b] (.bool true)) (h5 : Ret 7 #[.string b] (.string k)) (h6 : Ret 8 #[.string k] (.tuple #[.string b, .bool true])) (hp : ¬ (p.size : Int) > 64) (hk : ¬ (k.size : Int) > 64) (hN : NameOk topicsS) (hq : NameOk qS) (hpp : PlainOk p) (hpk : PlainOk k) (hm : MatchIs p k false) (h7 : Ret 12 #[.string b] (.bool true)) (ha : 0 < a.size) (hw : ((a[0].toNat : Int) == 43) = false) (hw2 : ((a[0].toNat : Int) == 35) = false) (h8 : Ret 13 #[.string a, .string b] (.bool false)) :
    Calls Tryz.prog 3 #[.string a, .string b] w fun e w' => e = .returned (.bool true) ∧ Below w.heap.size w w' := by
  go_enter Tryz.func3, Tryz.ntmps3
  go_wp2_with fail
  refine (h1 _).mono ?_
  rintro e w1 ⟨rfl, hb1⟩
  go_wp2_with fail
  refine (h2 _).mono ?_
  rintro e w2 ⟨rfl, hb2⟩
  go_wp2_with fail
  refine (h3 _).mono ?_
  rintro e w3 ⟨rfl, hb3⟩
  go_wp2_with fail
  refine (h4 _).mono ?_
  rintro e w4 ⟨rfl, hb4⟩
  go_wp2_with fail
  refine (h5 _).mono ?_
  rintro e w5 ⟨rfl, hb5⟩
  go_wp2_with fail
  refine (h6 _).mono ?_
  rintro e w6 ⟨rfl, hb6⟩
  have B6 := Aside0.mk (hb1.trans ((hb2.trans ((hb3.trans ((hb4.trans ((hb5.trans (hb6.mono hb5.size)).mono hb4.size)).mono hb3.size)).mono hb2.size)).mono hb1.size))
  go_wp2_with fail
  refine (declare_calls hN _).mono ?_
  rintro e w7 ⟨v7, rfl, hx7, hb7⟩
  have HX := Aside0.mk hx7
  obtain ⟨b7, o7, c7, rfl, hy7⟩ := hx7
  clear hy7
  go_wp2_with fail
  refine (bind_calls (n := 0) _ p _ ((HX.out.alloc _).low (Nat.zero_le _)) hN hq hpp).mono ?_
  rintro e w8 ⟨v8, u8, rfl, hx8, hy8, hb8⟩
  have HX8 := Aside0.mk hx8
  have HY8 := Aside0.mk hy8
  obtain ⟨b8, o8, c8, rfl, hz8⟩ := hx8
  obtain ⟨b9, o9, c9, rfl, hz9⟩ := hy8
  clear hz8 hz9
  obtain ⟨hc8, hf8⟩ := bcell hb8
  have z8 : w7.heap.size < w8.heap.size := by have := hb8.size; simp at this; omega
  have y7 : w6.heap.size ≤ w7.heap.size := hb7.size
  have hlt : w7.heap.size < (w7.alloc (.cells #[.slice (some ⟨b7, o7, none⟩) 1 c7, .slice none 0 0] 29)).heap.size := by simp
  have B8 := Aside0.mk (((hb7.alloc y7 _).trans (hb8.mono (Nat.le_trans y7 (Nat.le_of_lt hlt)))).setCell (p := ⟨w7.heap.size, 0, none⟩) y7 (.slice (some ⟨b8, o8, none⟩) 1 c8) |>.setCell (p := ⟨w7.heap.size, 1, none⟩) y7 (.slice (some ⟨b9, o9, none⟩) 1 c9))
  go_wp2_with fail
  refine (route_calls _ _ p k false _ ((HX8.out.set hlt _).set hlt _) ((HY8.out.set hlt _).set hlt _) hm hN hpk).mono ?_
  rintro e w9 ⟨v9, rfl, hq9, hb9⟩
  have B9 := Aside0.mk (B6.out.trans ((B8.out.trans (hb9.mono (by simp; omega))).mono B6.out.size))
  obtain rfl := out_false hq9
  clear hq9
  go_wp2_with fail
  refine (h7 _).mono ?_
  rintro e w10 ⟨rfl, hb10⟩
  go_wp2_with fail
  refine (h8 _).mono ?_
  rintro e w11 ⟨rfl, hb11⟩
  go_wp2_with fail
  go_ret
  exact ⟨rfl, B9.out.trans ((hb10.trans (hb11.mono hb10.size)).mono B9.out.size)⟩

set_option maxHeartbeats 4000000 in
set_option maxRecDepth 100000 in
theorem top_false_nosys (a b p k : ByteArray) (w : World) (h1 : Ret 4 #[.string ⟨#[97, 47, 43]⟩] (.tuple #[.string ⟨#[97, 46, 42]⟩, .bool true])) (h2 : Ret 4 #[.string a] (.tuple #[.string p, .bool true])) (h3 : Ret 5 #[.string a] (.bool true)) (h4 : Ret 6 #[.string b] (.bool true)) (h5 : Ret 7 #[.string b] (.string k)) (h6 : Ret 8 #[.string k] (.tuple #[.string b, .bool true])) (hp : ¬ (p.size : Int) > 64) (hk : ¬ (k.size : Int) > 64) (hN : NameOk topicsS) (hq : NameOk qS) (hpp : PlainOk p) (hpk : PlainOk k) (hm : MatchIs p k false) (h7 : Ret 12 #[.string b] (.bool false)) (h8 : Ret 13 #[.string a, .string b] (.bool false)) :
    Calls Tryz.prog 3 #[.string a, .string b] w fun e w' => e = .returned (.bool true) ∧ Below w.heap.size w w' := by
  go_enter Tryz.func3, Tryz.ntmps3
  go_wp2_with fail
  refine (h1 _).mono ?_
  rintro e w1 ⟨rfl, hb1⟩
  go_wp2_with fail
  refine (h2 _).mono ?_
  rintro e w2 ⟨rfl, hb2⟩
  go_wp2_with fail
  refine (h3 _).mono ?_
  rintro e w3 ⟨rfl, hb3⟩
  go_wp2_with fail
  refine (h4 _).mono ?_
  rintro e w4 ⟨rfl, hb4⟩
  go_wp2_with fail
  refine (h5 _).mono ?_
  rintro e w5 ⟨rfl, hb5⟩
  go_wp2_with fail
  refine (h6 _).mono ?_
  rintro e w6 ⟨rfl, hb6⟩
  have B6 := Aside0.mk (hb1.trans ((hb2.trans ((hb3.trans ((hb4.trans ((hb5.trans (hb6.mono hb5.size)).mono hb4.size)).mono hb3.size)).mono hb2.size)).mono hb1.size))
  go_wp2_with fail
  refine (declare_calls hN _).mono ?_
  rintro e w7 ⟨v7, rfl, hx7, hb7⟩
  have HX := Aside0.mk hx7
  obtain ⟨b7, o7, c7, rfl, hy7⟩ := hx7
  clear hy7
  go_wp2_with fail
  refine (bind_calls (n := 0) _ p _ ((HX.out.alloc _).low (Nat.zero_le _)) hN hq hpp).mono ?_
  rintro e w8 ⟨v8, u8, rfl, hx8, hy8, hb8⟩
  have HX8 := Aside0.mk hx8
  have HY8 := Aside0.mk hy8
  obtain ⟨b8, o8, c8, rfl, hz8⟩ := hx8
  obtain ⟨b9, o9, c9, rfl, hz9⟩ := hy8
  clear hz8 hz9
  obtain ⟨hc8, hf8⟩ := bcell hb8
  have z8 : w7.heap.size < w8.heap.size := by have := hb8.size; simp at this; omega
  have y7 : w6.heap.size ≤ w7.heap.size := hb7.size
  have hlt : w7.heap.size < (w7.alloc (.cells #[.slice (some ⟨b7, o7, none⟩) 1 c7, .slice none 0 0] 29)).heap.size := by simp
  have B8 := Aside0.mk (((hb7.alloc y7 _).trans (hb8.mono (Nat.le_trans y7 (Nat.le_of_lt hlt)))).setCell (p := ⟨w7.heap.size, 0, none⟩) y7 (.slice (some ⟨b8, o8, none⟩) 1 c8) |>.setCell (p := ⟨w7.heap.size, 1, none⟩) y7 (.slice (some ⟨b9, o9, none⟩) 1 c9))
  go_wp2_with fail
  refine (route_calls _ _ p k false _ ((HX8.out.set hlt _).set hlt _) ((HY8.out.set hlt _).set hlt _) hm hN hpk).mono ?_
  rintro e w9 ⟨v9, rfl, hq9, hb9⟩
  have B9 := Aside0.mk (B6.out.trans ((B8.out.trans (hb9.mono (by simp; omega))).mono B6.out.size))
  obtain rfl := out_false hq9
  clear hq9
  go_wp2_with fail
  refine (h7 _).mono ?_
  rintro e w10 ⟨rfl, hb10⟩
  go_wp2_with fail
  refine (h8 _).mono ?_
  rintro e w11 ⟨rfl, hb11⟩
  go_wp2_with fail
  go_ret
  exact ⟨rfl, B9.out.trans ((hb10.trans (hb11.mono hb10.size)).mono B9.out.size)⟩

end Go.Proofs.YtfcomjinaokeaaaGreatDoor.P
