/- HopsOnce, plain. -/
import Derived.Test.YtfikhfahpdhjbaaDoorPx19
import Derived.Test.YtfikhfahpdhjbaaDoorPureHops
import Derived.Test.YtfikhfahpdhjbaaDoorPureAw
-- needs: brokerlaw46_HopsOnce
namespace Go.Proofs.YtfikhfahpdhjbaaDoor.Pure
open Go Go.RowKit Go.Proofs.YtfikhfahpdhjbaaDoor.P Go.Proofs.YtfikhfahpdhjbaaDoorW.PrintWords Go.Proofs.YtfikhfahpdhjbaaDoorW.PrintLast Go.Proofs.YtfikhfahpdhjbaaDoor.Ext
/-- The properties of a message that has entered the bridges of a path. -/
def pathV (path : List ByteArray) : ByteArray := mkB (Lib.join (path.map toL) [44])
def propsOf (path : List ByteArray) : List S50 := if path = [] then [] else [⟨pathK, pathV path⟩]
theorem pathV_snoc (path : List ByteArray) (x : ByteArray) (h : path ≠ []) : pathV (path ++ [x]) = (pathV path ++ ⟨#[44]⟩) ++ x := by
  apply toL_inj
  unfold pathV
  rw [toL_mk, List.map_append, toL_append, toL_append, toL_mk]
  show Lib.join (path.map toL ++ [toL x]) [44] = _
  rw [join_snoc _ _ _ (fun e => h (List.map_eq_nil_iff.1 e)), List.append_assoc]
  rfl
theorem pathV_one (x : ByteArray) : pathV [x] = x := by
  unfold pathV
  show mkB (Lib.join [toL x] [44]) = x
  rw [Lib.join_one, mk_toL]
theorem join_len (c : UInt8) (n : Nat) : ∀ xs : List (List UInt8), (∀ x ∈ xs, x.length ≤ n) → (Lib.join xs [c]).length ≤ xs.length * (n + 1)
  | [], _ => Nat.zero_le _
  | [x], h => by
    rw [Lib.join_one]
    have := h x List.mem_cons_self
    simp only [List.length_cons, List.length_nil]
    omega
  | x :: y :: r, h => by
    have ih := join_len c n (y :: r) (fun z hz => h z (List.mem_cons_of_mem _ hz))
    have hx := h x List.mem_cons_self
    rw [join_cons2, List.length_append, List.length_cons]
    simp only [List.length_cons] at ih ⊢
    have : (r.length + 1 + 1) * (n + 1) = (r.length + 1) * (n + 1) + (n + 1) := Nat.succ_mul _ _
    omega
theorem pathV_size (path : List ByteArray) (h : ∀ x ∈ path, nameB x = true) : (pathV path).size ≤ path.length * 17 := by
  unfold pathV
  rw [size_mk]
  have := join_len 44 16 (path.map toL) (fun x hx => by
    obtain ⟨y, hy, rfl⟩ := List.mem_map.1 hx
    rw [toL_len]
    exact (name_size (h y hy)).2)
  rw [List.length_map] at this
  exact this
theorem val_propsOf (path : List ByteArray) : valL (propsOf path) = if path = [] then ⟨#[]⟩ else pathV path := by
  unfold valL propsOf
  split
  · rfl
  · unfold getR
    show (match (if pathK.toList = pathK.toList then some (pathV path) else none) with | some v => (v, true) | none => ((⟨#[]⟩ : ByteArray), false)).1 = _
    rw [if_pos rfl]
theorem pathV_ne (path : List ByteArray) (h : path ≠ []) (hn : ∀ x ∈ path, nameB x = true) : (pathV path).toList ≠ [] := by
  rw [toList_toL]
  unfold pathV
  rw [toL_mk]
  match path, h with
  | [x], _ =>
    show Lib.join [toL x] [44] ≠ []
    rw [Lib.join_one]
    exact name_ne (hn x List.mem_cons_self)
  | x :: y :: r, _ =>
    show Lib.join (toL x :: toL y :: r.map toL) [44] ≠ []
    rw [join_cons2]
    simp
theorem path_propsOf (path : List ByteArray) (hn : ∀ x ∈ path, nameB x = true) : pathL (propsOf path) = path := by
  unfold pathL
  rw [val_propsOf]
  by_cases h : path = []
  · rw [if_pos h, if_pos (by rw [toList_toL]; rfl), h]
  · rw [if_neg h, if_neg (pathV_ne path h hn)]
    unfold pathV
    rw [toL_mk, pieces_join 44 _ (fun e => h (List.map_eq_nil_iff.1 e)) (fun x hx => by
      obtain ⟨y, hy, rfl⟩ := List.mem_map.1 hx
      exact name_no44 (hn y hy)), List.map_map]
    have : (mkB ∘ toL) = id := funext mk_toL
    rw [this, List.map_id]
theorem propsOf_len (path : List ByteArray) : (propsOf path).length ≤ 1 := by
  unfold propsOf
  split <;> simp
theorem propsE_of (path : List ByteArray) (h : (pathV path).size ≤ 160) : propsE (propsOf path) = 0 := by
  unfold propsOf
  split
  · rfl
  · show (if keyB pathK = true then (if (pathV path).size > 160 then (5 : Int) else 0) else 16) = 0
    rw [key_path, if_pos rfl, if_neg (by omega)]
theorem new_propsOf (path : List ByteArray) (x : ByteArray) (hn : ∀ y ∈ path, nameB y = true) : newV (propsOf path) x = pathV (path ++ [x]) := by
  unfold newV
  rw [val_propsOf]
  by_cases h : path = []
  · rw [if_pos h, if_pos (by rw [toList_toL]; rfl), h]
    exact (pathV_one x).symm
  · rw [if_neg h, if_neg (pathV_ne path h hn), pathV_snoc path x h]
theorem set_propsOf (path : List ByteArray) (x : ByteArray) (hn : ∀ y ∈ path, nameB y = true) : setL pathK ⟨pathK, newV (propsOf path) x⟩ (propsOf path) = propsOf (path ++ [x]) := by
  rw [new_propsOf path x hn]
  have e : propsOf (path ++ [x]) = [⟨pathK, pathV (path ++ [x])⟩] := by
    unfold propsOf
    rw [if_neg (by simp)]
  rw [e]
  unfold setL propsOf
  have irr : less pathK pathK = false := bl_irr _
  split
  · rfl
  · rw [List.filter_cons, List.filter_cons, if_neg (show ¬ less pathK pathK = true by rw [irr]; decide), if_neg (show ¬ less pathK pathK = true by rw [irr]; decide)]
    rfl
theorem enter_propsOf (path : List ByteArray) (x : ByteArray) (hn : ∀ y ∈ path, nameB y = true) (h8 : path.length ≤ 8) : enterE (propsOf path) x = if nameB x = true then (if inB x path = true then 20 else if path.length ≥ 8 then 20 else 0) else 11 := by
  unfold enterE
  rw [path_propsOf path hn]
  by_cases h : nameB x = true
  · rw [if_pos h, if_pos h]
    by_cases hi : inB x path = true
    · rw [if_pos hi, if_pos hi]
    · rw [if_neg hi, if_neg hi]
      by_cases h7 : path.length ≥ 8
      · rw [if_pos h7, if_pos h7]
      · rw [if_neg h7, if_neg h7]
        have h1 := pathV_size path hn
        have h2 := pathV_size (path ++ [x]) (fun y hy => (List.mem_append.1 hy).elim (hn y) (fun e => by rw [List.mem_singleton.1 e]; exact h))
        rw [List.length_append, List.length_singleton] at h2
        unfold setE
        rw [if_pos (propsE_of path (by omega)), new_propsOf path x hn, if_neg (by omega)]
        have := propsOf_len path
        rw [if_neg (show ¬ (propsOf path).length = 8 by omega)]
        split <;> rfl
  · rw [if_neg h, if_neg h]
theorem inB_take (x : ByteArray) (xs : List ByteArray) (i : Nat) (h : i < xs.length) : inB x (xs.take (i + 1)) = (inB x (xs.take i) || (xs[i].toList == x.toList)) := by
  rw [List.take_succ_eq_append_getElem h]
  unfold inB
  rw [List.any_append, List.any_cons, List.any_nil, Bool.or_false]

abbrev tB : ByteArray := ⟨#[116]⟩
abbrev nB : ByteArray := ⟨#[]⟩
/-- One round's end: what has been entered is what the path says. -/
theorem once_j4 (xs path : List ByteArray) (i : Nat) (hi : i ≤ 1000000) (hn : ∀ y ∈ path, nameB y = true) (h8 : path.length ≤ 8)
    (hgo : Ev (fun k => brokerlaw46_HopsOnce.l0 k xs path ((i + 1 : Nat) : Int) tB nB 0 false 0 0 nB 0 (propsOf path)) true) :
    Ev (fun k => brokerlaw46_HopsOnce.j4 k xs path (i : Int) tB nB 0 false 0 0 nB 0 (propsOf path)) true := by
  have hv : (valL (propsOf path)).size ≤ 3000 := by
    rw [val_propsOf]
    have := pathV_size path hn
    split
    · exact Nat.zero_le _
    · omega
  refine ev_succ ?_
  simp only [brokerlaw46_HopsOnce.j4]
  rw [nx i hi]
  have hp := path_ev tB nB 0 false 0 0 nB 0 (propsOf path) (by have := propsOf_len path; omega) hv
  rw [path_propsOf path hn] at hp
  exact ev_bind hp (ev_bind (same_ev path (by omega)) (ev_tt hgo))
/-- The loop that asks whether the bridge was entered before. -/
theorem once_l1 (xs path : List ByteArray) (i : Nat) (hi : i < xs.length) (hi2 : i ≤ 100) (h8 : path.length ≤ 8) (r : Bool)
    (hgo : Ev (fun k => brokerlaw46_HopsOnce.l1 k xs path (i : Int) (inB xs[i] path) (path.length : Int) tB nB 0 false 0 0 nB 0 (propsOf path)) r) :
    ∀ d j : Nat, j + d = path.length → Ev (fun k => brokerlaw46_HopsOnce.l1 k xs path (i : Int) (inB xs[i] (path.take j)) (j : Int) tB nB 0 false 0 0 nB 0 (propsOf path)) r := by
  intro d
  induction d with
  | zero =>
    intro j hj
    rw [show j = path.length from by omega, List.take_length]
    exact hgo
  | succ d ih =>
    intro j hj
    have ih' := ih (j + 1) (by omega)
    rw [inB_take _ _ _ (by omega)] at ih'
    refine ev_succ ?_
    simp only [brokerlaw46_HopsOnce.l1]
    rw [nx j (by omega)]
    refine ev_pos (by omega) ?_
    cases hb : inB xs[i] (path.take j) with
    | true =>
      rw [hb, Bool.true_or] at ih'
      exact ev_tt ih'
    | false =>
      rw [hb, Bool.false_or] at ih'
      rw [rdS path j (by omega), rdS xs i hi]
      exact ev_ff (ev_pos (by omega) (ev_pos (by omega) (ev_pos (by omega) ih')))
theorem once_l0 (xs : List ByteArray) (hxs : ∀ x ∈ xs, x.size ≤ 9223372036854775807) : ∀ (d i : Nat) (path : List ByteArray), i + d = 20 → (∀ y ∈ path, nameB y = true) → path.length ≤ 8 →
    Ev (fun k => brokerlaw46_HopsOnce.l0 k xs path (i : Int) tB nB 0 false 0 0 nB 0 (propsOf path)) true := by
  intro d
  have done : ∀ (i : Nat) (path : List ByteArray), Ev (fun k => brokerlaw46_HopsOnce.j1 k xs path (i : Int) false tB nB 0 false 0 0 nB 0 (propsOf path)) true := by
    intro i path
    refine ev_succ ?_
    simp only [brokerlaw46_HopsOnce.j1]
    exact ev_ff (ev_bind awake_ev (ev_some rfl))
  induction d with
  | zero =>
    intro i path hi hn h8
    refine ev_succ ?_
    simp only [brokerlaw46_HopsOnce.l0]
    by_cases h : (i : Int) < (xs.length : Int)
    · refine ev_pos h ?_
      rw [decide_eq_false (by omega)]
      exact done i path
    · exact ev_neg h (done i path)
  | succ d ih =>
    intro i path hi hn h8
    refine ev_succ ?_
    simp only [brokerlaw46_HopsOnce.l0]
    by_cases h : (i : Int) < (xs.length : Int)
    · have hlt : i < xs.length := by omega
      refine ev_pos h ?_
      rw [decide_eq_true (by omega)]
      refine ev_succ ?_
      simp only [brokerlaw46_HopsOnce.j1]
      refine once_l1 xs path i hlt (by omega) h8 true ?_ path.length 0 (by omega)
      have hv : (valL (propsOf path)).size ≤ 3000 := by
        rw [val_propsOf]
        have := pathV_size path hn
        split
        · exact Nat.zero_le _
        · omega
      have hpl := propsOf_len path
      have hE := enter_propsOf path xs[i] hn h8
      have hent := enter_ev tB nB 0 false 0 0 nB 0 (propsOf path) xs[i] (by omega) hv (hxs _ (List.getElem_mem hlt))
      have stay := once_j4 xs path i (by omega) hn h8 (ih (i + 1) path (by omega) hn h8)
      refine ev_succ ?_
      simp only [brokerlaw46_HopsOnce.l1]
      rw [rdS xs i hlt]
      refine ev_neg (by omega) (ev_pos (by omega) (ev_pos (by omega) (ev_bind hent (ev_bind (refname_all xs[i]) ?_))))
      cases hnm : nameB xs[i] with
      | false =>
        rw [hnm, if_neg (show ¬ false = true by decide)] at hE
        have hR : (enterR tB nB 0 false 0 0 nB 0 (propsOf path) xs[i]).2.2.2.2.2.2.2.2.2 = 11 := by
          unfold enterR
          rw [hE]
          rfl
        refine ev_ff ?_
        rw [hR]
        exact ev_pos rfl stay
      | true =>
        rw [hnm, if_pos (c := true = true) rfl] at hE
        refine ev_tt ?_
        have old : (inB xs[i] path = true ∨ path.length ≥ 8) → ∀ y0 y1 : ByteArray, ∀ y2 : Int, ∀ y3 : Bool, ∀ y4 y5 : Int, ∀ y6 : ByteArray, ∀ y7 : Int, ∀ y8 : List S50, Ev (fun k => brokerlaw46_HopsOnce.j3 k xs path (i : Int) (enterR tB nB 0 false 0 0 nB 0 (propsOf path) xs[i]).2.2.2.2.2.2.2.2.2 true tB nB 0 false 0 0 nB 0 (propsOf path) y0 y1 y2 y3 y4 y5 y6 y7 y8) true := by
          intro ho y0 y1 y2 y3 y4 y5 y6 y7 y8
          have hE2 : enterE (propsOf path) xs[i] = 20 := by
            rw [hE]
            by_cases hi : inB xs[i] path = true
            · rw [if_pos hi]
            · rw [if_neg hi, if_pos (ho.resolve_left hi)]
          have hR : (enterR tB nB 0 false 0 0 nB 0 (propsOf path) xs[i]).2.2.2.2.2.2.2.2.2 = 20 := by
            unfold enterR
            rw [hE2]
            rfl
          rw [hR]
          refine ev_succ ?_
          simp only [brokerlaw46_HopsOnce.j3]
          exact ev_pos (by trivial) stay
        cases hio : inB xs[i] path with
        | true => exact ev_tt (old (.inl hio) _ _ _ _ _ _ _ _ _)
        | false =>
          refine ev_ff ?_
          by_cases h88 : path.length ≥ 8
          · rw [decide_eq_true (by omega)]
            exact old (.inr h88) _ _ _ _ _ _ _ _ _
          · rw [decide_eq_false (by omega)]
            rw [hio, if_neg (show ¬ false = true by decide), if_neg h88] at hE
            have hR : enterR tB nB 0 false 0 0 nB 0 (propsOf path) xs[i] = (tB, nB, 0, false, 0, 0, nB, 0, propsOf (path ++ [xs[i]]), 0) := by
              unfold enterR
              rw [if_pos hE, set_propsOf path _ hn]
            rw [hR]
            have hn2 : ∀ y ∈ path ++ [xs[i]], nameB y = true := fun y hy => (List.mem_append.1 hy).elim (hn y) (fun e => by rw [List.mem_singleton.1 e]; exact hnm)
            have h82 : (path ++ [xs[i]]).length ≤ 8 := by rw [List.length_append, List.length_singleton]; omega
            have go := once_j4 xs (path ++ [xs[i]]) i (by omega) hn2 h82 (ih (i + 1) _ (by omega) hn2 h82)
            refine ev_succ ?_
            simp only [brokerlaw46_HopsOnce.j3]
            rw [rdS xs i hlt]
            exact ev_ff (ev_pos (by trivial) (ev_pos (by omega) (ev_pos (by omega) (ev_pos (by omega) go))))
    · exact ev_neg h (done i path)
theorem HopsOnce' (xs : List ByteArray) {N : Nat} (h : xs.length ≤ N ∧ xs.length ≤ maxLen ∧ ∀ x ∈ xs, x.size ≤ N ∧ x.size ≤ maxLen) : ∃ k, brokerlaw46_HopsOnce.f k xs = some true := by
  suffices h : Ev (fun k => brokerlaw46_HopsOnce.f k xs) true from h.rounds
  simp only [brokerlaw46_HopsOnce.f]
  exact once_l0 xs (fun x hx => by have := (h.2.2 x hx).2; unfold maxLen at this; omega) 20 0 [] (by omega) (fun y hy => by cases hy) (Nat.zero_le _)
end Go.Proofs.YtfikhfahpdhjbaaDoor.Pure
