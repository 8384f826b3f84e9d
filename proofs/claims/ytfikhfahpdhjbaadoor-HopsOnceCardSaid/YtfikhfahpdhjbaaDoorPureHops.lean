/- Enter and Strip of messages, and the specification's; Same of a message with itself. -/
import Derived.Test.YtfikhfahpdhjbaaDoorPx13
import Derived.Test.YtfikhfahpdhjbaaDoorPx15
import Derived.Test.YtfikhfahpdhjbaaDoorPx17
import Derived.Test.YtfikhfahpdhjbaaDoorPx3
import Derived.Test.YtfikhfahpdhjbaaDoorPx4
import Derived.Test.YtfikhfahpdhjbaaDoorPureMsg
-- needs: hops_Enter hops_Strip brokerref46_Enter brokerref05_Same brokerref46_Strip
namespace Go.Proofs.YtfikhfahpdhjbaaDoor.Pure
open Go Go.RowKit Go.Proofs.YtfikhfahpdhjbaaDoor.P Go.Proofs.YtfikhfahpdhjbaaDoorW.PrintWords Go.Proofs.YtfikhfahpdhjbaaDoorW.PrintLast Go.Proofs.YtfikhfahpdhjbaaDoor.Ext

theorem join_snoc (c : UInt8) (b : List UInt8) : ∀ xs : List (List UInt8), xs ≠ [] → Lib.join (xs ++ [b]) [c] = Lib.join xs [c] ++ c :: b
  | [], h => absurd rfl h
  | [x], _ => by
    show Lib.join [x, b] [c] = _
    rw [join_cons2, Lib.join_one, Lib.join_one]
  | x :: y :: r, _ => by
    have ih := join_snoc c b (y :: r) (by simp)
    show Lib.join (x :: y :: (r ++ [b])) [c] = _
    rw [join_cons2, join_cons2, show y :: (r ++ [b]) = (y :: r) ++ [b] from rfl, ih]
    simp
/-- The value of the path with a bridge more. -/
def newV (l : List S50) (b : ByteArray) : ByteArray := if (valL l).toList = [] then b else (valL l ++ ⟨#[44]⟩) ++ b
theorem toL_append (a b : ByteArray) : toL (a ++ b) = toL a ++ toL b := by
  unfold toL
  rw [ByteArray.data_append, Array.toList_append]
theorem map_toLB (l : List (List UInt8)) : (l.map mkB).map toL = l := by
  rw [List.map_map]
  have : (toL ∘ mkB) = id := rfl
  rw [this, List.map_id]
theorem join_path (l : List S50) (b : ByteArray) : mkB (Lib.join ((pathL l ++ [b]).map toL) [44]) = newV l b := by
  unfold pathL newV
  by_cases h : (valL l).toList = []
  · rw [if_pos h, if_pos h]
    show mkB (Lib.join [toL b] [44]) = b
    rw [Lib.join_one, mk_toL]
  · rw [if_neg h, if_neg h, List.map_append, map_toLB]
    show mkB (Lib.join (pieces 44 (toL (valL l)) ++ [toL b]) [44]) = _
    rw [join_snoc 44 _ _ (pieces_ne _ _), join_pieces]
    apply toL_inj
    rw [toL_mk, toL_append, toL_append, List.append_assoc]
    rfl
theorem newV_size (l : List S50) (b : ByteArray) (h : (valL l).size ≤ 3000) (hb : b.size ≤ 16) : (newV l b).size ≤ 3017 := by
  unfold newV
  split
  · omega
  · rw [ByteArray.size_append, ByteArray.size_append]
    have : (⟨#[44]⟩ : ByteArray).size = 1 := rfl
    omega
theorem name_size {b : ByteArray} (h : nameB b = true) : 1 ≤ b.size ∧ b.size ≤ 16 := by
  have := of_decide_eq_true h
  exact ⟨this.1, this.2.1⟩
def enterE (l : List S50) (b : ByteArray) : Int := if nameB b = true then (if inB b (pathL l) = true then 20 else if (pathL l).length ≥ 8 then 20 else setE l (newV l b)) else 11
abbrev Msg := ByteArray × ByteArray × Int × Bool × Int × Int × ByteArray × Int × List S50 × Int
def enterR (a b : ByteArray) (c : Int) (d : Bool) (e f : Int) (g : ByteArray) (h : Int) (l : List S50) (x : ByteArray) : Msg :=
  if enterE l x = 0 then (a, b, c, d, e, f, g, h, setL pathK ⟨pathK, newV l x⟩ l, 0) else (⟨#[]⟩, ⟨#[]⟩, 0, false, 0, 0, ⟨#[]⟩, 0, [], enterE l x)
theorem enter_ev (a b : ByteArray) (c : Int) (d : Bool) (e f : Int) (g : ByteArray) (h : Int) (l : List S50) (x : ByteArray) (hl : l.length ≤ 1000) (hv : (valL l).size ≤ 3000) (hx : x.size ≤ 9223372036854775807) : Ev (fun k => hops_Enter.f k a b c d e f g h l x) (enterR a b c d e f g h l x) := by
  have hpl := path_len hv
  simp only [hops_Enter.f]
  refine ev_const (topic_name x hx) ?_
  unfold enterR enterE
  cases hn : nameB x with
  | false =>
    rw [if_neg (show ¬ false = true by decide), if_neg (show ¬ (11 : Int) = 0 by decide)]
    exact ev_ff (ev_some rfl)
  | true =>
    obtain ⟨n0, n1⟩ := name_size hn
    have full : Ev (fun k => hops_Enter.j0 k x (pathL l) true a b c d e f g h l) (⟨#[]⟩, ⟨#[]⟩, 0, false, 0, 0, ⟨#[]⟩, 0, [], 20) := by
      refine ev_succ ?_
      simp only [hops_Enter.j0]
      exact ev_some rfl
    rw [if_pos (c := true = true) rfl]
    refine ev_tt (ev_bind (path_ev a b c d e f g h l hl hv) (ev_bind (contains_ev (pathL l) x (by omega)) ?_))
    by_cases hc : inB x (pathL l) = true
    · rw [if_pos hc, if_neg (show ¬ (20 : Int) = 0 by decide)]
      exact ev_pos hc full
    · rw [if_neg hc]
      refine ev_neg hc ?_
      by_cases h8 : (pathL l).length ≥ 8
      · rw [if_pos h8, if_neg (show ¬ (20 : Int) = 0 by decide), decide_eq_true (by omega)]
        exact full
      · rw [if_neg h8, decide_eq_false (by omega)]
        have hns := newV_size l x hv n1
        refine ev_succ ?_
        simp only [hops_Enter.j0]
        refine ev_ff (ev_pos (by omega) (ev_const (a := newV l x) ?_ (ev_bind (set_ev l (newV l x) hl) ?_)))
        · unfold strings_Join.f
          rw [joinF_eq, join_path]
          · have := congrArg ByteArray.size (join_path l x)
            rw [size_mk] at this
            omega
          · rw [List.length_append, List.length_singleton]
            omega
        · by_cases h0 : setE l (newV l x) = 0
          · rw [if_pos h0, if_pos h0]
            refine ev_some ?_
            unfold setR
            rw [if_pos h0]
          · rw [if_neg h0, if_neg h0]
            exact ev_some rfl
theorem refenter_ev (a b : ByteArray) (c : Int) (d : Bool) (e f : Int) (g : ByteArray) (h : Int) (l : List S50) (x : ByteArray) (hl : l.length ≤ 1000) (hv : (valL l).size ≤ 3000) : Ev (fun k => brokerref46_Enter.f k a b c d e f g h l x) (enterR a b c d e f g h l x) := by
  have hpl := path_len hv
  simp only [brokerref46_Enter.f]
  refine ev_bind (refname_all x) ?_
  unfold enterR enterE
  cases hn : nameB x with
  | false =>
    rw [if_neg (show ¬ false = true by decide), if_neg (show ¬ (11 : Int) = 0 by decide)]
    exact ev_ff (ev_some rfl)
  | true =>
    obtain ⟨n0, n1⟩ := name_size hn
    have full : Ev (fun k => brokerref46_Enter.j0 k x (pathL l) true a b c d e f g h l) (⟨#[]⟩, ⟨#[]⟩, 0, false, 0, 0, ⟨#[]⟩, 0, [], 20) := by
      refine ev_succ ?_
      simp only [brokerref46_Enter.j0]
      exact ev_some rfl
    rw [if_pos (c := true = true) rfl]
    refine ev_tt (ev_bind (refpath_ev a b c d e f g h l hl hv) (ev_bind (refpassed_ev a b c d e f g h l x hl hv) ?_))
    by_cases hc : inB x (pathL l) = true
    · rw [if_pos hc, if_neg (show ¬ (20 : Int) = 0 by decide)]
      exact ev_pos hc full
    · rw [if_neg hc]
      refine ev_neg hc ?_
      by_cases h8 : (pathL l).length ≥ 8
      · rw [if_pos h8, if_neg (show ¬ (20 : Int) = 0 by decide), decide_eq_true (by omega)]
        exact full
      · rw [if_neg h8, decide_eq_false (by omega)]
        have hend : Ev (fun k => (brokerref05_Set.f k l pathK (newV l x)).bind fun bt308 => (if bt308.2 = 0 then (some (a, b, c, d, e, f, g, h, bt308.1, 0)) else (some ((⟨#[]⟩ : ByteArray), (⟨#[]⟩ : ByteArray), 0, false, 0, 0, (⟨#[]⟩ : ByteArray), 0, ([] : List (S50)), bt308.2))))
            (if setE l (newV l x) = 0 then (a, b, c, d, e, f, g, h, setL pathK ⟨pathK, newV l x⟩ l, 0) else (⟨#[]⟩, ⟨#[]⟩, 0, false, 0, 0, ⟨#[]⟩, 0, [], setE l (newV l x))) := by
          refine ev_bind (refset_ev l (newV l x) hl) ?_
          by_cases h0 : setE l (newV l x) = 0
          · rw [if_pos h0, if_pos h0]
            refine ev_some ?_
            unfold setR
            rw [if_pos h0]
          · rw [if_neg h0, if_neg h0]
            exact ev_some rfl
        refine ev_succ ?_
        simp only [brokerref46_Enter.j0]
        refine ev_ff ?_
        by_cases hz : (valL l).toList = []
        · have e1 : newV l x = x := by unfold newV; rw [if_pos hz]
          have e2 : pathL l = [] := by unfold pathL; rw [if_pos hz]
          rw [e1] at hend ⊢
          rw [e2]
          exact ev_neg (by decide) hend
        · have e1 : newV l x = (valL l ++ ⟨#[44]⟩) ++ x := by unfold newV; rw [if_neg hz]
          have e2 : (pathL l).length ≠ 0 := by
            unfold pathL
            rw [if_neg hz, List.length_map, pieces_length]
            omega
          rw [e1] at hend ⊢
          have e3 : (⟨#[44]⟩ : ByteArray).size = 1 := rfl
          refine ev_pos (by omega) (ev_bind (refget_ev pathK l hl) (ev_pos ?_ (ev_pos ?_ hend)))
          · show (valL l).size + 1 ≤ _
            omega
          · show (valL l ++ ⟨#[44]⟩).size + x.size ≤ _
            rw [ByteArray.size_append]
            omega
/-! ### Strip -/
theorem keepsP_eq : keepsP = keeps pathK := by
  funext p
  unfold keepsP keeps
  rw [show pathK.toList = ([112, 97, 116, 104] : List UInt8) from by rw [toList_toL]; rfl]
theorem strip_ev (a b : ByteArray) (c : Int) (d : Bool) (e f : Int) (g : ByteArray) (h : Int) (l : List S50) (hl : l.length ≤ 1000) : hops_Strip.f a b c d e f g h l = some (a, b, c, d, e, f, g, h, l.filter (keeps pathK)) := by
  unfold hops_Strip.f
  rw [if_pos (by omega), keepsP_eq]
theorem refstrip_ev (a b : ByteArray) (c : Int) (d : Bool) (e f : Int) (g : ByteArray) (h : Int) (l : List S50) (hl : l.length ≤ 1000) : Ev (fun k => brokerref46_Strip.f k a b c d e f g h l) (a, b, c, d, e, f, g, h, l.filter (keeps pathK)) := by
  simp only [brokerref46_Strip.f]
  have : ∀ d' i : Nat, ∀ acc : List S50, i + d' = l.length → acc.length ≤ i → Ev (fun k => brokerref46_Strip.l0 k acc (i : Int) a b c d e f g h l) (a, b, c, d, e, f, g, h, acc ++ (l.drop i).filter (keeps pathK)) := by
    intro d'
    induction d' with
    | zero =>
      intro i acc hi ha
      refine ev_succ ?_
      simp only [brokerref46_Strip.l0]
      rw [List.drop_of_length_le (by omega), List.filter_nil, List.append_nil]
      exact ev_neg (by omega) (ev_some rfl)
    | succ d' ih =>
      intro i acc hi ha
      refine ev_succ ?_
      simp only [brokerref46_Strip.l0]
      rw [rdAt l i (by omega), nx i (by omega), List.drop_eq_getElem_cons (l := l) (i := i) (by omega), List.filter_cons]
      have pk : pathK.toList = ([112, 97, 116, 104] : List UInt8) := by rw [toList_toL]; rfl
      refine ev_pos (by omega) (ev_pos (by omega) ?_)
      by_cases hk : l[i].f0.toList = ([112, 97, 116, 104] : List UInt8)
      · rw [if_neg (fun e => keeps_ne.1 e (hk.trans pk.symm))]
        exact ev_pos hk (ih (i + 1) acc (by omega) (by omega))
      · rw [if_pos (keeps_ne.2 (fun e => hk (e.trans pk)))]
        have := ih (i + 1) (acc ++ [⟨l[i].f0, l[i].f1⟩]) (by omega) (by rw [List.length_append, List.length_singleton]; omega)
        rw [List.append_assoc] at this
        exact ev_neg hk (ev_pos (by omega) this)
  exact this l.length 0 [] (by omega) (Nat.le_refl _)
/-! ### A message is the same as itself -/
theorem msame_ev (a b : ByteArray) (c : Int) (d : Bool) (e f : Int) (g : ByteArray) (h : Int) (l : List S50) (hl : l.length ≤ 2000) : Ev (fun k => brokerref05_Same.f k a b c d e f g h l a b c d e f g h l) true := by
  simp only [brokerref05_Same.f]
  refine ev_pos (by trivial) (ev_pos (by trivial) (ev_pos (by trivial) (ev_pos (by first | trivial | exact beq_self_eq_true d) (ev_pos (by trivial) (ev_pos (by trivial) (ev_pos (by trivial) (ev_pos (by trivial) (ev_bind (a := true) ?_ (ev_some rfl)))))))))
  simp only [brokerref05_SameProps.f]
  refine ev_pos (by trivial) ?_
  have : ∀ d i : Nat, i + d = l.length → Ev (fun k => brokerref05_SameProps.l0 k l l (i : Int)) true := by
    intro d
    induction d with
    | zero =>
      intro i hi
      refine ev_succ ?_
      simp only [brokerref05_SameProps.l0]
      exact ev_neg (by omega) (ev_some rfl)
    | succ d ih =>
      intro i hi
      refine ev_succ ?_
      simp only [brokerref05_SameProps.l0]
      rw [nx i (by omega)]
      refine ev_pos (by omega) (ev_pos (by omega) (ev_pos (by omega) (ev_neg ?_ (ih (i + 1) (by omega)))))
      simp
  exact this l.length 0 (by omega)
theorem setL_len (key : ByteArray) (p : S50) (l : List S50) : (setL key p l).length ≤ 2 * l.length + 1 := by
  unfold setL
  have h1 := List.length_filter_le (fun q : S50 => less q.f0 key) l
  have h2 := List.length_filter_le (fun q : S50 => less key q.f0) l
  rw [List.length_append, List.length_cons]
  omega
/-- What Enter gives where it answers OK. -/
theorem enter_ok {l : List S50} {x : ByteArray} (h : enterE l x = 0) : nameB x = true ∧ srt l ∧ l.length ≤ 8 ∧ (newV l x).size ≤ 160 := by
  unfold enterE at h
  split at h
  · rename_i hn
    split at h
    · cases h
    · split at h
      · cases h
      · unfold setE at h
        split at h
        · rename_i hp
          obtain ⟨hs, h8⟩ := propsE_srt hp
          split at h
          · cases h
          · exact ⟨hn, hs, h8, by omega⟩
        · rename_i hp
          exact absurd h hp
  · cases h
theorem name_no44 {x : ByteArray} (h : nameB x = true) : (44 : UInt8) ∉ toL x := by
  intro hm
  obtain ⟨i, hi, e⟩ := List.mem_iff_getElem.1 hm
  rw [toL_len] at hi
  have h2 := (of_decide_eq_true h).2.2 i hi
  have hb : by_ x i = 44 := by
    rw [by_toL, List.getElem?_eq_getElem (by rw [toL_len]; exact hi), e]
    rfl
  unfold nameAt at h2
  rw [hb] at h2
  split at h2 <;> revert h2 <;> decide
theorem name_ne {x : ByteArray} (h : nameB x = true) : toL x ≠ [] := fun e => by
  have := (name_size h).1
  rw [← toL_len, e] at this
  simp at this
/-- The path of what was set is that of its value. -/
theorem val_setL (l : List S50) (v : ByteArray) : valL (setL pathK ⟨pathK, v⟩ l) = v := by
  unfold valL getR
  rw [getL_setL]
/-- The path with a bridge more. -/
theorem path_new (l : List S50) (x : ByteArray) (h : nameB x = true) (m : List S50) (hm : valL m = newV l x) : pathL m = pathL l ++ [x] := by
  have h44 := name_no44 h
  have hne := name_ne h
  have hz : (valL m).toList ≠ [] := by
    rw [hm, toList_toL]
    unfold newV
    split
    · exact hne
    · rw [toL_append]
      intro e
      exact hne (List.append_eq_nil_iff.1 e).2
  unfold pathL
  rw [if_neg hz, hm]
  unfold newV
  by_cases h0 : (valL l).toList = []
  · rw [if_pos h0, if_pos h0, pieces_none _ _ h44]
    show [mkB (toL x)] = [] ++ [x]
    rw [mk_toL]
    rfl
  · rw [if_neg h0, if_neg h0, toL_append, toL_append]
    have e : pieces 44 (toL (valL l) ++ toL (⟨#[44]⟩ : ByteArray) ++ toL x) = pieces 44 (toL (valL l)) ++ [toL x] := by
      have h1 : toL (valL l) ++ toL (⟨#[44]⟩ : ByteArray) ++ toL x = Lib.join (pieces 44 (toL (valL l)) ++ [toL x]) [44] := by
        rw [join_snoc 44 _ _ (pieces_ne _ _), join_pieces, List.append_assoc]
        rfl
      rw [h1]
      refine pieces_join 44 _ (by simp) fun y hy => ?_
      rcases List.mem_append.1 hy with hy | hy
      · exact pieces_mem 44 _ y hy
      · rw [List.mem_singleton.1 hy]
        exact h44
    rw [e, List.map_append]
    show _ ++ [mkB (toL x)] = _
    rw [mk_toL]
end Go.Proofs.YtfikhfahpdhjbaaDoor.Pure
