/- TopPatterns: what its callees answer at every filter and name, put into the walk. -/
import Derived.Test.YtfcomjinaokeaaaGreatDoorPx1
import Derived.Test.YtfcomjinaokeaaaGreatDoorPx2
import Derived.Test.YtfcomjinaokeaaaGreatDoorPx3
import Derived.Test.YtfcomjinaokeaaaGreatDoorPx4
import Derived.Test.YtfcomjinaokeaaaGreatDoorPx6
import Derived.Test.YtfcomjinaokeaaaGreatDoorPx7
import Derived.Test.YtfcomjinaokeaaaGreatDoorHandZ
import Derived.Test.YtfcomjinaokeaaaGreatDoorPureBack
import Derived.Test.YtfcomjinaokeaaaGreatDoorPureEm
import Derived.Test.YtfcomjinaokeaaaGreatDoorPureW
-- needs: topic_Filter topic_Valid topic_Name topic_System mapping_Pattern mapping_Key mapping_Topic match_Matches exchange_plain exchange_Matches
namespace Go.Proofs.YtfcomjinaokeaaaGreatDoor.Pure
open Go.RowKit Go.Proofs.YtfcomjinaokeaaaGreatDoor.P Go.Proofs.YtfcomjinaokeaaaGreatDoorW.PrintWords Go.Proofs.YtfcomjinaokeaaaGreatDoorW.PrintLast Go.Proofs.YtfcomjinaokeaaaGreatDoor.Ext

theorem name_ok {s : BA} (hs : s.size ≤ 100) (h : nameB s = true) : NameOk s := fun W => topic_Name.calls s true W ((topic_name s (by omega)).trans (congrArg some h))
theorem plain_okk {s : BA} (h0 : (0 : UInt8) ∉ toL s) (hs : s.size ≤ 64) : PlainOk s := fun W => exchange_plain.calls s 0 W (plain_ok h0 hs)
theorem ret_pat {s r : BA} {b : Bool} (h : Ev (fun k => mapping_Pattern.f k s) (r, b)) : Ret 4 #[.string s] (.tuple #[.string r, .bool b]) := by
  obtain ⟨K, hK⟩ := h
  exact fun W => mapping_Pattern.calls K s r b W (hK K (Nat.le_refl _))
theorem ret_filter (s : BA) (hs : s.size ≤ 9223372036854775807) : Ret 5 #[.string s] (.bool (filterB s)) := fun W => topic_Filter.calls s _ W (topic_filter s hs)
theorem ret_valid (s : BA) (hs : s.size ≤ 9223372036854775807) : Ret 6 #[.string s] (.bool (validB s)) := fun W => topic_Valid.calls s _ W (topic_valid s hs)
theorem ret_key {s r : BA} (h : Ev (fun k => mapping_Key.f k s) r) : Ret 7 #[.string s] (.string r) := by
  obtain ⟨K, hK⟩ := h
  exact fun W => mapping_Key.calls K s r W (hK K (Nat.le_refl _))
theorem ret_topic {s r : BA} {b : Bool} (h : Ev (fun k => mapping_Topic.f k s) (r, b)) : Ret 8 #[.string s] (.tuple #[.string r, .bool b]) := by
  obtain ⟨K, hK⟩ := h
  exact fun W => mapping_Topic.calls K s r b W (hK K (Nat.le_refl _))
theorem ret_sys (s : BA) : Ret 12 #[.string s] (.bool (sysB s)) := fun W => (topic_System.calls s _ W (system_val s)).mono fun _ _ h => ⟨h.1, h.2.below⟩
theorem ret_match {f n : BA} {b : Bool} (h : Ev (fun k => match_Matches.f k f n) b) : Ret 13 #[.string f, .string n] (.bool b) := by
  obtain ⟨K, hK⟩ := h
  exact fun W => match_Matches.calls K f n b W (hK K (Nat.le_refl _))
theorem match_is {p k : BA} {b : Bool} (h : Ev (fun m => exchange_Matches.f m p k) b) : MatchIs p k b := by
  obtain ⟨K, hK⟩ := h
  exact fun W => exchange_Matches.calls K p k b W (hK K (Nat.le_refl _))
theorem some_pat : patsB ⟨#[97, 47, 43]⟩ = (⟨#[97, 46, 42]⟩, true) := by decide +kernel
theorem topics_name : nameB topicsS = true := by decide +kernel
theorem q_name : nameB qS = true := by decide +kernel
/-- The pattern of a filter and the key of a name match as the filter and the name do, apart from the dollar sign. -/
theorem em_match {f n : BA} (hf : filterB f = true) (hn : validB n = true) (h1 : (dots ((levels f).map patB1)).size ≤ 64) (h2 : (dots ((levels n).map wordB)).size ≤ 64) :
    Ev (fun m => exchange_Matches.f m (dots ((levels f).map patB1)) (dots ((levels n).map wordB))) (matchL (levels f) (levels n)) := by
  have l1 := lev_len (filter_size hf)
  have l2 := lev_len (valid_size hn)
  have := em_ev (dots_no0 patB1 _ (fun x hx => patL_no0 (level_no0 (filter_sized hf) hx))) (dots_no0 wordB _ (fun x hx => wordL_no0 (level_no0 (valid_sized hn) hx))) h1 h2
    (split_dots patB1 _ (levels_ne f) (fun x => patL_no46 _) h1) (split_dots wordB _ (levels_ne n) (fun x => word_no46 _) h2) (by rw [List.length_map]; omega) (by rw [List.length_map]; omega)
  rw [amq_match _ _ (filter_ok hf)] at this
  exact this
theorem top_calls (a b : BA) (ha : a.size ≤ 140737488351232) (hb : b.size ≤ 140737488351232) (w : World) : Calls Tryz.prog 3 #[.string a, .string b] w fun e w' => e = .returned (.bool true) ∧ Below w.heap.size w w' := by
  have h1 : Ret 4 #[.string ⟨#[97, 47, 43]⟩] (.tuple #[.string ⟨#[97, 46, 42]⟩, .bool true]) := ret_pat (by
    have := pattern_ev ⟨#[97, 47, 43]⟩ (by decide)
    rw [some_pat] at this
    exact this)
  have h2 := pattern_ev a (by omega)
  have h3 := ret_filter a (by omega)
  have h4 := ret_valid b (by omega)
  unfold patsB at h2
  cases hf : filterB a with
  | false =>
    rw [if_neg (by rw [hf]; decide)] at h2
    rw [hf] at h3
    exact top_none a b w h1 (ret_pat h2) h3
  | true =>
    rw [if_pos hf] at h2
    rw [hf] at h3
    cases hv : validB b with
    | false =>
      rw [hv] at h4
      exact top_novalid a b _ w h1 (ret_pat h2) h3 h4
    | true =>
      rw [hv] at h4
      have h5 := ret_key (key_ev b (by omega))
      have h6 := ret_topic (topic_of hv)
      rw [key_of hv] at h5 h6
      by_cases hp : ((dots ((levels a).map patB1)).size : Int) > 64
      · exact top_longp a b _ _ w h1 (ret_pat h2) h3 h4 h5 h6 hp
      · by_cases hk : ((dots ((levels b).map wordB)).size : Int) > 64
        · exact top_longk a b _ _ w h1 (ret_pat h2) h3 h4 h5 h6 hp hk
        · have hN := name_ok (by decide) topics_name
          have hq := name_ok (by decide) q_name
          have hpp : PlainOk (dots ((levels a).map patB1)) := plain_okk (dots_no0 patB1 _ (fun x hx => patL_no0 (level_no0 (filter_sized hf) hx))) (by omega)
          have hpk : PlainOk (dots ((levels b).map wordB)) := plain_okk (dots_no0 wordB _ (fun x hx => wordL_no0 (level_no0 (valid_sized hv) hx))) (by omega)
          have hm := match_is (em_match hf hv (by omega) (by omega))
          have h7 := ret_sys b
          have h8 := ret_match (matches_ev a b (by omega) (by omega))
          have ha0 : 0 < a.size := (of_decide_eq_true (filter_sized hf)).1
          have e0 : by_ a 0 = a[0].toNat := by
            unfold by_
            rw [dif_pos ha0]
          have hmb : (wildL (levels a) && sysB b) = false → matchB a b = matchL (levels a) (levels b) := by
            intro hw
            unfold matchB
            rw [hv, hf, hw]
            rfl
          cases hs : sysB b with
          | false =>
            rw [hmb (by rw [hs, Bool.and_false])] at h8
            rw [hs] at h7
            cases hx : matchL (levels a) (levels b) with
            | true =>
              rw [hx] at h8 hm
              exact top_true_nosys a b _ _ w h1 (ret_pat h2) h3 h4 h5 h6 hp hk hN hq hpp hpk hm h7 h8
            | false =>
              rw [hx] at h8 hm
              exact top_false_nosys a b _ _ w h1 (ret_pat h2) h3 h4 h5 h6 hp hk hN hq hpp hpk hm h7 h8
          | true =>
            rw [hs] at h7
            by_cases c1 : a[0].toNat = 43
            · cases hx : matchL (levels a) (levels b) with
              | true =>
                rw [hx] at hm
                exact top_true_plus a b _ _ w h1 (ret_pat h2) h3 h4 h5 h6 hp hk hN hq hpp hpk hm h7 ha0 (by omega)
              | false =>
                rw [hx] at hm
                exact top_false_plus a b _ _ w h1 (ret_pat h2) h3 h4 h5 h6 hp hk hN hq hpp hpk hm h7 ha0 (by omega)
            · by_cases c2 : a[0].toNat = 35
              · cases hx : matchL (levels a) (levels b) with
                | true =>
                  rw [hx] at hm
                  exact top_true_hash a b _ _ w h1 (ret_pat h2) h3 h4 h5 h6 hp hk hN hq hpp hpk hm h7 ha0 (by omega)
                | false =>
                  rw [hx] at hm
                  exact top_false_hash a b _ _ w h1 (ret_pat h2) h3 h4 h5 h6 hp hk hN hq hpp hpk hm h7 ha0 (by omega)
              · have hw : wildL (levels a) = false := by
                  cases hw : wildL (levels a) with
                  | false => rfl
                  | true =>
                    rcases wild_byte hw with h | h
                    · exact absurd (e0.symm.trans h) c1
                    · exact absurd (e0.symm.trans h) c2
                rw [hmb (by rw [hw, Bool.false_and])] at h8
                have d1 : ((a[0].toNat : Int) == 43) = false := beq_eq_false_iff_ne.2 (by omega)
                have d2 : ((a[0].toNat : Int) == 35) = false := beq_eq_false_iff_ne.2 (by omega)
                cases hx : matchL (levels a) (levels b) with
                | true =>
                  rw [hx] at h8 hm
                  exact top_true_sys a b _ _ w h1 (ret_pat h2) h3 h4 h5 h6 hp hk hN hq hpp hpk hm h7 ha0 d1 d2 h8
                | false =>
                  rw [hx] at h8 hm
                  exact top_false_sys a b _ _ w h1 (ret_pat h2) h3 h4 h5 h6 hp hk hN hq hpp hpk hm h7 ha0 d1 d2 h8
#print axioms top_calls
end Go.Proofs.YtfcomjinaokeaaaGreatDoor.Pure
