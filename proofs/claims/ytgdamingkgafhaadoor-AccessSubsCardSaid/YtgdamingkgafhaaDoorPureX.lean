/- What the printed functions of access answer: Check, Expand, Allowed, Subscribes; the reference's Check. -/
import Derived.Test.YtgdamingkgafhaaDoorPx1
import Derived.Test.YtgdamingkgafhaaDoorPx11
import Derived.Test.YtgdamingkgafhaaDoorPx13
import Derived.Test.YtgdamingkgafhaaDoorPx6
import Derived.Test.YtgdamingkgafhaaDoorPx7
import Derived.Test.YtgdamingkgafhaaDoorPx8
import Derived.Test.YtgdamingkgafhaaDoorPureM
-- needs: brokerlaw20_awake access_Allowed access_Subscribes brokerref20_Check brokerlaw20_light access_Check
namespace Go.Proofs.YtgdamingkgafhaaDoor.Pure
open Go.RowKit Go.Proofs.YtgdamingkgafhaaDoor.P Go.Proofs.YtgdamingkgafhaaDoorW.PrintWords Go.Proofs.YtgdamingkgafhaaDoorW.PrintLast Go.Proofs.YtgdamingkgafhaaDoor.Ext

theorem awake_ev : Ev (fun k => brokerlaw20_awake.f k) true := by
  refine Ev.of (k := 40) ?_ (by decide +kernel)
  intro k
  exact brokerlaw20_awake.mono k
def lightB (c u s : BA) : Bool := decide (c.size ≤ 64 ∧ u.size ≤ 64 ∧ s.size ≤ 1000)
theorem light_val (c u s : BA) : brokerlaw20_light.f c u s = some (lightB c u s) := by
  unfold brokerlaw20_light.f lightB
  by_cases h1 : c.size ≤ 64
  · rw [if_pos (by omega)]
    by_cases h2 : u.size ≤ 64
    · rw [if_pos (by omega)]
      congr 1
      exact decide_eq_decide.2 ⟨fun h => ⟨h1, h2, by omega⟩, fun h => by have := h.2.2; omega⟩
    · rw [if_neg (by omega)]
      congr 1
      exact (decide_eq_false fun h => h2 h.2.1).symm
  · rw [if_neg (by omega)]
    congr 1
    exact (decide_eq_false fun h => h1 h.1).symm

/-! ### Check -/
def userB (r : S42) : Bool := decide (r.f1.toList = ([42] : List UInt8)) || nameB r.f1
def actB (r : S42) : Bool := decide (r.f2 < 0) || decide (r.f2 > 4)
def chkR (r : S42) : Int := if userB r = false then 11 else if actB r = true then 10 else if filterB r.f3 = false then 13 else 0
def chkL : List S42 → Int
  | [] => 0
  | r :: rs => if chkR r = 0 then chkL rs else chkR r
def chkB (l : List S42) : Int := if (l.length : Int) > 32 then 5 else chkL l
theorem chk_no {r : S42} {rs : List S42} {x : Int} (h : chkR r = x) (hx : x ≠ 0) : chkL (r :: rs) = x := by unfold chkL; rw [h, if_neg hx]
theorem chk_ok {r : S42} {rs : List S42} (h : chkR r = 0) : chkL (r :: rs) = chkL rs := by rw [chkL, if_pos h]
theorem rdT (l : List S42) (i : Nat) : rd_T42 l (i : Int) = l.getD i z42 := rfl
theorem check_l0 (l : List S42) (hl : l.length ≤ 32) (hs : ∀ r ∈ l, r.f1.size ≤ 9223372036854775807 ∧ r.f3.size ≤ 9223372036854775807) : ∀ (rs : List S42) (i : Nat), l.drop i = rs → i ≤ l.length →
    Ev (fun k => access_Check.l0 k l (l.length : Int) (i : Int)) (chkL rs) := by
  intro rs
  induction rs with
  | nil =>
    intro i hd hi
    have := drop_nil hd
    refine ev_succ ?_
    simp only [access_Check.l0]
    exact ev_neg (by omega) (ev_some rfl)
  | cons a ar ih =>
    intro i hd hi
    obtain ⟨hlt, ha, hd2⟩ := drop_cons z42 hd
    have hm : a ∈ l := List.mem_of_mem_drop (by rw [hd]; exact List.mem_cons_self ..)
    obtain ⟨s1, s3⟩ := hs a hm
    have next := ih (i + 1) hd2 (by omega)
    have j2 : userB a = true → Ev (fun k => access_Check.j2 k l (l.length : Int) (i : Int) (actB a) a.f0 a.f1 a.f2 a.f3) (chkL (a :: ar)) := by
      intro hu
      refine ev_succ ?_
      simp only [access_Check.j2]
      refine ev_if (fun h => ?_) (fun h => ?_)
      · refine ev_some ?_
        rw [chk_no (x := 10) (by unfold chkR; rw [hu, if_neg (by decide), if_pos h]) (by decide)]
      · refine ev_const (topic_filter a.f3 s3) (ev_if (fun hf => ?_) (fun hf => ?_))
        · rw [chk_ok (by unfold chkR; rw [hu, if_neg (by decide), if_neg (by rw [h]; decide), if_neg (by rw [hf]; decide)]), w64 (by omega) (by omega)]
          exact next
        · refine ev_some ?_
          rw [chk_no (x := 13) (by unfold chkR; rw [hu, if_neg (by decide), if_neg (by rw [h]; decide), if_pos hf]) (by decide)]
    have j1 : Ev (fun k => access_Check.j1 k l (l.length : Int) (i : Int) (!userB a) a.f0 a.f1 a.f2 a.f3) (chkL (a :: ar)) := by
      refine ev_succ ?_
      simp only [access_Check.j1]
      cases hu : userB a
      · refine ev_tt (ev_some ?_)
        rw [chk_no (x := 11) (by unfold chkR; rw [hu, if_pos rfl]) (by decide)]
      · have j2' := j2 hu
        refine ev_ff ?_
        by_cases h2 : a.f2 < 0
        · refine ev_pos h2 ?_
          rw [show actB a = true from by unfold actB; rw [decide_eq_true h2]; rfl] at j2'
          exact j2'
        · refine ev_neg h2 ?_
          rw [show actB a = decide (a.f2 > 4) from by unfold actB; rw [decide_eq_false h2]; rfl] at j2'
          exact j2'
    refine ev_succ ?_
    simp only [access_Check.l0, rdT, ha]
    refine ev_pos (by omega) (ev_pos (by omega) (ev_pos (by omega) ?_))
    by_cases h1 : a.f1.toList = ([42] : List UInt8)
    · refine ev_pos h1 ?_
      rw [show (!userB a) = false from by unfold userB; rw [decide_eq_true h1]; rfl] at j1
      exact j1
    · refine ev_neg h1 (ev_const (topic_name a.f1 s1) ?_)
      rw [show (!userB a) = !nameB a.f1 from by unfold userB; rw [decide_eq_false h1]; rfl] at j1
      exact j1
theorem check_ev (l : List S42) (hs : ∀ r ∈ l, r.f1.size ≤ 9223372036854775807 ∧ r.f3.size ≤ 9223372036854775807) : Ev (fun k => access_Check.f k l) (chkB l) := by
  simp only [access_Check.f]
  by_cases h : (l.length : Int) > 32
  · exact ev_pos h (ev_some (by unfold chkB; rw [if_pos h]))
  · refine ev_neg h ?_
    have := check_l0 l (by omega) hs l 0 rfl (Nat.zero_le _)
    unfold chkB
    rw [if_neg h]
    exact this
theorem refcheck_l0 (l : List S42) (hl : l.length ≤ 32) : ∀ (rs : List S42) (i : Nat), l.drop i = rs → i ≤ l.length →
    Ev (fun k => brokerref20_Check.l0 k l (i : Int)) (chkL rs) := by
  intro rs
  induction rs with
  | nil =>
    intro i hd hi
    have := drop_nil hd
    refine ev_succ ?_
    simp only [brokerref20_Check.l0]
    exact ev_neg (by omega) (ev_some rfl)
  | cons a ar ih =>
    intro i hd hi
    obtain ⟨hlt, ha, hd2⟩ := drop_cons z42 hd
    have next := ih (i + 1) hd2 (by omega)
    have j2 : userB a = true → Ev (fun k => brokerref20_Check.j2 k l (i : Int) (actB a)) (chkL (a :: ar)) := by
      intro hu
      refine ev_succ ?_
      simp only [brokerref20_Check.j2, rdT, ha]
      refine ev_if (fun h => ?_) (fun h => ?_)
      · refine ev_some ?_
        rw [chk_no (x := 10) (by unfold chkR; rw [hu, if_neg (by decide), if_pos h]) (by decide)]
      · refine ev_pos (by omega) (ev_pos (by omega) (ev_bind (reffilter_all a.f3) (ev_if (fun hf => ?_) (fun hf => ?_))))
        · rw [chk_ok (by unfold chkR; rw [hu, if_neg (by decide), if_neg (by rw [h]; decide), if_neg (by rw [hf]; decide)]), w64 (by omega) (by omega)]
          exact next
        · refine ev_some ?_
          rw [chk_no (x := 13) (by unfold chkR; rw [hu, if_neg (by decide), if_neg (by rw [h]; decide), if_pos hf]) (by decide)]
    have j1 : Ev (fun k => brokerref20_Check.j1 k l (i : Int) (!userB a)) (chkL (a :: ar)) := by
      refine ev_succ ?_
      simp only [brokerref20_Check.j1, rdT, ha]
      cases hu : userB a
      · refine ev_tt (ev_some ?_)
        rw [chk_no (x := 11) (by unfold chkR; rw [hu, if_pos rfl]) (by decide)]
      · have j2' := j2 hu
        refine ev_ff (ev_pos (by omega) (ev_pos (by omega) ?_))
        by_cases h2 : a.f2 < 0
        · refine ev_pos h2 ?_
          rw [show actB a = true from by unfold actB; rw [decide_eq_true h2]; rfl] at j2'
          exact j2'
        · refine ev_neg h2 ?_
          rw [show actB a = decide (a.f2 > 4) from by unfold actB; rw [decide_eq_false h2]; rfl] at j2'
          exact j2'
    refine ev_succ ?_
    simp only [brokerref20_Check.l0, rdT, ha]
    refine ev_pos (by omega) (ev_pos (by omega) ?_)
    by_cases h1 : a.f1.toList = ([42] : List UInt8)
    · refine ev_pos h1 ?_
      rw [show (!userB a) = false from by unfold userB; rw [decide_eq_true h1]; rfl] at j1
      exact j1
    · refine ev_neg h1 (ev_bind (refname_all a.f1) ?_)
      rw [show (!userB a) = !nameB a.f1 from by unfold userB; rw [decide_eq_false h1]; rfl] at j1
      exact j1
theorem refcheck_ev (l : List S42) : Ev (fun k => brokerref20_Check.f k l) (chkB l) := by
  simp only [brokerref20_Check.f]
  by_cases h : (l.length : Int) > 32
  · exact ev_pos h (ev_some (by unfold chkB; rw [if_pos h]))
  · refine ev_neg h ?_
    have := refcheck_l0 l (by omega) l 0 rfl (Nat.zero_le _)
    unfold chkB
    rw [if_neg h]
    exact this
/-- A valid list. -/
def Good (l : List S42) : Prop := l.length ≤ 32 ∧ ∀ r ∈ l, filterB r.f3 = true
theorem chkR_ok {r : S42} (h : chkR r = 0) : filterB r.f3 = true := by
  unfold chkR at h
  split at h
  · exact absurd h (by decide)
  · split at h
    · exact absurd h (by decide)
    · split at h
      · exact absurd h (by decide)
      · rename_i hf
        simpa using hf
theorem chkL_ok : ∀ {l : List S42}, chkL l = 0 → ∀ r ∈ l, filterB r.f3 = true
  | [], _, r, hr => by cases hr
  | a :: ar, h, r, hr => by
    unfold chkL at h
    split at h
    · rename_i ha
      rcases List.mem_cons.1 hr with rfl | hr
      · exact chkR_ok ha
      · exact chkL_ok h r hr
    · rename_i ha
      exact absurd h ha
theorem good_of {l : List S42} (h : chkB l = 0) : Good l := by
  unfold chkB at h
  split at h
  · exact absurd h (by decide)
  · exact ⟨by omega, chkL_ok h⟩

/-! ### Expand -/
def exp1 (c u s : BA) : BA := if s.toList = ([37, 99] : List UInt8) then c else if s.toList = ([37, 117] : List UInt8) then u else s
def expL (c u : BA) (l : List BA) : List BA := l.map (exp1 c u)
def expB (c u f : BA) : BA := mkB (Lib.join ((expL c u (levels f)).map toL) [47])
theorem exp_small {c u : BA} {l : List BA} {B : Nat} (hc : c.size ≤ B) (hu : u.size ≤ B) (hl : ∀ x ∈ l, x.size ≤ B) : ∀ x ∈ expL c u l, x.size ≤ B := by
  intro x hx
  obtain ⟨y, hy, rfl⟩ := List.mem_map.1 hx
  unfold exp1
  split
  · exact hc
  · split
    · exact hu
    · exact hl y hy
theorem topic_join_of (l : List BA) (hl : l.length ≤ 2048) (hx : ∀ x ∈ l, x.size ≤ 4096) : topic_Join.f l = some (mkB (Lib.join (l.map toL) [47])) := by
  unfold topic_Join.f strings_Join.f
  have := joined_len (l.map toL) 47 4096 (fun x hxm => by
    obtain ⟨s, hs, rfl⟩ := List.mem_map.1 hxm
    rw [toL_len]
    exact hx s hs)
  rw [List.length_map] at this
  have h2 : (4096 + 1) * l.length ≤ 4097 * 2048 := Nat.mul_le_mul_left _ hl
  rw [joinF_eq _ 47 (by omega) (by omega)]
  rfl
theorem expand_l0 (c u : BA) (L : List BA) (hL : L.length ≤ 2048) (hc : c.size ≤ 4096) (hu : u.size ≤ 4096) (hs : ∀ x ∈ L, x.size ≤ 4096) : ∀ (r : List BA) (i : Nat) (out : List BA), L.drop i = r → i ≤ L.length → out = expL c u (L.take i) →
    Ev (fun k => access_Expand.l0 k out L (L.length : Int) (i : Int) c u) (mkB (Lib.join ((expL c u L).map toL) [47])) := by
  intro r
  induction r with
  | nil =>
    intro i out hd hi ho
    have := drop_nil hd
    refine ev_succ ?_
    simp only [access_Expand.l0]
    refine ev_neg (by omega) (ev_const (topic_join_of out ?_ ?_) (ev_some ?_))
    · rw [ho, expL, List.length_map, List.length_take]; omega
    · rw [ho]; exact exp_small hc hu (fun x hx => hs x (List.mem_of_mem_take hx))
    · rw [ho, List.take_of_length_le this]
  | cons a ar ih =>
    intro i out hd hi ho
    obtain ⟨hlt, ha, hd2⟩ := drop_cons ByteArray.empty hd
    have hlen : out.length ≤ 2048 := by rw [ho, expL, List.length_map, List.length_take]; omega
    have hout : out ++ [exp1 c u a] = expL c u (L.take (i + 1)) := by
      rw [ho, List.take_succ_eq_append_getElem hlt, expL, expL, List.map_append]
      congr 1
      rw [List.getD_eq_getElem?_getD, List.getElem?_eq_getElem hlt] at ha
      have ha' : L[i] = a := ha
      rw [ha']
      rfl
    have next := ih (i + 1) _ hd2 (by omega) hout
    refine ev_succ ?_
    simp only [access_Expand.l0, rd_get, ha]
    refine ev_pos (by omega) (ev_pos (by omega) (ev_pos (by omega) ?_))
    rw [w64 (by omega) (by omega), show (i : Int) + 1 = ((i + 1 : Nat) : Int) from by omega]
    by_cases h1 : a.toList = ([37, 99] : List UInt8)
    · refine ev_pos h1 (ev_pos (by omega) ?_)
      rw [show exp1 c u a = c from by unfold exp1; rw [if_pos h1]] at next
      exact next
    · refine ev_neg h1 ?_
      by_cases h2 : a.toList = ([37, 117] : List UInt8)
      · refine ev_pos h2 (ev_pos (by omega) ?_)
        rw [show exp1 c u a = u from by unfold exp1; rw [if_neg h1, if_pos h2]] at next
        exact next
      · refine ev_neg h2 (ev_pos (by omega) ?_)
        rw [show exp1 c u a = a from by unfold exp1; rw [if_neg h1, if_neg h2]] at next
        exact next
theorem expand_ev (f c u : BA) (hf : f.size ≤ 1000) (hc : c.size ≤ 64) (hu : u.size ≤ 64) : Ev (fun k => access_Expand.f k f c u) (expB c u f) := by
  have hl : (levels f).length ≤ 1001 := by have := levels_len f; omega
  simp only [access_Expand.f]
  refine ev_const (topic_levels f (by omega)) (ev_pos (by omega) (ev_pos (by omega) ?_))
  exact expand_l0 c u (levels f) (by omega) (by omega) (by omega) (fun x hx => by have := levels_size f x hx; omega) (levels f) 0 _ rfl (Nat.zero_le _) rfl
theorem expB_size (f c u : BA) (hf : f.size ≤ 1000) (hc : c.size ≤ 64) (hu : u.size ≤ 64) : (expB c u f).size ≤ 9223372036854775806 := by
  have hl : (levels f).length ≤ 1001 := by have := levels_len f; omega
  unfold expB
  rw [size_mk]
  have := joined_len ((expL c u (levels f)).map toL) 47 4096 (fun x hxm => by
    obtain ⟨s, hs, rfl⟩ := List.mem_map.1 hxm
    rw [toL_len]
    exact exp_small (by omega) (by omega) (fun x hx => by have := levels_size f x hx; omega) s hs)
  rw [List.length_map, expL, List.length_map] at this
  have h2 : (4096 + 1) * (levels f).length ≤ 4097 * 2048 := Nat.mul_le_mul_left _ (by omega)
  simp only [expL]
  omega
end Go.Proofs.YtgdamingkgafhaaDoor.Pure
