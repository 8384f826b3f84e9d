/- The law TopicShared over the printed functions. -/
import Derived.Test.YtpnekiledkgfiaaDoorPureLaws
import Derived.Test.YtpnekiledkgfiaaDoorPx5
namespace Go.Proofs.YtpnekiledkgfiaaDoor.Pure
open Go.RowKit Go.Proofs.YtpnekiledkgfiaaDoor.P Go.Proofs.YtpnekiledkgfiaaDoorW.PrintWords Go.Proofs.YtpnekiledkgfiaaDoorW.PrintLast Go.Proofs.YtpnekiledkgfiaaDoor.Ext

def sh : ByteArray := ⟨#[36, 115, 104, 97, 114, 101, 47]⟩
theorem sh_size : sh.size = 7 := rfl
def begB (a b : ByteArray) : Bool := if b.size ≤ a.size then (a.extract 0 b.size).toList == b.toList else false
theorem begins_some (a b : ByteArray) : brokerref01_Begins.f a b = some (begB a b) := by
  unfold brokerref01_Begins.f begB
  by_cases h : b.size ≤ a.size
  · rw [if_pos (by omega), if_pos (by omega), if_pos (by omega), if_pos h, Int.toNat_natCast]
  · rw [if_neg (by omega), if_neg h]
theorem has_prefix (a b : ByteArray) : strings_HasPrefix.f a b = some (begB a b) := by
  have e : stringslite_HasPrefix.f a b = some (begB a b) := begins_some a b
  unfold strings_HasPrefix.f
  rw [e]
  rfl
theorem begB_size {a b : ByteArray} (h : begB a b = true) : b.size ≤ a.size := by
  unfold begB at h
  split at h
  · assumption
  · cases h
theorem cut_prefix (a : ByteArray) : strings_CutPrefix.f a sh = some (if begB a sh = true then (a.extract 7 a.size, true) else (a, false)) := by
  have e : stringslite_HasPrefix.f a sh = some (begB a sh) := begins_some a sh
  unfold strings_CutPrefix.f stringslite_CutPrefix.f
  rw [e]
  cases h : begB a sh
  · rfl
  · have hz := begB_size h
    rw [Option.bind_some, if_pos rfl, if_pos (by omega), if_pos (by omega)]
    rfl

/-- The first slash, or the end. -/
def Slash (r : ByteArray) (m : Nat) : Prop := m ≤ r.size ∧ (∀ j, j < m → by_ r j ≠ 47) ∧ (m < r.size → by_ r m = 47)
theorem slash_ex (r : ByteArray) : ∃ m, Slash r m := by
  suffices h : ∀ d, d ≤ r.size → (∀ j, j < r.size - d → by_ r j ≠ 47) → ∃ m, Slash r m from h r.size (Nat.le_refl _) (fun j hj => by omega)
  intro d
  induction d with
  | zero => exact fun _ h => ⟨r.size, Nat.le_refl _, fun j hj => h j (by omega), fun h => absurd h (Nat.lt_irrefl _)⟩
  | succ d ih =>
    intro hd h
    by_cases c : by_ r (r.size - (d + 1)) = 47
    · exact ⟨r.size - (d + 1), by omega, h, fun _ => c⟩
    · refine ih (by omega) (fun j hj => ?_)
      by_cases e : j = r.size - (d + 1)
      · subst e; exact c
      · exact h j (by omega)
theorem slash_uniq {r : ByteArray} {m n : Nat} (h : Slash r m) (k : Slash r n) : m = n := by
  obtain ⟨h1, h2, h3⟩ := h
  obtain ⟨k1, k2, k3⟩ := k
  rcases Nat.lt_trichotomy m n with c | c | c
  · exact absurd (h3 (by omega)) (k2 m c)
  · exact c
  · exact absurd (k3 (by omega)) (h2 n c)

def none3 : ByteArray × ByteArray × Bool := (⟨#[]⟩, ⟨#[]⟩, false)
def shAt (r : ByteArray) (m : Nat) : ByteArray × ByteArray × Bool :=
  if m = r.size then none3 else if nameB (r.extract 0 m) = true then if filterB (r.extract (m + 1) r.size) = true then if begB (r.extract (m + 1) r.size) sh = true then none3 else (r.extract 0 m, r.extract (m + 1) r.size, true) else none3 else none3

theorem sh_l0 (r : ByteArray) (m : Nat) (hr : r.size ≤ 9223372036854775806) (hm : Slash r m) : ∀ d, d ≤ m → Ev (fun k => brokerref01_Shared.l0 k r ((m - d : Nat) : Int)) (shAt r m) := by
  obtain ⟨h1, h2, h3⟩ := hm
  have hj : Ev (fun k => brokerref01_Shared.j1 k r (m : Int)) (shAt r m) := by
    refine ev_succ ?_
    simp only [brokerref01_Shared.j1]
    by_cases e : m = r.size
    · refine ev_pos (by omega) (ev_some ?_)
      rw [shAt, if_pos e]; rfl
    · refine ev_neg (by omega) (ev_pos (by omega) (ev_pos (by omega) ?_))
      rw [w64 (by omega) (by omega)]
      have e1 : ((m : Int) + 1).toNat = m + 1 := by omega
      rw [e1, Int.toNat_natCast]
      have z1 : (r.extract 0 m).size ≤ r.size := by rw [extract_mk, size_mk, List.length_drop, List.length_take, toL_len]; omega
      have z2 : (r.extract (m + 1) r.size).size ≤ r.size := by rw [extract_mk, size_mk, List.length_drop, List.length_take, toL_len]; omega
      refine ev_bind (refname_ev _ (by omega)) ?_
      rw [shAt, if_neg e]
      refine ev_if (fun c => ?_) (fun c => ?_)
      · rw [if_pos c]
        refine ev_pos (by omega) (ev_pos (by omega) ?_)
        refine ev_bind (reffilter_ev _ (by omega)) ?_
        refine ev_if (fun c => ?_) (fun c => ?_)
        · rw [if_pos c]
          refine ev_const (begins_some _ sh) ?_
          refine ev_if (fun c => ?_) (fun c => ?_)
          · rw [if_pos c]; exact ev_some rfl
          · rw [if_neg (by simp [c])]; exact ev_some rfl
        · rw [if_neg (by simp [c])]; exact ev_some rfl
      · rw [if_neg (by simp [c])]; exact ev_some rfl
  intro d
  induction d with
  | zero =>
    intro _
    rw [Nat.sub_zero]
    refine ev_succ ?_
    simp only [brokerref01_Shared.l0]
    by_cases e : m = r.size
    · exact ev_neg (by omega) hj
    · refine ev_pos (by omega) (ev_pos (by omega) (ev_pos ?_ hj))
      rw [bt_by, h3 (by omega)]
      rfl
  | succ d ih =>
    intro hd
    refine ev_succ ?_
    simp only [brokerref01_Shared.l0]
    refine ev_pos (by omega) (ev_pos (by omega) (ev_neg ?_ ?_))
    · rw [bt_by]
      have := h2 (m - (d + 1)) (by omega)
      omega
    · rw [w64 (by omega) (by omega)]
      have e : (((m - (d + 1) : Nat) : Int) + 1) = ((m - d : Nat) : Int) := by omega
      rw [e]
      exact ih (by omega)

def sharedV (s : ByteArray) (m : Nat) : ByteArray × ByteArray × Bool := if begB s sh = true then shAt (s.extract 7 s.size) m else none3
theorem rest_size (s : ByteArray) : (s.extract 7 s.size).size = s.size - 7 := by rw [extract_mk, size_mk, List.length_drop, List.length_take, toL_len]; omega
theorem refshared_ev (s : ByteArray) (m : Nat) (hs : s.size ≤ 9223372036854775806) (hm : Slash (s.extract 7 s.size) m) : Ev (fun k => brokerref01_Shared.f k s) (sharedV s m) := by
  simp only [brokerref01_Shared.f]
  refine ev_const (begins_some s sh) ?_
  refine ev_if (fun c => ?_) (fun c => ?_)
  · have hz := begB_size c
    rw [sh_size] at hz
    rw [sharedV, if_pos c]
    refine ev_pos (by omega) ?_
    have := sh_l0 _ m (by rw [rest_size]; omega) hm m (Nat.le_refl _)
    rw [Nat.sub_self] at this
    exact this
  · rw [sharedV, if_neg (by simp [c])]
    exact ev_some rfl

theorem cutF_slash (r : ByteArray) (m : Nat) (hr : r.size ≤ maxLen) (hm : Slash r m) : cutF r ⟨#[47]⟩ = some (if m = r.size then (r, ⟨#[]⟩, false) else (r.extract 0 m, r.extract (m + 1) r.size, true)) := by
  obtain ⟨h1, h2, h3⟩ := hm
  have hd : hd_ ⟨#[47]⟩ = 47 := rfl
  unfold cutF
  rw [if_pos (show (⟨#[47]⟩ : ByteArray).size = 1 from rfl), if_pos hr, hd, Lib.cut, Lib.index_one]
  have hne : ∀ k, k < m → (toL r)[k]? ≠ some 47 := by
    intro k hk e
    have := h2 k hk
    rw [by_toL, e] at this
    exact this rfl
  by_cases e : m = r.size
  · have hi : Lib.indexByte (toL r) 47 = -1 := by
      refine indexByte_miss 47 _ (fun hmem => ?_)
      obtain ⟨k, hk, hkk⟩ := List.mem_iff_getElem.1 hmem
      rw [toL_len] at hk
      exact hne k (by omega) (by rw [List.getElem?_eq_getElem (by rw [toL_len]; exact hk), hkk])
    have hi' : Lib.indexByte r.data.toList 47 = -1 := hi
    rw [hi', if_neg (by decide), if_pos e]
  · have hlt : m < (toL r).length := by rw [toL_len]; omega
    have hat : (toL r)[m] = 47 := by
      obtain ⟨c, hc, hcn⟩ := toL_at (s := r) (i := m) (by omega)
      rw [h3 (by omega)] at hcn
      have := u8_eq hcn (by decide)
      rw [List.getElem?_eq_getElem hlt] at hc
      rw [Option.some.inj hc, this]
      rfl
    have hsplit : toL r = (toL r).take m ++ 47 :: (toL r).drop (m + 1) := by
      rw [← hat, ← List.drop_eq_getElem_cons hlt, List.take_append_drop]
    have hi : Lib.indexByte (toL r) 47 = (m : Int) := by
      rw [hsplit, indexByte_first]
      · rw [List.length_take, Nat.min_eq_left (by omega)]
      · intro hmem
        obtain ⟨k, hk, hkk⟩ := List.mem_iff_getElem.1 hmem
        rw [List.length_take] at hk
        rw [List.getElem_take] at hkk
        exact hne k (by omega) (by rw [List.getElem?_eq_getElem (by omega), hkk])
    have hi' : Lib.indexByte r.data.toList 47 = (m : Int) := hi
    rw [hi', if_pos (by omega), if_neg e, Int.toNat_natCast, extract_mk, extract_mk]
    have t : List.take r.size (toL r) = toL r := by rw [← toL_len, List.take_length]
    rw [t, List.drop_zero]
    rfl

theorem topic_shared (s : ByteArray) (m : Nat) (hs : s.size ≤ maxLen) (hm : Slash (s.extract 7 s.size) m) : topic_Shared.f s = some (sharedV s m) := by
  have hmax : maxLen = 9223372036854775807 := rfl
  have hc := cut_prefix s
  unfold topic_Shared.f
  have e0 : (⟨#[36, 115, 104, 97, 114, 101, 47]⟩ : ByteArray) = sh := rfl
  rw [e0, hc, Option.bind_some]
  cases c : begB s sh
  · unfold sharedV
    rw [c]
    rfl
  · rw [if_pos rfl, if_pos rfl, sharedV, if_pos c]
    have hz := rest_size s
    have hcut := cutF_slash _ m (by omega) hm
    have e1 : strings_Cut.f (s.extract 7 s.size) ⟨#[47]⟩ = cutF (s.extract 7 s.size) ⟨#[47]⟩ := rfl
    show (strings_Cut.f (s.extract 7 s.size) ⟨#[47]⟩).bind _ = _
    rw [e1, hcut, Option.bind_some, shAt]
    generalize s.extract 7 s.size = r at *
    have z1 : (r.extract 0 m).size ≤ r.size := by rw [extract_mk, size_mk, List.length_drop, List.length_take, toL_len]; omega
    have z2 : (r.extract (m + 1) r.size).size ≤ r.size := by rw [extract_mk, size_mk, List.length_drop, List.length_take, toL_len]; omega
    by_cases e : m = r.size
    · rw [if_pos e, if_pos e]
      rfl
    · rw [if_neg e, if_neg e, if_pos rfl]
      show (topic_Name.f (r.extract 0 m)).bind _ = _
      rw [topic_name _ (by omega), Option.bind_some]
      cases c1 : nameB (r.extract 0 m)
      · rfl
      · rw [if_pos rfl, if_pos rfl]
        show (topic_Filter.f (r.extract (m + 1) r.size)).bind _ = _
        rw [topic_filter _ (by omega), Option.bind_some]
        cases c2 : filterB (r.extract (m + 1) r.size)
        · rfl
        · rw [if_pos rfl, if_pos rfl]
          show (strings_HasPrefix.f (r.extract (m + 1) r.size) sh).bind _ = _
          rw [has_prefix, Option.bind_some]
          cases c3 : begB (r.extract (m + 1) r.size) sh <;> rfl

theorem shAt_ok {r : ByteArray} {m : Nat} {g f : ByteArray} (h : shAt r m = (g, f, true)) : nameB g = true ∧ filterB f = true ∧ begB f sh = false := by
  unfold shAt at h
  split at h
  · cases h
  · split at h
    · rename_i c1
      split at h
      · rename_i c2
        split at h
        · cases h
        · rename_i c3
          cases h
          exact ⟨c1, c2, by simpa using c3⟩
      · cases h
    · cases h
theorem sharedV_ok {s : ByteArray} {m : Nat} {g f : ByteArray} (h : sharedV s m = (g, f, true)) : nameB g = true ∧ filterB f = true ∧ begB f sh = false := by
  unfold sharedV at h
  split at h
  · exact shAt_ok h
  · cases h

def built (g f : ByteArray) : ByteArray := ((sh ++ g) ++ ⟨#[47]⟩) ++ f
theorem toL_app (a b : ByteArray) : toL (a ++ b) = toL a ++ toL b := by
  unfold toL
  rw [ByteArray.data_append, Array.toList_append]
theorem built_toL (g f : ByteArray) : toL (built g f) = toL sh ++ (toL g ++ 47 :: toL f) := by
  unfold built
  rw [toL_app, toL_app, toL_app, List.append_assoc, List.append_assoc]
  rfl
theorem built_rest (g f : ByteArray) : (built g f).extract 7 (built g f).size = mkB (toL g ++ 47 :: toL f) := by
  rw [extract_mk, ← toL_len, List.take_length, built_toL]
  exact congrArg mkB (List.drop_left' rfl)
theorem built_beg (g f : ByteArray) : begB (built g f) sh = true := by
  have hz : (built g f).size = 7 + (g.size + (f.size + 1)) := by
    rw [← toL_len, built_toL, List.length_append, List.length_append, List.length_cons, toL_len, toL_len, toL_len, sh_size]
  unfold begB
  rw [if_pos (by rw [sh_size]; omega), toList_toL, toList_toL, toL_extract, built_toL, List.drop_zero, List.take_left' (by rw [toL_len])]
  exact beq_self_eq_true _
theorem name_slash {g : ByteArray} (h : nameB g = true) : ∀ j, j < g.size → by_ g j ≠ 47 := by
  intro j hj e
  obtain ⟨_, _, hn⟩ := of_decide_eq_true h
  have := hn j hj
  unfold nameAt sign low at this
  rw [e] at this
  revert this
  split <;> decide
theorem by_app {a b : List UInt8} {j : Nat} (h : j < a.length) : by_ (mkB (a ++ b)) j = by_ (mkB a) j := by
  rw [by_toL, by_toL, toL_mk, toL_mk, List.getElem?_append_left h]
theorem built_ok (g f : ByteArray) (hn : nameB g = true) (hf : filterB f = true) (hb : begB f sh = false) : Slash ((built g f).extract 7 (built g f).size) g.size ∧ sharedV (built g f) g.size = (g, f, true) := by
  rw [built_rest]
  have hz : (mkB (toL g ++ 47 :: toL f)).size = g.size + (f.size + 1) := by rw [size_mk, List.length_append, List.length_cons, toL_len, toL_len]
  refine ⟨⟨by omega, fun j hj => ?_, fun _ => ?_⟩, ?_⟩
  · rw [by_app (by rw [toL_len]; exact hj), mk_toL]
    exact name_slash hn j hj
  · rw [by_toL, toL_mk, List.getElem?_append_right (by rw [toL_len]; omega), toL_len, Nat.sub_self]
    rfl
  · unfold sharedV
    rw [if_pos (built_beg g f), built_rest]
    have e1 : (mkB (toL g ++ 47 :: toL f)).extract 0 g.size = g := by
      rw [extract_mk, toL_mk, List.drop_zero, List.take_left' (toL_len g), mk_toL]
    have e2 : (mkB (toL g ++ 47 :: toL f)).extract (g.size + 1) (mkB (toL g ++ 47 :: toL f)).size = f := by
      have ht : List.take (mkB (toL g ++ 47 :: toL f)).size (toL g ++ 47 :: toL f) = toL g ++ 47 :: toL f := by rw [size_mk, List.take_length]
      rw [extract_mk, toL_mk, ht]
      have : toL g ++ 47 :: toL f = (toL g ++ [47]) ++ toL f := by simp
      rw [this, List.drop_left' (by rw [List.length_append, toL_len]; rfl), mk_toL]
    unfold shAt
    rw [e1, e2, if_neg (by omega), if_pos hn, if_pos hf, if_neg (by simp [hb])]

theorem j2_true (a1 a2 : ByteArray) (v : ByteArray × ByteArray × Bool) (c : Bool) (h : c = true → v = (a1, a2, true)) (k : c = false → v ≠ (a1, a2, true)) :
    Ev (fun k => brokerlaw01_TopicShared.j2 k a1 a2 v.1 v.2.1 v.2.2 c) true := by
  refine ev_succ ?_
  simp only [brokerlaw01_TopicShared.j2]
  refine ev_if (fun e => ?_) (fun e => ?_)
  · rw [h e]
    refine ev_bind awake_ev (ev_tt (ev_tt (ev_pos rfl (ev_some ?_))))
    simp
  · refine ev_bind awake_ev (ev_tt ?_)
    obtain ⟨x, y, b⟩ := v
    refine ev_if (fun hb => ?_) (fun _ => ev_some rfl)
    by_cases h1 : x.toList = a1.toList
    · refine ev_pos h1 (ev_some ?_)
      have hx : x = a1 := toL_inj (by rw [← toList_toL, ← toList_toL, h1])
      have hy : y.toList ≠ a2.toList := by
        intro h2
        have hy : y = a2 := toL_inj (by rw [← toList_toL, ← toList_toL, h2])
        exact k e (by rw [hx, hy]; exact congrArg (fun b => (a1, a2, b)) hb)
      simp [hy]
    · exact ev_neg h1 (ev_some rfl)

theorem TopicShared (s g f : ByteArray) (hs : s.size ≤ 140737488351232) (hg : g.size ≤ 140737488351232) (hf : f.size ≤ 140737488351232) : ∃ k, brokerlaw01_TopicShared.f k s g f = some true := by
  have hmax : maxLen = 9223372036854775807 := rfl
  suffices h : Ev (fun k => brokerlaw01_TopicShared.f k s g f) true from h.rounds
  simp only [brokerlaw01_TopicShared.f]
  obtain ⟨m, hm⟩ := slash_ex (s.extract 7 s.size)
  refine ev_const (topic_shared s m (by omega) hm) (ev_bind (refshared_ev s m (by omega) hm) (ev_pos rfl (ev_pos rfl ?_)))
  have e : ((sharedV s m).2.2 != (sharedV s m).2.2) = false := by simp
  rw [e]
  refine ev_succ ?_
  simp only [brokerlaw01_TopicShared.j0]
  refine ev_ff ?_
  have hj : ∀ c, Ev (fun k => brokerlaw01_TopicShared.j1 k g f c) true := by
    intro c
    refine ev_succ ?_
    simp only [brokerlaw01_TopicShared.j1]
    refine ev_if (fun _ => ev_bind awake_ev (ev_some rfl)) (fun _ => ?_)
    have e7 : sh.size = 7 := rfl
    have e1 : (⟨#[47]⟩ : ByteArray).size = 1 := rfl
    have z1 : (sh ++ g).size = 7 + g.size := by rw [ByteArray.size_append, e7]
    have z2 : ((sh ++ g) ++ ⟨#[47]⟩).size = 7 + g.size + 1 := by rw [ByteArray.size_append, z1, e1]
    have z3 : (built g f).size = 7 + g.size + 1 + f.size := by rw [built, ByteArray.size_append, z2]
    have e0 : (⟨#[36, 115, 104, 97, 114, 101, 47]⟩ : ByteArray) = sh := rfl
    rw [e0]
    refine ev_pos (by omega) (ev_pos (by omega) (ev_pos (by omega) ?_))
    obtain ⟨n, hn⟩ := slash_ex ((built g f).extract 7 (built g f).size)
    refine ev_const (topic_shared (built g f) n (by omega) hn) ?_
    have bad : ∀ c : Bool, (c = true → nameB g = true ∧ filterB f = true ∧ begB f sh = false) → (c = false → ¬ (nameB g = true ∧ filterB f = true ∧ begB f sh = false)) → Ev (fun k => brokerlaw01_TopicShared.j2 k g f (sharedV (built g f) n).1 (sharedV (built g f) n).2.1 (sharedV (built g f) n).2.2 c) true := by
      intro c h k
      refine j2_true g f (sharedV (built g f) n) c (fun e => ?_) (fun e he => k e (sharedV_ok he))
      obtain ⟨h1, h2, h3⟩ := h e
      obtain ⟨b1, b2⟩ := built_ok g f h1 h2 h3
      rw [slash_uniq hn b1, b2]
    refine ev_const (topic_name g (by omega)) (ev_if (fun c1 => ?_) (fun c1 => bad false (fun h => by cases h) (fun _ h => by simp [c1] at h)))
    refine ev_const (topic_filter f (by omega)) (ev_if (fun c2 => ?_) (fun c2 => bad false (fun h => by cases h) (fun _ h => by simp [c2] at h)))
    refine ev_const (begins_some f sh) (bad _ (fun h => ⟨c1, c2, by simpa using h⟩) (fun h k => by simp [k.2.2] at h))
  by_cases c : (g.size : Int) > 4096
  · exact ev_pos c (hj true)
  · exact ev_neg c (hj _)
theorem TopicShared' (s : ByteArray) (hs : s.size ≤ 140737488351232) (g : ByteArray) (hg : g.size ≤ 140737488351232) (f : ByteArray) (hf : f.size ≤ 140737488351232) : ∃ k, brokerlaw01_TopicShared.f k s g f = some true := TopicShared s g f hs hg hf
end Go.Proofs.YtpnekiledkgfiaaDoor.Pure
