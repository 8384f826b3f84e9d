
/- What the printed Topic answers: the program's, the specification's; they are the same. -/
import Derived.Test.YtfcomjinaokeaaaGreatDoorPx1
import Derived.Test.YtfcomjinaokeaaaGreatDoorPx5
import Derived.Test.YtfcomjinaokeaaaGreatDoorPx6
import Derived.Test.YtfcomjinaokeaaaGreatDoorPureWf
-- needs: mapping_level mapping_Topic topic_Join brokerref45_level brokerref45_Topic brokerref45_Word
namespace Go.Proofs.YtfcomjinaokeaaaGreatDoor.Pure
open Go.RowKit Go.Proofs.YtfcomjinaokeaaaGreatDoor.P Go.Proofs.YtfcomjinaokeaaaGreatDoorW.PrintWords Go.Proofs.YtfcomjinaokeaaaGreatDoorW.PrintLast Go.Proofs.YtfcomjinaokeaaaGreatDoor.Ext

theorem decD_len : ∀ (n : Nat) (l q : List UInt8), l.length ≤ n → decD l = some q → q.length ≤ l.length := by
  intro n
  induction n with
  | zero =>
    intro l q hn h
    obtain rfl : l = [] := List.eq_nil_of_length_eq_zero (by omega)
    obtain rfl := Option.some.inj h
    exact Nat.le_refl _
  | succ n ih =>
    intro l q hn h
    cases l with
    | nil =>
      obtain rfl := Option.some.inj h
      exact Nat.le_refl _
    | cons b r =>
      rw [List.length_cons] at hn
      by_cases c : b = 37
      · subst c
        cases r with
        | nil => cases h
        | cons c r =>
          rw [List.length_cons] at hn
          unfold decD at h
          rw [if_pos rfl] at h
          split at h
          · obtain ⟨t, ht, rfl⟩ := Option.map_eq_some_iff.1 h
            have := ih r t (by omega) ht
            simp only [List.length_cons]
            omega
          · split at h
            · obtain ⟨t, ht, rfl⟩ := Option.map_eq_some_iff.1 h
              have := ih r t (by omega) ht
              simp only [List.length_cons]
              omega
            · cases h
      · rw [decD_plain b r c] at h
        obtain ⟨t, ht, rfl⟩ := Option.map_eq_some_iff.1 h
        have := ih r t (by omega) ht
        simp only [List.length_cons]
        omega
theorem decL_len {l q : List UInt8} (h : decL l = some q) : q.length ≤ l.length := by
  unfold decL at h
  split at h
  · obtain rfl := Option.some.inj h
    exact Nat.zero_le _
  · split at h
    · rename_i e
      obtain rfl := Option.some.inj h
      rw [e]
      decide
    · exact decD_len _ _ _ (Nat.le_refl _) h
/-! ### the specification's level -/
def refOf (s : BA) (o : Option (List UInt8)) : BA × Bool := match o with
  | some q => (mkB q, decide (wordL q = toL s))
  | none => (⟨#[]⟩, false)
theorem beq_word (q : List UInt8) (s : BA) : ((mkB (wordL q)).toList == s.toList) = decide (wordL q = toL s) := by
  rw [toList_toL, toList_toL, toL_mk]
  by_cases h : wordL q = toL s
  · rw [decide_eq_true h, h]
    exact beq_self_eq_true _
  · rw [decide_eq_false h]
    exact beq_eq_false_iff_ne.2 h
/-! ### all levels -/
def decAll : List (List UInt8) → Option (List (List UInt8))
  | [] => some []
  | p :: r => (decL p).bind fun q => (decAll r).map (q :: ·)
def refOne (p : List UInt8) : Option (List UInt8) := match decL p with
  | some q => if wordL q = p then (if 47 ∈ q then none else some q) else none
  | none => none
def refAll : List (List UInt8) → Option (List (List UInt8))
  | [] => some []
  | p :: r => (refOne p).bind fun q => (refAll r).map (q :: ·)
def slash (qs : List (List UInt8)) : BA := mkB (Lib.join qs [47])
def finT (s : BA) (o : Option (List (List UInt8))) : BA × Bool := match o with
  | some qs => if validB (slash qs) = true then (if keyB (slash qs) = s then (slash qs, true) else (⟨#[]⟩, false)) else (⟨#[]⟩, false)
  | none => (⟨#[]⟩, false)
def finR (o : Option (List (List UInt8))) : BA × Bool := match o with
  | some qs => if validB (slash qs) = true then (slash qs, true) else (⟨#[]⟩, false)
  | none => (⟨#[]⟩, false)
theorem slash_size {l : List BA} (hl : l.length ≤ 2048) (hx : ∀ x ∈ l, x.size ≤ 4096) : (slash (l.map toL)).size ≤ 8390656 := by
  have := joined_len (l.map toL) 47 4096 (fun x hxm => by
    obtain ⟨s, hs, rfl⟩ := List.mem_map.1 hxm
    rw [toL_len]
    exact hx s hs)
  rw [List.length_map] at this
  have : 4097 * l.length ≤ 4097 * 2048 := Nat.mul_le_mul_left _ hl
  unfold slash
  rw [size_mk]
  omega
theorem join_val {l : List BA} (hl : l.length ≤ 2048) (hx : ∀ x ∈ l, x.size ≤ 4096) : topic_Join.f l = some (slash (l.map toL)) := by
  have h := slash_size hl hx
  unfold slash at h
  rw [size_mk] at h
  unfold topic_Join.f strings_Join.f
  rw [joinF_eq l 47 (by omega) (by omega)]
  rfl
theorem topic_l0 (s : BA) (ws : List BA) (hl : ws.length ≤ 2048) : ∀ (r acc : List BA) (i : Nat), ws.drop i = r → acc.length = i → i ≤ ws.length → (∀ x ∈ r, x.size ≤ 1500) → (∀ x ∈ acc, x.size ≤ 4096) →
    Ev (fun k => mapping_Topic.l0 k s acc ws (ws.length : Int) (i : Int)) (finT s ((decAll (r.map toL)).map (acc.map toL ++ ·))) := by
  intro r
  induction r with
  | nil =>
    intro acc i h ha hi hx hy
    have hz := drop_nil h
    have hsz := slash_size (by omega) hy
    refine ev_succ ?_
    simp only [mapping_Topic.l0]
    refine ev_neg (by omega) (ev_const (join_val (by omega) hy) (ev_const (topic_valid _ (by omega)) ?_))
    show Ev _ (finT s (some (acc.map toL ++ [])))
    rw [List.append_nil]
    unfold finT
    by_cases hv : validB (slash (acc.map toL)) = true
    · refine ev_pos hv (ev_bind (key_ev _ (by omega)) ?_)
      show Ev _ (if validB (slash (acc.map toL)) = true then _ else _)
      rw [if_pos hv]
      by_cases hk : keyB (slash (acc.map toL)) = s
      · rw [if_pos hk]
        exact ev_pos (by rw [hk]) (ev_some rfl)
      · rw [if_neg hk]
        exact ev_neg (fun h => hk (toList_inj h)) (ev_some rfl)
    · refine ev_neg hv (ev_some ?_)
      show _ = some (if validB (slash (acc.map toL)) = true then _ else _)
      rw [if_neg hv]
  | cons a r ih =>
    intro acc i h ha hi hx hy
    obtain ⟨h1, h2, h3⟩ := drop_cons ByteArray.empty h
    have ha' := hx a (List.mem_cons_self ..)
    refine ev_succ ?_
    simp only [mapping_Topic.l0]
    refine ev_pos (by omega) (ev_pos (by omega) (ev_pos (by omega) ?_))
    rw [rd_get, h2, up1 i (by omega)]
    refine ev_bind (level_ev a (by omega)) ?_
    rw [List.map_cons]
    unfold decAll
    cases hd : decL (toL a) with
    | none => exact ev_ff (ev_some rfl)
    | some q =>
      have hq := decL_len hd
      rw [toL_len] at hq
      have := ih (acc ++ [mkB q]) (i + 1) h3 (by rw [List.length_append, ha]; rfl) (by omega) (fun x hxm => hx x (List.mem_cons_of_mem _ hxm)) (fun x hxm => by
        rcases List.mem_append.1 hxm with h | h
        · exact hy x h
        · rw [List.mem_singleton.1 h, size_mk]
          omega)
      have e : ((some q).bind fun q => (decAll (r.map toL)).map (q :: ·)).map (acc.map toL ++ ·) = (decAll (r.map toL)).map ((acc ++ [mkB q]).map toL ++ ·) := by
        rw [Option.bind_some, Option.map_map]
        congr 1
        funext t
        show acc.map toL ++ q :: t = _
        rw [List.map_append, List.append_assoc]
        rfl
      rw [e]
      exact ev_tt (ev_pos (by omega) this)
theorem topicm_ev' (s : BA) (hs : s.size ≤ 1000000) (hn : (pieces 46 (toL s)).length ≤ 2048) (hp : ∀ p ∈ pieces 46 (toL s), p.length ≤ 1500) : Ev (fun k => mapping_Topic.f k s) (finT s (decAll (pieces 46 (toL s)))) := by
  simp only [mapping_Topic.f]
  refine ev_const (by unfold strings_Split.f; exact splitF_eq 46 s (by omega)) ?_
  have := topic_l0 s ((pieces 46 (toL s)).map mkB) (by rw [List.length_map]; exact hn) ((pieces 46 (toL s)).map mkB) [] 0 rfl rfl (Nat.zero_le _) (fun x hx => by
    obtain ⟨p, hm, rfl⟩ := List.mem_map.1 hx
    rw [size_mk]
    exact hp p hm) (fun x h => by cases h)
  have e : ((pieces 46 (toL s)).map mkB).map toL = pieces 46 (toL s) := map_toL _
  rw [e] at this
  have e2 : (decAll (pieces 46 (toL s))).map ((([] : List BA).map toL) ++ ·) = decAll (pieces 46 (toL s)) := by
    cases decAll (pieces 46 (toL s)) <;> rfl
  rw [e2] at this
  exact this
theorem topicm_ev (s : BA) (hs : s.size ≤ 1000) : Ev (fun k => mapping_Topic.f k s) (finT s (decAll (pieces 46 (toL s)))) := by
  have hc := List.count_le_length (a := (46 : UInt8)) (l := toL s)
  rw [toL_len] at hc
  refine topicm_ev' s (by omega) (by rw [pieces_length]; omega) (fun p hp => ?_)
  have := splitL_size 46 s (mkB p) (by rw [splitL_pieces]; exact List.mem_map.2 ⟨p, hp, rfl⟩)
  rw [size_mk] at this
  omega
end Go.Proofs.YtfcomjinaokeaaaGreatDoor.Pure
