/- Round over the printed functions: both are one plain function of the credits, what was given, and the last index; FlowRounds. -/
import Derived.Test.YtdaleecijlemhaaPureNext
namespace Go.Proofs.Ytdaleecijlemhaa.Pure
open Go.RowKit Go.Proofs.Ytdaleecijlemhaa.P Go.Proofs.YtdaleecijlemhaaW.PrintWords Go.Proofs.YtdaleecijlemhaaW.PrintLast

theorem scan_lt (m : List S23) (f : Nat) : ∀ d i, scan m f d = some i → d ≤ m.length → i < m.length ∧ crd m i := by
  intro d
  induction d with
  | zero => intro i h; cases h
  | succ d ih =>
    intro i h hd
    unfold scan at h
    split at h
    · rename_i hc
      injection h with h
      subst h
      exact ⟨Nat.mod_lt _ (by omega), hc⟩
    · exact ih i h (by omega)

def up (x : S23) : S23 := ⟨x.f0, x.f1 + 1⟩
/-- At most d rounds from these credits, this that was given, this last index. -/
def rr : Nat → List S23 → List Int → Int → List Int × Int
  | 0, _, g, last => (g, last)
  | d + 1, m, g, last => match scan m (fst_ m.length last) m.length with
    | none => (g, last)
    | some i => rr d (m.set i (up (at_ m i))) (g.set i (g.getD i 0 + 1)) (i : Int)

theorem at_set (m : List S23) (i j : Nat) (x : S23) (hi : i < m.length) : at_ (m.set i x) j = if j = i then x else at_ m j := by
  unfold at_
  rw [List.getD_eq_getElem?_getD, List.getElem?_set, List.getD_eq_getElem?_getD]
  by_cases h : j = i
  · subst h
    simp [hi]
  · rw [if_neg (Ne.symm h), if_neg h]
theorem g_set (g : List Int) (i j : Nat) (x : Int) (hi : i < g.length) : (g.set i x).getD j 0 = if j = i then x else g.getD j 0 := by
  rw [List.getD_eq_getElem?_getD, List.getElem?_set, List.getD_eq_getElem?_getD]
  by_cases h : j = i
  · subst h
    simp [hi]
  · rw [if_neg (Ne.symm h), if_neg h]
theorem vl_set {m : List S23} {i : Nat} (hv : Vl m) (hi : i < m.length) (hc : crd m i) : Vl (m.set i (up (at_ m i))) := by
  intro j hj
  rw [List.length_set] at hj
  rw [at_set m i j _ hi]
  split
  · have := hv i hi
    unfold crd at hc
    unfold up Vd at *
    dsimp only
    omega
  · exact hv j hj
/-- What was given is from 0 to B. -/
def Bd (B : Int) (g : List Int) : Prop := ∀ j, 0 ≤ g.getD j 0 ∧ g.getD j 0 ≤ B
theorem bd_set {B : Int} {g : List Int} {i : Nat} (h : Bd B g) (hi : i < g.length) : Bd (B + 1) (g.set i (g.getD i 0 + 1)) := by
  intro j
  rw [g_set g i j _ hi]
  have h1 := h i
  have h2 := h j
  split <;> omega

theorem round_l0 (T : Nat) (hT : T ≤ 1024) : ∀ (d : Nat) (m : List S23) (g : List Int) (last : Int), d ≤ T → m.length ≤ 1000000 → g.length = m.length → Vl m → Bd ((T - d : Nat) : Int) g →
    Ev (fun k => flow_Round.l0 k last m g (T : Int) ((T - d : Nat) : Int)) (rr d m g last) := by
  intro d
  induction d with
  | zero =>
    intro m g last hd hl hg hv hb
    refine ev_succ ?_
    simp only [flow_Round.l0]
    exact ev_neg (by omega) (ev_some rfl)
  | succ d ih =>
    intro m g last hd hl hg hv hb
    refine ev_succ ?_
    simp only [flow_Round.l0]
    refine ev_pos (by omega) ?_
    refine ev_bind (next_ev m last hl) ?_
    unfold rr
    cases hs : scan m (fst_ m.length last) m.length with
    | none => exact ev_ff (ev_some rfl)
    | some i =>
      obtain ⟨hi, hc⟩ := scan_lt m _ _ i hs (Nat.le_refl _)
      simp only [out, if_true]
      refine ev_pos (by omega) (ev_pos (by omega) (ev_pos (by omega) ?_))
      have hvi := hv i hi
      have hbi := hb i
      rw [rd_at]
      have e1 : rd g (i : Int) = g.getD i 0 := rfl
      rw [e1]
      have e2 : ((i : Int)).toNat = i := rfl
      rw [e2]
      have c := hc
      unfold crd at c
      unfold Vd at hvi
      rw [w64 (x := (at_ m i).f1 + 1) (by omega) (by omega), w64 (x := g.getD i 0 + 1) (by omega) (by omega), w64 (by omega) (by omega), show (((T - (d + 1) : Nat) : Int) + 1) = ((T - d : Nat) : Int) by omega]
      have hb' := bd_set hb (i := i) (by omega)
      rw [show (((T - (d + 1) : Nat) : Int) + 1) = ((T - d : Nat) : Int) by omega] at hb'
      exact ih _ _ _ (by omega) (by rw [List.length_set]; exact hl) (by rw [List.length_set, List.length_set]; exact hg) (vl_set hv hi hc) hb'

theorem zeros_bd (n : Nat) : Bd 0 (List.replicate n (0 : Int)) := by
  intro j
  rw [List.getD_eq_getElem?_getD, List.getElem?_replicate]
  split <;> simp

/-- How many rounds. -/
def rounds_ (n : Int) : Nat := (mn (mx n 0) 1024).toNat
theorem rounds_le (n : Int) : rounds_ n ≤ 1024 := by unfold rounds_ mn mx; split <;> omega
theorem rounds_int (n : Int) : ((rounds_ n : Nat) : Int) = mn (mx n 0) 1024 := by unfold rounds_ mn mx; split <;> split <;> omega
theorem round_ev (l : List S23) (last n : Int) (hl : l.length ≤ 1000000) (hv : Vl l) : Ev (fun k => flow_Round.f k l last n) (rr (rounds_ n) l (List.replicate l.length 0) last) := by
  simp only [flow_Round.f]
  refine ev_const (a := l) ?_ ?_
  · unfold api_Credit.f
    rw [if_pos (by simp only [List.length_nil]; omega)]
    rfl
  · refine ev_pos (by omega) (ev_pos (by omega) ?_)
    have := round_l0 (rounds_ n) (rounds_le n) (rounds_ n) l (List.replicate l.length 0) last (Nat.le_refl _) hl (by simp) hv (by rw [Nat.sub_self]; exact zeros_bd _)
    rw [Nat.sub_self, rounds_int] at this
    exact this

theorem take_ref {a b : Int} (h : Vd a b) (hb : b < a) : brokerref16_Take.f a b = some (a, b + 1, true) := by
  unfold brokerref16_Take.f
  rw [left_ref h, if_pos hb]
  simp only [Option.bind_some]
  unfold Vd at h
  rw [if_neg (by omega), w64 (by omega) (by omega)]
theorem refround_l0 (n : Int) : ∀ (d : Nat) (m : List S23) (g : List Int) (last : Int), d ≤ rounds_ n → m.length ≤ 1000000 → g.length = m.length → Vl m → Bd ((rounds_ n - d : Nat) : Int) g →
    Ev (fun k => brokerref16_Round.l0 k last n m g ((rounds_ n - d : Nat) : Int)) (rr d m g last) := by
  have hle := rounds_le n
  have hr : ((rounds_ n : Nat) : Int) = mn (mx n 0) 1024 := rounds_int n
  have key : ∀ x : Nat, (x : Int) < (rounds_ n : Int) ↔ ((x : Int) < n ∧ (x : Int) < 1024) := by
    intro x
    rw [hr]
    unfold mn mx
    split <;> split <;> omega
  intro d
  induction d with
  | zero =>
    intro m g last hd hl hg hv hb
    rw [Nat.sub_zero] at *
    have k0 := key (rounds_ n)
    have fin : ∀ c : Bool, c = false → Ev (fun k => brokerref16_Round.j1 k last n m g (rounds_ n : Int) c) (rr 0 m g last) := by
      intro c hc
      subst hc
      refine ev_succ ?_
      simp only [brokerref16_Round.j1]
      exact ev_ff (ev_some rfl)
    refine ev_succ ?_
    simp only [brokerref16_Round.l0]
    by_cases h1 : ((rounds_ n : Nat) : Int) < n
    · exact ev_pos h1 (fin _ (decide_eq_false (by omega)))
    · exact ev_neg h1 (fin _ rfl)
  | succ d ih =>
    intro m g last hd hl hg hv hb
    have k0 := key (rounds_ n - (d + 1))
    refine ev_succ ?_
    simp only [brokerref16_Round.l0]
    refine ev_pos (by omega) ?_
    rw [decide_eq_true (by omega)]
    refine ev_succ ?_
    simp only [brokerref16_Round.j1, if_true]
    refine ev_bind (refnext_ev m last hl hv) ?_
    unfold rr
    cases hs : scan m (fst_ m.length last) m.length with
    | none => exact ev_ff (ev_some rfl)
    | some i =>
      obtain ⟨hi, hc⟩ := scan_lt m _ _ i hs (Nat.le_refl _)
      simp only [out, if_true]
      refine ev_pos (by omega) (ev_pos (by omega) ?_)
      have hvi := hv i hi
      have hbi := hb i
      rw [rd_at]
      refine ev_const (take_ref hvi hc) (ev_pos (by omega) ?_)
      have e1 : rd g (i : Int) = g.getD i 0 := rfl
      rw [e1]
      have e2 : ((i : Int)).toNat = i := rfl
      rw [e2]
      have c := hc
      unfold crd at c
      unfold Vd at hvi
      rw [w64 (x := g.getD i 0 + 1) (by omega) (by omega), w64 (by omega) (by omega), show (((rounds_ n - (d + 1) : Nat) : Int) + 1) = ((rounds_ n - d : Nat) : Int) by omega]
      have hb' := bd_set hb (i := i) (by omega)
      rw [show (((rounds_ n - (d + 1) : Nat) : Int) + 1) = ((rounds_ n - d : Nat) : Int) by omega] at hb'
      exact ih _ _ _ (by omega) (by rw [List.length_set]; exact hl) (by rw [List.length_set, List.length_set]; exact hg) (vl_set hv hi hc) hb'
theorem refround_ev (l : List S23) (last n : Int) (hl : l.length ≤ 1000000) (hv : Vl l) : Ev (fun k => brokerref16_Round.f k l last n) (rr (rounds_ n) l (List.replicate l.length 0) last) := by
  simp only [brokerref16_Round.f]
  refine ev_const (a := []) rfl (ev_pos (by simp only [List.length_nil]; omega) (ev_pos (by omega) (ev_pos (by omega) ?_)))
  have := refround_l0 n (rounds_ n) l (List.replicate l.length 0) last (Nat.le_refl _) hl (by simp) hv (by rw [Nat.sub_self]; exact zeros_bd _)
  rw [Nat.sub_self] at this
  exact this

/-- A list of numbers equals itself. -/
theorem ints_l0 (g : List Int) (hg : g.length ≤ 1000000) : ∀ d, d ≤ g.length → Ev (fun k => brokerref13_Ints.l0 k g g ((g.length - d : Nat) : Int)) true := by
  intro d
  induction d with
  | zero =>
    intro _
    refine ev_succ ?_
    simp only [brokerref13_Ints.l0]
    exact ev_neg (by omega) (ev_some rfl)
  | succ d ih =>
    intro hd
    refine ev_succ ?_
    simp only [brokerref13_Ints.l0]
    refine ev_pos (by omega) (ev_pos (by omega) (ev_pos (by omega) (ev_pos trivial ?_)))
    rw [w64 (by omega) (by omega), show (((g.length - (d + 1) : Nat) : Int) + 1) = ((g.length - d : Nat) : Int) by omega]
    exact ih (by omega)
theorem ints_ev (g : List Int) (hg : g.length ≤ 1000000) : Ev (fun k => brokerref13_Ints.f k g g) true := by
  simp only [brokerref13_Ints.f]
  refine ev_pos trivial ?_
  have := ints_l0 g hg g.length (Nat.le_refl _)
  rw [Nat.sub_self] at this
  exact this
theorem rr_length : ∀ (d : Nat) (m : List S23) (g : List Int) (last : Int), (rr d m g last).1.length = g.length := by
  intro d
  induction d with
  | zero => intro m g last; rfl
  | succ d ih =>
    intro m g last
    unfold rr
    split
    · rfl
    · rw [ih, List.length_set]

theorem FlowRounds (l : List S23) (last n : Int) : ∃ k, brokerlaw16_FlowRounds.f k l last n = some true := by
  suffices h : Ev (fun k => brokerlaw16_FlowRounds.f k l last n) true from h.rounds
  simp only [brokerlaw16_FlowRounds.f]
  obtain ⟨b, hb, hall⟩ := valid_ev l
  refine ev_bind hb ?_
  cases b with
  | false => exact ev_ff (ev_bind awake_ev (ev_some rfl))
  | true =>
    obtain ⟨hl, hv⟩ := hall rfl
    simp only [if_true]
    refine ev_bind (round_ev l last n (by omega) hv) (ev_bind (refround_ev l last n (by omega) hv) (ev_bind awake_ev ?_))
    simp only [if_true]
    refine ev_bind (ints_ev _ (by rw [rr_length, List.length_replicate]; omega)) ?_
    simp only [if_true]
    exact ev_some (by simp)
theorem FlowRounds' (l : List S23) {N : Nat} (_ : l.length ≤ N ∧ l.length ≤ maxLen ∧ ∀ x ∈ l, (Lit.int .i64 x.f0).wf = true ∧ (Lit.int .i64 x.f1).wf = true) (last : Int) (_ : (Lit.int .i64 last).wf = true) (n : Int) (_ : (Lit.int .i64 n).wf = true) : ∃ k, brokerlaw16_FlowRounds.f k l last n = some true := FlowRounds _ _ _
end Go.Proofs.Ytdaleecijlemhaa.Pure
