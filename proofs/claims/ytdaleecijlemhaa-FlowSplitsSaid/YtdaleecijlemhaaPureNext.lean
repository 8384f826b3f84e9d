/- Next over the printed functions: both are one scan; FlowNext. -/
import Derived.Test.YtdaleecijlemhaaPureA
import Derived.Test.YtdaleecijlemhaaPx5
namespace Go.Proofs.Ytdaleecijlemhaa.Pure
open Go.RowKit Go.Proofs.Ytdaleecijlemhaa.P Go.Proofs.YtdaleecijlemhaaW.PrintWords Go.Proofs.YtdaleecijlemhaaW.PrintLast

/-- The i-th credit, whether it has credit. -/
abbrev at_ (m : List S23) (k : Nat) : S23 := m.getD k z23
def crd (m : List S23) (k : Nat) : Prop := (at_ m k).f1 < (at_ m k).f0
instance (m : List S23) (k : Nat) : Decidable (crd m k) := inferInstanceAs (Decidable (_ < _))
def Vl (m : List S23) : Prop := ∀ k, k < m.length → Vd (at_ m k).f0 (at_ m k).f1
/-- The first index to look at. -/
def fst_ (n : Nat) (last : Int) : Nat := if 0 ≤ last ∧ last < (n : Int) then last.toNat + 1 else 0
theorem fst_le (n : Nat) (last : Int) : fst_ n last ≤ n := by
  unfold fst_
  split <;> omega
/-- The first of the d last looks that has credit. -/
def scan (m : List S23) (f : Nat) : Nat → Option Nat
  | 0 => none
  | d + 1 => if crd m ((f + (m.length - (d + 1))) % m.length) then some ((f + (m.length - (d + 1))) % m.length) else scan m f d
def out : Option Nat → Int × Bool
  | none => (0, false)
  | some k => ((k : Int), true)

theorem rd_at (m : List S23) (k : Nat) : rd_T23 m (k : Int) = at_ m k := rfl

theorem look (m : List S23) (f i : Nat) (hl : m.length ≤ 1000000) (hf : f ≤ m.length) (hi : i < m.length) :
    Int.tmod (wrap64 ((f : Int) + (i : Int))) (m.length : Int) = (((f + i) % m.length : Nat) : Int) := by
  rw [w64 (by omega) (by omega), ← Int.natCast_add, Int.ofNat_tmod]

theorem next_l0 (m : List S23) (f : Nat) (hl : m.length ≤ 1000000) (hf : f ≤ m.length) : ∀ d, d ≤ m.length →
    Ev (fun k => flow_Next.l0 k m (f : Int) (m.length : Int) ((m.length - d : Nat) : Int)) (out (scan m f d)) := by
  intro d
  induction d with
  | zero =>
    intro _
    refine ev_succ ?_
    simp only [flow_Next.l0]
    exact ev_neg (by omega) (ev_some rfl)
  | succ d ih =>
    intro hd
    refine ev_succ ?_
    simp only [flow_Next.l0]
    refine ev_pos (by omega) (ev_neg (by omega) ?_)
    rw [look m f (m.length - (d + 1)) hl hf (by omega)]
    have hlt : (f + (m.length - (d + 1))) % m.length < m.length := Nat.mod_lt _ (by omega)
    refine ev_pos (by omega) (ev_pos (by omega) ?_)
    rw [rd_at]
    unfold scan
    by_cases hc : crd m ((f + (m.length - (d + 1))) % m.length)
    · rw [if_pos hc]
      exact ev_pos hc (ev_some rfl)
    · rw [if_neg hc]
      refine ev_neg hc ?_
      rw [w64 (by omega) (by omega), show (((m.length - (d + 1) : Nat) : Int) + 1) = ((m.length - d : Nat) : Int) by omega]
      exact ih (by omega)

theorem left_ref {a b : Int} (h : Vd a b) : brokerref16_Left.f a b = some (if b < a then a - b else 0) := by
  unfold Vd at h
  unfold brokerref16_Left.f
  split
  · rw [if_neg (by omega)]
  · rw [if_pos (by omega), w64 (by omega) (by omega)]

theorem ref_l0 (m : List S23) (f : Nat) (hl : m.length ≤ 1000000) (hf : f ≤ m.length) (hv : Vl m) : ∀ d, d ≤ m.length →
    Ev (fun k => brokerref16_Next.l0 k m (f : Int) ((m.length - d : Nat) : Int)) (out (scan m f d)) := by
  intro d
  induction d with
  | zero =>
    intro _
    refine ev_succ ?_
    simp only [brokerref16_Next.l0]
    exact ev_neg (by omega) (ev_some rfl)
  | succ d ih =>
    intro hd
    refine ev_succ ?_
    simp only [brokerref16_Next.l0]
    refine ev_pos (by omega) (ev_neg (by omega) ?_)
    rw [look m f (m.length - (d + 1)) hl hf (by omega)]
    have hlt : (f + (m.length - (d + 1))) % m.length < m.length := Nat.mod_lt _ (by omega)
    refine ev_pos (by omega) (ev_pos (by omega) ?_)
    rw [rd_at]
    refine ev_const (left_ref (hv _ hlt)) ?_
    unfold scan
    by_cases hc : crd m ((f + (m.length - (d + 1))) % m.length)
    · rw [if_pos hc]
      have hc' := hc
      unfold crd at hc'
      rw [if_pos hc']
      exact ev_pos (by omega) (ev_some rfl)
    · rw [if_neg hc]
      have hc' := hc
      unfold crd at hc'
      rw [if_neg hc']
      refine ev_neg (by omega) ?_
      rw [w64 (by omega) (by omega), show (((m.length - (d + 1) : Nat) : Int) + 1) = ((m.length - d : Nat) : Int) by omega]
      exact ih (by omega)

/-- Next finds what the scan finds. -/
theorem next_ev (m : List S23) (last : Int) (hl : m.length ≤ 1000000) : Ev (fun k => flow_Next.f k m last) (out (scan m (fst_ m.length last) m.length)) := by
  have fin : ∀ f : Nat, f ≤ m.length → Ev (fun k => flow_Next.j1 k m (f : Int)) (out (scan m f m.length)) := by
    intro f hf
    refine ev_succ ?_
    simp only [flow_Next.j1]
    have := next_l0 m f hl hf m.length (Nat.le_refl _)
    rw [Nat.sub_self] at this
    exact this
  simp only [flow_Next.f]
  by_cases h0 : last ≥ 0
  · refine ev_pos h0 ?_
    refine ev_succ ?_
    simp only [flow_Next.j0]
    by_cases h1 : last < (m.length : Int)
    · rw [decide_eq_true h1]
      simp only [if_true]
      have e : fst_ m.length last = last.toNat + 1 := by unfold fst_; rw [if_pos ⟨h0, h1⟩]
      rw [e, w64 (by omega) (by omega), show last + 1 = ((last.toNat + 1 : Nat) : Int) by omega]
      exact fin _ (by omega)
    · rw [decide_eq_false h1]
      refine ev_ff ?_
      have e : fst_ m.length last = 0 := by unfold fst_; rw [if_neg (by omega)]
      rw [e]
      exact fin 0 (by omega)
  · refine ev_neg h0 ?_
    refine ev_succ ?_
    simp only [flow_Next.j0]
    refine ev_ff ?_
    have e : fst_ m.length last = 0 := by unfold fst_; rw [if_neg (by omega)]
    rw [e]
    exact fin 0 (by omega)
theorem refnext_ev (m : List S23) (last : Int) (hl : m.length ≤ 1000000) (hv : Vl m) : Ev (fun k => brokerref16_Next.f k m last) (out (scan m (fst_ m.length last) m.length)) := by
  have fin : ∀ f : Nat, f ≤ m.length → Ev (fun k => brokerref16_Next.j1 k m (f : Int)) (out (scan m f m.length)) := by
    intro f hf
    refine ev_succ ?_
    simp only [brokerref16_Next.j1]
    have := ref_l0 m f hl hf hv m.length (Nat.le_refl _)
    rw [Nat.sub_self] at this
    exact this
  simp only [brokerref16_Next.f]
  by_cases h0 : last ≥ 0
  · refine ev_pos h0 ?_
    refine ev_succ ?_
    simp only [brokerref16_Next.j0]
    by_cases h1 : last < (m.length : Int)
    · rw [decide_eq_true h1]
      simp only [if_true]
      have e : fst_ m.length last = last.toNat + 1 := by unfold fst_; rw [if_pos ⟨h0, h1⟩]
      rw [e, w64 (by omega) (by omega), show last + 1 = ((last.toNat + 1 : Nat) : Int) by omega]
      exact fin _ (by omega)
    · rw [decide_eq_false h1]
      refine ev_ff ?_
      have e : fst_ m.length last = 0 := by unfold fst_; rw [if_neg (by omega)]
      rw [e]
      exact fin 0 (by omega)
  · refine ev_neg h0 ?_
    refine ev_succ ?_
    simp only [brokerref16_Next.j0]
    refine ev_ff ?_
    have e : fst_ m.length last = 0 := by unfold fst_; rw [if_neg (by omega)]
    rw [e]
    exact fin 0 (by omega)

/-- valid: it answers; true just where there are at most 40, all valid. -/
theorem valid_l0 (m : List S23) (hl : m.length ≤ 40) : ∀ d, d ≤ m.length → ∃ b, Ev (fun k => brokerlaw16_valid.l0 k m ((m.length - d : Nat) : Int)) b ∧ (b = true → ∀ i, m.length - d ≤ i → i < m.length → Vd (at_ m i).f0 (at_ m i).f1) := by
  intro d
  induction d with
  | zero =>
    intro _
    refine ⟨true, ?_, fun _ i h0 h1 => by omega⟩
    refine ev_succ ?_
    simp only [brokerlaw16_valid.l0]
    exact ev_neg (by omega) (ev_some rfl)
  | succ d ih =>
    intro hd
    obtain ⟨b, hb, hall⟩ := ih (by omega)
    by_cases hv : Vd (at_ m (m.length - (d + 1))).f0 (at_ m (m.length - (d + 1))).f1
    · refine ⟨b, ?_, fun hbt i h0 h1 => ?_⟩
      · refine ev_succ ?_
        simp only [brokerlaw16_valid.l0]
        refine ev_pos (by omega) (ev_pos (by omega) ?_)
        rw [rd_at]
        refine ev_const (valid_yes hv) (ev_tt ?_)
        rw [w64 (by omega) (by omega), show (((m.length - (d + 1) : Nat) : Int) + 1) = ((m.length - d : Nat) : Int) by omega]
        exact hb
      · by_cases e : i = m.length - (d + 1)
        · subst e; exact hv
        · exact hall hbt i (by omega) h1
    · refine ⟨false, ?_, fun h => by cases h⟩
      refine ev_succ ?_
      simp only [brokerlaw16_valid.l0]
      refine ev_pos (by omega) (ev_pos (by omega) ?_)
      rw [rd_at]
      exact ev_const (valid_no hv) (ev_ff (ev_some rfl))
theorem valid_ev (m : List S23) : ∃ b, Ev (fun k => brokerlaw16_valid.f k m) b ∧ (b = true → m.length ≤ 40 ∧ Vl m) := by
  by_cases hl : m.length ≤ 40
  · obtain ⟨b, hb, hall⟩ := valid_l0 m hl m.length (Nat.le_refl _)
    rw [Nat.sub_self] at hb hall
    refine ⟨b, ?_, fun h => ⟨hl, fun i hi => hall h i (Nat.zero_le _) hi⟩⟩
    simp only [brokerlaw16_valid.f]
    exact ev_neg (by omega) hb
  · refine ⟨false, ?_, fun h => by cases h⟩
    simp only [brokerlaw16_valid.f]
    exact ev_pos (by omega) (ev_some rfl)

theorem FlowNext (l : List S23) (last : Int) : ∃ k, brokerlaw16_FlowNext.f k l last = some true := by
  suffices h : Ev (fun k => brokerlaw16_FlowNext.f k l last) true from h.rounds
  simp only [brokerlaw16_FlowNext.f]
  obtain ⟨b, hb, hall⟩ := valid_ev l
  refine ev_bind hb ?_
  cases b with
  | false => exact ev_ff (ev_bind awake_ev (ev_some rfl))
  | true =>
    obtain ⟨hl, hv⟩ := hall rfl
    simp only [if_true]
    refine ev_bind (next_ev l last (by omega)) (ev_bind (refnext_ev l last (by omega) hv) (ev_bind awake_ev ?_))
    simp only [if_true]
    exact ev_some (by simp)
theorem FlowNext' (l : List S23) {N : Nat} (_ : l.length ≤ N ∧ l.length ≤ maxLen ∧ ∀ x ∈ l, (Lit.int .i64 x.f0).wf = true ∧ (Lit.int .i64 x.f1).wf = true) (last : Int) (_ : (Lit.int .i64 last).wf = true) : ∃ k, brokerlaw16_FlowNext.f k l last = some true := FlowNext _ _
end Go.Proofs.Ytdaleecijlemhaa.Pure
