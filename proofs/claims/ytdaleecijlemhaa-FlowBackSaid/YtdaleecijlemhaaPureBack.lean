/- FlowBack over the printed functions: Give undoes Take, Take undoes Give. -/
import Derived.Test.YtdaleecijlemhaaPureA
import Derived.Test.YtdaleecijlemhaaPx4
namespace Go.Proofs.Ytdaleecijlemhaa.Pure
open Go.RowKit Go.Proofs.Ytdaleecijlemhaa.P Go.Proofs.YtdaleecijlemhaaW.PrintWords Go.Proofs.YtdaleecijlemhaaW.PrintLast

theorem FlowBack (a b : Int) : ∃ k, brokerlaw16_FlowBack.f k a b = some true := by
  suffices h : Ev (fun k => brokerlaw16_FlowBack.f k a b) true from h.rounds
  simp only [brokerlaw16_FlowBack.f]
  by_cases hv : Vd a b
  · refine ev_const (valid_yes hv) (ev_tt ?_)
    have fin : Ev (fun k => brokerlaw16_FlowBack.j0 k false a b) true := by
      refine ev_succ ?_
      simp only [brokerlaw16_FlowBack.j0]
      refine ev_ff ?_
      have j1t : Ev (fun k => brokerlaw16_FlowBack.j1 k true a b) true := by
        refine ev_succ ?_
        simp only [brokerlaw16_FlowBack.j1]
        exact ev_bind awake_ev (ev_some rfl)
      by_cases h1 : b < 1
      · exact ev_pos h1 j1t
      · refine ev_neg h1 ?_
        by_cases h2 : b > a
        · rw [decide_eq_true h2]
          exact j1t
        · rw [decide_eq_false h2]
          refine ev_succ ?_
          simp only [brokerlaw16_FlowBack.j1]
          refine ev_ff ?_
          refine ev_const (give_yes hv (by omega)) ?_
          refine ev_const (take_yes ⟨hv.1, hv.2.1, by omega, by have := hv.2.2.2; omega⟩ (by omega)) ?_
          refine ev_bind awake_ev (ev_tt ?_)
          refine ev_tt ?_
          exact ev_const (same_of rfl (by dsimp only; omega)) (ev_some rfl)
    by_cases h1 : b < a
    · refine ev_const (take_yes hv h1) (ev_tt ?_)
      refine ev_const (give_yes (a := a) (b := b + 1) (by unfold Vd at *; omega) (by unfold Vd at hv; omega)) ?_
      refine ev_const (same_of rfl (by dsimp only; omega)) ?_
      exact fin
    · refine ev_const (take_no (by omega)) (ev_ff ?_)
      exact fin
  · refine ev_const (valid_no hv) (ev_ff ?_)
    exact ev_bind awake_ev (ev_some rfl)
theorem FlowBack' (x : S23) (_ : (Lit.int .i64 x.f0).wf = true ∧ (Lit.int .i64 x.f1).wf = true) : ∃ k, brokerlaw16_FlowBack.f k x.f0 x.f1 = some true := FlowBack _ _
end Go.Proofs.Ytdaleecijlemhaa.Pure
