/- FlowUnits over the printed functions: Take, Give, Limit and Left are the reference's. -/
import Derived.Test.YtdaleecijlemhaaPureA
import Derived.Test.YtdaleecijlemhaaPx3
namespace Go.Proofs.Ytdaleecijlemhaa.Pure
open Go.RowKit Go.Proofs.Ytdaleecijlemhaa.P Go.Proofs.YtdaleecijlemhaaW.PrintWords Go.Proofs.YtdaleecijlemhaaW.PrintLast

theorem left_eq {a b : Int} (h : Vd a b) : flow_Left.f a b = brokerref16_Left.f a b := by
  unfold Vd at h
  unfold flow_Left.f brokerref16_Left.f mx
  rw [w64 (by omega) (by omega)]
  split <;> split <;> first | rfl | (congr 1; omega)
theorem left_some (a b : Int) : ∃ r, flow_Left.f a b = some r := ⟨_, rfl⟩
theorem take_eq {a b : Int} (h : Vd a b) : brokerref16_Take.f a b = flow_Take.f a b := by
  by_cases hb : b < a
  · rw [take_yes h hb]
    unfold Vd at h
    unfold brokerref16_Take.f brokerref16_Left.f
    rw [if_neg (by omega)]
    simp only [Option.bind_some]
    rw [w64 (by omega) (by omega), w64 (by omega) (by omega), if_neg (by omega)]
  · rw [take_no (by omega)]
    unfold brokerref16_Take.f brokerref16_Left.f
    rw [if_pos (by omega)]
    rfl
theorem give_eq {a b : Int} (h : Vd a b) : brokerref16_Give.f a b = flow_Give.f a b := by
  by_cases hb : 0 < b
  · rw [give_yes h hb]
    unfold Vd at h
    unfold brokerref16_Give.f
    rw [if_neg (by omega), w64 (by omega) (by omega)]
  · rw [give_no (by omega)]
    unfold Vd at h
    unfold brokerref16_Give.f
    rw [if_pos (by omega)]
theorem take_some (a b : Int) : ∃ r, flow_Take.f a b = some r := by
  unfold flow_Take.f; split <;> exact ⟨_, rfl⟩
theorem give_some (a b : Int) : ∃ r, flow_Give.f a b = some r := by
  unfold flow_Give.f; split <;> exact ⟨_, rfl⟩
theorem limit_some (a b c : Int) : ∃ r, flow_Limit.f a b c = some r := by
  unfold flow_Limit.f; split
  · exact ⟨_, rfl⟩
  · split <;> exact ⟨_, rfl⟩
theorem limit_eq (a b c : Int) : brokerref16_Limit.f a b c = flow_Limit.f a b c := rfl

theorem FlowUnits (a b c : Int) : ∃ k, brokerlaw16_FlowUnits.f k a b c = some true := by
  suffices h : Ev (fun k => brokerlaw16_FlowUnits.f k a b c) true from h.rounds
  simp only [brokerlaw16_FlowUnits.f]
  by_cases hv : Vd a b
  · refine ev_const (valid_yes hv) (ev_tt ?_)
    obtain ⟨t, ht⟩ := take_some a b
    obtain ⟨g, hg⟩ := give_some a b
    obtain ⟨m, hm⟩ := limit_some a b c
    obtain ⟨r, hr⟩ := left_some a b
    refine ev_const ht (ev_const ((take_eq hv).trans ht) ?_)
    refine ev_bind awake_ev (ev_tt ?_)
    refine ev_const (same_self _ _) (ev_tt ?_)
    refine ev_pos (by simp) ?_
    refine ev_const hg (ev_const ((give_eq hv).trans hg) ?_)
    refine ev_const (same_self _ _) (ev_tt ?_)
    refine ev_const hm (ev_const ((limit_eq a b c).trans hm) ?_)
    refine ev_const (same_self _ _) (ev_tt ?_)
    refine ev_const hr (ev_const ((left_eq hv).symm.trans hr) ?_)
    exact ev_some (by simp)
  · refine ev_const (valid_no hv) (ev_ff ?_)
    exact ev_bind awake_ev (ev_some rfl)
theorem FlowUnits' (x : S23) (_ : (Lit.int .i64 x.f0).wf = true ∧ (Lit.int .i64 x.f1).wf = true) (c : Int) (_ : (Lit.int .i64 c).wf = true) : ∃ k, brokerlaw16_FlowUnits.f k x.f0 x.f1 c = some true := FlowUnits _ _ _
end Go.Proofs.Ytdaleecijlemhaa.Pure
