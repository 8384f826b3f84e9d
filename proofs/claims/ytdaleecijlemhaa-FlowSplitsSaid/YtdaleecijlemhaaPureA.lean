/- Plain facts on rounds that suffice (Ev) and on the printed functions of flow: Take, Give, Next, Round, valid, awake. -/
import Derived.Test.YtdaleecijlemhaaPx1
import Derived.Test.YtdaleecijlemhaaPx2
namespace Go.Proofs.Ytdaleecijlemhaa.Pure
open Go.RowKit Go.Proofs.Ytdaleecijlemhaa.P Go.Proofs.YtdaleecijlemhaaW.PrintWords Go.Proofs.YtdaleecijlemhaaW.PrintLast

section
variable {α β : Type}
theorem ev_succ {g : Nat → Option α} {r : α} (h : Ev (fun k => g (k + 1)) r) : Ev g r := by
  obtain ⟨K, hK⟩ := h
  refine ⟨K + 1, fun k hk => ?_⟩
  obtain ⟨m, rfl⟩ : ∃ m, k = m + 1 := ⟨k - 1, by omega⟩
  exact hK m (by omega)
theorem ev_pos {c : Prop} [Decidable c] {a b : Nat → Option α} {r : α} (hc : c) (h : Ev a r) : Ev (fun k => if c then a k else b k) r := by
  simp only [if_pos hc]
  exact h
theorem ev_neg {c : Prop} [Decidable c] {a b : Nat → Option α} {r : α} (hc : ¬ c) (h : Ev b r) : Ev (fun k => if c then a k else b k) r := by
  simp only [if_neg hc]
  exact h
theorem ev_some {o : Option α} {r : α} (h : o = some r) : Ev (fun _ => o) r := ⟨0, fun _ _ => h⟩
theorem ev_bind {g : Nat → Option α} {f : Nat → α → Option β} {a : α} {r : β} (h : Ev g a) (k : Ev (fun n => f n a) r) : Ev (fun n => (g n).bind (f n)) r := Ev.bind h k
theorem ev_const {o : Option α} {f : Nat → α → Option β} {a : α} {r : β} (h : o = some a) (k : Ev (fun n => f n a) r) : Ev (fun n => o.bind (f n)) r := Ev.bind (g := fun _ => o) (ev_some h) k
theorem ev_tt {a b : Nat → Option α} {r : α} (h : Ev a r) : Ev (fun k => if true = true then a k else b k) r := ev_pos rfl h
theorem ev_ff {a b : Nat → Option α} {r : α} (h : Ev b r) : Ev (fun k => if false = true then a k else b k) r := ev_neg (by decide) h
end

theorem w64 {x : Int} (h0 : -9223372036854775808 ≤ x) (h1 : x ≤ 9223372036854775807) : wrap64 x = x := by
  unfold wrap64
  omega

/-- A credit that is valid. -/
def Vd (a b : Int) : Prop := 0 ≤ a ∧ a ≤ 1099511627776 ∧ 0 ≤ b ∧ b ≤ 1099511627776
theorem valid_yes {a b : Int} (h : Vd a b) : brokerref16_Valid.f a b = some true := by
  obtain ⟨h0, h1, h2, h3⟩ := h
  unfold brokerref16_Valid.f
  rw [if_pos h0, if_pos h1, if_pos h2, decide_eq_true h3]
theorem valid_no {a b : Int} (h : ¬ Vd a b) : brokerref16_Valid.f a b = some false := by
  unfold brokerref16_Valid.f
  split
  · split
    · split
      · congr 1
        exact decide_eq_false (fun h3 => h ⟨by assumption, by assumption, by assumption, h3⟩)
      · rfl
    · rfl
  · rfl

theorem awake_ev : Ev (fun k => brokerlaw16_awake.f k) true := by
  refine Ev.of (k := 40) ?_ (by decide +kernel)
  intro k
  exact brokerlaw16_awake.mono k

theorem take_yes {a b : Int} (h : Vd a b) (hb : b < a) : flow_Take.f a b = some (a, b + 1, true) := by
  unfold Vd at h
  unfold flow_Take.f
  rw [if_neg (by omega), w64 (by omega) (by omega)]
theorem take_no {a b : Int} (hb : a ≤ b) : flow_Take.f a b = some (a, b, false) := by
  unfold flow_Take.f
  rw [if_pos hb]
theorem give_yes {a b : Int} (h : Vd a b) (hb : 0 < b) : flow_Give.f a b = some (a, b - 1) := by
  unfold Vd at h
  unfold flow_Give.f
  rw [if_pos hb, w64 (by omega) (by omega)]
theorem give_no {a b : Int} (hb : b ≤ 0) : flow_Give.f a b = some (a, b) := by
  unfold flow_Give.f
  rw [if_neg (by omega)]
theorem same_self (a b : Int) : brokerlaw16_same.f a b a b = some true := by
  unfold brokerlaw16_same.f
  rw [if_pos rfl]
  simp
theorem same_of {a b c d : Int} (h1 : a = c) (h2 : b = d) : brokerlaw16_same.f a b c d = some true := by
  subst h1; subst h2; exact same_self a b
end Go.Proofs.Ytdaleecijlemhaa.Pure
