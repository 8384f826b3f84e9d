/- The bridges of this seat's types: a client and its user, a rule, a list of rules. -/
import Derived.Test.YtgdamingkgafhaaDoorBr
import Derived.Test.YtgdamingkgafhaaDoorPx0
namespace Go.Proofs.YtgdamingkgafhaaDoor.Br
open Go.RowKit Go.Proofs.YtgdamingkgafhaaDoorW.PrintWords Go.Proofs.YtgdamingkgafhaaDoor.P
theorem br3 : Br Tryd.prog (Kd.int .i64) 3 (fun _ n => (Lit.int .i64 n).wf = true) := br_int Tryd.underlying3 (by kernel_rfl)
theorem br4 : Br Tryd.prog Kd.bool 4 (fun _ _ => True) := br_bool Tryd.underlying4 (by kernel_rfl)
theorem br9 : Br Tryd.prog Kd.string 9 (fun N s => s.size ≤ N ∧ s.size ≤ maxLen) := br_string Tryd.underlying9 (by kernel_rfl)
theorem br42 : Br Tryd.prog k42 42 (fun N x => True ∧ (x.f1.size ≤ N ∧ x.f1.size ≤ maxLen) ∧ (Lit.int .i64 x.f2).wf = true ∧ (x.f3.size ≤ N ∧ x.f3.size ≤ maxLen)) :=
  br_struct (f := fun x : S42 => (x.f0, x.f1, x.f2, x.f3)) (g := fun v => ⟨v.1, v.2.1, v.2.2.1, v.2.2.2⟩) Tryd.underlying42 (by kernel_rfl) rfl (by kernel_rfl) (fun _ => rfl) (brs_cons br4 (brs_cons br9 (brs_cons br3 (brs_one br9))))
theorem br22 : Br Tryd.prog (Kd.slice 42 k42) 22 (fun N xs => xs.length ≤ N ∧ xs.length ≤ maxLen ∧ ∀ x ∈ xs, True ∧ (x.f1.size ≤ N ∧ x.f1.size ≤ maxLen) ∧ (Lit.int .i64 x.f2).wf = true ∧ (x.f3.size ≤ N ∧ x.f3.size ≤ maxLen)) := br_slice Tryd.underlying22 (by kernel_rfl) br42
/-- A client and its user. -/
structure S28 where
  f0 : ByteArray
  f1 : ByteArray
def k28 : Kd S28 := Kd.iso (Kd.pair Kd.string Kd.string) (fun x : S28 => (x.f0, x.f1))
theorem k28_open {w : World} {x : S28} {cs : List Value} (h : k28.K w x cs) : cs = [.string x.f0, .string x.f1] := by
  obtain ⟨_, _, rfl, rfl, rfl⟩ := h
  exact rfl
theorem br28 : Br Tryd.prog k28 28 (fun N x => (x.f0.size ≤ N ∧ x.f0.size ≤ maxLen) ∧ (x.f1.size ≤ N ∧ x.f1.size ≤ maxLen)) :=
  br_struct (f := fun x : S28 => (x.f0, x.f1)) (g := fun v => ⟨v.1, v.2⟩) Tryd.underlying28 (by kernel_rfl) rfl (by kernel_rfl) (fun _ => rfl) (brs_cons br9 (brs_one br9))
end Go.Proofs.YtgdamingkgafhaaDoor.Br
