/- The bridges of this seat's types: a rule, a list of rules. -/
import Derived.Test.YtegcobkhejpmkaaDoorBr
import Derived.Test.YtegcobkhejpmkaaDoorPx0
namespace Go.Proofs.YtegcobkhejpmkaaDoor.Br
open Go.RowKit Go.Proofs.YtegcobkhejpmkaaDoorW.PrintWords Go.Proofs.YtegcobkhejpmkaaDoor.P
theorem br9 : Br Tryd.prog Kd.string 9 (fun N s => s.size ≤ N ∧ s.size ≤ maxLen) := br_string Tryd.underlying9 (by kernel_rfl)
theorem br28 : Br Tryd.prog k28 28 (fun N x => (x.f0.size ≤ N ∧ x.f0.size ≤ maxLen) ∧ (x.f1.size ≤ N ∧ x.f1.size ≤ maxLen)) :=
  br_struct (f := fun x : S28 => (x.f0, x.f1)) (g := fun v => ⟨v.1, v.2⟩) Tryd.underlying28 (by kernel_rfl) rfl (by kernel_rfl) (fun _ => rfl) (brs_cons br9 (brs_one br9))
theorem br22 : Br Tryd.prog (Kd.slice 28 k28) 22 (fun N xs => xs.length ≤ N ∧ xs.length ≤ maxLen ∧ ∀ x ∈ xs, (x.f0.size ≤ N ∧ x.f0.size ≤ maxLen) ∧ (x.f1.size ≤ N ∧ x.f1.size ≤ maxLen)) := br_slice Tryd.underlying22 (by kernel_rfl) br28
end Go.Proofs.YtegcobkhejpmkaaDoor.Br
