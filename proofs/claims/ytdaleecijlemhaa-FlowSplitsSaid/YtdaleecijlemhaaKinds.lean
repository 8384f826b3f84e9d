/- The bridges of this seat's types: a credit, and a list of credits. -/
import Derived.Test.YtdaleecijlemhaaBr
import Derived.Test.YtdaleecijlemhaaPx0
namespace Go.Proofs.Ytdaleecijlemhaa.Br
open Go.RowKit Go.Proofs.YtdaleecijlemhaaW.PrintWords Go.Proofs.Ytdaleecijlemhaa.P
theorem br3 : Br Try.prog (Kd.int .i64) 3 (fun _ n => (Lit.int .i64 n).wf = true) := br_int Try.underlying3 (by kernel_rfl)
theorem br23 : Br Try.prog k23 23 (fun _ x => (Lit.int .i64 x.f0).wf = true ∧ (Lit.int .i64 x.f1).wf = true) :=
  br_struct (f := fun x : S23 => (x.f0, x.f1)) (g := fun v => ⟨v.1, v.2⟩) Try.underlying23 (by kernel_rfl) rfl (by kernel_rfl) (fun _ => rfl) (brs_cons br3 (brs_one br3))
theorem br30 : Br Try.prog (Kd.slice 23 k23) 30 (fun N xs => xs.length ≤ N ∧ xs.length ≤ maxLen ∧ ∀ x ∈ xs, (Lit.int .i64 x.f0).wf = true ∧ (Lit.int .i64 x.f1).wf = true) := br_slice Try.underlying30 (by kernel_rfl) br23
end Go.Proofs.Ytdaleecijlemhaa.Br
