/- The bridge of a list of strings. -/
import Derived.Test.YtmgmkgnenopelaaDoorBr
namespace Go.Proofs.YtmgmkgnenopelaaDoor.Br
open Go.RowKit Go.Proofs.YtmgmkgnenopelaaDoorW.PrintWords
theorem br9 : Br Tryd.prog Kd.string 9 (fun N s => s.size ≤ N ∧ s.size ≤ maxLen) := br_string Tryd.underlying9 (by kernel_rfl)
theorem br26 : Br Tryd.prog (Kd.slice 9 Kd.string) 26 (fun N xs => xs.length ≤ N ∧ xs.length ≤ maxLen ∧ ∀ x ∈ xs, x.size ≤ N ∧ x.size ≤ maxLen) := br_slice Tryd.underlying26 (by kernel_rfl) br9
end Go.Proofs.YtmgmkgnenopelaaDoor.Br
