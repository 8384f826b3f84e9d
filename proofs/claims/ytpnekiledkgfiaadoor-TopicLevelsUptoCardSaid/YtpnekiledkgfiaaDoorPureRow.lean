/- The laws of layer 1, in the form that their rows ask. -/
import Derived.Test.YtpnekiledkgfiaaDoorPureLaws
namespace Go.Proofs.YtpnekiledkgfiaaDoor.Pure
open Go.RowKit Go.Proofs.YtpnekiledkgfiaaDoor.P Go.Proofs.YtpnekiledkgfiaaDoor.Ext
theorem TopicNames' (s : ByteArray) (hs : s.size ≤ 140737488351232) : ∃ k, brokerlaw01_TopicNames.f k s = some true := TopicNames s (by omega)
theorem TopicValid' (s : ByteArray) (hs : s.size ≤ 140737488351232) : ∃ k, brokerlaw01_TopicValid.f k s = some true := TopicValid s (by omega)
theorem TopicLevels' (s : ByteArray) (hs : s.size ≤ 1048576) : ∃ k, brokerlaw01_TopicLevels.f k s = some true := TopicLevels s hs
theorem TopicPlain' (s : ByteArray) (hs : s.size ≤ 140737488351232) : ∃ k, brokerlaw01_TopicPlain.f k s = some true := TopicPlain s (by omega)
theorem TopicJoins' (l : List ByteArray) {N : Nat} (_ : l.length ≤ N ∧ l.length ≤ maxLen ∧ ∀ x ∈ l, x.size ≤ N ∧ x.size ≤ maxLen) (hb : l.length * 16 ≤ 140737488351232) : ∃ k, brokerlaw01_TopicJoins.f k l = some true := TopicJoins l (by omega)
end Go.Proofs.YtpnekiledkgfiaaDoor.Pure
