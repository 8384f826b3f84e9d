
/- What the printed functions of the reference of match answer: Matches. -/
import Derived.Test.YtfcomjinaokeaaaGreatDoorPureW
namespace Go.Proofs.YtfcomjinaokeaaaGreatDoor.Pure
open Go.RowKit Go.Proofs.YtfcomjinaokeaaaGreatDoor.P Go.Proofs.YtfcomjinaokeaaaGreatDoorW.PrintWords Go.Proofs.YtfcomjinaokeaaaGreatDoorW.PrintLast Go.Proofs.YtfcomjinaokeaaaGreatDoor.Ext

end Go.Proofs.YtfcomjinaokeaaaGreatDoor.Pure
