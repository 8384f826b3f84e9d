
/- What the printed reference's Join answers. -/
import Derived.Test.YtfcomjinaokeaaaGreatDoorPureM
namespace Go.Proofs.YtfcomjinaokeaaaGreatDoor.Pure
open Go.RowKit Go.Proofs.YtfcomjinaokeaaaGreatDoor.P Go.Proofs.YtfcomjinaokeaaaGreatDoorW.PrintWords Go.Proofs.YtfcomjinaokeaaaGreatDoorW.PrintLast Go.Proofs.YtfcomjinaokeaaaGreatDoor.Ext

end Go.Proofs.YtfcomjinaokeaaaGreatDoor.Pure
