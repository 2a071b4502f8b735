/- Walks of single functions. No conditions. -/
import Derived.Test.YtomehhepbeiinaaGreatDoorQHolds
set_option maxRecDepth 100000
set_option maxHeartbeats 4000000
set_option linter.all false
namespace Go.Proofs.YtomehhepbeiinaaGreatDoor
open Go.RowKit Go.Shelf
attribute [local go_sem] Oper.semAt_some
end Go.Proofs.YtomehhepbeiinaaGreatDoor
