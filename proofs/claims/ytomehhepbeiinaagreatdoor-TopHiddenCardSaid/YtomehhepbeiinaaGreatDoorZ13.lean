/- Part 13 of the proof of TopHidden. No conditions. -/
import Derived.Test.YtomehhepbeiinaaGreatDoorQA0
import Derived.Test.YtomehhepbeiinaaGreatDoorChecked
import Derived.Test.YtomehhepbeiinaaGreatDoorRows
import Derived.JoinedOf
set_option maxRecDepth 100000
set_option maxHeartbeats 100000000
set_option linter.all false
namespace Go.Proofs.YtomehhepbeiinaaGreatDoor.lawTopHidden
open Tryz
theorem AQF{a b:Bool}(h:a=true)(k:b=true):(a&&b)=true:=by rw[h,k];rfl
theorem closed:joinedFacts Tryz.prog 6 Tryz.f6 Rows.topHiddenSpec Rows.topHiddenRow=true:=by
 unfold joinedFacts
 repeat' with_reducible refine AQF ?_ ?_
 all_goals as_aux_lemma=>kernel_rfl
end Go.Proofs.YtomehhepbeiinaaGreatDoor.lawTopHidden
