/- Part 8 of the proof of TopLeaks. No conditions. -/
import Derived.Test.YtomehhepbeiinaaGreatDoorQA0
import Derived.Test.YtomehhepbeiinaaGreatDoorChecked
import Derived.Test.YtomehhepbeiinaaGreatDoorRows
import Derived.JoinedOf
import Derived.KernelRfl
set_option maxRecDepth 100000
set_option maxHeartbeats 100000000
set_option linter.all false
namespace Go.Proofs.YtomehhepbeiinaaGreatDoor.lawTopLeaks
open Tryz
theorem ANP{a b:Bool}(h:a=true)(k:b=true):(a&&b)=true:=by rw[h,k];rfl
theorem closed:joinedFacts Tryz.prog 3 Tryz.f3 Rows.topLeaksSpec Rows.topLeaksRow=true:=by
 unfold joinedFacts
 repeat' with_reducible refine ANP ?_ ?_
 all_goals as_aux_lemma=>kernel_rfl
end Go.Proofs.YtomehhepbeiinaaGreatDoor.lawTopLeaks
