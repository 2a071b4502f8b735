/- The statement of TopHidden: whatever the input the call returns true, and what came in reads as it read. Condition of the row: the tables hold what their texts lay (tied). -/
import Derived.Test.YtomehhepbeiinaaGreatDoorZ15
import Derived.Test.YtomehhepbeiinaaGreatDoorCards
import Derived.Test.YtomehhepbeiinaaGreatDoorTie
set_option maxRecDepth 100000
set_option maxHeartbeats 100000000
set_option linter.all false
namespace Go.Proofs.YtomehhepbeiinaaGreatDoor.lawTopHidden
open Tryz
section
open Go.ChangeAt Go.ChangeShapes Go.Joins Go.RowKit Go.WideShapes
theorem AUr{P:Program}(h:P.funcs.any Func.goes=false)(f:FuncId):P.goes f=false:=by
 unfold Program.goes
 rw[h,Bool.and_false,Bool.or_false,List.any_eq_false]
 intro g _
 cases e:P.funcs[g]? with
 |none=>simp
 |some fn=>
  obtain⟨a,rfl⟩:=Array.getElem?_eq_some_iff.1 e
  simpa using Array.any_eq_false.1 h g a
theorem q0:Tryz.prog.funcs.any Func.goes=false:=kR
theorem q2:true=Tryz.prog.looks []:=kR
theorem q3:Rows.topHiddenRow.wfByText (OpenSpec.ofChange Rows.topHiddenSpec)=true:=kR
theorem q4:Tryz.prog.mainIs=some (Rows.topHiddenCard.stood.harness.1,Rows.topHiddenCard.stood.harness.2.toList):=kR
theorem q5:Tryz.prog.funcNamed "lazaretto/lazarettotop.TopHidden" =some 6:=kR
theorem q6:([25,2,23,5].all λu=> !Tryz.prog.wantsStandIn u)=true:=kR
theorem q1:false=Rows.topHiddenRow.goesBy Tryz.prog:=by
 show false=((Tryz.prog.funcNamed "lazaretto/lazarettotop.TopHidden").any Tryz.prog.goes||false)
 rw[q5,Option.any_some,AUr q0]
 rfl
theorem proved:Rows.TopHiddenCardSaid:=
 Claim7.holds_tied_plain_at .later [] [.data,.data,.data,.data,.sentinel,.sentinel,.data,.data,.data,.pinned] true Rows.topHiddenCard.stood.harness true
  over (λ_ h=>by cases h) q3 (λ_ h=>by cases h) topHidden_row_tie rfl ⟨rfl,rfl⟩ q4 rfl
  (λf fn a F4=>by
    obtain rfl:f=6:=Option.some.inj (q5.symm.trans a) |>.symm
    obtain rfl:fn=Tryz.f6:=(Option.some.inj (Tryz.func6.symm.trans F4)).symm
    exact⟨q2,λj t ht=>by
     rw[Tryz.params6]at ht
     have hm:t∈[25,2,23,5]:=by simpa using Array.mem_of_getElem? ht
     exact(show Tryz.prog.wantsStandIn t=false by simpa using List.all_eq_true.1 q6 t hm)⟩)
  q1
end
end Go.Proofs.YtomehhepbeiinaaGreatDoor.lawTopHidden
