/- Walks of single functions. No conditions. -/
import Derived.Test.YtomehhepbeiinaaGreatDoorQCnfR
import Derived.Test.YtomehhepbeiinaaGreatDoorQPrsA
set_option maxRecDepth 100000
set_option maxHeartbeats 4000000
set_option linter.all false
namespace Go.Proofs.YtomehhepbeiinaaGreatDoor
open Go.RowKit Go.Shelf
def AWd{W c B a n e v xs}(h:W.ownsRow B e a v n xs)(b:Below W.heap.size W c):c.ownsRow B e a v n xs:=
 h.kept (row:=none) ⟨b.os,b.tape,b.output,b.size,λi d _=>b.block i d⟩ (by by_cases h:v.ownBlock=none;exact .inl h;exact .inr h)
def AHr{W W'}(a:Below W.heap.size W W'):KeepsOthers W W':=
 ⟨a.size,λk _ b _=>(a.block k (Jz.1 b).1).trans b⟩
def ASF(acc:AA AH)(c:AH):AA AH:=(if acc=[]then[]else acc++[38])++AYN c
def AYL(l:AA AH):AA AH:=l.foldl ASF []
def AC2(f:AA AH):AA AH:=if Lz.norm f=[]then[84]else if Lz.norm f=[0]then[70]else AYL (Lz.norm f)
end Go.Proofs.YtomehhepbeiinaaGreatDoor
