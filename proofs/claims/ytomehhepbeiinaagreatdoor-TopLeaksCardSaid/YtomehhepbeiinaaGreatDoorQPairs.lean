/- Walks of single functions. No conditions. -/
import Derived.Test.YtomehhepbeiinaaGreatDoorQLabel3
import Derived.Test.YtomehhepbeiinaaGreatDoorQOrd2
set_option maxRecDepth 100000
set_option maxHeartbeats 4000000
set_option linter.all false
namespace Go.Proofs.YtomehhepbeiinaaGreatDoor
open Tryz
open Go.RowKit Go.Shelf
abbrev pv(a:Lz.AV):AE:=.agg #[.string (str a.1),.string (str a.2)]
def Bo(a:Lz.AV):Prop:=a.1.length<=1000000/\a.2.length<=1000000
def Bo.l{a}(h:Bo a):(str a.1).size<=1000000:=h.1
def Bo.r{a}(h:Bo a):(str a.2).size<=1000000:=h.2
def AQg(a b)(c:Bo a)(d:Bo b)(w):Calls prog 15 #[pv a,pv b] w λe f=>e=.returned (.bool (Lz.fl a b))/\Below w.heap.size w f:=by have:=AQf (str a.1) (str a.2) (str b.1) (str b.2) c.l c.r d.l d.r w;simp[H6]at this;exact this
def Xc(l):(Lz.norm l).length<=1000000:=CB (XG _ 256) dC
def ANS(a b):(Lz.and a b).length<=1000000:=Xc _
def AU9(a b):(Lz.or a b).length<=1000000:=Xc _
def AUx(a b):Bo (Lz.jn a b):=⟨ANS _ _,AU9 _ _⟩
def AUh(a)(b:Bo a)(w):Calls prog 189 #[pv a] w λe c=>e=.returned (pv (Lz.Ap a))/\Below w.heap.size w c:=by have:=AIC (str a.1) (str a.2) b.l b.r w;simp[H6]at this;exact this
def ASI(a b)(c:Bo a)(d:Bo b)(w):Calls prog 36 #[pv a,pv b] w λe f=>e=.returned (pv (Lz.jn a b))/\Below w.heap.size w f:=by have:=ASH (str a.1) (str a.2) (str b.1) (str b.2) c.l c.r d.l d.r w;simp[H6]at this;exact this
end Go.Proofs.YtomehhepbeiinaaGreatDoor
