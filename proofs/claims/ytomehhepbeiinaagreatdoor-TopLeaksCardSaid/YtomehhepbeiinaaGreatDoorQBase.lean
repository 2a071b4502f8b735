/- Walks of single functions. No conditions. -/
import Derived.Test.YtomehhepbeiinaaGreatDoorQMath
import Derived.WalkKit
import Derived.Laws.BitsAllLaws
import Derived.Lib.SmallJoins
import Derived.Lib.QuietBelowIn
import Derived.Laws.IdiomStrings
import Derived.ChangeKeysEq
import Derived.OpenShut
import Derived.Laws.BytesArg
import Derived.Laws.OwnMore
set_option maxRecDepth 100000
set_option maxHeartbeats 4000000
set_option linter.all false
namespace Go.Proofs.YtomehhepbeiinaaGreatDoor
open Go.RowKit
def Z5(a b:AH):bits .and .u8 (a.toNat:Int) (b.toNat:Int)=((a&&&b).toNat:Int):=by rw[u8_and_nat _ _ a.toNat_lt b.toNat_lt,VY]
def AFE(a b:AH):bits .or .u8 (a.toNat:Int) (b.toNat:Int)=((a|||b).toNat:Int):=by rw[u8_or_nat _ _ a.toNat_lt b.toNat_lt,UInt8.toNat_or]
def AN5(a b:AH):bits .andNot .u8 (a.toNat:Int) (b.toNat:Int)=((a&&& ~~~b).toNat:Int):=by have h:=u8_andNot_nat a.toNat b.toNat a.toNat_lt b.toNat_lt;rw[h,VY,UInt8.toNat_not];rfl
def ALb(a:AH):((a.toNat:Int)==0)=(a==0):=by rw[If,Gm,Gm];constructor;intro h;apply Pr.1;simp;omega;intro h;subst h;rfl
def ANR(a b):(a&&& ~~~b==0)=Lz.sub a b:=by
 rw[If,Gm,Lz.Sj];constructor;intro h i c d;have:Lz.bit (a&&& ~~~b) i=false:=by rw[h,Lz.Tj]
 rw[Lz.P5,Lz.Z4 _ _ c,d]at this;simpa using this;intro h;apply Lz.RY;intro i c;rw[Lz.P5,Lz.Z4 _ _ c,Lz.Tj];have:=h i c;cases d:Lz.bit a i<;>simp_all
def AHa(a b:AH):(bits .andNot .u8 (a.toNat:Int) (b.toNat:Int)==0)=Lz.sub a b:=by rw[AN5,ALb,ANR]
def str(l:AA AH):Bp:=⟨l.toArray⟩
def Ek(l):(str l).size=l.length:=rfl
def GN(u:AH):AE:=.int .u8 (u.toNat:Int)
def AJZ{w:AI}{B g n a:Nat}{e}{l:AA AH}(h:w.ownsRow B e 1 (.slice (some ⟨g,0,none⟩) n a) n (l.map GN))(j:Nat)(b:j<l.length):
 w.cell? ⟨g,j,none⟩=some (.int .u8 ((l[j]'b).toNat:Int)):=by
 have c:(l.map GN).length=n*1:=h.1;rw[C6,RF]at c;have:=h.cellAt j oG;rw[this,E0,A9 b];rfl
def ANK(g j):(⟨g,0,none⟩:Ac).add j=⟨g,j,none⟩:=by cases j<;>simp[Addr.add]
def Uu{P:BX}{w:AI}{B n:Nat}{src dst e v}{l:AA AH}(h:w.ownsRow B e 1 v n (l.map GN))(d:P.underlying src=some (.slice e))
 (c:P.underlying e=some (.int .u8)) (b:P.underlying dst=some .string):(convert src dst v).run P w=.ok (.string (str l)) w:=by
 have k:l.length=n:=by have:=h.1;simpa using this
 rcases Go.Joins.ownsRow_forms h with⟨rfl,m⟩|⟨g,a,rfl⟩;have f:l=[]:=Hm oG;subst f;exact run_convert_bytes_nil w src e d c 0 0 dst b;subst k;exact run_convert_bytes_back w src dst e ⟨g,0,none⟩ a l d c b (λj i=>by have:=AJZ h j i;show w.cell? ((⟨g,0,none⟩:Ac).add j)=_;rw[ANK];exact this)
def AWj{P:BX}{w t e}{n:Nat}{a k}{i:Int}{v inf}(j:P.underlying t=some (.array n e))(f:P.underlying e=some .bool)
 (g:P.info? e=some inf) (d:P.cellsOf e=1) (b:0<=i) (c:i<n) (l:a[i.toNat]? =some v):(Instr.index t (.agg a) (.int k i)).run P w=.ok v w:=by
 have h:=run_sizeOf (w:=w) g;simp[Instr.index,run_underlying j,asIntOf,b,c,go_sem,h,d,isAgg,run_underlying f,l]
def Vz{w a}(h:∃p:Regrown,a=Go.Sort.grow (redrawn w p.d) p.os):Below w.heap.size w a:=by obtain⟨p,rfl⟩:=h;exact below_regrown w p.d p.os
def Qq{P f a w v}(h:∀W,Below w.heap.size w W->Calls P f a W λe g=>e=.returned v/\Below W.heap.size W g):
 ∀d b,Calls P f a (Go.Sort.grow (redrawn w d) b) λe c=>e=.returned v/\∃p:Regrown,c=Go.Sort.grow (redrawn w p.d) p.os:=λd b=>Calls.regrown_of (h _ (below_regrown w d b))
def AV2{n P f a w v}(h:∀W,Below w.heap.size w W->Calls P f a W λe g=>e=.returned v/\Below W.heap.size W g):
 ∀d b,CallsIn Fence.wide n P f a (Go.Sort.grow (redrawn w d) b) λe c=>e=.returned v/\∃p:Regrown,c=Go.Sort.grow (redrawn w p.d) p.os:=λd b=>CallsIn.regrown_of (callsIn_wide.2 (h _ (below_regrown w d b)))
def IB(l):(str l).toList=l:=ByteArray.toList_mk l
def H6(l):(str l).data.toList=l:=by simp[str]
def ATs(x y:Bp):(x++y).data.toList=x.data.toList++y.data.toList:=sP
def Qr{a b:Bool}(h:a=b):Ending.returned (.bool a)=.returned (.bool b):=by rw[h]
end Go.Proofs.YtomehhepbeiinaaGreatDoor
