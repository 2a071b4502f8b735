/- Walks of single functions. No conditions. -/
import Derived.Test.YtomehhepbeiinaaGreatDoorQMath
import Derived.Lib.Bytealg
set_option maxRecDepth 100000
set_option maxHeartbeats 4000000
set_option linter.all false
namespace Lz
def pieces(c:AH):AA AH->AA (AA AH)
 |[]=>[[]]
 |b::l=>if b==c then[]::pieces c l else(b::(pieces c l).headD [])::(pieces c l).tail
def AaG(c l):pieces c l≠[]:=by
 cases l with
 |nil=>simp[pieces]
 |cons b l=>unfold pieces;split<;>simp
def AJh(c:UInt8):∀(l:List UInt8)(k:Nat),Go.Lib.indexByte l c=(k:Int)->k<l.length/\pieces c l=l.take k::pieces c (l.drop (k+1))
 |[],k,h=>by simp[Go.Lib.indexByte]at h
 |b::l,k,h=>by
  unfold Go.Lib.indexByte at h;have e:=Go.Lib.indexByte_ge l c;by_cases a:(b==c);rw[if_pos a]at h;obtain rfl:k=0:=oG;refine⟨sP,?_⟩;rw[pieces,if_pos a];rfl;rw[if_neg a]at h;split at h;omega;rename_i f;have g:Go.Lib.indexByte l c≠ -1:=by simpa using f
  obtain⟨m,rfl⟩:∃m,k=m+1:=⟨k-1,oG⟩;obtain⟨i,d⟩:=AJh c l m oG;refine⟨by simp;omega,?_⟩;rw[pieces,if_neg a,d];rfl
end Lz
