import Derived.Test.YtomehhepbeiinaaGreatDoorQBuilder
import Derived.Lib.AppendStr
set_option maxRecDepth 100000
set_option maxHeartbeats 4000000
set_option linter.defProp false
namespace Go.Proofs.YtomehhepbeiinaaGreatDoor
open Tryz
open Go.RowKit Go.Shelf
theorem AMb(B b:Nat)(l:List UInt8)(s:ByteArray)(w:World)(h:Ho B b l w)(hlen:l.length+s.size<=1000000)(M:B<=w.heap.size):
 Calls prog 130 #[.pointer (some ⟨b,0,none⟩),.string s] w λe F=>e=.returned (.tuple #[.int .i64 s.size,.nilIface])/\Ho B b (l++s.data.toList) F/\Du B b w F/\KeepsOthers w F:=by
 obtain⟨Q,N,C,D,E⟩:=info_parts QX;have q:(Lib.strCells s)=s.data.toList.map GN:=rfl;have r:=Lib.hid q;clear q
 go_enter func130,ntmps130
 go_wp2_with (go_at_call 182;refine(AF6 B b l _ h).mono ?_)
 rintro e m ⟨rfl,L,n,x⟩;obtain⟨I,v,i,d⟩:=L;have S:m.cell? ⟨b,0,none⟩=some (.pointer (some ⟨b,0,none⟩)):=by rw[Lib.cell_of_heap i];rfl
 have c1:m.cell? ⟨b,1,none⟩=some v:=by rw[Lib.cell_of_heap i];rfl
 have P:=n.size
 go_wp2_with (at_builtin;refine Lib.wpList_append_own_string _ rfl _ _ 23 9 rfl B 5 Q underlying23 underlying9 N C D E _ _ _ rfl d s rfl ?c3 ?c4 ?c5 ?_)
 case c3=>unfold maxLen;omega
 case c4=>omega
 case c5=>omega
 intro R w2 c a _;have z:b<m.heap.size:=by rcases Nat.lt_or_ge b m.heap.size with t|t;exact t;simp[Array.getElem?_eq_none t]at i
 have p:∀k,v.ownBlock=some k->B<=k:=λk O=>(d.lt k O).1;have f:w2.heap[b]? =some (.cells #[.pointer (some ⟨b,0,none⟩),v] 250 (0,0)):=by rw[a.block b z (λe=>by have:=p b e.symm;omega)];exact i
 have T:w2.cell? ⟨b,0,none⟩=some (.pointer (some ⟨b,0,none⟩)):=by rw[Lib.cell_of_heap f];rfl
 have U:w2.cell? ⟨b,1,none⟩=some v:=by rw[Lib.cell_of_heap f];rfl
 have V:w2.frozen? ⟨b,1,none⟩=false:=Lib.frozen_of_heap f 1;obtain⟨G,K,cap,rfl⟩:∃G K cap,R=.slice G K cap:=by rcases c.2 with⟨A,_⟩|⟨g,cap,cur,A,_⟩;exact⟨_,_,_,A⟩;exact⟨_,_,_,A⟩
 have y:KeepsOthers m w2:=by
  refine KeepsOthers.of_grownBy a λj o H J=> ?_;rcases d.2 with⟨rfl,_⟩|⟨g,cap,cur,rfl,_,u,_⟩;simp[Value.ownBlock]at H;obtain rfl:g=j:=by simpa[Value.ownBlock]using H
  rw[u]at J;cases J;rfl
 go_wp2
 go_ret2
 refine⟨rfl,?_,?_,?_⟩;refine⟨I,_,_,.inr rfl,AHM f,?_⟩;rw[List.map_append,List.length_append,Array.length_toList];rw[r.out]at c;exact ownsRow_setCell_below c (a:=⟨b,1,none⟩) I _;exact(n.trans (Du.of_below ((Below.refl B m).grown a oG p))).trans (Du.setCell _ _ _);exact x.trans (y.trans (KeepsOthers.setCell _ _ _))
end Go.Proofs.YtomehhepbeiinaaGreatDoor
