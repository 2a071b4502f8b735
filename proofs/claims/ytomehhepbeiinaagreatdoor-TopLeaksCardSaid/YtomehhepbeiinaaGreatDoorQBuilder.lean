/- Walks of single functions. No conditions. -/
import Derived.Test.YtomehhepbeiinaaGreatDoorQBut
import Derived.Lib.Builder
import Derived.RegionTactic
set_option maxRecDepth 100000
set_option maxHeartbeats 4000000
set_option linter.all false
namespace Go.Proofs.YtomehhepbeiinaaGreatDoor
open Tryz
open Go.RowKit Go.Shelf
def Ho(B b:Nat)(l:AA AH)(w:AI):Prop:=
 b<B/\∃p v,(p=.pointer none\/p=.pointer (some ⟨b,0,none⟩))/\w.heap[b]? =some (.cells #[p,v] 250 (0,0))/\w.ownsRow B 5 1 v l.length (l.map GN)
def AMr(B b:Nat)(l:AA AH)(w:AI):Prop:=
 b<B/\∃v,w.heap[b]? =some (.cells #[.pointer (some ⟨b,0,none⟩),v] 250 (0,0))/\w.ownsRow B 5 1 v l.length (l.map GN)
theorem ARK{w:AI}{b p v q T}(h:w.heap[b]? =some (.cells #[p,v] T (0,0))):(w.setCell ⟨b,0,none⟩ q).heap[b]? =some (.cells #[q,v] T (0,0)):=by let⟨a,c⟩:=Jz.1 h;show(w.heap.modify b _)[b]? =_;rw[Yi (by rw[VL];exact a),Yk,c];rfl
theorem AHM{w:AI}{b p v q T}(h:w.heap[b]? =some (.cells #[p,v] T (0,0))):(w.setCell ⟨b,1,none⟩ q).heap[b]? =some (.cells #[p,q] T (0,0)):=by let⟨a,c⟩:=Jz.1 h;show(w.heap.modify b _)[b]? =_;rw[Yi (by rw[VL];exact a),Yk,c];rfl
theorem sizeBuilder:(prog.info? 250).map (λi=>i.size)=some 2:=kR
theorem liesBuilder:liesAt prog prog.depth 250 (2/prog.cellsOf 250) 0 250 1:=kR
theorem APM(b w)(d:w.cell? ⟨b,0,none⟩=some (.pointer (some ⟨b,0,none⟩))):
 Calls prog 182 #[.pointer (some ⟨b,0,none⟩)] w λe c=>e=.returned (.tuple #[])/\c=w:=by
 let⟨j,a,_⟩:=KM.1 sizeBuilder
 go_enter func182,ntmps182
 go_wp2
 rw[Lib.run_neq_ptr_same w _ underlying248 a]
 go_wp2
 go_end0
 exact⟨rfl,rfl⟩
theorem APL(b w)(h:w.cell? ⟨b,0,none⟩=some (.pointer none))(a:w.shape? b=some (250,2))(f:w.frozen? ⟨b,0,none⟩=false):
 Calls prog 182 #[.pointer (some ⟨b,0,none⟩)] w λe g=>e=.returned (.tuple #[])/\g=w.setCell ⟨b,0,none⟩ (.pointer (some ⟨b,0,none⟩)):=by
 let⟨j,d,c⟩:=KM.1 sizeBuilder
 go_enter func182,ntmps182
 go_wp2
 rw[Lib.run_to_unsafe w ⟨b,0,none⟩ underlying248 underlying371 d (by rw[c];decide) a (Nat.zero_lt_succ 1)];simp[Result.andThen];rw[Oper.upon_value]
 go_wp2
 rw[run_callFunc_extern func260 kR kR kR (e:=Extern.AbiNoEscape.same) kR];rw[Lib.run_noEscape];simp[Result.andThen];rw[Oper.upon_value]
 go_wp2
 rw[Lib.run_from_unsafe w ⟨b,0,none⟩ underlying371 underlying248 d a liesBuilder];simp[Result.andThen];rw[Oper.upon_value]
 go_wp2
 go_end0
 exact⟨rfl,rfl⟩
theorem AF6(B b l w)(h:Ho B b l w):
 Calls prog 182 #[.pointer (some ⟨b,0,none⟩)] w λe d=>e=.returned (.tuple #[])/\AMr B b l d/\Du B b w d/\KeepsOthers w d:=by
 obtain⟨f,p,v,rfl|rfl,a,c⟩:=h;refine(APL b w (by rw[Lib.cell_of_heap a];rfl) (by simp[World.shape?,a]) (Lib.frozen_of_heap a 0)).mono ?_;rintro e d ⟨rfl,rfl⟩;exact⟨rfl,⟨f,v,ARK a,ownsRow_setCell_below c (a:=⟨b,0,none⟩) f _⟩,Du.setCell _ _ _,KeepsOthers.setCell _ _ _⟩;refine(APM b w (by rw[Lib.cell_of_heap a];rfl)).mono ?_;rintro e d ⟨rfl,rfl⟩;exact⟨rfl,⟨f,v,a,c⟩,Du.refl _ _ _,KeepsOthers.refl _⟩
theorem AON(B b:Nat)(l w)(h:Ho B b l w):
 Calls prog 178 #[.pointer (some ⟨b,0,none⟩)] w λe j=>e=.returned (.int .i64 l.length)/\w=j:=by
 let⟨k,p,v,_,c,a⟩:=h;obtain⟨d,cap,rfl⟩:∃d cap,v=.slice d l.length cap:=by rcases a.2 with⟨f,i⟩|⟨g,cap,cur,f,_⟩;exact⟨none,0,by rw[f,i]⟩;exact⟨_,_,f⟩
 have c1:w.cell? ⟨b,1,none⟩=some (.slice d l.length cap):=by rw[Lib.cell_of_heap c];rfl
 go_enter func178,ntmps178
 go_wp2
 go_ret
 exact⟨rfl,rfl⟩
theorem AMa(B b:Nat)(l:AA AH)(x:Int)(c:AH)(J:x=c.toNat)(w:AI)(h:Ho B b l w)(hlen:l.length<1000000)(F:B<=w.heap.size):
 Calls prog 131 #[.pointer (some ⟨b,0,none⟩),.int .u8 x] w λe A=>e=.returned .nilIface/\Ho B b (l++[c]) A/\Du B b w A/\KeepsOthers w A:=by
 subst J;let⟨K,G,u,y,z⟩:=info_parts QX
 go_enter func131,ntmps131
 go_wp2_with (go_at_call 182;refine(AF6 B b l _ h).mono ?_)
 rintro e m ⟨rfl,E,n,r⟩;let⟨C,v,j,d⟩:=E;have L:m.cell? ⟨b,0,none⟩=some (.pointer (some ⟨b,0,none⟩)):=by rw[Lib.cell_of_heap j];rfl
 have c1:m.cell? ⟨b,1,none⟩=some v:=by rw[Lib.cell_of_heap j];rfl
 have I:=n.size
 go_wp2_with (at_builtin;refine wpList_append_own _ rfl _ _ 23 rfl B 5 K (.int .u8 0) 1 1 underlying23 G u y z rfl dC _ _ _ rfl (d.alloc _) ⟨m.heap.size,0,none⟩ 1 1 [.int .u8 c.toNat] rfl rfl (cell_one_new _ _ _) (by simp[Value.oneCell']) lO oG sO ?_)
 intro P p f a _;have t:b<m.heap.size:=by
  rcases Lp b m.heap.size with q|q
  .exact q
  .simp[VK q]at j
 have o:∀k,v.ownBlock=some k->B<=k:=λk H=>(d.lt k H).1;have i:p.heap[b]? =some (.cells #[.pointer (some ⟨b,0,none⟩),v] 250 (0,0)):=by rw[a.block b sO (λe=>by have:=o b e.symm;omega),Lib.alloc_old m _ b t];exact j
 have M:p.cell? ⟨b,0,none⟩=some (.pointer (some ⟨b,0,none⟩)):=by rw[Lib.cell_of_heap i];rfl
 have N:p.cell? ⟨b,1,none⟩=some v:=by rw[Lib.cell_of_heap i];rfl
 have O:p.frozen? ⟨b,1,none⟩=false:=Lib.frozen_of_heap i 1;obtain⟨g,D,rfl⟩:=ownsRow_succ f;have s:=AJb d a
 go_wp2
 go_ret
 refine⟨rfl,?_,?_,?_⟩
 .refine⟨C,_,_,.inr rfl,AHM i,?_⟩;rw[EL,Bc];exact ownsRow_setCell_below f (a:=⟨b,1,none⟩) C _
 .exact(n.trans (Du.of_below (((Below.refl B m).alloc oG _).grown a sO o))).trans (Du.setCell _ _ _)
 .exact r.trans (s.trans (KeepsOthers.setCell _ _ _))
theorem ASV(W a n):KeepsOthers W (W.freeze a n):=by
 unfold World.freeze;split;exact KeepsOthers.refl _;refine⟨sP,λk o b c=> ?_⟩;simp[Yj];split;rw[b];cases o<;>first|rfl|(simp[Obj.isCells]at c)
 exact b
theorem cellsByte:prog.cellsOf 5=1:=kR
theorem AFY(B b l)(s:l≠[])(w)(h:Ho B b l w):
 Calls prog 132 #[.pointer (some ⟨b,0,none⟩)] w λe u=>e=.returned (.string (str l))/\Below B w u/\KeepsOthers w u:=by
 let⟨E,p,v,_,f,c⟩:=h;have o:l.length≠0:=by simpa using s
 obtain⟨g,a,cur,rfl,k,t,q,i,m,d⟩:∃g a cur,v=.slice (some ⟨g,0,none⟩) l.length a/\B<=g/\w.heap[g]? =some (.cells cur 5 (0,0))/\l.length<=a/\a<=maxLen/\cur.size=a*1/\cur.toList.take (l.length*1)=l.map GN:=by rcases c.2 with⟨_,D⟩|⟨g,a,cur,A,r⟩;exact absurd D o;exact⟨g,a,cur,A,r⟩
 have c1:w.drew.cell? ⟨b,1,none⟩=some (.slice (some ⟨g,0,none⟩) l.length a):=by have:w.drew.heap[b]? =some (.cells #[p,.slice (some ⟨g,0,none⟩) l.length a] 250 (0,0)):=f;rw[Lib.cell_of_heap this];rfl
 have y:(Builtin.unsafeSliceData_ #[23] 320 #[.slice (some ⟨g,0,none⟩) l.length a]).run prog w.drew=.ok (.pointer (some ⟨g,0,none⟩)) w.drew:=
  Lib.run_unsafeSliceData_row _ _ _ _ _ _ oG
 have z:(Builtin.unsafeString_ #[320,3] 9 #[.pointer (some ⟨g,0,none⟩),.int .i64 l.length]).run prog w.drew=.ok (.string (str l)) (w.drew.freeze ⟨g,0,none⟩ l.length):=by refine Lib.run_unsafeString_row w.drew 320 3 9 5 underlying320 cellsByte g cur.size (by have n:w.drew.heap[g]? =some (.cells cur 5 (0,0)):=t;simp[World.shape?,n]) l s oG (by unfold maxLen at i;omega) ?_;intro j x C;have:=c.cells (g:=g) rfl j (.int .u8 x.toNat) (by simp[GN,C]);exact this
 go_enter func132,ntmps132
 go_wp2
 go_region
 all_goals(go_wp2;go_ret;exact⟨rfl,Lib.below_freeze (Below.drew (Below.refl B w)) (p:=⟨g,0,none⟩) k _,(KeepsOthers.drew w).trans (ASV _ _ _)⟩)
end Go.Proofs.YtomehhepbeiinaaGreatDoor
