/- Walks of single functions. No conditions. -/
import Derived.Test.YtomehhepbeiinaaGreatDoorQImplies
import Derived.Test.YtomehhepbeiinaaGreatDoorQOr
set_option maxRecDepth 100000
set_option maxHeartbeats 4000000
set_option linter.all false
namespace Go.Proofs.YtomehhepbeiinaaGreatDoor
open Tryz
open Go.RowKit Go.Shelf
def Dm(W:AI)(B:Nat)(t:Av)(u v:AE):Prop:=W.heap[B]? =some (.cells #[u,v] t (0,0))
theorem Dm.lt{W B t u v}(h:Dm W B t u v):B<W.heap.size:=(Jz.1 h).1
theorem Dm.cell0{W B t u v}(h:Dm W B t u v):W.cell? ⟨B,0,none⟩=some u:=by simp[World.cell?,show W.heap[B]? =_ from h]
theorem Dm.cell1{W B t u v}(h:Dm W B t u v):W.cell? ⟨B,1,none⟩=some v:=by simp[World.cell?,show W.heap[B]? =_ from h]
theorem Dm.frozen{W B t u v}(h:Dm W B t u v)(j):W.frozen? ⟨B,j,none⟩=false:=by simp[World.frozen?,show W.heap[B]? =_ from h]
theorem Dm.new(W:AI)(t u v):Dm (W.alloc (.cells #[u,v] t)) W.heap.size t u v:=World.alloc_heap_new W _
theorem Dm.below{a b W d t u v}(h:Dm W b t u v)(e:Below a W d)(c:b<a):Dm d b t u v:=(e.block b c).trans h
theorem Dm.alloc{b W t u v}(h:Dm W b t u v)(o):Dm (W.alloc o) b t u v:=(Below.heap_alloc W o b h.lt).trans h
theorem V2{W b t u v q}(h:Dm W b t u v):Dm (W.setCell ⟨b,0,none⟩ q) b t q v:=by let⟨a,c⟩:=Jz.1 h;show(W.heap.modify b _)[b]? =_;rw[Yi (by rw[VL];exact a),Yk,c];rfl
theorem V3{W b t u v q}(h:Dm W b t u v):Dm (W.setCell ⟨b,1,none⟩ q) b t u q:=by let⟨a,c⟩:=Jz.1 h;show(W.heap.modify b _)[b]? =_;rw[Yi (by rw[VL];exact a),Yk,c];rfl
def CC(s i:Bp):AE:=.agg #[.string s,.string i]
theorem ABw(K b s i w)(y:∀d W,(callFunc K d).run prog W=.ok (.enter K d) W)
 (p:∀W,Below w.heap.size w W->Calls prog K (#[.bool true]++b) W λe k=>e=.returned (.string s)/\Below W.heap.size W k)
 (o:∀W,Below w.heap.size w W->Calls prog K (#[.bool false]++b) W λe k=>e=.returned (.string i)/\Below W.heap.size W k):
 Calls prog 94 #[.func (.func K) #[] b] w λe k=>e=.returned (.agg #[.string s,.string i])/\Below w.heap.size w k:=by
 have HS:=Lib.hid p;have q:=Lib.hid o
 go_enter func94,ntmps94
 have m:=Dm.new w 42 (.string ⟨#[]⟩) (.string ⟨#[]⟩);have l:Below w.heap.size w (w.alloc (.cells #[.string ⟨#[]⟩,.string ⟨#[]⟩] 42)):=(Below.refl _ w).alloc (AZ _) _
 go_wp2_with fail
 refine(HS.out _ l).mono ?_;rintro e z ⟨rfl,g⟩;have c:=l.trans (g.mono l.size);have f:=m.below g m.lt
 go_wp2_with fail
 refine(q.out _ c).mono ?_;rintro e A ⟨rfl,h⟩;have n:=c.trans (h.mono c.size);have a:=f.below h f.lt;have u:=a.cell0;have c1:=a.cell1;have v:=a.frozen 0;have x:=a.frozen 1
 go_wp2
 have j:=V3 (q:=.string i) (V2 (q:=.string s) a);have r:=j.cell0;have t:=j.cell1;refine bodyPost_ret (v:=.agg #[.string s,.string i]) ?_ rfl ⟨rfl,(n.setCell (p:=⟨w.heap.size,0,none⟩) (AZ _) _).setCell (p:=⟨w.heap.size,1,none⟩) (AZ _) _⟩;simp[results,f94,go_sem,r,t]
theorem AHJ(h:Bool)(s i w):
 Calls prog 275 #[.bool h,.agg #[.string s,.string i]] w λe a=>e=.returned (.string (if h then s else i))/\Below w.heap.size w a:=by
 cases h
 .go_enter func275,ntmps275
  go_wp2
  go_ret
  exact⟨rfl,(Below.refl _ _).alloc (AZ _) _⟩
 .go_enter func275,ntmps275
  go_wp2
  go_ret
  exact⟨rfl,(Below.refl _ _).alloc (AZ _) _⟩
theorem AJE(h:Bool)(b s i)(g:s.size<=1000000)(f:i.size<=1000000)(w)(d:Dm w b 42 (.string s) (.string i)):
 Calls prog 274 #[.bool h,.pointer (some ⟨b,0,none⟩)] w λe j=>e=.returned (.string (str (Lz.norm (if h then s else i).data.toList)))/\Below w.heap.size w j:=by
 have m:=d.cell0;have c1:=d.cell1;cases h
 .go_enter func274,ntmps274
  go_wp2_with fail
  refine(AHJ false s i _).mono ?_;rintro e k ⟨rfl,a⟩
  go_wp2_with fail
  refine(NB i f _).mono ?_;rintro e l ⟨rfl,c⟩
  go_wp2
  go_ret
  exact⟨rfl,a.trans (c.mono a.size)⟩
 .go_enter func274,ntmps274
  go_wp2_with fail
  refine(AHJ true s i _).mono ?_;rintro e k ⟨rfl,a⟩
  go_wp2_with fail
  refine(NB s g _).mono ?_;rintro e l ⟨rfl,c⟩
  go_wp2
  go_ret
  exact⟨rfl,a.trans (c.mono a.size)⟩
theorem AIC(s i)(l:s.size<=1000000)(k:i.size<=1000000)(w):
 Calls prog 189 #[.agg #[.string s,.string i]] w λe o=>e=.returned (.agg #[.string (str (Lz.norm s.data.toList)),.string (str (Lz.norm i.data.toList))])/\Below w.heap.size w o:=by
 have c:=(Dm.new w 42 (.string s) (.string i)).alloc (.cells #[.string ⟨#[]⟩,.string ⟨#[]⟩] 42);have f:=Dm.new (w.alloc (.cells #[.string s,.string i] 42)) 42 (.string ⟨#[]⟩) (.string ⟨#[]⟩);rw[World.size_alloc]at f;have g:Below w.heap.size w ((w.alloc (.cells #[.string s,.string i] 42)).alloc (.cells #[.string ⟨#[]⟩,.string ⟨#[]⟩] 42)):=((Below.refl _ w).alloc (AZ _) _).alloc sP _
 go_enter func189,ntmps189
 go_wp2_with fail
 refine(ABw 274 #[.pointer (some ⟨w.heap.size,0,none⟩)] (str (Lz.norm s.data.toList)) (str (Lz.norm i.data.toList)) _ (enters_of func274 kR rfl) (λW j=>AJE true w.heap.size s i l k W (c.below j c.lt)) (λW j=>AJE false w.heap.size s i l k W (c.below j c.lt))).mono ?_;rintro e t ⟨rfl,b⟩;have a:=f.below b f.lt;have p:=a.cell0;have c1:=a.cell1;have q:=a.frozen 0;have r:=a.frozen 1;have h:=g.trans (b.mono g.size)
 go_wp2
 have d:=V3 (q:=.string (str (Lz.norm i.data.toList))) (V2 (q:=.string (str (Lz.norm s.data.toList))) a);have m:=d.cell0;have n:=d.cell1;refine bodyPost_ret (v:=.agg #[.string (str (Lz.norm s.data.toList)),.string (str (Lz.norm i.data.toList))]) ?_ rfl ⟨rfl,(h.setCell (p:=⟨w.heap.size+1,0,none⟩) (B9 _) _).setCell (p:=⟨w.heap.size+1,1,none⟩) (B9 _) _⟩;simp[results,f189,go_sem,m,n]
theorem AHl(h:Bool)(b c s i f d)(n:s.size<=1000000)(m:i.size<=1000000)(j:f.size<=1000000)(g:d.size<=1000000)(w)(k:Dm w b 42 (.string s) (.string i))(l:Dm w c 42 (.string f) (.string d)):
 Calls prog 95 #[.bool h,.pointer (some ⟨b,0,none⟩),.pointer (some ⟨c,0,none⟩)] w λe o=>e=.returned (.string (str (if h then Lz.and s.data.toList f.data.toList else Lz.or i.data.toList d.data.toList)))/\Below w.heap.size w o:=by
 have q:=k.cell0;have c1:=k.cell1;have r:=l.cell0;have t:=l.cell1;cases h
 .go_enter func95,ntmps95
  go_wp2_with fail
  refine(AJX i d m g _).mono ?_;rintro e p ⟨rfl,a⟩
  go_wp2
  go_ret
  exact⟨rfl,a⟩
 .go_enter func95,ntmps95
  go_wp2_with fail
  refine(Ta s f n j _).mono ?_;rintro e p ⟨rfl,a⟩
  go_wp2
  go_ret
  exact⟨rfl,a⟩
end Go.Proofs.YtomehhepbeiinaaGreatDoor
