/- Walks of single functions. No conditions. -/
import Derived.Test.YtomehhepbeiinaaGreatDoorQPairs
set_option maxRecDepth 100000
set_option maxHeartbeats 4000000
set_option linter.all false
namespace Go.Proofs.YtomehhepbeiinaaGreatDoor
open Tryz
open Go.RowKit Go.Shelf
theorem AIq(h:Bool)(b c s i f d)(n:s.size<=1000000)(m:i.size<=1000000)(j:f.size<=1000000)(g:d.size<=1000000)(w)(k:Dm w b 42 (.string s) (.string i))(l:Dm w c 42 (.string f) (.string d)):
 Calls prog 348 #[.bool h,.pointer (some ⟨b,0,none⟩),.pointer (some ⟨c,0,none⟩)] w λe o=>e=.returned (.string (str (if h then Lz.or s.data.toList f.data.toList else Lz.and i.data.toList d.data.toList)))/\Below w.heap.size w o:=by
 have q:=k.cell0;have c1:=k.cell1;have r:=l.cell0;have t:=l.cell1;cases h
 .go_enter func348,ntmps348
  go_wp2_with fail
  refine(Ta i d m g _).mono ?_;rintro e p ⟨rfl,a⟩
  go_wp2
  go_ret
  exact⟨rfl,a⟩
 .go_enter func348,ntmps348
  go_wp2_with fail
  refine(AJX s f n j _).mono ?_;rintro e p ⟨rfl,a⟩
  go_wp2
  go_ret
  exact⟨rfl,a⟩
theorem AT9(s i b a)(q:s.size<=1000000)(p:i.size<=1000000)(l:b.size<=1000000)(k:a.size<=1000000)(w):
 Calls prog 292 #[.agg #[.string s,.string i],.agg #[.string b,.string a]] w λe u=>e=.returned (.agg #[.string (str (Lz.or s.data.toList b.data.toList)),.string (str (Lz.and i.data.toList a.data.toList))])/\Below w.heap.size w u:=by
 have g:=((Dm.new w 42 (.string s) (.string i)).alloc (.cells #[.string b,.string a] 42)).alloc (.cells #[.string ⟨#[]⟩,.string ⟨#[]⟩] 42);have f:=(Dm.new (w.alloc (.cells #[.string s,.string i] 42)) 42 (.string b) (.string a)).alloc (.cells #[.string ⟨#[]⟩,.string ⟨#[]⟩] 42);have m:=Dm.new ((w.alloc (.cells #[.string s,.string i] 42)).alloc (.cells #[.string b,.string a] 42)) 42 (.string ⟨#[]⟩) (.string ⟨#[]⟩);simp[World.size_alloc]at f m;have n:Below w.heap.size w (((w.alloc (.cells #[.string s,.string i] 42)).alloc (.cells #[.string b,.string a] 42)).alloc (.cells #[.string ⟨#[]⟩,.string ⟨#[]⟩] 42)):=(((Below.refl _ w).alloc (AZ _) _).alloc sP _).alloc sO _
 go_enter func292,ntmps292
 go_wp2_with fail
 refine(ABw 348 #[.pointer (some ⟨w.heap.size,0,none⟩),.pointer (some ⟨w.heap.size+1,0,none⟩)] (str (Lz.or s.data.toList b.data.toList)) (str (Lz.and i.data.toList a.data.toList)) _ (enters_of func348 kR rfl) (λW j=>AIq true _ _ s i b a q p l k W (g.below j g.lt) (f.below j f.lt)) (λW j=>AIq false _ _ s i b a q p l k W (g.below j g.lt) (f.below j f.lt))).mono ?_;rintro e z ⟨rfl,d⟩;have c:=m.below d m.lt;have v:=c.cell0;have c1:=c.cell1;have x:=c.frozen 0;have y:=c.frozen 1;have o:=n.trans (d.mono n.size)
 go_wp2
 have h:=V3 (q:=.string (str (Lz.and i.data.toList a.data.toList))) (V2 (q:=.string (str (Lz.or s.data.toList b.data.toList))) c);have r:=h.cell0;have t:=h.cell1;refine bodyPost_ret (v:=.agg #[.string (str (Lz.or s.data.toList b.data.toList)),.string (str (Lz.and i.data.toList a.data.toList))]) ?_ rfl ⟨rfl,(o.setCell (p:=⟨w.heap.size+1+1,0,none⟩) (show w.heap.size<=w.heap.size+1+1 by omega) _).setCell (p:=⟨w.heap.size+1+1,1,none⟩) (show w.heap.size<=w.heap.size+1+1 by omega) _⟩;simp[results,f292,go_sem,r,t]
theorem AUB(a b)(c:Bo a)(d:Bo b)(w):Calls prog 292 #[pv a,pv b] w λe f=>e=.returned (pv (Lz.mt a b))/\Below w.heap.size w f:=AT9 (str a.1) (str a.2) (str b.1) (str b.2) c.l c.r d.l d.r w
theorem AWX(a)(r:Bool)(c:Bo a)(h:(Lz.Ap a==a)=r)(w):Calls prog 136 #[pv a] w λe d=>e=.returned (.bool r)/\Below w.heap.size w d:=by
 have b:=ASp (str a.1) (str a.2) c.l c.r w;rw[H6,H6]at b;have e:(Lz.norm a.1==a.1&&Lz.norm a.2==a.2)=r:=by rw[<-h];let⟨x,y⟩:=a;rfl
 rw[e]at b;exact b
end Go.Proofs.YtomehhepbeiinaaGreatDoor
