/- Walks of single functions. No conditions. -/
import Derived.Test.YtomehhepbeiinaaGreatDoorQLabel
set_option maxRecDepth 100000
set_option maxHeartbeats 4000000
set_option linter.all false
namespace Go.Proofs.YtomehhepbeiinaaGreatDoor
open Tryz
open Go.RowKit Go.Shelf
theorem ASH(s i b a)(q:s.size<=1000000)(p:i.size<=1000000)(l:b.size<=1000000)(k:a.size<=1000000)(w):
 Calls prog 36 #[.agg #[.string s,.string i],.agg #[.string b,.string a]] w λe u=>e=.returned (.agg #[.string (str (Lz.and s.data.toList b.data.toList)),.string (str (Lz.or i.data.toList a.data.toList))])/\Below w.heap.size w u:=by
 have g:=((Dm.new w 42 (.string s) (.string i)).alloc (.cells #[.string b,.string a] 42)).alloc (.cells #[.string ⟨#[]⟩,.string ⟨#[]⟩] 42);have f:=(Dm.new (w.alloc (.cells #[.string s,.string i] 42)) 42 (.string b) (.string a)).alloc (.cells #[.string ⟨#[]⟩,.string ⟨#[]⟩] 42);have m:=Dm.new ((w.alloc (.cells #[.string s,.string i] 42)).alloc (.cells #[.string b,.string a] 42)) 42 (.string ⟨#[]⟩) (.string ⟨#[]⟩);simp[World.size_alloc]at f m;have n:Below w.heap.size w (((w.alloc (.cells #[.string s,.string i] 42)).alloc (.cells #[.string b,.string a] 42)).alloc (.cells #[.string ⟨#[]⟩,.string ⟨#[]⟩] 42)):=(((Below.refl _ w).alloc (AZ _) _).alloc sP _).alloc sO _
 go_enter func36,ntmps36
 go_wp2_with fail
 refine(ABw 95 #[.pointer (some ⟨w.heap.size,0,none⟩),.pointer (some ⟨w.heap.size+1,0,none⟩)] (str (Lz.and s.data.toList b.data.toList)) (str (Lz.or i.data.toList a.data.toList)) _ (enters_of func95 kR rfl) (λW j=>AHl true _ _ s i b a q p l k W (g.below j g.lt) (f.below j f.lt)) (λW j=>AHl false _ _ s i b a q p l k W (g.below j g.lt) (f.below j f.lt))).mono ?_;rintro e z ⟨rfl,d⟩;have c:=m.below d m.lt;have v:=c.cell0;have c1:=c.cell1;have x:=c.frozen 0;have y:=c.frozen 1;have o:=n.trans (d.mono n.size)
 go_wp2
 have h:=V3 (q:=.string (str (Lz.or i.data.toList a.data.toList))) (V2 (q:=.string (str (Lz.and s.data.toList b.data.toList))) c);have r:=h.cell0;have t:=h.cell1;refine bodyPost_ret (v:=.agg #[.string (str (Lz.and s.data.toList b.data.toList)),.string (str (Lz.or i.data.toList a.data.toList))]) ?_ rfl ⟨rfl,(o.setCell (p:=⟨w.heap.size+1+1,0,none⟩) (show w.heap.size<=w.heap.size+1+1 by omega) _).setCell (p:=⟨w.heap.size+1+1,1,none⟩) (show w.heap.size<=w.heap.size+1+1 by omega) _⟩;simp[results,f36,go_sem,r,t]
def T3(s i b a:AA AH):Bool:=Lz.H5 b s&&Lz.H5 i a
theorem AQf(s i c b)(p:s.size<=1000000)(q:i.size<=1000000)(j:c.size<=1000000)(o:b.size<=1000000)(w):
 Calls prog 15 #[.agg #[.string s,.string i],.agg #[.string c,.string b]] w λe r=>e=.returned (.bool (T3 s.data.toList i.data.toList c.data.toList b.data.toList))/\Below w.heap.size w r:=by
 have m:=(Dm.new w 42 (.string s) (.string i)).alloc (.cells #[.string c,.string b] 42);have k:=Dm.new (w.alloc (.cells #[.string s,.string i] 42)) 42 (.string c) (.string b);rw[World.size_alloc]at k;have f:Below w.heap.size w ((w.alloc (.cells #[.string s,.string i] 42)).alloc (.cells #[.string c,.string b] 42)):=((Below.refl _ w).alloc (AZ _) _).alloc sP _;cases d:Lz.H5 c.data.toList s.data.toList with
 |false=>
  have h:T3 s.data.toList i.data.toList c.data.toList b.data.toList=false:=by unfold T3;rw[d];rfl
  rw[h];have l:=Lib.hid d
  go_enter func15,ntmps15
  go_wp2_with fail
  refine(Rx _ _ j p _).mono ?_;rintro e t ⟨rfl,a⟩;rw[l.out]
  go_wp2
  go_ret
  exact⟨rfl,f.trans (a.mono f.size)⟩
 |true=>
  have h:T3 s.data.toList i.data.toList c.data.toList b.data.toList=Lz.H5 i.data.toList b.data.toList:=by unfold T3;rw[d];rfl
  rw[h];have l:=Lib.hid d
  go_enter func15,ntmps15
  go_wp2_with fail
  refine(Rx _ _ j p _).mono ?_;rintro e t ⟨rfl,a⟩;rw[l.out];have u:=(m.below a m.lt).cell1;have c1:=(k.below a k.lt).cell1;have g:=f.trans (a.mono f.size)
  go_wp2_with fail
  refine(Rx _ _ q o _).mono ?_;rintro e v ⟨rfl,n⟩
  go_wp2
  go_ret
  exact⟨rfl,g.trans (n.mono g.size)⟩
end Go.Proofs.YtomehhepbeiinaaGreatDoor
