/- Walks of single functions. No conditions. -/
import Derived.Test.YtomehhepbeiinaaGreatDoorQPrin
set_option maxRecDepth 100000
set_option maxHeartbeats 4000000
set_option linter.all false
namespace Go.Proofs.YtomehhepbeiinaaGreatDoor
open Go.RowKit Go.Shelf
structure Du(B b:Nat)(w a:AI):Prop where
 os:a.os=w.os
 tape:a.tape=w.tape
 output:a.output=w.output
 size:w.heap.size<=a.heap.size
 block:∀k,k<B->k≠b->a.heap[k]? =w.heap[k]?
def Du.refl(B b w):Du B b w w:=⟨rfl,rfl,rfl,AZ _,λ_ _ _=>rfl⟩
def Du.trans{B b x y z}(h:Du B b x y)(k:Du B b y z):Du B b x z:=
 ⟨k.os.trans h.os,k.tape.trans h.tape,k.output.trans h.output,CB h.size k.size,λi a c=>(k.block i a c).trans (h.block i a c)⟩
def Du.of_below{B b w a}(h:Below B w a):Du B b w a:=⟨h.os,h.tape,h.output,h.size,λk c _=>h.block k c⟩
def Du.below{B b B' w a}(h:Du B b w a)(c:B'<=B)(d:B'<=b):Below B' w a:=⟨h.os,h.tape,h.output,h.size,λk e=>h.block k oG oG⟩
def Du.setCell{B b}(w j v):Du B b w (w.setCell ⟨b,j,none⟩ v):=⟨rfl,rfl,rfl,by simp[World.setCell],λk _ a=>Below.heap_setCell _ _ _ _ a⟩
def AFc{g:Type}{B b w}(h:B<=w.heap.size):OwnFrom w.heap.size (λ(_:g) W=>Du B b w W):=by intro s X Y f c a d;refine c.trans ⟨a.os,a.tape,a.output,a.size,λk i _=>a.block k (by have:=c.size;omega) λe=> ?_⟩;have:=(d k e.symm).1;omega
def R3{w:AI}{a}(h:a<w.heap.size)(W:AI)(l)(o b:Obj)(c:w.heap.size<=l)(_:W.heap[l]? =some o)(_:o.isCells=false)(_:o.isWalk=false):(W.putObj l b).heap[a]? =W.heap[a]? :=
 World.putObj_heap_other oG
def Kq{n P f a w R}(h:Calls P f a w R):CallsIn Fence.wide n P f a w R:=callsIn_wide.2 h
def AOF{W l d B g j e f v v' sb k m tmp}(b:Boxed W g j sb)(i:j≠e)(h:g≠B)(c:W.ownsRow d e f v k m)
 (a:(W.alloc tmp).grownBy l v.ownBlock):Boxed (l.setCell ⟨B,0,none⟩ v') g j sb:=
 (Below.heap_setCell _ _ _ _ h).trans ((b.alloc tmp).kept a (b.not_row i c))
def Rb{e:Type}(A B:Nat)(t u:Av)(f:e->AE)(g:e->AE):Own (λs W=>Boxed W A t (f s)/\Boxed W B u (g s)):=by rintro s X Y h ⟨b,c⟩ d a;exact⟨(grownBy_keeps_cells d a b rfl).trans b,(grownBy_keeps_cells d a c rfl).trans c⟩
def AJb{W d B n e v k tmp}(b:W.ownsRow B e 1 v n k)(a:(W.alloc tmp).grownBy d v.ownBlock):KeepsOthers W d:=by
 refine(KeepsOthers.alloc W tmp).trans (KeepsOthers.of_grownBy a λj o f h=> ?_);rcases(b.alloc tmp).2 with⟨rfl,_⟩|⟨g,i,cur,rfl,_,c,_⟩;simp[Value.ownBlock]at f;obtain rfl:g=j:=by simpa[Value.ownBlock]using f
 rw[c]at h;cases h;rfl
def Tp{W c b g U t v u tmp}(h:Boxed W b t v)(a:(W.alloc tmp).grownBy c (some g))(d:b≠g)(e:b≠U):Boxed (c.setCell ⟨U,0,none⟩ u) b t v:=
 (Below.heap_setCell _ _ _ _ e).trans ((h.alloc tmp).kept a (by simpa using d))
def Ly{a b W d t v}(h:Boxed W b t v)(e:Below a W d)(c:b<a):Boxed d b t v:=(e.block b c).trans h
def AAB{c:Type}(A t v):Own (λ(_:c) W=>Boxed W A t v):=λ_ _ _ _ h b a=>(grownBy_keeps_cells b a h rfl).trans h
end Go.Proofs.YtomehhepbeiinaaGreatDoor
