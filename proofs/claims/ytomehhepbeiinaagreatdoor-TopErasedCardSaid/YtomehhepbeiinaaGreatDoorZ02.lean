/- Part 2 of the proof of TopErased. No conditions. -/
import Derived.Test.YtomehhepbeiinaaGreatDoorZ01
import Derived.Deep.RegionHeld3
import Derived.Great.BuildSlice
set_option maxRecDepth 100000
set_option maxHeartbeats 4000000
set_option linter.all false
open List renaming length->lN
open Option renaming some->sM,none->nO
open Bool renaming true->tT,false->fF
open Go.Value renaming string->vS,bool->vB
open Go.IntKind renaming i64->iK
namespace Go.Proofs.YtomehhepbeiinaaGreatDoor
open Tryz
section
open Go.RowKit Go.Shelf
def ATp(a b)(c:B9 a)(d:B9 b)(x:Int)(p)(f:x=p.toNat)(w):Calls prog 359 #[pv a,pv b,.int .u8 x] w λe g=>e=.returned (vB<|Lz.fb a b p)/\Below w.heap.size w g:=by have:=AZ9 (AJ a.1) (AJ a.2) (AJ b.1) (AJ b.2) c.l c.r d.l d.r x p f w;simp[IW]at this;exact this
section
attribute [local go_sem] Fz
end
end
end Go.Proofs.YtomehhepbeiinaaGreatDoor
namespace Go.AX
inductive SV where
 |v (x:Value)
 |p (k off:Nat)
 |s (k off len cap:Nat)
 |m (k:Nat)
 |g (l:List SV)
 |t (l:List SV)
 |fn (f:Fn) (a b:List SV)
mutual
def AO(d:Nat->Nat):SV->AF
 | .v x=>x
 | .p k o=>.pointer<|sM ⟨d k,o,nO⟩
 | .s k o n c=>.slice (sM ⟨d k,o,nO⟩) n c
 | .m k=>.map<|sM<|d k
 | .g l=>.agg (BB d l).toArray
 | .t l=>.tuple (BB d l).toArray
 | .fn f a b=>.func f (BB d a).toArray (BB d b).toArray
def BB(a:Nat->Nat):AA SV->AA AF
 |[]=>[]
 |x::l=>AO a x::BB a l
end
mutual
def SV.A3:SV->AA Nat
 | .v _=>[]
 | .p k _=>[k]
 | .s k _ _ _=>[k]
 | .m k=>[k]
 | .g l=>DF l
 | .t l=>DF l
 | .fn _ a b=>DF a++DF b
def DF:AA SV->AA Nat
 |[]=>[]
 |x::l=>x.A3++DF l
end
theorem Hw(a l):BB a l=l.map (AO a):=by
 induction l with
 |nil=>rfl
 |cons x l b=>simp[BB,b]
theorem Mc{l k}:k∈DF l↔∃x∈l,k∈x.A3:=by
 induction l with
 |nil=>simp[DF]
 |cons x l a=>simp[DF,a]
mutual
theorem Ko{g d}:∀x,(∀k∈x.A3,g k=d k)->AO g x=AO d x
 | .v _,_=>rfl
 | .p k o,h=>by simp[AO,h k<|by simp[SV.A3]]
 | .s k o n c,h=>by simp[AO,h k<|by simp[SV.A3]]
 | .m k,h=>by simp[AO,h k<|by simp[SV.A3]]
 | .g l,h=>by simp only[AO];rw[QU l h]
 | .t l,h=>by simp only[AO];rw[QU l h]
 | .fn f a b,h=>by simp only[AO];rw[QU a λk e=>h k<|GC _ e,QU b λk e=>h k<|HZ _ e]
theorem QU{c a:Nat->Nat}:∀l:AA SV,(∀k∈DF l,c k=a k)->BB c l=BB a l
 |[],_=>rfl
 |x::l,h=>by simp only[BB];rw[Ko x λk b=>h k<|GC _ b,QU l λk b=>h k<|HZ _ b]
end
def AV{a:Type}(f:Nat->a)(k:Nat)(x:a):Nat->a:=λn=>match Nat.beq n k with|true=>x|false=>f n
theorem Eu{a:Type}(f:Nat->a)(k:Nat)(x:a):AV f k x k=x:=by simp[AV]
theorem D3{a:Type}(f:Nat->a){k n}(x:a)(h:n≠k):AV f k x n=f n:=by
 have:Nat.beq n k=fF:=by rw[AGG];intro e;exact h<|Ha e
 simp[AV,this]
theorem AF1{c:Type}(f:Nat->c){j k:Nat}(x y:c)(h:j≠k):AV (AV f j x) k y=AV (AV f k y) j x:=by funext n;by_cases a:n=j;subst a;rw[D3 _ _ h,Eu,Eu];by_cases b:n=k;subst b;rw[Eu,D3 _ _ a,Eu];rw[D3 _ _ b,D3 _ _ a,D3 _ _ a,D3 _ _ b]
mutual
def SV.Bh(d:Nat->Nat):SV->SV
 | .v x=>.v x
 | .p k o=>.p (d k) o
 | .s k o n c=>.s (d k) o n c
 | .m k=>.m<|d k
 | .g l=>.g<|IN d l
 | .t l=>.t<|IN d l
 | .fn f a b=>.fn f (IN d a)<|IN d b
def IN(a:Nat->Nat):AA SV->AA SV
 |[]=>[]
 |x::l=>x.Bh a::IN a l
end
mutual
theorem PH(d c):∀x,AO d (x.Bh c)=AO (λk=>d<|c k) x
 | .v _=>rfl
 | .p _ _=>rfl
 | .s _ _ _ _=>rfl
 | .m _=>rfl
 | .g l=>by simp only[SV.Bh,AO];rw[QV d c l]
 | .t l=>by simp only[SV.Bh,AO];rw[QV d c l]
 | .fn f a b=>by simp only[SV.Bh,AO];rw[QV d c a,QV d c b]
theorem QV(b a:Nat->Nat):∀l:AA SV,BB b (IN a l)=BB (λk=>b<|a k) l
 |[]=>rfl
 |x::l=>by simp only[IN,BB];rw[PH b a x,QV b a l]
end
mutual
theorem Qp(c:Nat->Nat):∀x:SV,(x.Bh c).A3=x.A3.map c
 | .v _=>rfl
 | .p _ _=>rfl
 | .s _ _ _ _=>rfl
 | .m _=>rfl
 | .g l=>by simp only[SV.Bh,SV.A3];rw[SI c l]
 | .t l=>by simp only[SV.Bh,SV.A3];rw[SI c l]
 | .fn f a b=>by simp only[SV.Bh,SV.A3,E3];rw[SI c a,SI c b]
theorem SI(a:Nat->Nat):∀l:AA SV,DF (IN a l)=(DF l).map a
 |[]=>rfl
 |x::l=>by simp only[IN,DF,E3];rw[Qp a x,SI a l]
end
inductive AK where
 |cells (l:AA SV) (e:BN)
 |As (l:AA AF) (e:BN)
 |Aq (o:Obj)
 |Ey (ks:AA AF) (vs:AA SV)
 |gone
def Md:AA AF->AA AF->Nat->AA Ar
 |k::ks,v::vs,i=>{key:=k,val:=v,born:=i}::Md ks vs (i+1)
 |_,_,_=>[]
def AK.AO(b:Nat->Nat):AK->AU Obj
 | .cells l e=>sM<|.cells (BB b l).toArray e (0,0)
 | .As l e=>sM<|.cells l.toArray e (0,0)
 | .Aq o=>sM o
 | .Ey a c=>sM<|.map (Md a (BB b c) 0).toArray<|lN a
 | .gone=>nO
def AK.A3:AK->AA Nat
 | .cells l _=>DF l
 | .As _ _=>[]
 | .Aq _=>[]
 | .Ey _ a=>DF a
 | .gone=>[]
def AK.live:AK->Bool
 | .gone=>fF
 |_=>tT
theorem AK.Ko{c a}(b:AK)(h:∀k∈b.A3,c k=a k):b.AO c=b.AO a:=by
 cases b with
 |cells l e=>simp[AK.AO];rw[QU l h]
 |As l e=>rfl
 |Aq o=>rfl
 |Ey f d=>simp[AK.AO];rw[QU d h]
 |gone=>rfl
def AK.Bh(a:Nat->Nat):AK->AK
 | .cells l e=>.cells (IN a l) e
 | .As l e=>.As l e
 | .Aq o=>.Aq o
 | .Ey b c=>.Ey b<|IN a c
 | .gone=>.gone
theorem AK.PH(c a)(b:AK):(b.Bh a).AO c=b.AO (λk=>c<|a k):=by
 cases b with
 |cells l e=>simp[AK.Bh,AK.AO];rw[QV]
 |As l e=>rfl
 |Aq o=>rfl
 |Ey d f=>simp[AK.Bh,AK.AO];rw[QV]
 |gone=>rfl
theorem AK.Qp(a)(b:AK):(b.Bh a).A3=b.A3.map a:=by
 cases b with
 |cells l e=>simp[AK.Bh,AK.A3];rw[SI]
 |As l e=>rfl
 |Aq o=>rfl
 |Ey c d=>simp[AK.Bh,AK.A3];rw[SI]
 |gone=>rfl
theorem AK.UJ(a)(b:AK):(b.Bh a).live=b.live:=by cases b<;>rfl
theorem AK.UI{b:AK}(h:b.live)(a):∃o,b.AO a=sM o:=by
 cases b with
 |cells l e=>exact⟨_,rfl⟩
 |As l e=>exact⟨_,rfl⟩
 |Aq o=>exact⟨_,rfl⟩
 |Ey c d=>exact⟨_,rfl⟩
 |gone=>cases h
structure AB where
 at_:Nat->AU Obj
 Ak:Nat->AU Obj
instance:CoeFun AB (λ_=>Nat->AU Obj):=⟨AB.at_⟩
structure AB.B8(I:AB)(b:Nat)(o:Obj):Prop where
 Ak:I.Ak b=sM o
 at_:I b=nO
structure AB.le(I J:AB):Prop where
 at_:∀b o,I b=sM o->J b=sM o
 Ak:∀b o,I.B8 b o->J.B8 b o
instance {I J:AB}:CoeFun (AB.le I J) (λ_=>∀b o,I b=sM o->J b=sM o):=⟨AB.le.at_⟩
def AB.Da(I J:AB):Prop:=∀b o,I b=sM o->J b=sM o
theorem AB.le.EA{I J:AB}(h:I.le J):I.Da J:=h.at_
theorem AB.le_refl(I:AB):I.le I:=⟨λ_ _ h=>h,λ_ _ h=>h⟩
theorem AB.Hj(I:AB):I.Da I:=λ_ _ h=>h
theorem AB.le.trans{I J K:AB}(h:I.le J)(k:J.le K):I.le K:=⟨λb o x=>k.at_ b o<|h.at_ b o x,λb o x=>k.Ak b o<|h.Ak b o x⟩
theorem AB.Da.trans{I J K:AB}(h:I.Da J)(k:J.Da K):I.Da K:=λb o x=>k b o<|h b o x
def EJ(w:AN)(I:AB):Prop:=∀b o,I b=sM o->w.heap[b]? =sM o
def Holds(w:AN)(I:AB):Prop:=EJ w I/\∀b o,I.Ak b=sM o->w.heap[b]? =sM o
theorem EJ.of_le{w I J}(h:EJ w J)(k:I.Da J):EJ w I:=λb o x=>h b o<|k b o x
def AB.CW(I:AB):AB:=⟨λb=>match I b with|some o=>sM o|none=>I.Ak b,λ_=>nO⟩
theorem AB.Sj{I:AB}{b o}(h:I b=sM o):I.CW b=sM o:=by show(match I b with|some o=>sM o|none=>I.Ak b)=sM o;rw[h]
theorem AB.B8.CW{I:AB}{b o}(h:I.B8 b o):I.CW b=sM o:=by show(match I b with|some o=>sM o|none=>I.Ak b)=sM o;rw[h.at_];exact h.Ak
theorem Holds.CW{w I}(h:Holds w I):EJ w I.CW:=by
 intro b o a;have a:(match I b with|some o=>sM o|none=>I.Ak b)=sM o:=a;cases e:I b with
 |some c=>rw[e]at a;cases a;exact h.1 b o e
 |none=>rw[e]at a;exact h.2 b o a
def AB.free(I:AB)(b:Nat):Prop:=I b=nO/\I.Ak b=nO
structure St where
 tm:Nat->SV
 hp:Nat->AU AK
 im:AB
def HJ(a:Nat->AU AK)(k:Nat):Prop:=∃b,a k=sM b/\b.live
structure Bl(w a:AN):Prop where
 os:a.os=w.os
 tape:a.tape=w.tape
 output:a.output=w.output
 size:w.heap.size<=a.heap.size
 block:∀b,b<w.heap.size->a.heap[b]? =w.heap[b]?
theorem Bl.refl(w):Bl w w:=⟨rfl,rfl,rfl,Ag _,λ_ _=>rfl⟩
theorem Bl.at{w d:AN}(h:Bl w d){b:Nat}{o:Obj}(c:w.heap[b]? =sM o):d.heap[b]? =sM o:=by rw[h.block b,c];rcases Jj b w.heap.size with a|a;exact a;rw[Xl a]at c;cases c
theorem Bl.AVH{w a}(h:Bl w a){I}(c:EJ w I):EJ a I:=λb o x=>h.at<|c b o x
theorem Bl.Eo{w c}(h:Bl w c){I}(a:Holds w I):Holds c I:=⟨h.AVH a.1,λb o x=>h.at<|a.2 b o x⟩
theorem Bl.drew(w):Bl w {w with drawn:=w.drawn+1}:=⟨rfl,rfl,rfl,Ag _,λ_ _=>rfl⟩
theorem Eg{w:AN}{b o}(h:w.heap[b]? =sM o):b<w.heap.size:=by rcases Jj b w.heap.size with a|a;exact a;rw[Xl a]at h;cases h
theorem Holds.A2{w g:AN}{I:AB}{p}(h:Holds w I)(d:I.free p)(f:∀b,b<w.heap.size->p≠b->g.heap[b]? =w.heap[b]?):Holds g I:=by constructor;intro b o a;have c:=h.1 b o a;rwa[f b (Eg c) λe=>by rw[<-e,d.1]at a;cases a];intro b o a;have c:=h.2 b o a;rwa[f b (Eg c) λe=>by rw[<-e,d.2]at a;cases a]
theorem IM{I:AB}{b o}{p:Prop}(h:I.Ak b=sM o):(I.Ak b).isSome\/p:=.inl (by rw[h];rfl)
structure Ctx where
 P:B7
 f:Ba
 fn:Func
 I0:AB
 n:Nat
 w0:AN
 ρ0:Nat->Nat
 A:AA Nat
 Rx:AA Deferred
structure KN(c:Ctx)(σ:St)(ρ:Nat->Nat)(w:AN):Prop where
 hp:∀k b o,σ.hp k=sM b->b.AO ρ=sM o->w.heap[ρ k]? =sM o
 inj:∀j k,HJ σ.hp j->HJ σ.hp k->ρ j=ρ k->j=k
 kb:∀k b k',σ.hp k=sM b->k'∈b.A3->(σ.hp k').isSome
 im:Holds w σ.im
 lm:c.I0.Da σ.im
 na:c.A.Nodup
 fs:∀b o,σ.im b=sM o->c.I0 b=sM o\/c.w0.heap.size<=b
 GV:∀b o,σ.im.Ak b=sM o->(c.I0.Ak b).isSome\/c.w0.heap.size<=b
 dj:∀k,HJ σ.hp k->σ.im.free (ρ k)
 ad:∀k∈c.A,ρ k=c.ρ0 k
 nw:∀k,HJ σ.hp k->c.w0.heap.size<=ρ k\/∃k'∈c.A,ρ k=c.ρ0 k'
 fr:∀b,b<c.w0.heap.size->(∀k∈c.A,c.ρ0 k≠b)->c.I0.Ak b=nO->w.heap[b]? =c.w0.heap[b]?
 sz:c.w0.heap.size<=w.heap.size
 os:w.os=c.w0.os
 tape:w.tape=c.w0.tape
 output:w.output=c.w0.output
structure Rel(c:Ctx)(σ:St)(ρ:Nat->Nat)(a:Act)(w:AN):Prop extends KN c σ ρ w where
 size:a.tmps.size=c.n
 nd:a.defers=c.Rx
 tm:∀s,a.tmps.getD s undef=AO ρ (σ.tm s)
 kd:∀s k,k∈(σ.tm s).A3->(σ.hp k).isSome
def ev(a:Nat->SV):Operand->SV
 | .tmp t=>a t
 | .const x=>.v x
 | .global g=>.v<|.pointer<|aP g
 | .func f=>.v<|.func (.func f) #[] #[]
theorem Rel.ev{c d b a w}(h:Rel c d b a w)(x):a.eval x=AO b (AX.ev d.tm x):=by
 cases x with
 |tmp t=>exact h.tm t
 |const x=>rfl
 |global g=>rfl
 |func f=>rfl
def St.put(a:St)(d:AU Tmp)(x:SV):St:=
 match d with
 |some d=>{a with tm:=AV a.tm d x}
 |none=>a
def St.B3(a:St)(k:Nat)(b:AU AK):St:=
 match b with
 |some b=>{a with hp:=AV a.hp k<|sM b}
 |none=>a
theorem Lj(a:St)(d x):(a.put d x).hp=a.hp:=by cases d<;>rfl
theorem AE9(a:St)(d x):(a.put d x).im=a.im:=by cases d<;>rfl
theorem YX(a:St)(k b):(a.B3 k b).tm=a.tm:=by cases b<;>rfl
theorem AHu(a:St)(k b):(a.B3 k b).im=a.im:=by cases b<;>rfl
theorem AFA{a:St}{d x s}(h:d≠sM s):(a.put d x).tm s=a.tm s:=by
 cases d with
 |none=>rfl
 |some d=>exact D3 _ _ λe=>h (by rw[e])
theorem AP4(a:Act)(d x)(h:d<a.tmps.size)(s):(a.put (sM d) x).tmps.getD s undef=if s=d then x else a.tmps.getD s undef:=by simp[Act.put,VD,AOz];by_cases b:s=d;subst b;simp[h];rw[AY λe=>b e.symm,AY b]
def To(n:Nat):AU Tmp->Bool
 |some d=>Nat.blt d n
 |none=>tT
theorem Rel.put{c i g a w}(h:Rel c i g a w){d}(j:To c.n d){x}(l:∀k∈x.A3,(i.hp k).isSome):
 Rel c (i.put d x) g (a.put d<|AO g x) w:=by
 cases d with
 |none=>exact h
 |some d=>
  have f:d<a.tmps.size:=by rw[h.size];simpa[To,TE]using j
  refine{hp:=h.hp,inj:=h.inj,kb:=h.kb,im:=h.im,lm:=h.lm,na:=h.na,fs:=h.fs,GV:=h.GV,dj:=h.dj,ad:=h.ad,nw:=h.nw,fr:=h.fr,sz:=h.sz,os:=h.os,tape:=h.tape,output:=h.output,size:= ?_,nd:=h.nd,tm:= ?_,kd:= ?_};simp[Act.put,h.size];intro s;rw[AP4 a d _ f];by_cases e:s=d;subst e;simp[St.put,Eu];rw[AY e];simp only[St.put];rw[D3 _ _ e];exact h.tm s;intro s k b;simp only[St.put]at b;by_cases e:s=d;subst e;rw[Eu]at b;exact l k b;rw[D3 _ _ e]at b;exact h.kd s k b
theorem KN.grow{c σ ρ w d}(h:KN c σ ρ w)(a:Bl w d):KN c σ ρ d where
 hp k b o hb ho:=a.at<|h.hp k b o hb ho
 inj:=h.inj
 kb:=h.kb
 im:=a.Eo h.im
 lm:=h.lm
 na:=h.na
 fs:=h.fs
 GV:=h.GV
 dj:=h.dj
 ad:=h.ad
 nw:=h.nw
 fr b hb hA hO:=(a.block b<|QA hb h.sz).trans<|h.fr b hb hA hO
 sz:=Ch h.sz a.size
 os:=a.os.trans h.os
 tape:=a.tape.trans h.tape
 output:=a.output.trans h.output
theorem Rel.grow{c e d a w b}(h:Rel c e d a w)(f:Bl w b):Rel c e d a b:=
 {h.toKN.grow f with size:=h.size,nd:=h.nd,tm:=h.tm,kd:=h.kd}
theorem KN.AEo{c:Ctx}{l:St}{ρ}{w C:AN}(h:KN c l ρ w)(F:Bl w C){key q}{b:AK}(s:l.hp key=nO)(D:key∉c.A)(G:w.heap.size<=q)
 (E:C.heap[q]? =b.AO (AV ρ key q)) (y:∀k∈b.A3,k≠key->(l.hp k).isSome):KN c (l.B3 key<|sM b) (AV ρ key q) C:=by
 have B:∀k f,l.hp k=sM f->k≠key:=λk f e x=>by rw[x,s]at e;cases e
 have t:∀k,HJ l.hp k->ρ k<w.heap.size:=λk a=>by obtain⟨f,e,A⟩:=a;obtain⟨o,u⟩:=AK.UI A ρ;exact Eg<|h.hp k f o e u
 have r:∀k f,l.hp k=sM f->f.AO (AV ρ key q)=f.AO ρ:=λk f e=>AK.Ko _ λp m=>by have:=h.kb k f p e m;obtain⟨v,x⟩:=Mz.1 this;exact D3 _ _<|B p v x
 have i:∀k,k≠key->HJ (AV l.hp key<|sM b) k->HJ l.hp k:=λk a ⟨f,e,A⟩=>⟨f,by rwa [D3 _ _ a]at e,A⟩;have g:=h.grow F;refine{hp:= ?_,inj:= ?_,kb:= ?_,im:= ?_,lm:=g.lm,na:=g.na,fs:=g.fs,GV:=g.GV,dj:= ?_,ad:= ?_,nw:= ?_,fr:=g.fr,sz:=g.sz,os:=g.os,tape:=g.tape,output:=g.output};intro k f o e u;simp only[St.B3]at e;by_cases a:k=key;subst a;rw[Eu]at e;cases e;rwa[Eu,E];rw[D3 _ _ a]at e;rw[D3 _ _ a];rw[r k f e]at u;exact g.hp k f o e u;intro j k z a e;simp only[St.B3]at z a;by_cases d:j=key;by_cases n:k=key;rw[d,n];rw[d,Eu,D3 _ _ n]at e;have:=t k<|i k n a;omega;by_cases n:k=key;rw[n,Eu,D3 _ _ d]at e;have:=t j<|i j d z;omega;rw[D3 _ _ d,D3 _ _ n]at e;exact h.inj j k (i j d z) (i k n a) e;intro k f p e m;simp only[St.B3]at e⊢;by_cases d:p=key;rw[d,Eu];rfl;rw[D3 _ _ d];by_cases a:k=key;rw[a,Eu]at e;cases e;exact y p m d;rw[D3 _ _ a]at e;exact h.kb k f p e m;simp only[St.B3];exact g.im;intro k a;simp only[St.B3]at a⊢;by_cases d:k=key;rw[d,Eu];constructor;cases e:l.im q with
 |none=>rfl
 |some o=>have:=Eg<|h.im.1 q o e;omega
 cases e:l.im.Ak q with
 |none=>rfl
 |some o=>have:=Eg<|h.im.2 q o e;omega
 rw[D3 _ _ d];exact h.dj k<|i k d a;intro k a;rw[D3 _ _ λe=>D<|by rwa[<-e]];exact h.ad k a;intro k a;simp only[St.B3]at a;by_cases d:k=key;left;rw[d,Eu];exact Ch h.sz G;rw[D3 _ _ d];exact h.nw k<|i k d a
theorem Rel.AEo{c:Ctx}{σ:St}{ρ:Nat->Nat}{a:Act}{w g:AN}(h:Rel c σ ρ a w)(i:Bl w g){key q:Nat}{b:AK}(d:σ.hp key=nO)(hA:key∉c.A)(j:w.heap.size<=q)
 (hb:g.heap[q]? =b.AO (AV ρ key q)) (f:∀k∈b.A3,k≠key->(σ.hp k).isSome):Rel c (σ.B3 key<|sM b) (AV ρ key q) a g where
 toKN:=h.toKN.AEo i d hA j hb f
 size:=h.size
 nd:=h.nd
 tm s:=by rw[h.tm s,YX];refine Ko _ λk hk=> ?_;have:=h.kd s k hk;rw[D3];intro e;rw[e,d]at this;cases this
 kd s k hk:=by
  rw[YX]at hk;have:=h.kd s k hk;simp only[St.B3];by_cases h1:k=key
  ·rw[h1,Eu];rfl
  ·rwa[D3 _ _ h1]
def Has(w:AN)(b:Nat->Nat)(l:AA<|Nat×AK):Prop:=∀a∈l,∀o,a.2.AO b=sM o->w.heap[b a.1]? =sM o
def LS(P:B7)(o:Bw)(h:Nat->SV)(c:Nat)(g:AA<|Nat×AK)(I:AB)(r:SV)(i:AU AK):Prop:=
 ∀(e:Nat->Nat)(a:Act)(w:AN),(∀x∈o.op.operands,a.eval x=AO e (ev h x))->Has w e g->EJ w I->(∀x∈o.op.operands,c∉(ev h x).A3)->(∀f∈g,c∉f.2.A3/\c≠f.1)->
  match i with
  |none=>∃d,(execOp a.eval o).run P w=.ok (.value<|AO e r) d/\Bl w d
  |some b=>∃d q,(execOp a.eval o).run P w=.ok (.value<|AO (AV e c q) r) d/\Bl w d/\w.heap.size<=q/\d.heap[q]? =b.AO (AV e c q)
def QH(P:B7)(o:Bw)(h:Nat->SV)(c:Nat)(g:AA<|Nat×AK)(I:AB)(r:SV)(i:AU AK):Prop:=
 ∀(e:Nat->Nat)(a:Act)(w:AN),(∀x∈o.op.operands,a.eval x=AO e (ev h x))->Has w e g->Holds w I->(∀x∈o.op.operands,c∉(ev h x).A3)->(∀f∈g,c∉f.2.A3/\c≠f.1)->
  match i with
  |none=>∃d,(execOp a.eval o).run P w=.ok (.value<|AO e r) d/\Bl w d
  |some b=>∃d q,(execOp a.eval o).run P w=.ok (.value<|AO (AV e c q) r) d/\Bl w d/\w.heap.size<=q/\d.heap[q]? =b.AO (AV e c q)
def Ni(d:Bool)(P:B7)(o:Bw)(e:Nat->SV)(a:Nat)(c:AA<|Nat×AK)(I:AB)(r:SV)(b:AU AK):Prop:=match d with
 |true=>LS P o e a c I r b
 |false=>QH P o e a c I r b
theorem QH.ASD{P o e c b d I r nb}(h:QH P o e b d I r nb)(n:∀x∈o.op.operands,ev c x=ev e x):QH P o c b d I r nb:=by intro k a w l f g m i;exact h k a w (λx j=>by grind) f g (λx j=>by grind) i
def Ni.o{d:Bool}{P o e b c I r nb}(h:Ni d P o e b c I r nb):QH P o e b c I r nb:=by
 cases d with
 |false=>exact h
 |true=>exact λj a w f g i=>h j a w f g i.1
def LS.d{d:Bool}{P o e b c I r nb}(h:LS P o e b c I r nb):Ni d P o e b c I r nb:=by
 cases d with
 |true=>exact h
 |false=>exact λj a w f g i=>h j a w f g i.1
structure Ab where
 r:SV
 AV:AA (Nat×AK):=[]
 nb:AA AK:=[]
 J:AB
abbrev zP:=Nat->Ab->Prop
def E8(a k:Nat):Prop:=a<=k/\k<a+8
def CX(a:Nat)(b:AA AK)(k:Nat):AU AK:=match Nat.ble a k with|true=>b[k-a]? |false=>nO
theorem Qw{key nb k}(hl:nb.length<=8)(h: ¬E8 key k):CX key nb k=none:=by grind[CX,E8,Nat.le_of_ble_eq_true,List.getElem?_eq_none]
theorem Wo{a c k b}(h:CX a c k=sM b):∃j,k=a+j/\c[j]? =sM b:=by
 rw[CX]at h;cases e:Nat.ble a k with
 |false=>rw[e]at h;cases h
 |true=>rw[e]at h;exact⟨k-a,by simp_all,h⟩
theorem Nv{key nb j}:CX key nb (key+j)=nb[j]? :=by simp_all[CX,Nat.ble_eq_true_of_le,oG]
def Ab.hp(h:Ab)(a:Nat)(d:Nat->AU AK):Nat->AU AK:=λk=>
 match CX a h.nb k with
 |some b=>sM b
 |none=>h.AV.foldl (λf c=>AX.AV f c.1<|sM c.2) d k
def St.EV(b:St)(d:AU Tmp)(a:Nat)(h:Ab):St:=St.put {tm:=b.tm,hp:=h.hp a b.hp,im:=h.J} d h.r
def Ab.Bh(h:Ab)(b:Nat->Nat)(a:Nat)(q:Nat->Nat):Nat->Nat:=λk=>match CX a h.nb k with|some _=>q (k-a)|none=>b k
structure After(I:AB)(ρ:Nat->Nat)(w a:AN)(key:Nat)(q:Nat->Nat)(h:Ab):Prop where
 os:a.os=w.os
 tape:a.tape=w.tape
 output:a.output=w.output
 size:w.heap.size<=a.heap.size
 A2:∀b,b<w.heap.size->(∀kb∈h.AV,ρ kb.1≠b)->I.Ak b=nO->a.heap[b]? =w.heap[b]?
 AV:Has a (h.Bh ρ key q) h.AV
 nb:∀j b,h.nb[j]? =sM b->a.heap[q j]? =b.AO (h.Bh ρ key q)/\b.live/\(w.heap.size<=q j\/∃kb∈h.AV,kb.2=.gone/\q j=ρ kb.1)
 qi:∀i j,i<lN h.nb->j<lN h.nb->q i=q j->i=j
 H2:Holds a h.J
 fresh:∀b o,h.J b=sM o->I b=sM o\/(w.heap.size<=b/\∀j,j<lN h.nb->b≠q j)
 IX:∀b o,h.J.Ak b=sM o->(I.Ak b).isSome\/(w.heap.size<=b/\∀j,j<lN h.nb->b≠q j)
structure HS(P:B7)(o:Bw)(tm:Nat->SV)(key:Nat)(need:AA (Nat×AK))(I:AB)(d:Ab->Prop)(b:AU (AA PanicEntry)):Prop where
 out:∀(ρ:Nat->Nat)(a:Act)(w:AN),(∀x∈o.op.operands,a.eval x=AO ρ (ev tm x))->Has w ρ need->Holds w I->
  (∀kb∈need,kb.2.live->I.free (ρ kb.1))->(∀x∈need,∀y∈need,x.2.live->y.2.live->ρ x.1=ρ y.1->x.1=y.1)->(∀x∈o.op.operands,∀k∈(ev tm x).A3,¬E8 key k)->(∀kb∈need,(∀k∈kb.2.A3,¬E8 key k)/\¬E8 key kb.1)->
  ∀(next:Act->AN->Prop)(Q:Exit->Act->AN->Prop),
   (b=nO->∀h c q,d h->After I ρ w c key q h->next (a.put o.dst (AO (h.Bh ρ key q) h.r)) c)->
   (∀ch,b=sM ch->∀h c q,d h->After I ρ w c key q h->Q (.panic ch) a c)->o.wp P a w next Q
structure Ab.wf(h:Ab)(I:AB)(key:Nat)(need:AA (Nat×AK))(mk:AA Nat):Prop where
 r:∀k∈h.r.A3,k∈need.map (·.1)++mk\/(CX key h.nb k).isSome
 u:∀kb∈h.AV,kb.1∈need.map (·.1)/\(∀b,(kb.1,b)∈need->b.live)/\∀k∈kb.2.A3,k∈need.map (·.1)++mk\/(CX key h.nb k).isSome
 n:∀b∈h.nb,∀k∈b.A3,k∈need.map (·.1)++mk\/(CX key h.nb k).isSome
 l:lN h.nb<=8
 le:I.Da h.J
 d:(h.AV.map (·.1)).Nodup
def LX:Op->Bool
 | .move _| .assign _| .pick _ _ _| .alloc _| .box _ _| .build _ _| .buildSlice _ _ _| .load _ _| .nilCheck _| .binOp _ _ _ _ _| .unOp _ _ _| .convert _ _ _| .makeInterface _ _| .makeFunc _ _ _| .makeMap _ _
 | .slice _ _ _ _ _| .fieldAddr _ _ _| .field _ _ _| .indexAddr _ _ _| .index _ _ _| .lookup _ _ _ _| .extract _ _=>fF
 | .call c=>match c.callee with| .builtin .len| .builtin .cap| .builtin .min| .builtin .max=>fF|_=>tT
 |_=>tT
def PI(Aj:Ae Bw):Nat->Nat->Nat->Bool
 |0,_,_=>fF
 |n+1,j,i=>match Aj[j]? with
  |none=>fF
  |some o=>o.after.any λe=>Region.binds .any e&&(Nat.beq e.on i||PI Aj n e.on i)
def want(Aj:Ae Bw)(a:Nat->SV)(o:Bw):AU Bool:=
 match o.guard with
 |none=>sM tT
 |some (j,b)=>match(Aj[j]?).bind (·.dst)with
  |none=>sM fF
  |some d=>match a d with
   | .v (vB x)=>sM (match x,b with|true,tT=>tT|false,fF=>tT|_,_=>fF)
   | .v (.tuple _)=>sM fF
   |_=>nO
structure ES where
 Aj:Ae Bw
 Cp:Nat
 drawn:Bool
def ES.key(g:ES)(i:Nat):Nat:=g.Cp+8*i
def ES.V1(g:ES)(j i:Nat):Prop:=PI g.Aj (g.Aj.size+1) j i
def ES.strict(g:ES):Bool:=g.drawn&&g.Aj.any λo=>LX o.op
theorem ES.AcO{g:ES}(a:g.drawn){j:Nat}{o:Bw}(h:g.Aj[j]? =sM o)(b:LX o.op):g.strict:=by grind[ES.strict]
def ES.Za(g:ES)(i:Nat)(b:AA Nat):Prop:=g.drawn->∀k∈b,∀a,E8 (g.key a) k->a=i\/g.V1 i a
def Wp:AU AK->AA Nat
 |some b=>b.A3
 |none=>[]
structure APE(c:Ctx)(g:ES)(i:Nat)(o:Bw)(σ:St)(r:SV)(nb:AU AK)(rd:AA (Nat×AK)):Prop where
 is:(want g.Aj σ.tm o=sM fF/\r=.v undef/\nb=nO/\rd=[])\/(want g.Aj σ.tm o=sM tT/\LX o.op=fF/\Ni g.strict c.P o σ.tm (g.key i) rd σ.im r nb)
 at_:∀kb∈rd,σ.hp kb.1=sM kb.2
 key:g.Za i (rd.map (·.1)++r.A3++Wp nb)
 r:∀k∈r.A3,(σ.hp k).isSome\/(k=g.key i/\nb.isSome)
 n:∀b,nb=sM b->∀k∈b.A3,(σ.hp k).isSome\/k=g.key i
structure APD(c:Ctx)(g:ES)(i:Nat)(o:Bw)(CY:AA (Nat×Nat))(σ:St)(need:AA (Nat×AK))(mk:AA Nat)(b:Ab->Prop)(a:AU (AA PanicEntry)):Prop where
 w:want g.Aj σ.tm o=sM tT
 h:LX o.op
 hs:HS c.P o σ.tm (g.key i) need σ.im b a
 at_:∀kb∈need,σ.hp kb.1=sM kb.2
 UR:∀k∈mk,(σ.hp k).isSome
 key:g.Za i (need.map (·.1)++mk)
 CY:g.drawn->∀d∈CY,∀h,b h->d.2∈h.AV.map (·.1)->g.V1 i d.1
 wf:∀h,b h->h.wf σ.im (g.key i) need mk
def MJ(c:Ctx)(g:ES)(n:AA PanicEntry->St->Prop)(i:Nat)(K:AA (Nat×Nat)->St->Prop)(b:AA<|Nat×Nat)(d:St):Prop:=
 ∃o,g.Aj[i]? =sM o/\To c.n o.dst/\(∀k,E8 (g.key i) k->d.hp k=nO/\k∉c.A)/\
  (
   (∃r l m,APE c g i o d r l m/\K (m.map (λp=>(i,p.1))++b) ((d.B3 (g.key i) l).put o.dst r))\/
   (∃e q f a,APD c g i o b d e q f a/\(a=nO->∀h,f h->K b (d.EV o.dst (g.key i) h))/\(∀j,a=sM j->∀h,f h->n j (d.EV nO (g.key i) h))))
def Kj(c:Ctx)(g:ES)(a:AA PanicEntry->St->Prop)(K:St->Prop):AA Nat->AA (Nat×Nat)->St->Prop
 |[],_,σ=>K σ
 |i::is,CY,σ=>MJ c g a i (Kj c g a K is) CY σ
def MJ.mono{c g m i K l CY b σ}(h:MJ c g m i K CY σ)(s:∀x∈b,x∈CY)
 (z:∀a n σ,(∀x∈n,x∈a)->K a σ->l n σ):MJ c g m i l b σ:=by
 let⟨o,u,v,w,y⟩:=h;refine⟨o,u,v,w,?_⟩;rcases y with⟨r,F,G,E,q⟩|⟨d,C,D,k,p,q,B⟩
 grind
 exact .inr ⟨d,C,D,k,{p with CY:=λA t e=>p.CY A t<|s t e},λf h j=>z _ _ _ s<|q f h j,B⟩
def Kj.mono{c g d K}:∀(is:AA Nat) {b a:AA<|Nat×Nat} {e:St},Kj c g d K is b e->(∀x∈a,x∈b)->Kj c g d K is a e
 |[],_,_,_,h,_=>h
 |i::is,_,_,_,h,hr=>MJ.mono h hr λ_ _ _ j f=>Kj.mono is f j
def ADK{Aj}{o:Bw}{b a}(h:∀s∈o.looksAt Aj,a s=b s):∀x∈o.op.operands,ev a x=ev b x:=by
 intro x c;cases x with
 |tmp t=>
  refine h t ?_;rw[Oper.looksAt];exact GC _<|AGa.2 ⟨.tmp t,by simpa using c,rfl⟩
 |const x=>rfl
 |global g=>rfl
 |func f=>rfl
theorem Sz{Aj o c a}(h:∀s∈o.looksAt Aj,a s=c s):want Aj a o=want Aj c o:=by
 unfold want;cases f:o.guard with
 |none=>rfl
 |some g=>
  let⟨j,b⟩:=g;simp only;cases e:(Aj[j]?).bind (·.dst)with
  |none=>rfl
  |some d=>
   simp only;rw[h d<|by unfold Oper.looksAt;rw[f];simp[e]]
theorem LS.congr{P Aj}{o:Bw}{e c b d}{I J:AB}{r nb}(h:LS P o e b d I r nb)(k:∀s∈o.looksAt Aj,c s=e s)(j:I.Da J):LS P o c b d J r nb:=by intro m a w n f g p i;have q:=ADK k;exact h m a w (λx l=>by grind) f (g.of_le j) (λx l=>by grind) i
def Ni.congr{d:Bool}{P Aj o e b a c I r nb}(h:Ni d P o e a c I r nb)(f:∀s∈o.looksAt Aj,b s=e s):Ni d P o b a c I r nb:=by
 cases d with
 |true=>exact LS.congr (Aj:=Aj) (show LS P o e a c I r nb from h) f<|AB.Hj _
 |false=>exact QH.ASD (show QH P o e a c I r nb from h)<|ADK f
theorem HS.congr{P Aj}{o:Bw}{f e c b I g d}(h:HS P o f c b I g d)(n:∀s∈o.looksAt Aj,e s=f s):HS P o e c b I g d:=by refine⟨?_⟩;intro q a w r i j k l t m;have u:=ADK n;exact h.out q a w (λx p=>by grind) i j k l (λx p=>by grind) m
theorem WG{l:AA<|Nat×AK}{f k}(h:k∉l.map (·.1)):l.foldl (λf a=>AX.AV f a.1<|sM a.2) f k=f k:=by
 induction l generalizing f with
 |nil=>rfl
 |cons x l b=>
  simp_all[D3]
def AJT{l:AA<|Nat×AK}{f k x}(h:k∉l.map (·.1)):l.foldl (λf a=>AX.AV f a.1<|sM a.2) (AX.AV f k x)=AX.AV (l.foldl (λf a=>AX.AV f a.1<|sM a.2) f) k x:=by
 induction l generalizing f with
 |nil=>rfl
 |cons y l b=>
  grind[AF1]
theorem ADt{h:Ab}{a k f x}(d:lN h.nb<=8)(c: ¬E8 a k)(e:k∉h.AV.map (·.1)):h.hp a (AX.AV f k x)=AX.AV (h.hp a f) k x:=by funext n;unfold Ab.hp;by_cases b:n=k;subst b;refine Xo ?_ (Eu _ _ _).symm;simp_all[Qw,AJT,Eu];refine Xo ?_ (D3 _ _ b).symm;simp_all[AJT,D3]
theorem ZP{h:Ab}{a k f}(c:lN h.nb<=8)(b: ¬E8 a k)(d:k∉h.AV.map (·.1)):h.hp a f k=f k:=by grind[Ab.hp,Qw,WG]
def put_comm{a:St}{d e x y}(h:∀t,d=sM t->e≠sM t):(a.put d x).put e y=(a.put e y).put d x:=by
 cases d with
 |none=>rfl
 |some d=>
  cases e with
  |none=>rfl
  |some e=>
   grind[St.put,AF1]
def AE8{a:St}{d x k b}:(a.put d x).B3 k b=(a.B3 k b).put d x:=by cases d<;>cases b<;>rfl
def ARA{c:St}{j k a b}(h:j≠k):(c.B3 j a).B3 k b=(c.B3 k b).B3 j a:=by
 cases a with
 |none=>rfl
 |some a=>
  cases b with
  |none=>rfl
  |some b=>grind[St.B3,AF1]
def ACX{a:St}{k n b}(h:n≠k):(a.B3 k b).hp n=a.hp n:=by
 cases b with
 |none=>rfl
 |some b=>exact D3 _ _ h
def AVO{i:St}{d e x a k b}{h:Ab}(j:∀t,d=sM t->e≠sM t)(n:lN h.nb<=8)(m: ¬E8 a k)(o:k∉h.AV.map (·.1)):
 ((i.B3 k b).put d x).EV e a h=((i.EV e a h).B3 k b).put d x:=by
 have g:∀f:St,f.EV e a h=St.put {tm:=f.tm,hp:=h.hp a f.hp,im:=h.J} e h.r:=λ_=>rfl;rw[g,g,Lj,AE8,put_comm (d:=e) (e:=d) λt l c=>j t c l];congr 1;cases b with
 |none=>cases d<;>rfl
 |some b=>
  cases d with
  |none=>grind[St.put,St.B3,ADt]
  |some d=>grind[St.put,St.B3,ADt]
def swap{c:Ctx}{g:ES}{X i j K CY}{σ:St}(hK:∀a a' σ,(∀x∈a',x∈a)->K a σ->K a' σ)(ad:∀Z σ W,(∀k∈c.A,σ.hp k=W.hp k)->σ.im=W.im->X Z σ->X Z W)(hg:g.drawn)(ah:i≠j)
 (R: ¬g.V1 j i) (hl:∀v,g.Aj[i]? =sM v->LX v.op=fF) (ae:∀v B,g.Aj[i]? =sM v->g.Aj[j]? =sM B->v.apart g.Aj B)
 (h:MJ c g X i (MJ c g X j K) CY σ):MJ c g X j (MJ c g X i K) CY σ:=by
 let⟨v,i1,i2,i3,i5⟩:=h;have hb:∀k,E8 (g.key i) k->¬E8 (g.key j) k:=by grind[E8,ES.key]
 have z:E8 (g.key i) (g.key i):=⟨Ag _,oG⟩;have aa:E8 (g.key j) (g.key j):=⟨Ag _,oG⟩;have af:g.key i≠g.key j:=by unfold ES.key;omega
 rcases i5 with⟨L,u,U,J,B,j1,j2,j3,j5⟩|⟨_,_,_,_,y,_⟩
 case inr=>have:=y.h;grind
 let⟨a1,a2,a3⟩:=Oper.apart_spec<|ae v B i1 j1;have V:∀s∈B.looksAt g.Aj,σ.tm s=((σ.B3 (g.key i) u).put v.dst L).tm s:=by grind[AFA,YX]
 have O:∀k,k≠g.key i->((σ.B3 (g.key i) u).put v.dst L).hp k=σ.hp k:=λk E=>by rw[Lj,ACX E]
 have Q:((σ.B3 (g.key i) u).put v.dst L).im=σ.im:=by rw[AE9,AHu]
 have nk:∀ {ks:AA Nat},g.Za j ks->∀k∈ks,¬E8 (g.key i) k:=λE k d e=>by rcases E hg k d i e with e'|e';exact ah e';exact R e'
 have C:∀k,E8 (g.key j) k->σ.hp k=nO/\k∉c.A:=by grind
 refine⟨B,j1,j2,C,?_⟩;rcases j5 with⟨rj,H,an,Y,E⟩|⟨ac,mk,Φ,am,y,E,hp⟩;left;have G:=nk Y.key;refine⟨rj,H,an,?_,v,i1,i2,?_,.inl ⟨L,u,U,?_,?_⟩⟩;refine{is:= ?_,at_:= ?_,key:=Y.key,r:= ?_,n:= ?_};rcases Y.is with⟨q1,q2⟩|⟨q1,q2,q3⟩
 grind[Sz]
 exact .inr ⟨by grind[Sz],q2,Ni.congr (Q▸q3) V⟩;intro p o;rw[<-O p.1 λe=>G p.1 (by simp only[Bc,BI];exact .inl<|.inl ⟨p,o,rfl⟩)<|by rw[e];exact z];exact Y.at_ p o;intro k d;have N:k≠g.key i:=by grind
 rcases Y.r k d with q|q
 grind
 exact .inr q;intro b F k d;have N:k≠g.key i:=λe=>G k (by rw[F];exact HZ _ d) (by rw[e];exact z);rcases Y.n b F k d with q|q;rw[O k N]at q;exact .inl q;exact .inr q;intro k A;exact⟨by rw[Lj,ACX λe=>hb k A<|by rw[e];exact aa];exact(i3 k A).1,(i3 k A).2⟩;have D:∀s∈v.looksAt g.Aj,((σ.B3 (g.key j) H).put B.dst rj).tm s=σ.tm s:=λs hs=>by rw[AFA λe=>a3 s e hs,YX]
 have lk:∀k,(σ.hp k).isSome->((σ.B3 (g.key j) H).put B.dst rj).hp k=σ.hp k:=λk d=>by rw[Lj,ACX];intro e;rw[e,(C _ aa).1]at d;cases d
 refine{is:= ?_,at_:= ?_,key:=J.key,r:= ?_,n:= ?_};rcases J.is with⟨q1,q2⟩|⟨q1,q2,q3⟩;exact .inl ⟨by rw[Sz D];exact q1,q2⟩;exact .inr ⟨by rw[Sz D];exact q1,q2,by rw[AE9,AHu];exact Ni.congr q3 D⟩;intro p o;have:=J.at_ p o;rw[lk p.1<|by rw[this];rfl];exact this;intro k d;rcases J.r k d with q|q;rw[<-lk k q]at q;exact .inl q;exact .inr q;intro b F k d;rcases J.n b F k d with q|q;rw[<-lk k q]at q;exact .inl q;exact .inr q;have e:(((σ.B3 (g.key j) H).put B.dst rj).B3 (g.key i) u).put v.dst L=((((σ.B3 (g.key i) u).put v.dst L).B3 (g.key j) H).put B.dst rj):=by rw[AE8,AE8,put_comm (d:=B.dst) (e:=v.dst) λt ht hd=>a2 t hd ht,ARA λe=>af e.symm]
 rw[e];refine hK _ _ _ (λx P=> ?_) E;rcases Bc.1 P with P|P;exact HZ _<|GC _ P;rcases Bc.1 P with P|P;exact GC _ P;exact HZ _<|HZ _ P;right;have G:=nk y.key;have ab:∀h,Φ h->∀k,E8 (g.key i) k->k∉h.AV.map (·.1):=λh m k A hm=>by let⟨p,o,e⟩:=BI.1 hm;exact G p.1 (GC _ ((y.wf h m).u p o).1) (by rw[e];exact A)
 have hu:∀h,Φ h->g.key i∉h.AV.map (·.1):=λh m=>ab h m _ z;have al:∀h,Φ h->∀p∈U,p.1∉h.AV.map (·.1):=λh m p o hm=>R<|y.CY hg (i,p.1) (GC _<|BI.2 ⟨p,o,rfl⟩) h m hm;have some_:∀(l:AA<|Nat×AK)(f:Nat->AU AK) k,(f k).isSome->((l.foldl (λf p=>AX.AV f p.1<|sM p.2) f) k).isSome:=by
  intro l;induction l with
  |nil=>exact λf k h=>h
  |cons x l ih=>
   intro f k E;refine ih _ k ?_;show(AX.AV f x.1 (sM x.2) k).isSome;by_cases e:k=x.1;rw[e,Eu];rfl;rw[D3 _ _ e];exact E
 have I:∀(h:Ab)(k:Nat),(σ.hp k).isSome->(h.hp (g.key j) σ.hp k).isSome:=λh k d=>by
  unfold Ab.hp;cases CX (g.key j) h.nb k with
  |some b=>rfl
  |none=>exact some_ _ _ _ d
 refine⟨ac,mk,Φ,am,?_,?_,?_⟩;refine{w:= ?_,h:=y.h,hs:= ?_,at_:= ?_,UR:=λk E=>by rw[<-O k λe=>G k (HZ _ E)<|by rw[e];exact z];exact y.UR k E,key:=y.key,CY:= ?_,wf:= ?_};rw[Sz V];exact y.w;exact(Q▸y.hs).congr V;intro p o;rw[<-O p.1 λe=>G p.1 (GC _<|BI.2 ⟨p,o,rfl⟩)<|by rw[e];exact z];exact y.at_ p o;exact λhd ik ai=>y.CY hd ik<|HZ _ ai;intro h m;have:=y.wf h m;rwa [Q]at this;intro ak h m;have A:=E ak h m;have T:=(y.wf h m).l;have e:((σ.B3 (g.key i) u).put v.dst L).EV B.dst (g.key j) h=((σ.EV B.dst (g.key j) h).B3 (g.key i) u).put v.dst L:=AVO (λt ht=>a2 t ht) T (hb _ z)<|hu h m;rw[e]at A;refine⟨v,i1,i2,?_,.inl ⟨L,u,U,?_,A⟩⟩;intro k M;refine⟨?_,(i3 k M).2⟩;show(St.put _ _ _).hp _=nO;rw[Lj];show h.hp (g.key j) σ.hp k=nO;rw[ZP T (hb k M)<|ab h m k M];exact(i3 k M).1;have D:∀s∈v.looksAt g.Aj,(σ.EV B.dst (g.key j) h).tm s=σ.tm s:=λs hs=>by show(St.put _ _ _).tm s=_;rw[AFA λe=>a3 s e hs]
 have aj:(σ.EV B.dst (g.key j) h).im=h.J:=by show(St.put _ _ _).im=_;rw[AE9]
 have S:(σ.EV B.dst (g.key j) h).hp=h.hp (g.key j) σ.hp:=by show(St.put _ _ _).hp=_;rw[Lj]
 have wf:=y.wf h m;rw[Q]at wf;refine{is:= ?_,at_:= ?_,key:=J.key,r:= ?_,n:= ?_};rcases J.is with⟨q1,q2⟩|⟨q1,q2,q3⟩;exact .inl ⟨by rw[Sz D];exact q1,q2⟩;exact .inr ⟨by rw[Sz D];exact q1,q2,by rw[aj];exact(LS.congr (show LS _ _ _ _ _ _ _ _ from(ES.AcO hg j1 y.h▸q3:Ni tT _ _ _ _ _ _ _ _)) D wf.le).d⟩;intro p o;have:=J.at_ p o;rw[S,ZP T _<|al h m p o];exact this;intro e;rw[(C _ e).1]at this;cases this;intro k d;rcases J.r k d with q|q;rw[S];exact .inl<|I h k q;exact .inr q;intro b F k d;rcases J.n b F k d with q|q;rw[S];exact .inl<|I h k q;exact .inr q;intro Z ag h m;refine ad Z _ _ (λk E=> ?_) ?_<|hp Z ag h m;have N:k≠g.key i:=λe=>(i3 _ z).2 (by rw[<-e];exact E);show(h.hp (g.key j) ((σ.B3 (g.key i) u).put v.dst L).hp) k=(h.hp (g.key j) σ.hp) k;rw[Lj];cases u with
 |none=>rfl
 |some b=>show h.hp (g.key j) (AX.AV σ.hp (g.key i)<|sM b) k=_;rw[ADt (y.wf h m).l (hb _ z)<|hu h m,D3 _ _ N]
 rfl
def Ys(Aj:Ae Bw):Nat->Nat->Nat->Bool
 |0,_,_=>fF
 |n+1,j,i=>match Aj[j]? with
  |none=>fF
  |some o=>(o.after.any λe=>Region.binds .any e&&Nat.beq e.on i)||o.after.any λe=>Region.binds .any e&&Ys Aj n e.on i
def AC4{Aj}:∀ {n j i:Nat},Ys Aj n j i->PI Aj n j i
 |0,_,_,h=>by cases h
 |n+1,j,i,h=>by rw[Ys]at h;rw[PI];split at h;cases h;rename_i o d;simp[KG,Array.any_eq_true,CJ]at h⊢;rcases h with⟨x,c,a,b⟩|⟨x,c,a,b⟩;exact⟨x,c,a,.inl b⟩;exact⟨x,c,a,.inr<|AC4 b⟩
def Q3(Aj:Ae Bw)(i j:Nat):Bool:=
 match Aj[i]?,Aj[j]? with
 |some oi,sM oj=> !(oi.after.any λe=>Region.binds .any e&&Nat.beq e.on j)&&((!LX oi.op&&oi.apart Aj oj)||Ys Aj (Aj.size+1) j i)
 |_,_=>fF
def AAS(Aj:Ae Bw):AA Nat->Bool
 |[]=>tT
 |i::l=> !Nat.beq i Aj.size&&l.all (λj=>Q3 Aj i j&& !Nat.beq i j)&&AAS Aj l
def Closed(Aj:Ae Bw)(listed:Ae Bool):Prop:=∀j o,Aj[j]? =sM o->listed.getD j fF->∀e∈o.after,Region.binds .any e->listed.getD e.on fF
def AIk{Aj listed}(d:Closed Aj listed):∀(n j i:Nat)(o:Bw),Aj[j]? =sM o->(∀e∈o.after,Region.binds .any e->listed.getD e.on fF)->PI Aj n j i->listed.getD i fF
 |0,_,_,_,_,_,h=>by cases h
 |n+1,j,i,o,ho,hl,h=>by
  rw[PI]at h;rw[ho]at h;simp only[Array.any_eq_true']at h;let⟨e,m,h⟩:=h;simp only[CJ,KG]at h;let⟨k,b⟩:=h;have hle:=hl e m k;rcases b with b|b;rwa[<-Ha b];cases a:Aj[e.on]? with
  |none=>cases n<;>simp[PI,a]at b
  |some f=>exact AIk d n e.on i f a (λg c l=>d e.on f a hle g c l) b
def AH9{c g f K}(n:∀w σ m,(∀k∈c.A,σ.hp k=m.hp k)->σ.im=m.im->f w σ->f w m)(x:g.drawn){j p}:∀l e σ,(∀i∈l,Q3 g.Aj i j/\i≠j/\¬g.V1 j i)->Kj c g f K (l++j::p) e σ->Kj c g f K (j::(l++p)) e σ
 |[],_,_,_,h=>h
 |i::l,e,σ,hp,h=>by
  have o:=hp i sP;have y:MJ c g f i (Kj c g f K (j::(l++p))) e σ:=MJ.mono h (λ_ h=>h) λa v C r t=>AH9 n x l v C (λz s=>hp z<|by simp[s])<|Kj.mono _ t r;have b:=o.1;rw[Q3]at b;refine swap (K:=Kj c g f K<|l++p) (λa v σ r t=>Kj.mono _ t r) n x o.2.1 o.2.2 ?_ ?_ y;intro A u;rw[u]at b;cases d:g.Aj[j]? with
  |none=>rw[d]at b;cases b
  |some B=>
   rw[d]at b;simp[CJ,KG]at b;rcases b.2 with q|q;simpa using q.1;exact(o.2.2<|AC4 q).elim
  intro A B u d;rw[u,d]at b;simp[CJ,KG]at b;rcases b.2 with q|q;exact q.2;exact(o.2.2<|AC4 q).elim
theorem AUV{l:AA<|Nat×AK}{f k}(h:(f k).isSome):(l.foldl (λf a=>AX.AV f a.1<|sM a.2) f k).isSome:=by
 induction l generalizing f with
 |nil=>exact h
 |cons x l b=>
  refine b ?_
  grind[AX.AV]
def WE{l:AA<|Nat×AK}{f}{a:Nat×AK}(h:a∈l)(b:(l.map (·.1)).Nodup):l.foldl (λf a=>AX.AV f a.1<|sM a.2) f a.1=sM a.2:=by
 induction l generalizing f with
 |nil=>cases h
 |cons x l c=>
  simp only[E4,GX]at b;simp only[Xq]
  grind[WG,Eu]
theorem Nn{h:Ab}{a k f}(b:(f k).isSome):(h.hp a f k).isSome:=by grind[Ab.hp,CX,AUV]
theorem Qi{h:Ab}{a k f b}(c:CX a h.nb k=sM b):h.hp a f k=sM b:=by rw[Ab.hp];rw[c]
def ADu{h:Ab}{a k f}(c:CX a h.nb k=nO):h.hp a f k=h.AV.foldl (λf b=>AX.AV f b.1<|sM b.2) f k:=by rw[Ab.hp];rw[c]
theorem F7{h:Ab}{b a k q}(c:CX a h.nb k=nO):h.Bh b a q k=b k:=by rw[Ab.Bh];rw[c]
theorem Mm{h:Ab}{ρ key j q b}(a:h.nb[j]? =sM b):h.Bh ρ key q (key+j)=q j:=by grind[Ab.Bh,Nv]
def KN.after{c:Ctx}{σ:St}{ρ w P key q}{h:Ab}{need mk}(R:KN c σ ρ w)(v:∀k,E8 key k->σ.hp k=none/\k∉c.A)(U:∀kb∈need,σ.hp kb.1=some kb.2)(T:∀k∈mk,(σ.hp k).isSome)(wf:h.wf σ.im key need mk)
 (A:After σ.im ρ w P key q h):KN c {tm:=σ.tm,hp:=h.hp key σ.hp,im:=h.J} (h.Bh ρ key q) P:=by
 have F:∀k,HJ σ.hp k->ρ k<w.heap.size:=λk ⟨b',e,hl⟩=>by obtain⟨o,s⟩:=AK.UI hl ρ;exact Eg (R.hp k b' o e s)
 have K:∀k∈need.map (·.1)++mk,(σ.hp k).isSome:=by grind
 have J:∀k,(σ.hp k).isSome->CX key h.nb k=none:=λk hk=>Qw wf.l (λe=>by grind);have d:∀kb∈h.AV,HJ σ.hp kb.1:=λkb a=>by obtain⟨Z,u2,_⟩:=wf.u kb a;obtain⟨x,M,e⟩:=List.mem_map.1 Z;exact⟨x.2,by rw[<-e];exact U x M,u2 x.2 (by rwa[<-e])⟩
 have src:∀k b,CX key h.nb k=none->h.hp key σ.hp k=some b->(∃kb∈h.AV,kb.1=k/\kb.2=b)\/(k∉h.AV.map (·.1)/\σ.hp k=some b):=λk b hk e=>by
  rw[ADu hk]at e;by_cases hm:k∈h.AV.map (·.1);obtain⟨kb,a,rfl⟩:=List.mem_map.1 hm;rw[WE a wf.d]at e
  grind
  grind[WG]
 have lv:∀k,CX key h.nb k=none->HJ (h.hp key σ.hp) k->HJ σ.hp k:=λk hk ⟨b,e,hl⟩=>by rcases src k b hk e with⟨kb,a,rfl,_⟩|⟨_,e'⟩;exact d kb a;exact⟨b,e',hl⟩
 have B:∀b:AK,(∀k∈b.A3,(σ.hp k).isSome)->b.AO (h.Bh ρ key q)=b.AO ρ:=by grind[AK.Ko,F7]
 have g:∀k,CX key h.nb k=none\/∃j b,k=key+j/\h.nb[j]? =some b/\j<h.nb.length:=by grind[CX,Wo,Nat.lt_or_ge,List.getElem?_eq_none]
 have Y:∀j b k,h.nb[j]? =some b->CX key h.nb k=none->HJ (h.hp key σ.hp) k->q j≠ρ k:=λj b k G hk hl e=>by
  have hold:=lv k hk hl;rcases(A.nb j b G).2.2 with l|⟨kb,a,n,l⟩
  grind
  have y:kb.1=k:=R.inj _ _ (d kb a) hold (by rw[<-l,e]);obtain⟨b',e',z⟩:=hl;rcases src k b' hk e' with⟨I,u,L,Q⟩|⟨hm,_⟩;have:I=kb:=by have h1:=WE (f:=σ.hp) u wf.d;have t:=WE (f:=σ.hp) a wf.d;rw[L,<-y,t]at h1;exact Prod.ext (by rw[L,y]) (Option.some.inj h1).symm
  rw[<-Q,this,n]at z;cases z
  grind
 refine{hp:= ?_,inj:= ?_,kb:= ?_,im:=A.H2,lm:=R.lm.trans wf.le,na:=R.na,fs:= ?_,GV:= ?_,dj:= ?_,ad:= ?_,nw:= ?_,fr:= ?_,sz:=Nat.le_trans R.sz A.size,os:=A.os.trans R.os,tape:=A.tape.trans R.tape,output:=A.output.trans R.output};intro k b o e s;have e:h.hp key σ.hp k=some b:=e;rcases g k with hk|⟨j,b',rfl,hj,_⟩;rcases src k b hk e with⟨kb,a,rfl,rfl⟩|⟨hm,e'⟩;exact A.AV kb a o s;rw[F7 hk];rw[B b (λk' i=>R.kb k b k' e' i)]at s;have hl:HJ σ.hp k:=⟨b,e',by cases b with|gone=>cases s|_=>rfl⟩;rw[A.A2 (ρ k) (F k hl) (λkb a S=>hm (List.mem_map.2 ⟨kb,a,R.inj _ _ (d kb a) hl S⟩)) (R.dj k hl).2];exact R.hp k b o e' s;rw[Qi (by rwa[Nv])]at e;cases e;rwa[Mm hj,(A.nb j _ hj).1];intro j k hj hk e;rcases g j with h1|⟨V,b1,rfl,X,W⟩;rcases g k with t|⟨i2,b2,rfl,O,N⟩;rw[F7 h1,F7 t]at e;exact R.inj j k (lv j h1 hj) (lv k t hk) e
 grind[Mm,F7]
 rcases g k with t|⟨i2,b2,rfl,O,N⟩
 grind[Mm,F7]
 rw[Mm X,Mm O]at e;rw[A.qi V i2 W N e];intro k b k' e i;have e:h.hp key σ.hp k=some b:=e;have Bz:(k'∈need.map (·.1)++mk\/(CX key h.nb k').isSome)->(h.hp key σ.hp k').isSome:=by grind[Nn,Option.isSome_iff_exists,Qi]
 rcases g k with hk|⟨j,b',rfl,hj,_⟩;rcases src k b hk e with⟨kb,a,rfl,rfl⟩|⟨hm,e'⟩;exact Bz ((wf.u kb a).2.2 k' i);exact Nn (R.kb k b k' e' i);rw[Qi (by rwa[Nv])]at e;cases e;exact Bz (wf.n b (List.mem_of_getElem? hj) k' i);intro b o hb;rcases A.fresh b o hb with f|⟨m,_⟩;exact R.fs b o f;exact .inr (Nat.le_trans R.sz m);intro b o hb;rcases A.IX b o hb with f|⟨m,_⟩;obtain⟨o',H⟩:=Option.isSome_iff_exists.1 f;exact R.GV b o' H;exact .inr (Nat.le_trans R.sz m);intro k hk;show h.J _=none/\h.J.Ak _=none;constructor;cases p:h.J (h.Bh ρ key q k)with
 |none=>rfl
 |some o=>
  exfalso;rcases g k with h1|⟨j,b,rfl,hj,C⟩;rw[F7 h1]at p;have hold:=lv k h1 hk;rcases A.fresh (ρ k) o p with f|⟨m,_⟩;rw[(R.dj k hold).1]at f;cases f
  grind
  rw[Mm hj]at p;rcases A.fresh (q j) o p with f|⟨_,r⟩;rcases(A.nb j b hj).2.2 with l|⟨kb,a,_,l⟩;have:=Eg (R.im.1 (q j) o f);omega;rw[l,(R.dj _ (d kb a)).1]at f;cases f;exact r j C rfl
 cases p:h.J.Ak (h.Bh ρ key q k)with
 |none=>rfl
 |some o=>
  exfalso;rcases g k with h1|⟨j,b,rfl,hj,C⟩;rw[F7 h1]at p;have hold:=lv k h1 hk;rcases A.IX (ρ k) o p with f|⟨m,_⟩;rw[(R.dj k hold).2]at f;cases f
  grind
  rw[Mm hj]at p;rcases A.IX (q j) o p with f|⟨_,r⟩;obtain⟨o',f⟩:=Option.isSome_iff_exists.1 f;rcases(A.nb j b hj).2.2 with l|⟨kb,a,_,l⟩;have:=Eg (R.im.2 (q j) o' f);omega;rw[l,(R.dj _ (d kb a)).2]at f;cases f;exact r j C rfl
 intro k hk;rw[F7 (Qw wf.l (λe=>(v k e).2 hk))];exact R.ad k hk;intro k hk;rcases g k with h1|⟨j,b,rfl,hj,C⟩;rw[F7 h1];exact R.nw k (lv k h1 hk);rw[Mm hj];rcases(A.nb j b hj).2.2 with l|⟨kb,a,n,l⟩;exact .inl (Nat.le_trans R.sz l);rw[l];exact R.nw kb.1 (d kb a);intro b hb D hO;have E:σ.im.Ak b=none:=by
  cases e:σ.im.Ak b with
  |none=>rfl
  |some o=>
   rcases R.GV b o e with q'|q'
   grind
   omega
 rw[A.A2 b (Nat.lt_of_lt_of_le hb R.sz) (λkb a e=> ?_) E];exact R.fr b hb D hO;rcases R.nw kb.1 (d kb a)with q'|⟨k',i,q'⟩;omega
 grind
def AF6{c k s a w}(R:Rel c k s a w){Aj o}{b:Bool}(h:want Aj k.tm o=sM b):Region.wanted o (yielded Aj a.tmps)=b:=by
 rw[want]at h;rw[Region.wanted];cases n:o.guard with
 |none=>grind
 |some r=>
  let⟨j,l⟩:=r;rw[n]at h;simp only at h⊢;rw[yielded];cases m:(Aj[j]?).bind (·.dst)with
  |none=>grind
  |some d=>
   rw[m]at h;have e:=R.tm d;simp only at h;have f:∀x,a.tmps.getD d undef=x->x≠undef->a.tmps[d]? =sM x:=λx g p=>by
    rw[VD]at g
    grind
   split at h;rename_i x g;rw[g]at e;have:=f _ e (by simp[AO,undef]);simp[Xz,this,AO];cases x<;>cases l<;>(cases h;rfl);rename_i i g;rw[g]at e;cases h;have:(a.tmps[d]?)=nO\/∃i,a.tmps[d]? =sM (.tuple i):=by
    rw[VD]at e;cases q:a.tmps[d]? with
    |none=>exact .inl rfl
    |some y=>rw[q]at e;exact .inr ⟨i,Dt sM<|show y=.tuple i from e⟩
   grind
   cases h
def AMd{c:Ctx}{g:ES}{KP i K CY σ ρ a w Q next}
 (R:Rel c σ ρ a w) (h:MJ c g KP i K CY σ) (D:∀rds' l v N m,K rds' l->Rel c l v N m->next N m) (T:∀ch l v m,KP ch l->KN c l v m->Q (.panic ch) a m):wpOp c.P g.Aj Q i next a w:=by
 obtain⟨o,h1,B,C,S⟩:=h;have kk:E8 (g.key i) (g.key i):=⟨Nat.le_refl _,oG⟩;rw[wpOp];rw[h1];dsimp only;have Tv:∀x∈o.op.operands,∀k∈(ev σ.tm x).A3,¬E8 (g.key i) k:=λx _ k n hk=>by
  cases x with
  |tmp t=>have:=R.kd t _ n;grind
  |const x=>cases n
  |global x=>cases n
  |func x=>cases n
 have z:∀x∈o.op.operands,a.eval x=AO ρ (ev σ.tm x):=λx _=>R.ev x;rcases S with⟨r,nb,rd,hl,hk⟩|⟨need,mk,Φ,Z,hh,hk,hp⟩;rcases hl.is with⟨q1,rfl,rfl,rfl⟩|⟨q1,_,q3⟩;rw[AF6 R q1,if_neg sP];exact D _ _ ρ _ _ hk (R.put B (x:=.v undef) nA);rw[AF6 R q1,if_pos rfl];left;have L:Has w ρ rd:=λkb d o' u=>R.hp kb.1 kb.2 o' (hl.at_ kb d) u;have M:∀kb∈rd,g.key i∉kb.2.A3/\g.key i≠kb.1:=λkb d=>by
  refine⟨λhm=> ?_,λe=> ?_⟩;have:=R.kb kb.1 kb.2 _ (hl.at_ kb d) hm;grind
  have:=hl.at_ kb d;grind
 have:=q3.o ρ a w z L R.im (λx n hm=>Tv x n _ hm kk) M;rw[Oper.wp];cases nb with
 |none=>
  obtain⟨m,e,F⟩:=this;rw[e,Oper.upon_value];refine D _ _ ρ _ _ hk ((R.grow F).put B λk f=> ?_);rcases hl.r k f with q|⟨_,q⟩;exact q;cases q
 |some b=>
  obtain⟨m,q,e,F,U,hb⟩:=this;rw[e,Oper.upon_value];have O:=R.AEo F (key:=g.key i) (q:=q) (b:=b) (C _ kk).1 (C _ kk).2 U hb (λk f H=>(hl.n b rfl k f).resolve_right H);refine D _ _ _ _ _ hk (O.put B λk f=> ?_);simp only[St.B3];rcases hl.r k f with q'|⟨q',_⟩
  grind[D3]
  rw[q',Eu];rfl
 rw[AF6 R hh.w,if_pos rfl];left;have p:Has w ρ need:=λkb d o' u=>R.hp kb.1 kb.2 o' (hh.at_ kb d) u;have I:∀kb∈need,(∀k∈kb.2.A3,¬E8 (g.key i) k)/\¬E8 (g.key i) kb.1:=λkb d=>by
  refine⟨λk hm hk=> ?_,λe=> ?_⟩;have:=R.kb kb.1 kb.2 _ (hh.at_ kb d) hm;grind
  have:=hh.at_ kb d;grind
 refine hh.hs.out ρ a w z p R.im (λkb d hl=>R.dj _ ⟨kb.2,hh.at_ kb d,hl⟩) (λx n y V X Y e=>R.inj _ _ ⟨x.2,hh.at_ x n,X⟩ ⟨y.2,hh.at_ y V,Y⟩ e) Tv I next Q ?_ ?_;intro J h m q j A;have W:=R.toKN.after C hh.at_ hh.UR (hh.wf h j) A;refine D CY _ (h.Bh ρ (g.key i) q) _ _ (hk J h j) ?_;have P:Rel c {tm:=σ.tm,hp:=h.hp (g.key i) σ.hp,im:=h.J} (h.Bh ρ (g.key i) q) a m:=
  {
   W with
   size:=R.size
   nd:=R.nd
   tm:=λs=>by rw[R.tm s];refine Ko _ λk f=>(F7 (Qw (hh.wf h j).l ?_)).symm;intro e;have:=R.kd s k f;grind
   kd:=λs k f=>Nn (R.kd s k f)}
 refine P.put B λk f=> ?_;rcases(hh.wf h j).r k f with hm|hn;rcases List.mem_append.1 hm with hm|hm;obtain⟨kb,d,rfl⟩:=List.mem_map.1 hm;exact Nn (by rw[hh.at_ kb d];rfl);exact Nn (hh.UR k hm)
 grind[Option.isSome_iff_exists,Qi]
 intro ch E h m q j A;exact T ch _ _ _ (hp ch E h j) (R.toKN.after C hh.at_ hh.UR (hh.wf h j) A)
def AJc{l:Ae Bool}{i j}(d:Bool)(h:i<l.size):(l.setIfInBounds i tT).getD j d=if j=i then tT else l.getD j d:=by
 simp only[VD,AOz]
 grind
theorem AEd{Aj listed i}:i∈Region.ready .any Aj listed↔i<Aj.size/\listed.getD i tT=fF/\∃o,Aj[i]? =sM o/\∀e∈o.after,Region.binds .any e->listed.getD e.on fF:=by
 rw[Region.ready]
 grind[Array.all_eq_true']
def AL6{Aj}:∀ {l:AA Nat},AAS Aj l->l.Pairwise (λi j=>Q3 Aj i j/\i≠j)
 |[],_=>.nil
 |i::l,h=>by simp only[AAS,CJ,EQ]at h;refine .cons (λj a=> ?_)<|AL6 h.2;have:=h.1.2 j a;simp only[Jf]at this;exact⟨this.1,λe=>by simp_all⟩
def AQK{c g KP K Q}(I:∀s f b,(∀k∈c.A,f.hp k=b.hp k)->f.im=b.im->KP s f->KP s b)(hg:g.drawn)
 (V:∀f v a w,K f->Rel c f v a w->Q .normal a w) (hP:∀s b m a x,KP s b->KN c b m x->a.defers=c.Rx->Q (.panic s) a x):
 ∀(fuel:Nat)(listed:Ae Bool)(rem:AA Nat)(n:AA<|Nat×Nat)(f:St)(v:Nat->Nat)(a:Act)(w:AN),
  listed.size=g.Aj.size->lN rem<=fuel->(∀i,i∈rem↔i<g.Aj.size/\listed.getD i tT=fF)->rem.Pairwise (λi j=>Q3 g.Aj i j/\i≠j)->(∀i∈rem,∀o,g.Aj[i]? =sM o->∀e∈o.after,Region.binds .any e->e.on<g.Aj.size/\e.on≠i)->
  Closed g.Aj listed->Rel c f v a w->Kj c g KP K rem n f->wpAny c.P .any g.Aj Q fuel listed a w:=by
 have first:∀(listed:Ae Bool)(i:Nat)(l:AA Nat),listed.size=g.Aj.size->(∀j,j∈i::l↔j<g.Aj.size/\listed.getD j tT=fF)->(i::l).Pairwise (λi j=>Q3 g.Aj i j/\i≠j)->
  (∀o,g.Aj[i]? =sM o->∀e∈o.after,Region.binds .any e->e.on<g.Aj.size/\e.on≠i)->i∈Region.ready .any g.Aj listed:=by
  intro listed i l H r B d;let⟨p,Y⟩:=(r i).1 sP;refine AEd.2 ⟨p,Y,g.Aj[i],by simp[p],λe G F=> ?_⟩;let⟨u,P⟩:=d _ (by simp[p]) e G F;cases hq:listed.getD e.on tT with
  |true=>
   grind
  |false=>
   rcases Co.1 ((r e.on).2 ⟨u,hq⟩) with q|q;exact(P q).elim;have:=(List.rel_of_pairwise_cons B q).1;rw[Q3]at this;have h1:g.Aj[i]? =sM g.Aj[i]:=by simp[p]
   have h2:g.Aj[e.on]? =sM g.Aj[e.on]:=by simp[u]
   rw[h1,h2]at this;simp only[CJ,Jf]at this;have U:=this.1;rw[Array.any_eq_false']at U;have h4:=U e G;simp[F]at h4
 intro fuel;induction fuel with
 |zero=>
  intro listed rem n f v a w H X r B d L R h;have:rem=[]:=Ib oG;subst this;refine⟨?_,V f v a w h R⟩;apply List.eq_nil_iff_forall_not_mem.2
  grind[AEd]
 |succ fuel ih=>
  intro listed rem n f v a w H X r B d L R h;refine⟨λh0=> ?_,λj hj=> ?_⟩;cases rem with
  |nil=>exact V f v a w h R
  |cons i l=>
   have:=first listed i l H r B<|d i sP
   grind
  let⟨j1,j2,oj,j3,j4⟩:=AEd.1 hj;have M:=(r j).2 ⟨j1,j2⟩;obtain⟨T,Z,rfl⟩:=List.append_of_mem M;have D:=ABm.1 B;have aa:=G4.1 D.2.1;have F:=AH9 I hg T n f (λi p=>by
   have C:=D.2.2 i p j sP;refine⟨C.1,C.2,λhd=> ?_⟩;have Y:=((r i).1<|by simp[p]).2;have u:=((r i).1<|by simp[p]).1;have:=AIk L _ j i oj j3 j4 hd
   grind) h
  have z:j<listed.size:=oG;have nj:j∉T++Z:=by grind
  refine AMd R F (λE b m a' x N R'=> ?_) λs b m x N W=>hP s b m a x N W R.nd;refine ih (listed.setIfInBounds j tT) (T++Z) E b m a' x (by simpa using H) (by simp at X⊢;omega) (λi=> ?_) ?_ (gR) ?_ R' N;rw[AJc tT z]
  grind
  grind
  intro k ok S t e G J;rw[AJc fF z]at t⊢;by_cases y:e.on=j;rw[Ac y];rw[AY y];by_cases O:k=j
  grind
  rw[AY O]at t;exact L k ok S t e G J
inductive TK where
 |struct (l:AA (Nat×Nat))
 |array (n e:Nat)
 |slice (e:Nat)
 |map (k e:Nat)
 |string
 |int (k:IntKind)
 |other
structure Ty where
 n:Nat
 zero:AA AF
 k:TK
def fieldsOf(P:B7)(a:AA Field):AU (AA<|Nat×Nat):=a.mapM λf=>(P.info? f.type).map λi=>(f.offset,i.size)
def KD(P:B7):TypeDesc->AU TK
 | .struct a=>(fieldsOf P a.toList).map .struct
 | .array n e=>sM<|.array n e
 | .slice e=>sM<|.slice e
 | .map k e=>sM<|.map k e
 | .string=>sM .string
 | .int k=>sM<|.int k
 |_=>sM .other
def TK.agg:TK->Bool
 | .struct _| .array _ _=>tT
 |_=>fF
def AMI:AF->Bool
 | .agg _| .tuple _=>fF
 |_=>tT
def Uz(P:B7)(t:BN):AU Ty:=
 match P.info? t,P.underlying t with
 |some i,sM d=>match i.zero,KD P d with
  |some z,sM k=>match k.agg||AMI z with
   |true=>sM ⟨i.size,z.cells.toList,k⟩
   |false=>nO
  |_,_=>nO
 |_,_=>nO
abbrev Lay:=AA<|Nat×Ty
def Lay.get(L:Lay)(t:Nat):AU Ty:=match L with
 |[]=>nO
 |(u,x)::l=>match Nat.beq t u with|true=>sM x|false=>Lay.get l t
def Ed(P:B7)(L:Lay):Prop:=L.map (λe=>Uz P e.1)=L.map (λe=>sM e.2)
def Ed.get{P}:∀ {L:Lay},Ed P L->∀ {t:Nat} {x:Ty},L.get t=sM x->Uz P t=sM x
 |[],_,_,_,h=>by cases h
 |(u,y)::l,hL,t,x,h=>by
  simp only[Ed,E4,P6]at hL;rw[Lay.get]at h;cases a:Nat.beq t u with
  |true=>rw[a]at h;cases h;rw[Ha a];exact hL.1
  |false=>rw[a]at h;exact Ed.get (L:=l) hL.2 h
def Dg{P t x}(h:Uz P t=sM x):∃i d z,P.info? t=sM i/\P.underlying t=sM d/\i.zero=sM z/\KD P d=sM x.k/\x.n=i.size/\x.zero=z.cells.toList:=by
 rw[Uz]at h;cases b:P.info? t with
 |none=>rw[b]at h;cases h
 |some i=>
  cases e:P.underlying t with
  |none=>rw[b,e]at h;cases h
  |some d=>
   rw[b,e]at h;simp only at h;cases a:i.zero with
   |none=>rw[a]at h;cases h
   |some z=>
    cases c:KD P d with
    |none=>rw[a,c]at h;cases h
    |some k=>
     rw[a,c]at h;simp only at h;split at h;cases h;exact⟨i,d,z,rfl,rfl,a,c,rfl,rfl⟩;cases h
def Ada{P t x}(h:Uz P t=sM x)(e:x.k.agg=fF):∃i z,P.info? t=sM i/\i.zero=sM z/\x.zero=[z]/\AMI z:=by
 rw[Uz]at h;cases b:P.info? t with
 |none=>rw[b]at h;cases h
 |some i=>
  cases f:P.underlying t with
  |none=>rw[b,f]at h;cases h
  |some d=>
   rw[b,f]at h;simp only at h;cases a:i.zero with
   |none=>rw[a]at h;cases h
   |some z=>
    cases g:KD P d with
    |none=>rw[a,g]at h;cases h
    |some k=>
     rw[a,g]at h;simp only at h;split at h;rename_i c;cases h;simp only at e;rw[e,AGI]at c;exact⟨i,z,rfl,a,(by cases z<;>first|rfl|cases c),c⟩;cases h
def RF{P d k}(h:KD P d=sM k):(match d with| .struct _| .array _ _=>tT|_=>fF)=k.agg:=by cases d<;>simp[KD]at h<;>first|(subst h;rfl)|(obtain⟨_,_,rfl⟩:=h;rfl)
def AOA{P d l}(h:KD P d=sM (.struct l)):∃a,d=.struct a/\fieldsOf P a.toList=sM l:=by cases d<;>simp[KD]at h;exact⟨_,rfl,h⟩
def KE{P d e}(h:KD P d=sM (.slice e)):d=.slice e:=by cases d<;>simp[KD]at h;rw[h]
def XY{P d k e}(h:KD P d=sM (.map k e)):d=.map k e:=by cases d<;>simp[KD]at h;rw[h.1,h.2]
def AN9{P d}(h:KD P d=sM .string):d=.string:=by cases d<;>simp[KD]at h;rfl
def AFm{P d k}(h:KD P d=sM (.int k)):d=.int k:=by cases d<;>simp[KD]at h;rw[h]
def SV.cs:SV->AU (AA SV)
 | .g l=>sM l
 | .t _=>nO
 | .v (.agg _)=>nO
 | .v (.tuple _)=>nO
 |x=>sM [x]
def SV.Tf{x l}(h:x.cs=sM l)(a):(AO a x).cells=(BB a l).toArray:=by
 unfold SV.cs at h;split at h;cases h;rfl;cases h;cases h;cases h;cases h;rename_i b c d e;cases x with
 |v x=>cases x<;>first|rfl|exact(d _ rfl).elim|exact(e _ rfl).elim
 |g l=>exact(b _ rfl).elim
 |t l=>exact(c _ rfl).elim
 |_=>rfl
def SV.ACy{x:SV}{l}(h:x.cs=sM l):∀k∈DF l,k∈x.A3:=by unfold SV.cs at h;split at h;cases h;exact λk a=>a;cases h;cases h;cases h;cases h;intro k a;simpa[DF]using a
theorem Ru(c a b):BB c (a++b)=BB c a++BB c b:=by simp[Hw]
theorem Jp(a l):lN (BB a l)=lN l:=by simp[Hw]
def Tj(a l n):BB a (l.take n)=(BB a l).take n:=by simp[Hw]
def Ti(a l n):BB a (l.drop n)=(BB a l).drop n:=by simp[Hw]
theorem Gw(a l):BB a (l.map .v)=l:=by rw[Hw,Gk];exact List.map_id'' (λ_=>rfl) l
def Pb(l:AA AF):DF (l.map .v)=[]:=by
 induction l with
 |nil=>rfl
 |cons x l a=>simp[DF,SV.A3,a]
def AWa(a b):DF (a++b)=DF a++DF b:=by
 induction a with
 |nil=>rfl
 |cons x l c=>simp[DF,c]
def AWb{a b}(h:∀x∈a,x∈b):∀k∈DF a,k∈DF b:=λk c=>by let⟨x,d,c⟩:=Mc.1 c;exact Mc.2 ⟨x,h x d,c⟩
def BX{b:Type}(l:AA b)(a:Nat)(c:AA b):AA b:=l.take a++c++l.drop (a+lN c)
def AJS:∀(d:AA AF)(A:Ae AF)(b j:Nat),b+j+lN d<=A.size->
 (d.zipIdx j).foldl (λa (cj:AF×Nat)=>a.setIfInBounds (b+cj.2) cj.1) A=(BX A.toList (b+j) d).toArray
 |[],A,b,j,_=>by simp[BX,TB]
 |c::d,A,b,j,h=>by simp only[List.zipIdx_cons,Xq];rw[AJS d _ b (j+1)<|by simp at h⊢;omega];congr 1;simp only[BX,Array.toList_setIfInBounds];apply VJ;intro n;simp only[FM]at h;have m:lN A.toList=A.size:=sP;simp only[List.getElem?_append,Cu,ABh,CK,GO,Jg,VL,m,FM,List.getElem?_cons];by_cases g:n<b+j;have e:n<b+(j+1):=oG;simp[g,e,show min (b+j) A.size=b+j by omega,show min (b+(j+1)) A.size=b+(j+1) by omega,show¬b+j=n by omega,show n<b+j+(lN d+1) by omega,show n<b+(j+1)+lN d by omega];by_cases l:n=b+j;subst l;simp[show min (b+j) A.size=b+j by omega,show min (b+(j+1)) A.size=b+(j+1) by omega,show b+j<b+(j+1) by omega,show b+j<A.size by omega,show b+j<b+(j+1)+lN d by omega];have e: ¬n<b+(j+1):=oG;simp only[g,e,show min (b+j) A.size=b+j by omega,show min (b+(j+1)) A.size=b+(j+1) by omega,Hq];by_cases i:n<b+j+(lN d+1);have f:n<b+(j+1)+lN d:=oG;have k: ¬n-(b+j)=0:=oG;simp[i,f,k,show n-(b+j)-1=n-(b+(j+1)) by omega];have f: ¬n<b+(j+1)+lN d:=oG;simp only[i,f,Hq];rw[AY oG];congr 1;omega
def R5(place:Nat->AU (Nat×Nat))(a:AA SV):AA (Nat×SV)->AU (AA SV)
 |[]=>sM a
 |(i,x)::Eh=>
  match place i,x.cs with
  |some (off,size),sM cs=>match Nat.beq (lN cs) size,Nat.ble (off+size) (lN a) with
   |true,tT=>R5 place (BX a off cs) Eh
   |_,_=>nO
  |_,_=>nO
def ADM{place ρ}:∀ {Er:AA<|Nat×SV} {a r:AA SV},R5 place a Er=sM r->Instr.fill place (BB ρ a).toArray (Er.map λp=>(p.1,AO ρ p.2))=sM (BB ρ r).toArray
 |[],a,r,h=>by cases h;rfl
 |(i,x)::Eh,a,r,h=>by
  rw[R5]at h;cases d:place i with
  |none=>rw[d]at h;cases h
  |some m=>
   let⟨b,size⟩:=m;cases e:x.cs with
   |none=>rw[d,e]at h;cases h
   |some c=>
    rw[d,e]at h;simp only at h;split at h;rename_i k l;have f:lN c=size:=Ha k;have n:b+size<=lN a:=LL l;simp only[E4,Instr.fill,d,SV.Tf e];have o:(BB ρ c).toArray.size=size:=by simp[Jp,f]
    rw[AY<|by simp[Jp,f];omega];have:=AJS (BB ρ c) (BB ρ a).toArray b 0 (by simp[Jp];omega);simp only[IB]at this;have g:(BB ρ c).toArray.zipIdx.foldl (λc (x:AF×Nat)=>c.setIfInBounds (b+x.2) x.1) (BB ρ a).toArray=(BX (BB ρ a) b<|BB ρ c).toArray:=by rw[<-Array.foldl_toList];simpa using this
    rw[g];have j:BX (BB ρ a) b (BB ρ c)=BB ρ (BX a b c):=by simp[BX,Ru,Tj,Ti,Jp]
    rw[j];exact ADM h;cases h
def ALJ{b:Type}{l cs:AA b}{a:Nat}{x:b}(h:x∈BX l a cs):x∈l\/x∈cs:=by rw[BX]at h;rcases Bc.1 h with h|h;rcases Bc.1 h with h|h;exact .inl<|Fg h;exact .inr h;exact .inl<|Mx h
def ADN{place}:∀ {Er:AA<|Nat×SV} {a r:AA SV},R5 place a Er=sM r->∀k∈DF r,k∈DF a\/∃p∈Er,k∈p.2.A3
 |[],a,r,h=>by cases h;exact λk e=>.inl e
 |(i,x)::Eh,a,r,h=>by
  rw[R5]at h;cases f:place i with
  |none=>rw[f]at h;cases h
  |some m=>
   obtain⟨l,j⟩:=m;cases d:x.cs with
   |none=>rw[f,d]at h;cases h
   |some n=>
    rw[f,d]at h;simp only at h;split at h;intro k e;rcases ADN h k e with q|⟨p,g,q⟩;obtain⟨y,c,b⟩:=Mc.1 q;rcases ALJ c with c|c;exact .inl<|Mc.2 ⟨y,c,b⟩;exact .inr ⟨(i,x),sP,SV.ACy d k<|Mc.2 ⟨y,c,b⟩⟩;exact .inr ⟨p,DY _ g,q⟩;cases h
def bin(c:BinOp):SV->SV->AU AF
 | .v (.int k a),.v (.int k' b)=>match decide (k=k')with
   |false=>nO
   |true=>match c with
    | .add=>sM<|.int k<|k.wrap<|a+b
    | .sub=>sM<|.int k<|k.wrap<|a-b
    | .mul=>sM<|.int k<|k.wrap<|a*b
    | .eql=>sM<|vB<|a==b
    | .neq=>sM<|vB<|a !=b
    | .lss=>sM<|vB<|a<b
    | .leq=>sM<|vB<|a<=b
    | .gtr=>sM<|vB<|a>b
    | .geq=>sM<|vB<|a≥b
    |_=>nO
 | .v (vS a),.v (vS b)=>match c with
   | .eql=>sM<|vB<|a.toList==b.toList
   | .neq=>sM<|vB<|!(a.toList==b.toList)
   |_=>nO
 |_,_=>nO
def NA(a:Nat->SV):AA Operand->AA SV
 |[]=>[]
 |x::l=>ev a x::NA a l
def R3(a:Nat->SV):AA (Nat×Operand)->AA (Nat×SV)
 |[]=>[]
 |(i,x)::l=>(i,ev a x)::R3 a l
def Y3(a l):NA a l=l.map (ev a):=by
 induction l with
 |nil=>rfl
 |cons x l b=>simp[NA,b]
def Y2(a l):R3 a l=l.map λp=>(p.1,ev a p.2):=by
 induction l with
 |nil=>rfl
 |cons x l b=>let⟨i,x⟩:=x;simp[R3,b]
def V8:AF->AF->AU Bool
 | .int k a,.int k' b=>match decide (k=k')with
   |true=>sM<|a==b
   |false=>nO
 | vS a,vS b=>sM<|a==b
 |_,_=>nO
def Wb:TK->AF->Bool
 | .int k,.int k' _=>decide<|k'=k
 | .string,vS _=>tT
 |_,_=>fF
def UW(a:Bool)(v:SV)(b:Bool):SV:=match a with
 |true=>.t [v,.v<|vB b]
 |false=>v
def OO(a:AF):AA AF->AA SV->AU (AU SV)
 |[],[]=>sM nO
 |k::ks,v::vs=>match V8 a k with
  |some tT=>sM<|sM v
  |some fF=>OO a ks vs
  |none=>nO
 |_,_=>nO
def AKE{P d k a}(c:KD P d=sM k)(h:Wb k a):MapKept.IsKey d a/\∀x r,V8 a x=sM r->Instr.sameNow d a x=sM r:=by unfold Wb at h;split at h;have:=AFm c;subst this;have h:=LO h;refine⟨h,λx r b=> ?_⟩;cases x<;>simp[V8]at b;split at b;rename_i e;simp at b;simp only[Instr.sameNow];rw[Ac<|LO e];simpa using b;cases b;have:=AN9 c;subst this;refine⟨trivial,λx r b=> ?_⟩;cases x<;>simp[V8]at b;simpa[Instr.sameNow]using b;cases h
def AC5{d b}(l:∀x r,V8 b x=sM r->Instr.sameNow d b x=sM r)(g):∀(c:AA AF)(f:AA SV)(n i:Nat)(a:AU SV),OO b c f=sM a->
 (
  match a with
  |some v=>∃j,Instr.findNow d b (Md c (BB g f) n) i=sM (sM (j,AO g v))
  |none=>Instr.findNow d b (Md c (BB g f) n) i=sM nO)
 |[],[],n,i,a,h=>by cases h;rfl
 |k::c,v::f,n,i,a,h=>by simp[OO]at h;split at h;rename_i e;cases h;exact⟨i,by simp[BB,Md,Instr.findNow,l _ _ e]⟩;rename_i e;simp[BB,Md,Instr.findNow,l _ _ e];exact AC5 l g c f (n+1) (i+1) a h;cases h
 |[],_::_,_,_,_,h=>by cases h
 |_::_,[],_,_,_,h=>by cases h
def AIl{c}:∀d b v,OO c d b=sM (sM v)->∀k∈v.A3,k∈DF b
 |[],[],_,h=>by cases h
 |k::d,v::b,x,h=>by simp[OO]at h;intro e a;simp[DF,Bc];split at h;cases h;exact .inl a;exact .inr<|AIl d b x h e a;cases h
 |[],_::_,_,h=>by cases h
 |_::_,[],_,h=>by cases h
def ALO:∀(c d:AA AF)(n:Nat)(k v:AF),lN c=lN d->Md (c++[k]) (d++[v]) n=Md c d n++[{key:=k,val:=v,born:=n+lN c}]
 |[],[],n,k,v,_=>rfl
 |a::c,b::d,n,k,v,h=>by simp[F1,Md,FM];rw[ALO c d (n+1) k v<|by simpa using h,show n+1+lN c=n+(lN c+1) by omega]
def AIm{c}:∀a b,OO c a b=sM nO->lN a=lN b
 |[],[],_=>rfl
 |k::a,v::b,h=>by simp[OO]at h;split at h;cases h;simp[FM];rw[AIm a b h];cases h
 |[],_::_,h=>by cases h
 |_::_,[],h=>by cases h
def Zl(L:Lay)(o:Op)(tm:Nat->SV)(hp:Nat->AU AK)(key:Nat):AU (SV×AU AK×AA (Nat×AK)):=
 match o with
 | .move x| .assign x=>some (ev tm x,none,[])
 | .pick c a b=>match ev tm c with
   | .v (.bool true)=>some (ev tm a,none,[])
   | .v (.bool false)=>some (ev tm b,none,[])
   |_=>none
 | .alloc e=>match L.get e with
   |some ty=>some (.p key 0,some (.cells (ty.zero.map .v) e),[])
   |none=>none
 | .box e x=>match(ev tm x).cs with
   |some cs=>some (.p key 0,some (.cells cs e),[])
   |none=>none
 | .build t Er=>match L.get t with
   |some ⟨_,zero,.struct l⟩=>match R5 (l.toArray[·]?) (zero.map .v) (R3 tm Er.toList)with
    |some r=>some (.g r,none,[])
    |none=>none
   |_=>none
 | .buildSlice t 0 Er=>match L.get t,Er.toList with
   |some ⟨_,_,.slice e⟩,[]=>match L.get e with
    |some _=>some (.s key 0 0 0,some (.As [] e),[])
    |none=>none
   |_,_=>none
 | .buildSlice t len Er=>match L.get t with
   |some ⟨_,_,.slice e⟩=>match L.get e with
    |some ⟨n,zero,_⟩=>match Nat.ble (len*n) (2^24),Nat.beq (len*n) 0 with
     |true,false=>match R5 (λi=>some (i*n,n)) (((Array.range (len*n)).map (zero.toArray[· %zero.toArray.size]!)).toList.map SV.v) (R3 tm Er.toList)with
      |some r=>some (.s key 0 len len,some (.cells r e),[])
      |none=>none
     |_,_=>none
    |none=>none
   |_=>none
 | .load t x=>match ev tm x with
   | .p k off=>match hp k with
     |some (.cells l e)=>match L.get t with
      |some ty=>match ty.k.agg,Nat.ble (off+ty.n) l.length with
       |true,true=>some (.g ((l.drop off).take ty.n),none,[(k,.cells l e)])
       |false,true=>match l[off]? with
        |some y=>some (y,none,[(k,.cells l e)])
        |none=>none
       |_,_=>none
      |none=>none
     |_=>none
   |_=>none
 | .nilCheck x=>match ev tm x with
   | .p k off=>some (.p k off,none,[])
   | .v (.pointer (some a))=>some (.v (.pointer (some a)),none,[])
   | .fn (.func f) a b=>some (.fn (.func f) a b,none,[])
   |_=>none
 | .fieldAddr s x f=>match L.get s with
   |some ⟨_,_,.struct l⟩=>match l[f]?,ev tm x with
    |some (off,size),.p k o=>match Nat.beq size 0 with
     |false=>some (.p k (o+off),none,[])
     |true=>none
    |some (off,size),.v (.pointer (some a))=>match Nat.beq size 0 with
     |false=>some (.v (.pointer (some (a.add off))),none,[])
     |true=>none
    |_,_=>none
   |_=>none
 | .field t x f=>match L.get t with
   |some ⟨_,_,.struct l⟩=>none
   |_=>none
 | .extract x i=>match ev tm x with
   | .t l=>match l[i]? with
     |some y=>some (y,none,[])
     |none=>none
   |_=>none
 | .makeFunc f a b=>some (.fn f (NA tm a.toList) (NA tm b.toList),none,[])
 | .makeMap _ none=>some (.m key,some (.Ey [] []),[])
 | .lookup t x ix ok=>match L.get t,ev tm x,ev tm ix with
   |some ⟨_,_,.map kt et⟩,.m km,.v key=>match hp km,L.get kt,L.get et with
    |some (.Ey ks vs),some tk,some te=>match Wb tk.k key,OO key ks vs with
     |true,some (some r)=>some (UW ok r true,none,[(km,.Ey ks vs)])
     |true,some none=>match te.k.agg,te.zero with
      |false,[z]=>some (UW ok (.v z) false,none,[(km,.Ey ks vs)])
      |_,_=>none
     |_,_=>none
    |_,_,_=>none
   |_,_,_=>none
 | .binOp op _ x y _=>match bin op (ev tm x) (ev tm y)with
   |some r=>some (.v r,none,[])
   |none=>none
 | .unOp .not _ x=>match ev tm x with
   | .v (.bool b)=>some (.v (.bool (!b)),none,[])
   |_=>none
 | .call {callee:=.builtin .len,args:=args,argTypes:=ts}=>match args.toList,ts.toList with
   |[x],[t]=>match L.get t,ev tm x with
    |some ⟨_,_,.slice _⟩,.v (.slice _ n _)=>some (.v (.int .i64 n),none,[])
    |some ⟨_,_,.slice _⟩,.s _ _ n _=>some (.v (.int .i64 n),none,[])
    |some ⟨_,_,.string⟩,.v (.string s)=>some (.v (.int .i64 s.size),none,[])
    |_,_=>none
   |_,_=>none
 | .indexAddr t x ix=>match L.get t with
   |some ⟨_,_,.slice e⟩=>match L.get e,ev tm x,ev tm ix with
    |some ty,.s k off n _,.v (.int _ (.ofNat i))=>match Nat.blt i n with
     |true=>some (.p k (off+i*ty.n),none,[])
     |false=>none
    |_,_,_=>none
   |_=>none
 | .convert s t x=>match L.get s,L.get t,ev tm x with
   |some ⟨_,_,.int _⟩,some ⟨_,_,.int k⟩,.v (.int _ n)=>some (.v (.int k (k.wrap n)),none,[])
   |_,_,_=>none
 |_=>none
def GZ(o:Bw)(f:Nat->SV)(a:Nat)(e:AA<|Nat×AK)(d:AU AK)(c:AA Nat):Prop:=
 ∀k∈c,(∃x∈o.op.operands,k∈(ev f x).A3)\/(∃b∈e,k∈b.2.A3)\/(k=a/\d.isSome)
structure TO(P:B7)(o:Bw)(tm:Nat->SV)(hp:Nat->AU AK)(key:Nat)(I:AB)(r:SV)(nb:AU AK)(rd:AA (Nat×AK)):Prop where
 ls:LS P o tm key rd I r nb
 at_:∀kb∈rd,hp kb.1=sM kb.2
 kr:GZ o tm key rd nb r.A3
 kn:GZ o tm key rd nb (Wp nb)
 h:LX o.op=fF
def GZ.operand{o b a f e x}(d:x∈o.op.operands):GZ o b a f e (ev b x).A3:=λ_ c=>.inl ⟨x,d,c⟩
theorem GZ.nil{o e a d c}:GZ o e a d c []:=λ_ b=>by cases b
def YP(P w b):(newObj b).run P w=.ok w.heap.size {w with heap:=w.heap.push b}:=rfl
def ADm(w b):Bl w {w with heap:=w.heap.push b}:=
 ⟨rfl,rfl,rfl,sP,λk a=>by show(w.heap.push b)[k]? =_;rw[VF,AY oG]⟩
def SY(w:AN)(b):({w with heap:=w.heap.push b}:AN).heap[w.heap.size]? =sM b:=sP
def TO.pure{P o e h b I r}(g:LX o.op=fF)
 (i:∀(c:Nat->Nat)(a:Act)(w:AN),(∀x∈o.op.operands,a.eval x=AO c (ev e x))->(execOp a.eval o).run P w=.ok (.value<|AO c r) w) (d:GZ o e b [] nO r.A3):TO P o e h b I r nO []:=
 ⟨λc a w f _ _ _ _=>⟨w,i c a w f,Bl.refl w⟩,nA,d,GZ.nil,g⟩
def TO.new{P o tm hp key I r b}(hh:LX o.op=fF)
 (g:∀(ρ:Nat->Nat)(a:Act)(w:AN),(∀x∈o.op.operands,a.eval x=AO (AV ρ key w.heap.size) (ev tm x))->∃ob,b.AO (AV ρ key w.heap.size)=sM ob/\(execOp a.eval o).run P w=.ok (.value<|AO (AV ρ key w.heap.size) r) {w with heap:=w.heap.push ob})
 (hk:r.A3=[key]) (hb:∀k∈b.A3,∃x∈o.op.operands,k∈(ev tm x).A3):TO P o tm hp key I r (sM b) [] where
 ls ρ a w he _ _ hf _:=by
  let⟨ob,h1,f⟩:=g ρ a w (λx d=>by rw[he x d];exact Ko _ λk c=>(D3 _ _ λe=>hf x d<|by rwa[<-e]).symm)
  exact⟨_,w.heap.size,f,ADm w ob,Ag _,by rw[h1];exact SY w ob⟩
 at_ _ hk:=by cases hk
 kr k c:=by rw[hk]at c;exact .inr<|.inr ⟨A9.1 c,rfl⟩
 kn k c:=.inl<|hb k c
 h:=hh
def AER{P L}(T:Ed P L){o tm O ac I r nb rd}
 (h:Zl L o.op tm O ac=sM (r,nb,rd)):TO P o tm O ac I r nb rd:=by
 unfold Zl at h;split at h;rename_i x u;cases h;have D:x∈o.op.operands:=xO
 exact .pure (by rw[u];rfl) (λC a w B=>by simp[execOp,u,B x D])<|GZ.operand D;rename_i x u;cases h;have D:x∈o.op.operands:=xO
 exact .pure (by rw[u];rfl) (λC a w B=>by simp[execOp,u,B x D])<|GZ.operand D;rename_i c x y u;have a1:c∈o.op.operands:=xO
 have D:x∈o.op.operands:=xO
 have X:y∈o.op.operands:=xO
 split at h;rename_i hc;cases h;exact .pure (by rw[u];rfl) (λC a w B=>by have K:=B c a1;rw[hc]at K;simp[execOp,u,K,AO,asBool,B x D])<|GZ.operand D
 rename_i hc;cases h;exact .pure (by rw[u];rfl) (λC a w B=>by have K:=B c a1;rw[hc]at K;simp[execOp,u,K,AO,asBool,B y X])<|GZ.operand X
 cases h;rename_i e u;split at h;rename_i ty E;cases h;let⟨i,d,z,U,S,Y,F,hn,hzero⟩:=Dg<|T.get E;refine .new (by rw[u];rfl) (λC a w B=>⟨.cells z.cells e (0,0),by simp[AK.AO,Gw,hzero],?_⟩) rfl (λk F=>by simp[AK.A3,Pb]at F);simp[execOp,u,Instr.alloc,zeroValue,typeInfo,U,Y,newVar,newRow,YP,AO,Eu];cases h;rename_i e x u;have D:x∈o.op.operands:=xO
 split at h;rename_i cs a2;cases h;refine .new (by rw[u];rfl) (λC a w B=>⟨.cells (BB (AV C ac w.heap.size) cs).toArray e (0,0),rfl,?_⟩) rfl λk F=>⟨x,D,SV.ACy a2 k F⟩;simp[execOp,u,Instr.box,newVar,newRow,YP,AO,Eu,B x D,SV.Tf a2];cases h;rename_i t Er u;split at h;rename_i n zero l E;split at h;rename_i r' hr;cases h;let⟨i,d,z,U,S,Y,F,hn,hzero⟩:=Dg<|T.get E;obtain⟨fs,rfl,au⟩:=AOA F;have ai:∀p∈Er.toList,p.2∈o.op.operands:=λp O=>by simp[u,Op.operands];exact⟨p.1,by simpa using O⟩
 refine .pure (by rw[u];rfl) (λC a w B=> ?_) λk F=> ?_;have V:=ADM (ρ:=C) hr;rw[Gw]at V;have e1:(R3 tm Er.toList).map (λp=>(p.1,AO C p.2))=(Er.map λx=>(x.1,a.eval x.2)).toList:=by rw[Y2,Gk,VG];exact JD λp O=>by simp[B p.2<|ai p O]
 rw[e1]at V;have W:P.built t (Er.map λx=>(x.1,a.eval x.2)).toList=sM (BB C r').toArray:=by unfold Program.built;rw[U,S];simp only[Y];have:fs.toList.mapM (λf=>(P.info? f.type).map λi=>(f.offset,i.size))=sM l:=au;rw[this];simp only;simp only at hzero;rw[<-V,hzero]
 have:=run_build (P:=P) w t _ _ W;simp only[execOp,u,Sem.run_bind,AO];rw[show(Er.map λx=>match x with|(i,x)=>(i,a.eval x))=Er.map λx=>(x.1,a.eval x.2)from rfl,this];rfl;rcases ADN hr k F with q|⟨p,O,q⟩;simp[Pb]at q;rw[Y2]at O;obtain⟨p',aw,rfl⟩:=BI.1 O;exact .inl ⟨p'.2,ai p' aw,q⟩;cases h;cases h;rename_i t Er u;split at h;rename_i n0 J e E bu;split at h;rename_i ty ak;cases h;let⟨i,d,z,U,S,Y,F,hn,hzero⟩:=Dg<|T.get E;let⟨ie,de,ze,ag,a4,ay,a8,aa,Q⟩:=Dg<|T.get ak;have M:=KE F;subst M;have bt:Er=#[]:=Lu.1 bu;refine .new (by rw[u];rfl) (λC a w B=>⟨_,rfl,?_⟩) rfl nA;have bv:Array.range 0=#[]:=rfl;simp[execOp,u,Instr.buildSlice,run_underlying S,sizeOf,typeInfo,ag,bt,Instr.fill,newRow,YP,AO,Eu,BB,bv];cases h;cases h;rename_i t len Er hlen u;split at h;rename_i n0 J e E;split at h;rename_i n zero k0 ak;split at h;rename_i bj a0;split at h;rename_i r' hr;cases h;let⟨i,d,z,U,S,Y,F,hn,hzero⟩:=Dg<|T.get E;let⟨ie,de,ze,ag,a4,ay,a8,aa,Q⟩:=Dg<|T.get ak;have M:=KE F;subst M;have ai:∀p∈Er.toList,p.2∈o.op.operands:=λp O=>by simp[u,Op.operands];exact⟨p.1,by simpa using O⟩
 refine .new (by rw[u];rfl) (λC a w B=>⟨_,rfl,?_⟩) rfl λk F=> ?_;have V:=ADM (ρ:=AV C ac w.heap.size) hr;rw[Gw]at V;have e1:(R3 tm Er.toList).map (λp=>(p.1,AO (AV C ac w.heap.size) p.2))=(Er.map λx=>(x.1,a.eval x.2)).toList:=by rw[Y2,Gk,VG];exact JD λp O=>by simp[B p.2<|ai p O]
 simp only at aa Q;rw[e1,Array.toArray_toList,Q,Array.toArray_toList,aa]at V;have K: ¬len*ie.size>2^24:=by have:=LL bj;rw[aa]at this;omega
 have Z: ¬len*ie.size=0:=by intro e0;rw[aa,e0]at a0;simp at a0
 have:=run_buildSlice (P:=P) w t e len _ _ ie ze S ag ay K Z V;simp only[execOp,u,Sem.run_bind,AO,Eu];rw[show(Er.map λx=>match x with|(i,x)=>(i,a.eval x))=Er.map λx=>(x.1,a.eval x.2)from rfl,this];rfl;rcases ADN hr k F with q|⟨p,O,q⟩;rw[Pb]at q;cases q;rw[Y2]at O;obtain⟨p',aw,rfl⟩:=BI.1 O;exact⟨p'.2,ai p' aw,q⟩;cases h;cases h;cases h;cases h;rename_i t x u;have D:x∈o.op.operands:=xO
 split at h;rename_i k H A;split at h;rename_i l e am;split at h;rename_i ty E;let⟨i,d,z,U,S,Y,F,hn,hzero⟩:=Dg<|T.get E;have cellAt:∀(C:Nat->Nat)(w:AN),Has w C [(k,.cells l e)]->∀j,w.cell? ⟨C k,j,nO⟩=(BB C l)[j]? :=λC w hh j=>by have:=hh (k,.cells l e) sP _ rfl;simp only at this;simp[World.cell?,this]
 split at h;rename_i ae hle;cases h;refine⟨λC a w B hh _ _ _=>⟨w,?_,Bl.refl w⟩,λkb R=> ?_,λk' N=> ?_,GZ.nil,by rw[u];rfl⟩;have hc:w.rangeAt (C k) H ((BB C l).drop H |>.take ty.n):=λj v hv=>by rw[cellAt C w hh];rw[GO]at hv;split at hv;rw[Jg]at hv;exact hv;cases hv
 have M:d.isRow:=by rw[<-RF F]at ae;cases d<;>simp_all[TypeDesc.isRow]
 have bx:=LL hle;have:=run_loadVar_mid (P:=P) w (C k) H t _ d hc S M (by rw[U];simp[Jp,hn];rw[<-hn];omega);simp only[execOp,u,Sem.run_bind,B x D,A,AO,Instr.loadAt,Instr.sureAddr,Sem.run_pure,Result.andThen_ok,this];simp[Tj,Ti];simp at R;subst R;exact am;exact .inr<|.inl ⟨(k,.cells l e),sP,AWb (λy X=>Mx<|Fg X) k' N⟩;rename_i ae hle;split at h;rename_i y X;cases h;refine⟨λC a w B hh _ _ _=>⟨w,?_,Bl.refl w⟩,λkb R=> ?_,λk' N=> ?_,GZ.nil,by rw[u];rfl⟩;have bi:(isAgg t).run P w=.ok fF w:=by have K:=RF F;rw[ae]at K;simp only[isAgg,Sem.run_bind,run_underlying S,Result.andThen_ok];cases d<;>simp_all
 have aq:w.cell? ⟨C k,H,nO⟩=sM (AO C r):=by rw[cellAt C w hh,Hw,GB,X];rfl
 simp only[execOp,u,Sem.run_bind,B x D,A,AO,Instr.loadAt,Instr.sureAddr,Sem.run_pure,Result.andThen_ok,loadVar,bi];simp[load,Sem.run,aq];simp at R;subst R;exact am;exact .inr<|.inl ⟨(k,.cells l e),sP,Mc.2 ⟨r,De X,N⟩⟩;cases h;cases h;cases h;cases h;cases h;rename_i x u;have D:x∈o.op.operands:=xO
 split at h;rename_i A;cases h;exact .pure (by rw[u];rfl) (λC a w B=>by simp[execOp,u,B x D,A,AO]) (by rw[<-A];exact GZ.operand D);rename_i A;cases h;exact .pure (by rw[u];rfl) (λC a w B=>by simp[execOp,u,B x D,A,AO]) (by rw[<-A];exact GZ.operand D);rename_i A;cases h;exact .pure (by rw[u];rfl) (λC a w B=>by simp[execOp,u,B x D,A,AO]) (by rw[<-A];exact GZ.operand D);cases h;rename_i s x f u;have D:x∈o.op.operands:=xO
 split at h;rename_i n0 J l E;let⟨i,d,z,U,S,Y,F,hn,hzero⟩:=Dg<|T.get E;obtain⟨fs,rfl,au⟩:=AOA F;have az:∀H G,l[f]? =sM (H,G)->G≠0->∃fd,fs[f]? =sM fd/\fd.offset=H/\∀w,(sizeOf fd.type).run P w=.ok G w:=by
  intro H G V _;have aux:∀(gs:AA Field)(l:AA<|Nat×Nat)(n:Nat),fieldsOf P gs=sM l->l[n]? =sM (H,G)->∃fd,gs[n]? =sM fd/\fd.offset=H/\∀w,(sizeOf fd.type).run P w=.ok G w:=by
   intro gs;induction gs with
   |nil=>intro l n K Z;simp[fieldsOf]at K;subst K;simp at Z
   |cons g gs ih=>
    intro l n K Z;simp only[fieldsOf,List.mapM_cons,Option.bind_eq_bind,Option.pure_def]at K;cases U:P.info? g.type with
    |none=>simp[U]at K
    |some i=>
     cases hr:gs.mapM (λf=>(P.info? f.type).map λi=>(f.offset,i.size))with
     |none=>simp[U,hr]at K
     |some Eh=>
      simp[U,hr]at K;subst K;cases n with
      |zero=>simp at Z;exact⟨g,rfl,Z.1,λw=>by simp[sizeOf,typeInfo,U,Z.2]⟩
      |succ n=>simp at Z;simpa using ih Eh n hr Z
  let⟨fd,K,Z⟩:=aux fs.toList l f au V;exact⟨fd,by simpa using K,Z⟩
 split at h;rename_i H G k o' V A;split at h;rename_i hs;cases h;have aj:G≠0:=λe=>by rw[e]at hs;simp at hs
 let⟨fd,K,Z,h3⟩:=az H G V aj;refine .pure (by rw[u];rfl) (λC a w B=> ?_) (λk' N=>.inl ⟨x,D,by rw[A];exact N⟩);simp only[execOp,u,Sem.run_bind,Instr.fieldAt,run_underlying S,Result.andThen_ok,K,B x D,A,AO,Instr.sureAddr,Sem.run_pure,fieldPlace,h3,aj,Hq,Z,Addr.add_mid];cases h;rename_i H G ad V A;split at h;rename_i hs;cases h;have aj:G≠0:=λe=>by rw[e]at hs;simp at hs
 let⟨fd,K,Z,h3⟩:=az H G V aj;refine .pure (by rw[u];rfl) (λC a w B=> ?_) GZ.nil;simp only[execOp,u,Sem.run_bind,Instr.fieldAt,run_underlying S,Result.andThen_ok,K,B x D,A,AO,Instr.sureAddr,Sem.run_pure,fieldPlace,h3,aj,Hq,Z];cases h;cases h;cases h;split at h<;>cases h;rename_i x i u;have D:x∈o.op.operands:=xO
 split at h;rename_i l A;split at h;rename_i y X;cases h;refine .pure (by rw[u];rfl) (λC a w B=> ?_) (λk' N=>.inl ⟨x,D,by rw[A];exact Mc.2 ⟨r,De X,N⟩⟩);simp[execOp,u,B x D,A,AO,Instr.extract,Hw,X];cases h;cases h;rename_i f xs ys u;cases h;refine .pure (by rw[u];rfl) (λC a w B=> ?_) λk' N=> ?_;have e1:xs.map a.eval=(BB C<|NA tm xs.toList).toArray:=by apply Lu.1;rw[VG,Hw,Y3,Gk];exact JD λp O=>B p (by simp[u,Op.operands];exact .inl<|by simpa using O)
 have e2:ys.map a.eval=(BB C<|NA tm ys.toList).toArray:=by apply Lu.1;rw[VG,Hw,Y3,Gk];exact JD λp O=>B p (by simp[u,Op.operands];exact .inr<|by simpa using O)
 simp[execOp,u,Instr.makeFunc,AO,e1,e2];simp only[SV.A3,Bc]at N;rcases N with q|q<;>(let⟨y,X,ba⟩:=Mc.1 q;rw[Y3]at X;obtain⟨p,O,rfl⟩:=BI.1 X);exact .inl ⟨p,by simp[u,Op.operands];exact .inl<|by simpa using O,ba⟩;exact .inl ⟨p,by simp[u,Op.operands];exact .inr<|by simpa using O,ba⟩;rename_i t u;cases h;refine .new (by rw[u];rfl) (λC a w B=>⟨_,rfl,?_⟩) rfl nA;simp[execOp,u,Instr.makeMap,YP,AO,Eu];rfl;rename_i t x ix ok u;have D:x∈o.op.operands:=xO
 have av:ix∈o.op.operands:=xO
 split at h;rename_i n0 z0 kt et km kv E A a6;split at h;rename_i ks vs tk te am br bm;let⟨i0,d0,b6,bz,a3,b4,bn,b1,bf⟩:=Dg<|T.get E;let⟨i1,d1,b7,b0,al,b5,bo,b2,bg⟩:=Dg<|T.get br;have:=XY bn;subst this;have core:∀(v:SV)(b:Bool)(a:AU SV),Wb tk.k kv->OO kv ks vs=sM a->(match a with|some x=>v=x/\b=tT|none=>b=fF/\v.A3=[]/\∃z,(∀w,(zeroValue et).run P w=.ok z w)/\v=.v z)->
  TO P o tm O ac I (UW ok v b) nO [(km,.Ey ks vs)]:=by
  intro v b a R ab hr;let⟨ao,ax⟩:=AKE bo R;have ah:∀k∈v.A3,k∈DF vs:=by
   cases a with
   |some x=>obtain⟨rfl,_⟩:=hr;exact AIl ks vs v ab
   |none=>rw[hr.2.1];intro k F;cases F
  refine⟨λC a' w B hh _ _ _=>⟨w,?_,Bl.refl w⟩,λkb an=>by simp at an;subst an;exact am,λk F=>.inr<|.inl ⟨_,A9.2 rfl,?_⟩,GZ.nil,by rw[u];rfl⟩;have W:=hh (km,.Ey ks vs) sP _ rfl;have e1:=B x D;have e2:=B ix av;rw[A]at e1;rw[a6]at e2;simp only[AO]at e1 e2;have af:=AC5 ax C ks vs 0 0 a ab;cases a with
  |some y=>
   obtain⟨rfl,rfl⟩:=hr;let⟨j,hj⟩:=af;have V:=MapKept.run_findKey (P:=P) (w:=w) al hj;cases ok<;>simp[execOp,u,e1,e2,Instr.lookup,run_underlying a3,MapKept.run_getObj_map W,MapKept.run_checkKey al ao,V,Result.andThen,AO,BB,UW]
  |none=>
   obtain⟨rfl,_,z,Y,rfl⟩:=hr;cases ok<;>simp[execOp,u,e1,e2,Instr.lookup,run_underlying a3,MapKept.run_getObj_map W,MapKept.run_checkKey al ao,MapKept.run_findKey (P:=P) (w:=w) al af,Y,Result.andThen,AO,BB,UW]
  show k∈DF vs;cases ok with
  |true=>
   simp only[UW,SV.A3,DF,Hn]at F;exact ah k F
  |false=>exact ah k F
 split at h;rename_i r R ab;cases h;exact core r tT (sM r) R ab ⟨rfl,rfl⟩;rename_i R ab;split at h;rename_i z ha Y;cases h;let⟨i2,z2,a7,be,a5,_⟩:=Ada (T.get bm) ha;have:z=z2:=by rw[Y]at a5;simpa using a5
 subst this;have:=core (.v z) fF nO R ab ⟨rfl,rfl,z,λw=>by simp[zeroValue,typeInfo,a7,be,Result.andThen],rfl⟩;exact this;cases h;cases h;cases h;cases h
 .rename_i op t x y t' u;have D:x∈o.op.operands:=xO
  have X:y∈o.op.operands:=xO
  split at h
  .rename_i v W;cases h;refine .pure (by rw[u];rfl) (λC a w B=> ?_) GZ.nil;unfold bin at W;split at W
   .rename_i k m k' m' hex ar;split at W;cases W
    .rename_i bq;have a9:k=k':=by simpa using bq
     subst a9;have K:(eqGuard op t x y (.int k m)<|.int k m').run P w=.ok () w:=by cases op<;>rfl
     simp only[execOp,u,Sem.run_bind,B x D,B y X,hex,ar,AO,K,Result.andThen_ok];split at W<;>first|(cases W;done)|(cases W;simp[binOp,Op.intArith,Op.intCmp];done)
   .rename_i m m' hex ar;have K:(eqGuard op t x y (vS m)<|vS m').run P w=.ok () w:=by cases op<;>rfl
    simp only[execOp,u,Sem.run_bind,B x D,B y X,hex,ar,AO,K,Result.andThen_ok];split at W<;>first|(cases W;done)|(cases W;simp[binOp,Op.stringOp];done)
   cases W
  cases h
 rename_i t x u;have D:x∈o.op.operands:=xO
 split at h;rename_i b A;cases h;exact .pure (by rw[u];rfl) (λC a w B=>by simp[execOp,u,B x D,A,AO,Op.unary]) GZ.nil;cases h;rename_i args ts u;split at h;rename_i x t bd bw;have D:x∈o.op.operands:=by
  have:x∈args:=by rw[<-Array.mem_toList_iff,bd];simp
  simp[u,Op.operands,Call.operands,this]
 have ap:args=#[x]:=Lu.1 (by rw[bd]);have bc:ts=#[t]:=Lu.1 (by rw[bw]);have run:∀(a:Act)(w:AN)(v:AF),(Builtin.len_ #[t] o.type #[a.eval x]).run P w=.ok v w->(execOp a.eval o).run P w=.ok (.value v) w:=λa w v hv=>by simp only[execOp,u,resolve,ap,bc,Sem.run_bind,Sem.run_pure,Result.andThen_ok,invoke,builtin];simp[hv]
 split at h;rename_i n0 J e a' n' c' E A;cases h;let⟨i,d,z,U,S,Y,F,hn,hzero⟩:=Dg<|T.get E;have M:=KE F;subst M;refine .pure (by rw[u];rfl) (λC a w B=>run a w _ ?_) GZ.nil;simp[Builtin.len_,run_underlying S,B x D,A,AO,goInt];rename_i n0 J e a' o' n' c' E A;cases h;let⟨i,d,z,U,S,Y,F,hn,hzero⟩:=Dg<|T.get E;have M:=KE F;subst M;refine .pure (by rw[u];rfl) (λC a w B=>run a w _ ?_) GZ.nil;simp[Builtin.len_,run_underlying S,B x D,A,AO,goInt];rename_i n0 J s E A;cases h;let⟨i,d,z,U,S,Y,F,hn,hzero⟩:=Dg<|T.get E;have M:=AN9 F;subst M;refine .pure (by rw[u];rfl) (λC a w B=>run a w _ ?_) GZ.nil;simp[Builtin.len_,run_underlying S,B x D,A,AO,goInt];cases h;cases h;rename_i t x ix u;have D:x∈o.op.operands:=xO
 have av:ix∈o.op.operands:=xO
 split at h;rename_i n0 J e E;split at h;rename_i ty k H n c kk i' ak A bl;split at h;rename_i bs;cases h;let⟨i,d,z,U,S,Y,F,hn,hzero⟩:=Dg<|T.get E;let⟨ie,de,ze,ag,a4,ay,a8,aa,Q⟩:=Dg<|T.get ak;have M:=KE F;subst M;have bb:i'<n:=by simpa[TE]using bs
 refine .pure (by rw[u];rfl) (λC a w B=> ?_) (λk' N=>.inl ⟨x,D,by rw[A];exact N⟩);have:(0:Int)<=(i':Int)/\(i':Int)<(n:Int):=oG;simp[execOp,u,Instr.indexAt,B x D,B ix av,A,bl,AO,asIntOf,run_underlying S,bb,sizeOf,typeInfo,ag,aa,Addr.add_mid];cases h;cases h;cases h;rename_i s t x u;have D:x∈o.op.operands:=xO
 split at h;rename_i n0 J k0 n1 AOv k k2 n hs ht A;cases h;let⟨i,d,z,U,S,Y,F,hn,hzero⟩:=Dg<|T.get hs;let⟨i2,d2,z2,a7,bk,be,bp,b3,bh⟩:=Dg<|T.get ht;have e1:=AFm F;have e2:=AFm bp;subst e1 e2;refine .pure (by rw[u];rfl) (λC a w B=> ?_) GZ.nil;simp[execOp,u,convert,run_underlying S,run_underlying bk,B x D,A,AO,Conv.intToInt];cases h;cases h
def M5(c:Ctx):Frame:={(Al:Frame)with fn:=c.f,kind:=.normal}
def M0(c:Ctx)(R:GW->AN->Prop)(b:AA Item)(a:Act)(w:AN):Prop:=
 ∀g:AA Frame,∃e f d,R e f/\Comes c.P (lone ((M5 c).at a b) g w) (lone d g f) e/\d.fn=c.f/\d.leaving c.P f e
def M0.steps{c R d b a g w i}(h:∀f,Steps c.P (lone ((M5 c).at a d) f w)<|lone ((M5 c).at g b) f i)(k:M0 c R b g i):M0 c R d a w:=λf=>
 let⟨e,p,j,n,o,l,m⟩:=k f
 ⟨e,p,j,n,o.of_steps<|h f,l,m⟩
def Qk(c:Ctx)(R:GW->AN->Prop)(k:AA Item):Exit->Act->AN->Prop
 | .normal,a,w=>M0 c R k a w
 | .panic ch,a,w=>a.defers=[]/\R (.panicked ch) w
 | .outgrown,_,w=>R .outgrown w
 |_,_,_=>False
def ADl{c}(s:c.P.funcs[c.f]? =sM c.fn){R f k a w}(h:f.wp c.P (Qk c R k) a w):M0 c R (.code f::k) a w:=by
 intro g;let⟨e,v,j,d,b⟩:=h (M5 c) k g;cases e with
 |normal=>
  let⟨e,u,n,q,r,o,p⟩:=d g;exact⟨e,u,n,q,r.of_steps b,o,p⟩
 |panic m=>
  let⟨i,t⟩:=b;exact⟨.panicked m,j,_,d.2,t,rfl,rfl,d.1,c.fn,s⟩
 |outgrown=>exact⟨.outgrown,j,M5 c,d,b.resolve_left<|by simp[M5],rfl,trivial⟩
 |exit x=>exact d.elim
 |goto l=>exact d.elim
 |ret=>exact d.elim
def G(c:Ctx)(R:GW->AN->Prop)(b:AA Item)(e:St):Prop:=∀d a w,Rel c e d a w->M0 c R b a w
structure RelA(c:Ctx)(σ:St)(ρ:Nat->Nat)(w:AN):Prop where
 hp:∀k∈c.A,∀b o,σ.hp k=sM b->b.AO ρ=sM o->w.heap[ρ k]? =sM o
 im:Holds w σ.im
 lm:c.I0.Da σ.im
 na:c.A.Nodup
 fs:∀b o,σ.im b=sM o->c.I0 b=sM o\/c.w0.heap.size<=b
 GV:∀b o,σ.im.Ak b=sM o->(c.I0.Ak b).isSome\/c.w0.heap.size<=b
 ad:∀k∈c.A,ρ k=c.ρ0 k
 fr:∀b,b<c.w0.heap.size->(∀k∈c.A,c.ρ0 k≠b)->c.I0.Ak b=nO->w.heap[b]? =c.w0.heap[b]?
 sz:c.w0.heap.size<=w.heap.size
 os:w.os=c.w0.os
 tape:w.tape=c.w0.tape
 output:w.output=c.w0.output
def KN.toA{c d a w}(h:KN c d a w):RelA c d a w:=
 ⟨λk _ b o=>h.hp k b o,h.im,h.lm,h.na,h.fs,h.GV,h.ad,h.fr,h.sz,h.os,h.tape,h.output⟩
def M1(c:Ctx)(R:GW->AN->Prop):AA PanicEntry->St->Prop:=λa d=>c.Rx=[]/\∀b w,RelA c d b w->R (.panicked a) w
def M1.congr{c R}:∀g f a,(∀k∈c.A,f.hp k=a.hp k)->f.im=a.im->M1 c R g f->M1 c R g a:=λ_ _ _ j d h=>⟨h.1,λl w A=>
 h.2 l w ⟨λk i b o e=>A.hp k i b o<|by rwa[<-j k i],d▸A.im,d▸A.lm,A.na,d▸A.fs,d▸A.GV,A.ad,A.fr,A.sz,A.os,A.tape,A.output⟩⟩
def WF(a:St):Prop:=(∀s k,k∈(a.tm s).A3->(a.hp k).isSome)/\(∀k b c,a.hp k=sM b->c∈b.A3->(a.hp c).isSome)
def Rel.wf{c σ b a w}(h:Rel c σ b a w):WF σ:=⟨h.kd,h.kb⟩
def ANQ{c g KP K Q}
 (q:∀e j a w,K e->Rel c e j a w->Q .normal a w) (p:∀n b d a f,KP n b->KN c b d f->a.defers=c.Rx->Q (.panic n) a f):∀l k e j a w,Rel c e j a w->Kj c g KP K l k e->wpOps c.P g.Aj Q l a w
 |[],_,e,j,a,w,R,h=>q e j a w h R
 |i::l,k,e,j,a,w,R,h=>by rw[wpOps_cons];exact AMd R h (λm b d s f o r=>ANQ q p l m b d s f r o) λn b d f o W=>p n b d a f o W R.nd
structure RG where
 g:ES
 rem:AA Nat
 CY:AA (Nat×Nat)
structure Bv where
 σ:St
 todo:AA Item
 rg:AU RG
 Bq:Nat
def Bd(c:Ctx)(a:Nat)(b:St):Prop:=(∀k,a<=k->b.hp k=nO)/\∀k∈c.A,k<a
structure Fr(c:Ctx)(r:RG)(σ:St):Prop where
 Ak:∀i∈r.rem,∀k,E8 (r.g.key i) k->σ.hp k=nO
 CP:∀k,r.g.Cp+8*r.g.Aj.size<=k->σ.hp k=nO
 nd:r.rem.Nodup
 lt:∀i∈r.rem,i<r.g.Aj.size
 A:∀k∈c.A,k<r.g.Cp
def GG(c:Ctx)(R:GW->AN->Prop)(f:Bv):Prop:=
 match f.rg with
 |none=>Bd c f.Bq f.σ->G c R f.todo f.σ
 |some r=>Fr c r f.σ->WF f.σ->Kj c r.g (M1 c R) (G c R f.todo) r.rem r.CY f.σ
inductive Ck where
 |v (x:AF)
 |s (x:Sem AF)
 |i (x:AB)
 |o (x:Op)
 |b (x:AU AK)
 |sv (x:SV)
inductive It(P:B7) where
 |eq (x y:AF) (h:x=y)
 |op (I:AB) (s:Sem AF) (r:SV) (h:∀w,EJ w I->∃a,s.run P w=.ok (AO id r) a/\Bl w a)
 |Kz (I:AB) (s:Sem AF) (r:SV) (h:∀w,EJ w I.CW->∃a,s.run P w=.ok (AO id r) a/\Bl w a)
 |BZ (op:Op) (b:AA (Nat×SV)) (rd:AA (Nat×AK)) (I:AB) (r:SV) (h:∀key tm (o:Bw),o.op=op->(∀p∈b,tm p.1=p.2)->LS P o tm key rd I r nO)
abbrev G8(P:B7):=AA<|Nat×It P
def G8.at{P:B7}:G8 P->AU Tmp->AU (It P)
 |_,nO=>nO
 |[],sM _=>nO
 |(d,x)::l,sM t=>match Nat.beq d t with|true=>sM x|false=>G8.at l<|sM t
def SV.val:SV->AU AF
 | .v x=>sM x
 |_=>nO
def W6(a:Nat->SV):AU Operand->AU (AU AF)
 |none=>sM nO
 |some x=>match(ev a x).val with
  |some v=>sM<|sM v
  |none=>nO
def AE3{a x v}(h:W6 a x=sM v){e}(b:∀y,x=sM y->∀z,(ev a y).val=sM z->e y=z):x.map e=v:=by
 cases x with
 |none=>cases h;rfl
 |some y=>
  simp[W6]at h;split at h;rename_i z c;cases h;simp[b y rfl z c];cases h
def AAN(c:Nat->SV)(o:Bw):AU (Sem AF):=
 match o.op with
 | .load t x=>(ev c x).val.map λa=>Instr.loadAt t a
 | .indexAddr t x i=>match(ev c x).val,(ev c i).val with|some a,sM b=>sM (Instr.indexAt t a b)|_,_=>nO
 | .index t x i=>match(ev c x).val,(ev c i).val with|some a,sM b=>sM (Instr.index t a b)|_,_=>nO
 | .lookup t x i j=>match(ev c x).val,(ev c i).val with|some a,sM b=>sM (Instr.lookup t a b j)|_,_=>nO
 | .slice t x f e g=>match(ev c x).val,W6 c f,W6 c e,W6 c g with
   |some a,sM l,sM h,sM m=>sM<|Instr.sliceAt t a l h m
   |_,_,_,_=>nO
 | .convert s t x=>(ev c x).val.map λa=>convert s t a
 | .binOp d t x y _=>match(ev c x).val,(ev c y).val with|some a,sM b=>sM (do eqGuard d t x y a b;binOp d t a b)|_,_=>nO
 | .unOp d _ x=>(ev c x).val.map λa=>Op.unary d a
 | .makeInterface t x=>(ev c x).val.map λa=>Instr.makeInterface t a
 | .call {callee:=.builtin b,args:=args,argTypes:=ts}=>match b,args.toList with
   | .cap,[x]=>(ev c x).val.map λa=>Builtin.cap_ ts o.type #[a]
   | .min,[x,y]=>match(ev c x).val,(ev c y).val with|some a,sM b=>sM (Builtin.min_ ts o.type #[a,b])|_,_=>nO
   | .max,[x,y]=>match(ev c x).val,(ev c y).val with|some a,sM b=>sM (Builtin.max_ ts o.type #[a,b])|_,_=>nO
   |_,_=>nO
 |_=>nO
def SV.Adm{x a}(h:x.val=sM a)(b):AO b x=a:=by cases x<;>simp[SV.val]at h;subst h;rfl
def ALw{P n}{o:Bw}{s:Sem AF}(h:AAN n o=sM s){ρ}{a:Act}(G:∀x∈o.op.operands,a.eval x=AO ρ (ev n x)){w B v}(k:s.run P w=.ok v B):
 (execOp a.eval o).run P w=.ok (.value v) B:=by
 have c:∀x∈o.op.operands,∀y,(ev n x).val=sM y->a.eval x=y:=λx g y r=>by rw[G x g];exact SV.Adm r ρ
 rw[AAN]at h;split at h;rename_i t x e;rw[e]at c;cases d:(ev n x).val with
 |none=>rw[d]at h;cases h
 |some y=>
  rw[d]at h;cases h;simp[execOp,e,c x xO y d,k]
 rename_i t x i e;rw[e]at c;split at h;rename_i y z d j;cases h;simp[execOp,e,c x xO y d,c i xO z j,k];cases h;rename_i t x i e;rw[e]at c;split at h;rename_i y z d j;cases h;simp[execOp,e,c x xO y d,c i xO z j,k];cases h;rename_i t x i N e;rw[e]at c;split at h;rename_i y z d j;cases h;simp[execOp,e,c x xO y d,c i xO z j,k];cases h;rename_i t x L K M e;rw[e]at c;split at h;rename_i y l J m d j E F;cases h;have q:=AE3 j (e:=a.eval) λy r z A=>c y (by subst r;simp[Op.operands]) z A;have C:=AE3 E (e:=a.eval) λy r z A=>c y (by subst r;simp[Op.operands]) z A;have D:=AE3 F (e:=a.eval) λy r z A=>c y (by subst r;simp[Op.operands]) z A;simp[execOp,e,c x xO y d,q,C,D,k];cases h;rename_i O t x e;rw[e]at c;cases d:(ev n x).val with
 |none=>rw[d]at h;cases h
 |some y=>
  rw[d]at h;cases h;simp[execOp,e,c x xO y d,k]
 rename_i H t x y Q e;rw[e]at c;split at h;rename_i u z d j;cases h;have p:=c x xO u d;have q:=c y xO z j;simp only[execOp,e,p,q];simp only[Sem.run_bind]at k⊢;rw[k];rfl;cases h;rename_i H t x e;rw[e]at c;cases d:(ev n x).val with
 |none=>rw[d]at h;cases h
 |some y=>
  rw[d]at h;cases h;simp[execOp,e,c x xO y d,k]
 rename_i t x e;rw[e]at c;cases d:(ev n x).val with
 |none=>rw[d]at h;cases h
 |some y=>
  rw[d]at h;cases h;simp[execOp,e,c x xO y d,k]
 rename_i b args I e;rw[e]at c;have mem:∀x∈args.toList,x∈(Op.call {callee:=.builtin b,args:=args,argTypes:=I}).operands:=λx g=>by simp[Op.operands,Call.operands];simpa using g
 split at h;rename_i x g;have f:args=#[x]:=Lu.1 (by rw[g]);cases d:(ev n x).val with
 |none=>rw[d]at h;cases h
 |some y=>
  rw[d]at h;cases h;have p:=c x (mem x<|by rw[g];simp) y d;simp[execOp,e,resolve,invoke,builtin,f,p,k]
 rename_i x y g;have f:args=#[x,y]:=Lu.1 (by rw[g]);split at h;rename_i u z d j;cases h;have p:=c x (mem x<|by rw[g];simp) u d;have q:=c y (mem y<|by rw[g];simp) z j;simp[execOp,e,resolve,invoke,builtin,f,p,q,k];cases h;rename_i x y g;have f:args=#[x,y]:=Lu.1 (by rw[g]);split at h;rename_i u z d j;cases h;have p:=c x (mem x<|by rw[g];simp) u d;have q:=c y (mem y<|by rw[g];simp) z j;simp[execOp,e,resolve,invoke,builtin,f,p,q,k];cases h;cases h;cases h
def Bl.setRow{w:AN}{g a}:(w.setRow g a).heap.size=w.heap.size:=by simp[World.setRow]
def AAI:SV->Bool
 | .v (.agg _)| .v (.tuple _)| .g _| .t _=>fF
 |_=>tT
def ALu{x}(h:AAI x)(a):(AO a x).oneCell':=by
 cases x with
 |v x=>cases x<;>first|rfl|cases h
 |g l=>cases h
 |t l=>cases h
 |_=>rfl
def AFZ(L:Lay)(o:Op)(b:Nat->SV)(c:Nat->AU AK):AU (Nat×AK×AK):=
 match o with
 | .insert t m x v=>match L.get t,ev b m,ev b x with
   |some ⟨_,_,.map kt _⟩,.m km,.v kv=>match c km,L.get kt with
    |some (.Ey ks vs),sM tk=>match Wb tk.k kv,OO kv ks vs with
     |true,sM nO=>sM (km,.Ey ks vs,.Ey (ks++[kv])<|vs++[ev b v])
     |_,_=>nO
    |_,_=>nO
   |_,_,_=>nO
 | .store t a x=>match ev b a,(ev b x).cs,L.get t with
   | .p k off,sM cs,sM ty=>match c k with
     |some (.cells l e)=>match Nat.beq (lN cs) ty.n,Nat.ble (off+lN cs)<|lN l,cs.all AAI with
      |true,tT,tT=>sM (k,.cells l e,.cells (BX l off cs) e)
      |_,_,_=>nO
     |_=>nO
   |_,_,_=>nO
 |_=>nO
def Lm{w:AN}{g a cells e b}(h:w.heap[g]? =sM (.cells a e b)):(w.setRow g cells).heap[g]? =sM (.cells cells e b):=by have:=Eg h;simp[World.setRow,ABP,ME,h,LN]
def Ir{w:AN}{g b a}(h:g≠b):(w.setRow g a).heap[b]? =w.heap[b]? :=by simp[World.setRow,ABP,AY h]
def nodupB:AA Nat->Bool
 |[]=>tT
 |x::l=>l.all (λy=> !Nat.beq x y)&&nodupB l
def AcL{P L}(hL:Ed P L){o:Bw}{D hp key k I}{b b':AK}(h:AFZ L o.op D hp=sM (k,b,b')):
 hp k=sM b/\HS P o D key [(k,b)] I (λh=>h= {r:=.v undef,AV:=[(k,b')],J:=I}) nO/\(∀W∈b'.A3,W∈b.A3\/∃x∈o.op.operands,W∈(ev D x).A3)/\LX o.op/\b.live:=by
 unfold AFZ at h;split at h;rename_i t m x v C;split at h;rename_i n0 z0 kt et km U S N aa;split at h;rename_i s H tk O ao;split at h;rename_i p X;cases h;let⟨i0,d0,a1,au,ak,az,am,ax,ah⟩:=Dg<|hL.get S;let⟨i1,d1,a2,av,Z,a0,an,ay,ai⟩:=Dg<|hL.get ao;have:=XY am;subst this;let⟨ac,R⟩:=AKE an p;have hm:m∈o.op.operands:=xO
 have hx:x∈o.op.operands:=xO
 have hv:v∈o.op.operands:=xO
 have hlen:=AIm s H X;refine⟨O,?_,?_,by rw[C];rfl,rfl⟩;refine⟨?_⟩;intro ρ a w V hh hI M ab al ap next Q hnext _;have E:=hh (k,.Ey s H) sP _ rfl;simp only at E;have e1:=V m hm;have e2:=V x hx;rw[N]at e1;rw[aa]at e2;simp only[AO]at e1 e2;have hf:=MapKept.run_findKey (P:=P) (w:=w) Z<|AC5 R ρ s H 0 0 nO X;have aw:=Eg E;have hnew:(Md (s++[U]) (BB ρ<|H++[ev D v]) 0)=Md s (BB ρ H) 0++[{key:=U,val:=AO ρ<|ev D v,born:=lN s}]:=by rw[Ru];simp only[BB];rw[ALO _ _ _ _ _<|by rw[Jp];exact hlen,FE]
 have hex:(execOp a.eval o).run P w=.ok .skip {w with heap:=w.heap.setIfInBounds (ρ k)<|.map (Md (s++[U]) (BB ρ<|H++[ev D v]) 0).toArray<|lN<|s++[U]}:=by rw[hnew];simp[execOp,C,e1,e2,V v hv,Instr.mapUpdate,run_underlying ak,MapKept.run_getObj_map E,MapKept.run_checkKey Z ac,hf,MapKept.run_setObj_map _ E,Result.andThen]
 unfold Oper.wp;rw[hex,Oper.upon_skip];have B:=MapKept.heap_set (o':=.map (Md (s++[U]) (BB ρ<|H++[ev D v]) 0).toArray<|lN<|s++[U]) E;refine hnext rfl _ _ (λ_=>0) rfl ⟨rfl,rfl,rfl,sP,λb f u _=>B.2 b λe=>u (k,_) (A9.2 rfl) e.symm,?_,λj b hj=>by simp at hj,λi j hi=>by simp at hi,?_,λb o' f=>.inl f,λb o' f=>IM f⟩;intro kb p o' A;simp at p;subst p;have e0:Ab.Bh {r:=.v undef,AV:=[(k,AK.Ey (s++[U])<|H++[ev D v])],J:=I} ρ key (λ_=>0)=ρ:=by funext n;exact F7 (by unfold CX;split<;>rfl)
 rw[e0]at A⊢;cases A;exact B.1;exact hI.A2 (M (k,.Ey s H) sP rfl) λb _ K=>B.2 b λe=>K e.symm;intro W G;simp only[AK.A3,AWa,DF,Hn,Bc]at G⊢;exact G.imp id λq=>⟨v,hv,q⟩;cases h;cases h;cases h;rename_i t ad x C;split at h;rename_i W c g ty N Y S;split at h;rename_i l e O;split at h;rename_i b1 b2 b3;cases h;let⟨i,d,z,hi,hd,hz,hk,hn,hzero⟩:=Dg<|hL.get S;have aj:ad∈o.op.operands:=xO
 have hx:x∈o.op.operands:=xO
 refine⟨O,?_,?_,by rw[C];rfl,rfl⟩;refine⟨?_⟩;intro ρ a w V hh hI M ab al ap next Q hnext _;have E:=hh (k,.cells l e) sP _ rfl;simp only at E;have s1:lN (BB ρ g)=lN g:=Jp ρ g;have e1:lN g=ty.n:=Ha b1;have e2:c+lN g<=lN l:=LL b2;have af:∀v∈BB ρ g,v.oneCell':=λv hv=>by rw[Hw]at hv;obtain⟨y,T,rfl⟩:=BI.1 hv;exact ALu (EQ.1 b3 y T) ρ
 have F:(AO ρ<|ev D x).cells=(BB ρ g).toArray:=SV.Tf Y ρ;have e3:(w.setRow (ρ k) ((BB ρ l).take (c+0)++BB ρ g++(BB ρ l).drop (c+0+lN (BB ρ g))).toArray)=w.setRow (ρ k) (BB ρ<|BX l c g).toArray:=by rw[IB,s1];unfold BX;rw[Ru,Ru,Tj,Ti]
 have aq:(storeVar t ⟨ρ k,c,nO⟩<|AO ρ<|ev D x).run P w=.ok () (w.setRow (ρ k) (BB ρ<|BX l c g).toArray):=by
  rw[<-e3];unfold storeVar;rw[F];have ar:(sizeOf t).run P w=.ok i.size w:=by simp[sizeOf,typeInfo,hi]
  have u: ¬(BB ρ g).toArray.size≠i.size:=by simp[Jp];omega
  simp only[Sem.run_bind,ar,Result.andThen_ok,u,Hq];exact run_storeCells_at P (ρ k) c e (BB ρ g) 0 (BB ρ l).toArray w E (by simp[Jp];omega) af
 have hex:(execOp a.eval o).run P w=.ok .skip (w.setRow (ρ k) (BB ρ<|BX l c g).toArray):=by have h1:=V ad aj;rw[N]at h1;simp only[AO]at h1;simp[execOp,C,Instr.storeAt,h1,V x hx,Instr.sureAddr,aq]
 unfold Oper.wp;rw[hex,Oper.upon_skip];refine hnext rfl _ _ (λ_=>0) rfl ⟨rfl,rfl,rfl,by rw[Bl.setRow];exact Ag _,λb f u _=>Ir<|u (k,.cells (BX l c g) e) sP,?_,λj b hj=>by simp at hj,λi j hi=>by simp at hi,?_,λb o' f=>.inl f,λb o' f=>IM f⟩;intro kb p o' A;simp at p;subst p;have e0:Ab.Bh {r:=.v undef,AV:=[(k,AK.cells (BX l c g) e)],J:=I} ρ key (λ_=>0)=ρ:=by funext n;exact F7 (by unfold CX;split<;>rfl)
 rw[e0]at A⊢;cases A;exact Lm E;exact hI.A2 (M (k,.cells l e) sP rfl) λb _ K=>Ir K;intro W G;let⟨y,T,ae⟩:=Mc.1 G;rcases ALJ T with T|T;exact .inl<|Mc.2 ⟨y,T,ae⟩;exact .inr ⟨x,hx,SV.ACy Y W<|Mc.2 ⟨y,T,ae⟩⟩;cases h;cases h;cases h;cases h
def OY(g:ES)(i:Nat):AA Nat->Bool
 |[]=>tT
 |k::ks=>(match g.drawn with
  |false=>tT
  |true=>Nat.blt k g.Cp||(let a:=(k-g.Cp)/8;Nat.beq a i||PI g.Aj (g.Aj.size+1) i a))&&OY g i ks
def Wc{g i}:∀ {c:AA Nat},OY g i c->g.Za i c
 |[],_=>λ_ _ l=>by cases l
 |k::c,h=>by simp only[OY,CJ]at h;intro d m b f a;rcases Co.1 b with e|b;rw[d]at h;simp only[KG,TE]at h;rw[e]at a;rw[E8,ES.key]at a;rcases h.1 with q|q;omega;have j:(k-g.Cp)/8=f:=oG;rw[j]at q;rcases q with q|q;exact .inl<|Ha q;exact .inr q;exact Wc h.2 d m b f a
def Q8(g:ES)(i k:Nat):AA (Nat×Nat)->Bool
 |[]=>tT
 |(j,k')::l=>(!Nat.beq k' k||PI g.Aj (g.Aj.size+1) i j)&&Q8 g i k l
theorem AAX{g i k}:∀ {l:AA<|Nat×Nat},Q8 g i k l->∀a∈l,a.2=k->g.V1 i a.1
 |[],_=>λ_ h=>by cases h
 |(j,k')::l,h=>by simp[Q8,CJ,KG,Jf]at h;intro a b e;rcases Co.1 b with q|q;subst q;rcases h.1 with q|q;simp only at e;rw[e]at q;simp at q;exact q;exact AAX h.2 a q e
def AAD{a:Type}:AA a->Bool
 |[]=>tT
 |_=>fF
def AMc(Aj:Ae Bw)(rem:AA Nat)(i:Nat):Bool:=
 match Aj[i]? with
 |none=>fF
 |some o=>o.after.all λe=> !Region.binds .any e|| !(rem.any<|Nat.beq e.on)
def AWB(Aj:Ae Bw)(i:Nat):Bool:=match Aj[i]? with|none=>fF|some o=> !LX o.op
def ADX(p:Nat->Bool):AA Nat->AU Nat
 |[]=>nO
 |x::l=>match p x with|true=>sM x|false=>ADX p l
def AFE(i:Nat):AA Nat->AA Nat
 |[]=>[]
 |x::l=>match Nat.beq x i with|true=>l|false=>x::AFE i l
def eager(Aj:Ae Bw):Nat->AA Nat->AA Nat
 |0,_=>[]
 |n+1,rem=>
  match ADX (λi=>AWB Aj i&&AMc Aj rem i) rem with
  |some i=>i::eager Aj n (AFE i rem)
  |none=>match ADX (AMc Aj rem) rem with
   |some i=>i::eager Aj n (AFE i rem)
   |none=>[]
def AE2(Aj:Ae Bw)(a:AA Nat):Bool:=
 Nat.ble (lN a) Aj.size&&AAS Aj a&&(List.range Aj.size).all (λi=>a.any<|Nat.beq i)&&a.all (λi=>Nat.blt i Aj.size&&(match Aj[i]? with|none=>fF|some o=>o.after.all λe=> !Region.binds .any e||(Nat.blt e.on Aj.size&& !Nat.beq e.on i)))
inductive Res where
 |go (f:Bv) (ck:AA (Ck×Ck))
 |stop
 |bad
def Zw(k:Nat):AA Nat->Bool
 |[]=>fF
 |x::l=>Nat.beq k x||Zw k l
def ALF{k}:∀ {l:AA Nat},Zw k l->k∈l
 |[],h=>by cases h
 |x::l,h=>by simp only[Zw,KG]at h;rcases h with h|h;rw[Ha h];simp;exact DY _<|ALF h
def AFY(P:B7)(L:Lay)(h:G8 P)(n:Nat)(A:AA Nat)(c:St)(a:AA Item)(e:Nat)(g:ES)(i:Nat)(is:AA Nat)(d:AA<|Nat×Nat):Res:=
 match g.Aj[i]? with
 |none=>.bad
 |some o=>match To n o.dst,want g.Aj c.tm o with
  |true,sM fF=>.go ⟨c.put o.dst<|.v undef,a,sM ⟨g,is,d⟩,e⟩ []
  |true,sM tT=>match LX o.op with
   |true=>match AFZ L o.op c.tm c.hp with
    |none=>.stop
    |some (k,b,b')=>match OY g i (k::b'.A3),(match g.drawn with|true=>Q8 g i k d|false=>tT)with
     |true,tT=>.go ⟨St.put ⟨c.tm,AV c.hp k<|sM b',c.im⟩ o.dst<|.v undef,a,sM ⟨g,is,d⟩,e⟩ []
     |_,_=>.bad
   |false=>match h.at o.dst with
    |some (.op I s r _)=>match AAN c.tm o,AAD r.A3 with
     |some s',tT=>.go ⟨c.put o.dst r,a,sM ⟨g,is,d⟩,e⟩ [(.i I,.i c.im),(.s s,.s s')]
     |_,_=>.bad
    |some (.Kz I s r _)=>match AAN c.tm o,AAD r.A3&& !g.strict with
     |some s',tT=>.go ⟨c.put o.dst r,a,sM ⟨g,is,d⟩,e⟩ [(.i I,.i c.im),(.s s,.s s')]
     |_,_=>.bad
    |some (.BZ op tmv rd I r _)=>match OY g i (rd.map (·.1)++r.A3++Wp nO)&&r.A3.all (λk=>Zw k (tmv.flatMap (λp=>p.2.A3)++rd.map (·.1)))with
     |true=>.go ⟨c.put o.dst r,a,sM ⟨g,is,rd.map (λf=>(i,f.1))++d⟩,e⟩ ((.i I,.i c.im)::(.o op,.o o.op)::(tmv.map (λp=>(Ck.sv p.2,Ck.sv<|c.tm p.1))++rd.map (λf=>(Ck.b<|sM f.2,Ck.b<|c.hp f.1))))
     |false=>.bad
    |some (.eq x y _)=>match Zl L o.op c.tm c.hp (g.key i)with
     |some (.v x',nO,[])=>.go ⟨c.put o.dst<|.v y,a,sM ⟨g,is,d⟩,e⟩ [(.v x,.v x')]
     |some (.v x',nO,[(k,b)])=>match OY g i [k]with
      |true=>.go ⟨c.put o.dst<|.v y,a,sM ⟨g,is,(i,k)::d⟩,e⟩ [(.v x,.v x')]
      |false=>.bad
     |_=>.bad
    |none=>match Zl L o.op c.tm c.hp (g.key i)with
     |some (r,nb,rd)=>match OY g i (rd.map (·.1)++r.A3++Wp nb)with
      |true=>.go ⟨(c.B3 (g.key i) nb).put o.dst r,a,sM ⟨g,is,rd.map (λf=>(i,f.1))++d⟩,e⟩ []
      |false=>.bad
     |none=>.stop
  |_,_=>.bad
def step1(P:B7)(L:Lay)(sc:G8 P)(n:Nat)(A:AA Nat)(f:Bv):Res:=
 match f with
 |⟨σ,todo,some ⟨g,[],_⟩,_⟩=>.go ⟨σ,todo,none,g.Cp+8*g.Aj.size⟩ []
 |⟨σ,todo,some ⟨g,i::is,CY⟩,Bq⟩=>AFY P L sc n A σ todo Bq g i is CY
 |⟨σ,.code .skip::k,none,Bq⟩|⟨σ,.code (.label _)::k,none,Bq⟩|⟨σ,.inBlock _::k,none,Bq⟩=>.go ⟨σ,k,none,Bq⟩ []
 |⟨σ,.code (.seq a b)::k,none,Bq⟩=>.go ⟨σ,.code a::.code b::k,none,Bq⟩ []
 |⟨σ,.code (.cond c a b)::k,none,Bq⟩=>match ev σ.tm c with
  | .v (.bool true)=>.go ⟨σ,.code a::k,none,Bq⟩ []
  | .v (.bool false)=>.go ⟨σ,.code b::k,none,Bq⟩ []
  |_=>.bad
 |⟨σ,.code (.block id b)::k,none,Bq⟩=>.go ⟨σ,.code b::.inBlock id::k,none,Bq⟩ []
 |⟨σ,.code (.exit id)::k,none,Bq⟩=>match exitTo id k with
  |some k'=>.go ⟨σ,k',none,Bq⟩ []
  |none=>.bad
 |⟨σ,.code (.region _ Aj false)::k,none,Bq⟩=>.go ⟨σ,k,some ⟨⟨Aj,Bq,false⟩,List.range Aj.size,[]⟩,Bq⟩ []
 |⟨σ,.code (.region _ Aj true)::k,none,Bq⟩=>match AE2 Aj (eager Aj (Aj.size+1) (List.range Aj.size))with
  |true=>.go ⟨σ,k,some ⟨⟨Aj,Bq,true⟩,eager Aj (Aj.size+1) (List.range Aj.size),[]⟩,Bq⟩ []
  |false=>.bad
 |_=>.stop
structure Out where
 f:Bv
 cl:AA Ck
 ac:AA Ck
def Pq(P:B7)(L:Lay)(b:G8 P)(n:Nat)(A:AA Nat):Nat->Bv->Out
 |0,f=>⟨f,[],[]⟩
 |m+1,f=>match step1 P L b n A f with
  | .stop=>⟨f,[],[]⟩
  | .bad=>⟨f,[.v undef],[]⟩
  | .go c a=>let o:=Pq P L b n A m c;⟨o.f,a.map (·.1)++o.cl,a.map (·.2)++o.ac⟩
def Fr.tail{c g i is CY rds' σ a}(h:Fr c ⟨g,i::is,CY⟩ σ)(hs:∀k,a.hp k=σ.hp k\/E8 (g.key i) k\/(σ.hp k).isSome):Fr c ⟨g,is,rds'⟩ a where
 Ak j hj k hk:=by
  have d:i≠j:=λe=>(GX.1 h.nd).1 (by rwa[e]);have h0:=h.Ak j (DY _ hj) k hk
  grind[E8,ES.key]
 CP k hk:=by
  have b:=h.lt i sP;have h0:=h.CP k hk
  grind[E8,ES.key]
 nd:=(GX.1 h.nd).2
 lt j hj:=h.lt j<|DY _ hj
 A:=h.A
def Fr.Tv{c g i is a b}(h:Fr c ⟨g,i::is,a⟩ b):∀k,E8 (g.key i) k->b.hp k=nO/\k∉c.A:=λk e=>
 ⟨h.Ak i sP k e,λd=>by have:=h.A k d;grind[E8,ES.key]⟩
theorem WF.put{c}(h:WF c){d x}(i:∀k∈x.A3,(c.hp k).isSome):WF (c.put d x):=by
 refine⟨λs k a=> ?_,λk b g f a=> ?_⟩;rw[Lj];cases d with
 |none=>exact h.1 s k a
 |some d=>
  simp[St.put]at a;by_cases e:s=d
  grind[Eu]
  rw[D3 _ _ e]at a;exact h.1 s k a
 rw[Lj]at f⊢;exact h.2 k b g f a
theorem WF.B3{c}(h:WF c){a b}(f:c.hp a=nO)(m:∀k∈b.A3,(c.hp k).isSome\/k=a):WF (c.B3 a<|sM b):=by
 have g:∀k,(c.hp k).isSome->(AV c.hp a (sM b) k).isSome:=by grind[D3]
 refine⟨λs k d=>g k<|h.1 s k d,λk j i e d=> ?_⟩;simp[St.B3]at e⊢;by_cases l:k=a
 grind[Eu]
 rw[D3 _ _ l]at e;exact g i<|h.2 k j i e d
def WF.operand{b}(h:WF b){x k}(a:k∈(ev b.tm x).A3):(b.hp k).isSome:=by
 cases x with
 |tmp t=>exact h.1 t k a
 |const x=>cases a
 |global x=>cases a
 |func x=>cases a
def GZ.some_{c}(h:WF c){o b j i g}(l:GZ o c.tm b j i g)(f:∀a∈j,c.hp a.1=sM a.2):∀k∈g,(c.hp k).isSome\/(k=b/\i.isSome):=by intro k e;rcases l k e with⟨x,_,q⟩|⟨a,d,q⟩|q;exact .inl<|h.operand q;exact .inl<|h.2 a.1 a.2 k (f a d) q;exact .inr q
def AEs{a:Type}{l:AA a}(h:AAD l):l=[]:=by
 cases l with
 |nil=>rfl
 |cons x l=>cases h
theorem AVN{h:Ab}{a hp}(c:h.nb=[]):h.hp a hp=h.AV.foldl (λf b=>AX.AV f b.1<|sM b.2) hp:=by grind[Ab.hp,CX]
def AcF{c}{R}{L}(Y:Ed c.P L){sc}{σ}{todo}{Bq}{g}{i}{is}{CY}{f'}{ck}
 (h:AFY c.P L sc c.n c.A σ todo Bq g i is CY=.go f' ck) (j:ck.map (·.1)=ck.map (·.2)) (F:GG c R f'):GG c R ⟨σ,todo,some ⟨g,i::is,CY⟩,Bq⟩:=by
 intro A hwf;simp only at A hwf;rw[AFY]at h;split at h;cases h;rename_i o ho;have t:=A.Tv;have kk:E8 (g.key i) (g.key i):=⟨Nat.le_refl _,oG⟩;split at h;rename_i hd hw;cases h;have hnext:=F (A.tail (λk=>.inl (by rw[Lj]))) (hwf.put λk hk=>by cases hk);exact⟨o,ho,hd,t,.inl ⟨.v undef,none,[],⟨.inl ⟨hw,rfl,rfl,rfl⟩,(λ_ hk=>by cases hk),(λ_ _ hk=>by cases hk),(λ_ hk=>by cases hk),(λ_ hb=>by cases hb)⟩,hnext⟩⟩;rename_i hd hw;split at h;rename_i v;split at h;cases h;rename_i k b1 b2 ae;let⟨s1,s2,s3,s4,s5⟩:=AcL (P:=c.P) Y (key:=g.key i) (I:=σ.im) ae;split at h;rename_i ab ak;cases h;have ac: ∀k'∈b2.A3,(σ.hp k').isSome=true:=λk' aa=>by rcases s3 k' aa with q|⟨x,_,q⟩;exact hwf.2 k _ k' s1 q;exact hwf.operand q
 refine⟨o,ho,hd,t,.inr ⟨[(k,b1)],b2.A3,(λh=>h= {r:=.v undef,AV:=[(k,b2)],J:=σ.im}),none,?_,λ_ h hh=> ?_,λ_ e=>by cases e⟩⟩;refine{w:=hw,h:=v,hs:=s2,at_:=by grind,UR:=ac,key:=Wc ab,CY:= ?_,wf:= ?_};intro ai ik aj h hh hm
 grind[AAX]
 intro h hh;subst hh;refine{r:=λk hk=>(by cases hk),u:=λkb m=> ?_,n:=λb hb=>(by cases hb),l:=by simp,le:=AB.Hj _,d:=by simp}
 grind
 subst hh;have e1:σ.EV o.dst (g.key i) {r:=.v undef,AV:=[(k,b2)],J:=σ.im}=St.put ⟨σ.tm,AV σ.hp k (some b2),σ.im⟩ o.dst (.v undef):=by show St.put ⟨σ.tm,Ab.hp {r:=.v undef,AV:=[(k,b2)],J:=σ.im} (g.key i) σ.hp,σ.im⟩ o.dst (.v undef)=_;rw[AVN rfl];rfl
 rw[e1];have hs: ∀n,(σ.hp n).isSome=true->(AV σ.hp k (some b2) n).isSome=true:=by grind[Eu,D3]
 have ah:WF ⟨σ.tm,AV σ.hp k (some b2),σ.im⟩:=by
  refine⟨λs n H=>hs n (hwf.1 s n H),λn b n' hb H=> ?_⟩;by_cases e':n=k
  grind[Eu]
  simp only at hb;rw[D3 _ _ e']at hb;exact hs n' (hwf.2 n b n' hb H)
 refine F (A.tail λn=> ?_) (ah.put λn H=>by cases H);rw[Lj]
 grind[D3]
 cases h;rename_i v;have f: ∀ {r:SV} {nb:Option AK} {rd:List (Nat×AK)} {rds':List (Nat×Nat)},Ni g.strict c.P o σ.tm (g.key i) rd σ.im r nb->(∀kb∈rd,σ.hp kb.1=some kb.2)->OY g i (rd.map (·.1)++r.A3++Wp nb)=true->
  (∀k∈r.A3,(σ.hp k).isSome=true\/(k=g.key i/\nb.isSome=true))->(∀b,nb=some b->∀k∈b.A3,(σ.hp k).isSome=true\/k=g.key i)->rds'=rd.map (λkb=>(i,kb.1))++CY->
  GG c R ⟨(σ.B3 (g.key i) nb).put o.dst r,todo,some ⟨g,is,rds'⟩,Bq⟩->MJ c g (M1 c R) i (Kj c g (M1 c R) (G c R todo) is) CY σ:=by
  intro r nb rd rds' E M m hr H W Z;subst W;refine⟨o,ho,hd,t,.inl ⟨r,nb,rd,⟨.inr ⟨hw,v,E⟩,M,?_,hr,H⟩,?_⟩⟩;exact Wc m;refine Z (A.tail λn=> ?_) (WF.put ?_ ?_);rw[Lj];cases nb with
  |none=>exact .inl rfl
  |some b=>
   by_cases e:n=g.key i
   grind
   exact .inl (D3 _ _ e)
  cases nb with
  |none=>exact hwf
  |some b=>exact hwf.B3 (t _ kk).1 (H b rfl)
  intro k hk;rcases hr k hk with q|⟨q,q2⟩;cases nb with
  |none=>exact q
  |some b=>
   simp only[St.B3]
   grind[D3]
  cases nb with
  |none=>cases q2
  |some b=>simp_all[St.B3,Eu]
 split at h;rename_i I s r D S;split at h;rename_i s' Q V;cases h;simp only[List.map_cons,List.map_nil,List.cons.injEq,Ck.i.injEq,Ck.s.injEq,and_true]at j;let⟨U,T⟩:=j;have P:r.A3=[]:=AEs V;refine f (r:=r) (nb:=none) (rd:=[]) (rds':=CY) ?_ (λ_ hk=>by cases hk) ?_ (λk hk=>by grind) (λ_ hb=>by cases hb) rfl F;refine LS.d ?_;intro ρ a w he _ K _ _;let⟨w',C,N⟩:=D w (by rwa[U]);refine⟨w',?_,N⟩;have:=ALw (P:=c.P) Q (ρ:=ρ) (a:=a) he (by rwa[<-T])
 grind[Ko]
 simp only[List.map_nil,List.nil_append,P];rfl;cases h;rename_i I s r D S;split at h;rename_i s' Q z;cases h;simp only[List.map_cons,List.map_nil,List.cons.injEq,Ck.i.injEq,Ck.s.injEq,and_true]at j;let⟨U,T⟩:=j;simp only[Bool.and_eq_true,Bool.not_eq_true']at z;have P:r.A3=[]:=AEs z.1;refine f (r:=r) (nb:=none) (rd:=[]) (rds':=CY) ?_ (λ_ hk=>by cases hk) ?_ (λk hk=>by grind) (λ_ hb=>by cases hb) rfl F;rw[z.2];show QH c.P o σ.tm (g.key i) [] σ.im r none;intro ρ a w he _ K _ _;let⟨w',C,N⟩:=D w (by rw[U];exact K.CW);refine⟨w',?_,N⟩;have:=ALw (P:=c.P) Q (ρ:=ρ) (a:=a) he (by rwa[<-T])
 grind[Ko]
 simp only[List.map_nil,List.nil_append,P];rfl;cases h;rename_i op ag rd I r D S;split at h;rename_i m;cases h;simp only[Bool.and_eq_true,List.all_eq_true]at m;simp only[List.map_cons,List.map_append,List.map_map,List.cons.injEq,Ck.i.injEq,Ck.o.injEq]at j;let⟨U,ad,O⟩:=j;let⟨h1,h2⟩:=List.append_inj O sP;have af: ∀p∈ag,σ.tm p.1=p.2:=by grind[List.map_inj_left]
 have M: ∀kb∈rd,σ.hp kb.1=some kb.2:=by grind[List.map_inj_left]
 have E:=D (g.key i) σ.tm o ad.symm af;rw[U]at E;refine f (r:=r) (nb:=none) (rd:=rd) E.d M m.1 (λk hk=>.inl ?_) (λ_ hb=>by cases hb) rfl F;have:=ALF (m.2 k hk);rcases List.mem_append.1 this with q|q;let⟨p,hp,al⟩:=List.mem_flatMap.1 q;exact hwf.1 p.1 k (by grind)
 grind
 cases h;rename_i x y X S;split at h;rename_i x' B;cases h;simp only[List.map_cons,List.map_nil,List.cons.injEq,Ck.v.injEq,and_true]at j;have sp:=AER (P:=c.P) Y (I:=σ.im) B;refine f (r:=.v y) (nb:=none) (rd:=[]) (rds':=CY) ?_ (λ_ hk=>by cases hk) rfl (λk hk=>by cases hk) (λ_ hb=>by cases hb) rfl F;rw[<-X,j];exact sp.ls.d;rename_i x' k b B;split at h;rename_i m;cases h;simp only[List.map_cons,List.map_nil,List.cons.injEq,Ck.v.injEq,and_true]at j;have sp:=AER (P:=c.P) Y (I:=σ.im) B;refine f (r:=.v y) (nb:=none) (rd:=[(k,b)]) (rds':=(i,k)::CY) ?_ sp.at_ ?_ (λk hk=>by cases hk) (λ_ hb=>by cases hb) rfl F;rw[<-X,j];exact sp.ls.d;exact m;cases h;cases h;split at h;rename_i r nb rd B;split at h;rename_i m;cases h;have sp:=AER (P:=c.P) Y (I:=σ.im) B;refine f sp.ls.d sp.at_ m (sp.kr.some_ hwf sp.at_) (λb hb k hk=> ?_) rfl F;subst hb;exact(sp.kn.some_ hwf sp.at_ k hk).imp id (λq=>q.1);cases h;cases h;cases h
def AZS{Aj a}(h:AE2 Aj a):lN a<=Aj.size/\a.Pairwise (λi j=>Q3 Aj i j/\i≠j)/\(∀i,i∈a↔i<Aj.size)/\
 (∀i∈a,∀o,Aj[i]? =sM o->∀e∈o.after,Region.binds .any e->e.on<Aj.size/\e.on≠i):=by
 simp only[AE2,CJ,EQ,O4,List.any_eq_true]at h;let⟨⟨⟨d,f⟩,h2⟩,h3⟩:=h;refine⟨LL d,AL6 f,λi=>⟨λb=>by simpa[TE]using(h3 i b).1,λb=> ?_⟩,λi b o l e k g=> ?_⟩;let⟨x,m,e⟩:=h2 i b;rwa[Ha e];have:=(h3 i b).2;rw[l]at this;simp only[Array.all_eq_true']at this;have c:=this e k;simp only[g,AGJ,AGI,CJ,TE,Jf]at c;exact⟨c.1,λn=>by simp_all⟩
def AcE{c}(Q:c.P.funcs[c.f]? =sM c.fn)(z:c.P.follows .mixedOrders){R L}(U:Ed c.P L){sc f P E}
 (h:step1 c.P L sc c.n c.A f=.go P E) (I:E.map (·.1)=E.map (·.2)) (m:GG c R P):GG c R f:=by
 have one:∀ {e:St} {t S:AA Item} {b:Nat},(∀(a:Act)(w:AN)(u:AA Frame),step c.P (lone ((M5 c).at a t) u w)=.next (lone ((M5 c).at a S) u w))->GG c R ⟨e,S,nO,b⟩->GG c R ⟨e,t,nO,b⟩:=
  λY m l d a w r=>M0.steps (λu=>.one (Y a w u)) (m l d a w r)
 have hP:∀D (s:St) q (a:Act) C,M1 c R D s->KN c s q C->a.defers=c.Rx->∀k,Qk c R k (.panic D) a C:=λD s q a C B W V k=>⟨V.trans B.1,B.2 q C W.toA⟩;unfold step1 at h;split at h;rename_i e T g aa b;cases h;intro v hwf;exact m ⟨v.CP,λk B=>by have:=v.A k B;grind⟩;exact AcF U h I m
 grind[step_skip]
 grind[step_label]
 grind[step_inBlock]
 grind[step_seq]
 rename_i e O x y k b;split at h;rename_i H;cases h;intro l d a w r;have J:a.eval O=vB tT:=by rw[r.ev,H];rfl
 exact M0.steps (λu=>.one (by rw[step_cond J];rfl)) (m l d a w r);rename_i H;cases h;intro l d a w r;have J:a.eval O=vB fF:=by rw[r.ev,H];rfl
 exact M0.steps (λu=>.one (by rw[step_cond J];rfl)) (m l d a w r);cases h
 grind[step_block]
 grind[step_exit]
 rename_i e Z Aj k b;cases h;intro l d a w r;have p:∀k,b<=k->e.hp k=nO:=l.1;refine ADl Q (wp_region ?_);refine ANQ (c:=c) (g:=⟨Aj,b,fF⟩) (KP:=M1 c R) (K:=G c R k) (λe d a w F r=>F d a w r) (gR) _ [] e d a w r (m ?_ r.wf);exact⟨(by grind[E8,ES.key]),λn X=>p n gR,List.nodup_range,λi K=>by simpa using K,l.2⟩;rename_i e Z Aj k b;split at h;rename_i A;cases h;let⟨o0,o1,o2,o3⟩:=AZS A;intro l d a w r;have p:∀k,b<=k->e.hp k=nO:=l.1;refine ADl Q (wp_region_any z ?_);have r':Rel c e d a {w with drawn:=w.drawn+1}:=r.grow (Bl.drew w);have N:(eager Aj (Aj.size+1) (List.range Aj.size)).Nodup:=o1.imp λh=>h.2;refine AQK (c:=c) (g:=⟨Aj,b,tT⟩) (KP:=M1 c R) (K:=G c R k) M1.congr rfl (λe d a w F r=>F d a w r) (gR) Aj.size (Array.replicate Aj.size fF) _ [] e d a _ sP ?_ ?_ o1 o3 ?_ r' (m ?_ r.wf);exact o0;simp_all;intro j o ho M;exfalso;rw[VD]at M
 grind
 exact⟨(by grind[E8,ES.key]),λn X=>p n gR,N,λi K=>(o2 i).1 K,l.2⟩;cases h;cases h
def AFM{c}(g:c.P.funcs[c.f]? =sM c.fn)(a:c.P.follows .mixedOrders){R L}(e:Ed c.P L){b}:
 ∀(m:Nat) {f:Bv},(Pq c.P L b c.n c.A m f).cl=(Pq c.P L b c.n c.A m f).ac->GG c R (Pq c.P L b c.n c.A m f).f->GG c R f
 |0,_,_,hg=>hg
 |m+1,f,hck,hg=>by
  rw[Pq]at hck hg;split at hck
  grind
  cases hck;rename_i k d h;rw[h]at hg;simp only at hck hg;have hlen:lN (d.map (·.1))=lN (d.map (·.2)):=sP;let⟨i,j⟩:=List.append_inj hck hlen;exact AcE g a e h i<|AFM g a e m j hg
structure Ab.LD(h:Ab)(key:Nat)(A:AA Nat):Prop where
 r:∀k∈h.r.A3,k∈A\/(CX key h.nb k).isSome
 u:∀kb∈h.AV,kb.1∈A/\∀k∈kb.2.A3,k∈A\/(CX key h.nb k).isSome
 n:∀b∈h.nb,∀k∈b.A3,k∈A\/(CX key h.nb k).isSome
 l:lN h.nb<=8
 d:(h.AV.map (·.1)).Nodup
def Rf(P:B7)(I:AB)(c:Nat->Nat)(a:Nat)(w:AN)(A:AA Nat)(g:zP)(b:AU<|AA PanicEntry):GW->AN->Prop:=λe f=>
 ∃h q,(g a h/\h.LD a A/\I.Da h.J)/\After I c w f a q h/\e=(match b with|none=>.returned (AO (h.Bh c a q) h.r)|some d=>.panicked d)
def FC(P:B7)(F:Ba)(c:AA SV)(a:AA<|Nat×AK)(I:AB)(g:zP)(e:AU<|AA PanicEntry):Prop:=
 ∀(b:Nat->Nat)(d:Nat)(w:AN),100<=d->Has w b a->Holds w I->(∀f∈a,I.free<|b f.1)->(∀x∈a,∀y∈a,b x.1=b y.1->x.1=y.1)->
  Calls P F (BB b c).toArray w (Rf P I b d w (a.map (·.1)) g e)
def FC.of{P:Program}{F:FuncId}{args:List SV}{need:List (Nat×AK)}{I:AB}{g:zP}{f:Option (List PanicEntry)}(hw: ∀key h,g key h->h.LD key (need.map (·.1))/\I.Da h.J)
 (h: ∀(ρ:Nat->Nat) (key:Nat) (w:World),100<=key->Has w ρ need->Holds w I->(∀kb∈need,I.free (ρ kb.1))->(∀x∈need,∀y∈need,ρ x.1=ρ y.1->x.1=y.1)->
   Calls P F (BB ρ args).toArray w λe i=>∃h q,g key h/\After I ρ w i key q h/\e=(match f with|none=>.returned (AO (h.Bh ρ key q) h.r)|some ch=>.panicked ch)):FC P F args need I g f:=
 λρ key w a b c d e=>(h ρ key w a b c d e).mono λ_ _ ⟨x,q,p,r⟩=>⟨x,q,⟨p,hw key x p⟩,r⟩
def Ab.LD.mono{h:Ab}{a:Nat}{A B:AA Nat}(w:h.LD a A)(c:∀k∈A,k∈B):h.LD a B:=⟨λk q=>(w.r k q).imp_left<|c k,λd q=>⟨c _ (w.u d q).1,λk p=>((w.u d q).2 k p).imp_left<|c k⟩,λb q k p=>(w.n b q k p).imp_left<|c k,w.l,w.d⟩
def RH:Nat->AA SV->Nat->SV
 |_,[]=>λ_=>.v undef
 |i,x::l=>AV (RH (i+1) l) i x
def JP:AA (Nat×AK)->Nat->AU AK
 |[]=>λ_=>nO
 |(k,b)::l=>AV (JP l) k<|sM b
def Kv(n:Nat):AA Nat->Bool
 |[]=>tT
 |k::l=>Nat.blt k n&&Kv n l
def UF{n}:∀ {l:AA Nat},Kv n l->∀k∈l,k<n
 |[],_,_,h=>by cases h
 |x::l,h,k,hk=>by simp[Kv,CJ,TE]at h;rcases Co.1 hk with e|e;rw[e];exact h.1;exact UF h.2 k e
def AFp:∀(l:AA SV)(i s:Nat),RH i l s=if i<=s then(l[s-i]?).getD (.v undef)else .v undef
 |[],i,s=>by simp[RH]
 |x::l,i,s=>by
  simp[RH];by_cases e:s=i
  grind[Eu]
  rw[D3 _ _ e,AFp l (i+1) s]
  grind
def Qh:∀ {l:AA<|Nat×AK} {k:Nat} {b:AK},JP l k=sM b->(k,b)∈l
 |[],_,_,h=>by cases h
 |(k',b')::l,k,b,h=>by
  simp[JP]at h;by_cases e:k=k'
  grind[Eu]
  rw[D3 _ _ e]at h;exact DY _<|Qh h
def ADs:∀ {l:AA<|Nat×AK} {k:Nat},k∈l.map (·.1)->(JP l k).isSome
 |[],_,h=>by cases h
 |(k',b')::l,k,h=>by simp only[JP];by_cases e:k=k';rw[e,Eu];rfl;rw[D3 _ _ e];simp only[E4,Co]at h;exact ADs<|h.resolve_left e
def Oc(k:Nat):AA Nat->Bool
 |[]=>fF
 |x::l=>Nat.beq k x||Oc k l
def UQ{k}:∀ {l:AA Nat},Oc k l->k∈l
 |[],h=>by cases h
 |x::l,h=>by simp only[Oc,KG]at h;rcases h with h|h;simp_all;exact DY _<|UQ h
def Wl{k}:∀ {l:AA Nat},k∈l->Oc k l
 |x::l,h=>by simp only[Oc,KG];rcases Co.1 h with h|h;simp_all;exact .inr<|Wl h
def GM(a b:AA Nat):Bool:=a.all λk=>Oc k b
def Ip:AA (Nat×AK)->AA Nat
 |[]=>[]
 |(_,b)::l=>b.A3++Ip l
def SN:∀ {l:AA<|Nat×AK} {a:Nat×AK} {k:Nat},a∈l->k∈a.2.A3->k∈Ip l
 |[],_,_,h,_=>by cases h
 |(k',b')::l,a,k,h,hk=>by
  simp[Ip,Bc];rcases Co.1 h with e|e
  grind
  exact .inr<|SN e hk
def UT:∀ {l:AA Nat},nodupB l->l.Nodup
 |[],_=>.nil
 |x::l,h=>by simp[nodupB,CJ,EQ,Jf]at h;refine GX.2 ⟨λa=> ?_,UT h.2⟩;have:=h.1 x a;simp at this
def SL(l:AA<|Nat×AK):Bool:=l.all λa=>a.2.live
def V7(b:AA SV)(a:AA<|Nat×AK)(n:Nat):Bool:=
 Nat.ble (lN b) n&&Kv 100 (a.map (·.1))&&GM (DF b) (a.map (·.1))&&GM (Ip a) (a.map (·.1))&&SL a&&nodupB (a.map (·.1))
def AFF(L:Lay)(b:St):ResultVar->AU SV
 | .tmp t=>sM<|b.tm t
 | .cell a t=>match b.tm a,L.get t with
   | .p k off,sM ty=>match b.hp k with
     |some (.cells l _)=>match ty.k.agg,Nat.ble (off+ty.n) (lN l) with
      |true,tT=>sM<|.g<|(l.drop off).take ty.n
      |false,tT=>l[off]?
      |_,_=>nO
     |_=>nO
   |_,_=>nO
def XB(L:Lay)(a:St):AA ResultVar->AU (AA SV)
 |[]=>sM []
 |x::l=>match AFF L a x,XB L a l with
  |some y,sM r=>sM (y::r)
  |_,_=>nO
def AAZ(L:Lay)(a:St)(l:AA ResultVar):AU SV:=
 match XB L a l with
 |some [x]=>sM x
 |some r=>sM<|.t r
 |none=>nO
def Ug(tmps:Ae AF):ResultVar->Sem AF
 | .tmp t=>pure<|tmps.getD t undef
 | .cell b t=>do loadVar t (<-asAddr (tmps.getD b undef))
def Aan(a tmps):results a tmps=(do let vs<-a.results.mapM (Ug tmps);pure (if h:vs.size=1 then vs[0]else .tuple vs)):=rfl
def Aam{P L}(F:Ed P L){c D m a w}(R:Rel c D m a w){x y}(h:AFF L D x=sM y):
 (Ug a.tmps x).run P w=.ok (AO m y) w:=by
 cases x with
 |tmp t=>cases h;simp[Ug,R.tm t]
 |cell b t=>
  simp only[AFF]at h;split at h;rename_i k g J I A;let⟨i,d,z,K,B,N,n,M,hzero⟩:=Dg<|F.get A;split at h;rename_i l e s;have cellAt:∀j,w.cell? ⟨m k,j,nO⟩=(BB m l)[j]? :=λj=>by simp[World.cell?,R.hp k _ _ s rfl]
  have u:=R.tm b;rw[I]at u;split at h;rename_i f hle;cases h;have H:w.rangeAt (m k) g ((BB m l).drop g |>.take J.n):=λj v o=>by rw[cellAt];rw[GO]at o;split at o;rw[Jg]at o;exact o;cases o
  have r:d.isRow:=by rw[<-RF n]at f;grind
  have C:=LL hle;have:=run_loadVar_mid (P:=P) w (m k) g t _ d H B r (by grind[Jp]);simp only[Ug,u,AO,asAddr,Sem.run_bind,Sem.run_pure,Result.andThen_ok,this];simp[Tj,Ti];rename_i f hle;have p:(isAgg t).run P w=.ok fF w:=by have E:=RF n;rw[f]at E;simp only[isAgg,Sem.run_bind,run_underlying B,Result.andThen_ok];cases d<;>simp_all
  have q:w.cell? ⟨m k,g,nO⟩=sM (AO m y):=by rw[cellAt,Hw,GB,h];rfl
  simp only[Ug,u,AO,asAddr,Sem.run_bind,Sem.run_pure,Result.andThen_ok,loadVar,p];simp_all;cases h;cases h;cases h
def AMg{P L}(b:Ed P L){c e d a w}(R:Rel c e d a w):∀ {l:AA ResultVar} {r:AA SV},XB L e l=sM r->
 (l.mapM<|Ug a.tmps).run P w=.ok (BB d r) w
 |[],r,h=>by cases h;rfl
 |x::l,r,h=>by simp[XB]at h;split at h;rename_i y k f g;cases h;have i:=Aam b R f;have j:=AMg b R g;simp_all[BB];cases h
def Aal{P L}(k:Ed P L){c i d a w}(R:Rel c i d a w){f r}(h:AAZ L i f.results.toList=sM r):(results f a.tmps).run P w=.ok (AO d r) w:=by
 rw[AAZ]at h;have b:∀l,XB L i f.results.toList=sM l->(results f a.tmps).run P w=.ok (if h:(BB d l).toArray.size=1 then(BB d l).toArray[0]else .tuple (BB d l).toArray) w:=λl g=>by have:=AMg k R g;simp_all[Aan,Array.mapM_eq_mapM_toList]
 split at h;rename_i x n;cases h;rw[b _ n];rfl;rename_i l m g;cases h;have j:∀x,l≠[x]:=by assumption
 rw[b _ g];rw[X3];rfl;simp[Iv,Jp];intro e;cases l with
 |nil=>cases e
 |cons x l=>grind
 cases h
def ctx(P:B7)(F:Ba)(a:Func)(n:Nat)(I:AB)(w:AN)(b:Nat->Nat)(A:AA Nat):Ctx:=⟨P,F,a,I,n,w,b,A,[]⟩
def init(a:AA SV)(b:AA<|Nat×AK)(I:AB)(c:Code):Bv:=⟨⟨RH 0 a,JP b,I⟩,[.code c],nO,100⟩
def MP(a:Func):Code:=match a.body with|some c=>c|none=>.skip
def FC.mk{P F g a need I K r n}(V:P.funcs[F]? =sM g)(t:g.body.isSome)(hn:g.ntmps=n)(hE:V7 a need n)
 (G:∀d l w,100<=l->GG (ctx P F g n I w d (need.map (·.1))) (Rf P I d l w (need.map (·.1)) K r) (init a need I<|MP g)):FC P F a need I K r:=by
 let⟨B,E⟩:=Mz.1 t;have u:MP g=B:=by rw[MP];rw[E]
 rw[u]at G;intro d l w q hN S v H;simp only[V7,CJ]at hE;let⟨⟨⟨⟨⟨M,N⟩,e3⟩,O⟩,e5⟩,e6⟩:=hE;have hlen:=LL M;have m:=UF N;have Q:=G d l w q ⟨λk f=>by
  show JP need k=nO;cases e:JP need k with
  |none=>rfl
  |some b=>have:=m k<|BI.2 ⟨_,Qh e,rfl⟩;have:(100:Nat)<=k:=f;omega,λk f=>m k f⟩
 have p:∀ {J:AA Nat},GM J (need.map (·.1))->∀k∈J,(JP need k).isSome:=λX k f=>ADs<|UQ<|EQ.1 X k f;have A:∀kb∈need,kb.2.live:=λkb z=>EQ.1 e5 kb z;have c:∀ {k b},JP need k=sM b->(k,b)∈need:=λh=>Qh h;intro L;have R:Rel (ctx P F g n I w d (need.map (·.1))) ⟨RH 0 a,JP need,I⟩ d {tmps:=(BB d a).toArray++Array.replicate (g.ntmps-(BB d a).toArray.size) undef,defers:=[]} w:=by
  refine{hp:=λk b o f W=>hN (k,b) (c f) o W,inj:= ?_,kb:= ?_,im:=S,lm:=AB.Hj _,na:=UT e6,fs:=λb o h=>.inl h,GV:=λb o h=>IM h,dj:= ?_,ad:=λk _=>rfl,nw:= ?_,fr:=λ_ _ _ _=>rfl,sz:=Ag _,os:=rfl,tape:=rfl,output:=rfl,size:= ?_,nd:=rfl,tm:= ?_,kd:= ?_};rintro j k ⟨b1,C,_⟩ ⟨b2,D,_⟩ e
  grind
  intro k b Y f y;exact p O Y<|SN (c f) y;rintro k ⟨b,h,_⟩;exact v _<|c h;rintro k ⟨b,h,_⟩;exact .inr ⟨k,BI.2 ⟨_,c h,rfl⟩,rfl⟩;show((BB d a).toArray++Array.replicate (g.ntmps-(BB d a).toArray.size) undef).size=n;simp[Jp];omega;intro s;show((BB d a).toArray++Array.replicate (g.ntmps-(BB d a).toArray.size) undef).getD s undef=AO d (RH 0 a s);rw[AFp,Ac<|Bm _,VD,Array.getElem?_append];simp only[Iv,Jp,Mv,Nat.sub_zero];by_cases h:s<lN a
  grind[Hw]
  rw[AY h,Jh oG];simp only[Array.getElem?_replicate,Option.getD_none];split<;>rfl;intro s k f;have f:k∈(RH 0 a s).A3:=f;rw[AFp,Ac<|Bm _]at f;refine p e3 k ?_;cases h:a[s-0]? with
  |none=>rw[h]at f;cases f
  |some x=>grind[Mc]
 have i:Frame.enter P F (BB d a).toArray .normal=(M5 (ctx P F g n I w d (need.map (·.1)))).at {tmps:=(BB d a).toArray++Array.replicate (g.ntmps-(BB d a).toArray.size) undef,defers:=[]} [.code B]:=by simp[Frame.enter,Frame.at,V,E,M5,ctx]
 let⟨e,Z,fr,T,U,C,D⟩:=Q d _ w R L;rw[i];exact⟨e,Z,fr,T,U,C,D⟩
def ADE:AA Item->Bool
 |[]=>tT
 | .code .ret::_=>tT
 |_=>fF
def Is(a:St):AA Nat->AU (AA<|Nat×AK)
 |[]=>sM []
 |k::l=>match a.hp k,Is a l with
  |some b,sM r=>sM ((k,b)::r)
  |_,_=>nO
def AF0{c}:∀ {l:AA Nat} {r:AA<|Nat×AK},Is c l=sM r->(∀a∈r,a.1∈l/\c.hp a.1=sM a.2)/\(∀k∈l,∃b,(k,b)∈r)
 |[],r,h=>by cases h;simp
 |k::l,r,h=>by
  simp[Is]at h;split at h;rename_i b i e d;cases h;let⟨f,g⟩:=AF0 d
  grind
  cases h
def AFz{c}:∀ {l:AA Nat} {u:AA<|Nat×AK},Is c l=sM u->u.map (·.1)=l
 |[],u,h=>by cases h;rfl
 |k::l,u,h=>by simp[Is]at h;split at h;rename_i b r d a;cases h;rw[E4,AFz a];cases h
def idxOf:Nat->AA Nat->AU Nat
 |_,[]=>nO
 |k,x::l=>match Nat.beq k x with|true=>sM 0|false=>(idxOf k l).map (· +1)
def WT:∀ {l:List Nat} {k j:Nat},idxOf k l=some j->l[j]? =some k
 |[],_,_,h=>by cases h
 |x::l,k,j,h=>by
  simp only[idxOf]at h;split at h
  grind[Nat.eq_of_beq_eq_true]
  cases e:idxOf k l with
  |none=>rw[e]at h;cases h
  |some i=>rw[e]at h;cases h;simpa using WT e
def ADw:∀ {l:AA Nat} {k:Nat},k∈l->∃j,idxOf k l=sM j
 |x::l,k,h=>by
  simp[idxOf];cases e:Nat.beq k x with
  |true=>exact⟨0,rfl⟩
  |false=>
   rcases Co.1 h with h|h;simp_all;let⟨j,a⟩:=ADw h
   grind
def FB(a:Nat)(b:AA Nat)(k:Nat):Nat:=match idxOf k b with|some j=>a+j|none=>k
def Tb(a:St):AA Nat->AU (AA AK)
 |[]=>sM []
 |k::l=>match a.hp k,Tb a l with
  |some b,sM r=>sM (b::r)
  |_,_=>nO
def AHv{a}:∀ {l:AA Nat} {r:AA AK},Tb a l=sM r->lN r=lN l/\∀(j:Nat)(b:AK),r[j]? =sM b->∃k,l[j]? =sM k/\a.hp k=sM b
 |[],r,h=>by cases h;simp
 |k::l,r,h=>by
  simp[Tb]at h;split at h;rename_i b g d c;cases h;let⟨e,f⟩:=AHv c
  grind
  cases h
def KY(L:Lay)(d:AA ResultVar)(A a:AA Nat)(b:Nat)(f:Bv):AU Ab:=
 match f.rg.isNone&&ADE f.todo,AAZ L f.σ d,Is f.σ A,Tb f.σ a with
 |true,sM r,sM u,sM nb=>
  match GM r.A3 (A++a)&&GM (Ip u) (A++a)&&GM (nb.flatMap AK.A3) (A++a)&&nb.all AK.live&&nodupB a&&a.all (λk=> !Oc k A)&&Kv 100 A&&Nat.ble (lN a) 8 with
  |true=>sM {r:=r.Bh<|FB b a,AV:=u.map λc=>(c.1,c.2.Bh<|FB b a),nb:=nb.map<|AK.Bh<|FB b a,J:=f.σ.im}
  |false=>nO
 |_,_,_,_=>nO
theorem Wu:∀ {l:AA Nat},l.Nodup->∀ {i j:Nat} (a:i<lN l) (b:j<lN l),l[i]=l[j]->i=j
 |x::l,h,i,j,a,b,e=>by
  let⟨d,c⟩:=GX.1 h;cases i with
  |zero=>
   grind
  |succ i=>
   cases j with
   |zero=>grind
   |succ j=>
    have:=Wu (i:=i) (j:=j) c (by simpa using a) (by simpa using b) (by simpa using e);rw[this]
def Kn(P:B7)(F:Ba)(b:Func)(n:Nat)(I:AB)(w:AN)(c:Nat->Nat)(A:AA Nat)(a:AA Deferred):Ctx:=⟨P,F,b,I,n,w,c,A,a⟩
def AMm{P F fn n I w ρ A c Φ L}(hL:Ed P L){f}(ks){h ds}
 (hend:KY L fn.results.toList A ks c f=sM h) (an:100<=c) (am:Φ c h):∀d a w',Rel (Kn P F fn n I w ρ A ds) f.σ d a w'->ADE f.todo/\f.rg=nO/\∃v,(results fn a.tmps).run P w'=.ok v w'/\Rf P I ρ c w A Φ nO (.returned v) w':=by
 let⟨Y,ao,rg,ap⟩:=f;rw[KY]at hend;split at hend
 case h_2=>cases hend
 rename_i r u nb ae h3 h4 h5;split at hend
 case h_2=>cases hend
 rename_i V;cases hend;simp only[CJ,Nc]at ae V;let⟨⟨⟨⟨⟨⟨⟨c1,c2⟩,c3⟩,c4⟩,c5⟩,c6⟩,c7⟩,c8⟩:=V;let⟨h1,h2⟩:=ae;subst h1;intro d a w' R;have R:Rel (Kn P F fn n I w ρ A ds) Y d a w':=R;let⟨u1,u2⟩:=AF0 h4;let⟨n1,n2⟩:=AHv h5;have ak:=UT c5;have p:∀k∈ks,k∉A:=λk s Z=>by have:=EQ.1 c6 k s;simp only[Jf]at this;have h2:Oc k A:=Wl Z;rw[h2]at this;cases this
 have ai:=Aal hL R h3;let q:Nat->Nat:=λj=>match ks[j]? with|some k=>d k|none=>0
 have Q:∀k∈A++ks,Ab.Bh {r:=r.Bh<|FB c ks,AV:=u.map λK=>(K.1,K.2.Bh<|FB c ks),nb:=nb.map<|AK.Bh<|FB c ks,J:=Y.im} ρ c q (FB c ks k)=d k:=by
  intro k s;by_cases ac:k∈ks;let⟨j,g⟩:=ADw ac;have ab:=WT g;have:FB c ks k=c+j:=by rw[FB];rw[g]
  rw[this];have ad:j<lN nb:=by rw[n1];rcases Jj j (lN ks) with l|l;exact l;rw[Jh l]at ab;cases ab
  rw[Mm (b:=(nb[j]).Bh<|FB c ks)<|by simp[ad]];show(match ks[j]? with|some k=>d k|none=>0)=d k;rw[ab];have Z:=(Bc.1 s).resolve_right ac;have:FB c ks k=k:=by
   rw[FB];cases e:idxOf k ks with
   |none=>rfl
   |some j=>exact(ac<|De<|WT e).elim
  rw[this,F7];exact(R.ad k Z).symm;rw[CX];have:Nat.ble c k=fF:=by
   have:=(UF c7) k Z;cases e:Nat.ble c k with
   |false=>rfl
   |true=>have:=LL e;omega
  rw[this]
 have z:∀ {l:AA Nat},GM l (A++ks)->∀k∈l,k∈A++ks:=λhs k s=>UQ<|EQ.1 hs k s;have af:∀x:SV,(∀k∈x.A3,k∈A++ks)->AO (Ab.Bh {r:=r.Bh<|FB c ks,AV:=u.map λK=>(K.1,K.2.Bh<|FB c ks),nb:=nb.map<|AK.Bh<|FB c ks,J:=Y.im} ρ c q) (x.Bh<|FB c ks)=AO d x:=λx X=>by rw[PH];exact Ko x λk s=>Q k<|X k s
 have O:∀b:AK,(∀k∈b.A3,k∈A++ks)->(b.Bh<|FB c ks).AO (Ab.Bh {r:=r.Bh<|FB c ks,AV:=u.map λK=>(K.1,K.2.Bh<|FB c ks),nb:=nb.map<|AK.Bh<|FB c ks,J:=Y.im} ρ c q)=b.AO d:=λb N=>by rw[AK.PH];exact AK.Ko b λk s=>Q k<|N k s
 have live:∀(j:Nat)(b:AK),nb[j]? =sM b->b.live:=λj b g=>EQ.1 c4 b<|De g;have tk:∀k∈A++ks,FB c ks k∈A\/(CX c (nb.map<|AK.Bh<|FB c ks)<|FB c ks k).isSome:=by
  intro k s;rw[FB];cases e:idxOf k ks with
  |none=>exact .inl ((Bc.1 s).resolve_right λhm=>by let⟨j,g⟩:=ADw hm;rw[e]at g;cases g)
  |some j=>
   right;have h1:=WT e;have ad:j<lN ks:=by rcases Jj j (lN ks) with l|l;exact l;rw[Jh l]at h1;cases h1
   show(CX c _<|c+j).isSome;rw[Nv];simp[n1,ad]
 have wf:Ab.LD {r:=r.Bh<|FB c ks,AV:=u.map λK=>(K.1,K.2.Bh<|FB c ks),nb:=nb.map<|AK.Bh<|FB c ks,J:=Y.im} c A:=by
  have go:∀ {l:AA Nat},GM l (A++ks)->∀k∈l.map (FB c ks),k∈A\/(CX c (nb.map<|AK.Bh<|FB c ks) k).isSome:=by intro l M k s;obtain⟨x,X,rfl⟩:=BI.1 s;exact tk x<|z M x X
  refine⟨λk s=>go c1 k<|by rwa[<-Qp],λK aa=> ?_,λb N k s=> ?_,by simp[n1];exact LL c8,?_⟩;obtain⟨x,X,rfl⟩:=BI.1 aa;refine⟨(u1 x X).1,λk s=> ?_⟩;simp only[AK.Qp]at s;obtain⟨y,hy,rfl⟩:=BI.1 s;exact tk y<|z c2 y<|SN X hy;obtain⟨x,X,rfl⟩:=BI.1 N;rw[AK.Qp]at s;obtain⟨y,hy,rfl⟩:=BI.1 s;exact tk y<|z c3 y<|LJ.2 ⟨x,X,hy⟩;rw[Gk];show(u.map (·.1)).Nodup;rw[AFz h4];exact R.na
 have Bz:Rf P I ρ c w A Φ nO (.returned<|AO d r) w':=by
  refine⟨_,q,⟨am,wf,R.lm⟩,⟨R.os,R.tape,R.output,R.sz,?_,?_,?_,?_,R.im,?_,?_⟩,by rw[<-af r<|z c1]⟩;intro b N al hO;refine R.fr b N (λk aj=> ?_) hO;let⟨bk,T⟩:=u2 k aj;exact al (k,bk.Bh<|FB c ks)<|BI.2 ⟨(k,bk),T,rfl⟩;intro K aa o ho;obtain⟨E,W,rfl⟩:=BI.1 aa;let⟨Z,hp⟩:=u1 E W;simp only at ho⊢;rw[O E.2 λk s=>z c2 k<|SN W s]at ho;have e1:=Q E.1<|GC _ Z;have e2:FB c ks E.1=E.1:=by
   rw[FB];cases e:idxOf E.1 ks with
   |none=>rfl
   |some j=>exact(p _ (De<|WT e) Z).elim
  rw[e2]at e1;rw[e1];exact R.hp E.1 E.2 o hp ho;intro j b g;simp only[GB,L9]at g;obtain⟨S,B,rfl⟩:=g;let⟨k,C,m⟩:=n2 j S B;have D:k∈ks:=De C;have M:=live j S B;have qj:q j=d k:=by show(match ks[j]? with|some k=>d k|none=>0)=d k;rw[C]
  let⟨o,ho⟩:=AK.UI M d;refine⟨?_,by rwa[AK.UJ],?_⟩;rw[O S λH t=>z c3 H<|LJ.2 ⟨S,De B,t⟩,ho,qj];exact R.hp k S o m ho;rw[qj];rcases R.nw k ⟨S,m,M⟩with G|⟨H,t,G⟩;exact .inl G;right;let⟨bk,T⟩:=u2 H t;refine⟨(H,bk.Bh<|FB c ks),BI.2 ⟨(H,bk),T,rfl⟩,?_,G⟩;let⟨_,hp⟩:=u1 _ T;cases bk with
  |gone=>rfl
  |cells l e=>
   have:=R.inj k H ⟨S,m,M⟩ ⟨_,hp,rfl⟩ (by rw[G,<-R.ad H t]);rw[this]at D;exact(p _ D t).elim
  |As l e=>
   have:=R.inj k H ⟨S,m,M⟩ ⟨_,hp,rfl⟩ (by rw[G,<-R.ad H t]);rw[this]at D;exact(p _ D t).elim
  |Ey l e=>
   have:=R.inj k H ⟨S,m,M⟩ ⟨_,hp,rfl⟩ (by rw[G,<-R.ad H t]);rw[this]at D;exact(p _ D t).elim
  |Aq o=>
   have:=R.inj k H ⟨S,m,M⟩ ⟨_,hp,rfl⟩ (by rw[G,<-R.ad H t]);rw[this]at D;exact(p _ D t).elim
  intro i j U g e;simp only[DG]at U g;rw[n1]at U g;have ei:q i=d ks[i]:=by show(match ks[i]? with|some k=>d k|none=>0)=_;rw[BS U]
  have ej:q j=d ks[j]:=by show(match ks[j]? with|some k=>d k|none=>0)=_;rw[BS g]
  have M:∀i (U:i<lN ks),HJ Y.hp ks[i]:=λi U=>by
   have ag:i<lN nb:=by rwa[n1]
   let⟨k,C,m⟩:=n2 i nb[i]<|BS ag;rw[BS U]at C;cases C;exact⟨_,m,live i _<|BS ag⟩
  have:=R.inj _ _ (M i U) (M j g) (by rwa[<-ei,<-ej]);exact Wu ak U g this;intro b o N;rcases R.fs b o N with G|G;exact .inl G;by_cases hex:∃j,j<lN nb/\b=q j;let⟨j,g,e⟩:=hex;exfalso;let⟨k,C,m⟩:=n2 j nb[j]<|BS g;have qj:q j=d k:=by show(match ks[j]? with|some k=>d k|none=>0)=d k;rw[C]
  have:=R.dj k ⟨_,m,live j _<|BS g⟩;rw[<-qj,<-e]at this;have B:Y.im b=sM o:=N;rw[this.1]at B;cases B;exact .inr ⟨G,λj g e=>hex ⟨j,by simpa using g,e⟩⟩;intro b o N;rcases R.GV b o N with G|G;exact .inl G;by_cases hex:∃j,j<lN nb/\b=q j;let⟨j,g,e⟩:=hex;exfalso;let⟨k,C,m⟩:=n2 j nb[j]<|BS g;have qj:q j=d k:=by show(match ks[j]? with|some k=>d k|none=>0)=d k;rw[C]
  have:=R.dj k ⟨_,m,live j _<|BS g⟩;rw[<-qj,<-e]at this;have B:Y.im.Ak b=sM o:=N;rw[this.2]at B;cases B;exact .inr ⟨G,λj g e=>hex ⟨j,by simpa using g,e⟩⟩
 exact⟨h2,rfl,_,ai,Bz⟩
def AMn{P F fn n I w i A b q L}(t:Ed P L)(u:P.funcs[F]? =sM fn){f}(p){h}
 (hend:KY L fn.results.toList A p b f=sM h) (e:100<=b) (j:q b h):GG (ctx P F fn n I w i A) (Rf P I i b w A q nO) f:=by
 let⟨C,g,z,s⟩:=f;obtain rfl:z=nO:=by rw[KY]at hend;ext;grind
 intro _ m a k R B;let⟨o,_,v,c,Bz⟩:=(AMm (F:=F) (n:=n) (w:=w) (ρ:=i) (I:=I) (ds:=[]) t p hend e j) m a k R;have d:(ctx P F fn n I w i A).P.funcs[(ctx P F fn n I w i A).f]? =sM fn:=u;cases g with
 |nil=>exact⟨_,k,_,Bz,.one step_end,rfl,rfl,R.nd,rfl,fn,d,c⟩
 |cons x l=>
  cases x with
  |code r=>
   cases r with
   |ret=>exact⟨_,k,_,Bz,.one step_ret,rfl,rfl,R.nd,rfl,fn,d,c⟩
   |_=>cases o
  |_=>cases o
def BA:AA (Nat×Nat)->Nat->Nat
 |[],k=>k
 |(a,b)::l,k=>match Nat.beq k a with|true=>b|false=>BA l k
def AFg:∀ {c:AA<|Nat×Nat},Kv 100 (c.map (·.1))->∀k,100<=k->BA c k=k
 |[],_,_,_=>rfl
 |(a,b)::l,h,k,hk=>by
  simp[E4,Kv,CJ,TE]at h;simp[BA];have:Nat.beq k a=fF:=by
   cases e:Nat.beq k a with
   |false=>rfl
   |true=>have:=Ha e;omega
  rw[this];exact AFg h.2 k hk
def Ab.rn(a:Nat->Nat)(h:Ab):Ab:={r:=h.r.Bh a,AV:=h.AV.map λb=>(a b.1,b.2.Bh a),nb:=h.nb.map<|AK.Bh a,J:=h.J}
def JU(c:Nat->Nat)(a:AA<|Nat×AK):AA (Nat×AK):=a.map λb=>(c b.1,b.2.Bh c)
def AEr{b:Type}(a:Ae b):Bool:=AAD a.toList
def Yd(c:Nat->SV)(o:Op):AU (Ba×AA SV):=
 match o with
 | .call {callee:=.value f,args:=args,..}=>match ev c f with
   | .v (.func (.func F) a b)=>match AEr a&&AEr b with
     |true=>sM (F,NA c args.toList)
     |false=>nO
   | .fn (.func F) a b=>sM (F,a++NA c args.toList++b)
   |_=>nO
 |_=>nO
def Enters(P:B7)(F:Ba):Prop:=∀a w,(callFunc F a).run P w=.ok (.enter F a) w
def JL{P F a}(g:P.funcs[F]? =sM a)(c:a.body.isSome)(h:(a.name== "runtime.NumGoroutine")=fF):Enters P F:=by
 intro b w;have d: ¬a.name= "runtime.NumGoroutine" :=by simpa using h
 have f: ¬a.body=nO:=by intro e;rw[e]at c;cases c
 simp[callFunc,program,Sem.run,g,d,f]
def ALd{b:Type}{a:Ae b}(h:AEr a):a=#[]:=Lu.1<|AEs h
def ARR{P}{o:Bw}{g F c}(h:Yd g o.op=sM (F,c))(hE:Enters P F){i}{a:Act}(l:∀x∈o.op.operands,a.eval x=AO i (ev g x))(w):
 (execOp a.eval o).run P w=.ok (.enter F (BB i c).toArray) w:=by
 unfold Yd at h;split at h;rename_i f k t j;have m:f∈o.op.operands:=by simp[j,Op.operands,Call.operands]
 have e:(k.map a.eval)=(BB i<|NA g k.toList).toArray:=by apply Lu.1;rw[VG,Hw,Y3,Gk];exact JD λp s=>l p (by simp[j,Op.operands,Call.operands];grind)
 split at h;rename_i n x y d;split at h;rename_i b;cases h;simp only[CJ]at b;have q:=ALd b.1;have r:=ALd b.2;subst q r;simp only[execOp,j,resolve,l f m,d,AO,Deferred.ofValue,e,Sem.run_bind,Sem.run_pure,Result.andThen_ok,invoke];simpa using hE (BB i<|NA g k.toList).toArray w;cases h;rename_i n x y d;cases h;simp only[execOp,j,resolve,l f m,d,AO,Deferred.ofValue,e,Sem.run_bind,Sem.run_pure,Result.andThen_ok,invoke];have:=hE (BB i<|x++NA g k.toList++y).toArray w
 grind[Ru]
 cases h;cases h
theorem ALS{a b f k}:CX a (b.map f) k=(CX a b k).map f:=by grind[CX]
def ART{P}{o:Bw}{tm F n}{need:AA<|Nat×AK}{I:AB}{Φ C}{d:AA<|Nat×Nat}{c}(t:Yd tm o.op=sM (F,IN (BA d) n))(hE:Enters P F)(M:FC P F n need I Φ C)
 (H:100<=c) (T:Kv 100 (d.map (·.1))) (z:Kv 100 (need.map (·.1))) (v:SL need) (R:nodupB ((JU (BA d) need).map (·.1))):
 HS P o tm c (JU (BA d) need) I (λh'=>∃h,(Φ c h/\h.LD c (need.map (·.1))/\I.Da h.J)/\h'=h.rn (BA d)) C:=by
 refine⟨?_⟩;intro s a w he hN hI ac Z ad af next Q hnext aa;have ab:=AFg T;have ae:=UF z;have N:=UT R;have lv:∀g∈need,g.2.live:=λg f=>EQ.1 v g f;have J:∀g∈need,(BA d g.1,g.2.Bh<|BA d)∈JU (BA d) need:=λg f=>BI.2 ⟨g,f,rfl⟩;have X:∀x∈need,∀y∈need,BA d x.1=BA d y.1->x.1=y.1:=by
  have:(need.map λg=>BA d g.1).Nodup:=by
   have e:(JU (BA d) need).map (·.1)=need.map λg=>BA d g.1:=by simp[JU,Gk,Function.comp_def]
   rwa [e]at N
  intro x hx y hy e;obtain⟨i,Y,rfl⟩:=Kc hx;obtain⟨j,E,rfl⟩:=Kc hy;have:=Wu this (i:=i) (j:=j) (by simpa using Y) (by simpa using E) (by simpa using e);subst this;rfl
 have hc:=M (λk=>s<|BA d k) c w H (λg f B m=>hN _ (J g f) B<|by grind[AK.PH]) hI ((by grind[AK.UJ]))
  ((by grind[AK.UJ]))
 have r:=ARR (P:=P) t hE he w;rw[QV]at r;have K:∀k∈need.map (·.1),¬E8 c (BA d k):=by grind
 unfold Oper.wp;rw[r,Oper.upon_enter];refine hc.mono λe w' O=> ?_;obtain⟨h,q,⟨U,D,hle⟩,A,rfl⟩:=O;have hR:∀k,(k∈need.map (·.1)\/(CX c h.nb k).isSome)->(h.rn<|BA d).Bh s c q (BA d k)=h.Bh (λk=>s<|BA d k) c q k:=by
  intro k L;unfold Ab.Bh Ab.rn;simp[ALS];rcases L with L|L;have h1:CX c h.nb k=nO:=Qw D.l (by grind[E8]);have h2:CX c h.nb (BA d k)=nO:=Qw D.l<|K k L;rw[h1,h2];rfl
  grind[Wo]
 have u:∀x:SV,(∀k∈x.A3,k∈need.map (·.1)\/(CX c h.nb k).isSome)->AO ((h.rn<|BA d).Bh s c q) (x.Bh<|BA d)=AO (h.Bh (λk=>s<|BA d k) c q) x:=by grind[PH,Ko]
 have l:∀b:AK,(∀k∈b.A3,k∈need.map (·.1)\/(CX c h.nb k).isSome)->(b.Bh<|BA d).AO ((h.rn<|BA d).Bh s c q)=b.AO (h.Bh (λk=>s<|BA d k) c q):=by grind[AK.PH,AK.Ko]
 have A':After I s w w' c q (h.rn<|BA d):=by
  refine⟨A.os,A.tape,A.output,A.size,λb p S hO=>A.A2 b p (λg f=>S _<|BI.2 ⟨g,f,rfl⟩) hO,?_,?_,?_,A.H2,?_,?_⟩;intro ag G B m;obtain⟨g,f,rfl⟩:=BI.1 G;let⟨u1,u2⟩:=D.u g f;simp only at m⊢;rw[l g.2 u2]at m;rw[hR g.1<|.inl u1];exact A.AV g f B m;intro j b' E;simp[Ab.rn,GB,L9]at E;obtain⟨b,p,rfl⟩:=E;let⟨n1,n2,V⟩:=A.nb j b p;refine⟨by rw[l b<|D.n b<|De p];exact n1,by rw[AK.UJ];exact n2,?_⟩;rcases V with V|⟨g,f,e1,e2⟩;exact .inl V;exact .inr ⟨_,BI.2 ⟨g,f,rfl⟩,by simp[e1,AK.Bh],e2⟩;intro i j Y E e;exact A.qi i j (by grind[Ab.rn]) (by grind[Ab.rn]) e;intro b B p;rcases A.fresh b B p with W|⟨q1,q2⟩;exact .inl W
  grind[Ab.rn]
  intro b B p;rcases A.IX b B p with W|⟨q1,q2⟩;exact .inl W
  grind[Ab.rn]
 cases C with
 |none=>
  simp only;rw[<-u h.r D.r];exact hnext rfl (h.rn<|BA d) w' q ⟨h,⟨U,D,hle⟩,rfl⟩ A'
 |some ch=>
  grind
def AMv{h:Ab}{key}{need:List (Nat×AK)}{I:AB}{th:List (Nat×Nat)}(wf:h.LD key (need.map (·.1)))(hle:I.Da h.J)(t:100<=key)(q:Kv 100 (th.map (·.1)))(a:SL need)(p:nodupB ((JU (BA th) need).map (·.1))):
 (h.rn (BA th)).wf I key (JU (BA th) need) []:=by
 have g:=AFg q;have v:=UT p;have C:(JU (BA th) need).map (·.1)=need.map λkb=>BA th kb.1:=by simp[JU,List.map_map,Function.comp_def]
 have f:∀k,k∈need.map (·.1)->BA th k∈(JU (BA th) need).map (·.1):=by grind
 have tr:∀k,(k∈need.map (·.1)\/(CX key h.nb k).isSome)->BA th k∈(JU (BA th) need).map (·.1)++[]\/(CX key (h.rn (BA th)).nb (BA th k)).isSome:=λk hk=>by
  rcases hk with hk|hk
  grind
  right;obtain⟨b,hb⟩:=Option.isSome_iff_exists.1 hk;obtain⟨j,e,_⟩:=Wo hb;rw[g k oG];show(CX key (h.nb.map (AK.Bh (BA th))) k).isSome;rw[ALS,hb];rfl
 have i:∀ {ks:List Nat},(∀k∈ks,k∈need.map (·.1)\/(CX key h.nb k).isSome)->∀k∈ks.map (BA th),k∈(JU (BA th) need).map (·.1)++[]\/(CX key (h.rn (BA th)).nb k).isSome:=by grind
 refine{r:= ?_,u:= ?_,n:= ?_,l:=by simpa[Ab.rn]using wf.l,le:=hle,d:= ?_};intro k hk;rw[show(h.rn (BA th)).r=h.r.Bh (BA th)from rfl,Qp]at hk;exact i wf.r k hk;intro A c;obtain⟨kb,o,rfl⟩:=List.mem_map.1 c;obtain⟨B,E⟩:=wf.u kb o;refine⟨f _ B,λb hb=> ?_,λk hk=> ?_⟩;obtain⟨x,s,e⟩:=List.mem_map.1 hb;have:b=x.2.Bh (BA th):=(Prod.mk.inj e).2.symm;rw[this,AK.UJ];exact List.all_eq_true.1 a x s
 grind[AK.Qp]
 intro b' m k hk;obtain⟨b,hb,rfl⟩:=List.mem_map.1 m;rw[AK.Qp]at hk;exact i (wf.n b hb) k hk;show((h.AV.map (λkb=>(BA th kb.1,kb.2.Bh (BA th)))).map (·.1)).Nodup;rw[List.map_map];show(h.AV.map (λkb=>BA th kb.1)).Nodup;have hd:=wf.d;rw[List.nodup_iff_pairwise_ne]at hd⊢;rw[List.pairwise_map]at hd⊢;refine hd.imp_of_mem λ{x y} s hy hne e=>hne ?_;obtain⟨x',w,ex⟩:=List.mem_map.1 (wf.u x s).1;obtain⟨y',z,D⟩:=List.mem_map.1 (wf.u y hy).1
 grind[List.getElem_of_mem,Wu]
def ACj(f:Bv)(n F:Nat)(b:AA<|Nat×Nat)(a:AA<|Nat×AK)(d:AA Nat):AU (AA SV×AA (AU AK)×AB):=
 match f.rg with
 |some ⟨g,i::_,c⟩=>match g.Aj[i]? with
  |some o=>match want g.Aj f.σ.tm o,Yd f.σ.tm o.op with
   |some tT,sM (F',args)=>match Nat.beq F F'&&LX o.op&&To n o.dst&&OY g i ((JU (BA b) a).map (·.1))&&(!g.drawn||d.all (λk=>Q8 g i (BA b k) c))&&nodupB ((JU (BA b) a).map (·.1))&&SL a&&Kv 100 (a.map (·.1))&&Kv 100 (b.map (·.1))&&Nat.ble 100 g.Cp with
    |true=>sM (args,a.map λe=>f.σ.hp<|BA b e.1,f.σ.im)
    |false=>nO
   |_,_=>nO
  |none=>nO
 |_=>nO
def EL(f:Bv):Nat:=match f.rg with
 |some ⟨g,i::_,_⟩=>g.key i
 |_=>0
def Bv.out(f:Bv)(b:Nat->Nat)(h:Ab):Bv:=match f.rg with
 |some ⟨g,i::is,a⟩=>match g.Aj[i]? with
  |some o=>⟨f.σ.EV o.dst (g.key i)<|h.rn b,f.todo,sM ⟨g,is,a⟩,f.Bq⟩
  |none=>f
 |_=>f
def ACl{c:Ctx}{R}{f:Bv}{F x}{d:AA<|Nat×AK}{I O v}(V:FC c.P F x d I O v)(hE:Enters c.P F)(m C)
 (a:ACj f c.n F m d C=sM (IN (BA m) x,d.map λp=>sM<|p.2.Bh<|BA m,I)) (K:∀M h,O M h->h.LD M (d.map (·.1))->∀p∈h.AV,p.1∈C)
 (hnext:v=nO->∀h,O (EL f) h->GG c R (f.out (BA m) h)) (G:∀N,v=sM N->∀h,O (EL f) h->M1 c R N (f.σ.EV nO (EL f)<|h.rn<|BA m)):GG c R f:=by
 let⟨w,ae,rg,af⟩:=f;rw[ACj]at a;split at a
 case h_2=>cases a
 rename_i g i is ac H;simp only at H;subst H;split at a
 case h_2=>cases a
 rename_i o ho;split at a
 case h_2=>cases a
 rename_i F' P hw z;split at a
 case h_2=>cases a
 rename_i y;simp only[QB,QC]at a;let⟨e1,e2,e3⟩:=a;simp only[CJ]at y;let⟨⟨⟨⟨⟨⟨⟨⟨⟨c1,c2⟩,c3⟩,c4⟩,c5⟩,Q⟩,S⟩,c8⟩,T⟩,c10⟩:=y;have eF:=Ha c1;subst eF e1 e3;have X:=LL c10;have u:100<=g.key i:=by rw[ES.key];omega
 intro A hwf;simp only at A hwf;have D:∀p∈JU (BA m) d,w.hp p.1=sM p.2:=λab t=>by obtain⟨p,l,rfl⟩:=BI.1 t;exact(VP.1 e2) p l
 refine⟨o,ho,c3,A.Tv,.inr ⟨JU (BA m) d,[],_,v,⟨hw,c2,ART z hE V u T c8 S Q,D,nA,?_,?_,?_⟩,?_,?_⟩⟩;rw[Hn];exact Wc c4;rintro hd ik Z U ⟨h,⟨q,aa,_⟩,rfl⟩ hm;let⟨ab,t,e⟩:=BI.1 hm;obtain⟨p,l,rfl⟩:=BI.1 t;have h5:C.all (λk=>Q8 g i (BA m k) ac):=by rw[hd]at c5;simpa using c5
 exact AAX (EQ.1 h5 p.1<|K _ h q aa p l) ik Z e.symm;rintro U ⟨h,⟨q,wf,hle⟩,rfl⟩;exact AMv wf hle u T S Q;rintro hp U ⟨h,⟨q,wf,hle⟩,rfl⟩;have hG:=hnext hp h q;simp only[Bv.out,ho]at hG;have W:=AMv (I:=w.im) wf hle u T S Q;have hs:∀k∈(JU (BA m) d).map (·.1),(w.hp k).isSome:=λk n=>by obtain⟨p,l,rfl⟩:=BI.1 n;rw[D p l];rfl
 have B:∀k,(k∈(JU (BA m) d).map (·.1)++[]\/(CX (g.key i) (h.rn<|BA m).nb k).isSome)->((h.rn<|BA m).hp (g.key i) w.hp k).isSome:=λk n=>by rcases n with n|n;rw[Hn]at n;exact Nn<|hs k n;let⟨b,r⟩:=Mz.1 n;rw[Qi r];rfl
 have ad:WF ⟨w.tm,(h.rn<|BA m).hp (g.key i) w.hp,(h.rn<|BA m).J⟩:=by
  refine⟨λs k n=>Nn<|hwf.1 s k n,λk b L r n=> ?_⟩;have r:(h.rn<|BA m).hp (g.key i) w.hp k=sM b:=r;cases hn:CX (g.key i) (h.rn<|BA m).nb k with
  |some b'=>
   rw[Qi hn]at r;cases r;let⟨j,_,hj⟩:=Wo hn;exact B L<|W.n b (De hj) L n
  |none=>
   rw[ADu hn]at r;by_cases J:k∈(h.rn<|BA m).AV.map (·.1);obtain⟨p,l,rfl⟩:=BI.1 J;rw[WE l W.d]at r;cases r;exact B L<|(W.u p l).2.2 L n;rw[WG J]at r;exact Nn<|hwf.2 k b L r n
 refine hG (A.tail λk=> ?_)<|ad.put λk n=>B k<|W.r k n;show(St.put _ _ _).hp k=_\/_;rw[Lj];show(h.rn<|BA m).hp (g.key i) w.hp k=w.hp k\/_;by_cases E:E8 (g.key i) k;exact .inr<|.inl E;by_cases J:k∈(h.rn<|BA m).AV.map (·.1);obtain⟨p,l,rfl⟩:=BI.1 J;exact .inr<|.inr<|hs _ (W.u p l).1;exact .inl<|ZP W.l E J;rintro N Y U ⟨h,⟨q,_⟩,rfl⟩;exact G N Y h q
def Mo(f:Bv):Bw:=match f.rg with
 |some ⟨g,i::_,_⟩=>(g.Aj[i]?).getD Al
 |_=>Al
def ACE(f:Bv)(n:Nat)(a:AA<|Nat×AK)(c:AA Nat):AU (AA (AU AK)×AB):=
 match f.rg with
 |some ⟨g,i::_,b⟩=>match g.Aj[i]? with
  |some o=>match want g.Aj f.σ.tm o with
   |some tT=>match LX o.op&&To n o.dst&&OY g i (a.map (·.1))&&(!g.drawn||c.all (λk=>Q8 g i k b))&&Nat.ble 100 g.Cp with
    |true=>sM (a.map λd=>f.σ.hp d.1,f.σ.im)
    |false=>nO
   |_=>nO
  |none=>nO
 |_=>nO
def Bv.act(f:Bv)(h:Ab):Bv:=match f.rg with
 |some ⟨g,i::is,a⟩=>match g.Aj[i]? with
  |some o=>⟨f.σ.EV o.dst (g.key i) h,f.todo,sM ⟨g,is,a⟩,f.Bq⟩
  |none=>f
 |_=>f
def ALr(w:AN)(o i)(h:i<w.heap.size):(w.alloc o).heap[i]? =w.heap[i]? :=by
 show(w.heap.push o)[i]? =_
 grind
def AP5{c}{R}{f}{need}{I}{y}(r)(hobs:ACE f c.n need r=some (need.map (λkb=>some kb.2),I))(t:HS c.P (Mo f) f.σ.tm (EL f) need I y none)
 (x: ∀h,y h->∀kb∈h.AV,kb.1∈r) (hwf: ∀h,y h->h.wf I (EL f) need []) (hnext: ∀h,y h->GG c R (f.act h)):GG c R f:=by
 let⟨σ,todo,rg,Bq⟩:=f;rw[ACE]at hobs;split at hobs
 case h_2=>cases hobs
 rename_i g i is CY w;simp only at w;subst w;split at hobs
 case h_2=>cases hobs
 rename_i o B;split at hobs
 case h_2=>cases hobs
 rename_i hw;split at hobs
 case h_2=>cases hobs
 rename_i n;simp only[Option.some.injEq,Prod.mk.injEq]at hobs;let⟨E,F⟩:=hobs;simp only[Bool.and_eq_true]at n;let⟨⟨⟨⟨c2,c3⟩,c4⟩,c5⟩,c10⟩:=n;subst F;have l:Mo ⟨σ,todo,some ⟨g,i::is,CY⟩,Bq⟩=o:=by simp[Mo,B]
 rw[l]at t;intro p d;simp only at p d;have u: ∀kb∈need,σ.hp kb.1=some kb.2:=λkb a=>(List.map_inj_left.1 E) kb a;refine⟨o,B,c3,p.Tv,.inr ⟨need,[],y,none,⟨hw,c2,t,u,(λk hk=>by cases hk),?_,?_,hwf⟩,?_,(λ_ e=>by cases e)⟩⟩;rw[List.append_nil];exact Wc c4;intro hd H z h m hm;let⟨kb,a,e⟩:=List.mem_map.1 hm;have G:r.all (λk=>Q8 g i k CY)=true:=by rw[hd]at c5;simpa using c5
 exact AAX (List.all_eq_true.1 G kb.1 (x h m kb a)) H z e.symm;intro _ h m;have D:=hnext h m;simp only[Bv.act,B]at D;have W:=hwf h m;have hs: ∀k∈need.map (·.1),(σ.hp k).isSome=true:=λk hk=>by obtain⟨kb,a,rfl⟩:=List.mem_map.1 hk;rw[u kb a];rfl
 have q: ∀k,(k∈need.map (·.1)++[]\/(CX (g.key i) h.nb k).isSome=true)->(h.hp (g.key i) σ.hp k).isSome=true:=λk hk=>by rcases hk with hk|hk;rw[List.append_nil]at hk;exact Nn (hs k hk);let⟨b,hb⟩:=Option.isSome_iff_exists.1 hk;rw[Qi hb];rfl
 have C:WF ⟨σ.tm,h.hp (g.key i) σ.hp,h.J⟩:=by
  refine⟨λs k hk=>Nn (d.1 s k hk),λk b k' hb hk=> ?_⟩;have hb:h.hp (g.key i) σ.hp k=some b:=hb;cases A:CX (g.key i) h.nb k with
  |some b'=>
   rw[Qi A]at hb;cases hb;let⟨j,_,hj⟩:=Wo A;exact q k' (W.n b (List.mem_of_getElem? hj) k' hk)
  |none=>
   rw[ADu A]at hb;by_cases hu:k∈h.AV.map (·.1);obtain⟨kb,a,rfl⟩:=List.mem_map.1 hu;rw[WE a W.d]at hb;cases hb;exact q k' ((W.u kb a).2.2 k' hk);rw[WG hu]at hb;exact Nn (d.2 k b k' hb hk)
 refine D (p.tail λk=> ?_) (C.put λk hk=>q k (W.r k hk));show(St.put _ _ _).hp k=_\/_;rw[Lj];show h.hp (g.key i) σ.hp k=σ.hp k\/_;by_cases v:E8 (g.key i) k;exact .inr (.inl v);by_cases hu:k∈h.AV.map (·.1);obtain⟨kb,a,rfl⟩:=List.mem_map.1 hu;exact .inr (.inr (hs _ (W.u kb a).1));exact .inl (ZP W.l v hu)
structure Reads(I:AB)(need:AA (Nat×AK))(x:SV)(size m:Nat)(xs:AA AF):Prop where
 len:lN xs=m*size
 one:∀v∈xs,v.oneCell'
 at_:∀(ρ:Nat->Nat)(w:AN),Has w ρ need->Holds w I->(∃c,AO ρ x=.slice nO 0 c/\m=0)\/(∃ad c,AO ρ x=.slice (sM ad) m c/\∀j u,xs[j]? =sM u->w.cell? (ad.add j)=sM u)
def Te{w:AN}{b off}{arr:Ae AF}{e c n}(h:w.heap[b]? =sM (.cells arr e c)):∀j u,((arr.toList.drop off).take n)[j]? =sM u->w.cell? ((⟨b,off,nO⟩:Au).add j)=sM u:=λj u a=>by rw[Addr.add_mid];rw[GO]at a;split at a;rw[Jg]at a;simpa[World.cell?,h]using a;cases a
def Aah{I d a m c b f arr e g xs}(h:I b=sM (.cells arr e g))(l:(arr.toList.drop f).take (m*a)=xs)(k:lN xs=m*a)(i:∀v∈xs,v.oneCell'):
 Reads I d (.v<|.slice (aO b f) m c) a m xs:=
 ⟨k,i,λn w _ j=>.inr ⟨_,c,rfl,by rw[<-l];exact Te<|j.1 b _ h⟩⟩
def Aaj{I d a m c b f arr e g xs}(h:I.CW b=sM (.cells arr e g))(l:(arr.toList.drop f).take (m*a)=xs)(k:lN xs=m*a)(i:∀v∈xs,v.oneCell'):
 Reads I d (.v<|.slice (aO b f) m c) a m xs:=
 ⟨k,i,λn w _ j=>.inr ⟨_,c,rfl,by rw[<-l];exact Te<|j.CW b _ h⟩⟩
def Ol{I b d c a}:Reads I b (.v<|.slice a 0 c) d 0 []:=
 ⟨sP,nA,λg w _ _=>by
   cases a with
   |none=>exact .inl ⟨c,rfl,rfl⟩
   |some a=>exact .inr ⟨a,c,rfl,λj u e=>by simp at e⟩⟩
def Ez{I b a m c k e}{xs:AA AF}(h:(k,AK.cells (xs.map .v) e)∈b)(f:lN xs=m*a)(d:∀v∈xs,v.oneCell'):Reads I b (.s k 0 m c) a m xs:=
 ⟨f,d,λg w hN _=>.inr ⟨_,c,rfl,by
   have:=Te (off:=0) (n:=m*a)<|hN _ h _ rfl
   grind[Gw]⟩⟩
def O9(a:Nat->SV)(o:Op):AU (BN×SV×SV):=
 match o with
 | .call {callee:=.builtin .append,args:=args,argTypes:=ts}=>match args.toList,ts.toList with
   |[l,x],[t,t']=>match Nat.beq t t' with
    |true=>sM (t,ev a l,ev a x)
    |false=>nO
   |_,_=>nO
 |_=>nO
def Vg{P}{o:Bw}{k t l x}(h:O9 k o.op=sM (t,l,x)){g}{a:Act}(i:∀x∈o.op.operands,a.eval x=AO g (ev k x)){w m v}(s:(Builtin.append_ #[t,t] o.type #[AO g l,AO g x]).run P w=.ok v m):
 (execOp a.eval o).run P w=.ok (.value v) m:=by
 unfold O9 at h;split at h;rename_i c A e;split at h;rename_i j n B z b f;split at h;rename_i r;cases h;have d:c=#[j,n]:=Lu.1 (by rw[b]);have p:A=#[t,z]:=Lu.1 (by rw[f]);have q:=Ha r;have u:=i j (by simp[e,Op.operands,Call.operands,d]);have y:=i n (by simp[e,Op.operands,Call.operands,d]);simp[execOp,e,resolve,invoke,builtin,d,p,<-q,u,y,s];cases h;cases h;cases h
def Yc(P:B7)(e:BN):Bool:=match P.info? e with|some i=>Nat.ble i.bytes 1024&&Nat.blt 0 i.size|none=>fF
def VU(I:AB)(d n c:Nat)(e:BN)(AV:AA<|Nat×AK)(f:AA AF):Ab->Prop:=λh=>
 ∃a b,n<=a/\a<=maxLen/\lN b=(a-n)*c/\h= {r:=.s d 0 n a,AV:=AV,nb:=[.As (f++b) e],J:=I}
structure Gq(P:B7)(L:Lay)(t e size:Nat):Prop where
 ty:∃z,L.get t=sM ⟨1,z,.slice e⟩
 el:∃z k,L.get e=sM ⟨size,z,k⟩/\lN z=size
 b:Yc P e
def MM{P L}(hL:Ed P L){o:Bw}{tm key need I t e size l x n m cap a CQ news}(hT:Gq P L t e size)(G:O9 tm o.op=sM (t,l,x))
 (hl:l=.v (.slice a n cap)) (ho:Reads I need l size n CQ) (hx:Reads I need x size m news) (ao:n<=cap) (u:cap<n+m) (aa:a=nO->cap=0) (hB:n+m<=16777216):HS P o tm key need I (VU I key (n+m) size e []<|CQ++news) nO:=by
 refine⟨?_⟩;intro C ac w he hN D aj ah ak ap next Q hnext _;let⟨⟨z0,af⟩,⟨ze,ke,Y,ag⟩,g⟩:=hT;let⟨i,d,z,hi,hd,hz,hk,ae,hzero⟩:=Dg<|hL.get af;let⟨O,de,y,B,ai,N,am,q,s⟩:=Dg<|hL.get Y;have X:=KE hk;subst X;simp only at q;subst q;rw[Yc]at g;rw[B]at g;simp only[CJ]at g;have an:0<n+m:=oG;have fits:(n+m)*O.bytes<=140737488355328:=by have:=VR hB<|LL g.1;omega
 have cm:∀w:AN,grownCap w (n+m) cap e<=maxLen:=λw=>grownCap_le_maxLen w (n+m) cap e lO;have Bz:∀(v:AN)(f:Nat),n+m<=f->f<=maxLen->v=(w.drew.alloc<|.cells (CQ.toArray++news.toArray++Builtin.zeroCells y.cells (f-(n+m))) e)->(Builtin.append_ #[t,t] o.type #[AO C l,AO C x]).run P w=.ok (.slice (aP w.heap.size) (n+m) f) v->o.wp P ac w next Q:=by
  intro v f h1 h2 k M;rw[Oper.wp];rw[Vg (P:=P) G he M,Oper.upon_value];have F:y.cells.size=O.size:=by rwa[<-Lt,<-s]
  have Z:lN (Builtin.zeroCells y.cells<|f-(n+m)).toList=(f-(n+m))*O.size:=by rw[Lt,size_zeroCells,F]
  have hq:v.heap[w.heap.size]? =sM (.cells (CQ.toArray++news.toArray++Builtin.zeroCells y.cells (f-(n+m))) e (0,0)):=by rw[k];exact SY w.drew _
  have ae:v.heap.size=w.heap.size+1:=by rw[k];show(w.heap.push _).size=_;rw[NZ]
  have hold:∀b,b<w.heap.size->v.heap[b]? =w.heap[b]? :=λb g=>by rw[k];exact ALr w.drew _ b g
  obtain⟨H,R⟩:∃H:Ab,H= {r:=.s key 0 (n+m) f,AV:=[],nb:=[.As ((CQ++news)++(Builtin.zeroCells y.cells<|f-(n+m)).toList) e],J:=I}:=⟨_,rfl⟩;have K:H.nb=[.As ((CQ++news)++(Builtin.zeroCells y.cells<|f-(n+m)).toList) e]:=by rw[R]
  have hA:After I C w v key (λ_=>w.heap.size) H:=by
   refine⟨by rw[k];rfl,by rw[k];rfl,by rw[k];rfl,oG,λb g _ _=>hold b g,(λkb al=>by grind),?_,(gR),?_,gR,λb E g=>by grind⟩;intro j b S;rw[K]at S;cases j with
   |zero=>
    simp at S;subst S;refine⟨?_,rfl,.inl<|Ag _⟩;simp_all[AK.AO]
   |succ j=>simp at S
   rw[R];exact⟨λb E g=>by rw[hold b<|Eg<|D.1 b E g];exact D.1 b E g,λb E g=>by rw[hold b<|Eg<|D.2 b E g];exact D.2 b E g⟩
  have A:AO (H.Bh C key λ_=>w.heap.size) H.r=.slice (aP w.heap.size) (n+m) f:=by have:=Mm (h:=H) (ρ:=C) (key:=key) (j:=0) (q:=λ_=>w.heap.size) (by rw[K];rfl);rw[show H.r=.s key 0 (n+m) f by rw[R]];simp only[AO];simp only[IB]at this;rw[this]
  have h:=hnext rfl H v (λ_=>w.heap.size) ⟨f,_,h1,h2,Z,R⟩ hA;rw[A]at h;exact h
 subst hl;rcases hx.at_ C w hN D with⟨c,F,rfl⟩|⟨ad,c,F,p⟩;omega;rcases ho.at_ C w hN D with⟨c',A,U⟩|⟨T,c',A,Eo⟩;simp only[AO,Value.slice.injEq]at A;obtain⟨rfl,rfl,rfl⟩:=A;have W:=aa rfl;subst W;have ab:CQ=[]:=Ib (by rw[ho.len,U];simp);subst ab;have hr:=run_append_nil (P:=P) w t o.type e O y hd B N ad m c news hx.len p oG oG gR;refine Bz _ (grownCap w m 0 e) (by grind[grownCap_ge]) gR ?_ (by rw[F];simp only[AO];rw[U];simpa using hr);rw[U];simp;simp only[AO,Value.slice.injEq]at A;obtain⟨rfl,-,rfl⟩:=A;exact Bz _ (grownCap w (n+m) cap e) (grownCap_ge w _ _ e) (cm w) rfl (by rw[F];exact run_append_grow (P:=P) w t o.type e O y hd B N T n cap CQ ho.len Eo ad m c news hx.len p u oG<|growslice_fits u fits)
def Kk{P L}(hL:Ed P L){o tm key k need I t e size x n m cap vs CQ news}(hT:Gq P L t e size)(M:O9 tm o.op=some (t,.s k 0 n cap,x))
 (hk:(k,.As vs e)∈need) (F:vs.length=cap*size) (ho:vs.take (n*size)=CQ) (ar:∀v∈CQ,v.oneCell') (G:Reads I need x size m news) (E:n<=cap) (N:cap<=maxLen) (hB:n+m<=16777216):HS P o tm key need I (VU I key (n+m) size e [(k,.gone)] (CQ++news)) none:=by
 refine⟨?_⟩;intro ρ ac w he hN hI Z al an aq next Q hnext _;let⟨⟨z0,ah⟩,⟨ze,ke,aa,ak⟩,hb⟩:=hT;let⟨i,d,z,hi,hd,hz,ab,au,hzero⟩:=Dg (hL.get ah);let⟨g,de,U,A,am,aj,ao,s,B⟩:=Dg (hL.get aa);have Y:=KE ab;subst Y;simp only at s;subst s;rw[Yc]at hb;rw[A]at hb;simp only[Bool.and_eq_true]at hb;have X:=Nat.le_of_ble_eq_true hb.1;have fits:(n+m)*g.bytes<=140737488355328:=by have:=Nat.mul_le_mul hB X;omega
 have cm:∀w:World,grownCap w (n+m) cap e<=maxLen:=λw=>grownCap_le_maxLen w (n+m) cap e lO;have l:=hN _ hk _ rfl;simp only at l;have T:CQ.length=n*g.size:=by rw[<-ho,List.length_take,F];have:=Nat.mul_le_mul_right g.size E;omega
 have Bz:∀(y:World)(a q:Nat)(AE:List Value),n+m<=a->a<=maxLen->AE.length=(a-(n+m))*g.size->y.os=w.os->y.tape=w.tape->y.output=w.output->w.heap.size<=y.heap.size->(∀b,b<w.heap.size->ρ k≠b->y.heap[b]? =w.heap[b]?)->
  y.heap[q]? =some (.cells ((CQ++news)++AE).toArray e (0,0))->(w.heap.size<=q\/q=ρ k)->(Builtin.append_ #[t,t] o.type #[AO ρ (.s k 0 n cap),AO ρ x]).run P w=.ok (.slice (some ⟨q,0,none⟩) (n+m) a) y->o.wp P ac w next Q:=by
  intro y a q AE h1 h2 hj K W e3 e4 D hq V S;have hex:=Vg (P:=P) M he S;rw[Oper.wp];rw[hex,Oper.upon_value];obtain⟨H,hH⟩:∃H:Ab,H= {r:=.s key 0 (n+m) a,AV:=[(k,.gone)],nb:=[.As ((CQ++news)++AE) e],J:=I}:=⟨_,rfl⟩;have R:H.nb=[.As ((CQ++news)++AE) e]:=by rw[hH]
  have ai:H.AV=[(k,.gone)]:=by rw[hH]
  have hA:After I ρ w y key (λ_=>q) H:=by
   refine⟨K,W,e3,e4,(by simp_all),?_,?_,(gR),?_,gR,λb o' hb=>by grind⟩;intro kb C o' ag;rw[ai]at C;simp at C;subst C;cases ag;intro j b hj;rw[R]at hj;cases j with
   |zero=>
    simp at hj;subst hj;exact⟨by grind[AK.AO],rfl,(by simp_all)⟩
   |succ j=>simp at hj
   rw[hH];exact hI.A2 (Z _ hk rfl) D
  have e5:AO (H.Bh ρ key (λ_=>q)) H.r=.slice (some ⟨q,0,none⟩) (n+m) a:=by have:=Mm (h:=H) (ρ:=ρ) (key:=key) (j:=0) (q:=λ_=>q) (by rw[R];rfl);rw[show H.r=.s key 0 (n+m) a by rw[hH]];simp only[AO];simp only[Nat.add_zero]at this;rw[this]
  have h:=hnext rfl H y (λ_=>q) ⟨a,AE,h1,h2,hj,hH⟩ hA;rw[e5]at h;exact h
 have ap:=Eg l;rcases G.at_ ρ w hN hI with⟨c,K,rfl⟩|⟨ad,c,K,p⟩;have ae:news=[]:=List.eq_nil_of_length_eq_zero (by rw[G.len];simp);subst ae;refine Bz w cap (ρ k) (vs.drop (n*g.size)) E N (by grind[Nat.sub_mul]) rfl rfl rfl (Nat.le_refl _) (λ_ _ _=>rfl) (by grind[List.take_append_drop]) (.inr rfl) ?_;rw[K];simp[AO,Builtin.append_,run_underlying hd,sizeOf,typeInfo,A,Builtin.lenOf,E,Builtin.firstCells,storeCells];by_cases f:n+m<=cap;have O:n*g.size+news.length<=vs.toArray.size:=by have:=Nat.mul_le_mul_right g.size f;rw[G.len];simp only[List.size_toArray,F];rw[Nat.add_mul]at this;exact this
 have hr:=run_append_room (P:=P) w t o.type e g hd A (ρ k) n cap vs.toArray l ad m c news G.len p G.one f O;refine Bz (w.setRow (ρ k) (vs.toArray.toList.take (n*g.size)++news++vs.toArray.toList.drop (n*g.size+news.length)).toArray) cap (ρ k) (vs.drop (n*g.size+news.length)) f N ?_ rfl rfl rfl (by rw[Bl.setRow];exact Nat.le_refl _) (λb _ af=>Ir af) ?_ (.inr rfl) (by rwa[K]);rw[List.length_drop,F,G.len,<-Nat.add_mul,Nat.sub_mul];rw[Lm l];simp[ho];have Eo:∀j u,CQ[j]? =some u->w.cell? ((⟨ρ k,0,none⟩:Addr).add j)=some u:=by have:=Te (off:=0) (n:=n*g.size) l;simp only[List.drop_zero]at this;rwa[<-ho]
 have hr:=run_append_grow (P:=P) w t o.type e g U hd A aj ⟨ρ k,0,none⟩ n cap CQ T Eo ad m c news G.len p oG oG (growslice_fits oG fits);have W:U.cells.size=g.size:=by rwa[<-Array.length_toList,<-B]
 refine Bz (w.drew.alloc (.cells (CQ.toArray++news.toArray++Builtin.zeroCells U.cells (grownCap w (n+m) cap e-(n+m))) e)) (grownCap w (n+m) cap e) w.heap.size (Builtin.zeroCells U.cells (grownCap w (n+m) cap e-(n+m))).toList (grownCap_ge w _ _ e) (cm w) (by rw[Array.length_toList,size_zeroCells,W]) rfl rfl rfl ?_ (λb hb _=>ALr w.drew _ b hb) ?_ (.inl (Nat.le_refl _)) (by rwa[K]);show w.heap.size<=(w.heap.push _).size;rw[Array.size_push];omega;have:=SY w.drew (.cells (CQ.toArray++news.toArray++Builtin.zeroCells U.cells (grownCap w (n+m) cap e-(n+m))) e);refine Eq.trans this ?_;congr 2;apply Array.ext';simp[List.append_assoc]
mutual
def SV.B4(k b:Nat):SV->SV
 | .v x=>.v x
 | .p j o=>match Nat.beq j k with|true=>.v (.pointer<|aO b o)|false=>.p j o
 | .s j o n c=>match Nat.beq j k with|true=>.v (.slice (aO b o) n c)|false=>.s j o n c
 | .m j=>match Nat.beq j k with|true=>.v (.map<|sM b)|false=>.m j
 | .g l=>.g<|Hz k b l
 | .t l=>.t<|Hz k b l
 | .fn f x y=>.fn f (Hz k b x)<|Hz k b y
def Hz(k b:Nat):AA SV->AA SV
 |[]=>[]
 |x::l=>x.B4 k b::Hz k b l
end
mutual
theorem Tk{ρ k b}(h:ρ k=b):∀x,AO ρ (x.B4 k b)=AO ρ x
 | .v _=>rfl
 | .p j o=>by grind[SV.B4,AO,Nat.eq_of_beq_eq_true]
 | .s j o n c=>by grind[SV.B4,AO,Nat.eq_of_beq_eq_true]
 | .m j=>by grind[SV.B4,AO,Nat.eq_of_beq_eq_true]
 | .g l=>by simp only[SV.B4,AO];rw[Rv h l]
 | .t l=>by simp only[SV.B4,AO];rw[Rv h l]
 | .fn f x y=>by simp only[SV.B4,AO];rw[Rv h x,Rv h y]
theorem Rv{a:Nat->Nat}{k b:Nat}(h:a k=b):∀l:AA SV,BB a (Hz k b l)=BB a l
 |[]=>rfl
 |x::l=>by simp only[Hz,BB];rw[Tk h x,Rv h l]
end
mutual
theorem UE{k b}:∀x:SV,∀j∈(x.B4 k b).A3,j∈x.A3
 | .v _,j,h=>h
 | .p i o,j,h=>by simp only[SV.B4]at h;split at h;cases h;exact h
 | .s i o n c,j,h=>by simp only[SV.B4]at h;split at h;cases h;exact h
 | .m i,j,h=>by simp only[SV.B4]at h;split at h;cases h;exact h
 | .g l,j,h=>SH l j h
 | .t l,j,h=>SH l j h
 | .fn f x y,j,h=>by simp only[SV.B4,SV.A3,Bc]at h⊢;exact h.imp (SH x j)<|SH y j
theorem SH{k b}:∀l:AA SV,∀j∈DF (Hz k b l),j∈DF l
 |[],j,h=>h
 |x::l,j,h=>by simp only[Hz,DF,Bc]at h⊢;exact h.imp (UE x j)<|SH l j
end
def AK.B4(k b:Nat):AK->AK
 | .cells l e=>.cells (Hz k b l) e
 | .As l e=>.As l e
 | .Aq o=>.Aq o
 | .Ey a vs=>.Ey a<|Hz k b vs
 | .gone=>.gone
theorem AK.Tk{ρ k b}(h:ρ k=b)(x:AK):(x.B4 k b).AO ρ=x.AO ρ:=by
 cases x with
 |cells l e=>grind[AK.B4,AK.AO,Rv]
 |Ey a c=>grind[AK.B4,AK.AO,Rv]
 |_=>rfl
theorem AK.UE{k b}(x:AK):∀j∈(x.B4 k b).A3,j∈x.A3:=by
 cases x with
 |cells l e=>exact SH l
 |Ey c a=>exact SH a
 |_=>exact λj h=>h
theorem AK.AKs{k b}(x:AK):(x.B4 k b).live=x.live:=by cases x<;>rfl
def St.B4(a:St)(k b:Nat)(J:AB):St:=
 {tm:=λs=>(a.tm s).B4 k b,hp:=λj=>match Nat.beq j k with|true=>sM .gone|false=>match a.hp j with|some x=>sM (x.B4 k b)|none=>nO,im:=J}
def Vm:AK->AU (AA AF×BN)
 | .As l e=>sM (l,e)
 | .cells l e=>match valsOf l with|some a=>sM (a,e)|none=>nO
 |_=>nO
where valsOf:AA SV->AU (AA AF)
 |[]=>sM []
 | .v x::l=>match valsOf l with|some r=>sM (x::r)|none=>nO
 |_=>nO
theorem AOZ:∀ {l:AA SV} {a:AA AF},Vm.valsOf l=sM a->l=a.map .v
 |[],a,h=>by cases h;rfl
 |x::l,a,h=>by cases x<;>simp[Vm.valsOf]at h;split at h;rename_i r b;cases h;rw[AOZ b];rfl;cases h
theorem AHt{b a e}(h:Vm b=sM (a,e))(f):b.AO f=sM (.cells a.toArray e (0,0))/\b.live:=by cases b<;>simp[Vm]at h;rename_i l g;split at h;rename_i d c;simp at h;obtain⟨rfl,rfl⟩:=h;rw[AOZ c];exact⟨by simp[AK.AO,Gw],rfl⟩;cases h;obtain⟨rfl,rfl⟩:=h;exact⟨rfl,rfl⟩
def AQD(a:St)(A:AA Nat):Bool:=A.all λk=>match a.hp k with|some b=>b.live|none=>fF
def SB(f:Bv)(A:AA Nat)(k:Nat):AU (AA AF×BN):=
 match f.rg,f.σ.hp k,AQD f.σ A&& !Oc k A with
 |none,sM b,tT=>Vm b
 |_,_,_=>nO
def Bv.B4(f:Bv)(k b:Nat)(J:AB):Bv:={f with σ:=f.σ.B4 k b J}
theorem AUc{c R f}(k){T e}(t:SB f c.A k=sM (T,e))(h:∀b J,f.σ.im.le J->J.Ak=f.σ.im.Ak->J b=sM (.cells T.toArray e (0,0))->GG c R (f.B4 k b J)):GG c R f:=by
 let⟨p,aa,rg,ab⟩:=f;rw[SB]at t;split at t
 case h_2=>cases t
 rename_i b0 O Q m;simp only at O Q m;subst O;simp[CJ,Jf]at m;have N:k∉c.A:=λhm=>by have:=Wl hm;rw[this]at m;cases m.2
 intro K l a w d;let⟨L,G⟩:=AHt t l;have z:HJ p.hp k:=⟨b0,Q,G⟩;have W:=d.hp k b0 _ Q L;have V:p.im (l k)=nO:=(d.dj k z).1;have Y:c.w0.heap.size<=l k:=by
  rcases d.nw k z with q|⟨S,E,q⟩;exact q;exfalso;have P:=EQ.1 m.1 S E;cases X:p.hp S with
  |none=>rw[X]at P;cases P
  |some b1=>
   rw[X]at P;have:=d.inj k S z ⟨b1,X,P⟩ (by rw[q,<-d.ad S E]);rw[this]at N;exact N E
 let J:AB:=⟨λn=>match Nat.beq n (l k)with|true=>sM (.cells T.toArray e (0,0))|false=>p.im n,p.im.Ak⟩;have I:J (l k)=sM (.cells T.toArray e (0,0)):=by show(match Nat.beq (l k) (l k)with|true=>_|false=>_)=_;simp
 have H:∀n,n≠l k->J n=p.im n:=λn g=>by
  have:Nat.beq n (l k)=fF:=by
   cases e:Nat.beq n (l k)with
   |false=>rfl
   |true=>exact(g<|Ha e).elim
  show(match Nat.beq n (l k)with|true=>_|false=>_)=_;rw[this]
 have hle:p.im.le J:=⟨λn o g=>by
  rwa[H n λe=>by rw[e,V]at g;cases g],λn o g=>⟨g.Ak,by
  rw[H n λe=>by have:=(d.dj k z).2;rw[<-e,g.Ak]at this;cases this];exact g.at_⟩⟩
 have D:∀j x,(p.B4 k (l k) J).hp j=sM x->(j=k/\x=.gone)\/(j≠k/\∃y,p.hp j=sM y/\x=y.B4 k (l k)):=λj x u=>by
  simp[St.B4]at u;split at u;rename_i e;cases u;exact .inl ⟨Ha e,rfl⟩;rename_i e;have r:j≠k:=λq=>by rw[q]at e;simp at e
  split at u;rename_i y C;cases u;exact .inr ⟨r,y,C,rfl⟩;cases u
 have A:∀j,(p.hp j).isSome->((p.B4 k (l k) J).hp j).isSome:=λj v=>by simp[St.B4];split;rfl;let⟨y,C⟩:=Mz.1 v;rw[C];rfl
 have B:∀j,HJ (p.B4 k (l k) J).hp j->j≠k/\HJ p.hp j:=λj ⟨x,u,F⟩=>by rcases D j x u with⟨_,rfl⟩|⟨r,y,C,rfl⟩;cases F;exact⟨r,y,C,by rw[AK.AKs]at F;exact F⟩
 refine h (l k) J hle rfl I ⟨λj v=> ?_,K.2⟩ l a w ?_;show(p.B4 k (l k) J).hp j=nO;have U:p.hp j=nO:=K.1 j v;simp[St.B4];split;rename_i e;rw[Ha e,Q]at U;cases U;rw[U];refine{hp:= ?_,inj:= ?_,kb:= ?_,im:=⟨?_,d.im.2⟩,lm:=d.lm.trans hle.EA,na:=d.na,fs:= ?_,GV:=d.GV,dj:= ?_,ad:=d.ad,nw:=λj v=>d.nw j (B j v).2,fr:=d.fr,sz:=d.sz,os:=d.os,tape:=d.tape,output:=d.output,size:=d.size,nd:=d.nd,tm:= ?_,kd:= ?_};intro j x o u Z;rcases D j x u with⟨_,rfl⟩|⟨r,y,C,rfl⟩;cases Z;rw[AK.Tk rfl]at Z;exact d.hp j y o C Z;intro i j hi v e;exact d.inj i j (B i hi).2 (B j v).2 e;intro j x j' u M;rcases D j x u with⟨_,rfl⟩|⟨r,y,C,rfl⟩;cases M;exact A j'<|d.kb j y j' C<|AK.UE y j' M;intro n o g;have g:J n=sM o:=g;by_cases e:n=l k;rw[e,I]at g;cases g;rwa[e];rw[H n e]at g;exact d.im.1 n o g;intro n o g;have g:J n=sM o:=g;by_cases e:n=l k;right;rwa[e];rw[H n e]at g;exact d.fs n o g;intro j v;let⟨r,F⟩:=B j v;refine⟨?_,(d.dj j F).2⟩;show J (l j)=nO;rw[H _ λe=>r<|d.inj j k F z e];exact(d.dj j F).1;intro s;rw[d.tm s];exact(AX.Tk rfl<|p.tm s).symm;intro s j v;exact A j<|d.kd s j<|AX.UE (p.tm s) j v
def Pr:AA (Nat×SV)->(Nat->AF)->Nat->SV
 |[],T=>λs=>.v<|T s
 |(i,x)::l,T=>AV (Pr l T) i x
def Zc:AA (Nat×SV)->AA Nat
 |[]=>[]
 |(_,x)::l=>x.A3++Zc l
theorem AFT:∀(l:AA<|Nat×SV)(T:Nat->AF)(s:Nat),(Pr l T s=.v (T s))\/∃p∈l,p.1=s/\Pr l T s=p.2
 |[],T,s=>.inl rfl
 |(i,x)::l,T,s=>by
  simp only[Pr];by_cases e:s=i;simp_all[Eu];rw[D3 _ _ e];rcases AFT l T s with h|⟨p,c,a,b⟩;exact .inl h
  grind
theorem AKJ:∀ {l:AA<|Nat×SV} {p:Nat×SV} {k:Nat},p∈l->k∈p.2.A3->k∈Zc l
 |[],_,_,h,_=>by cases h
 |(i,x)::l,p,k,h,hk=>by
  simp[Zc,Bc];rcases Co.1 h with e|e
  grind
  exact .inr<|AKJ e hk
def AMf(a:AA<|Nat×Nat)(l:AA<|Nat×SV):AA SV:=l.map λp=>p.2.Bh<|BA a
def Qx(A:AA Nat)(d:AA<|Nat×Nat)(b:AA<|Nat×SV)(a:AA<|Nat×AK)(c:Nat):Bool:=
 GM (Zc b) (a.map (·.1))&&GM (Ip a) (a.map (·.1))&&Kv c (a.map (·.1))&&Kv c A&&nodupB (a.map λe=>BA d e.1)&&A.all (λk=>Nat.beq (BA d k) k)&&liveOr a
where liveOr (_:List (Nat×AK)):Bool:=tT
theorem Ad8{c R f}(n d g J v){t}
 (A:f.rg.isNone) (O:d.map (λp=>f.σ.tm p.1)=AMf n d) (M:g.map (λkb=>f.σ.hp<|BA n kb.1)=g.map (λkb=>sM<|kb.2.Bh<|BA n)) (L:f.σ.im=J) (m:f.todo=t) (z:Qx c.A n d g v)
 (h:∀T,GG c R ⟨⟨Pr d T,JP g,J⟩,t,nO,v⟩):GG c R f:=by
 let⟨u,H,rg,I⟩:=f;simp only[Nc]at A;simp only at O M L m;subst A L m;simp only[Qx,CJ]at z;let⟨⟨⟨⟨⟨⟨o1,o2⟩,o3⟩,o4⟩,o5⟩,o6⟩,_⟩:=z;intro W B a w l;have r:∀ {P:AA Nat},GM P (g.map (·.1))->∀k∈P,(JP g k).isSome:=λZ k i=>ADs<|UQ<|EQ.1 Z k i;have y:∀k b,JP g k=sM b->u.hp (BA n k)=sM (b.Bh<|BA n):=λk b i=>(VP.1 M) (k,b)<|Qh i;have D:=UT o5;have V:∀k∈c.A,BA n k=k:=λk i=>Ha<|EQ.1 o6 k i;have q:∀k,HJ (JP g) k->HJ u.hp (BA n k):=λk ⟨b,i,X⟩=>⟨_,y k b i,by rwa[AK.UJ]⟩;refine h (λs=>AO B<|u.tm s) ⟨λk i=> ?_,UF o4⟩ (λk=>B<|BA n k) a w ?_;show JP g k=nO;cases e:JP g k with
 |none=>rfl
 |some b=>
  have:=UF o3 k<|BI.2 ⟨_,Qh e,rfl⟩
  grind
 refine{hp:= ?_,inj:= ?_,kb:= ?_,im:=l.im,lm:=l.lm,na:=l.na,fs:=l.fs,GV:=l.GV,dj:=λk i=>l.dj _<|q k i,ad:=λk i=>by rw[V k i];exact l.ad k i,nw:=λk i=>l.nw _<|q k i,fr:=l.fr,sz:=l.sz,os:=l.os,tape:=l.tape,output:=l.output,size:=l.size,nd:=l.nd,tm:= ?_,kd:= ?_};intro k b o i Y;exact l.hp _ _ o (y k b i) (by rwa[AK.PH]);intro j k N i e;have x:=l.inj _ _ (q j N) (q k i) e;let⟨bj,E,_⟩:=N;let⟨bk,F,_⟩:=i;let⟨i1,C,Q⟩:=Kc<|Qh E;let⟨i2,U,S⟩:=Kc<|Qh F;have:=Wu D (i:=i1) (j:=i2) (by simpa using C) (by simpa using U) (by simp[Q,S,x])
 grind
 intro k b k' i G;exact r o2 k'<|SN (Qh i) G;intro s;rcases AFT d (λs=>AO B<|u.tm s) s with e|⟨p,hp,K,x⟩;show _=AO _ (Pr d _ s);rw[e,l.tm s];rfl;show _=AO _ (Pr d _ s);have C:u.tm p.1=p.2.Bh (BA n):=(VP.1 O) p hp;rw[x,l.tm s,<-K,C,PH];intro s k i;have i:k∈(Pr d (λs=>AO B<|u.tm s) s).A3:=i;rcases AFT d (λs=>AO B<|u.tm s) s with e|⟨p,hp,K,x⟩;rw[e]at i;cases i;rw[x]at i;exact r o1 k<|AKJ hp i
def Pe:AA Item->AA Item
 | .code (.loop b)::k=>.code b::.inLoop b::k
 |t=>t
def UM:AA Item->AA Item
 | .inLoop b::k=>.code b::.inLoop b::k
 |t=>t
def Bv.to(f:Bv)(t:AA Item):Bv:=⟨f.σ,t,f.rg,f.Bq⟩
theorem AXi{c R f}(b:f.rg.isNone)(h:GG c R<|f.to<|Pe f.todo):GG c R f:=by let⟨l,d,k,e⟩:=f;simp[Nc]at b;subst b;simp[Bv.to]at h;unfold Pe at h;split at h;intro g i a w r;exact M0.steps (λj=>.one step_loop)<|h g i a w r;exact h
theorem AXj{c R f}(b:f.rg.isNone)(h:GG c R<|f.to<|UM f.todo):GG c R f:=by let⟨l,d,k,e⟩:=f;simp[Nc]at b;subst b;simp[Bv.to]at h;unfold UM at h;split at h;intro g i a w r;exact M0.steps (λj=>.one step_inLoop)<|h g i a w r;exact h
structure Hd where
 Cd:AA (Nat×SV)
 Cc:AA (Nat×AK):=[]
 J:AB
def Hd.PF(s:Hd)(T:Nat->AF)(a:AA Item)(b:Nat):Bv:=⟨⟨Pr s.Cd T,JP s.Cc,s.J⟩,a,nO,b⟩
def PS(f:Bv)(b:AA<|Nat×Nat)(s:Hd):Bool×AA SV×AA (AU AK)×AB:=(f.rg.isNone,s.Cd.map λp=>f.σ.tm p.1,s.Cc.map λa=>f.σ.hp<|BA b a.1,f.σ.im)
def PT(a:AA<|Nat×Nat)(s:Hd):Bool×AA SV×AA (AU AK)×AB:=(tT,AMf a s.Cd,s.Cc.map λb=>sM<|b.2.Bh<|BA a,s.J)
theorem AJM{c R f}(e s b){todo}(a:PS f e s=PT e s)(d:f.todo=todo)(g:Qx c.A e s.Cd s.Cc b)(h:∀T,GG c R<|s.PF T todo b):GG c R f:=by simp only[PS,PT,QC]at a;let⟨i,j,k,l⟩:=a;exact Ad8 e s.Cd s.Cc s.J b i j k l d g h
theorem AXk{c R f}{h:Type}(P:h->Prop)(o:h->Nat)(d:h->Hd)(a:Nat)(g:AA<|Nat×Nat)(e:h)(p:P e)(b:PS f g (d e)=PT g (d e))(k:Qx c.A g (d e).Cd (d e).Cc a)
 (round:∀i,P i->(∀j,P j->o j<o i->∀T,GG c R<|(d j).PF T (Pe f.todo) a)->∀T,GG c R<|(d i).PF T (Pe f.todo) a):GG c R f:=by
 have l:f.rg.isNone:=by simp only[PS,PT,QC]at b;exact b.1
 refine AXi l<|AJM g (d e) a (todo:=Pe f.todo) (f:=f.to<|Pe f.todo) b rfl k ?_;have m:∀n i,o i=n->P i->∀T,GG c R ((d i).PF T (Pe f.todo) a):=by
  intro n;induction n using Nat.strongRecOn with
  |_ n q=>grind
 exact m _ e rfl p
theorem AQf{c R f}(g s d){b}(a:PS f g s=PT g s)(e:UM f.todo=b)(i:Qx c.A g s.Cd s.Cc d)(h:∀T,GG c R<|s.PF T b d):GG c R f:=by
 have j:f.rg.isNone:=by simp only[PS,PT,QC]at a;exact a.1
 exact AXj j<|AJM g s d (f:=f.to<|UM f.todo) a e i h
theorem AZa{P F E n I w v A g D y σ u J}
 (B:Is σ A=sM u) (G:σ.im=J) (l:GM (Ip u) A) (t:D g {r:=.v undef,AV:=u,J:=J}):M1 (ctx P F E n I w v A) (Rf P I v g w A D<|sM y) y σ:=by
 refine⟨rfl,λx O R=> ?_⟩;let⟨C,N⟩:=AF0 B;subst G;have d:∀k,CX g ([]:AA AK) k=nO:=λk=>by grind[CX]
 refine⟨_,λ_=>0,⟨t,⟨λk l=>(by cases l),λc a=>⟨(C c a).1,λk f=>.inl<|UQ<|EQ.1 l k<|SN a f⟩,λb e=>(by cases e),Bm _,by rw[AFz B];exact R.na⟩,R.lm⟩,⟨R.os,R.tape,R.output,R.sz,?_,?_,λj b h=>by simp at h,λi j K=>by simp at K,R.im,?_,?_⟩,rfl⟩;intro b e s H;refine R.fr b e (λk p=> ?_) H;let⟨bk,m⟩:=N k p;exact s _ m;intro c a o L;let⟨z,M⟩:=C c a;rw[F7<|d _];rw[show v c.1=x c.1 from(R.ad c.1 z).symm];refine R.hp c.1 z c.2 o M ?_;rw[<-L];exact(AK.Ko c.2 λk f=>by rw[F7<|d _];exact(R.ad k<|UQ<|EQ.1 l k<|SN a f).symm).symm
 intro b o e;rcases R.fs b o e with q|q;exact .inl q;exact .inr ⟨q,λj h=>by simp at h⟩;intro b o e;exact(R.GV b o e).imp id λq=>⟨q,λj h=>by simp at h⟩
def Ds{a:Nat->SV}{l:AA<|Nat×SV}(h:∀p∈l,a p.1=p.2){s:Nat}{x:SV}(b:(s,x)∈l):a s=x:=h _ b
def I5{P}{L:Lay}(y:Ed P L){t a b M k off n c i:Nat}{e N}{ty:Ty}{I}(s:L.get t=sM ⟨M,N,.slice e⟩)(r:L.get e=sM ty)(F:i<n):
 ∀g u (o:Bw),o.op=.indexAddr t (.tmp a) (.tmp b)->(∀p∈[(a,SV.s k off n c),(b,SV.v<|.int iK<|Int.ofNat i)],u p.1=p.2)->LS P o u g [] I (.p k<|off+i*ty.n) nO:=by
 intro g u o q f;have B:=Ds f (s:=a) (x:=.s k off n c) sP;have C:=Ds f (s:=b) (x:=.v<|.int iK<|Int.ofNat i) sP;let⟨T,d,z,G,D,S,H,R,hzero⟩:=Dg<|y.get s;let⟨U,Q,V,l,E,K,J,m,h⟩:=Dg<|y.get r;have j:=KE H;subst j;intro W O w A _ _ _ _;refine⟨w,?_,Bl.refl w⟩;have v:=A (.tmp a) xO;have x:=A (.tmp b) xO;simp only[ev,B,C]at v x;have:(0:Int)<=(i:Int)/\(i:Int)<(n:Int):=oG;simp[execOp,q,Instr.indexAt,v,x,AO,asIntOf,run_underlying D,F,sizeOf,typeInfo,l,m,Addr.add_mid]
def AOa{w b k a e}(h:Has w b [(k,.As a e)])(j):w.cell? ⟨b k,j,nO⟩=a[j]? :=by have:=h (k,.As a e) sP _ rfl;simp only at this;simp[World.cell?,this]
def AK0{P}{L:Lay}(x:Ed P L){t a k off}{ty:Ty}{vs xs:AA AF}{e I}(l:L.get t=sM ty)(f:ty.k.agg)(s:(vs.drop off).take ty.n=xs)(H:off+ty.n<=lN vs):
 ∀c m (o:Bw),o.op=.load t (.tmp a)->(∀p∈[(a,SV.p k off)],m p.1=p.2)->LS P o m c [(k,.As vs e)] I (.g<|xs.map .v) nO:=by
 intro c m o r h;have y:=Ds h (s:=a) (x:=.p k off) sP;let⟨i,d,z,E,B,J,F,q,hzero⟩:=Dg<|x.get l;intro u G w C D _ _ _;refine⟨w,?_,Bl.refl w⟩;have n:=C (.tmp a) xO;simp only[ev,y,AO]at n;have A:w.rangeAt (u k) off xs:=λj v b=>by rw[AOa D];rw[<-s,GO]at b;split at b;rw[Jg]at b;exact b;cases b
 have g:d.isRow:=by rw[<-RF F]at f;cases d<;>simp_all[TypeDesc.isRow]
 have:=run_loadVar_mid (P:=P) w (u k) off t _ d A B g (by rw[E];simp[<-s,q];rw[<-q];omega);simp only[execOp,r,Sem.run_bind,n,Instr.loadAt,Instr.sureAddr,Sem.run_pure,Result.andThen_ok,this];simp[AO,Gw]
def Nu{P}{L:Lay}(r:Ed P L){t a k off}{ty:Ty}{vs x e I}(j:L.get t=sM ty)(g:ty.k.agg=fF)(B:vs[off]? =sM x):
 ∀f l (o:Bw),o.op=.load t (.tmp a)->(∀p∈[(a,SV.p k off)],l p.1=p.2)->LS P o l f [(k,.As vs e)] I (.v x) nO:=by
 intro f l o n h;have s:=Ds h (s:=a) (x:=.p k off) sP;let⟨i,d,z,E,u,G,A,F,hzero⟩:=Dg<|r.get j;intro C D w v y _ _ _;refine⟨w,?_,Bl.refl w⟩;have m:=v (.tmp a) xO;simp only[ev,s,AO]at m;have c:(isAgg t).run P w=.ok fF w:=by have q:=RF A;rw[g]at q;simp only[isAgg,Sem.run_bind,run_underlying u,Result.andThen_ok];cases d<;>simp_all
 have b:w.cell? ⟨C k,off,nO⟩=sM x:=by rw[AOa y,B]
 simp only[execOp,n,Sem.run_bind,m,Instr.loadAt,Instr.sureAddr,Sem.run_pure,Result.andThen_ok,loadVar,c];simp[load,Sem.run,b,AO]
def AJu{P L}(X:Ed P L){o u s t k off ad x ty vs cs e g I}(F:o.op=.store t ad x)(Y:ev u ad=.p k off)(hx:(ev u x).cs=sM (cs.map .v))(K:L.get t=sM ty)(hn:lN cs=ty.n)(hl:off+lN cs<=lN vs)
 (V:∀v∈cs,v.oneCell') (R:(k,.As vs e)∈g):HS P o u s g I (λh=>h= {r:=.v undef,AV:=[(k,.As (BX vs off cs) e)],J:=I}) nO:=by
 let⟨i,d,z,E,hd,hz,aa,ab,hzero⟩:=Dg<|X.get K;refine⟨?_⟩;intro ρ a w N hh W D O Z ac next Q hnext _;have B:=hh _ R _ rfl;simp only at B;have A:ad∈o.op.operands:=xO
 have M:x∈o.op.operands:=xO
 have f:(AO ρ<|ev u x).cells=cs.toArray:=by rw[SV.Tf hx ρ,Gw]
 have U:(w.setRow (ρ k) (vs.take (off+0)++cs++vs.drop (off+0+lN cs)).toArray)=w.setRow (ρ k) (BX vs off cs).toArray:=by rw[IB];rfl
 have G:(storeVar t ⟨ρ k,off,nO⟩<|AO ρ<|ev u x).run P w=.ok () (w.setRow (ρ k) (BX vs off cs).toArray):=by
  rw[<-U];rw[storeVar];rw[f];have H:(sizeOf t).run P w=.ok i.size w:=by simp[sizeOf,typeInfo,E]
  have l: ¬cs.toArray.size≠i.size:=sO
  simp only[Sem.run_bind,H,Result.andThen_ok,l,Hq];exact run_storeCells_at P (ρ k) off e cs 0 vs.toArray w B sO V
 have hex:(execOp a.eval o).run P w=.ok .skip (w.setRow (ρ k) (BX vs off cs).toArray):=by have y:=N ad A;rw[Y]at y;simp only[AO]at y;simp[execOp,F,Instr.storeAt,y,N x M,Instr.sureAddr,G]
 rw[Oper.wp];rw[hex,Oper.upon_skip];refine hnext rfl _ _ (λ_=>0) rfl ⟨rfl,rfl,rfl,by rw[Bl.setRow];exact Ag _,λb c l _=>Ir<|l (k,.As (BX vs off cs) e) sP,?_,λj b hj=>by simp at hj,λi j E=>by simp at E,?_,λb S c=>.inl c,λb S c=>IM c⟩;intro kb m S p;simp at m;subst m;have T:Ab.Bh {r:=.v undef,AV:=[(k,AK.As (BX vs off cs) e)],J:=I} ρ s (λ_=>0)=ρ:=by funext n;exact F7 (by rw[CX];split<;>rfl)
 rw[T]at p⊢;cases p;exact Lm B;exact W.A2 (D _ R rfl) λb _ C=>Ir C
def AKy{P L}(B:Ed P L){t a b O k n c i:Nat}{e Q ty I}(u:L.get t=sM ⟨O,Q,.slice e⟩)(s:L.get e=sM ty)(H:i<=n):
 ∀g v (o:Bw),o.op=.slice t (.tmp a) (sM<|.tmp b) nO nO->(∀p∈[(a,SV.s k 0 n c),(b,SV.v<|.int iK<|Int.ofNat i)],v p.1=p.2)->LS P o v g [] I (.s k (if c=i then 0 else i*ty.n) (n-i)<|c-i) nO:=by
 intro g v o r f;have D:=Ds f (s:=a) (x:=.s k 0 n c) sP;have E:=Ds f (s:=b) (x:=.v<|.int iK<|Int.ofNat i) sP;let⟨V,d,z,J,F,U,K,T,hzero⟩:=Dg<|B.get u;let⟨W,S,X,m,G,N,M,q,j⟩:=Dg<|B.get s;have l:=KE K;subst l;intro Y R w C _ _ _ _;refine⟨w,?_,Bl.refl w⟩;have x:=C (.tmp a) xO;have y:=C (.tmp b) xO;simp[ev,D,E]at x y;have A:(0:Int)<=(i:Int)/\(i:Int)<=(n:Int):=oG;simp[execOp,r,Instr.sliceAt,Instr.slice,x,y,AO,run_underlying F,Instr.sliceBounds,run_sliceBound,A.1,A.2,H,sizeOf,typeInfo,m,q,Result.andThen];split<;>simp[Addr.add];intro h;exact h.symm
def AK4{P L}(A:Ed P L){t a b M k n c i:Nat}{e N ty I}(s:L.get t=sM ⟨M,N,.slice e⟩)(r:L.get e=sM ty)(R:i<=c):
 ∀g u (o:Bw),o.op=.slice t (.tmp a) nO (sM<|.tmp b) nO->(∀p∈[(a,SV.s k 0 n c),(b,SV.v<|.int iK<|Int.ofNat i)],u p.1=p.2)->LS P o u g [] I (.s k 0 i c) nO:=by
 intro g u o q f;have C:=Ds f (s:=a) (x:=.s k 0 n c) sP;have D:=Ds f (s:=b) (x:=.v<|.int iK<|Int.ofNat i) sP;let⟨U,d,z,G,E,T,H,S,hzero⟩:=Dg<|A.get s;let⟨V,Q,W,l,F,K,J,m,h⟩:=Dg<|A.get r;have j:=KE H;subst j;intro X O w B _ _ _ _;refine⟨w,?_,Bl.refl w⟩;have v:=B (.tmp a) xO;have x:=B (.tmp b) xO;simp[ev,C,D]at v x;have y:(0:Int)<=(i:Int)/\(i:Int)<=(c:Int):=oG;simp[execOp,q,Instr.sliceAt,Instr.slice,v,x,AO,run_underlying E,Instr.sliceBounds,run_sliceBound,y.1,y.2,sizeOf,typeInfo,l,m,Result.andThen,Addr.add]
def ABN(z n):lN (Builtin.zeroCells z n).toList=n*z.size:=by simp[Builtin.zeroCells]
def AeR{z n}(h:∀v∈z.toList,v.oneCell')(b:0<z.size):∀v∈(Builtin.zeroCells z n).toList,v.oneCell':=by intro v a;simp[Builtin.zeroCells,VG,BI]at a;obtain⟨i,_,rfl⟩:=a;have c:i%z.size<z.size:=JE _ b;rw[getElem!_pos z _ c];exact h _ sP
def AJt{P L}(hL:Ed P L){o tm H t k off n c n0 x z0 ty vs e e' s I}(u:o.op=.call {callee:=.builtin .clear,args:=#[x],argTypes:=#[t]})(hx:ev tm x=.s k off n c)
 (W:L.get t=sM ⟨n0,z0,.slice e'⟩) (V:L.get e'=sM ty) (h1:∀v∈ty.zero,v.oneCell') (G:lN ty.zero=ty.n) (h0:0<ty.n) (hl:off+n*ty.n<=lN vs) (hk:(k,.As vs e)∈s):
 HS P o tm H s I (λh=>∃M:AA AF,lN M=n*ty.n/\(∀v∈M,v.oneCell')/\h= {r:=.t [],AV:=[(k,.As (BX vs off M) e)],J:=I}) nO:=by
 let⟨i0,d,z,af,hd,hz,T,hn,hzero⟩:=Dg<|hL.get W;let⟨ie,de,l,S,ad,Z,ag,D,f⟩:=Dg<|hL.get V;have O:=KE T;subst O;have aa:l.cells.size=ty.n:=by rw[f]at G;simpa using G
 refine⟨?_⟩;intro ρ a w he B hI R ab ae ah next Q hnext _;have A:=B _ hk _ rfl;simp only at A;have X:x∈o.op.operands:=by simp[u,Op.operands,Call.operands]
 have K:=he x X;rw[hx]at K;simp only[AO]at K;have hlen:lN (Builtin.zeroCells l.cells n).toList=n*ty.n:=by rw[ABN,aa]
 have p:∀v∈(Builtin.zeroCells l.cells n).toList,v.oneCell':=AeR (λv hv=>h1 v<|by rwa[f]) oG;have Y:∀w,(zeroValue e').run P w=.ok l w:=λw=>by simp[zeroValue,typeInfo,S,Z,Result.andThen]
 have ac:w.heap[ρ k]? =sM (.cells vs.toArray e (0,0)):=A;have hex:(execOp a.eval o).run P w=.ok (.value<|.tuple #[]) (w.setRow (ρ k) (BX vs off (Builtin.zeroCells l.cells n).toList).toArray):=by
  by_cases U:n=0;subst U;have E:(Builtin.zeroCells l.cells 0).toList=[]:=Ib (by rw[hlen];simp);have y:w.setRow (ρ k) vs.toArray=w:=by
   have B:(w.setRow (ρ k) vs.toArray).heap=w.heap:=by apply Array.ext_getElem?;intro i;by_cases e2:ρ k=i;subst e2;rw[Lm A,A];exact Ir e2
   rw[World.setRow]at B⊢;simp only at B;rw[B]
  rw[E];have:BX vs off ([]:AA AF)=vs:=by rw[BX];simp
  rw[this,y];simp[execOp,u,resolve,invoke,builtin,K,Builtin.clear_,run_underlying hd,Result.andThen];have g:=run_storeCells_at P (ρ k) off e (Builtin.zeroCells l.cells n).toList 0 vs.toArray w A (by simp only[hlen];simp;omega) p;have e3:(w.setRow (ρ k) (vs.take (off+0)++(Builtin.zeroCells l.cells n).toList++vs.drop (off+0+lN (Builtin.zeroCells l.cells n).toList)).toArray)=w.setRow (ρ k) (BX vs off (Builtin.zeroCells l.cells n).toList).toArray:=by rw[IB];rfl
  simp only at g;rw[e3]at g;obtain⟨n',rfl⟩:∃n',n=n'+1:=⟨n-1,oG⟩;simp[execOp,u,resolve,invoke,builtin,K,Builtin.clear_,run_underlying hd,Y,g,Result.andThen]
 rw[Oper.wp];rw[hex,Oper.upon_value];refine hnext rfl _ _ (λ_=>0) ⟨_,hlen,p,rfl⟩ ⟨rfl,rfl,rfl,by rw[Bl.setRow];exact Ag _,λb m D _=>Ir<|D _<|A9.2 rfl,?_,λj b hj=>by simp at hj,λi j hi=>by simp at hi,?_,λb o' m=>.inl m,λb o' m=>IM m⟩;intro kb C o' F;simp at C;subst C;have e0:∀q,Ab.Bh {r:=.t [],AV:=[(k,AK.As (BX vs off (Builtin.zeroCells l.cells n).toList) e)],J:=I} ρ H q=ρ:=by intro q;funext n;exact F7 (by rw[CX];split<;>rfl)
 rw[e0]at F⊢;cases F;exact Lm A;exact hI.A2 (R _ hk rfl) λb _ N=>Ir N
def AFD(f:Bv)(k:Nat):AU AK:=match f.rg with|none=>f.σ.hp k|some _=>nO
def Bv.re(f:Bv)(k:Nat)(b:AK):Bv:={f with σ:={f.σ with hp:=AV f.σ.hp k<|sM b}}
def Aae{c R f}(k){b p}(d:AFD f k=sM b)(u:∀A,p.AO A=b.AO A)(q:∀x∈p.A3,x∈b.A3)(t:p.live=b.live)(h:GG c R<|f.re k p):GG c R f:=by
 let⟨z,F,I,G⟩:=f;rw[AFD]at d;split at d
 case h_2=>cases d
 rename_i y;simp only at y d;subst y;intro B A a w r;have n:∀j,HJ (AV z.hp k<|sM p) j->HJ z.hp j:=λj ⟨x,g,D⟩=>by by_cases e:j=k;subst e;rw[Eu]at g;cases g;exact⟨b,d,by rwa[<-t]⟩;rw[D3 _ _ e]at g;exact⟨x,g,D⟩
 have l:∀j,(z.hp j).isSome->(AV z.hp k (sM p) j).isSome:=λj m=>by by_cases e:j=k;subst e;rw[Eu];rfl;rwa[D3 _ _ e]
 refine h ?_ A a w ?_;refine⟨λj m=> ?_,B.2⟩;have e:j≠k:=λe=>by have:=B.1 j m;simp only at this;rw[e,d]at this;cases this
 show AV z.hp k (sM p) j=nO;rw[D3 _ _ e];exact B.1 j m
 exact{
  hp:=λj x o g C=>by simp[Bv.re]at g;by_cases e:j=k;subst e;rw[Eu]at g;cases g;rw[u]at C;exact r.hp _ b o d C;rw[D3 _ _ e]at g;exact r.hp j x o g C
  inj:=λi j H m=>r.inj i j (n i H)<|n j m
  kb:=λj x E g v=>by simp[Bv.re]at g⊢;by_cases e:j=k;subst e;rw[Eu]at g;cases g;exact l _<|r.kb _ b E d<|q _ v;rw[D3 _ _ e]at g;exact l _<|r.kb j x E g v
  im:=r.im
  lm:=r.lm
  na:=r.na
  fs:=r.fs
  GV:=r.GV
  dj:=λj m=>r.dj j<|n j m
  ad:=r.ad
  nw:=λj m=>r.nw j<|n j m
  fr:=r.fr
  sz:=r.sz
  os:=r.os
  tape:=r.tape
  output:=r.output
  size:=r.size
  nd:=r.nd
  tm:=r.tm
  kd:=λs j m=>l j<|r.kd s j m}
def AIK{w a k l e}(h:Has w a [(k,.cells l e)])(j):w.cell? ⟨a k,j,nO⟩=(BB a l)[j]? :=by have:=h (k,.cells l e) sP _ rfl;simp only at this;simp[World.cell?,this]
def Zn{P L}(u:Ed P L){t a k off ty l x e I}(j:L.get t=sM ty)(g:ty.k.agg=fF)(D:l[off]? =sM x):
 ∀f m (o:Bw),o.op=.load t (.tmp a)->(∀p∈[(a,SV.p k off)],m p.1=p.2)->LS P o m f [(k,.cells l e)] I x nO:=by
 intro f m o q h;have v:=Ds h (s:=a) (x:=.p k off) sP;let⟨i,d,z,F,y,H,C,G,hzero⟩:=Dg<|u.get j;intro r E w A B _ _ _;refine⟨w,?_,Bl.refl w⟩;have n:=A (.tmp a) xO;simp[ev,v,AO]at n;have c:(isAgg t).run P w=.ok fF w:=by have s:=RF C;rw[g]at s;simp[isAgg,Sem.run_bind,run_underlying y,Result.andThen_ok];cases d<;>simp_all
 have b:w.cell? ⟨r k,off,nO⟩=sM (AO r x):=by rw[AIK B,Hw,GB,D];rfl
 simp[execOp,q,Sem.run_bind,n,Instr.loadAt,Instr.sureAddr,Sem.run_pure,Result.andThen_ok,loadVar,c];simp[load,Sem.run,b]
def AXu{P L}(A:Ed P L){t a k off f l xs e I}(n:L.get t=sM f)(g:f.k.agg)(y:(l.drop off).take f.n=xs)(K:off+f.n<=lN l):
 ∀c q (o:Bw),o.op=.load t (.tmp a)->(∀p∈[(a,SV.p k off)],q p.1=p.2)->LS P o q c [(k,.cells l e)] I (.g xs) nO:=by
 intro c q o x m;have B:=Ds m (s:=a) (x:=.p k off) sP;let⟨i,d,z,G,D,M,H,u,hzero⟩:=Dg<|A.get n;intro r J w E F _ _ _;refine⟨w,?_,Bl.refl w⟩;have s:=E (.tmp a) xO;simp[ev,B,AO]at s;have C:w.rangeAt (r k) off (BB r xs):=λj v b=>by rw[AIK F];rw[<-y,Tj,Ti,GO]at b;split at b;rw[Jg]at b;exact b;cases b
 have h:d.isRow:=by rw[<-RF H]at g;cases d<;>simp_all[TypeDesc.isRow]
 have:=run_loadVar_mid (P:=P) w (r k) off t _ d C D h (by rw[G];simp[<-y,u,Jp];rw[<-u];omega);simp[execOp,x,Sem.run_bind,s,Instr.loadAt,Instr.sureAddr,Sem.run_pure,Result.andThen_ok,this];simp[AO]
def AVW{P L}(hL:Ed P L){o D C t k c E x ty l f e p I}(O:o.op=.store t E x)(ha:ev D E=.p k c)(hx:(ev D x).cs=sM f)(T:L.get t=sM ty)(hn:lN f=ty.n)(hl:c+lN f<=lN l)
 (h1:∀v∈f,AAI v) (X:(k,.cells l e)∈p):HS P o D C p I (λh=>h= {r:=.v undef,AV:=[(k,.cells (BX l c f) e)],J:=I}) nO:=by
 let⟨i,d,z,N,hd,hz,ab,ac,hzero⟩:=Dg<|hL.get T;refine⟨?_⟩;intro ρ a w V hh hI M W aa ae next Q hnext _;have H:=hh _ X _ rfl;simp only at H;have G:E∈o.op.operands:=xO
 have U:x∈o.op.operands:=xO
 have s1:lN (BB ρ f)=lN f:=Jp ρ f;have A:∀v∈BB ρ f,v.oneCell':=λv Y=>by rw[Hw]at Y;obtain⟨y,hy,rfl⟩:=BI.1 Y;exact ALu (h1 y hy) ρ
 have m:(AO ρ<|ev D x).cells=(BB ρ f).toArray:=SV.Tf hx ρ;have e3:(w.setRow (ρ k) ((BB ρ l).take (c+0)++BB ρ f++(BB ρ l).drop (c+0+lN (BB ρ f))).toArray)=w.setRow (ρ k) (BB ρ<|BX l c f).toArray:=by rw[IB,s1];rw[BX];rw[Ru,Ru,Tj,Ti]
 have R:(storeVar t ⟨ρ k,c,nO⟩<|AO ρ<|ev D x).run P w=.ok () (w.setRow (ρ k) (BB ρ<|BX l c f).toArray):=by
  rw[<-e3];rw[storeVar];rw[m];have S:(sizeOf t).run P w=.ok i.size w:=by simp[sizeOf,typeInfo,N]
  have q: ¬(BB ρ f).toArray.size≠i.size:=by simp[Jp];omega
  simp only[Sem.run_bind,S,Result.andThen_ok,q,Hq];exact run_storeCells_at P (ρ k) c e (BB ρ f) 0 (BB ρ l).toArray w H (by simp[Jp];omega) A
 have hex:(execOp a.eval o).run P w=.ok .skip (w.setRow (ρ k) (BB ρ<|BX l c f).toArray):=by have F:=V E G;rw[ha]at F;simp only[AO]at F;simp[execOp,O,Instr.storeAt,F,V x U,Instr.sureAddr,R]
 rw[Oper.wp];rw[hex,Oper.upon_skip];refine hnext rfl _ _ (λ_=>0) rfl ⟨rfl,rfl,rfl,by rw[Bl.setRow];exact Ag _,λb g q _=>Ir<|q (k,.cells (BX l c f) e) sP,?_,λj b hj=>by simp at hj,λi j N=>by simp at N,?_,λb Z g=>.inl g,λb Z g=>IM g⟩;intro kb s Z u;simp at s;subst s;have e0:Ab.Bh {r:=.v undef,AV:=[(k,AK.cells (BX l c f) e)],J:=I} ρ C (λ_=>0)=ρ:=by funext n;exact F7 (by rw[CX];split<;>rfl)
 rw[e0]at u⊢;cases u;exact Lm H;exact hI.A2 (M _ X rfl) λb _ K=>Ir K
def AXq{P L}(G:Ed P L){t a b b2 U k n c i j:Nat}{e V ty I}(y:L.get t=sM ⟨U,V,.slice e⟩)(x:L.get e=sM ty)(N:i<=j)(Q:j<=c):
 ∀g A (o:Bw),o.op=.slice t (.tmp a) (sM<|.tmp b) (sM<|.tmp b2) nO->(∀p∈[(a,SV.s k 0 n c),(b,SV.v<|.int iK<|Int.ofNat i),(b2,SV.v<|.int iK<|Int.ofNat j)],A p.1=p.2)->LS P o A g [] I (.s k (if c=i then 0 else i*ty.n) (j-i)<|c-i) nO:=by
 intro g A o l f;have H:=Ds f (s:=a) (x:=.s k 0 n c) sP;have J:=Ds f (s:=b) (x:=.v<|.int iK<|Int.ofNat i) sP;have q:=Ds f (s:=b2) (x:=.v<|.int iK<|Int.ofNat j) sP;let⟨i0,d,z,O,K,Z,R,Y,hzero⟩:=Dg<|G.get y;let⟨ie,X,ze,u,M,T,S,v,m⟩:=Dg<|G.get x;have r:=KE R;subst r;intro ρ W w s _ _ _ _;refine⟨w,?_,Bl.refl w⟩;have B:=s (.tmp a) xO;have C:=s (.tmp b) xO;have D:=s (.tmp b2) xO;simp[ev,H,J,q]at B C D;have E:(0:Int)<=(i:Int)/\(i:Int)<=(j:Int):=oG;have F:(0:Int)<=(j:Int)/\(j:Int)<=(c:Int):=oG;simp[execOp,l,Instr.sliceAt,Instr.slice,B,C,D,AO,run_underlying K,Instr.sliceBounds,run_sliceBound,E.1,E.2,F.1,F.2,N,Q,sizeOf,typeInfo,u,v,Result.andThen];split<;>simp[Addr.add];intro h;exact h.symm
def AXr{P L}(M:Ed P L){t a b b2 b3 Z k n c i j m:Nat}{e z0 ty I}(B:L.get t=sM ⟨Z,z0,.slice e⟩)(A:L.get e=sM ty)(S:i<=j)(U:j<=m)(X:m<=c):
 ∀l C (o:Bw),o.op=.slice t (.tmp a) (sM<|.tmp b) (sM<|.tmp b2) (sM<|.tmp b3)->(∀p∈[(a,SV.s k 0 n c),(b,SV.v<|.int iK<|Int.ofNat i),(b2,SV.v<|.int iK<|Int.ofNat j),(b3,SV.v<|.int iK<|Int.ofNat m)],C p.1=p.2)->LS P o C l [] I (.s k (if m=i then 0 else i*ty.n) (j-i)<|m-i) nO:=by
 intro l C o g f;have N:=Ds f (s:=a) (x:=.s k 0 n c) sP;have O:=Ds f (s:=b) (x:=.v<|.int iK<|Int.ofNat i) sP;have s:=Ds f (s:=b2) (x:=.v<|.int iK<|Int.ofNat j) sP;have u:=Ds f (s:=b3) (x:=.v<|.int iK<|Int.ofNat m) sP;let⟨i0,d,z,T,Q,hz,V,hn,hzero⟩:=Dg<|M.get B;let⟨ie,de,ze,x,R,Y,W,y,r⟩:=Dg<|M.get A;have v:=KE V;subst v;intro ρ ac w q _ _ _ _;refine⟨w,?_,Bl.refl w⟩;have D:=q (.tmp a) xO;have E:=q (.tmp b) xO;have F:=q (.tmp b2) xO;have G:=q (.tmp b3) xO;simp[ev,N,O,s,u]at D E F G;have H:(0:Int)<=(i:Int)/\(i:Int)<=(j:Int):=oG;have J:(0:Int)<=(j:Int)/\(j:Int)<=(m:Int):=oG;have K:(0:Int)<=(m:Int)/\(m:Int)<=(c:Int):=oG;simp[execOp,g,Instr.sliceAt,Instr.slice,D,E,F,G,AO,run_underlying Q,Instr.sliceBounds,run_sliceBound,H.1,H.2,J.1,J.2,K.1,K.2,S,U,X,sizeOf,typeInfo,x,y,Result.andThen];split<;>simp[Addr.add];intro h;exact h.symm
def Aai{I b a m c k d e f xs}(h:(k,AK.As f e)∈b)(j:(f.drop d).take (m*a)=xs)(i:lN xs=m*a)(g:∀v∈xs,v.oneCell'):Reads I b (.s k d m c) a m xs:=
 ⟨i,g,λl w hN _=>.inr ⟨_,c,rfl,by
   have:=Te (off:=d) (n:=m*a)<|hN _ h _ rfl;rw[<-j];simpa using this⟩⟩
def AQO{P L}(hL:Ed P L){o tm E k s I t e a x n m cap vs news}(hT:Gq P L t e a)(K:O9 tm o.op=sM (t,.s k 0 n cap,x))
 (hk:(k,.As vs e)∈s) (ae:lN vs=cap*a) (F:Reads I s x a m news) (p:n+m<=cap):HS P o tm E s I (λh=>h= {r:=.s k 0 (n+m) cap,AV:=[(k,.As (vs.take (n*a)++news++vs.drop (n*a+m*a)) e)],J:=I}) nO:=by
 refine⟨?_⟩;intro ρ ac w he hN hI W af ah ak next Q hnext _;let⟨⟨z0,ab⟩,⟨ze,ke,X,an⟩,v⟩:=hT;let⟨i,d,z,Y,hd,hz,Z,al,hzero⟩:=Dg<|hL.get ab;let⟨f,de,z',N,ag,am,ai,q,U⟩:=Dg<|hL.get X;have V:=KE Z;subst V;simp only at q;subst q;have g:=hN _ hk _ rfl;simp only at g;obtain⟨H,A⟩:∃H:Ab,H= {r:=.s k 0 (n+m) cap,AV:=[(k,.As (vs.take (n*f.size)++news++vs.drop (n*f.size+m*f.size)) e)],J:=I}:=⟨_,rfl⟩;have T:H.AV=[(k,.As (vs.take (n*f.size)++news++vs.drop (n*f.size+m*f.size)) e)]:=by rw[A]
 have B:H.nb=[]:=by rw[A]
 have Bz:∀u:AN,u.os=w.os->u.tape=w.tape->u.output=w.output->w.heap.size<=u.heap.size->(∀b,b<w.heap.size->ρ k≠b->u.heap[b]? =w.heap[b]?)->
  u.heap[ρ k]? =sM (.cells (vs.take (n*f.size)++news++vs.drop (n*f.size+m*f.size)).toArray e (0,0))->(Builtin.append_ #[t,t] o.type #[AO ρ<|.s k 0 n cap,AO ρ x]).run P w=.ok (.slice (aP<|ρ k) (n+m) cap) u->o.wp P ac w next Q:=by
  intro u G e2 e3 e4 l hq S;rw[Oper.wp];rw[Vg (P:=P) K he S,Oper.upon_value];have e0:Ab.Bh H ρ E (λ_=>0)=ρ:=by funext y;exact F7 (by rw[B];rw[CX];split<;>rfl)
  have hA:After I ρ w u E (λ_=>0) H:=by refine⟨G,e2,e3,e4,λb v C _=>l b v<|C (k,.As (vs.take (n*f.size)++news++vs.drop (n*f.size+m*f.size)) e)<|by rw[T];exact A9.2 rfl,?_,(λj b hj=>by rw[B]at hj;simp at hj),(λi j Y=>by rw[B]at Y;simp at Y),?_,λb o' v=>.inl<|by rw[A]at v;exact v,λb o' v=>by rw[A]at v;exact IM v⟩;intro kb O o' R;rw[T]at O;rw[A9.1 O]at R⊢;cases R;rwa[e0];rw[A];exact hI.A2 (W _ hk rfl) l
  have h:=hnext rfl H u (λ_=>0) A hA;rw[e0,show H.r=.s k 0 (n+m) cap by rw[A]]at h;exact h
 have aj:=Eg g;rcases F.at_ ρ w hN hI with⟨c,G,rfl⟩|⟨ad,c,G,D⟩;have aa:news=[]:=Ib (by rw[F.len];simp);subst aa;refine Bz w rfl rfl rfl (Ag _) (λ_ _ _=>rfl) (by rw[g];simp) ?_;rw[G];have:n<=cap:=oG;simp[AO,Builtin.append_,run_underlying hd,sizeOf,typeInfo,N,Builtin.lenOf,this,Builtin.firstCells,storeCells];have M:n*f.size+lN news<=vs.toArray.size:=by have:=TF f.size p;rw[F.len];simp[Iv,ae];rw[Gm]at this;exact this
 refine Bz (w.setRow (ρ k) (vs.toArray.toList.take (n*f.size)++news++vs.toArray.toList.drop (n*f.size+lN news)).toArray) rfl rfl rfl (by rw[Bl.setRow];exact Ag _) (λb _ C=>Ir C) ?_ (by rw[G];exact run_append_room (P:=P) w t o.type e f hd N (ρ k) n cap vs.toArray g ad m c news F.len D F.one p M);rw[Lm g,F.len]
def AQQ{P L}(H:Ed P L){o O E f I t e g x n cap a}(hT:Gq P L t e g)(k:O9 O o.op=sM (t,.v<|.slice a n cap,x))
 (Z:Reads I f x g 0 []) (p:n<=cap):HS P o O E f I (λh=>h= {r:=.v<|.slice a n cap,J:=I}) nO:=by
 refine⟨?_⟩;intro F ac w T hN G S N U X next Q hnext _;let⟨⟨z0,D⟩,⟨ze,ke,y,ab⟩,l⟩:=hT;let⟨i,d,z,M,K,hz,A,Y,hzero⟩:=Dg<|H.get D;let⟨ie,de,z',m,R,aa,W,C,s⟩:=Dg<|H.get y;have v:=KE A;subst v;have q:(Builtin.append_ #[t,t] o.type #[AO F<|.v<|.slice a n cap,AO F x]).run P w=.ok (.slice a n cap) w:=by rcases Z.at_ F w hN G with⟨c,u,_⟩|⟨ad,c,u,_⟩;rw[u];cases a<;>simp[AO,Builtin.append_,run_underlying K,sizeOf,typeInfo,m,Builtin.lenOf,p,Builtin.firstCells,storeCells];rw[u];cases a<;>simp[AO,Builtin.append_,run_underlying K,sizeOf,typeInfo,m,Builtin.lenOf,p,Builtin.firstCells,storeCells,loadCells,loadCellsFrom,Result.andThen]
 rw[Oper.wp];rw[Vg (P:=P) k T q,Oper.upon_value];exact hnext rfl {r:=.v<|.slice a n cap,J:=I} w (λ_=>0) rfl ⟨rfl,rfl,rfl,Ag _,λb l _ _=>rfl,nA,(λj b V=>by simp at V),(λi j M=>by simp at M),G,λb o l=>.inl l,λb o l=>IM l⟩
def Qu{P:B7}{L:Lay}(x:Ed P L){t a b km n E F kt et d1}{es:Ae Ar}{kv j}{xs:AA AF}{I}(q:L.get t=sM ⟨E,F,.map kt et⟩)(c:P.underlying kt=sM d1)(d:MapKept.IsKey d1 kv)
 (A:Instr.findNow d1 kv es.toList 0=sM (sM (j,.agg xs.toArray))):
 ∀f r (o:Bw),o.op=.lookup t (.tmp a) (.tmp b) tT->(∀p∈[(a,SV.m km),(b,SV.v kv)],r p.1=p.2)->LS P o r f [(km,.Aq<|.map es n)] I (.t [.g<|xs.map .v,.v tV]) nO:=by
 intro f r o m e;have y:=Ds e (s:=a) (x:=.m km) sP;have z:=Ds e (s:=b) (x:=.v kv) sP;let⟨K,J,G,B,i,D,l,C,g⟩:=Dg<|x.get q;have:=XY l;subst this;intro M H w v hN _ _ _;refine⟨w,?_,Bl.refl w⟩;have s:=v (.tmp a) xO;have u:=v (.tmp b) xO;simp[ev,y,z,AO]at s u;have h:=hN (km,.Aq<|.map es n) sP _ rfl;have k:=MapKept.run_findKey (P:=P) (w:=w) c A;simp[execOp,m,s,u,Instr.lookup,run_underlying i,MapKept.run_getObj_map h,MapKept.run_checkKey c d,k,Result.andThen,AO,BB,Gw]
def UN{P:B7}{L:Lay}(v:Ed P L){t a b km n E}{F zs:AA AF}{kt et d1}{es:Ae Ar}{kv I}(m:L.get t=sM ⟨E,F,.map kt et⟩)(c:P.underlying kt=sM d1)(d:MapKept.IsKey d1 kv)
 (C:∀w,(zeroValue et).run P w=.ok (.agg zs.toArray) w) (z:Instr.findNow d1 kv es.toList 0=sM nO):
 ∀f q (o:Bw),o.op=.lookup t (.tmp a) (.tmp b) tT->(∀p∈[(a,SV.m km),(b,SV.v kv)],q p.1=p.2)->LS P o q f [(km,.Aq<|.map es n)] I (.t [.g<|zs.map .v,.v fV]) nO:=by
 intro f q o l e;have x:=Ds e (s:=a) (x:=.m km) sP;have y:=Ds e (s:=b) (x:=.v kv) sP;let⟨K,J,G,A,i,D,k,B,g⟩:=Dg<|v.get m;have:=XY k;subst this;intro M H w u hN _ _ _;refine⟨w,?_,Bl.refl w⟩;have r:=u (.tmp a) xO;have s:=u (.tmp b) xO;simp[ev,x,y,AO]at r s;have h:=hN (km,.Aq<|.map es n) sP _ rfl;have j:=MapKept.run_findKey (P:=P) (w:=w) c z;simp[execOp,l,r,s,Instr.lookup,run_underlying i,MapKept.run_getObj_map h,MapKept.run_checkKey c d,j,C,Result.andThen,AO,BB,Gw]
def AVS{P o u q t km n n' m k x kv v sx es es' f I}(s:o.op=.mapUpdate t m k x)(U:ev u m=.m km)(T:ev u k=.v kv)(Y:ev u x=sx)(X:∀ρ,AO ρ sx=v)(c:(km,.Aq<|.map es n)∈f)
 (p:∀(w:AN) r,w.heap[r]? =sM (.map es n)->(Instr.mapUpdate t (.map<|sM r) kv v).run P w=.ok () {w with heap:=w.heap.setIfInBounds r<|.map es' n'}):HS P o u q f I (λh=>h= {r:=.v undef,AV:=[(km,.Aq<|.map es' n')],J:=I}) nO:=by
 refine⟨?_⟩;intro ρ a w D O M C G N V next Q hnext _;have A:=O _ c _ rfl;simp only at A;have y:=D m xO;have z:=D k xO;have F:=D x xO;rw[U]at y;rw[T]at z;rw[Y,X ρ]at F;simp[AO]at y z;have hex:(execOp a.eval o).run P w=.ok .skip {w with heap:=w.heap.setIfInBounds (ρ km)<|.map es' n'}:=by simp[execOp,s,y,z,F,p w (ρ km) A]
 let⟨Z,H⟩:=MapKept.heap_set (o':=.map es' n') A;rw[Oper.wp];rw[hex,Oper.upon_skip];refine hnext rfl _ _ (λ_=>0) rfl ⟨rfl,rfl,rfl,sP,λb d E _=>H b λe=>(E (km,.Aq<|.map es' n') sP) ?_,?_,λj b S=>by simp at S,λi j R=>by simp at R,?_,λb K d=>.inl d,λb K d=>IM d⟩;exact e.symm;intro kb g K l;simp at g;subst g;have L:Ab.Bh {r:=.v undef,AV:=[(km,AK.Aq<|.map es' n')],J:=I} ρ q (λ_=>0)=ρ:=by funext n;exact F7 (by rw[CX];split<;>rfl)
 rw[L]at l⊢;cases l;exact Z;exact M.A2 (C _ c rfl) λb _ B=>H b λe=>B e.symm
def Wn{P t g h c d n kv v}(j:P.underlying t=sM (.map g h))(a:P.underlying g=sM c)(b:MapKept.IsKey c kv)(i:Instr.findNow c kv d.toList 0=sM nO)(w r)(f:w.heap[r]? =sM (.map d n)):
 (Instr.mapUpdate t (.map<|sM r) kv v).run P w=.ok () {w with heap:=w.heap.setIfInBounds r<|.map (d.push {key:=kv,val:=v,born:=n})<|n+1}:=by
 have e:=MapKept.run_findKey (P:=P) (w:=w) a i;simp[Instr.mapUpdate,run_underlying j,MapKept.run_getObj_map f,MapKept.run_checkKey a b,e,Result.andThen,MapKept.run_setObj_map _ f]
def ALP{P t i k d c n j kv v old}(o:P.underlying t=sM (.map i k))(b:P.underlying i=sM d)(a:MapKept.IsKey d kv)(l:Instr.findNow d kv c.toList 0=sM (sM (j,old)))(m:c[j]?.map (·.key)=sM kv)(w r)(h:w.heap[r]? =sM (.map c n)):
 (Instr.mapUpdate t (.map<|sM r) kv v).run P w=.ok () {w with heap:=w.heap.setIfInBounds r<|.map (c.modify j λe=>{e with key:=kv,val:=v}) n}:=by
 have f:=MapKept.run_findKey (P:=P) (w:=w) b l;have g:=MapKept.run_keyThatStays (P:=P) (w:=w) a;simp[Instr.mapUpdate,run_underlying o,MapKept.run_getObj_map h,MapKept.run_checkKey b a,f,Result.andThen,m,g,MapKept.run_setObj_map _ h]
mutual
theorem Tz{ρ σ K b}(d:σ K=b)(a:∀k,k≠K->σ k=ρ k):∀x,AO ρ (x.B4 K b)=AO σ x
 | .v _=>rfl
 | .p k o=>by
   by_cases e:k=K;subst e;simp[SV.B4,AO,d];have:Nat.beq k K=fF:=by cases q:Nat.beq k K with|false=>rfl|true=>exact(e<|Ha q).elim
   simp[SV.B4,this,AO,a k e]
 | .s k o n c=>by
   by_cases e:k=K;subst e;simp[SV.B4,AO,d];have:Nat.beq k K=fF:=by cases q:Nat.beq k K with|false=>rfl|true=>exact(e<|Ha q).elim
   simp[SV.B4,this,AO,a k e]
 | .m k=>by
   by_cases e:k=K;subst e;simp[SV.B4,AO,d];have:Nat.beq k K=fF:=by cases q:Nat.beq k K with|false=>rfl|true=>exact(e<|Ha q).elim
   simp[SV.B4,this,AO,a k e]
 | .g l=>by simp only[SV.B4,AO];rw[SA d a l]
 | .t l=>by simp only[SV.B4,AO];rw[SA d a l]
 | .fn f x y=>by simp only[SV.B4,AO];rw[SA d a x,SA d a y]
theorem SA{e c K b}(d:c K=b)(a:∀k,k≠K->c k=e k):∀l,BB e (Hz K b l)=BB c l
 |[]=>rfl
 |x::l=>by simp only[Hz,BB];rw[Tz d a x,SA d a l]
end
theorem AK.Tz{ρ σ K b}(c:σ K=b)(a:∀k,k≠K->σ k=ρ k)(x:AK):(x.B4 K b).AO ρ=x.AO σ:=by
 cases x with
 |cells l e=>simp[AK.B4,AK.AO];rw[SA c a]
 |Ey d f=>simp[AK.B4,AK.AO];rw[SA c a]
 |_=>rfl
def AHd(h:Ab)(K:Nat)(o:Obj):AU Obj:=match h.AV.find? (λa=>Nat.beq a.1 K)with
 |some a=>a.2.AO λ_=>0
 |none=>sM o
def Ab.Aec(h:Ab)(K a b q:Nat)(o:Obj):Ab:=
 {
  r:=(h.r.B4 K b).B4 a q
  AV:=(h.AV.filter λc=> !Nat.beq c.1 K).map λc=>(c.1,(c.2.B4 K b).B4 a q)
  nb:=[]
  J:=⟨h.J.at_,λx=>match h.nb with
   |y::_=>(match Nat.beq x q with|true=>y.AO (λ_=>0)|false=>match Nat.beq x b with|true=>AHd h K o|false=>h.J.Ak x)
   |[]=>match Nat.beq x b with|true=>AHd h K o|false=>h.J.Ak x⟩}
theorem OH{a b}(h:a≠b):Nat.beq a b=fF:=by
 cases q:Nat.beq a b with
 |false=>rfl
 |true=>exact(h<|Ha q).elim
def AB.plus(I:AB)(b:Nat)(o:Obj):AB:=⟨I.at_,λx=>match Nat.beq x b with|true=>sM o|false=>I.Ak x⟩
theorem Ua(I:AB)(b o):(I.plus b o).Ak b=sM o:=by simp[AB.plus]
theorem NN(I:AB){b x}(o)(h:x≠b):(I.plus b o).Ak x=I.Ak x:=by simp[AB.plus,OH h]
end Go.AX
