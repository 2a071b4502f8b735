/- Part 2 of the proof of TopHidden. No conditions. -/
import Derived.Test.YtomehhepbeiinaaGreatDoorZ01
import Derived.Deep.RegionHeld3
import Derived.Great.BuildSlice
set_option maxRecDepth 100000
set_option maxHeartbeats 4000000
set_option linter.all false
open Go renaming run_underlying->rU
open Go.Result renaming andThen_ok->aK,andThen->aT
open Go.Sem renaming run_bind->rB
open Nat renaming beq->bQ
open List renaming range->lR
open List renaming length->lN
open Option renaming some->sM,none->nO
open Bool renaming true->tT,false->fF
open Go.Value renaming string->vS,bool->vB
open Go.IntKind renaming i64->iK
namespace Go.Proofs.YtomehhepbeiinaaGreatDoor
open Tryz
section
open Go.RowKit Go.Shelf
def ATp(a b)(c:B9 a)(d:B9 b)(x:Int)(p)(f:x=p.toNat)(w):Calls prog 359 #[pv a,pv b,.int .u8 x] w λe g=>e=.returned (vB<|Lz.fb a b p)/\Below w.heap.size w g:=by have:=AZ9 (AJ a.1) (AJ a.2) (AJ b.1) (AJ b.2) c.l c.r d.l d.r x p f w;simp[IW]at this;exact this
section
attribute [local go_sem] Fz
end
end
end Go.Proofs.YtomehhepbeiinaaGreatDoor
namespace Go.AX
inductive SV where
 |v (x:Value)
 |p (k off:Nat)
 |s (k off len cap:Nat)
 |m (k:Nat)
 |g (l:List SV)
 |t (l:List SV)
 |fn (f:Fn) (a b:List SV)
mutual
def AO(d:Nat->Nat):SV->AF
 | .v x=>x
 | .p k o=>.pointer<|sM ⟨d k,o,nO⟩
 | .s k o n c=>.slice (sM ⟨d k,o,nO⟩) n c
 | .m k=>.map<|sM<|d k
 | .g l=>.agg (BB d l).toArray
 | .t l=>.tuple (BB d l).toArray
 | .fn f a b=>.func f (BB d a).toArray (BB d b).toArray
def BB(a:Nat->Nat):AA SV->AA AF
 |[]=>[]
 |x::l=>AO a x::BB a l
end
mutual
def SV.A3:SV->AA Nat
 | .v _=>[]
 | .p k _=>[k]
 | .s k _ _ _=>[k]
 | .m k=>[k]
 | .g l=>DF l
 | .t l=>DF l
 | .fn _ a b=>DF a++DF b
def DF:AA SV->AA Nat
 |[]=>[]
 |x::l=>x.A3++DF l
end
theorem Hw(a l):BB a l=l.map (AO a):=by
 induction l with
 |nil=>rfl
 |cons x l b=>simp[BB,b]
theorem Mc{l k}:k∈DF l↔∃x∈l,k∈x.A3:=by
 induction l with
 |nil=>simp[DF]
 |cons x l a=>simp[DF,a]
mutual
theorem Ko{g d}:∀x,(∀k∈x.A3,g k=d k)->AO g x=AO d x
 | .v _,_=>rfl
 | .p k o,h=>by grind[AO,SV.A3]
 | .s k o n c,h=>by grind[AO,SV.A3]
 | .m k,h=>by grind[AO,SV.A3]
 | .g l,h=>by simp only[AO];rw[QU l h]
 | .t l,h=>by simp only[AO];rw[QU l h]
 | .fn f a b,h=>by simp only[AO];rw[QU a λk e=>h k<|GC _ e,QU b λk e=>h k<|HZ _ e]
theorem QU{c a}:∀l,(∀k∈DF l,c k=a k)->BB c l=BB a l
 |[],_=>rfl
 |x::l,h=>by simp only[BB];rw[Ko x λk b=>h k<|GC _ b,QU l λk b=>h k<|HZ _ b]
end
def AV{a:Type}(f:Nat->a)(k:Nat)(x:a):Nat->a:=λn=>match bQ n k with|true=>x|false=>f n
theorem Eu{a:Type}(f:Nat->a)(k:Nat)(x:a):AV f k x k=x:=by simp[AV]
theorem D3{a:Type}(f:Nat->a){k n}(x:a)(h:n≠k):AV f k x n=f n:=by rw[AV];split<;>simp_all
theorem AF1{a:Type}(f:Nat->a){j k}(x y:a)(h:j≠k):AV (AV f j x) k y=AV (AV f k y) j x:=by
 funext n
 grind[D3,Eu]
mutual
def SV.Bh(d:Nat->Nat):SV->SV
 | .v x=>.v x
 | .p k o=>.p (d k) o
 | .s k o n c=>.s (d k) o n c
 | .m k=>.m<|d k
 | .g l=>.g<|IN d l
 | .t l=>.t<|IN d l
 | .fn f a b=>.fn f (IN d a)<|IN d b
def IN(a:Nat->Nat):AA SV->AA SV
 |[]=>[]
 |x::l=>x.Bh a::IN a l
end
mutual
theorem PH(d c):∀x,AO d (x.Bh c)=AO (λk=>d<|c k) x
 | .v _=>rfl
 | .p _ _=>rfl
 | .s _ _ _ _=>rfl
 | .m _=>rfl
 | .g l=>by simp only[SV.Bh,AO];rw[QV d c l]
 | .t l=>by simp only[SV.Bh,AO];rw[QV d c l]
 | .fn f a b=>by simp only[SV.Bh,AO];rw[QV d c a,QV d c b]
theorem QV(b a):∀l,BB b (IN a l)=BB (λk=>b<|a k) l
 |[]=>rfl
 |x::l=>by simp only[IN,BB];rw[PH b a x,QV b a l]
end
mutual
theorem Qp(c:Nat->Nat):∀x:SV,(x.Bh c).A3=x.A3.map c
 | .v _=>rfl
 | .p _ _=>rfl
 | .s _ _ _ _=>rfl
 | .m _=>rfl
 | .g l=>by simp[SV.Bh,SV.A3];rw[SI c l]
 | .t l=>by simp[SV.Bh,SV.A3];rw[SI c l]
 | .fn f a b=>by simp[SV.Bh,SV.A3,E3];rw[SI c a,SI c b]
theorem SI(a:Nat->Nat):∀l:AA SV,DF (IN a l)=(DF l).map a
 |[]=>rfl
 |x::l=>by simp[IN,DF,E3];rw[Qp a x,SI a l]
end
inductive AK where
 |cells (l:AA SV) (e:BN)
 |As (l:AA AF) (e:BN)
 |Aq (o:Obj)
 |Ey (ks:AA AF) (vs:AA SV)
 |gone
def Md:AA AF->AA AF->Nat->AA Ar
 |k::ks,v::vs,i=>{key:=k,val:=v,born:=i}::Md ks vs (i+1)
 |_,_,_=>[]
def AK.AO(b:Nat->Nat):AK->AU Obj
 | .cells l e=>sM<|.cells (BB b l).toArray e (0,0)
 | .As l e=>sM<|.cells l.toArray e (0,0)
 | .Aq o=>sM o
 | .Ey a c=>sM<|.map (Md a (BB b c) 0).toArray<|lN a
 | .gone=>nO
def AK.A3:AK->AA Nat
 | .cells l _=>DF l
 | .As _ _=>[]
 | .Aq _=>[]
 | .Ey _ a=>DF a
 | .gone=>[]
def AK.live:AK->Bool
 | .gone=>fF
 |_=>tT
theorem AK.Ko{c a}(b:AK)(h:∀k∈b.A3,c k=a k):b.AO c=b.AO a:=by
 cases b with
 |cells l e=>simp[AK.AO];rw[QU l h]
 |As l e=>rfl
 |Aq o=>rfl
 |Ey f d=>simp[AK.AO];rw[QU d h]
 |gone=>rfl
def AK.Bh(a:Nat->Nat):AK->AK
 | .cells l e=>.cells (IN a l) e
 | .As l e=>.As l e
 | .Aq o=>.Aq o
 | .Ey b c=>.Ey b<|IN a c
 | .gone=>.gone
theorem AK.PH(c a)(b:AK):(b.Bh a).AO c=b.AO (λk=>c<|a k):=by
 cases b with
 |cells l e=>grind[AK.Bh,AK.AO,QV]
 |As l e=>rfl
 |Aq o=>rfl
 |Ey d f=>grind[AK.Bh,AK.AO,QV]
 |gone=>rfl
theorem AK.Qp(a)(b:AK):(b.Bh a).A3=b.A3.map a:=by
 cases b with
 |cells l e=>grind[AK.Bh,AK.A3,SI]
 |As l e=>rfl
 |Aq o=>rfl
 |Ey c d=>grind[AK.Bh,AK.A3,SI]
 |gone=>rfl
theorem AK.UJ(a)(b:AK):(b.Bh a).live=b.live:=by cases b<;>rfl
theorem AK.UI{b:AK}(h:b.live)(a):∃o,b.AO a=sM o:=by
 cases b with
 |cells l e=>exact⟨_,rfl⟩
 |As l e=>exact⟨_,rfl⟩
 |Aq o=>exact⟨_,rfl⟩
 |Ey c d=>exact⟨_,rfl⟩
 |gone=>cases h
structure AB where
 at_:Nat->AU Obj
 Ak:Nat->AU Obj
instance:CoeFun AB (λ_=>Nat->AU Obj):=⟨AB.at_⟩
structure AB.B8(I:AB)(b:Nat)(o:Obj):Prop where
 Ak:I.Ak b=sM o
 at_:I b=nO
structure AB.le(I J:AB):Prop where
 at_:∀b o,I b=sM o->J b=sM o
 Ak:∀b o,I.B8 b o->J.B8 b o
instance {I J:AB}:CoeFun (AB.le I J) (λ_=>∀b o,I b=sM o->J b=sM o):=⟨AB.le.at_⟩
def AB.Da(I J:AB):Prop:=∀b o,I b=sM o->J b=sM o
theorem AB.le.EA{I J:AB}(h:I.le J):I.Da J:=h.at_
theorem AB.le_refl(I:AB):I.le I:=⟨λ_ _ h=>h,λ_ _ h=>h⟩
theorem AB.Hj(I:AB):I.Da I:=λ_ _ h=>h
theorem AB.le.trans{I J K:AB}(h:I.le J)(k:J.le K):I.le K:=⟨λb o x=>k.at_ b o<|h.at_ b o x,λb o x=>k.Ak b o<|h.Ak b o x⟩
theorem AB.Da.trans{I J K:AB}(h:I.Da J)(k:J.Da K):I.Da K:=λb o x=>k b o<|h b o x
def EJ(w:AN)(I:AB):Prop:=∀b o,I b=sM o->w.heap[b]? =sM o
def Holds(w:AN)(I:AB):Prop:=EJ w I/\∀b o,I.Ak b=sM o->w.heap[b]? =sM o
theorem EJ.of_le{w I J}(h:EJ w J)(k:I.Da J):EJ w I:=λb o x=>h b o<|k b o x
def AB.CW(I:AB):AB:=⟨λb=>match I b with|some o=>sM o|none=>I.Ak b,λ_=>nO⟩
theorem AB.Sj{I:AB}{b o}(h:I b=sM o):I.CW b=sM o:=by show(match I b with|some o=>sM o|none=>I.Ak b)=sM o;rw[h]
theorem AB.B8.CW{I:AB}{b o}(h:I.B8 b o):I.CW b=sM o:=by show(match I b with|some o=>sM o|none=>I.Ak b)=sM o;rw[h.at_];exact h.Ak
theorem Holds.CW{w I}(h:Holds w I):EJ w I.CW:=by
 intro b o a;have a:(match I b with|some o=>sM o|none=>I.Ak b)=sM o:=a;cases e:I b with
 |some c=>rw[e]at a;cases a;exact h.1 b o e
 |none=>rw[e]at a;exact h.2 b o a
def AB.free(I:AB)(b:Nat):Prop:=I b=nO/\I.Ak b=nO
structure St where
 tm:Nat->SV
 hp:Nat->AU AK
 im:AB
def HJ(a:Nat->AU AK)(k:Nat):Prop:=∃b,a k=sM b/\b.live
structure Bl(w a:AN):Prop where
 os:a.os=w.os
 tape:a.tape=w.tape
 output:a.output=w.output
 size:w.heap.size<=a.heap.size
 block:∀b,b<w.heap.size->a.heap[b]? =w.heap[b]?
theorem Bl.refl(w):Bl w w:=⟨rfl,rfl,rfl,Ag _,λ_ _=>rfl⟩
theorem Bl.at{w a:AN}(h:Bl w a){b:Nat}{o:Obj}(c:w.heap[b]? =sM o):a.heap[b]? =sM o:=by
 rw[h.block b,c]
 grind
theorem Bl.AVH{w a}(h:Bl w a){I}(c:EJ w I):EJ a I:=λb o x=>h.at<|c b o x
theorem Bl.Eo{w c}(h:Bl w c){I}(a:Holds w I):Holds c I:=⟨h.AVH a.1,λb o x=>h.at<|a.2 b o x⟩
theorem Bl.drew(w):Bl w {w with drawn:=w.drawn+1}:=⟨rfl,rfl,rfl,Ag _,λ_ _=>rfl⟩
theorem Eg{w:AN}{b o}(h:w.heap[b]? =sM o):b<w.heap.size:=by grind
theorem Holds.A2{w g:AN}{I:AB}{p}(h:Holds w I)(d:I.free p)(f:∀b,b<w.heap.size->p≠b->g.heap[b]? =w.heap[b]?):Holds g I:=by constructor;intro b o a;have c:=h.1 b o a;rwa[f b (Eg c) λe=>by rw[<-e,d.1]at a;cases a];intro b o a;have c:=h.2 b o a;rwa[f b (Eg c) λe=>by rw[<-e,d.2]at a;cases a]
theorem IM{I:AB}{b o}{p:Prop}(h:I.Ak b=sM o):(I.Ak b).isSome\/p:=.inl (by rw[h];rfl)
structure Ctx where
 P:B7
 f:Ba
 fn:Func
 I0:AB
 n:Nat
 w0:AN
 ρ0:Nat->Nat
 A:AA Nat
 Rx:AA Deferred
structure KN(c:Ctx)(σ:St)(ρ:Nat->Nat)(w:AN):Prop where
 hp:∀k b o,σ.hp k=sM b->b.AO ρ=sM o->w.heap[ρ k]? =sM o
 inj:∀j k,HJ σ.hp j->HJ σ.hp k->ρ j=ρ k->j=k
 kb:∀k b k',σ.hp k=sM b->k'∈b.A3->(σ.hp k').isSome
 im:Holds w σ.im
 lm:c.I0.Da σ.im
 na:c.A.Nodup
 fs:∀b o,σ.im b=sM o->c.I0 b=sM o\/c.w0.heap.size<=b
 GV:∀b o,σ.im.Ak b=sM o->(c.I0.Ak b).isSome\/c.w0.heap.size<=b
 dj:∀k,HJ σ.hp k->σ.im.free (ρ k)
 ad:∀k∈c.A,ρ k=c.ρ0 k
 nw:∀k,HJ σ.hp k->c.w0.heap.size<=ρ k\/∃k'∈c.A,ρ k=c.ρ0 k'
 fr:∀b,b<c.w0.heap.size->(∀k∈c.A,c.ρ0 k≠b)->c.I0.Ak b=nO->w.heap[b]? =c.w0.heap[b]?
 sz:c.w0.heap.size<=w.heap.size
 os:w.os=c.w0.os
 tape:w.tape=c.w0.tape
 output:w.output=c.w0.output
structure Rel(c:Ctx)(σ:St)(ρ:Nat->Nat)(a:Act)(w:AN):Prop extends KN c σ ρ w where
 size:a.tmps.size=c.n
 nd:a.defers=c.Rx
 tm:∀s,a.tmps.getD s undef=AO ρ (σ.tm s)
 kd:∀s k,k∈(σ.tm s).A3->(σ.hp k).isSome
def ev(a:Nat->SV):Operand->SV
 | .tmp t=>a t
 | .const x=>.v x
 | .global g=>.v<|.pointer<|aP g
 | .func f=>.v<|.func (.func f) #[] #[]
theorem Rel.ev{c d b a w}(h:Rel c d b a w)(x):a.eval x=AO b (AX.ev d.tm x):=by
 cases x with
 |tmp t=>exact h.tm t
 |const x=>rfl
 |global g=>rfl
 |func f=>rfl
def St.put(a:St)(d:AU Tmp)(x:SV):St:=
 match d with
 |some d=>{a with tm:=AV a.tm d x}
 |none=>a
def St.B3(a:St)(k:Nat)(b:AU AK):St:=
 match b with
 |some b=>{a with hp:=AV a.hp k<|sM b}
 |none=>a
theorem Lj(a:St)(d x):(a.put d x).hp=a.hp:=by cases d<;>rfl
theorem AE9(a:St)(d x):(a.put d x).im=a.im:=by cases d<;>rfl
theorem YX(a:St)(k b):(a.B3 k b).tm=a.tm:=by cases b<;>rfl
theorem AHu(a:St)(k b):(a.B3 k b).im=a.im:=by cases b<;>rfl
theorem AFA{a:St}{d x s}(h:d≠sM s):(a.put d x).tm s=a.tm s:=by
 cases d with
 |none=>rfl
 |some d=>exact D3 _ _ λe=>h (by rw[e])
theorem AP4(a:Act)(d x)(h:d<a.tmps.size)(s):(a.put (sM d) x).tmps.getD s undef=if s=d then x else a.tmps.getD s undef:=by
 simp[Act.put,VD,AOz]
 grind
def To(n:Nat):AU Tmp->Bool
 |some d=>Nat.blt d n
 |none=>tT
theorem Rel.put{c i g a w}(h:Rel c i g a w){d}(j:To c.n d){x}(l:∀k∈x.A3,(i.hp k).isSome):
 Rel c (i.put d x) g (a.put d<|AO g x) w:=by
 cases d with
 |none=>exact h
 |some d=>
  have f:d<a.tmps.size:=by rw[h.size];simpa[To,TE]using j
  refine{hp:=h.hp,inj:=h.inj,kb:=h.kb,im:=h.im,lm:=h.lm,na:=h.na,fs:=h.fs,GV:=h.GV,dj:=h.dj,ad:=h.ad,nw:=h.nw,fr:=h.fr,sz:=h.sz,os:=h.os,tape:=h.tape,output:=h.output,size:= ?_,nd:=h.nd,tm:= ?_,kd:= ?_};simp[Act.put,h.size];intro s;rw[AP4 a d _ f];by_cases e:s=d;simp_all[St.put,Eu];rw[AY e];simp only[St.put];rw[D3 _ _ e];exact h.tm s;intro s k b;simp only[St.put]at b;by_cases e:s=d;subst e;rw[Eu]at b;exact l k b;rw[D3 _ _ e]at b;exact h.kd s k b
theorem KN.grow{c σ ρ w d}(h:KN c σ ρ w)(a:Bl w d):KN c σ ρ d where
 hp k b o hb ho:=a.at<|h.hp k b o hb ho
 inj:=h.inj
 kb:=h.kb
 im:=a.Eo h.im
 lm:=h.lm
 na:=h.na
 fs:=h.fs
 GV:=h.GV
 dj:=h.dj
 ad:=h.ad
 nw:=h.nw
 fr b hb hA hO:=(a.block b<|QA hb h.sz).trans<|h.fr b hb hA hO
 sz:=Ch h.sz a.size
 os:=a.os.trans h.os
 tape:=a.tape.trans h.tape
 output:=a.output.trans h.output
theorem Rel.grow{c e d a w b}(h:Rel c e d a w)(f:Bl w b):Rel c e d a b:=
 {h.toKN.grow f with size:=h.size,nd:=h.nd,tm:=h.tm,kd:=h.kd}
theorem KN.AEo{c:Ctx}{i:St}{ρ}{w t:AN}(h:KN c i ρ w)(A:Bl w t){key q}{b:AK}(x:i.hp key=nO)(y:key∉c.A)(D:w.heap.size<=q)
 (E:t.heap[q]? =b.AO (AV ρ key q)) (z:∀k∈b.A3,k≠key->(i.hp k).isSome):KN c (i.B3 key<|sM b) (AV ρ key q) t:=by
 have C:∀k d,i.hp k=sM d->k≠key:=by grind
 have B:∀k,HJ i.hp k->ρ k<w.heap.size:=λk a=>by let⟨d,e,s⟩:=a;let⟨o,p⟩:=AK.UI s ρ;exact Eg<|h.hp k d o e p
 have n:∀k d,i.hp k=sM d->d.AO (AV ρ key q)=d.AO ρ:=λk d e=>AK.Ko _ λr m=>by
  have:=h.kb k d r e m
  grind[D3]
 have l:∀k,k≠key->HJ (AV i.hp key<|sM b) k->HJ i.hp k:=λk a ⟨d,e,s⟩=>⟨d,by rwa [D3 _ _ a]at e,s⟩;have g:=h.grow A;refine{hp:= ?_,inj:= ?_,kb:= ?_,im:= ?_,lm:=g.lm,na:=g.na,fs:=g.fs,GV:=g.GV,dj:= ?_,ad:= ?_,nw:= ?_,fr:=g.fr,sz:=g.sz,os:=g.os,tape:=g.tape,output:=g.output};intro k d o e p;simp[St.B3]at e;by_cases a:k=key
 grind[Eu]
 rw[D3 _ _ a]at e;rw[D3 _ _ a];rw[n k d e]at p;exact g.hp k d o e p;intro j k v a e;simp[St.B3]at v a;by_cases f:j=key
 grind[Eu,D3]
 by_cases u:k=key
 grind[Eu,D3]
 rw[D3 _ _ f,D3 _ _ u]at e;exact h.inj j k (l j f v) (l k u a) e;intro k d r e m;simp[St.B3]at e⊢;by_cases f:r=key;rw[f,Eu];rfl;rw[D3 _ _ f];by_cases a:k=key
 grind[Eu]
 rw[D3 _ _ a]at e;exact h.kb k d r e m;simp[St.B3];exact g.im;intro k a;simp[St.B3]at a⊢;by_cases f:k=key;rw[f,Eu];constructor;cases e:i.im q with
 |none=>rfl
 |some o=>have:=Eg<|h.im.1 q o e;omega
 cases e:i.im.Ak q with
 |none=>rfl
 |some o=>have:=Eg<|h.im.2 q o e;omega
 rw[D3 _ _ f];exact h.dj k<|l k f a;intro k a;rw[D3 _ _ λe=>y<|by rwa[<-e]];exact h.ad k a;intro k a;simp[St.B3]at a;by_cases f:k=key;left;rw[f,Eu];exact Ch h.sz D;rw[D3 _ _ f];exact h.nw k<|l k f a
theorem Rel.AEo{c σ ρ a w f}(h:Rel c σ ρ a w)(g:Bl w f){key q b}(d:σ.hp key=nO)(hA:key∉c.A)(i:w.heap.size<=q)
 (hb:f.heap[q]? =b.AO (AV ρ key q)) (e:∀k∈b.A3,k≠key->(σ.hp k).isSome):Rel c (σ.B3 key<|sM b) (AV ρ key q) a f where
 toKN:=h.toKN.AEo g d hA i hb e
 size:=h.size
 nd:=h.nd
 tm s:=by
  rw[h.tm s,YX];refine Ko _ λk hk=> ?_;have:=h.kd s k hk
  grind[D3]
 kd s k hk:=by
  rw[YX]at hk;have:=h.kd s k hk;simp[St.B3]
  grind[D3]
def Has(w:AN)(b:Nat->Nat)(l:AA<|Nat×AK):Prop:=∀a∈l,∀o,a.2.AO b=sM o->w.heap[b a.1]? =sM o
def LS(P:B7)(o:Bw)(h:Nat->SV)(c:Nat)(g:AA<|Nat×AK)(I:AB)(r:SV)(i:AU AK):Prop:=
 ∀(e:Nat->Nat)(a:Act)(w:AN),(∀x∈o.op.operands,a.eval x=AO e (ev h x))->Has w e g->EJ w I->(∀x∈o.op.operands,c∉(ev h x).A3)->(∀f∈g,c∉f.2.A3/\c≠f.1)->
  match i with
  |none=>∃d,(execOp a.eval o).run P w=.ok (.value<|AO e r) d/\Bl w d
  |some b=>∃d q,(execOp a.eval o).run P w=.ok (.value<|AO (AV e c q) r) d/\Bl w d/\w.heap.size<=q/\d.heap[q]? =b.AO (AV e c q)
def HL(P:B7)(d:Op)(b:AA<|Nat×SV)(e:AA<|Nat×AK)(I:AB)(r:SV):Prop:=∀a c (o:Bw),o.op=d->(∀p∈b,c p.1=p.2)->LS P o c a e I r nO
def evT(b:Nat->Nat)(a:Act):AA (Nat×SV)->Prop
 |[]=>True
 |p::l=>a.eval (.tmp p.1)=AO b p.2/\evT b a l
def Afb{b a}:∀ {l:AA<|Nat×SV},(∀p∈l,a.eval (.tmp p.1)=AO b p.2)->evT b a l
 |[],_=>trivial
 |p::_,h=>⟨h p DT,Afb λq c=>h q<|DY p c⟩
def HL.of{P d a k I r}(h:∀(c:Nat->Nat)(b:Act)(w:AN),evT c b a->(∀v,.const v∈d.operands->b.eval (.const v)=v)->Has w c k->EJ w I->∀o:Bw,o.op=d->(execOp b.eval o).run P w=.ok (.value<|AO c r) w)
 (f:∀p∈a,Operand.tmp p.1∈d.operands:=by simp[Op.operands,Go.Call.operands]):HL P d a k I r:=
 λn q o e g c b w i hN l _ _=>⟨w,h c b w (Afb λp j=>by rw[i _<|e▸f p j,<-g p j];rfl) (λv m=>(i _<|e▸m).trans rfl) hN l o e,Bl.refl w⟩
def QH(P:B7)(o:Bw)(h:Nat->SV)(c:Nat)(g:AA<|Nat×AK)(I:AB)(r:SV)(i:AU AK):Prop:=
 ∀(e:Nat->Nat)(a:Act)(w:AN),(∀x∈o.op.operands,a.eval x=AO e (ev h x))->Has w e g->Holds w I->(∀x∈o.op.operands,c∉(ev h x).A3)->(∀f∈g,c∉f.2.A3/\c≠f.1)->
  match i with
  |none=>∃d,(execOp a.eval o).run P w=.ok (.value<|AO e r) d/\Bl w d
  |some b=>∃d q,(execOp a.eval o).run P w=.ok (.value<|AO (AV e c q) r) d/\Bl w d/\w.heap.size<=q/\d.heap[q]? =b.AO (AV e c q)
def Ni(d:Bool)(P:B7)(o:Bw)(e:Nat->SV)(a:Nat)(c:AA<|Nat×AK)(I:AB)(r:SV)(b:AU AK):Prop:=match d with
 |true=>LS P o e a c I r b
 |false=>QH P o e a c I r b
theorem QH.ASD{P o e c b d I r nb}(h:QH P o e b d I r nb)(n:∀x∈o.op.operands,ev c x=ev e x):QH P o c b d I r nb:=by intro k a w l f g m i;exact h k a w (λx j=>by grind) f g (λx j=>by grind) i
def Ni.o{d:Bool}{P o e b c I r nb}(h:Ni d P o e b c I r nb):QH P o e b c I r nb:=by
 cases d with
 |false=>exact h
 |true=>exact λj a w f g i=>h j a w f g i.1
def LS.d{d:Bool}{P o e b c I r nb}(h:LS P o e b c I r nb):Ni d P o e b c I r nb:=by
 cases d with
 |true=>exact h
 |false=>exact λj a w f g i=>h j a w f g i.1
structure Ab where
 r:SV
 AV:AA (Nat×AK):=[]
 nb:AA AK:=[]
 J:AB
abbrev zP:=Nat->Ab->Prop
def E8(a k:Nat):Prop:=a<=k/\k<a+8
def CX(a:Nat)(b:AA AK)(k:Nat):AU AK:=match Nat.ble a k with|true=>b[k-a]? |false=>nO
theorem Qw{a b k}(c:lN b<=8)(h: ¬E8 a k):CX a b k=nO:=by grind[CX,E8,Nat.le_of_ble_eq_true,List.getElem?_eq_none]
theorem Wo{a c k b}(h:CX a c k=sM b):∃j,k=a+j/\c[j]? =sM b:=by
 rw[CX]at h;cases e:Nat.ble a k with
 |false=>rw[e]at h;cases h
 |true=>rw[e]at h;exact⟨k-a,by simp_all,h⟩
theorem Nv{key nb j}:CX key nb (key+j)=nb[j]? :=by simp_all[CX,Nat.ble_eq_true_of_le,oG]
def Ab.hp(h:Ab)(a:Nat)(d:Nat->AU AK):Nat->AU AK:=λk=>
 match CX a h.nb k with
 |some b=>sM b
 |none=>h.AV.foldl (λf c=>AX.AV f c.1<|sM c.2) d k
def St.EV(b:St)(d:AU Tmp)(a:Nat)(h:Ab):St:=St.put {tm:=b.tm,hp:=h.hp a b.hp,im:=h.J} d h.r
def Ab.Bh(h:Ab)(b:Nat->Nat)(a:Nat)(q:Nat->Nat):Nat->Nat:=λk=>match CX a h.nb k with|some _=>q (k-a)|none=>b k
structure After(I:AB)(ρ:Nat->Nat)(w a:AN)(key:Nat)(q:Nat->Nat)(h:Ab):Prop where
 os:a.os=w.os
 tape:a.tape=w.tape
 output:a.output=w.output
 size:w.heap.size<=a.heap.size
 A2:∀b,b<w.heap.size->(∀kb∈h.AV,ρ kb.1≠b)->I.Ak b=nO->a.heap[b]? =w.heap[b]?
 AV:Has a (h.Bh ρ key q) h.AV
 nb:∀j b,h.nb[j]? =sM b->a.heap[q j]? =b.AO (h.Bh ρ key q)/\b.live/\(w.heap.size<=q j\/∃kb∈h.AV,kb.2=.gone/\q j=ρ kb.1)
 qi:∀i j,i<lN h.nb->j<lN h.nb->q i=q j->i=j
 H2:Holds a h.J
 fresh:∀b o,h.J b=sM o->I b=sM o\/(w.heap.size<=b/\∀j,j<lN h.nb->b≠q j)
 IX:∀b o,h.J.Ak b=sM o->(I.Ak b).isSome\/(w.heap.size<=b/\∀j,j<lN h.nb->b≠q j)
structure HS(P:B7)(o:Bw)(tm:Nat->SV)(key:Nat)(need:AA (Nat×AK))(I:AB)(Φ:Ab->Prop)(b:AU (AA PanicEntry)):Prop where
 out:∀(ρ:Nat->Nat)(a:Act)(w:AN),(∀x∈o.op.operands,a.eval x=AO ρ (ev tm x))->Has w ρ need->Holds w I->
  (∀kb∈need,kb.2.live->I.free (ρ kb.1))->(∀x∈need,∀y∈need,x.2.live->y.2.live->ρ x.1=ρ y.1->x.1=y.1)->(∀x∈o.op.operands,∀k∈(ev tm x).A3,¬E8 key k)->(∀kb∈need,(∀k∈kb.2.A3,¬E8 key k)/\¬E8 key kb.1)->
  ∀(next:Act->AN->Prop)(Q:Exit->Act->AN->Prop),
   (b=nO->∀h c q,Φ h->After I ρ w c key q h->next (a.put o.dst (AO (h.Bh ρ key q) h.r)) c)->
   (∀ch,b=sM ch->∀h c q,Φ h->After I ρ w c key q h->Q (.panic ch) a c)->o.wp P a w next Q
structure Ab.wf(h:Ab)(I:AB)(key:Nat)(need:AA (Nat×AK))(mk:AA Nat):Prop where
 r:∀k∈h.r.A3,k∈need.map (·.1)++mk\/(CX key h.nb k).isSome
 u:∀kb∈h.AV,kb.1∈need.map (·.1)/\(∀b,(kb.1,b)∈need->b.live)/\∀k∈kb.2.A3,k∈need.map (·.1)++mk\/(CX key h.nb k).isSome
 n:∀b∈h.nb,∀k∈b.A3,k∈need.map (·.1)++mk\/(CX key h.nb k).isSome
 l:lN h.nb<=8
 le:I.Da h.J
 d:(h.AV.map (·.1)).Nodup
def LX:Op->Bool
 | .move _| .assign _| .pick _ _ _| .alloc _| .box _ _| .build _ _| .buildSlice _ _ _| .load _ _| .nilCheck _| .binOp _ _ _ _ _| .unOp _ _ _| .convert _ _ _| .makeInterface _ _| .makeFunc _ _ _| .makeMap _ _
 | .slice _ _ _ _ _| .fieldAddr _ _ _| .field _ _ _| .indexAddr _ _ _| .index _ _ _| .lookup _ _ _ _| .extract _ _=>fF
 | .call c=>match c.callee with| .builtin .len| .builtin .cap| .builtin .min| .builtin .max=>fF|_=>tT
 |_=>tT
def PI(Aj:Ae Bw):Nat->Nat->Nat->Bool
 |0,_,_=>fF
 |n+1,j,i=>match Aj[j]? with
  |none=>fF
  |some o=>o.after.any λe=>Region.binds .any e&&(bQ e.on i||PI Aj n e.on i)
def want(Aj:Ae Bw)(a:Nat->SV)(o:Bw):AU Bool:=
 match o.guard with
 |none=>sM tT
 |some (j,b)=>match(Aj[j]?).bind (·.dst)with
  |none=>sM fF
  |some d=>match a d with
   | .v (vB x)=>sM (match x,b with|true,tT=>tT|false,fF=>tT|_,_=>fF)
   | .v (.tuple _)=>sM fF
   |_=>nO
structure ES where
 Aj:Ae Bw
 Cp:Nat
 drawn:Bool
def ES.key(g:ES)(i:Nat):Nat:=g.Cp+8*i
def ES.V1(g:ES)(j i:Nat):Prop:=PI g.Aj (g.Aj.size+1) j i
def ES.strict(g:ES):Bool:=g.drawn&&g.Aj.any λo=>LX o.op
theorem ES.AcO{g:ES}(a:g.drawn){j:Nat}{o:Bw}(h:g.Aj[j]? =sM o)(b:LX o.op):g.strict:=by grind[ES.strict]
def ES.Za(g:ES)(i:Nat)(b:AA Nat):Prop:=g.drawn->∀k∈b,∀a,E8 (g.key a) k->a=i\/g.V1 i a
def Wp:AU AK->AA Nat
 |some b=>b.A3
 |none=>[]
structure APE(c:Ctx)(g:ES)(i:Nat)(o:Bw)(σ:St)(r:SV)(nb:AU AK)(rd:AA (Nat×AK)):Prop where
 is:(want g.Aj σ.tm o=sM fF/\r=.v undef/\nb=nO/\rd=[])\/(want g.Aj σ.tm o=sM tT/\LX o.op=fF/\Ni g.strict c.P o σ.tm (g.key i) rd σ.im r nb)
 at_:∀kb∈rd,σ.hp kb.1=sM kb.2
 key:g.Za i (rd.map (·.1)++r.A3++Wp nb)
 r:∀k∈r.A3,(σ.hp k).isSome\/(k=g.key i/\nb.isSome)
 n:∀b,nb=sM b->∀k∈b.A3,(σ.hp k).isSome\/k=g.key i
structure APD(c:Ctx)(g:ES)(i:Nat)(o:Bw)(CY:AA (Nat×Nat))(σ:St)(need:AA (Nat×AK))(mk:AA Nat)(Φ:Ab->Prop)(a:AU (AA PanicEntry)):Prop where
 w:want g.Aj σ.tm o=sM tT
 h:LX o.op
 hs:HS c.P o σ.tm (g.key i) need σ.im Φ a
 at_:∀kb∈need,σ.hp kb.1=sM kb.2
 UR:∀k∈mk,(σ.hp k).isSome
 key:g.Za i (need.map (·.1)++mk)
 CY:g.drawn->∀b∈CY,∀h,Φ h->b.2∈h.AV.map (·.1)->g.V1 i b.1
 wf:∀h,Φ h->h.wf σ.im (g.key i) need mk
def MJ(c:Ctx)(g:ES)(n:AA PanicEntry->St->Prop)(i:Nat)(K:AA (Nat×Nat)->St->Prop)(b:AA<|Nat×Nat)(d:St):Prop:=
 ∃o,g.Aj[i]? =sM o/\To c.n o.dst/\(∀k,E8 (g.key i) k->d.hp k=nO/\k∉c.A)/\
  (
   (∃r l m,APE c g i o d r l m/\K (m.map (λp=>(i,p.1))++b) ((d.B3 (g.key i) l).put o.dst r))\/
   (∃e q f a,APD c g i o b d e q f a/\(a=nO->∀h,f h->K b (d.EV o.dst (g.key i) h))/\(∀j,a=sM j->∀h,f h->n j (d.EV nO (g.key i) h))))
def Kj(c:Ctx)(g:ES)(a:AA PanicEntry->St->Prop)(K:St->Prop):AA Nat->AA (Nat×Nat)->St->Prop
 |[],_,σ=>K σ
 |i::is,CY,σ=>MJ c g a i (Kj c g a K is) CY σ
theorem MJ.mono{c g m i K l CY b σ}(h:MJ c g m i K CY σ)(s:∀x∈b,x∈CY)
 (z:∀a n σ,(∀x∈n,x∈a)->K a σ->l n σ):MJ c g m i l b σ:=by
 let⟨o,u,v,w,y⟩:=h;refine⟨o,u,v,w,?_⟩;rcases y with⟨r,F,G,E,q⟩|⟨d,C,D,k,p,q,B⟩
 grind
 exact .inr ⟨d,C,D,k,{p with CY:=λA t e=>p.CY A t<|s t e},λf h j=>z _ _ _ s<|q f h j,B⟩
theorem Kj.mono{c g d K}:∀(is:AA Nat) {b a:AA<|Nat×Nat} {e:St},Kj c g d K is b e->(∀x∈a,x∈b)->Kj c g d K is a e
 |[],_,_,_,h,_=>h
 |i::is,_,_,_,h,hr=>MJ.mono h hr λ_ _ _ j f=>Kj.mono is f j
def ADK{Aj}{o:Bw}{b a}(h:∀s∈o.looksAt Aj,a s=b s):∀x∈o.op.operands,ev a x=ev b x:=by
 intro x c;cases x with
 |tmp t=>
  refine h t ?_;rw[Oper.looksAt];exact GC _<|AGa.2 ⟨.tmp t,by simpa using c,rfl⟩
 |const x=>rfl
 |global g=>rfl
 |func f=>rfl
theorem Sz{Aj o c a}(h:∀s∈o.looksAt Aj,a s=c s):want Aj a o=want Aj c o:=by
 unfold want;cases f:o.guard with
 |none=>rfl
 |some g=>
  let⟨j,b⟩:=g;simp only;cases e:(Aj[j]?).bind (·.dst)with
  |none=>rfl
  |some d=>
   simp only;rw[h d<|by unfold Oper.looksAt;rw[f];simp[e]]
theorem LS.congr{P Aj}{o:Bw}{e c b d}{I J:AB}{r nb}(h:LS P o e b d I r nb)(k:∀s∈o.looksAt Aj,c s=e s)(j:I.Da J):LS P o c b d J r nb:=by intro m a w n f g p i;have q:=ADK k;exact h m a w (λx l=>by grind) f (g.of_le j) (λx l=>by grind) i
def Ni.congr{d:Bool}{P Aj o e b a c I r nb}(h:Ni d P o e a c I r nb)(f:∀s∈o.looksAt Aj,b s=e s):Ni d P o b a c I r nb:=by
 cases d with
 |true=>exact LS.congr (Aj:=Aj) (show LS P o e a c I r nb from h) f<|AB.Hj _
 |false=>exact QH.ASD (show QH P o e a c I r nb from h)<|ADK f
theorem HS.congr{P Aj}{o:Bw}{f e c b I g d}(h:HS P o f c b I g d)(n:∀s∈o.looksAt Aj,e s=f s):HS P o e c b I g d:=by refine⟨?_⟩;intro q a w r i j k l t m;have u:=ADK n;exact h.out q a w (λx p=>by grind) i j k l (λx p=>by grind) m
theorem WG{l:AA<|Nat×AK}{f k}(h:k∉l.map (·.1)):l.foldl (λf a=>AX.AV f a.1<|sM a.2) f k=f k:=by
 induction l generalizing f with
 |nil=>rfl
 |cons x l b=>
  simp_all[D3]
def AJT{l:AA<|Nat×AK}{f k x}(h:k∉l.map (·.1)):l.foldl (λf a=>AX.AV f a.1<|sM a.2) (AX.AV f k x)=AX.AV (l.foldl (λf a=>AX.AV f a.1<|sM a.2) f) k x:=by
 induction l generalizing f with
 |nil=>rfl
 |cons y l b=>
  grind[AF1]
theorem ADt{h:Ab}{a k f x}(d:lN h.nb<=8)(c: ¬E8 a k)(e:k∉h.AV.map (·.1)):h.hp a (AX.AV f k x)=AX.AV (h.hp a f) k x:=by funext n;unfold Ab.hp;by_cases b:n=k;subst b;refine Xo ?_ (Eu _ _ _).symm;simp_all[Qw,AJT,Eu];refine Xo ?_ (D3 _ _ b).symm;simp_all[AJT,D3]
theorem ZP{h:Ab}{a k f}(c:lN h.nb<=8)(b: ¬E8 a k)(d:k∉h.AV.map (·.1)):h.hp a f k=f k:=by grind[Ab.hp,Qw,WG]
def put_comm{a:St}{d e x y}(h:∀t,d=sM t->e≠sM t):(a.put d x).put e y=(a.put e y).put d x:=by
 cases d with
 |none=>rfl
 |some d=>
  cases e with
  |none=>rfl
  |some e=>
   grind[St.put,AF1]
def AE8{a:St}{d x k b}:(a.put d x).B3 k b=(a.B3 k b).put d x:=by cases d<;>cases b<;>rfl
def ARA{c:St}{j k a b}(h:j≠k):(c.B3 j a).B3 k b=(c.B3 k b).B3 j a:=by
 cases a with
 |none=>rfl
 |some a=>
  cases b with
  |none=>rfl
  |some b=>grind[St.B3,AF1]
def ACX{a:St}{k n b}(h:n≠k):(a.B3 k b).hp n=a.hp n:=by
 cases b with
 |none=>rfl
 |some b=>exact D3 _ _ h
def AVO{i:St}{d e x a k b}{h:Ab}(j:∀t,d=sM t->e≠sM t)(n:lN h.nb<=8)(m: ¬E8 a k)(o:k∉h.AV.map (·.1)):
 ((i.B3 k b).put d x).EV e a h=((i.EV e a h).B3 k b).put d x:=by
 have g:∀f:St,f.EV e a h=St.put {tm:=f.tm,hp:=h.hp a f.hp,im:=h.J} e h.r:=λ_=>rfl;rw[g,g,Lj,AE8,put_comm (d:=e) (e:=d) λt l c=>j t c l];congr 1;cases b with
 |none=>cases d<;>rfl
 |some b=>
  cases d with
  |none=>grind[St.put,St.B3,ADt]
  |some d=>grind[St.put,St.B3,ADt]
def swap{c:Ctx}{g:ES}{X i j K CY}{σ:St}(hK:∀a a' σ,(∀x∈a',x∈a)->K a σ->K a' σ)(ad:∀Z σ W,(∀k∈c.A,σ.hp k=W.hp k)->σ.im=W.im->X Z σ->X Z W)(hg:g.drawn)(ah:i≠j)
 (R: ¬g.V1 j i) (hl:∀v,g.Aj[i]? =sM v->LX v.op=fF) (ae:∀v B,g.Aj[i]? =sM v->g.Aj[j]? =sM B->v.apart g.Aj B)
 (h:MJ c g X i (MJ c g X j K) CY σ):MJ c g X j (MJ c g X i K) CY σ:=by
 let⟨v,i1,i2,i3,i5⟩:=h;have hb:∀k,E8 (g.key i) k->¬E8 (g.key j) k:=by grind[E8,ES.key]
 have z:E8 (g.key i) (g.key i):=⟨Ag _,oG⟩;have aa:E8 (g.key j) (g.key j):=⟨Ag _,oG⟩;have af:g.key i≠g.key j:=by unfold ES.key;omega
 rcases i5 with⟨L,u,U,J,B,j1,j2,j3,j5⟩|⟨_,_,_,_,y,_⟩
 case inr=>have:=y.h;grind
 let⟨a1,a2,a3⟩:=Oper.apart_spec<|ae v B i1 j1;have V:∀s∈B.looksAt g.Aj,σ.tm s=((σ.B3 (g.key i) u).put v.dst L).tm s:=by grind[AFA,YX]
 have O:∀k,k≠g.key i->((σ.B3 (g.key i) u).put v.dst L).hp k=σ.hp k:=λk E=>by rw[Lj,ACX E]
 have Q:((σ.B3 (g.key i) u).put v.dst L).im=σ.im:=by rw[AE9,AHu]
 have nk:∀ {ks:AA Nat},g.Za j ks->∀k∈ks,¬E8 (g.key i) k:=λE k d e=>by rcases E hg k d i e with e'|e';exact ah e';exact R e'
 have C:∀k,E8 (g.key j) k->σ.hp k=nO/\k∉c.A:=by grind
 refine⟨B,j1,j2,C,?_⟩;rcases j5 with⟨rj,H,an,Y,E⟩|⟨ac,mk,Φ,am,y,E,hp⟩;left;have G:=nk Y.key;refine⟨rj,H,an,?_,v,i1,i2,?_,.inl ⟨L,u,U,?_,?_⟩⟩;refine{is:= ?_,at_:= ?_,key:=Y.key,r:= ?_,n:= ?_};rcases Y.is with⟨q1,q2⟩|⟨q1,q2,q3⟩
 grind[Sz]
 exact .inr ⟨by grind[Sz],q2,Ni.congr (Q▸q3) V⟩;intro p o;rw[<-O p.1 λe=>G p.1 (by simp only[Bc,BI];exact .inl<|.inl ⟨p,o,rfl⟩)<|by rwa[e]];exact Y.at_ p o;intro k d;have N:k≠g.key i:=by grind
 rcases Y.r k d with q|q
 grind
 exact .inr q;intro b F k d;have N:k≠g.key i:=λe=>G k (by rw[F];exact HZ _ d) (by rwa[e]);rcases Y.n b F k d with q|q;rw[O k N]at q;exact .inl q;exact .inr q;intro k A;exact⟨by rw[Lj,ACX λe=>hb k A<|by rwa[e]];exact(i3 k A).1,(i3 k A).2⟩;have D:∀s∈v.looksAt g.Aj,((σ.B3 (g.key j) H).put B.dst rj).tm s=σ.tm s:=λs hs=>by rw[AFA λe=>a3 s e hs,YX]
 have lk:∀k,(σ.hp k).isSome->((σ.B3 (g.key j) H).put B.dst rj).hp k=σ.hp k:=λk d=>by rw[Lj,ACX];intro e;rw[e,(C _ aa).1]at d;cases d
 refine{is:= ?_,at_:= ?_,key:=J.key,r:= ?_,n:= ?_};rcases J.is with⟨q1,q2⟩|⟨q1,q2,q3⟩;exact .inl ⟨by rwa[Sz D],q2⟩;exact .inr ⟨by rwa[Sz D],q2,by rw[AE9,AHu];exact Ni.congr q3 D⟩;intro p o;have:=J.at_ p o;rwa[lk p.1<|by rw[this];rfl];intro k d;rcases J.r k d with q|q;rw[<-lk k q]at q;exact .inl q;exact .inr q;intro b F k d;rcases J.n b F k d with q|q;rw[<-lk k q]at q;exact .inl q;exact .inr q;have e:(((σ.B3 (g.key j) H).put B.dst rj).B3 (g.key i) u).put v.dst L=((((σ.B3 (g.key i) u).put v.dst L).B3 (g.key j) H).put B.dst rj):=by rw[AE8,AE8,put_comm (d:=B.dst) (e:=v.dst) λt ht hd=>a2 t hd ht,ARA λe=>af e.symm]
 rw[e];refine hK _ _ _ (λx P=> ?_) E;rcases Bc.1 P with P|P;exact HZ _<|GC _ P;rcases Bc.1 P with P|P;exact GC _ P;exact HZ _<|HZ _ P;right;have G:=nk y.key;have ab:∀h,Φ h->∀k,E8 (g.key i) k->k∉h.AV.map (·.1):=λh m k A hm=>by let⟨p,o,e⟩:=BI.1 hm;exact G p.1 (GC _ ((y.wf h m).u p o).1) (by rwa[e])
 have hu:∀h,Φ h->g.key i∉h.AV.map (·.1):=λh m=>ab h m _ z;have al:∀h,Φ h->∀p∈U,p.1∉h.AV.map (·.1):=λh m p o hm=>R<|y.CY hg (i,p.1) (GC _<|BI.2 ⟨p,o,rfl⟩) h m hm;have some_:∀(l:AA<|Nat×AK)(f:Nat->AU AK) k,(f k).isSome->((l.foldl (λf p=>AX.AV f p.1<|sM p.2) f) k).isSome:=by
  intro l;induction l with
  |nil=>exact λf k h=>h
  |cons x l ih=>
   intro f k E;refine ih _ k ?_;show(AX.AV f x.1 (sM x.2) k).isSome;by_cases e:k=x.1;rw[e,Eu];rfl;rwa[D3 _ _ e]
 have I:∀(h:Ab)(k:Nat),(σ.hp k).isSome->(h.hp (g.key j) σ.hp k).isSome:=λh k d=>by
  unfold Ab.hp;cases CX (g.key j) h.nb k with
  |some b=>rfl
  |none=>exact some_ _ _ _ d
 refine⟨ac,mk,Φ,am,?_,?_,?_⟩;refine{w:= ?_,h:=y.h,hs:= ?_,at_:= ?_,UR:=λk E=>by rw[<-O k λe=>G k (HZ _ E)<|by rwa[e]];exact y.UR k E,key:=y.key,CY:= ?_,wf:= ?_};rw[Sz V];exact y.w;exact(Q▸y.hs).congr V;intro p o;rw[<-O p.1 λe=>G p.1 (GC _<|BI.2 ⟨p,o,rfl⟩)<|by rwa[e]];exact y.at_ p o;exact λhd ik ai=>y.CY hd ik<|HZ _ ai;intro h m;have:=y.wf h m;rwa [Q]at this;intro ak h m;have A:=E ak h m;have T:=(y.wf h m).l;have e:((σ.B3 (g.key i) u).put v.dst L).EV B.dst (g.key j) h=((σ.EV B.dst (g.key j) h).B3 (g.key i) u).put v.dst L:=AVO (λt ht=>a2 t ht) T (hb _ z)<|hu h m;rw[e]at A;refine⟨v,i1,i2,?_,.inl ⟨L,u,U,?_,A⟩⟩;intro k M;refine⟨?_,(i3 k M).2⟩;show(St.put _ _ _).hp _=nO;rw[Lj];show h.hp (g.key j) σ.hp k=nO;rw[ZP T (hb k M)<|ab h m k M];exact(i3 k M).1;have D:∀s∈v.looksAt g.Aj,(σ.EV B.dst (g.key j) h).tm s=σ.tm s:=λs hs=>by show(St.put _ _ _).tm s=_;rw[AFA λe=>a3 s e hs]
 have aj:(σ.EV B.dst (g.key j) h).im=h.J:=by show(St.put _ _ _).im=_;rw[AE9]
 have S:(σ.EV B.dst (g.key j) h).hp=h.hp (g.key j) σ.hp:=by show(St.put _ _ _).hp=_;rw[Lj]
 have wf:=y.wf h m;rw[Q]at wf;refine{is:= ?_,at_:= ?_,key:=J.key,r:= ?_,n:= ?_};rcases J.is with⟨q1,q2⟩|⟨q1,q2,q3⟩;exact .inl ⟨by rwa[Sz D],q2⟩;exact .inr ⟨by rwa[Sz D],q2,by rw[aj];exact(LS.congr (show LS _ _ _ _ _ _ _ _ from(ES.AcO hg j1 y.h▸q3:Ni tT _ _ _ _ _ _ _ _)) D wf.le).d⟩;intro p o;have:=J.at_ p o;rwa[S,ZP T _<|al h m p o];intro e;rw[(C _ e).1]at this;cases this;intro k d;rcases J.r k d with q|q;rw[S];exact .inl<|I h k q;exact .inr q;intro b F k d;rcases J.n b F k d with q|q;rw[S];exact .inl<|I h k q;exact .inr q;intro Z ag h m;refine ad Z _ _ (λk E=> ?_) ?_<|hp Z ag h m;have N:k≠g.key i:=λe=>(i3 _ z).2 (by rwa[<-e]);show(h.hp (g.key j) ((σ.B3 (g.key i) u).put v.dst L).hp) k=(h.hp (g.key j) σ.hp) k;rw[Lj];cases u with
 |none=>rfl
 |some b=>show h.hp (g.key j) (AX.AV σ.hp (g.key i)<|sM b) k=_;rw[ADt (y.wf h m).l (hb _ z)<|hu h m,D3 _ _ N]
 rfl
def Ys(Aj:Ae Bw):Nat->Nat->Nat->Bool
 |0,_,_=>fF
 |n+1,j,i=>match Aj[j]? with
  |none=>fF
  |some o=>(o.after.any λe=>Region.binds .any e&&bQ e.on i)||o.after.any λe=>Region.binds .any e&&Ys Aj n e.on i
def AC4{Aj}:∀ {n j i:Nat},Ys Aj n j i->PI Aj n j i
 |0,_,_,h=>by cases h
 |n+1,j,i,h=>by rw[Ys]at h;rw[PI];split at h;cases h;rename_i o d;simp[KG,Array.any_eq_true,CJ]at h⊢;rcases h with⟨x,c,a,b⟩|⟨x,c,a,b⟩;exact⟨x,c,a,.inl b⟩;exact⟨x,c,a,.inr<|AC4 b⟩
def Q3(Aj:Ae Bw)(i j:Nat):Bool:=
 match Aj[i]?,Aj[j]? with
 |some oi,sM oj=> !(oi.after.any λe=>Region.binds .any e&&bQ e.on j)&&((!LX oi.op&&oi.apart Aj oj)||Ys Aj (Aj.size+1) j i)
 |_,_=>fF
def AAS(Aj:Ae Bw):AA Nat->Bool
 |[]=>tT
 |i::l=> !bQ i Aj.size&&l.all (λj=>Q3 Aj i j&& !bQ i j)&&AAS Aj l
def Closed(Aj:Ae Bw)(listed:Ae Bool):Prop:=∀j o,Aj[j]? =sM o->listed.getD j fF->∀e∈o.after,Region.binds .any e->listed.getD e.on fF
def AIk{Aj listed}(d:Closed Aj listed):∀(n j i:Nat)(o:Bw),Aj[j]? =sM o->(∀e∈o.after,Region.binds .any e->listed.getD e.on fF)->PI Aj n j i->listed.getD i fF
 |0,_,_,_,_,_,h=>by cases h
 |n+1,j,i,o,ho,hl,h=>by
  rw[PI]at h;rw[ho]at h;simp only[Array.any_eq_true']at h;let⟨e,m,h⟩:=h;simp only[CJ,KG]at h;let⟨k,b⟩:=h;have hle:=hl e m k;rcases b with b|b;rwa[<-Ha b];cases a:Aj[e.on]? with
  |none=>cases n<;>simp[PI,a]at b
  |some f=>exact AIk d n e.on i f a (λg c l=>d e.on f a hle g c l) b
def AH9{c g f K}(n:∀w σ m,(∀k∈c.A,σ.hp k=m.hp k)->σ.im=m.im->f w σ->f w m)(x:g.drawn){j p}:∀l e σ,(∀i∈l,Q3 g.Aj i j/\i≠j/\¬g.V1 j i)->Kj c g f K (l++j::p) e σ->Kj c g f K (j::(l++p)) e σ
 |[],_,_,_,h=>h
 |i::l,e,σ,hp,h=>by
  have o:=hp i sP;have y:MJ c g f i (Kj c g f K (j::(l++p))) e σ:=MJ.mono h (λ_ h=>h) λa v C r t=>AH9 n x l v C (λz s=>hp z<|by simp[s])<|Kj.mono _ t r;have b:=o.1;rw[Q3]at b;refine swap (K:=Kj c g f K<|l++p) (λa v σ r t=>Kj.mono _ t r) n x o.2.1 o.2.2 ?_ ?_ y;intro A u;rw[u]at b;cases d:g.Aj[j]? with
  |none=>rw[d]at b;cases b
  |some B=>
   rw[d]at b;simp[CJ,KG]at b;rcases b.2 with q|q;simpa using q.1;exact(o.2.2<|AC4 q).elim
  intro A B u d;rw[u,d]at b;simp[CJ,KG]at b;rcases b.2 with q|q;exact q.2;exact(o.2.2<|AC4 q).elim
theorem AUV{l:AA<|Nat×AK}{f k}(h:(f k).isSome):(l.foldl (λf a=>AX.AV f a.1<|sM a.2) f k).isSome:=by
 induction l generalizing f with
 |nil=>exact h
 |cons x l b=>
  refine b ?_
  grind[AX.AV]
def WE{l:AA<|Nat×AK}{f}{a:Nat×AK}(h:a∈l)(b:(l.map (·.1)).Nodup):l.foldl (λf a=>AX.AV f a.1<|sM a.2) f a.1=sM a.2:=by
 induction l generalizing f with
 |nil=>cases h
 |cons x l c=>
  simp[E4,GX]at b;simp[Xq]
  grind[WG,Eu]
theorem Nn{h:Ab}{a k f}(b:(f k).isSome):(h.hp a f k).isSome:=by grind[Ab.hp,CX,AUV]
theorem Qi{h:Ab}{a k f b}(c:CX a h.nb k=sM b):h.hp a f k=sM b:=by rw[Ab.hp];rw[c]
def ADu{h:Ab}{a k f}(c:CX a h.nb k=nO):h.hp a f k=h.AV.foldl (λf b=>AX.AV f b.1<|sM b.2) f k:=by rw[Ab.hp];rw[c]
theorem F7{h:Ab}{b a k q}(c:CX a h.nb k=nO):h.Bh b a q k=b k:=by rw[Ab.Bh];rw[c]
theorem Mm{h:Ab}{ρ key j q b}(a:h.nb[j]? =sM b):h.Bh ρ key q (key+j)=q j:=by grind[Ab.Bh,Nv]
def KN.after{c:Ctx}{f:St}{ρ w w' d q}{h:Ab}{r Q}(R:KN c f ρ w)(K:∀k,E8 d k->f.hp k=nO/\k∉c.A)(hn:∀kb∈r,f.hp kb.1=sM kb.2)(aa:∀k∈Q,(f.hp k).isSome)(D:h.wf f.im d r Q)
 (A:After f.im ρ w w' d q h):KN c {tm:=f.tm,hp:=h.hp d f.hp,im:=h.J} (h.Bh ρ d q) w':=by
 have U:∀k,HJ f.hp k->ρ k<w.heap.size:=λk ⟨H,e,y⟩=>by let⟨o,F⟩:=AK.UI y ρ;exact Eg<|R.hp k H o e F
 have Z:∀k∈r.map (·.1)++Q,(f.hp k).isSome:=by grind
 have Y:∀k,(f.hp k).isSome->CX d h.nb k=nO:=λk i=>Qw D.l (λe=>by grind);have g:∀kb∈h.AV,HJ f.hp kb.1:=λkb a=>by let⟨u1,u2,_⟩:=D.u kb a;let⟨x,hx,e⟩:=List.mem_map.1 u1;exact⟨x.2,by rw[<-e];exact hn x hx,u2 x.2<|by rwa[<-e]⟩
 have src:∀k b,CX d h.nb k=nO->h.hp d f.hp k=sM b->(∃kb∈h.AV,kb.1=k/\kb.2=b)\/(k∉h.AV.map (·.1)/\f.hp k=sM b):=λk b i e=>by
  rw[ADu i]at e;by_cases N:k∈h.AV.map (·.1);obtain⟨kb,a,rfl⟩:=List.mem_map.1 N;rw[WE a D.d]at e
  grind
  grind[WG]
 have lv:∀k,CX d h.nb k=nO->HJ (h.hp d f.hp) k->HJ f.hp k:=λk i ⟨b,e,y⟩=>by rcases src k b i e with⟨kb,a,rfl,_⟩|⟨_,z⟩;exact g kb a;exact⟨b,z,y⟩
 have O:∀b:AK,(∀k∈b.A3,(f.hp k).isSome)->b.AO (h.Bh ρ d q)=b.AO ρ:=by grind[AK.Ko,F7]
 have m:∀k,CX d h.nb k=nO\/∃j b,k=d+j/\h.nb[j]? =sM b/\j<lN h.nb:=by grind[CX,Wo,Nat.lt_or_ge,List.getElem?_eq_none]
 have ab:∀j b k,h.nb[j]? =sM b->CX d h.nb k=nO->HJ (h.hp d f.hp) k->q j≠ρ k:=λj b k V i y e=>by
  have hold:=lv k i y;rcases(A.nb j b V).2.2 with t|⟨kb,a,v,t⟩
  grind
  have L:kb.1=k:=R.inj _ _ (g kb a) hold (by rw[<-t,e]);let⟨H,z,M⟩:=y;rcases src k H i z with⟨X,J,e1,e2⟩|⟨N,_⟩;have:X=kb:=by have p:=WE (f:=f.hp) J D.d;have I:=WE (f:=f.hp) a D.d;rw[e1,<-L,I]at p;exact Prod.ext (by rw[e1,L]) (Option.some.inj p).symm
  rw[<-e2,this,v]at M;cases M
  grind
 refine{hp:= ?_,inj:= ?_,kb:= ?_,im:=A.H2,lm:=R.lm.trans D.le,na:=R.na,fs:= ?_,GV:= ?_,dj:= ?_,ad:= ?_,nw:= ?_,fr:= ?_,sz:=Nat.le_trans R.sz A.size,os:=A.os.trans R.os,tape:=A.tape.trans R.tape,output:=A.output.trans R.output};intro k b o e F;have e:h.hp d f.hp k=sM b:=e;rcases m k with i|⟨j,H,rfl,n,_⟩;rcases src k b i e with⟨kb,a,rfl,rfl⟩|⟨N,z⟩;exact A.AV kb a o F;rw[F7 i];rw[O b λC s=>R.kb k b C z s]at F;have y:HJ f.hp k:=⟨b,z,by cases b with|gone=>cases F|_=>rfl⟩;rw[A.A2 (ρ k) (U k y) (λkb a ek=>N<|List.mem_map.2 ⟨kb,a,R.inj _ _ (g kb a) y ek⟩) (R.dj k y).2];exact R.hp k b o z F;rw[Qi<|by rwa[Nv]]at e;cases e;rwa[Mm n,(A.nb j _ n).1];intro j k n i e;rcases m j with p|⟨i1,b1,rfl,n1,l1⟩;rcases m k with I|⟨i2,b2,rfl,n2,l2⟩;rw[F7 p,F7 I]at e;exact R.inj j k (lv j p n) (lv k I i) e
 grind[Mm,F7]
 rcases m k with I|⟨i2,b2,rfl,n2,l2⟩
 grind[Mm,F7]
 rw[Mm n1,Mm n2]at e;rw[A.qi i1 i2 l1 l2 e];intro k b C e s;have e:h.hp d f.hp k=sM b:=e;have Bz:(C∈r.map (·.1)++Q\/(CX d h.nb C).isSome)->(h.hp d f.hp C).isSome:=by grind[Nn,Option.isSome_iff_exists,Qi]
 rcases m k with i|⟨j,H,rfl,n,_⟩;rcases src k b i e with⟨kb,a,rfl,rfl⟩|⟨N,z⟩;exact Bz<|(D.u kb a).2.2 C s;exact Nn<|R.kb k b C z s;rw[Qi<|by rwa[Nv]]at e;cases e;exact Bz<|D.n b (List.mem_of_getElem? n) C s;intro b o G;rcases A.fresh b o G with l|⟨u,_⟩;exact R.fs b o l;exact .inr<|Nat.le_trans R.sz u;intro b o G;rcases A.IX b o G with l|⟨u,_⟩;let⟨o',W⟩:=Option.isSome_iff_exists.1 l;exact R.GV b o' W;exact .inr<|Nat.le_trans R.sz u;intro k i;show h.J _=nO/\h.J.Ak _=nO;constructor;cases B:h.J (h.Bh ρ d q k)with
 |none=>rfl
 |some o=>
  exfalso;rcases m k with p|⟨j,b,rfl,n,P⟩;rw[F7 p]at B;have hold:=lv k p i;rcases A.fresh (ρ k) o B with l|⟨u,_⟩;rw[(R.dj k hold).1]at l;cases l
  grind
  rw[Mm n]at B;rcases A.fresh (q j) o B with l|⟨_,E⟩;rcases(A.nb j b n).2.2 with t|⟨kb,a,_,t⟩;have:=Eg<|R.im.1 (q j) o l;omega;rw[t,(R.dj _<|g kb a).1]at l;cases l;exact E j P rfl
 cases B:h.J.Ak (h.Bh ρ d q k)with
 |none=>rfl
 |some o=>
  exfalso;rcases m k with p|⟨j,b,rfl,n,P⟩;rw[F7 p]at B;rcases A.IX (ρ k) o B with l|⟨u,_⟩;rw[(R.dj k<|lv k p i).2]at l;cases l
  grind
  rw[Mm n]at B;rcases A.IX (q j) o B with l|⟨_,E⟩;let⟨o',l⟩:=Option.isSome_iff_exists.1 l;rcases(A.nb j b n).2.2 with t|⟨kb,a,_,t⟩;have:=Eg<|R.im.2 (q j) o' l;omega;rw[t,(R.dj _<|g kb a).2]at l;cases l;exact E j P rfl
 intro k i;rw[F7<|Qw D.l λe=>(K k e).2 i];exact R.ad k i;intro k i;rcases m k with p|⟨j,b,rfl,n,P⟩;rw[F7 p];exact R.nw k<|lv k p i;rw[Mm n];rcases(A.nb j b n).2.2 with t|⟨kb,a,v,t⟩;exact .inl<|Nat.le_trans R.sz t;rw[t];exact R.nw kb.1<|g kb a;intro b G S hO;have T:f.im.Ak b=nO:=by
  cases e:f.im.Ak b with
  |none=>rfl
  |some o=>
   rcases R.GV b o e with q'|q'
   grind
   omega
 rw[A.A2 b (Nat.lt_of_lt_of_le G R.sz) (λkb a e=> ?_) T];exact R.fr b G S hO;rcases R.nw kb.1 (g kb a)with q'|⟨C,s,q'⟩;omega
 grind
def AF6{c k s a w}(R:Rel c k s a w){Aj o}{b:Bool}(h:want Aj k.tm o=sM b):Region.wanted o (yielded Aj a.tmps)=b:=by
 rw[want]at h;rw[Region.wanted];cases n:o.guard with
 |none=>grind
 |some r=>
  let⟨j,l⟩:=r;rw[n]at h;simp only at h⊢;rw[yielded];cases m:(Aj[j]?).bind (·.dst)with
  |none=>grind
  |some d=>
   rw[m]at h;have e:=R.tm d;simp only at h;have f:∀x,a.tmps.getD d undef=x->x≠undef->a.tmps[d]? =sM x:=λx g p=>by
    rw[VD]at g
    grind
   split at h;rename_i x g;rw[g]at e;have:=f _ e (by simp[AO,undef]);simp[Xz,this,AO];cases x<;>cases l<;>(cases h;rfl);rename_i i g;rw[g]at e;cases h;have:(a.tmps[d]?)=nO\/∃i,a.tmps[d]? =sM (.tuple i):=by
    rw[VD]at e;cases q:a.tmps[d]? with
    |none=>exact .inl rfl
    |some y=>rw[q]at e;exact .inr ⟨i,Dt sM<|show y=.tuple i from e⟩
   grind
   cases h
def AMd{c:Ctx}{g:ES}{KP i K J G v a w Q next}
 (R:Rel c G v a w) (h:MJ c g KP i K J G) (O:∀L p F a' u,K L p->Rel c p F a' u->next a' u) (hP:∀H p F u,KP H p->KN c p F u->Q (.panic H) a u):wpOp c.P g.Aj Q i next a w:=by
 let⟨o,h1,M,N,h5⟩:=h;have kk:E8 (g.key i) (g.key i):=⟨Nat.le_refl _,oG⟩;rw[wpOp];rw[h1];dsimp only;have Tv:∀x∈o.op.operands,∀k∈(ev G.tm x).A3,¬E8 (g.key i) k:=λx _ k B C=>by
  cases x with
  |tmp t=>have:=R.kd t _ B;grind
  |const x=>cases B
  |global x=>cases B
  |func x=>cases B
 have I:∀x∈o.op.operands,a.eval x=AO v (ev G.tm x):=λx _=>R.ev x;rcases h5 with⟨r,nb,rd,z,C⟩|⟨need,mk,Φ,aa,l,C,hp⟩;rcases z.is with⟨q1,rfl,rfl,rfl⟩|⟨q1,_,q3⟩;rw[AF6 R q1,if_neg sP];exact O _ _ v _ _ C<|R.put M (x:=.v undef) nA;rw[AF6 R q1,if_pos rfl];left;have Y:Has w v rd:=λd f o' E=>R.hp d.1 d.2 o' (z.at_ d f) E;have Z:∀d∈rd,g.key i∉d.2.A3/\g.key i≠d.1:=λd f=>by
  refine⟨λn=> ?_,λe=> ?_⟩;have:=R.kb d.1 d.2 _ (z.at_ d f) n;grind
  have:=z.at_ d f;grind
 have:=q3.o v a w I Y R.im (λx B n=>Tv x B _ n kk) Z;rw[Oper.wp];cases nb with
 |none=>
  let⟨u,e,S⟩:=this;rw[e,Oper.upon_value];refine O _ _ v _ _ C<|(R.grow S).put M λk j=> ?_;rcases z.r k j with q|⟨_,q⟩;exact q;cases q
 |some b=>
  let⟨u,q,e,S,hq,hb⟩:=this;rw[e,Oper.upon_value];refine O _ _ _ _ _ C<|(R.AEo S (key:=g.key i) (q:=q) (b:=b) (N _ kk).1 (N _ kk).2 hq hb λk j U=>(z.n b rfl k j).resolve_right U).put M λk j=> ?_;simp[St.B3];rcases z.r k j with q'|⟨q',_⟩
  grind[D3]
  rw[q',Eu];rfl
 rw[AF6 R l.w,if_pos rfl];left;have D:Has w v need:=λd f o' E=>R.hp d.1 d.2 o' (l.at_ d f) E;have V:∀d∈need,(∀k∈d.2.A3,¬E8 (g.key i) k)/\¬E8 (g.key i) d.1:=λd f=>by
  refine⟨λk n C=> ?_,λe=> ?_⟩;have:=R.kb d.1 d.2 _ (l.at_ d f) n;grind
  have:=l.at_ d f;grind
 refine l.hs.out v a w I D R.im (λd f z=>R.dj _ ⟨d.2,l.at_ d f,z⟩) (λx B y hy lx ly e=>R.inj _ _ ⟨x.2,l.at_ x B,lx⟩ ⟨y.2,l.at_ y hy,ly⟩ e) Tv V next Q ?_ ?_;intro X h u q m A;refine O J _ (h.Bh v (g.key i) q) _ _ (C X h m) ?_;have R1:Rel c {tm:=G.tm,hp:=h.hp (g.key i) G.hp,im:=h.J} (h.Bh v (g.key i) q) a u:=
  {
   (R.toKN.after N l.at_ l.UR (l.wf h m) A) with
   size:=R.size
   nd:=R.nd
   tm:=λs=>by rw[R.tm s];refine Ko _ λk j=>(F7<|Qw (l.wf h m).l ?_).symm;intro e;have:=R.kd s k j;grind
   kd:=λs k j=>Nn<|R.kd s k j}
 refine R1.put M λk j=> ?_;rcases(l.wf h m).r k j with n|hn;rcases List.mem_append.1 n with n|n;obtain⟨d,f,rfl⟩:=List.mem_map.1 n;exact Nn (by rw[l.at_ d f];rfl);exact Nn<|l.UR k n
 grind[Option.isSome_iff_exists,Qi]
 intro H P h u q m A;exact hP H _ _ _ (hp H P h m)<|R.toKN.after N l.at_ l.UR (l.wf h m) A
def AJc{l:Ae Bool}{i j}(d:Bool)(h:i<l.size):(l.setIfInBounds i tT).getD j d=if j=i then tT else l.getD j d:=by
 simp[VD,AOz]
 grind
theorem AEd{Aj listed i}:i∈Region.ready .any Aj listed↔i<Aj.size/\listed.getD i tT=fF/\∃o,Aj[i]? =sM o/\∀e∈o.after,Region.binds .any e->listed.getD e.on fF:=by
 rw[Region.ready]
 grind[Array.all_eq_true']
def AL6{Aj}:∀ {l:AA Nat},AAS Aj l->l.Pairwise (λi j=>Q3 Aj i j/\i≠j)
 |[],_=>.nil
 |i::l,h=>by simp only[AAS,CJ,EQ]at h;refine .cons (λj a=> ?_)<|AL6 h.2;have:=h.1.2 j a;simp only[Jf]at this;exact⟨this.1,λe=>by simp_all⟩
def AQK{c g KP K Q}(I:∀s f b,(∀k∈c.A,f.hp k=b.hp k)->f.im=b.im->KP s f->KP s b)(hg:g.drawn)
 (V:∀f v a w,K f->Rel c f v a w->Q .normal a w) (hP:∀s b m a x,KP s b->KN c b m x->a.defers=c.Rx->Q (.panic s) a x):
 ∀(fuel:Nat)(listed:Ae Bool)(rem:AA Nat)(n:AA<|Nat×Nat)(f:St)(v:Nat->Nat)(a:Act)(w:AN),
  listed.size=g.Aj.size->lN rem<=fuel->(∀i,i∈rem↔i<g.Aj.size/\listed.getD i tT=fF)->rem.Pairwise (λi j=>Q3 g.Aj i j/\i≠j)->(∀i∈rem,∀o,g.Aj[i]? =sM o->∀e∈o.after,Region.binds .any e->e.on<g.Aj.size/\e.on≠i)->
  Closed g.Aj listed->Rel c f v a w->Kj c g KP K rem n f->wpAny c.P .any g.Aj Q fuel listed a w:=by
 have first:∀(listed:Ae Bool)(i:Nat)(l:AA Nat),listed.size=g.Aj.size->(∀j,j∈i::l↔j<g.Aj.size/\listed.getD j tT=fF)->(i::l).Pairwise (λi j=>Q3 g.Aj i j/\i≠j)->
  (∀o,g.Aj[i]? =sM o->∀e∈o.after,Region.binds .any e->e.on<g.Aj.size/\e.on≠i)->i∈Region.ready .any g.Aj listed:=by
  intro listed i l H r B d;let⟨p,Y⟩:=(r i).1 sP;refine AEd.2 ⟨p,Y,g.Aj[i],by simp[p],λe G F=> ?_⟩;let⟨u,P⟩:=d _ (by simp[p]) e G F;cases hq:listed.getD e.on tT with
  |true=>
   grind
  |false=>
   rcases Co.1 ((r e.on).2 ⟨u,hq⟩) with q|q;exact(P q).elim;have:=(List.rel_of_pairwise_cons B q).1;rw[Q3]at this;have h1:g.Aj[i]? =sM g.Aj[i]:=by simp[p]
   have h2:g.Aj[e.on]? =sM g.Aj[e.on]:=by simp[u]
   rw[h1,h2]at this;simp only[CJ,Jf]at this;have U:=this.1;rw[Array.any_eq_false']at U;have h4:=U e G;simp[F]at h4
 intro fuel;induction fuel with
 |zero=>
  intro listed rem n f v a w H X r B d L R h;have:rem=[]:=Ib oG;subst this;refine⟨?_,V f v a w h R⟩;apply List.eq_nil_iff_forall_not_mem.2
  grind[AEd]
 |succ fuel ih=>
  intro listed rem n f v a w H X r B d L R h;refine⟨λh0=> ?_,λj hj=> ?_⟩;cases rem with
  |nil=>exact V f v a w h R
  |cons i l=>
   have:=first listed i l H r B<|d i sP
   grind
  let⟨j1,j2,oj,j3,j4⟩:=AEd.1 hj;have M:=(r j).2 ⟨j1,j2⟩;obtain⟨T,Z,rfl⟩:=List.append_of_mem M;have D:=ABm.1 B;have aa:=G4.1 D.2.1;have F:=AH9 I hg T n f (λi p=>by
   have C:=D.2.2 i p j sP;refine⟨C.1,C.2,λhd=> ?_⟩;have Y:=((r i).1<|by simp[p]).2;have u:=((r i).1<|by simp[p]).1;have:=AIk L _ j i oj j3 j4 hd
   grind) h
  have z:j<listed.size:=oG;have nj:j∉T++Z:=by grind
  refine AMd R F (λE b m a' x N R'=> ?_) λs b m x N W=>hP s b m a x N W R.nd;refine ih (listed.setIfInBounds j tT) (T++Z) E b m a' x (by simpa using H) (by simp at X⊢;omega) (λi=> ?_) ?_ (gR) ?_ R' N;rw[AJc tT z]
  grind
  grind
  intro k ok S t e G J;rw[AJc fF z]at t⊢;by_cases y:e.on=j;rw[Ac y];rw[AY y];by_cases O:k=j
  grind
  rw[AY O]at t;exact L k ok S t e G J
inductive TK where
 |struct (l:AA (Nat×Nat))
 |array (n e:Nat)
 |slice (e:Nat)
 |map (k e:Nat)
 |string
 |int (k:IntKind)
 |other
structure Ty where
 n:Nat
 zero:AA AF
 k:TK
def fieldsOf(P:B7)(a:AA Field):AU (AA<|Nat×Nat):=a.mapM λf=>(P.info? f.type).map λi=>(f.offset,i.size)
def KD(P:B7):TypeDesc->AU TK
 | .struct a=>(fieldsOf P a.toList).map .struct
 | .array n e=>sM<|.array n e
 | .slice e=>sM<|.slice e
 | .map k e=>sM<|.map k e
 | .string=>sM .string
 | .int k=>sM<|.int k
 |_=>sM .other
def TK.agg:TK->Bool
 | .struct _| .array _ _=>tT
 |_=>fF
def AMI:AF->Bool
 | .agg _| .tuple _=>fF
 |_=>tT
def Uz(P:B7)(t:BN):AU Ty:=
 match P.info? t,P.underlying t with
 |some i,sM d=>match i.zero,KD P d with
  |some z,sM k=>match k.agg||AMI z with
   |true=>sM ⟨i.size,z.cells.toList,k⟩
   |false=>nO
  |_,_=>nO
 |_,_=>nO
abbrev Lay:=AA<|Nat×Ty
def Lay.get(L:Lay)(t:Nat):AU Ty:=match L with
 |[]=>nO
 |(u,x)::l=>match bQ t u with|true=>sM x|false=>Lay.get l t
def Ed(P:B7)(L:Lay):Prop:=L.map (λe=>Uz P e.1)=L.map (λe=>sM e.2)
def Ed.get{P}:∀ {L:Lay},Ed P L->∀ {t:Nat} {x:Ty},L.get t=sM x->Uz P t=sM x
 |[],_,_,_,h=>by cases h
 |(u,y)::l,hL,t,x,h=>by
  simp only[Ed,E4,P6]at hL;rw[Lay.get]at h;cases a:bQ t u with
  |true=>rw[a]at h;cases h;rw[Ha a];exact hL.1
  |false=>rw[a]at h;exact Ed.get (L:=l) hL.2 h
def Dg{P t x}(h:Uz P t=sM x):∃i d z,P.info? t=sM i/\P.underlying t=sM d/\i.zero=sM z/\KD P d=sM x.k/\x.n=i.size/\x.zero=z.cells.toList:=by
 rw[Uz]at h;cases b:P.info? t with
 |none=>rw[b]at h;cases h
 |some i=>
  cases e:P.underlying t with
  |none=>rw[b,e]at h;cases h
  |some d=>
   rw[b,e]at h;simp only at h;cases a:i.zero with
   |none=>rw[a]at h;cases h
   |some z=>
    cases c:KD P d with
    |none=>rw[a,c]at h;cases h
    |some k=>
     rw[a,c]at h;simp only at h;split at h;cases h;exact⟨i,d,z,rfl,rfl,a,c,rfl,rfl⟩;cases h
def Ada{P t x}(h:Uz P t=sM x)(e:x.k.agg=fF):∃i z,P.info? t=sM i/\i.zero=sM z/\x.zero=[z]/\AMI z:=by
 rw[Uz]at h;cases b:P.info? t with
 |none=>rw[b]at h;cases h
 |some i=>
  cases f:P.underlying t with
  |none=>rw[b,f]at h;cases h
  |some d=>
   rw[b,f]at h;simp only at h;cases a:i.zero with
   |none=>rw[a]at h;cases h
   |some z=>
    cases g:KD P d with
    |none=>rw[a,g]at h;cases h
    |some k=>
     rw[a,g]at h;simp only at h;split at h;rename_i c;cases h;simp only at e;rw[e,AGI]at c;exact⟨i,z,rfl,a,(by cases z<;>first|rfl|cases c),c⟩;cases h
def RF{P d k}(h:KD P d=sM k):(match d with| .struct _| .array _ _=>tT|_=>fF)=k.agg:=by cases d<;>simp[KD]at h<;>first|(subst h;rfl)|(obtain⟨_,_,rfl⟩:=h;rfl)
def AOA{P d l}(h:KD P d=sM (.struct l)):∃a,d=.struct a/\fieldsOf P a.toList=sM l:=by cases d<;>simp[KD]at h;exact⟨_,rfl,h⟩
def KE{P d e}(h:KD P d=sM (.slice e)):d=.slice e:=by cases d<;>simp[KD]at h;rw[h]
def Aeg{P L}(a:Ed P L){t f g e}(h:L.get t=sM ⟨f,g,.slice e⟩):P.underlying t=sM (.slice e):=by let⟨i,d,z,j,b,l,c,k,hzero⟩:=Dg<|a.get h;exact KE c▸b
def XY{P d k e}(h:KD P d=sM (.map k e)):d=.map k e:=by cases d<;>simp[KD]at h;rw[h.1,h.2]
def AN9{P d}(h:KD P d=sM .string):d=.string:=by cases d<;>simp[KD]at h;rfl
def AFm{P d k}(h:KD P d=sM (.int k)):d=.int k:=by cases d<;>simp[KD]at h;rw[h]
def SV.cs:SV->AU (AA SV)
 | .g l=>sM l
 | .t _=>nO
 | .v (.agg _)=>nO
 | .v (.tuple _)=>nO
 |x=>sM [x]
def SV.Tf{x l}(h:x.cs=sM l)(a):(AO a x).cells=(BB a l).toArray:=by
 unfold SV.cs at h;split at h;cases h;rfl;cases h;cases h;cases h;cases h;rename_i b c d e;cases x with
 |v x=>cases x<;>first|rfl|exact(d _ rfl).elim|exact(e _ rfl).elim
 |g l=>exact(b _ rfl).elim
 |t l=>exact(c _ rfl).elim
 |_=>rfl
def SV.ACy{x:SV}{l}(h:x.cs=sM l):∀k∈DF l,k∈x.A3:=by unfold SV.cs at h;split at h;cases h;exact λk a=>a;cases h;cases h;cases h;cases h;intro k a;simpa[DF]using a
theorem Ru(c a b):BB c (a++b)=BB c a++BB c b:=by simp[Hw]
theorem Jp(a l):lN (BB a l)=lN l:=by simp[Hw]
def Tj(a l n):BB a (l.take n)=(BB a l).take n:=by simp[Hw]
def Ti(a l n):BB a (l.drop n)=(BB a l).drop n:=by simp[Hw]
theorem Gw(a l):BB a (l.map .v)=l:=by rw[Hw,Gk];exact List.map_id'' (λ_=>rfl) l
def Pb(l:AA AF):DF (l.map .v)=[]:=by
 induction l with
 |nil=>rfl
 |cons x l a=>simp[DF,SV.A3,a]
def AWa(a b):DF (a++b)=DF a++DF b:=by
 induction a with
 |nil=>rfl
 |cons x l c=>simp[DF,c]
def AWb{a b}(h:∀x∈a,x∈b):∀k∈DF a,k∈DF b:=λk c=>by let⟨x,d,c⟩:=Mc.1 c;exact Mc.2 ⟨x,h x d,c⟩
def BX{b:Type}(l:AA b)(a:Nat)(c:AA b):AA b:=l.take a++c++l.drop (a+lN c)
def AJS:∀(d:AA AF)(A:Ae AF)(b j:Nat),b+j+lN d<=A.size->
 (d.zipIdx j).foldl (λa (cj:AF×Nat)=>a.setIfInBounds (b+cj.2) cj.1) A=(BX A.toList (b+j) d).toArray
 |[],A,b,j,_=>by simp[BX,TB]
 |c::d,A,b,j,h=>by simp only[List.zipIdx_cons,Xq];rw[AJS d _ b (j+1)<|by simp at h⊢;omega];congr 1;simp only[BX,Array.toList_setIfInBounds];apply VJ;intro n;simp only[FM]at h;have m:lN A.toList=A.size:=sP;simp only[List.getElem?_append,Cu,ABh,CK,GO,Jg,VL,m,FM,List.getElem?_cons];by_cases g:n<b+j;have e:n<b+(j+1):=oG;simp[g,e,show min (b+j) A.size=b+j by omega,show min (b+(j+1)) A.size=b+(j+1) by omega,show¬b+j=n by omega,show n<b+j+(lN d+1) by omega,show n<b+(j+1)+lN d by omega];by_cases l:n=b+j;subst l;simp[show min (b+j) A.size=b+j by omega,show min (b+(j+1)) A.size=b+(j+1) by omega,show b+j<b+(j+1) by omega,show b+j<A.size by omega,show b+j<b+(j+1)+lN d by omega];have e: ¬n<b+(j+1):=oG;simp only[g,e,show min (b+j) A.size=b+j by omega,show min (b+(j+1)) A.size=b+(j+1) by omega,Hq];by_cases i:n<b+j+(lN d+1);have f:n<b+(j+1)+lN d:=oG;have k: ¬n-(b+j)=0:=oG;simp[i,f,k,show n-(b+j)-1=n-(b+(j+1)) by omega];have f: ¬n<b+(j+1)+lN d:=oG;simp only[i,f,Hq];rw[AY oG];congr 1;omega
def R5(place:Nat->AU (Nat×Nat))(a:AA SV):AA (Nat×SV)->AU (AA SV)
 |[]=>sM a
 |(i,x)::Eh=>
  match place i,x.cs with
  |some (off,size),sM cs=>match bQ (lN cs) size,Nat.ble (off+size) (lN a) with
   |true,tT=>R5 place (BX a off cs) Eh
   |_,_=>nO
  |_,_=>nO
def ADM{place ρ}:∀ {Er:AA<|Nat×SV} {a r:AA SV},R5 place a Er=sM r->Instr.fill place (BB ρ a).toArray (Er.map λp=>(p.1,AO ρ p.2))=sM (BB ρ r).toArray
 |[],a,r,h=>by cases h;rfl
 |(i,x)::Eh,a,r,h=>by
  rw[R5]at h;cases d:place i with
  |none=>rw[d]at h;cases h
  |some m=>
   let⟨b,size⟩:=m;cases e:x.cs with
   |none=>rw[d,e]at h;cases h
   |some c=>
    rw[d,e]at h;simp only at h;split at h;rename_i k l;have f:lN c=size:=Ha k;have n:b+size<=lN a:=LL l;simp only[E4,Instr.fill,d,SV.Tf e];have o:(BB ρ c).toArray.size=size:=by simp[Jp,f]
    rw[AY<|by simp[Jp,f];omega];have:=AJS (BB ρ c) (BB ρ a).toArray b 0 (by simp[Jp];omega);simp only[IB]at this;have g:(BB ρ c).toArray.zipIdx.foldl (λc (x:AF×Nat)=>c.setIfInBounds (b+x.2) x.1) (BB ρ a).toArray=(BX (BB ρ a) b<|BB ρ c).toArray:=by rw[<-Array.foldl_toList];simpa using this
    rw[g];have j:BX (BB ρ a) b (BB ρ c)=BB ρ (BX a b c):=by simp[BX,Ru,Tj,Ti,Jp]
    rw[j];exact ADM h;cases h
def ALJ{b:Type}{l cs:AA b}{a:Nat}{x:b}(h:x∈BX l a cs):x∈l\/x∈cs:=by rw[BX]at h;rcases Bc.1 h with h|h;rcases Bc.1 h with h|h;exact .inl<|Fg h;exact .inr h;exact .inl<|Mx h
def ADN{place}:∀ {Er:AA<|Nat×SV} {a r:AA SV},R5 place a Er=sM r->∀k∈DF r,k∈DF a\/∃p∈Er,k∈p.2.A3
 |[],a,r,h=>by cases h;exact λk e=>.inl e
 |(i,x)::Eh,a,r,h=>by
  rw[R5]at h;cases f:place i with
  |none=>rw[f]at h;cases h
  |some m=>
   obtain⟨l,j⟩:=m;cases d:x.cs with
   |none=>rw[f,d]at h;cases h
   |some n=>
    rw[f,d]at h;simp only at h;split at h;intro k e;rcases ADN h k e with q|⟨p,g,q⟩;obtain⟨y,c,b⟩:=Mc.1 q;rcases ALJ c with c|c;exact .inl<|Mc.2 ⟨y,c,b⟩;exact .inr ⟨(i,x),sP,SV.ACy d k<|Mc.2 ⟨y,c,b⟩⟩;exact .inr ⟨p,DY _ g,q⟩;cases h
def SQ{l:AA AF}(h:l.all (·.oneCell')):∀v∈l,v.oneCell':=EQ.1 h
def bin(c:BinOp):SV->SV->AU AF
 | .v (.int k a),.v (.int k' b)=>match decide (k=k')with
   |false=>nO
   |true=>match c with
    | .add=>sM<|.int k<|k.wrap<|a+b
    | .sub=>sM<|.int k<|k.wrap<|a-b
    | .mul=>sM<|.int k<|k.wrap<|a*b
    | .eql=>sM<|vB<|a==b
    | .neq=>sM<|vB<|a !=b
    | .lss=>sM<|vB<|a<b
    | .leq=>sM<|vB<|a<=b
    | .gtr=>sM<|vB<|a>b
    | .geq=>sM<|vB<|a≥b
    |_=>nO
 | .v (vS a),.v (vS b)=>match c with
   | .eql=>sM<|vB<|a.toList==b.toList
   | .neq=>sM<|vB<|!(a.toList==b.toList)
   |_=>nO
 |_,_=>nO
def NA(a:Nat->SV):AA Operand->AA SV
 |[]=>[]
 |x::l=>ev a x::NA a l
def R3(a:Nat->SV):AA (Nat×Operand)->AA (Nat×SV)
 |[]=>[]
 |(i,x)::l=>(i,ev a x)::R3 a l
def Y3(a l):NA a l=l.map (ev a):=by
 induction l with
 |nil=>rfl
 |cons x l b=>simp[NA,b]
def Y2(a l):R3 a l=l.map λp=>(p.1,ev a p.2):=by
 induction l with
 |nil=>rfl
 |cons x l b=>let⟨i,x⟩:=x;simp[R3,b]
def V8:AF->AF->AU Bool
 | .int k a,.int k' b=>match decide (k=k')with
   |true=>sM<|a==b
   |false=>nO
 | vS a,vS b=>sM<|a==b
 |_,_=>nO
def Wb:TK->AF->Bool
 | .int k,.int k' _=>decide<|k'=k
 | .string,vS _=>tT
 |_,_=>fF
def UW(a:Bool)(v:SV)(b:Bool):SV:=match a with
 |true=>.t [v,.v<|vB b]
 |false=>v
def OO(a:AF):AA AF->AA SV->AU (AU SV)
 |[],[]=>sM nO
 |k::ks,v::vs=>match V8 a k with
  |some tT=>sM<|sM v
  |some fF=>OO a ks vs
  |none=>nO
 |_,_=>nO
def AKE{P d k a}(c:KD P d=sM k)(h:Wb k a):MapKept.IsKey d a/\∀x r,V8 a x=sM r->Instr.sameNow d a x=sM r:=by unfold Wb at h;split at h;have:=AFm c;subst this;have h:=LO h;refine⟨h,λx r b=> ?_⟩;cases x<;>simp[V8]at b;split at b;rename_i e;simp at b;simp only[Instr.sameNow];rw[Ac<|LO e];simpa using b;cases b;have:=AN9 c;subst this;refine⟨trivial,λx r b=> ?_⟩;cases x<;>simp[V8]at b;simpa[Instr.sameNow]using b;cases h
def AC5{d b}(l:∀x r,V8 b x=sM r->Instr.sameNow d b x=sM r)(g):∀(c:AA AF)(f:AA SV)(n i:Nat)(a:AU SV),OO b c f=sM a->
 (
  match a with
  |some v=>∃j,Instr.findNow d b (Md c (BB g f) n) i=sM (sM (j,AO g v))
  |none=>Instr.findNow d b (Md c (BB g f) n) i=sM nO)
 |[],[],n,i,a,h=>by cases h;rfl
 |k::c,v::f,n,i,a,h=>by simp[OO]at h;split at h;rename_i e;cases h;exact⟨i,by simp[BB,Md,Instr.findNow,l _ _ e]⟩;rename_i e;simp[BB,Md,Instr.findNow,l _ _ e];exact AC5 l g c f (n+1) (i+1) a h;cases h
 |[],_::_,_,_,_,h=>by cases h
 |_::_,[],_,_,_,h=>by cases h
def AIl{c}:∀d b v,OO c d b=sM (sM v)->∀k∈v.A3,k∈DF b
 |[],[],_,h=>by cases h
 |k::d,v::b,x,h=>by simp[OO]at h;intro e a;simp[DF,Bc];split at h;cases h;exact .inl a;exact .inr<|AIl d b x h e a;cases h
 |[],_::_,_,h=>by cases h
 |_::_,[],_,h=>by cases h
def ALO:∀(c d:AA AF)(n:Nat)(k v:AF),lN c=lN d->Md (c++[k]) (d++[v]) n=Md c d n++[{key:=k,val:=v,born:=n+lN c}]
 |[],[],n,k,v,_=>rfl
 |a::c,b::d,n,k,v,h=>by simp[F1,Md,FM];rw[ALO c d (n+1) k v<|by simpa using h,show n+1+lN c=n+(lN c+1) by omega]
def AIm{c}:∀a b,OO c a b=sM nO->lN a=lN b
 |[],[],_=>rfl
 |k::a,v::b,h=>by simp[OO]at h;split at h;cases h;simp[FM];rw[AIm a b h];cases h
 |[],_::_,h=>by cases h
 |_::_,[],h=>by cases h
def Zl(L:Lay)(o:Op)(g:Nat->SV)(m:Nat->AU AK)(h:Nat):AU (SV×AU AK×AA (Nat×AK)):=
 match o with
 | .move x| .assign x=>sM (ev g x,nO,[])
 | .pick c a b=>match ev g c with
   | .v (vB tT)=>sM (ev g a,nO,[])
   | .v (vB fF)=>sM (ev g b,nO,[])
   |_=>nO
 | .alloc e=>match L.get e with
   |some j=>sM (.p h 0,sM<|.cells (j.zero.map .v) e,[])
   |none=>nO
 | .box e x=>match(ev g x).cs with
   |some q=>sM (.p h 0,sM<|.cells q e,[])
   |none=>nO
 | .build t Er=>match L.get t with
   |some ⟨_,zero,.struct l⟩=>match R5 (l.toArray[·]?) (zero.map .v) (R3 g Er.toList)with
    |some r=>sM (.g r,nO,[])
    |none=>nO
   |_=>nO
 | .buildSlice t 0 Er=>match L.get t,Er.toList with
   |some ⟨_,_,.slice e⟩,[]=>match L.get e with
    |some _=>sM (.s h 0 0 0,sM<|.As [] e,[])
    |none=>nO
   |_,_=>nO
 | .buildSlice t len Er=>match L.get t with
   |some ⟨_,_,.slice e⟩=>match L.get e with
    |some ⟨n,zero,_⟩=>match Nat.ble (len*n)<|2^24,bQ (len*n) 0 with
     |true,fF=>match R5 (λi=>sM (i*n,n)) (((Array.range<|len*n).map (zero.toArray[· %zero.toArray.size]!)).toList.map SV.v) (R3 g Er.toList)with
      |some r=>sM (.s h 0 len len,sM<|.cells r e,[])
      |none=>nO
     |_,_=>nO
    |none=>nO
   |_=>nO
 | .load t x=>match ev g x with
   | .p k d=>match m k with
     |some (.cells l e)=>match L.get t with
      |some j=>match j.k.agg,Nat.ble (d+j.n) (lN l) with
       |true,tT=>sM (.g<|(l.drop d).take j.n,nO,[(k,.cells l e)])
       |false,tT=>match l[d]? with
        |some y=>sM (y,nO,[(k,.cells l e)])
        |none=>nO
       |_,_=>nO
      |none=>nO
     |_=>nO
   |_=>nO
 | .nilCheck x=>match ev g x with
   | .p k d=>sM (.p k d,nO,[])
   | .v (.pointer<|sM a)=>sM (.v<|.pointer<|sM a,nO,[])
   | .fn (.func f) a b=>sM (.fn (.func f) a b,nO,[])
   |_=>nO
 | .fieldAddr s x f=>match L.get s with
   |some ⟨_,_,.struct l⟩=>match l[f]?,ev g x with
    |some (d,size),.p k o=>match bQ size 0 with
     |false=>sM (.p k<|o+d,nO,[])
     |true=>nO
    |some (d,size),.v (.pointer<|sM a)=>match bQ size 0 with
     |false=>sM (.v<|.pointer<|sM<|a.add d,nO,[])
     |true=>nO
    |_,_=>nO
   |_=>nO
 | .field t x f=>match L.get t with
   |some ⟨_,_,.struct l⟩=>nO
   |_=>nO
 | .extract x i=>match ev g x with
   | .t l=>match l[i]? with
     |some y=>sM (y,nO,[])
     |none=>nO
   |_=>nO
 | .makeFunc f a b=>sM (.fn f (NA g a.toList)<|NA g b.toList,nO,[])
 | .makeMap _ nO=>sM (.m h,sM<|.Ey [] [],[])
 | .lookup t x ix p=>match L.get t,ev g x,ev g ix with
   |some ⟨_,_,.map kt et⟩,.m km,.v h=>match m km,L.get kt,L.get et with
    |some (.Ey ks vs),sM tk,sM te=>match Wb tk.k h,OO h ks vs with
     |true,sM (sM r)=>sM (UW p r tT,nO,[(km,.Ey ks vs)])
     |true,sM nO=>match te.k.agg,te.zero with
      |false,[z]=>sM (UW p (.v z) fF,nO,[(km,.Ey ks vs)])
      |_,_=>nO
     |_,_=>nO
    |_,_,_=>nO
   |_,_,_=>nO
 | .binOp u _ x y _=>match bin u (ev g x) (ev g y)with
   |some r=>sM (.v r,nO,[])
   |none=>nO
 | .unOp .not _ x=>match ev g x with
   | .v (vB b)=>sM (.v<|vB<|!b,nO,[])
   |_=>nO
 | .call {callee:=.builtin .len,args:=args,argTypes:=ts}=>match args.toList,ts.toList with
   |[x],[t]=>match L.get t,ev g x with
    |some ⟨_,_,.slice _⟩,.v (.slice _ n _)=>sM (.v<|.int iK n,nO,[])
    |some ⟨_,_,.slice _⟩,.s _ _ n _=>sM (.v<|.int iK n,nO,[])
    |some ⟨_,_,.string⟩,.v (vS s)=>sM (.v<|.int iK s.size,nO,[])
    |_,_=>nO
   |_,_=>nO
 | .indexAddr t x ix=>match L.get t with
   |some ⟨_,_,.slice e⟩=>match L.get e,ev g x,ev g ix with
    |some j,.s k d n _,.v (.int _<|.ofNat i)=>match Nat.blt i n with
     |true=>sM (.p k<|d+i*j.n,nO,[])
     |false=>nO
    |_,_,_=>nO
   |_=>nO
 | .convert s t x=>match L.get s,L.get t,ev g x with
   |some ⟨_,_,.int _⟩,sM ⟨_,_,.int k⟩,.v (.int _ n)=>sM (.v<|.int k<|k.wrap n,nO,[])
   |_,_,_=>nO
 |_=>nO
def GZ(o:Bw)(f:Nat->SV)(a:Nat)(e:AA<|Nat×AK)(d:AU AK)(c:AA Nat):Prop:=
 ∀k∈c,(∃x∈o.op.operands,k∈(ev f x).A3)\/(∃b∈e,k∈b.2.A3)\/(k=a/\d.isSome)
structure TO(P:B7)(o:Bw)(tm:Nat->SV)(hp:Nat->AU AK)(key:Nat)(I:AB)(r:SV)(nb:AU AK)(rd:AA (Nat×AK)):Prop where
 ls:LS P o tm key rd I r nb
 at_:∀kb∈rd,hp kb.1=sM kb.2
 kr:GZ o tm key rd nb r.A3
 kn:GZ o tm key rd nb (Wp nb)
 h:LX o.op=fF
def GZ.operand{o b a f e x}(d:x∈o.op.operands):GZ o b a f e (ev b x).A3:=λ_ c=>.inl ⟨x,d,c⟩
theorem GZ.nil{o e a d c}:GZ o e a d c []:=λ_ b=>by cases b
def YP(P w b):(newObj b).run P w=.ok w.heap.size {w with heap:=w.heap.push b}:=rfl
def ADm(w b):Bl w {w with heap:=w.heap.push b}:=
 ⟨rfl,rfl,rfl,sP,λk a=>by show(w.heap.push b)[k]? =_;rw[VF,AY<|Nat.ne_of_lt a]⟩
def SY(w:AN)(b):({w with heap:=w.heap.push b}:AN).heap[w.heap.size]? =sM b:=sP
def TO.pure{P o e h b I r}(g:LX o.op=fF)
 (i:∀(c:Nat->Nat)(a:Act)(w:AN),(∀x∈o.op.operands,a.eval x=AO c (ev e x))->(execOp a.eval o).run P w=.ok (.value<|AO c r) w) (d:GZ o e b [] nO r.A3):TO P o e h b I r nO []:=
 ⟨λc a w f _ _ _ _=>⟨w,i c a w f,Bl.refl w⟩,nA,d,GZ.nil,g⟩
def TO.new{P o tm hp key I r b}(hh:LX o.op=fF)
 (g:∀(ρ:Nat->Nat)(a:Act)(w:AN),(∀x∈o.op.operands,a.eval x=AO (AV ρ key w.heap.size) (ev tm x))->∃ob,b.AO (AV ρ key w.heap.size)=sM ob/\(execOp a.eval o).run P w=.ok (.value<|AO (AV ρ key w.heap.size) r) {w with heap:=w.heap.push ob})
 (hk:r.A3=[key]) (hb:∀k∈b.A3,∃x∈o.op.operands,k∈(ev tm x).A3):TO P o tm hp key I r (sM b) [] where
 ls ρ a w he _ _ hf _:=by
  let⟨ob,h1,f⟩:=g ρ a w (λx d=>by rw[he x d];exact Ko _ λk c=>(D3 _ _ λe=>hf x d<|by rwa[<-e]).symm)
  exact⟨_,w.heap.size,f,ADm w ob,Ag _,by rw[h1];exact SY w ob⟩
 at_ _ hk:=by cases hk
 kr k c:=by rw[hk]at c;exact .inr<|.inr ⟨A9.1 c,rfl⟩
 kn k c:=.inl<|hb k c
 h:=hh
def AER{P L}(S:Ed P L){o tm N aa I r nb rd}
 (h:Zl L o.op tm N aa=sM (r,nb,rd)):TO P o tm N aa I r nb rd:=by
 unfold Zl at h;split at h;rename_i x u;cases h;have D:x∈o.op.operands:=xO
 exact .pure (by rw[u];rfl) (λC a w B=>by simp[execOp,u,B x D])<|GZ.operand D;rename_i x u;cases h;have D:x∈o.op.operands:=xO
 exact .pure (by rw[u];rfl) (λC a w B=>by simp[execOp,u,B x D])<|GZ.operand D;rename_i c x y u;have a0:c∈o.op.operands:=xO
 have D:x∈o.op.operands:=xO
 have V:y∈o.op.operands:=xO
 split at h;rename_i hc;cases h;exact .pure (by rw[u];rfl) (λC a w B=>by have K:=B c a0;rw[hc]at K;simp[execOp,u,K,AO,asBool,B x D])<|GZ.operand D
 rename_i hc;cases h;exact .pure (by rw[u];rfl) (λC a w B=>by have K:=B c a0;rw[hc]at K;simp[execOp,u,K,AO,asBool,B y V])<|GZ.operand V
 cases h;rename_i e u;split at h;rename_i ty E;cases h;let⟨i,d,z,hi,R,hz,J,hn,hzero⟩:=Dg<|S.get E;refine .new (by rw[u];rfl) (λC a w B=>⟨.cells z.cells e (0,0),by simp[AK.AO,Gw,hzero],?_⟩) rfl (λk J=>by simp[AK.A3,Pb]at J);simp[execOp,u,Instr.alloc,zeroValue,typeInfo,hi,hz,newVar,newRow,YP,AO,Eu];cases h;rename_i e x u;have D:x∈o.op.operands:=xO
 split at h;rename_i cs a1;cases h;refine .new (by rw[u];rfl) (λC a w B=>⟨.cells (BB (AV C aa w.heap.size) cs).toArray e (0,0),rfl,?_⟩) rfl λk J=>⟨x,D,SV.ACy a1 k J⟩;simp[execOp,u,Instr.box,newVar,newRow,YP,AO,Eu,B x D,SV.Tf a1];cases h;rename_i t Er u;split at h;rename_i n zero l E;split at h;rename_i r' Y;cases h;let⟨i,d,z,hi,R,hz,J,hn,hzero⟩:=Dg<|S.get E;obtain⟨fs,rfl,ar⟩:=AOA J;have ag:∀p∈Er.toList,p.2∈o.op.operands:=λp N=>by simp[u,Op.operands];exact⟨p.1,by simpa using N⟩
 refine .pure (by rw[u];rfl) (λC a w B=> ?_) λk J=> ?_;have T:=ADM (ρ:=C) Y;rw[Gw]at T;have e1:(R3 tm Er.toList).map (λp=>(p.1,AO C p.2))=(Er.map λx=>(x.1,a.eval x.2)).toList:=by rw[Y2,Gk,VG];exact JD λp N=>by simp[B p.2<|ag p N]
 rw[e1]at T;have U:P.built t (Er.map λx=>(x.1,a.eval x.2)).toList=sM (BB C r').toArray:=by unfold Program.built;rw[hi,R];simp only[hz];have:fs.toList.mapM (λf=>(P.info? f.type).map λi=>(f.offset,i.size))=sM l:=ar;rw[this];simp only;simp only at hzero;rw[<-T,hzero]
 have:=run_build (P:=P) w t _ _ U;simp only[execOp,u,rB,AO];rw[show(Er.map λx=>match x with|(i,x)=>(i,a.eval x))=Er.map λx=>(x.1,a.eval x.2)from rfl,this];rfl;rcases ADN Y k J with q|⟨p,N,q⟩;simp[Pb]at q;rw[Y2]at N;obtain⟨p',av,rfl⟩:=BI.1 N;exact .inl ⟨p'.2,ag p' av,q⟩;cases h;cases h;rename_i t Er u;split at h;rename_i n0 H e E bt;split at h;rename_i ty ai;cases h;have R:=Aeg S E;let⟨ie,de,ze,ae,a3,ax,a7,X,O⟩:=Dg<|S.get ai;have bs:Er=#[]:=Lu.1 bt;refine .new (by rw[u];rfl) (λC a w B=>⟨_,rfl,?_⟩) rfl nA;have bu:Array.range 0=#[]:=rfl;simp[execOp,u,Instr.buildSlice,rU R,sizeOf,typeInfo,ae,bs,Instr.fill,newRow,YP,AO,Eu,BB,bu];cases h;cases h;rename_i t len Er hlen u;split at h;rename_i n0 H e E;split at h;rename_i n zero k0 ai;split at h;rename_i bi az;split at h;rename_i r' Y;cases h;have R:=Aeg S E;let⟨ie,de,ze,ae,a3,ax,a7,X,O⟩:=Dg<|S.get ai;have ag:∀p∈Er.toList,p.2∈o.op.operands:=λp N=>by simp[u,Op.operands];exact⟨p.1,by simpa using N⟩
 refine .new (by rw[u];rfl) (λC a w B=>⟨_,rfl,?_⟩) rfl λk J=> ?_;have T:=ADM (ρ:=AV C aa w.heap.size) Y;rw[Gw]at T;have e1:(R3 tm Er.toList).map (λp=>(p.1,AO (AV C aa w.heap.size) p.2))=(Er.map λx=>(x.1,a.eval x.2)).toList:=by rw[Y2,Gk,VG];exact JD λp N=>by simp[B p.2<|ag p N]
 simp only at X O;rw[e1,Array.toArray_toList,O,Array.toArray_toList,X]at T;have K: ¬len*ie.size>2^24:=by have:=LL bi;rw[X]at this;omega
 have W: ¬len*ie.size=0:=by intro e0;rw[X,e0]at az;simp at az
 have:=run_buildSlice (P:=P) w t e len _ _ ie ze R ae ax K W T;simp only[execOp,u,rB,AO,Eu];rw[show(Er.map λx=>match x with|(i,x)=>(i,a.eval x))=Er.map λx=>(x.1,a.eval x.2)from rfl,this];rfl;rcases ADN Y k J with q|⟨p,N,q⟩;rw[Pb]at q;cases q;rw[Y2]at N;obtain⟨p',av,rfl⟩:=BI.1 N;exact⟨p'.2,ag p' av,q⟩;cases h;cases h;cases h;cases h;rename_i t x u;have D:x∈o.op.operands:=xO
 split at h;rename_i k G A;split at h;rename_i l e ak;split at h;rename_i ty E;let⟨i,d,z,hi,R,hz,J,hn,hzero⟩:=Dg<|S.get E;have cellAt:∀(C:Nat->Nat)(w:AN),Has w C [(k,.cells l e)]->∀j,w.cell? ⟨C k,j,nO⟩=(BB C l)[j]? :=λC w hh j=>by have:=hh (k,.cells l e) sP _ rfl;simp only at this;simp[World.cell?,this]
 split at h;rename_i ab hle;cases h;refine⟨λC a w B hh _ _ _=>⟨w,?_,Bl.refl w⟩,λkb Q=> ?_,λk' M=> ?_,GZ.nil,by rw[u];rfl⟩;have hc:w.rangeAt (C k) G ((BB C l).drop G |>.take ty.n):=λj v hv=>by rw[cellAt C w hh];rw[GO]at hv;split at hv;rw[Jg]at hv;exact hv;cases hv
 have ap:d.isRow:=by rw[<-RF J]at ab;cases d<;>simp_all[TypeDesc.isRow]
 have bw:=LL hle;have:=run_loadVar_mid (P:=P) w (C k) G t _ d hc R ap (by rw[hi];simp[Jp,hn];rw[<-hn];omega);simp only[execOp,u,rB,B x D,A,AO,Instr.loadAt,Instr.sureAddr,Sem.run_pure,aK,this];simp[Tj,Ti];simp at Q;subst Q;exact ak;exact .inr<|.inl ⟨(k,.cells l e),sP,AWb (λy V=>Mx<|Fg V) k' M⟩;rename_i ab hle;split at h;rename_i y V;cases h;refine⟨λC a w B hh _ _ _=>⟨w,?_,Bl.refl w⟩,λkb Q=> ?_,λk' M=> ?_,GZ.nil,by rw[u];rfl⟩;have bh:(isAgg t).run P w=.ok fF w:=by have K:=RF J;rw[ab]at K;simp only[isAgg,rB,rU R,aK];cases d<;>simp_all
 have ao:w.cell? ⟨C k,G,nO⟩=sM (AO C r):=by rw[cellAt C w hh,Hw,GB,V];rfl
 simp only[execOp,u,rB,B x D,A,AO,Instr.loadAt,Instr.sureAddr,Sem.run_pure,aK,loadVar,bh];simp[load,Sem.run,ao];simp at Q;subst Q;exact ak;exact .inr<|.inl ⟨(k,.cells l e),sP,Mc.2 ⟨r,De V,M⟩⟩;cases h;cases h;cases h;cases h;cases h;rename_i x u;have D:x∈o.op.operands:=xO
 split at h;rename_i A;cases h;exact .pure (by rw[u];rfl) (λC a w B=>by simp[execOp,u,B x D,A,AO]) (by rw[<-A];exact GZ.operand D);rename_i A;cases h;exact .pure (by rw[u];rfl) (λC a w B=>by simp[execOp,u,B x D,A,AO]) (by rw[<-A];exact GZ.operand D);rename_i A;cases h;exact .pure (by rw[u];rfl) (λC a w B=>by simp[execOp,u,B x D,A,AO]) (by rw[<-A];exact GZ.operand D);cases h;rename_i s x f u;have D:x∈o.op.operands:=xO
 split at h;rename_i n0 H l E;let⟨i,d,z,hi,R,hz,J,hn,hzero⟩:=Dg<|S.get E;obtain⟨fs,rfl,ar⟩:=AOA J;have ay:∀G F,l[f]? =sM (G,F)->F≠0->∃fd,fs[f]? =sM fd/\fd.offset=G/\∀w,(sizeOf fd.type).run P w=.ok F w:=by
  intro G F T _;have aux:∀(gs:AA Field)(l:AA<|Nat×Nat)(n:Nat),fieldsOf P gs=sM l->l[n]? =sM (G,F)->∃fd,gs[n]? =sM fd/\fd.offset=G/\∀w,(sizeOf fd.type).run P w=.ok F w:=by
   intro gs;induction gs with
   |nil=>intro l n K W;simp[fieldsOf]at K;subst K;simp at W
   |cons g gs ih=>
    intro l n K W;simp only[fieldsOf,List.mapM_cons,Option.bind_eq_bind,Option.pure_def]at K;cases hi:P.info? g.type with
    |none=>simp[hi]at K
    |some i=>
     cases Y:gs.mapM (λf=>(P.info? f.type).map λi=>(f.offset,i.size))with
     |none=>simp[hi,Y]at K
     |some Eh=>
      simp[hi,Y]at K;subst K;cases n with
      |zero=>simp at W;exact⟨g,rfl,W.1,λw=>by simp[sizeOf,typeInfo,hi,W.2]⟩
      |succ n=>simp at W;simpa using ih Eh n Y W
  let⟨fd,K,W⟩:=aux fs.toList l f ar T;exact⟨fd,by simpa using K,W⟩
 split at h;rename_i G F k o' T A;split at h;rename_i hs;cases h;have ah:F≠0:=λe=>by rw[e]at hs;simp at hs
 let⟨fd,K,W,h3⟩:=ay G F T ah;refine .pure (by rw[u];rfl) (λC a w B=> ?_) (λk' M=>.inl ⟨x,D,by rwa[A]⟩);simp only[execOp,u,rB,Instr.fieldAt,rU R,aK,K,B x D,A,AO,Instr.sureAddr,Sem.run_pure,fieldPlace,h3,ah,Hq,W,Addr.add_mid];cases h;rename_i G F ad T A;split at h;rename_i hs;cases h;have ah:F≠0:=λe=>by rw[e]at hs;simp at hs
 let⟨fd,K,W,h3⟩:=ay G F T ah;refine .pure (by rw[u];rfl) (λC a w B=> ?_) GZ.nil;simp only[execOp,u,rB,Instr.fieldAt,rU R,aK,K,B x D,A,AO,Instr.sureAddr,Sem.run_pure,fieldPlace,h3,ah,Hq,W];cases h;cases h;cases h;split at h<;>cases h;rename_i x i u;have D:x∈o.op.operands:=xO
 split at h;rename_i l A;split at h;rename_i y V;cases h;refine .pure (by rw[u];rfl) (λC a w B=> ?_) (λk' M=>.inl ⟨x,D,by rw[A];exact Mc.2 ⟨r,De V,M⟩⟩);simp[execOp,u,B x D,A,AO,Instr.extract,Hw,V];cases h;cases h;rename_i f xs ys u;cases h;refine .pure (by rw[u];rfl) (λC a w B=> ?_) λk' M=> ?_;have e1:xs.map a.eval=(BB C<|NA tm xs.toList).toArray:=by apply Lu.1;rw[VG,Hw,Y3,Gk];exact JD λp N=>B p (by simp[u,Op.operands];exact .inl<|by simpa using N)
 have e2:ys.map a.eval=(BB C<|NA tm ys.toList).toArray:=by apply Lu.1;rw[VG,Hw,Y3,Gk];exact JD λp N=>B p (by simp[u,Op.operands];exact .inr<|by simpa using N)
 simp[execOp,u,Instr.makeFunc,AO,e1,e2];simp only[SV.A3,Bc]at M;rcases M with q|q<;>(let⟨y,V,a9⟩:=Mc.1 q;rw[Y3]at V;obtain⟨p,N,rfl⟩:=BI.1 V);exact .inl ⟨p,by simp[u,Op.operands];exact .inl<|by simpa using N,a9⟩;exact .inl ⟨p,by simp[u,Op.operands];exact .inr<|by simpa using N,a9⟩;rename_i t u;cases h;refine .new (by rw[u];rfl) (λC a w B=>⟨_,rfl,?_⟩) rfl nA;simp[execOp,u,Instr.makeMap,YP,AO,Eu];rfl;rename_i t x ix ok u;have D:x∈o.op.operands:=xO
 have au:ix∈o.op.operands:=xO
 split at h;rename_i n0 z0 kt et km kv E A a5;split at h;rename_i ks vs tk te ak bq bl;let⟨i0,d0,b5,bx,a2,b3,bm,b0,be⟩:=Dg<|S.get E;let⟨i1,d1,b6,bz,aj,b4,bn,b1,bf⟩:=Dg<|S.get bq;have:=XY bm;subst this;have core:∀(v:SV)(b:Bool)(a:AU SV),Wb tk.k kv->OO kv ks vs=sM a->(match a with|some x=>v=x/\b=tT|none=>b=fF/\v.A3=[]/\∃z,(∀w,(zeroValue et).run P w=.ok z w)/\v=.v z)->
  TO P o tm N aa I (UW ok v b) nO [(km,.Ey ks vs)]:=by
  intro v b a Q Z Y;let⟨am,aw⟩:=AKE bn Q;have af:∀k∈v.A3,k∈DF vs:=by
   cases a with
   |some x=>obtain⟨rfl,_⟩:=Y;exact AIl ks vs v Z
   |none=>rw[Y.2.1];intro k J;cases J
  refine⟨λC a' w B hh _ _ _=>⟨w,?_,Bl.refl w⟩,λkb al=>by simp at al;subst al;exact ak,λk J=>.inr<|.inl ⟨_,A9.2 rfl,?_⟩,GZ.nil,by rw[u];rfl⟩;have U:=hh (km,.Ey ks vs) sP _ rfl;have e1:=B x D;have e2:=B ix au;rw[A]at e1;rw[a5]at e2;simp only[AO]at e1 e2;have ac:=AC5 aw C ks vs 0 0 a Z;cases a with
  |some y=>
   obtain⟨rfl,rfl⟩:=Y;let⟨j,hj⟩:=ac;have T:=MapKept.run_findKey (P:=P) (w:=w) aj hj;cases ok<;>simp[execOp,u,e1,e2,Instr.lookup,rU a2,MapKept.run_getObj_map U,MapKept.run_checkKey aj am,T,aT,AO,BB,UW]
  |none=>
   obtain⟨rfl,_,z,hz,rfl⟩:=Y;cases ok<;>simp[execOp,u,e1,e2,Instr.lookup,rU a2,MapKept.run_getObj_map U,MapKept.run_checkKey aj am,MapKept.run_findKey (P:=P) (w:=w) aj ac,hz,aT,AO,BB,UW]
  show k∈DF vs;cases ok with
  |true=>
   simp only[UW,SV.A3,DF,Hn]at J;exact af k J
  |false=>exact af k J
 split at h;rename_i r Q Z;cases h;exact core r tT (sM r) Q Z ⟨rfl,rfl⟩;rename_i Q Z;split at h;rename_i z ha hz;cases h;let⟨i2,z2,a6,bd,a4,_⟩:=Ada (S.get bl) ha;have:z=z2:=by rw[hz]at a4;simpa using a4
 subst this;have:=core (.v z) fF nO Q Z ⟨rfl,rfl,z,λw=>by simp[zeroValue,typeInfo,a6,bd,aT],rfl⟩;exact this;cases h;cases h;cases h;cases h
 .rename_i op t x y t' u;have D:x∈o.op.operands:=xO
  have V:y∈o.op.operands:=xO
  split at h
  .rename_i v U;cases h;refine .pure (by rw[u];rfl) (λC a w B=> ?_) GZ.nil;unfold bin at U;split at U
   .rename_i k m k' m' hex aq;split at U;cases U
    .rename_i bp;have a8:k=k':=by simpa using bp
     subst a8;have K:(eqGuard op t x y (.int k m)<|.int k m').run P w=.ok () w:=by cases op<;>rfl
     simp only[execOp,u,rB,B x D,B y V,hex,aq,AO,K,aK];split at U<;>first|(cases U;done)|(cases U;simp[binOp,Op.intArith,Op.intCmp];done)
   .rename_i m m' hex aq;have K:(eqGuard op t x y (vS m)<|vS m').run P w=.ok () w:=by cases op<;>rfl
    simp only[execOp,u,rB,B x D,B y V,hex,aq,AO,K,aK];split at U<;>first|(cases U;done)|(cases U;simp[binOp,Op.stringOp];done)
   cases U
  cases h
 rename_i t x u;have D:x∈o.op.operands:=xO
 split at h;rename_i b A;cases h;exact .pure (by rw[u];rfl) (λC a w B=>by simp[execOp,u,B x D,A,AO,Op.unary]) GZ.nil;cases h;rename_i args ts u;split at h;rename_i x t bc bv;have D:x∈o.op.operands:=by
  have:x∈args:=by rw[<-Array.mem_toList_iff,bc];simp
  simp[u,Op.operands,Call.operands,this]
 have an:args=#[x]:=Lu.1 (by rw[bc]);have bb:ts=#[t]:=Lu.1 (by rw[bv]);have run:∀(a:Act)(w:AN)(v:AF),(Builtin.len_ #[t] o.type #[a.eval x]).run P w=.ok v w->(execOp a.eval o).run P w=.ok (.value v) w:=λa w v hv=>by simp only[execOp,u,resolve,an,bb,rB,Sem.run_pure,aK,invoke,builtin];simp[hv]
 split at h;rename_i n0 H e a' n' c' E A;cases h;have R:=Aeg S E;refine .pure (by rw[u];rfl) (λC a w B=>run a w _ ?_) GZ.nil;simp[Builtin.len_,rU R,B x D,A,AO,goInt];rename_i n0 H e a' o' n' c' E A;cases h;have R:=Aeg S E;refine .pure (by rw[u];rfl) (λC a w B=>run a w _ ?_) GZ.nil;simp[Builtin.len_,rU R,B x D,A,AO,goInt];rename_i n0 H s E A;cases h;let⟨i,d,z,hi,R,hz,J,hn,hzero⟩:=Dg<|S.get E;have ap:=AN9 J;subst ap;refine .pure (by rw[u];rfl) (λC a w B=>run a w _ ?_) GZ.nil;simp[Builtin.len_,rU R,B x D,A,AO,goInt];cases h;cases h;rename_i t x ix u;have D:x∈o.op.operands:=xO
 have au:ix∈o.op.operands:=xO
 split at h;rename_i n0 H e E;split at h;rename_i ty k G n c kk i' ai A bk;split at h;rename_i br;cases h;have R:=Aeg S E;let⟨ie,de,ze,ae,a3,ax,a7,X,O⟩:=Dg<|S.get ai;have ba:i'<n:=by simpa[TE]using br
 refine .pure (by rw[u];rfl) (λC a w B=> ?_) (λk' M=>.inl ⟨x,D,by rwa[A]⟩);have:(0:Int)<=(i':Int)/\(i':Int)<(n:Int):=oG;simp[execOp,u,Instr.indexAt,B x D,B ix au,A,bk,AO,asIntOf,rU R,ba,sizeOf,typeInfo,ae,X,Addr.add_mid];cases h;cases h;cases h;rename_i s t x u;have D:x∈o.op.operands:=xO
 split at h;rename_i n0 H k0 n1 AOv k k2 n hs ht A;cases h;let⟨i,d,z,hi,R,hz,J,hn,hzero⟩:=Dg<|S.get hs;let⟨i2,d2,z2,a6,bj,bd,bo,b2,bg⟩:=Dg<|S.get ht;have e1:=AFm J;have e2:=AFm bo;subst e1 e2;refine .pure (by rw[u];rfl) (λC a w B=> ?_) GZ.nil;simp[execOp,u,convert,rU R,rU bj,B x D,A,AO,Conv.intToInt];cases h;cases h
def M5(c:Ctx):Frame:={(Al:Frame)with fn:=c.f,kind:=.normal}
def M0(c:Ctx)(R:GW->AN->Prop)(b:AA Item)(a:Act)(w:AN):Prop:=
 ∀g:AA Frame,∃e f d,R e f/\Comes c.P (lone ((M5 c).at a b) g w) (lone d g f) e/\d.fn=c.f/\d.leaving c.P f e
def M0.steps{c R d b a g w i}(h:∀f,Steps c.P (lone ((M5 c).at a d) f w)<|lone ((M5 c).at g b) f i)(k:M0 c R b g i):M0 c R d a w:=λf=>
 let⟨e,p,j,n,o,l,m⟩:=k f
 ⟨e,p,j,n,o.of_steps<|h f,l,m⟩
def Qk(c:Ctx)(R:GW->AN->Prop)(k:AA Item):Exit->Act->AN->Prop
 | .normal,a,w=>M0 c R k a w
 | .panic ch,a,w=>a.defers=[]/\R (.panicked ch) w
 | .outgrown,_,w=>R .outgrown w
 |_,_,_=>False
def ADl{c}(s:c.P.funcs[c.f]? =sM c.fn){R f k a w}(h:f.wp c.P (Qk c R k) a w):M0 c R (.code f::k) a w:=by
 intro g;let⟨e,v,j,d,b⟩:=h (M5 c) k g;cases e with
 |normal=>
  let⟨e,u,n,q,r,o,p⟩:=d g;exact⟨e,u,n,q,r.of_steps b,o,p⟩
 |panic m=>
  let⟨i,t⟩:=b;exact⟨.panicked m,j,_,d.2,t,rfl,rfl,d.1,c.fn,s⟩
 |outgrown=>exact⟨.outgrown,j,M5 c,d,b.resolve_left<|by simp[M5],rfl,trivial⟩
 |exit x=>exact d.elim
 |goto l=>exact d.elim
 |ret=>exact d.elim
def G(c:Ctx)(R:GW->AN->Prop)(b:AA Item)(e:St):Prop:=∀d a w,Rel c e d a w->M0 c R b a w
structure RelA(c:Ctx)(σ:St)(ρ:Nat->Nat)(w:AN):Prop where
 hp:∀k∈c.A,∀b o,σ.hp k=sM b->b.AO ρ=sM o->w.heap[ρ k]? =sM o
 im:Holds w σ.im
 lm:c.I0.Da σ.im
 na:c.A.Nodup
 fs:∀b o,σ.im b=sM o->c.I0 b=sM o\/c.w0.heap.size<=b
 GV:∀b o,σ.im.Ak b=sM o->(c.I0.Ak b).isSome\/c.w0.heap.size<=b
 ad:∀k∈c.A,ρ k=c.ρ0 k
 fr:∀b,b<c.w0.heap.size->(∀k∈c.A,c.ρ0 k≠b)->c.I0.Ak b=nO->w.heap[b]? =c.w0.heap[b]?
 sz:c.w0.heap.size<=w.heap.size
 os:w.os=c.w0.os
 tape:w.tape=c.w0.tape
 output:w.output=c.w0.output
def KN.toA{c d a w}(h:KN c d a w):RelA c d a w:=
 ⟨λk _ b o=>h.hp k b o,h.im,h.lm,h.na,h.fs,h.GV,h.ad,h.fr,h.sz,h.os,h.tape,h.output⟩
def M1(c:Ctx)(R:GW->AN->Prop):AA PanicEntry->St->Prop:=λa d=>c.Rx=[]/\∀b w,RelA c d b w->R (.panicked a) w
def M1.congr{c R}:∀g f a,(∀k∈c.A,f.hp k=a.hp k)->f.im=a.im->M1 c R g f->M1 c R g a:=λ_ _ _ j d h=>⟨h.1,λl w A=>
 h.2 l w ⟨λk i b o e=>A.hp k i b o<|by rwa[<-j k i],d▸A.im,d▸A.lm,A.na,d▸A.fs,d▸A.GV,A.ad,A.fr,A.sz,A.os,A.tape,A.output⟩⟩
def WF(a:St):Prop:=(∀s k,k∈(a.tm s).A3->(a.hp k).isSome)/\(∀k b c,a.hp k=sM b->c∈b.A3->(a.hp c).isSome)
def Rel.wf{c σ b a w}(h:Rel c σ b a w):WF σ:=⟨h.kd,h.kb⟩
def ANQ{c g KP K Q}
 (q:∀e j a w,K e->Rel c e j a w->Q .normal a w) (p:∀n b d a f,KP n b->KN c b d f->a.defers=c.Rx->Q (.panic n) a f):∀l k e j a w,Rel c e j a w->Kj c g KP K l k e->wpOps c.P g.Aj Q l a w
 |[],_,e,j,a,w,R,h=>q e j a w h R
 |i::l,k,e,j,a,w,R,h=>by rw[wpOps_cons];exact AMd R h (λm b d s f o r=>ANQ q p l m b d s f r o) λn b d f o W=>p n b d a f o W R.nd
structure RG where
 g:ES
 rem:AA Nat
 CY:AA (Nat×Nat)
structure Bv where
 σ:St
 todo:AA Item
 rg:AU RG
 Bq:Nat
def Bd(c:Ctx)(a:Nat)(b:St):Prop:=(∀k,a<=k->b.hp k=nO)/\∀k∈c.A,k<a
structure Fr(c:Ctx)(r:RG)(σ:St):Prop where
 Ak:∀i∈r.rem,∀k,E8 (r.g.key i) k->σ.hp k=nO
 CP:∀k,r.g.Cp+8*r.g.Aj.size<=k->σ.hp k=nO
 nd:r.rem.Nodup
 lt:∀i∈r.rem,i<r.g.Aj.size
 A:∀k∈c.A,k<r.g.Cp
def GG(c:Ctx)(R:GW->AN->Prop)(f:Bv):Prop:=
 match f.rg with
 |none=>Bd c f.Bq f.σ->G c R f.todo f.σ
 |some r=>Fr c r f.σ->WF f.σ->Kj c r.g (M1 c R) (G c R f.todo) r.rem r.CY f.σ
inductive Ck where
 |v (x:AF)
 |s (x:Sem AF)
 |i (x:AB)
 |o (x:Op)
 |b (x:AU AK)
 |sv (x:SV)
inductive It(P:B7) where
 |eq (x y:AF) (h:x=y)
 |op (I:AB) (s:Sem AF) (r:SV) (h:∀w,EJ w I->∃a,s.run P w=.ok (AO id r) a/\Bl w a)
 |Kz (I:AB) (s:Sem AF) (r:SV) (h:∀w,EJ w I.CW->∃a,s.run P w=.ok (AO id r) a/\Bl w a)
 |BZ (op:Op) (b:AA (Nat×SV)) (rd:AA (Nat×AK)) (I:AB) (r:SV) (h:∀key tm (o:Bw),o.op=op->(∀p∈b,tm p.1=p.2)->LS P o tm key rd I r nO)
abbrev G8(P:B7):=AA<|Nat×It P
def G8.at{P:B7}:G8 P->AU Tmp->AU (It P)
 |_,nO=>nO
 |[],sM _=>nO
 |(d,x)::l,sM t=>match bQ d t with|true=>sM x|false=>G8.at l<|sM t
def SV.val:SV->AU AF
 | .v x=>sM x
 |_=>nO
def W6(a:Nat->SV):AU Operand->AU (AU AF)
 |none=>sM nO
 |some x=>match(ev a x).val with
  |some v=>sM<|sM v
  |none=>nO
def AE3{a x v}(h:W6 a x=sM v){e}(b:∀y,x=sM y->∀z,(ev a y).val=sM z->e y=z):x.map e=v:=by
 cases x with
 |none=>cases h;rfl
 |some y=>
  simp[W6]at h;split at h;rename_i z c;cases h;simp[b y rfl z c];cases h
def AAN(c:Nat->SV)(o:Bw):AU (Sem AF):=
 match o.op with
 | .load t x=>(ev c x).val.map λa=>Instr.loadAt t a
 | .indexAddr t x i=>match(ev c x).val,(ev c i).val with|some a,sM b=>sM (Instr.indexAt t a b)|_,_=>nO
 | .index t x i=>match(ev c x).val,(ev c i).val with|some a,sM b=>sM (Instr.index t a b)|_,_=>nO
 | .lookup t x i j=>match(ev c x).val,(ev c i).val with|some a,sM b=>sM (Instr.lookup t a b j)|_,_=>nO
 | .slice t x f e g=>match(ev c x).val,W6 c f,W6 c e,W6 c g with
   |some a,sM l,sM h,sM m=>sM<|Instr.sliceAt t a l h m
   |_,_,_,_=>nO
 | .convert s t x=>(ev c x).val.map λa=>convert s t a
 | .binOp d t x y _=>match(ev c x).val,(ev c y).val with|some a,sM b=>sM (do eqGuard d t x y a b;binOp d t a b)|_,_=>nO
 | .unOp d _ x=>(ev c x).val.map λa=>Op.unary d a
 | .makeInterface t x=>(ev c x).val.map λa=>Instr.makeInterface t a
 | .call {callee:=.builtin b,args:=args,argTypes:=ts}=>match b,args.toList with
   | .cap,[x]=>(ev c x).val.map λa=>Builtin.cap_ ts o.type #[a]
   | .min,[x,y]=>match(ev c x).val,(ev c y).val with|some a,sM b=>sM (Builtin.min_ ts o.type #[a,b])|_,_=>nO
   | .max,[x,y]=>match(ev c x).val,(ev c y).val with|some a,sM b=>sM (Builtin.max_ ts o.type #[a,b])|_,_=>nO
   |_,_=>nO
 |_=>nO
def SV.Adm{x a}(h:x.val=sM a)(b):AO b x=a:=by cases x<;>simp[SV.val]at h;subst h;rfl
def ALw{P n}{o:Bw}{s:Sem AF}(h:AAN n o=sM s){ρ}{a:Act}(G:∀x∈o.op.operands,a.eval x=AO ρ (ev n x)){w B v}(k:s.run P w=.ok v B):
 (execOp a.eval o).run P w=.ok (.value v) B:=by
 have c:∀x∈o.op.operands,∀y,(ev n x).val=sM y->a.eval x=y:=λx g y r=>by rw[G x g];exact SV.Adm r ρ
 rw[AAN]at h;split at h;rename_i t x e;rw[e]at c;cases d:(ev n x).val with
 |none=>rw[d]at h;cases h
 |some y=>
  rw[d]at h;cases h;simp[execOp,e,c x xO y d,k]
 rename_i t x i e;rw[e]at c;split at h;rename_i y z d j;cases h;simp[execOp,e,c x xO y d,c i xO z j,k];cases h;rename_i t x i e;rw[e]at c;split at h;rename_i y z d j;cases h;simp[execOp,e,c x xO y d,c i xO z j,k];cases h;rename_i t x i N e;rw[e]at c;split at h;rename_i y z d j;cases h;simp[execOp,e,c x xO y d,c i xO z j,k];cases h;rename_i t x L K M e;rw[e]at c;split at h;rename_i y l J m d j E F;cases h;have q:=AE3 j (e:=a.eval) λy r z A=>c y (by subst r;simp[Op.operands]) z A;have C:=AE3 E (e:=a.eval) λy r z A=>c y (by subst r;simp[Op.operands]) z A;have D:=AE3 F (e:=a.eval) λy r z A=>c y (by subst r;simp[Op.operands]) z A;simp[execOp,e,c x xO y d,q,C,D,k];cases h;rename_i O t x e;rw[e]at c;cases d:(ev n x).val with
 |none=>rw[d]at h;cases h
 |some y=>
  rw[d]at h;cases h;simp[execOp,e,c x xO y d,k]
 rename_i H t x y Q e;rw[e]at c;split at h;rename_i u z d j;cases h;have p:=c x xO u d;have q:=c y xO z j;simp only[execOp,e,p,q];simp only[rB]at k⊢;rw[k];rfl;cases h;rename_i H t x e;rw[e]at c;cases d:(ev n x).val with
 |none=>rw[d]at h;cases h
 |some y=>
  rw[d]at h;cases h;simp[execOp,e,c x xO y d,k]
 rename_i t x e;rw[e]at c;cases d:(ev n x).val with
 |none=>rw[d]at h;cases h
 |some y=>
  rw[d]at h;cases h;simp[execOp,e,c x xO y d,k]
 rename_i b args I e;rw[e]at c;have mem:∀x∈args.toList,x∈(Op.call {callee:=.builtin b,args:=args,argTypes:=I}).operands:=λx g=>by simp[Op.operands,Call.operands];simpa using g
 split at h;rename_i x g;have f:args=#[x]:=Lu.1 (by rw[g]);cases d:(ev n x).val with
 |none=>rw[d]at h;cases h
 |some y=>
  rw[d]at h;cases h;have p:=c x (mem x<|by rw[g];simp) y d;simp[execOp,e,resolve,invoke,builtin,f,p,k]
 rename_i x y g;have f:args=#[x,y]:=Lu.1 (by rw[g]);split at h;rename_i u z d j;cases h;have p:=c x (mem x<|by rw[g];simp) u d;have q:=c y (mem y<|by rw[g];simp) z j;simp[execOp,e,resolve,invoke,builtin,f,p,q,k];cases h;rename_i x y g;have f:args=#[x,y]:=Lu.1 (by rw[g]);split at h;rename_i u z d j;cases h;have p:=c x (mem x<|by rw[g];simp) u d;have q:=c y (mem y<|by rw[g];simp) z j;simp[execOp,e,resolve,invoke,builtin,f,p,q,k];cases h;cases h;cases h
def Bl.setRow{w:AN}{g a}:(w.setRow g a).heap.size=w.heap.size:=by simp[World.setRow]
def AAI:SV->Bool
 | .v (.agg _)| .v (.tuple _)| .g _| .t _=>fF
 |_=>tT
def ALu{x}(h:AAI x)(a):(AO a x).oneCell':=by
 cases x with
 |v x=>cases x<;>first|rfl|cases h
 |g l=>cases h
 |t l=>cases h
 |_=>rfl
def AFZ(L:Lay)(o:Op)(b:Nat->SV)(c:Nat->AU AK):AU (Nat×AK×AK):=
 match o with
 | .insert t m x v=>match L.get t,ev b m,ev b x with
   |some ⟨_,_,.map kt _⟩,.m km,.v kv=>match c km,L.get kt with
    |some (.Ey ks vs),sM tk=>match Wb tk.k kv,OO kv ks vs with
     |true,sM nO=>sM (km,.Ey ks vs,.Ey (ks++[kv])<|vs++[ev b v])
     |_,_=>nO
    |_,_=>nO
   |_,_,_=>nO
 | .store t a x=>match ev b a,(ev b x).cs,L.get t with
   | .p k off,sM cs,sM ty=>match c k with
     |some (.cells l e)=>match bQ (lN cs) ty.n,Nat.ble (off+lN cs)<|lN l,cs.all AAI with
      |true,tT,tT=>sM (k,.cells l e,.cells (BX l off cs) e)
      |_,_,_=>nO
     |_=>nO
   |_,_,_=>nO
 |_=>nO
theorem Lm{w:AN}{g a cells e b}(h:w.heap[g]? =sM (.cells a e b)):(w.setRow g cells).heap[g]? =sM (.cells cells e b):=by have:=Eg h;simp[World.setRow,ABP,ME,h,LN]
def Ir{w:AN}{g b a}(h:g≠b):(w.setRow g a).heap[b]? =w.heap[b]? :=by simp[World.setRow,ABP,AY h]
def nodupB:AA Nat->Bool
 |[]=>tT
 |x::l=>l.all (λy=> !bQ x y)&&nodupB l
def AVW{P}{L}(S:Ed P L){o}{tm}{key t k off}{ad x}{ty}{l cs}{e}{need}{I}(D:o.op=.store t ad x)(ha:ev tm ad=.p k off)(X:(ev tm x).cs=some cs)(G:L.get t=some ty)(Z:cs.length=ty.n)(hl:off+cs.length<=l.length)
 (h1: ∀v∈cs,AAI v=true) (hk:(k,.cells l e)∈need):HS P o tm key need I (λh=>h= {r:=.v undef,AV:=[(k,.cells (BX l off cs) e)],J:=I}) none:=by
 let⟨i,d,z,hi,hd,hz,U,V,hzero⟩:=Dg (S.get G);refine⟨?_⟩;intro ρ a w he hh R C K T W next Q hnext _;have hb:=hh _ hk _ rfl;simp only at hb;have A:ad∈o.op.operands:=by simp[D,Op.operands]
 have H:x∈o.op.operands:=by simp[D,Op.operands]
 have s1:(BB ρ cs).length=cs.length:=Jp ρ cs;have q: ∀v∈BB ρ cs,v.oneCell'=true:=λv M=>by rw[Hw]at M;obtain⟨y,Y,rfl⟩:=List.mem_map.1 M;exact ALu (h1 y Y) ρ
 have s:=run_storeCells_at P (ρ k) off e (BB ρ cs) 0 (BB ρ l).toArray w hb (by simp[Jp];omega) q;have f:(AO ρ (ev tm x)).cells=(BB ρ cs).toArray:=SV.Tf X ρ;have O:(w.setRow (ρ k) ((BB ρ l).take (off+0)++BB ρ cs++(BB ρ l).drop (off+0+(BB ρ cs).length)).toArray)=w.setRow (ρ k) (BB ρ (BX l off cs)).toArray:=by rw[Nat.add_zero,s1];unfold BX;rw[Ru,Ru,Tj,Ti]
 have E:(storeVar t ⟨ρ k,off,none⟩ (AO ρ (ev tm x))).run P w=.ok () (w.setRow (ρ k) (BB ρ (BX l off cs)).toArray):=by
  rw[<-O];unfold storeVar;rw[f];have F:(sizeOf t).run P w=.ok i.size w:=by simp[sizeOf,typeInfo,hi]
  have g: ¬(BB ρ cs).toArray.size≠i.size:=by simp[Jp];omega
  simp only[Sem.run_bind,F,Result.andThen_ok,g,if_false];exact s
 have hex:(execOp a.eval o).run P w=.ok .skip (w.setRow (ρ k) (BB ρ (BX l off cs)).toArray):=by have u:=he ad A;rw[ha]at u;simp only[AO]at u;simp[execOp,D,Instr.storeAt,u,he x H,Instr.sureAddr,E]
 unfold Oper.wp;rw[hex,Oper.upon_skip];refine hnext rfl _ _ (λ_=>0) rfl ⟨rfl,rfl,rfl,by rw[Bl.setRow];exact Nat.le_refl _,λb c g _=>Ir (g (k,.cells (BX l off cs) e) sP),?_,λj b hj=>by simp at hj,λi j hi=>by simp at hi,?_,λb o' c=>.inl c,λb o' c=>IM c⟩;intro kb m o' p;simp at m;subst m;have N:Ab.Bh {r:=.v undef,AV:=[(k,AK.cells (BX l off cs) e)],J:=I} ρ key (λ_=>0)=ρ:=by funext n;exact F7 (by unfold CX;split<;>rfl)
 rw[N]at p⊢;cases p;exact Lm hb;exact R.A2 (C _ hk rfl) λb _ B=>Ir B
def AcL{P L}(W:Ed P L){o:Bw}{C hp key k I}{b Z:AK}(h:AFZ L o.op C hp=sM (k,b,Z)):
 hp k=sM b/\HS P o C key [(k,b)] I (λh=>h= {r:=.v undef,AV:=[(k,Z)],J:=I}) nO/\(∀H∈Z.A3,H∈b.A3\/∃x∈o.op.operands,H∈(ev C x).A3)/\LX o.op/\b.live:=by
 unfold AFZ at h;split at h;rename_i t m x v g;split at h;rename_i n0 z0 kt et km G A D R;split at h;rename_i c B tk E ag;split at h;rename_i u K;cases h;let⟨i0,d0,aw,al,ab,ar,ae,ao,X⟩:=Dg<|W.get A;let⟨i1,d1,ax,am,O,au,af,ap,Y⟩:=Dg<|W.get ag;have:=XY ae;subst this;let⟨S,F⟩:=AKE af u;have hm:m∈o.op.operands:=xO
 have hx:x∈o.op.operands:=xO
 have hv:v∈o.op.operands:=xO
 have hlen:=AIm c B K;refine⟨E,?_,?_,by rw[g];rfl,rfl⟩;refine⟨?_⟩;intro ρ a w he hh hI ac ai ak aq next Q hnext _;have M:=hh (k,.Ey c B) sP _ rfl;simp only at M;have e1:=he m hm;have e2:=he x hx;rw[D]at e1;rw[R]at e2;simp only[AO]at e1 e2;have hf:=MapKept.run_findKey (P:=P) (w:=w) O<|AC5 F ρ c B 0 0 nO K;have an:=Eg M;have hnew:(Md (c++[G]) (BB ρ<|B++[ev C v]) 0)=Md c (BB ρ B) 0++[{key:=G,val:=AO ρ<|ev C v,born:=lN c}]:=by rw[Ru];simp only[BB];rw[ALO _ _ _ _ _<|by rwa[Jp],FE]
 have hex:(execOp a.eval o).run P w=.ok .skip {w with heap:=w.heap.setIfInBounds (ρ k)<|.map (Md (c++[G]) (BB ρ<|B++[ev C v]) 0).toArray<|lN<|c++[G]}:=by rw[hnew];simp[execOp,g,e1,e2,he v hv,Instr.mapUpdate,rU ab,MapKept.run_getObj_map M,MapKept.run_checkKey O S,hf,MapKept.run_setObj_map _ M,aT]
 unfold Oper.wp;rw[hex,Oper.upon_skip];have f:=MapKept.heap_set (o':=.map (Md (c++[G]) (BB ρ<|B++[ev C v]) 0).toArray<|lN<|c++[G]) M;refine hnext rfl _ _ (λ_=>0) rfl ⟨rfl,rfl,rfl,sP,λb p ah _=>f.2 b λe=>ah (k,_) (A9.2 rfl) e.symm,?_,λj b hj=>by simp at hj,λi j hi=>by simp at hi,?_,λb o' p=>.inl p,λb o' p=>IM p⟩;intro kb u o' U;simp at u;subst u;have e0:Ab.Bh {r:=.v undef,AV:=[(k,AK.Ey (c++[G])<|B++[ev C v])],J:=I} ρ key (λ_=>0)=ρ:=by funext n;exact F7 (by unfold CX;split<;>rfl)
 rw[e0]at U⊢;cases U;exact f.1;exact hI.A2 (ac (k,.Ey c B) sP rfl) λb _ aa=>f.2 b λe=>aa e.symm;intro H s;simp only[AK.A3,AWa,DF,Hn,Bc]at s⊢;exact s.imp id λq=>⟨v,hv,q⟩;cases h;cases h;cases h;rename_i t ad x g;split at h;rename_i H av cs ty D N A;split at h;rename_i l e E;split at h;rename_i b1 b2 b3;cases h;let⟨i,d,z,hi,hd,hz,hk,hn,hzero⟩:=Dg<|W.get A;have aj:ad∈o.op.operands:=xO
 have hx:x∈o.op.operands:=xO
 refine⟨E,?_,?_,by rw[g];rfl,rfl⟩;exact AVW W g D N A (Ha b1) (LL b2) (EQ.1 b3) sP;intro H s;let⟨y,V,T⟩:=Mc.1 s;rcases ALJ V with V|V;exact .inl<|Mc.2 ⟨y,V,T⟩;exact .inr ⟨x,hx,SV.ACy N H<|Mc.2 ⟨y,V,T⟩⟩;cases h;cases h;cases h;cases h
def OY(g:ES)(i:Nat):AA Nat->Bool
 |[]=>tT
 |k::ks=>(match g.drawn with
  |false=>tT
  |true=>Nat.blt k g.Cp||(let a:=(k-g.Cp)/8;bQ a i||PI g.Aj (g.Aj.size+1) i a))&&OY g i ks
def Wc{g i}:∀ {c:AA Nat},OY g i c->g.Za i c
 |[],_=>λ_ _ l=>by cases l
 |k::c,h=>by simp only[OY,CJ]at h;intro d m b f a;rcases Co.1 b with e|b;rw[d]at h;simp only[KG,TE]at h;rw[e]at a;rw[E8,ES.key]at a;rcases h.1 with q|q;omega;have j:(k-g.Cp)/8=f:=oG;rw[j]at q;rcases q with q|q;exact .inl<|Ha q;exact .inr q;exact Wc h.2 d m b f a
def Q8(g:ES)(i k:Nat):AA (Nat×Nat)->Bool
 |[]=>tT
 |(j,k')::l=>(!bQ k' k||PI g.Aj (g.Aj.size+1) i j)&&Q8 g i k l
theorem AAX{g i k}:∀ {l:AA<|Nat×Nat},Q8 g i k l->∀a∈l,a.2=k->g.V1 i a.1
 |[],_=>λ_ h=>by cases h
 |(j,k')::l,h=>by simp[Q8,CJ,KG,Jf]at h;intro a b e;rcases Co.1 b with q|q;subst q;rcases h.1 with q|q;simp only at e;rw[e]at q;simp at q;exact q;exact AAX h.2 a q e
def AAD{a:Type}:AA a->Bool
 |[]=>tT
 |_=>fF
def AMc(Aj:Ae Bw)(rem:AA Nat)(i:Nat):Bool:=
 match Aj[i]? with
 |none=>fF
 |some o=>o.after.all λe=> !Region.binds .any e|| !(rem.any<|bQ e.on)
def AWB(Aj:Ae Bw)(i:Nat):Bool:=match Aj[i]? with|none=>fF|some o=> !LX o.op
def ADX(p:Nat->Bool):AA Nat->AU Nat
 |[]=>nO
 |x::l=>match p x with|true=>sM x|false=>ADX p l
def AFE(i:Nat):AA Nat->AA Nat
 |[]=>[]
 |x::l=>match bQ x i with|true=>l|false=>x::AFE i l
def eager(Aj:Ae Bw):Nat->AA Nat->AA Nat
 |0,_=>[]
 |n+1,rem=>
  match ADX (λi=>AWB Aj i&&AMc Aj rem i) rem with
  |some i=>i::eager Aj n (AFE i rem)
  |none=>match ADX (AMc Aj rem) rem with
   |some i=>i::eager Aj n (AFE i rem)
   |none=>[]
def AE2(Aj:Ae Bw)(a:AA Nat):Bool:=
 Nat.ble (lN a) Aj.size&&AAS Aj a&&(lR Aj.size).all (λi=>a.any<|bQ i)&&a.all (λi=>Nat.blt i Aj.size&&(match Aj[i]? with|none=>fF|some o=>o.after.all λe=> !Region.binds .any e||(Nat.blt e.on Aj.size&& !bQ e.on i)))
inductive Res where
 |go (f:Bv) (ck:AA (Ck×Ck))
 |stop
 |bad
def Zw(k:Nat):AA Nat->Bool
 |[]=>fF
 |x::l=>bQ k x||Zw k l
def ALF{k}:∀ {l:AA Nat},Zw k l->k∈l
 |[],h=>by cases h
 |x::l,h=>by simp only[Zw,KG]at h;rcases h with h|h;rw[Ha h];simp;exact DY _<|ALF h
def AFY(P:B7)(L:Lay)(h:G8 P)(n:Nat)(A:AA Nat)(c:St)(a:AA Item)(e:Nat)(g:ES)(i:Nat)(is:AA Nat)(d:AA<|Nat×Nat):Res:=
 match g.Aj[i]? with
 |none=>.bad
 |some o=>match To n o.dst,want g.Aj c.tm o with
  |true,sM fF=>.go ⟨c.put o.dst<|.v undef,a,sM ⟨g,is,d⟩,e⟩ []
  |true,sM tT=>match LX o.op with
   |true=>match AFZ L o.op c.tm c.hp with
    |none=>.stop
    |some (k,b,b')=>match OY g i (k::b'.A3),(match g.drawn with|true=>Q8 g i k d|false=>tT)with
     |true,tT=>.go ⟨St.put ⟨c.tm,AV c.hp k<|sM b',c.im⟩ o.dst<|.v undef,a,sM ⟨g,is,d⟩,e⟩ []
     |_,_=>.bad
   |false=>match h.at o.dst with
    |some (.op I s r _)=>match AAN c.tm o,AAD r.A3 with
     |some s',tT=>.go ⟨c.put o.dst r,a,sM ⟨g,is,d⟩,e⟩ [(.i I,.i c.im),(.s s,.s s')]
     |_,_=>.bad
    |some (.Kz I s r _)=>match AAN c.tm o,AAD r.A3&& !g.strict with
     |some s',tT=>.go ⟨c.put o.dst r,a,sM ⟨g,is,d⟩,e⟩ [(.i I,.i c.im),(.s s,.s s')]
     |_,_=>.bad
    |some (.BZ op tmv rd I r _)=>match OY g i (rd.map (·.1)++r.A3++Wp nO)&&r.A3.all (λk=>Zw k (tmv.flatMap (λp=>p.2.A3)++rd.map (·.1)))with
     |true=>.go ⟨c.put o.dst r,a,sM ⟨g,is,rd.map (λf=>(i,f.1))++d⟩,e⟩ ((.i I,.i c.im)::(.o op,.o o.op)::(tmv.map (λp=>(Ck.sv p.2,Ck.sv<|c.tm p.1))++rd.map (λf=>(Ck.b<|sM f.2,Ck.b<|c.hp f.1))))
     |false=>.bad
    |some (.eq x y _)=>match Zl L o.op c.tm c.hp (g.key i)with
     |some (.v x',nO,[])=>.go ⟨c.put o.dst<|.v y,a,sM ⟨g,is,d⟩,e⟩ [(.v x,.v x')]
     |some (.v x',nO,[(k,b)])=>match OY g i [k]with
      |true=>.go ⟨c.put o.dst<|.v y,a,sM ⟨g,is,(i,k)::d⟩,e⟩ [(.v x,.v x')]
      |false=>.bad
     |_=>.bad
    |none=>match Zl L o.op c.tm c.hp (g.key i)with
     |some (r,nb,rd)=>match OY g i (rd.map (·.1)++r.A3++Wp nb)with
      |true=>.go ⟨(c.B3 (g.key i) nb).put o.dst r,a,sM ⟨g,is,rd.map (λf=>(i,f.1))++d⟩,e⟩ []
      |false=>.bad
     |none=>.stop
  |_,_=>.bad
def step1(P:B7)(L:Lay)(m:G8 P)(n:Nat)(A:AA Nat)(f:Bv):Res:=
 match f with
 |⟨e,h,sM ⟨g,[],_⟩,_⟩=>.go ⟨e,h,nO,g.Cp+8*g.Aj.size⟩ []
 |⟨e,h,sM ⟨g,i::is,j⟩,d⟩=>AFY P L m n A e h d g i is j
 |⟨e,.code .skip::k,nO,d⟩|⟨e,.code (.label _)::k,nO,d⟩|⟨e,.inBlock _::k,nO,d⟩=>.go ⟨e,k,nO,d⟩ []
 |⟨e,.code (.seq a b)::k,nO,d⟩=>.go ⟨e,.code a::.code b::k,nO,d⟩ []
 |⟨e,.code (.cond c a b)::k,nO,d⟩=>match ev e.tm c with
  | .v (vB tT)=>.go ⟨e,.code a::k,nO,d⟩ []
  | .v (vB fF)=>.go ⟨e,.code b::k,nO,d⟩ []
  |_=>.bad
 |⟨e,.code (.block id b)::k,nO,d⟩=>.go ⟨e,.code b::.inBlock id::k,nO,d⟩ []
 |⟨e,.code (.exit id)::k,nO,d⟩=>match exitTo id k with
  |some l=>.go ⟨e,l,nO,d⟩ []
  |none=>.bad
 |⟨e,.code (.region _ Aj fF)::k,nO,d⟩=>.go ⟨e,k,sM ⟨⟨Aj,d,fF⟩,lR Aj.size,[]⟩,d⟩ []
 |⟨e,.code (.region _ Aj tT)::k,nO,d⟩=>match AE2 Aj (eager Aj (Aj.size+1)<|lR Aj.size)with
  |true=>.go ⟨e,k,sM ⟨⟨Aj,d,tT⟩,eager Aj (Aj.size+1)<|lR Aj.size,[]⟩,d⟩ []
  |false=>.bad
 |_=>.stop
structure Out where
 f:Bv
 cl:AA Ck
 ac:AA Ck
def Pq(P:B7)(L:Lay)(b:G8 P)(n:Nat)(A:AA Nat):Nat->Bv->Out
 |0,f=>⟨f,[],[]⟩
 |m+1,f=>match step1 P L b n A f with
  | .stop=>⟨f,[],[]⟩
  | .bad=>⟨f,[.v undef],[]⟩
  | .go c a=>let o:=Pq P L b n A m c;⟨o.f,a.map (·.1)++o.cl,a.map (·.2)++o.ac⟩
def Fr.tail{c g i is CY rds' σ a}(h:Fr c ⟨g,i::is,CY⟩ σ)(hs:∀k,a.hp k=σ.hp k\/E8 (g.key i) k\/(σ.hp k).isSome):Fr c ⟨g,is,rds'⟩ a where
 Ak j hj k hk:=by
  have d:i≠j:=λe=>(GX.1 h.nd).1 (by rwa[e]);have h0:=h.Ak j (DY _ hj) k hk
  grind[E8,ES.key]
 CP k hk:=by
  have b:=h.lt i sP;have h0:=h.CP k hk
  grind[E8,ES.key]
 nd:=(GX.1 h.nd).2
 lt j hj:=h.lt j<|DY _ hj
 A:=h.A
def Fr.Tv{c g i is a b}(h:Fr c ⟨g,i::is,a⟩ b):∀k,E8 (g.key i) k->b.hp k=nO/\k∉c.A:=λk e=>
 ⟨h.Ak i sP k e,λd=>by have:=h.A k d;grind[E8,ES.key]⟩
theorem WF.put{c}(h:WF c){d x}(i:∀k∈x.A3,(c.hp k).isSome):WF (c.put d x):=by
 refine⟨λs k a=> ?_,λk b g f a=> ?_⟩;rw[Lj];cases d with
 |none=>exact h.1 s k a
 |some d=>
  simp[St.put]at a;by_cases e:s=d
  grind[Eu]
  rw[D3 _ _ e]at a;exact h.1 s k a
 rw[Lj]at f⊢;exact h.2 k b g f a
theorem WF.B3{c}(h:WF c){a b}(f:c.hp a=nO)(m:∀k∈b.A3,(c.hp k).isSome\/k=a):WF (c.B3 a<|sM b):=by
 have g:∀k,(c.hp k).isSome->(AV c.hp a (sM b) k).isSome:=by grind[D3]
 refine⟨λs k d=>g k<|h.1 s k d,λk j i e d=> ?_⟩;simp[St.B3]at e⊢;by_cases l:k=a
 grind[Eu]
 rw[D3 _ _ l]at e;exact g i<|h.2 k j i e d
def WF.operand{b}(h:WF b){x k}(a:k∈(ev b.tm x).A3):(b.hp k).isSome:=by
 cases x with
 |tmp t=>exact h.1 t k a
 |const x=>cases a
 |global x=>cases a
 |func x=>cases a
def GZ.some_{c}(h:WF c){o b j i g}(l:GZ o c.tm b j i g)(f:∀a∈j,c.hp a.1=sM a.2):∀k∈g,(c.hp k).isSome\/(k=b/\i.isSome):=by intro k e;rcases l k e with⟨x,_,q⟩|⟨a,d,q⟩|q;exact .inl<|h.operand q;exact .inl<|h.2 a.1 a.2 k (f a d) q;exact .inr q
def AEs{a:Type}{l:AA a}(h:AAD l):l=[]:=by
 cases l with
 |nil=>rfl
 |cons x l=>cases h
theorem AVN{h:Ab}{a hp}(c:h.nb=[]):h.hp a hp=h.AV.foldl (λf b=>AX.AV f b.1<|sM b.2) hp:=by grind[Ab.hp,CX]
def AcF{c R L}(Y:Ed c.P L){sc σ todo Bq g i is CY f' ck}
 (h:AFY c.P L sc c.n c.A σ todo Bq g i is CY=.go f' ck) (j:ck.map (·.1)=ck.map (·.2)) (F:GG c R f'):GG c R ⟨σ,todo,sM ⟨g,i::is,CY⟩,Bq⟩:=by
 intro A hwf;simp only at A hwf;rw[AFY]at h;split at h;cases h;rename_i o ho;have t:=A.Tv;have kk:E8 (g.key i) (g.key i):=⟨Nat.le_refl _,oG⟩;split at h;rename_i hd hw;cases h;have hnext:=F (A.tail λk=>.inl<|by rw[Lj]) (hwf.put λk hk=>by cases hk);exact⟨o,ho,hd,t,.inl ⟨.v undef,nO,[],⟨.inl ⟨hw,rfl,rfl,rfl⟩,(λ_ hk=>by cases hk),(λ_ _ hk=>by cases hk),(λ_ hk=>by cases hk),(λ_ hb=>by cases hb)⟩,hnext⟩⟩;rename_i hd hw;split at h;rename_i v;split at h;cases h;rename_i k b1 b2 ae;let⟨s1,s2,s3,s4,s5⟩:=AcL (P:=c.P) Y (key:=g.key i) (I:=σ.im) ae;split at h;rename_i ab ak;cases h;have ac:∀k'∈b2.A3,(σ.hp k').isSome:=λk' aa=>by rcases s3 k' aa with q|⟨x,_,q⟩;exact hwf.2 k _ k' s1 q;exact hwf.operand q
 refine⟨o,ho,hd,t,.inr ⟨[(k,b1)],b2.A3,(λh=>h= {r:=.v undef,AV:=[(k,b2)],J:=σ.im}),nO,?_,λ_ h hh=> ?_,λ_ e=>by cases e⟩⟩;refine{w:=hw,h:=v,hs:=s2,at_:=by grind,UR:=ac,key:=Wc ab,CY:= ?_,wf:= ?_};intro ai ik aj h hh hm
 grind[AAX]
 intro h hh;subst hh;refine{r:=λk hk=>(by cases hk),u:=λkb m=> ?_,n:=λb hb=>(by cases hb),l:=by simp,le:=AB.Hj _,d:=by simp}
 grind
 subst hh;have e1:σ.EV o.dst (g.key i) {r:=.v undef,AV:=[(k,b2)],J:=σ.im}=St.put ⟨σ.tm,AV σ.hp k<|sM b2,σ.im⟩ o.dst (.v undef):=by show St.put ⟨σ.tm,Ab.hp {r:=.v undef,AV:=[(k,b2)],J:=σ.im} (g.key i) σ.hp,σ.im⟩ o.dst (.v undef)=_;rw[AVN rfl];rfl
 rw[e1];have hs:∀n,(σ.hp n).isSome->(AV σ.hp k (sM b2) n).isSome:=by grind[Eu,D3]
 have ah:WF ⟨σ.tm,AV σ.hp k<|sM b2,σ.im⟩:=by
  refine⟨λs n H=>hs n<|hwf.1 s n H,λn b n' hb H=> ?_⟩;by_cases e':n=k
  grind[Eu]
  simp only at hb;rw[D3 _ _ e']at hb;exact hs n'<|hwf.2 n b n' hb H
 refine F (A.tail λn=> ?_) (ah.put λn H=>by cases H);rw[Lj]
 grind[D3]
 cases h;rename_i v;have f:∀ {r:SV} {nb:Option AK} {rd:List<|Nat×AK} {rds':List<|Nat×Nat},Ni g.strict c.P o σ.tm (g.key i) rd σ.im r nb->(∀kb∈rd,σ.hp kb.1=sM kb.2)->OY g i (rd.map (·.1)++r.A3++Wp nb)->
  (∀k∈r.A3,(σ.hp k).isSome\/(k=g.key i/\nb.isSome))->(∀b,nb=sM b->∀k∈b.A3,(σ.hp k).isSome\/k=g.key i)->rds'=rd.map (λkb=>(i,kb.1))++CY->
  GG c R ⟨(σ.B3 (g.key i) nb).put o.dst r,todo,sM ⟨g,is,rds'⟩,Bq⟩->MJ c g (M1 c R) i (Kj c g (M1 c R) (G c R todo) is) CY σ:=by
  intro r nb rd rds' E M m hr H W Z;subst W;refine⟨o,ho,hd,t,.inl ⟨r,nb,rd,⟨.inr ⟨hw,v,E⟩,M,?_,hr,H⟩,?_⟩⟩;exact Wc m;refine Z (A.tail λn=> ?_)<|WF.put ?_ ?_;rw[Lj];cases nb with
  |none=>exact .inl rfl
  |some b=>
   by_cases e:n=g.key i
   grind
   exact .inl<|D3 _ _ e
  cases nb with
  |none=>exact hwf
  |some b=>exact hwf.B3 (t _ kk).1<|H b rfl
  intro k hk;rcases hr k hk with q|⟨q,q2⟩;cases nb with
  |none=>exact q
  |some b=>
   simp only[St.B3]
   grind[D3]
  cases nb with
  |none=>cases q2
  |some b=>simp_all[St.B3,Eu]
 split at h;rename_i I s r D S;split at h;rename_i s' Q V;cases h;simp only[List.map_cons,List.map_nil,List.cons.injEq,Ck.i.injEq,Ck.s.injEq,and_true]at j;let⟨U,T⟩:=j;have P:r.A3=[]:=AEs V;refine f (r:=r) (nb:=nO) (rd:=[]) (rds':=CY) ?_ (λ_ hk=>by cases hk) ?_ (λk hk=>by grind) (λ_ hb=>by cases hb) rfl F;refine LS.d ?_;intro ρ a w he _ K _ _;let⟨w',C,N⟩:=D w (by rwa[U]);refine⟨w',?_,N⟩;have:=ALw (P:=c.P) Q (ρ:=ρ) (a:=a) he (by rwa[<-T])
 grind[Ko]
 simp only[List.map_nil,List.nil_append,P];rfl;cases h;rename_i I s r D S;split at h;rename_i s' Q z;cases h;simp only[List.map_cons,List.map_nil,List.cons.injEq,Ck.i.injEq,Ck.s.injEq,and_true]at j;let⟨U,T⟩:=j;simp only[Bool.and_eq_true,Bool.not_eq_true']at z;have P:r.A3=[]:=AEs z.1;refine f (r:=r) (nb:=nO) (rd:=[]) (rds':=CY) ?_ (λ_ hk=>by cases hk) ?_ (λk hk=>by grind) (λ_ hb=>by cases hb) rfl F;rw[z.2];show QH c.P o σ.tm (g.key i) [] σ.im r nO;intro ρ a w he _ K _ _;let⟨w',C,N⟩:=D w (by rw[U];exact K.CW);refine⟨w',?_,N⟩;have:=ALw (P:=c.P) Q (ρ:=ρ) (a:=a) he (by rwa[<-T])
 grind[Ko]
 simp only[List.map_nil,List.nil_append,P];rfl;cases h;rename_i op ag rd I r D S;split at h;rename_i m;cases h;simp only[Bool.and_eq_true,List.all_eq_true]at m;simp only[List.map_cons,List.map_append,List.map_map,List.cons.injEq,Ck.i.injEq,Ck.o.injEq]at j;let⟨U,ad,O⟩:=j;let⟨h1,h2⟩:=List.append_inj O sP;have af:∀p∈ag,σ.tm p.1=p.2:=by grind[List.map_inj_left]
 have M:∀kb∈rd,σ.hp kb.1=sM kb.2:=by grind[List.map_inj_left]
 have E:=D (g.key i) σ.tm o ad.symm af;rw[U]at E;refine f (r:=r) (nb:=nO) (rd:=rd) E.d M m.1 (λk hk=>.inl ?_) (λ_ hb=>by cases hb) rfl F;have:=ALF<|m.2 k hk;rcases List.mem_append.1 this with q|q;let⟨p,hp,al⟩:=List.mem_flatMap.1 q;exact hwf.1 p.1 k gR
 grind
 cases h;rename_i x y X S;split at h;rename_i x' B;cases h;simp only[List.map_cons,List.map_nil,List.cons.injEq,Ck.v.injEq,and_true]at j;have sp:=AER (P:=c.P) Y (I:=σ.im) B;refine f (r:=.v y) (nb:=nO) (rd:=[]) (rds':=CY) ?_ (λ_ hk=>by cases hk) rfl (λk hk=>by cases hk) (λ_ hb=>by cases hb) rfl F;rw[<-X,j];exact sp.ls.d;rename_i x' k b B;split at h;rename_i m;cases h;simp only[List.map_cons,List.map_nil,List.cons.injEq,Ck.v.injEq,and_true]at j;have sp:=AER (P:=c.P) Y (I:=σ.im) B;refine f (r:=.v y) (nb:=nO) (rd:=[(k,b)]) (rds':=(i,k)::CY) ?_ sp.at_ ?_ (λk hk=>by cases hk) (λ_ hb=>by cases hb) rfl F;rw[<-X,j];exact sp.ls.d;exact m;cases h;cases h;split at h;rename_i r nb rd B;split at h;rename_i m;cases h;have sp:=AER (P:=c.P) Y (I:=σ.im) B;refine f sp.ls.d sp.at_ m (sp.kr.some_ hwf sp.at_) (λb hb k hk=> ?_) rfl F;subst hb;exact(sp.kn.some_ hwf sp.at_ k hk).imp id λq=>q.1;cases h;cases h;cases h
def AZS{Aj a}(h:AE2 Aj a):lN a<=Aj.size/\a.Pairwise (λi j=>Q3 Aj i j/\i≠j)/\(∀i,i∈a↔i<Aj.size)/\
 (∀i∈a,∀o,Aj[i]? =sM o->∀e∈o.after,Region.binds .any e->e.on<Aj.size/\e.on≠i):=by
 simp only[AE2,CJ,EQ,O4,List.any_eq_true]at h;let⟨⟨⟨d,f⟩,h2⟩,h3⟩:=h;refine⟨LL d,AL6 f,λi=>⟨λb=>by simpa[TE]using(h3 i b).1,λb=> ?_⟩,λi b o l e k g=> ?_⟩;let⟨x,m,e⟩:=h2 i b;rwa[Ha e];have:=(h3 i b).2;rw[l]at this;simp only[Array.all_eq_true']at this;have c:=this e k;simp only[g,AGJ,AGI,CJ,TE,Jf]at c;exact⟨c.1,λn=>by simp_all⟩
def AcE{c}(Q:c.P.funcs[c.f]? =sM c.fn)(z:c.P.follows .mixedOrders){R L}(U:Ed c.P L){sc f P E}
 (h:step1 c.P L sc c.n c.A f=.go P E) (I:E.map (·.1)=E.map (·.2)) (m:GG c R P):GG c R f:=by
 have one:∀ {e:St} {t S:AA Item} {b:Nat},(∀(a:Act)(w:AN)(u:AA Frame),step c.P (lone ((M5 c).at a t) u w)=.next (lone ((M5 c).at a S) u w))->GG c R ⟨e,S,nO,b⟩->GG c R ⟨e,t,nO,b⟩:=
  λY m l d a w r=>M0.steps (λu=>.one (Y a w u)) (m l d a w r)
 have hP:∀D (s:St) q (a:Act) C,M1 c R D s->KN c s q C->a.defers=c.Rx->∀k,Qk c R k (.panic D) a C:=λD s q a C B W V k=>⟨V.trans B.1,B.2 q C W.toA⟩;unfold step1 at h;split at h;rename_i e T g aa b;cases h;intro v hwf;exact m ⟨v.CP,λk B=>by have:=v.A k B;grind⟩;exact AcF U h I m
 grind[step_skip]
 grind[step_label]
 grind[step_inBlock]
 grind[step_seq]
 rename_i e O x y k b;split at h;rename_i H;cases h;intro l d a w r;have J:a.eval O=vB tT:=by rw[r.ev,H];rfl
 exact M0.steps (λu=>.one (by rw[step_cond J];rfl)) (m l d a w r);rename_i H;cases h;intro l d a w r;have J:a.eval O=vB fF:=by rw[r.ev,H];rfl
 exact M0.steps (λu=>.one (by rw[step_cond J];rfl)) (m l d a w r);cases h
 grind[step_block]
 grind[step_exit]
 rename_i e Z Aj k b;cases h;intro l d a w r;have p:∀k,b<=k->e.hp k=nO:=l.1;refine ADl Q (wp_region ?_);refine ANQ (c:=c) (g:=⟨Aj,b,fF⟩) (KP:=M1 c R) (K:=G c R k) (λe d a w F r=>F d a w r) (gR) _ [] e d a w r (m ?_ r.wf);exact⟨(by grind[E8,ES.key]),λn X=>p n gR,List.nodup_range,λi K=>by simpa using K,l.2⟩;rename_i e Z Aj k b;split at h;rename_i A;cases h;let⟨o0,o1,o2,o3⟩:=AZS A;intro l d a w r;have p:∀k,b<=k->e.hp k=nO:=l.1;refine ADl Q (wp_region_any z ?_);have r':Rel c e d a {w with drawn:=w.drawn+1}:=r.grow (Bl.drew w);have N:(eager Aj (Aj.size+1) (lR Aj.size)).Nodup:=o1.imp λh=>h.2;refine AQK (c:=c) (g:=⟨Aj,b,tT⟩) (KP:=M1 c R) (K:=G c R k) M1.congr rfl (λe d a w F r=>F d a w r) (gR) Aj.size (Array.replicate Aj.size fF) _ [] e d a _ sP ?_ ?_ o1 o3 ?_ r' (m ?_ r.wf);exact o0;simp_all;intro j o ho M;exfalso;rw[VD]at M
 grind
 exact⟨(by grind[E8,ES.key]),λn X=>p n gR,N,λi K=>(o2 i).1 K,l.2⟩;cases h;cases h
def AFM{c}(g:c.P.funcs[c.f]? =sM c.fn)(a:c.P.follows .mixedOrders){R L}(e:Ed c.P L){b}:
 ∀(m:Nat) {f:Bv},(Pq c.P L b c.n c.A m f).cl=(Pq c.P L b c.n c.A m f).ac->GG c R (Pq c.P L b c.n c.A m f).f->GG c R f
 |0,_,_,hg=>hg
 |m+1,f,hck,hg=>by
  rw[Pq]at hck hg;split at hck
  grind
  cases hck;rename_i k d h;rw[h]at hg;simp only at hck hg;have hlen:lN (d.map (·.1))=lN (d.map (·.2)):=sP;let⟨i,j⟩:=List.append_inj hck hlen;exact AcE g a e h i<|AFM g a e m j hg
structure Ab.LD(h:Ab)(key:Nat)(A:AA Nat):Prop where
 r:∀k∈h.r.A3,k∈A\/(CX key h.nb k).isSome
 u:∀kb∈h.AV,kb.1∈A/\∀k∈kb.2.A3,k∈A\/(CX key h.nb k).isSome
 n:∀b∈h.nb,∀k∈b.A3,k∈A\/(CX key h.nb k).isSome
 l:lN h.nb<=8
 d:(h.AV.map (·.1)).Nodup
def Rf(P:B7)(I:AB)(c:Nat->Nat)(a:Nat)(w:AN)(A:AA Nat)(g:zP)(b:AU<|AA PanicEntry):GW->AN->Prop:=λe f=>
 ∃h q,(g a h/\h.LD a A/\I.Da h.J)/\After I c w f a q h/\e=(match b with|none=>.returned (AO (h.Bh c a q) h.r)|some d=>.panicked d)
def FC(P:B7)(F:Ba)(c:AA SV)(a:AA<|Nat×AK)(I:AB)(g:zP)(e:AU<|AA PanicEntry):Prop:=
 ∀(b:Nat->Nat)(d:Nat)(w:AN),100<=d->Has w b a->Holds w I->(∀f∈a,I.free<|b f.1)->(∀x∈a,∀y∈a,b x.1=b y.1->x.1=y.1)->
  Calls P F (BB b c).toArray w (Rf P I b d w (a.map (·.1)) g e)
def FC.of{P:B7}{F:Ba}{j:AA SV}{g:AA<|Nat×AK}{I:AB}{l:zP}{k:AU<|AA PanicEntry}(n:∀f h,l f h->h.LD f (g.map (·.1))/\I.Da h.J)
 (h:∀(i:Nat->Nat)(f:Nat)(w:AN),100<=f->Has w i g->Holds w I->(∀o∈g,I.free<|i o.1)->(∀x∈g,∀y∈g,i x.1=i y.1->x.1=y.1)->
   Calls P F (BB i j).toArray w λe s=>∃h q,l f h/\After I i w s f q h/\e=(match k with|none=>.returned (AO (h.Bh i f q) h.r)|some m=>.panicked m)):FC P F j g I l k:=
 λi f w a b c d e=>(h i f w a b c d e).mono λ_ _ ⟨x,q,p,r⟩=>⟨x,q,⟨p,n f x p⟩,r⟩
theorem Ab.LD.mono{h:Ab}{a A B}(w:h.LD a A)(c:∀k∈A,k∈B):h.LD a B:=⟨λk q=>(w.r k q).imp_left<|c k,λd q=>⟨c _ (w.u d q).1,λk p=>((w.u d q).2 k p).imp_left<|c k⟩,λb q k p=>(w.n b q k p).imp_left<|c k,w.l,w.d⟩
def RH:Nat->AA SV->Nat->SV
 |_,[]=>λ_=>.v undef
 |i,x::l=>AV (RH (i+1) l) i x
def JP:AA (Nat×AK)->Nat->AU AK
 |[]=>λ_=>nO
 |(k,b)::l=>AV (JP l) k<|sM b
def Kv(n:Nat):AA Nat->Bool
 |[]=>tT
 |k::l=>Nat.blt k n&&Kv n l
def UF{n}:∀ {l:AA Nat},Kv n l->∀k∈l,k<n
 |[],_,_,h=>by cases h
 |x::l,h,k,hk=>by simp[Kv,CJ,TE]at h;rcases Co.1 hk with e|e;rw[e];exact h.1;exact UF h.2 k e
def AFp:∀(l:AA SV)(i s:Nat),RH i l s=if i<=s then(l[s-i]?).getD (.v undef)else .v undef
 |[],i,s=>by simp[RH]
 |x::l,i,s=>by
  simp[RH];by_cases e:s=i
  grind[Eu]
  rw[D3 _ _ e,AFp l (i+1) s]
  grind
def Qh:∀ {l:AA<|Nat×AK} {k:Nat} {b:AK},JP l k=sM b->(k,b)∈l
 |[],_,_,h=>by cases h
 |(k',b')::l,k,b,h=>by
  simp[JP]at h;by_cases e:k=k'
  grind[Eu]
  rw[D3 _ _ e]at h;exact DY _<|Qh h
def ADs:∀ {l:AA<|Nat×AK} {k:Nat},k∈l.map (·.1)->(JP l k).isSome
 |[],_,h=>by cases h
 |(k',b')::l,k,h=>by simp only[JP];by_cases e:k=k';rw[e,Eu];rfl;rw[D3 _ _ e];simp only[E4,Co]at h;exact ADs<|h.resolve_left e
def Oc(k:Nat):AA Nat->Bool
 |[]=>fF
 |x::l=>bQ k x||Oc k l
def UQ{k}:∀ {l:AA Nat},Oc k l->k∈l
 |[],h=>by cases h
 |x::l,h=>by simp[Oc,KG]at h;rcases h with h|h;simp_all;exact DY _<|UQ h
def Wl{k}:∀ {l:AA Nat},k∈l->Oc k l
 |x::l,h=>by simp[Oc,KG];rcases Co.1 h with h|h;simp_all;exact .inr<|Wl h
def GM(a b:AA Nat):Bool:=a.all λk=>Oc k b
def Ip:AA (Nat×AK)->AA Nat
 |[]=>[]
 |(_,b)::l=>b.A3++Ip l
def SN:∀ {l:AA<|Nat×AK} {a:Nat×AK} {k:Nat},a∈l->k∈a.2.A3->k∈Ip l
 |[],_,_,h,_=>by cases h
 |(k',b')::l,a,k,h,hk=>by
  simp[Ip,Bc];rcases Co.1 h with e|e
  grind
  exact .inr<|SN e hk
def UT:∀ {l:AA Nat},nodupB l->l.Nodup
 |[],_=>.nil
 |x::l,h=>by simp[nodupB,CJ,EQ,Jf]at h;refine GX.2 ⟨λa=> ?_,UT h.2⟩;have:=h.1 x a;simp at this
def SL(l:AA<|Nat×AK):Bool:=l.all λa=>a.2.live
def V7(b:AA SV)(a:AA<|Nat×AK)(n:Nat):Bool:=
 Nat.ble (lN b) n&&Kv 100 (a.map (·.1))&&GM (DF b) (a.map (·.1))&&GM (Ip a) (a.map (·.1))&&SL a&&nodupB (a.map (·.1))
def AFF(L:Lay)(b:St):ResultVar->AU SV
 | .tmp t=>sM<|b.tm t
 | .cell a t=>match b.tm a,L.get t with
   | .p k off,sM ty=>match b.hp k with
     |some (.cells l _)=>match ty.k.agg,Nat.ble (off+ty.n) (lN l) with
      |true,tT=>sM<|.g<|(l.drop off).take ty.n
      |false,tT=>l[off]?
      |_,_=>nO
     |_=>nO
   |_,_=>nO
def XB(L:Lay)(a:St):AA ResultVar->AU (AA SV)
 |[]=>sM []
 |x::l=>match AFF L a x,XB L a l with
  |some y,sM r=>sM (y::r)
  |_,_=>nO
def AAZ(L:Lay)(a:St)(l:AA ResultVar):AU SV:=
 match XB L a l with
 |some [x]=>sM x
 |some r=>sM<|.t r
 |none=>nO
def Ug(tmps:Ae AF):ResultVar->Sem AF
 | .tmp t=>pure<|tmps.getD t undef
 | .cell b t=>do loadVar t (<-asAddr (tmps.getD b undef))
def Aan(a tmps):results a tmps=(do let vs<-a.results.mapM (Ug tmps);pure (if h:vs.size=1 then vs[0]else .tuple vs)):=rfl
def Aam{P L}(F:Ed P L){c D m a w}(R:Rel c D m a w){x y}(h:AFF L D x=sM y):
 (Ug a.tmps x).run P w=.ok (AO m y) w:=by
 cases x with
 |tmp t=>cases h;simp[Ug,R.tm t]
 |cell b t=>
  simp[AFF]at h;split at h;rename_i k g J I A;let⟨i,d,z,K,B,N,n,M,hzero⟩:=Dg<|F.get A;split at h;rename_i l e s;have cellAt:∀j,w.cell? ⟨m k,j,nO⟩=(BB m l)[j]? :=λj=>by simp[World.cell?,R.hp k _ _ s rfl]
  have u:=R.tm b;rw[I]at u;split at h;rename_i f hle;cases h;have H:w.rangeAt (m k) g ((BB m l).drop g |>.take J.n):=λj v o=>by rw[cellAt];rw[GO]at o;split at o;rw[Jg]at o;exact o;cases o
  have r:d.isRow:=by rw[<-RF n]at f;grind
  have C:=LL hle;have:=run_loadVar_mid (P:=P) w (m k) g t _ d H B r (by grind[Jp]);simp[Ug,u,AO,asAddr,rB,Sem.run_pure,aK,this];simp[Tj,Ti];rename_i f hle;have p:(isAgg t).run P w=.ok fF w:=by have E:=RF n;rw[f]at E;simp[isAgg,rB,rU B,aK];cases d<;>simp_all
  have q:w.cell? ⟨m k,g,nO⟩=sM (AO m y):=by rw[cellAt,Hw,GB,h];rfl
  simp[Ug,u,AO,asAddr,rB,Sem.run_pure,aK,loadVar,p];simp_all;cases h;cases h;cases h
def AMg{P L}(b:Ed P L){c e d a w}(R:Rel c e d a w):∀ {l:AA ResultVar} {r:AA SV},XB L e l=sM r->
 (l.mapM<|Ug a.tmps).run P w=.ok (BB d r) w
 |[],r,h=>by cases h;rfl
 |x::l,r,h=>by simp[XB]at h;split at h;rename_i y k f g;cases h;have i:=Aam b R f;have j:=AMg b R g;simp_all[BB];cases h
def Aal{P L}(k:Ed P L){c i d a w}(R:Rel c i d a w){f r}(h:AAZ L i f.results.toList=sM r):(results f a.tmps).run P w=.ok (AO d r) w:=by
 rw[AAZ]at h;have b:∀l,XB L i f.results.toList=sM l->(results f a.tmps).run P w=.ok (if h:(BB d l).toArray.size=1 then(BB d l).toArray[0]else .tuple (BB d l).toArray) w:=λl g=>by have:=AMg k R g;simp_all[Aan,Array.mapM_eq_mapM_toList]
 split at h;rename_i x n;cases h;rw[b _ n];rfl;rename_i l m g;cases h;have j:∀x,l≠[x]:=by assumption
 rw[b _ g];rw[dif_neg];rfl;simp[Iv,Jp];intro e;cases l with
 |nil=>cases e
 |cons x l=>grind
 cases h
def ctx(P:B7)(F:Ba)(a:Func)(n:Nat)(I:AB)(w:AN)(b:Nat->Nat)(A:AA Nat):Ctx:=⟨P,F,a,I,n,w,b,A,[]⟩
def init(a:AA SV)(b:AA<|Nat×AK)(I:AB)(c:Code):Bv:=⟨⟨RH 0 a,JP b,I⟩,[.code c],nO,100⟩
def MP(a:Func):Code:=match a.body with|some c=>c|none=>.skip
def FC.mk{P F g a need I K r n}(V:P.funcs[F]? =sM g)(t:g.body.isSome)(hn:g.ntmps=n)(hE:V7 a need n)
 (G:∀d l w,100<=l->GG (ctx P F g n I w d (need.map (·.1))) (Rf P I d l w (need.map (·.1)) K r) (init a need I<|MP g)):FC P F a need I K r:=by
 let⟨B,E⟩:=Mz.1 t;have u:MP g=B:=by rw[MP];rw[E]
 rw[u]at G;intro d l w q hN S v H;simp only[V7,CJ]at hE;let⟨⟨⟨⟨⟨M,N⟩,e3⟩,O⟩,e5⟩,e6⟩:=hE;have hlen:=LL M;have m:=UF N;have Q:=G d l w q ⟨λk f=>by
  show JP need k=nO;cases e:JP need k with
  |none=>rfl
  |some b=>have:=m k<|BI.2 ⟨_,Qh e,rfl⟩;have:(100:Nat)<=k:=f;omega,λk f=>m k f⟩
 have p:∀ {J:AA Nat},GM J (need.map (·.1))->∀k∈J,(JP need k).isSome:=λX k f=>ADs<|UQ<|EQ.1 X k f;have A:∀kb∈need,kb.2.live:=λkb z=>EQ.1 e5 kb z;have c:∀ {k b},JP need k=sM b->(k,b)∈need:=λh=>Qh h;intro L;have R:Rel (ctx P F g n I w d (need.map (·.1))) ⟨RH 0 a,JP need,I⟩ d {tmps:=(BB d a).toArray++Array.replicate (g.ntmps-(BB d a).toArray.size) undef,defers:=[]} w:=by
  refine{hp:=λk b o f W=>hN (k,b) (c f) o W,inj:= ?_,kb:= ?_,im:=S,lm:=AB.Hj _,na:=UT e6,fs:=λb o h=>.inl h,GV:=λb o h=>IM h,dj:= ?_,ad:=λk _=>rfl,nw:= ?_,fr:=λ_ _ _ _=>rfl,sz:=Ag _,os:=rfl,tape:=rfl,output:=rfl,size:= ?_,nd:=rfl,tm:= ?_,kd:= ?_};rintro j k ⟨b1,C,_⟩ ⟨b2,D,_⟩ e
  grind
  intro k b Y f y;exact p O Y<|SN (c f) y;rintro k ⟨b,h,_⟩;exact v _<|c h;rintro k ⟨b,h,_⟩;exact .inr ⟨k,BI.2 ⟨_,c h,rfl⟩,rfl⟩;show((BB d a).toArray++Array.replicate (g.ntmps-(BB d a).toArray.size) undef).size=n;simp[Jp];omega;intro s;show((BB d a).toArray++Array.replicate (g.ntmps-(BB d a).toArray.size) undef).getD s undef=AO d (RH 0 a s);rw[AFp,Ac<|Bm _,VD,Array.getElem?_append];simp only[Iv,Jp,Mv,Nat.sub_zero];by_cases h:s<lN a
  grind[Hw]
  rw[AY h,Jh oG];simp only[Array.getElem?_replicate,Option.getD_none];split<;>rfl;intro s k f;have f:k∈(RH 0 a s).A3:=f;rw[AFp,Ac<|Bm _]at f;refine p e3 k ?_;cases h:a[s-0]? with
  |none=>rw[h]at f;cases f
  |some x=>grind[Mc]
 have i:Frame.enter P F (BB d a).toArray .normal=(M5 (ctx P F g n I w d (need.map (·.1)))).at {tmps:=(BB d a).toArray++Array.replicate (g.ntmps-(BB d a).toArray.size) undef,defers:=[]} [.code B]:=by simp[Frame.enter,Frame.at,V,E,M5,ctx]
 let⟨e,Z,fr,T,U,C,D⟩:=Q d _ w R L;rw[i];exact⟨e,Z,fr,T,U,C,D⟩
def ADE:AA Item->Bool
 |[]=>tT
 | .code .ret::_=>tT
 |_=>fF
def Is(a:St):AA Nat->AU (AA<|Nat×AK)
 |[]=>sM []
 |k::l=>match a.hp k,Is a l with
  |some b,sM r=>sM ((k,b)::r)
  |_,_=>nO
def AF0{c}:∀ {l:AA Nat} {r:AA<|Nat×AK},Is c l=sM r->(∀a∈r,a.1∈l/\c.hp a.1=sM a.2)/\(∀k∈l,∃b,(k,b)∈r)
 |[],r,h=>by cases h;simp
 |k::l,r,h=>by
  simp[Is]at h;split at h;rename_i b i e d;cases h;let⟨f,g⟩:=AF0 d
  grind
  cases h
def AFz{c}:∀ {l:AA Nat} {u:AA<|Nat×AK},Is c l=sM u->u.map (·.1)=l
 |[],u,h=>by cases h;rfl
 |k::l,u,h=>by simp[Is]at h;split at h;rename_i b r d a;cases h;rw[E4,AFz a];cases h
def idxOf:Nat->AA Nat->AU Nat
 |_,[]=>nO
 |k,x::l=>match bQ k x with|true=>sM 0|false=>(idxOf k l).map (· +1)
def WT:∀ {l:List Nat} {k j:Nat},idxOf k l=sM j->l[j]? =sM k
 |[],_,_,h=>by cases h
 |x::l,k,j,h=>by
  simp[idxOf]at h;split at h
  grind[Nat.eq_of_beq_eq_true]
  cases e:idxOf k l with
  |none=>rw[e]at h;cases h
  |some i=>rw[e]at h;cases h;simpa using WT e
def ADw:∀ {l:AA Nat} {k:Nat},k∈l->∃j,idxOf k l=sM j
 |x::l,k,h=>by
  simp[idxOf];cases e:bQ k x with
  |true=>exact⟨0,rfl⟩
  |false=>
   rcases Co.1 h with h|h;simp_all;let⟨j,a⟩:=ADw h
   grind
def FB(a:Nat)(b:AA Nat)(k:Nat):Nat:=match idxOf k b with|some j=>a+j|none=>k
def Tb(a:St):AA Nat->AU (AA AK)
 |[]=>sM []
 |k::l=>match a.hp k,Tb a l with
  |some b,sM r=>sM (b::r)
  |_,_=>nO
def AHv{a}:∀ {l:AA Nat} {r:AA AK},Tb a l=sM r->lN r=lN l/\∀(j:Nat)(b:AK),r[j]? =sM b->∃k,l[j]? =sM k/\a.hp k=sM b
 |[],r,h=>by cases h;simp
 |k::l,r,h=>by
  simp[Tb]at h;split at h;rename_i b g d c;cases h;let⟨e,f⟩:=AHv c
  grind
  cases h
def KY(L:Lay)(d:AA ResultVar)(A a:AA Nat)(b:Nat)(f:Bv):AU Ab:=
 match f.rg.isNone&&ADE f.todo,AAZ L f.σ d,Is f.σ A,Tb f.σ a with
 |true,sM r,sM u,sM nb=>
  match GM r.A3 (A++a)&&GM (Ip u) (A++a)&&GM (nb.flatMap AK.A3) (A++a)&&nb.all AK.live&&nodupB a&&a.all (λk=> !Oc k A)&&Kv 100 A&&Nat.ble (lN a) 8 with
  |true=>sM {r:=r.Bh<|FB b a,AV:=u.map λc=>(c.1,c.2.Bh<|FB b a),nb:=nb.map<|AK.Bh<|FB b a,J:=f.σ.im}
  |false=>nO
 |_,_,_,_=>nO
theorem Wu:∀ {l:AA Nat},l.Nodup->∀ {i j:Nat} (a:i<lN l) (b:j<lN l),l[i]=l[j]->i=j
 |x::l,h,i,j,a,b,e=>by
  let⟨d,c⟩:=GX.1 h;cases i with
  |zero=>
   grind
  |succ i=>
   cases j with
   |zero=>grind
   |succ j=>
    have:=Wu (i:=i) (j:=j) c (by simpa using a) (by simpa using b) (by simpa using e);rw[this]
def Kn(P:B7)(F:Ba)(b:Func)(n:Nat)(I:AB)(w:AN)(c:Nat->Nat)(A:AA Nat)(a:AA Deferred):Ctx:=⟨P,F,b,I,n,w,c,A,a⟩
def AMm{P F fn n I w ρ A c Φ L}(hL:Ed P L){f}(ks){h ds}
 (hend:KY L fn.results.toList A ks c f=sM h) (an:100<=c) (am:Φ c h):∀d a w',Rel (Kn P F fn n I w ρ A ds) f.σ d a w'->ADE f.todo/\f.rg=nO/\∃v,(results fn a.tmps).run P w'=.ok v w'/\Rf P I ρ c w A Φ nO (.returned v) w':=by
 let⟨Y,ao,rg,ap⟩:=f;rw[KY]at hend;split at hend
 case h_2=>cases hend
 rename_i r u nb ae h3 h4 h5;split at hend
 case h_2=>cases hend
 rename_i V;cases hend;simp only[CJ,Nc]at ae V;let⟨⟨⟨⟨⟨⟨⟨c1,c2⟩,c3⟩,c4⟩,c5⟩,c6⟩,c7⟩,c8⟩:=V;let⟨h1,h2⟩:=ae;subst h1;intro d a w' R;have R:Rel (Kn P F fn n I w ρ A ds) Y d a w':=R;let⟨u1,u2⟩:=AF0 h4;let⟨n1,n2⟩:=AHv h5;have ak:=UT c5;have p:∀k∈ks,k∉A:=λk s Z=>by have:=EQ.1 c6 k s;simp only[Jf]at this;have h2:Oc k A:=Wl Z;rw[h2]at this;cases this
 have ai:=Aal hL R h3;let q:Nat->Nat:=λj=>match ks[j]? with|some k=>d k|none=>0
 have Q:∀k∈A++ks,Ab.Bh {r:=r.Bh<|FB c ks,AV:=u.map λK=>(K.1,K.2.Bh<|FB c ks),nb:=nb.map<|AK.Bh<|FB c ks,J:=Y.im} ρ c q (FB c ks k)=d k:=by
  intro k s;by_cases ac:k∈ks;let⟨j,g⟩:=ADw ac;have ab:=WT g;have:FB c ks k=c+j:=by rw[FB];rw[g]
  rw[this];have ad:j<lN nb:=by rw[n1];rcases Jj j (lN ks) with l|l;exact l;rw[Jh l]at ab;cases ab
  rw[Mm (b:=(nb[j]).Bh<|FB c ks)<|by simp[ad]];show(match ks[j]? with|some k=>d k|none=>0)=d k;rw[ab];have Z:=(Bc.1 s).resolve_right ac;have:FB c ks k=k:=by
   rw[FB];cases e:idxOf k ks with
   |none=>rfl
   |some j=>exact(ac<|De<|WT e).elim
  rw[this,F7];exact(R.ad k Z).symm;rw[CX];have:Nat.ble c k=fF:=by
   have:=(UF c7) k Z;cases e:Nat.ble c k with
   |false=>rfl
   |true=>have:=LL e;omega
  rw[this]
 have z:∀ {l:AA Nat},GM l (A++ks)->∀k∈l,k∈A++ks:=λhs k s=>UQ<|EQ.1 hs k s;have af:∀x:SV,(∀k∈x.A3,k∈A++ks)->AO (Ab.Bh {r:=r.Bh<|FB c ks,AV:=u.map λK=>(K.1,K.2.Bh<|FB c ks),nb:=nb.map<|AK.Bh<|FB c ks,J:=Y.im} ρ c q) (x.Bh<|FB c ks)=AO d x:=λx X=>by rw[PH];exact Ko x λk s=>Q k<|X k s
 have O:∀b:AK,(∀k∈b.A3,k∈A++ks)->(b.Bh<|FB c ks).AO (Ab.Bh {r:=r.Bh<|FB c ks,AV:=u.map λK=>(K.1,K.2.Bh<|FB c ks),nb:=nb.map<|AK.Bh<|FB c ks,J:=Y.im} ρ c q)=b.AO d:=λb N=>by rw[AK.PH];exact AK.Ko b λk s=>Q k<|N k s
 have live:∀(j:Nat)(b:AK),nb[j]? =sM b->b.live:=λj b g=>EQ.1 c4 b<|De g;have tk:∀k∈A++ks,FB c ks k∈A\/(CX c (nb.map<|AK.Bh<|FB c ks)<|FB c ks k).isSome:=by
  intro k s;rw[FB];cases e:idxOf k ks with
  |none=>exact .inl ((Bc.1 s).resolve_right λhm=>by let⟨j,g⟩:=ADw hm;rw[e]at g;cases g)
  |some j=>
   right;have h1:=WT e;have ad:j<lN ks:=by rcases Jj j (lN ks) with l|l;exact l;rw[Jh l]at h1;cases h1
   show(CX c _<|c+j).isSome;rw[Nv];simp[n1,ad]
 have wf:Ab.LD {r:=r.Bh<|FB c ks,AV:=u.map λK=>(K.1,K.2.Bh<|FB c ks),nb:=nb.map<|AK.Bh<|FB c ks,J:=Y.im} c A:=by
  have go:∀ {l:AA Nat},GM l (A++ks)->∀k∈l.map (FB c ks),k∈A\/(CX c (nb.map<|AK.Bh<|FB c ks) k).isSome:=by intro l M k s;obtain⟨x,X,rfl⟩:=BI.1 s;exact tk x<|z M x X
  refine⟨λk s=>go c1 k<|by rwa[<-Qp],λK aa=> ?_,λb N k s=> ?_,by simp[n1];exact LL c8,?_⟩;obtain⟨x,X,rfl⟩:=BI.1 aa;refine⟨(u1 x X).1,λk s=> ?_⟩;simp only[AK.Qp]at s;obtain⟨y,hy,rfl⟩:=BI.1 s;exact tk y<|z c2 y<|SN X hy;obtain⟨x,X,rfl⟩:=BI.1 N;rw[AK.Qp]at s;obtain⟨y,hy,rfl⟩:=BI.1 s;exact tk y<|z c3 y<|LJ.2 ⟨x,X,hy⟩;rw[Gk];show(u.map (·.1)).Nodup;rw[AFz h4];exact R.na
 have Bz:Rf P I ρ c w A Φ nO (.returned<|AO d r) w':=by
  refine⟨_,q,⟨am,wf,R.lm⟩,⟨R.os,R.tape,R.output,R.sz,?_,?_,?_,?_,R.im,?_,?_⟩,by rw[<-af r<|z c1]⟩;intro b N al hO;refine R.fr b N (λk aj=> ?_) hO;let⟨bk,T⟩:=u2 k aj;exact al (k,bk.Bh<|FB c ks)<|BI.2 ⟨(k,bk),T,rfl⟩;intro K aa o ho;obtain⟨E,W,rfl⟩:=BI.1 aa;let⟨Z,hp⟩:=u1 E W;simp only at ho⊢;rw[O E.2 λk s=>z c2 k<|SN W s]at ho;have e1:=Q E.1<|GC _ Z;have e2:FB c ks E.1=E.1:=by
   rw[FB];cases e:idxOf E.1 ks with
   |none=>rfl
   |some j=>exact(p _ (De<|WT e) Z).elim
  rw[e2]at e1;rw[e1];exact R.hp E.1 E.2 o hp ho;intro j b g;simp only[GB,L9]at g;obtain⟨S,B,rfl⟩:=g;let⟨k,C,m⟩:=n2 j S B;have D:k∈ks:=De C;have M:=live j S B;have qj:q j=d k:=by show(match ks[j]? with|some k=>d k|none=>0)=d k;rw[C]
  let⟨o,ho⟩:=AK.UI M d;refine⟨?_,by rwa[AK.UJ],?_⟩;rw[O S λH t=>z c3 H<|LJ.2 ⟨S,De B,t⟩,ho,qj];exact R.hp k S o m ho;rw[qj];rcases R.nw k ⟨S,m,M⟩with G|⟨H,t,G⟩;exact .inl G;right;let⟨bk,T⟩:=u2 H t;refine⟨(H,bk.Bh<|FB c ks),BI.2 ⟨(H,bk),T,rfl⟩,?_,G⟩;let⟨_,hp⟩:=u1 _ T;cases bk with
  |gone=>rfl
  |cells l e=>
   have:=R.inj k H ⟨S,m,M⟩ ⟨_,hp,rfl⟩ (by rw[G,<-R.ad H t]);rw[this]at D;exact(p _ D t).elim
  |As l e=>
   have:=R.inj k H ⟨S,m,M⟩ ⟨_,hp,rfl⟩ (by rw[G,<-R.ad H t]);rw[this]at D;exact(p _ D t).elim
  |Ey l e=>
   have:=R.inj k H ⟨S,m,M⟩ ⟨_,hp,rfl⟩ (by rw[G,<-R.ad H t]);rw[this]at D;exact(p _ D t).elim
  |Aq o=>
   have:=R.inj k H ⟨S,m,M⟩ ⟨_,hp,rfl⟩ (by rw[G,<-R.ad H t]);rw[this]at D;exact(p _ D t).elim
  intro i j U g e;simp only[DG]at U g;rw[n1]at U g;have ei:q i=d ks[i]:=by show(match ks[i]? with|some k=>d k|none=>0)=_;rw[BS U]
  have ej:q j=d ks[j]:=by show(match ks[j]? with|some k=>d k|none=>0)=_;rw[BS g]
  have M:∀i (U:i<lN ks),HJ Y.hp ks[i]:=λi U=>by
   have ag:i<lN nb:=by rwa[n1]
   let⟨k,C,m⟩:=n2 i nb[i]<|BS ag;rw[BS U]at C;cases C;exact⟨_,m,live i _<|BS ag⟩
  have:=R.inj _ _ (M i U) (M j g) (by rwa[<-ei,<-ej]);exact Wu ak U g this;intro b o N;rcases R.fs b o N with G|G;exact .inl G;by_cases hex:∃j,j<lN nb/\b=q j;let⟨j,g,e⟩:=hex;exfalso;let⟨k,C,m⟩:=n2 j nb[j]<|BS g;have qj:q j=d k:=by show(match ks[j]? with|some k=>d k|none=>0)=d k;rw[C]
  have:=R.dj k ⟨_,m,live j _<|BS g⟩;rw[<-qj,<-e]at this;have B:Y.im b=sM o:=N;rw[this.1]at B;cases B;exact .inr ⟨G,λj g e=>hex ⟨j,by simpa using g,e⟩⟩;intro b o N;rcases R.GV b o N with G|G;exact .inl G;by_cases hex:∃j,j<lN nb/\b=q j;let⟨j,g,e⟩:=hex;exfalso;let⟨k,C,m⟩:=n2 j nb[j]<|BS g;have qj:q j=d k:=by show(match ks[j]? with|some k=>d k|none=>0)=d k;rw[C]
  have:=R.dj k ⟨_,m,live j _<|BS g⟩;rw[<-qj,<-e]at this;have B:Y.im.Ak b=sM o:=N;rw[this.2]at B;cases B;exact .inr ⟨G,λj g e=>hex ⟨j,by simpa using g,e⟩⟩
 exact⟨h2,rfl,_,ai,Bz⟩
def AMn{P F fn n I w i A b q L}(t:Ed P L)(u:P.funcs[F]? =sM fn){f}(p){h}
 (hend:KY L fn.results.toList A p b f=sM h) (e:100<=b) (j:q b h):GG (ctx P F fn n I w i A) (Rf P I i b w A q nO) f:=by
 let⟨C,g,z,s⟩:=f;obtain rfl:z=nO:=by rw[KY]at hend;ext;grind
 intro _ m a k R B;let⟨o,_,v,c,Bz⟩:=(AMm (F:=F) (n:=n) (w:=w) (ρ:=i) (I:=I) (ds:=[]) t p hend e j) m a k R;have d:(ctx P F fn n I w i A).P.funcs[(ctx P F fn n I w i A).f]? =sM fn:=u;cases g with
 |nil=>exact⟨_,k,_,Bz,.one step_end,rfl,rfl,R.nd,rfl,fn,d,c⟩
 |cons x l=>
  cases x with
  |code r=>
   cases r with
   |ret=>exact⟨_,k,_,Bz,.one step_ret,rfl,rfl,R.nd,rfl,fn,d,c⟩
   |_=>cases o
  |_=>cases o
end Go.AX
