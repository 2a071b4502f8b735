/- Part 4 of the proof of TopHidden. No conditions. -/
import Derived.Test.YtomehhepbeiinaaGreatDoorZ03
set_option maxRecDepth 100000
set_option maxHeartbeats 4000000
set_option linter.all false
open List renaming replicate->lP
open List renaming length->lN
open Option renaming some->sM,none->nO
open Bool renaming true->tT,false->fF
open Go.Value renaming string->vS,bool->vB
open Go.IntKind renaming i64->iK
namespace Lz
def Ak(t:AL):AA Nm:=t.id::t.AI.map (·.name)
def Fu(t:AL):AA (Nm×Nat):=t.AI.map (λs=>(s.Bg,s.A7))++(if t.Aw=2 then[]else[(t.Bg,t.A7)])
def Hv(t:AL)(i:Nat):AT:=match t.AI[i]? with|some s=>s.g.A5|none=>t.g.A5
def OD(s r:Az):Prop:=∀n o,Am s n=sM o->∃a,Am r n=sM a/\a.kind=o.kind/\a.l=o.l
def OD.add(s n o):OD s (Cy s n o):=λq w a=>by
 cases h:Ew s n o with
 |false=>rw[OF h];exact⟨w,a,rfl,rfl⟩
 |true=>
  rw[I3 h];by_cases e:q=n;subst e;simp[Ew,CJ,Nc]at h;rw[h.2]at a;cases a;rw[AY e];exact⟨w,a,rfl,rfl⟩
def OD.set(s n o):OD s (Cn s n o):=λq w a=>by rw[PV];split;rename_i d b;split;rename_i c;by_cases e:q=n;subst e;rw[b]at a;cases a;exact⟨o,by rw[Ac rfl],c.1.symm,c.2.symm⟩;rw[AY e];exact⟨w,a,rfl,rfl⟩;exact⟨w,a,rfl,rfl⟩;exact⟨w,a,rfl,rfl⟩
def Nm9(n:Nm):Prop:=∀x∈n,x<=999
def AAE:Nm9 []:=λ_ h=>by cases h
def Pm{n}(h:CB n):Nm9 n:=by rw[CB]at h;simp[CJ,EQ,ER]at h;exact h.2
structure DC(m:AT)(s:Az)(v:AW):Prop where
 Cj:A4 v.l=v.l
 kind:v.kind<=7/\Nm9 v.name
 BZ:3<=v.kind->fl v.l m->∃o,Am s v.name=sM o/\o.kind=v.kind/\o.l=v.l
def DC.up{m s r v}(h:DC m s v)(k:OD s r):DC m r v:=⟨h.Cj,h.kind,λa b=>by let⟨o,c,d,e⟩:=h.BZ a b;let⟨j,f,g,i⟩:=k _ o c;exact⟨j,f,g.trans d,i.trans e⟩⟩
def AAF:A4 FW=FW:=AAd.2 ⟨AMs,AMs⟩
def H7{m s}(n:Int):DC m s (BH n):=⟨AAF,⟨by simp[BH],AAE⟩,λh=>by simp[BH]at h⟩
def Ia{m s}:DC m s AZ:=⟨AAF,⟨by simp[AZ],AAE⟩,λh=>by simp[AZ]at h⟩
def Xf{m s l}(h:A4 l=l):DC m s (D1 l):=⟨h,⟨by simp[D1],AAE⟩,λh=>by simp[D1]at h⟩
def AF3{m s}(b:Bool):DC m s (NV b):=by cases b<;>exact H7 _
structure FP(P:AW->Prop)(M:AH->Prop)(c:Ay):Prop where
 fr:∀f∈c.AG,M f.AR/\∀v∈f.Ai,P v
 st:∀v∈c.stack,P v
 tr:∀x∈c.AP,x.AG<=lN c.AG
 tm:c.AP.Pairwise λa b=>a.AG<=b.AG
def FP.up{P Q M c}(h:FP P M c)(k:∀v,P v->Q v):FP Q M c:=
 ⟨λf b=>⟨(h.fr f b).1,λv a=>k v<|(h.fr f b).2 v a⟩,λv a=>k v<|h.st v a,h.tr,h.tm⟩
structure TI(m:AT)(P:AW->Prop)(M:AH->Prop)(t:AL):Prop where
 NO:t.AI.map (·.Bg)++[t.Bg]=t.id::t.AI.map (·.name)
 HM:∀n∈Ak t,CB n
 nest:t.AI.Pairwise λa b=>a.AG<b.AG/\a.Cg<=b.Cg/\a.AP<=b.AP
 Ux:t.Aw<=4
 idle:t.Aw=2->0<lN t.AI
 over:3<=t.Aw->t.AI=[]
 at_:∀s∈t.AI,At t.c s
 JW:t.Aw<2->∀s∈t.AI,On t.c s
 mono:VX t m
 cap:∀i,i<=lN t.AI->fl (EF t i) (Hv t i)
 A5:∀i s,t.AI[i]? =sM s->fl s.l m->fl (Hv t (i+1)) m
 Cj:(A4 t.g.Ad=t.g.Ad/\A4 t.g.A5=t.g.A5)/\∀s∈t.AI,A4 s.l=s.l/\A4 s.g.Ad=s.g.Ad/\A4 s.g.A5=s.g.A5
 FL:FP P M t.c
 val:P t.v
def TI.up{m P Q M t}(h:TI m P M t)(k:∀v,P v->Q v):TI m Q M t:={h with FL:=h.FL.up k,val:=k _ h.val}
structure OI(P:AW->Prop)(M:AH->Prop)(o:Ob):Prop where
 Cj:A4 o.l=o.l
 kind:3<=o.kind/\o.kind<=7
 val:P o.v
 Lr:P o.var.v
 Dn:∀w∈o.var.q,P w.v
 Zz:o.kind=7->M o.AR
def OI.up{P Q M o}(h:OI P M o)(k:∀v,P v->Q v):OI Q M o:={h with val:=k _ h.val,Lr:=k _ h.Lr,Dn:=λw a=>k _<|h.Dn w a}
def MK(AC:AA AL)(s:Az)(q:Nm):Prop:=(∃o,Am s q=sM o)\/∃t∈AC,q∈Ak t
structure KI(m:AT)(M:AH->Prop)(AC:AA AL)(s:Az):Prop where
 E0:Fi AC
 G3:∀t∈AC,TI m (DC m s) M t
 Ep:∀n o,Am s n=sM o->OI (DC m s) M o
 Jy:(AC.flatMap Ak).Nodup
 FQ:∀t∈AC,∀pm∈Fu t,∀j,pm.2<=j->∀q,MK AC s q->¬(pm.1++[j])<+:q
 Ja:∀t∈AC,∀x∈t.AI,Am s x.name=nO
 Km:∀t∈AC,∀o,Am s t.id=sM o->o.kind=6->fl o.l m->fl (Hv t 0) m
 Dn:∀n o,Am s n=sM o->(o.var.q.map (·.id)).Nodup/\∀w∈o.var.q,∃t,Af AC w.id=sM t/\t.Aw=1/\t.on=n/\t.g.Ad=o.l
 H8:∀t∈AC,t.Aw=1->fl t.g.Ad m->∃o,Am s t.on=sM o/\fl o.l m
 B0:(s.map (·.1)).Nodup
variable{m:AT}{M:UInt8->Prop}{AC:List AL}{s:Az}
def KI.of(h:KI m M AC s){b t}(a:Af AC b=sM t):TI m (DC m s) M t:=h.G3 t<|D2 a
structure YI(m:AT)(M:AH->Prop)(AC:AA AL)(s:Az)(t u:AL):Prop where
 id:u.id=t.id
 EI:u.AI=t.AI
 Bg:u.Bg=t.Bg
 A7:t.A7<=u.A7
 idle:t.Aw=2->u.Aw=2
 ti:TI m (DC m s) M u
 A5:fl t.g.A5 m->fl u.g.A5 m
 Dn:(∀n o,Am s n=sM o->∀w∈o.var.q,w.id≠t.id)\/(u.Aw=t.Aw/\u.on=t.on/\u.g.Ad=t.g.Ad)
 H8:u.Aw=1->fl u.g.Ad m->∃o,Am s u.on=sM o/\fl o.l m
theorem I6{l u x}(h:x∈A1 l u):x=u\/(x∈l/\x.id≠u.id):=by rw[A1]at h;let⟨y,b,e⟩:=BI.1 h;split at e;exact .inl e.symm;rename_i a;subst e;exact .inr ⟨b,λq=>a<|by simp[q]⟩
def AUH{a d:Type}{l:AA a}{f g:a->AA d}(h:∀x∈l,f x=g x):l.flatMap f=l.flatMap g:=by
 induction l with
 |nil=>rfl
 |cons x l c=>rw[Kb,Kb,h x DT,c λy b=>h y<|DY _ b]
def AaH{l:AA AL}{t u:AL}(b:Fi l)(c:Af l t.id=sM t)(hid:u.id=t.id)(a:Ak u=Ak t):(A1 l u).flatMap Ak=l.flatMap Ak:=by
 rw[A1];rw[List.flatMap_map];apply AUH;intro x d;split
 .rename_i h;have:=NT b d;rw[GP.1 h,hid,c]at this;cases this;exact a
 .rfl
theorem AOV{l s t u}(d:Af l t.id=sM t)(c:∀q∈Ak u,q∈Ak t){q}(h:MK (A1 l u) s q):MK l s q:=by rcases h with h|⟨x,a,b⟩;exact .inl h;rcases I6 a with rfl|⟨a,_⟩;exact .inr ⟨t,D2 d,c q b⟩;exact .inr ⟨x,a,b⟩
def KI.HW(h:KI m M AC s){t u}(r:Af AC t.id=sM t)(k:YI m M AC s t u):KI m M (A1 AC u) s:=by
 have G:Ak u=Ak t:=by unfold Ak;rw[k.id,k.EI]
 have c:=D2 r;refine{E0:=sorted_put h.E0 u,G3:=λx a=> ?_,Ep:=h.Ep,Jy:=by rw[AaH h.E0 r k.id G];exact h.Jy,FQ:=λx a I b j v q p=> ?_,Ja:=λx a y d=> ?_,Km:=λx a o f E F=> ?_,Dn:=λn o z=>⟨(h.Dn n o z).1,λw H=> ?_⟩,H8:=λx a=> ?_,B0:=h.B0};rcases I6 a with rfl|⟨a,_⟩;exact k.ti;exact h.G3 x a;have g:=AOV (u:=u) r (λq p=>by rw[G]at p;exact p) p;rcases I6 a with rfl|⟨a,_⟩;unfold Fu at b;rw[k.EI,k.Bg]at b;rcases Bc.1 b with l|l;exact h.FQ t c I (GC _ l) j v q g;split at l;cases l;rename_i A;have e:=A9.1 l;subst e;refine h.FQ t c (t.Bg,t.A7) (HZ _ ?_) j (Ch k.A7 v) q g;rw[AY λe=>A<|k.idle e];simp;exact h.FQ x a I b j v q g;rcases I6 a with rfl|⟨a,_⟩;rw[k.EI]at d;exact h.Ja t c y d;exact h.Ja x a y d;rcases I6 a with rfl|⟨a,_⟩;rw[k.id]at f;have:=h.Km t c o f E F;unfold Hv at this⊢;rw[k.EI];split;rename_i J i;rw[i]at this;exact this;rename_i i;rw[i]at this;exact k.A5 this;exact h.Km x a o f E F;let⟨y,d,B,C,D⟩:=(h.Dn n o z).2 w H;rw[N4];by_cases e:w.id=u.id;rw[Ac e,d];rw[e,k.id]at d;rw[r]at d;cases d;rcases k.Dn with q|⟨q1,q2,q3⟩;exact absurd (e.trans k.id)<|q n o z w H;exact⟨u,rfl,q1.trans B,q2.trans C,q3.trans D⟩;rw[AY e];exact⟨y,d,B,C,D⟩;rcases I6 a with rfl|⟨a,_⟩;exact k.H8;exact h.H8 x a
def Cr(m:AT)(l:AA AL)(a:Nm):AU AL:=(Af l a).bind (C4 · m)
theorem U4{l t u}(b:Af l t.id=sM t)(hid:u.id=t.id)(a:C4 u m=C4 t m)(id):Cr m (A1 l u) id=Cr m l id:=by unfold Cr;rw[N4];by_cases e:id=u.id;rw[Ac e,e,hid,b];exact a;rw[AY e]
theorem AYa{s n o}(h:(s.map (·.1)).Nodup):((Cy s n o).map (·.1)).Nodup:=by
 cases e:Ew s n o with
 |false=>rw[OF e];exact h
 |true=>
  unfold Cy;rw[if_pos e,List.map_append,List.nodup_append];refine⟨h,sP,λa f b c=> ?_⟩;simp[List.map_cons,List.map_nil,List.mem_singleton]at c;subst c;rintro rfl;simp[Ew,Bool.and_eq_true,Option.isNone_iff_eq_none]at e;obtain⟨x,g,rfl⟩:=List.mem_map.1 f;have d:=e.2;unfold Am at d
  grind[Option.map_eq_none_iff]
theorem AYc{s n o}(h:(s.map (·.1)).Nodup):((Cn s n o).map (·.1)).Nodup:=by grind[Cn]
def YN{s n o P}(c:CB n)(a:OI P M o)(b:Am s n=nO):Ew s n o:=by rw[Ew];rw[c,b];simp[a.Cj,a.kind]
theorem KI.add(h:KI m M AC s){n o}(C:CB n)(A:Am s n=nO)(d:∀t∈AC,n∉Ak t)(E:∀t∈AC,∀i∈Fu t,∀j,i.2<=j->¬(i.1++[j])<+:n)
 (p:OI (DC m s) M o) (F:o.var.q=[]):KI m M AC (Cy s n o):=by
 have c:=YN C p A;have g:∀v,DC m s v->DC m (Cy s n o) v:=λv D=>D.up<|OD.add s n o;refine{E0:=h.E0,G3:=λt b=>(h.G3 t b).up g,Ep:=λq w a=> ?_,Jy:=h.Jy,FQ:=λt b i r j k q f=> ?_,Ja:=λt b x u=> ?_,Km:=λt b w a B l=> ?_,Dn:=λq w a=> ?_,H8:=λt b y z=> ?_,B0:=AYa h.B0};rw[I3 c]at a;split at a;cases a;exact p.up g;exact(h.Ep q w a).up g;rcases f with⟨w,a⟩|f;rw[I3 c]at a;split at a
 grind
 exact h.FQ t b i r j k q<|.inl ⟨w,a⟩;exact h.FQ t b i r j k q<|.inr f;rw[I3 c,AY];exact h.Ja t b x u;intro e;exact d t b (by rw[<-e];exact DY _<|BI.2 ⟨x,u,rfl⟩);rw[I3 c]at a;split at a;rename_i e;exact absurd (by rw[<-e];exact DT)<|d t b;exact h.Km t b w a B l;rw[I3 c]at a;split at a
 grind
 exact h.Dn q w a;let⟨w,a,l⟩:=h.H8 t b y z
 grind[I3]
theorem KI.set(h:KI m M AC s){n w o}(J:Am s n=sM w)(F:w.kind=o.kind)(G:w.l=o.l)(H:OI (DC m s) M o)
 (K:(o.var.q.map (·.id)).Nodup/\∀x∈o.var.q,∃t,Af AC x.id=sM t/\t.Aw=1/\t.on=n/\t.g.Ad=o.l):KI m M AC (Cn s n o):=by
 have p:=ADj J F G;have f:∀v,DC m s v->DC m (Cn s n o) v:=λv I=>I.up<|OD.set s n o;have a:∀q x,Am (Cn s n o) q=sM x->∃y,Am s q=sM y/\y.kind=x.kind/\y.l=x.l:=by grind
 refine{E0:=h.E0,G3:=λt c=>(h.G3 t c).up f,Ep:=λq x b=> ?_,Jy:=h.Jy,FQ:=λt c B u j r q d=> ?_,Ja:=λt c x b=> ?_,Km:=λt c x b i k=> ?_,Dn:=λq x b=> ?_,H8:=λt c C D=> ?_,B0:=AYc h.B0};rw[p]at b;split at b;cases b;exact H.up f;exact(h.Ep q x b).up f;rcases d with⟨x,b⟩|d;let⟨y,g,_⟩:=a q x b;exact h.FQ t c B u j r q<|.inl ⟨y,g⟩;exact h.FQ t c B u j r q<|.inr d;cases e:Am (Cn s n o) x.name with
 |none=>rfl
 |some y=>let⟨z,A,_⟩:=a _ _ e;rw[h.Ja t c x b]at A;cases A
 let⟨y,g,l,E⟩:=a _ _ b;exact h.Km t c y g (l.trans i) (by rwa[E]);rw[p]at b;split at b
 grind
 exact h.Dn q x b;let⟨y,g,l⟩:=h.H8 t c C D
 grind
structure Kh(AC:AA AL)(s:Az)(n:Nm):Prop where
 ok:CB n
 Ak:∀t∈AC,n∉Ak t
 low:∀q,MK AC s q->n<+:q->q=n
 FQ:∀t∈AC,∀pm∈Fu t,∀j,pm.2<=j->¬(pm.1++[j])<+:n
theorem AZ8{a:Type}{l r:AA a}{x:a}(h:l<+:r++[x]):l=r++[x]\/l<+:r:=by grind[List.prefix_concat_iff]
theorem Abu{a:Type}{l r:AA a}{x y:a}(h:l++[x]=r++[y]):l=r/\x=y:=by simp_all
theorem AK7{P t}(h:TI m P M t){a}(b:a∈Fu t):a.1∈Ak t:=by
 rw[Ak];rw[<-h.NO]
 grind[Fu]
theorem AIL{p n k}(h:child p k=sM n):n=p++[k]/\CB n:=by grind[child,CB]
theorem ALh{l:AA AL}(h:(l.flatMap Ak).Nodup):∀ {t u:AL} {n:Nm},t∈l->u∈l->n∈Ak t->n∈Ak u->t=u:=by
 induction l with
 |nil=>simp
 |cons x l a=>
  grind
theorem AAR{l:AA AL}(h:(l.flatMap Ak).Nodup){t}(a:t∈l):(Ak t).Nodup:=by grind
theorem AX3{P t}(h:TI m P M t)(c:(Ak t).Nodup){b}(a:b∈Fu t)(d:b.1=t.Bg)(e:t.Aw≠2):b=(t.Bg,t.A7):=by
 rw[Ak]at c;rw[<-h.NO,Gl]at c;rw[Fu]at a;rcases Bc.1 a with a|a;obtain⟨x,f,rfl⟩:=BI.1 a;simp_all
 grind
theorem KI.new(h:KI m M AC s){t u}(O:Af AC t.id=sM t)(C:t.Aw≠2){n}(I:child t.Bg t.A7=sM n)(hid:u.id=t.id)(p:u.AI=t.AI)(z:u.Bg=t.Bg)(K:u.A7=t.A7+1)(D:u.Aw≠2):Kh (A1 AC u) s n/\Am s n=nO:=by
 obtain⟨e,A⟩:=AIL I;have b:=D2 O;have r:=h.G3 t b;have c:(t.Bg,t.A7)∈Fu t:=by unfold Fu;rw[AY C];simp
 have l:∀q,MK AC s q->¬n<+:q:=λq B=>by rw[e];exact h.FQ t b _ c t.A7 (Ag _) q B
 have P:Ak u=Ak t:=by unfold Ak;rw[hid,p]
 have G:∀q,MK (A1 AC u) s q->MK AC s q:=by grind[AOV]
 have f:t.Bg∈Ak t:=AK7 r c;refine⟨⟨A,λx g L=>l n (G n<|.inr ⟨x,g,L⟩)<|List.prefix_refl n,λq B z=>absurd z<|l q<|G q B,λx g w a j F i=> ?_⟩,?_⟩;rw[e]at i;rcases AZ8 i with q|q;obtain⟨q1,q2⟩:=Abu q;rcases I6 g with rfl|⟨g,N⟩;unfold Fu at a;rw[p,z]at a;rcases Bc.1 a with a|a;have d:w∈Fu t:=GC _ a;have:=AX3 r (AAR h.Jy b) d q1 C;have v:=AAR h.Jy b;unfold Ak at v;rw[<-r.NO,Gl]at v;obtain⟨y,Q,rfl⟩:=BI.1 a;simp_all
 grind
 have E:=AK7 (h.G3 x g) a;rw[q1]at E;have:=ALh h.Jy g b E f
 grind
 rcases I6 g with rfl|⟨g,_⟩;have d:∃k,(w.1,k)∈Fu t/\k<=w.2:=by unfold Fu at a⊢;rw[p,z,K]at a;rcases Bc.1 a with a|a;exact⟨w.2,GC _ a,Ag _⟩;rw[AY D]at a;rw[A9.1 a];exact⟨t.A7,HZ _<|by rw[AY C];simp,sP⟩
 obtain⟨k,J,hle⟩:=d;exact h.FQ t b _ J j (Ch hle F) t.Bg (.inr ⟨t,b,f⟩) q;exact h.FQ x g w a j F t.Bg (.inr ⟨t,b,f⟩) q;cases H:Am s n with
 |none=>rfl
 |some o=>exact absurd (List.prefix_refl n)<|l n<|.inl ⟨o,H⟩
def Kh.add{n}(h:Kh AC s n)(o):Kh AC (Cy s n o) n:=by
 refine⟨h.ok,h.Ak,λq c b=> ?_,h.FQ⟩;rcases c with⟨w,a⟩|c;cases e:Ew s n o with
 |false=>rw[OF e]at a;exact h.low q (.inl ⟨w,a⟩) b
 |true=>
  rw[I3 e]at a;split at a;assumption;exact h.low q (.inl ⟨w,a⟩) b
 exact h.low q (.inr c) b
theorem Pg{l t x}:x∈LY l t↔x=t\/x∈l:=by grind[Dz,LY,List.takeWhile_append_dropWhile]
theorem AD3(l t):(LY l t).Perm (t::l):=by grind[Dz,LY,List.takeWhile_append_dropWhile,List.perm_middle]
theorem KI.BU(h:KI m M AC s){n}(r:Kh AC s n){u}(hid:u.id=n)(N:u.Bg=n)(l:u.AI=[])(A:u.Aw=0)(B:TI m (DC m s) M u)
 (D:∀o,Am s n=sM o->o.kind=6->fl o.l m->fl u.g.A5 m):KI m M (CC AC u) s:=by
 have g:Af AC u.id=nO:=by
  cases e:Af AC u.id with
  |none=>rfl
  |some x=>
   have p:=E2 e;exact absurd (by rw[<-hid,<-p];exact DT)<|r.Ak x<|D2 e
 have e:CC AC u=LY AC u:=by rw[CC];rw[g];rfl
 have k:Ak u=[n]:=by rw[Ak];rw[hid,l];rfl
 have F:∀q,MK (LY AC u) s q->MK AC s q\/q=n:=λq d=>by
  rcases d with d|⟨x,c,d⟩;exact .inl<|.inl d;rcases Pg.1 c with rfl|c
  grind
  exact .inl<|.inr ⟨x,c,d⟩
 rw[e];refine{E0:=AFU h.E0 g,G3:=λx c=> ?_,Ep:=h.Ep,Jy:= ?_,FQ:=λx c H f j E q d=> ?_,Ja:=λx c y G=> ?_,Km:=λx c o L J K=> ?_,Dn:=λq o d=>⟨(h.Dn q o d).1,λw O=> ?_⟩,H8:=λx c p I=> ?_,B0:=h.B0};rcases Pg.1 c with rfl|c;exact B;exact h.G3 x c;refine((AD3 AC u).flatMap_right Ak).nodup_iff.2 ?_;rw[Kb,Gl];refine⟨by rw[k];simp,h.Jy,λa C b t=> ?_⟩;rw[k,A9]at C;subst C;rintro rfl;let⟨x,c,t⟩:=LJ.1 t;exact r.Ak x c t;rcases Pg.1 c with rfl|c;rw[Fu]at f;rw[l,A,N]at f;simp[Mw,F2,show¬(0=2) by omega,Hq,A9]at f;subst f;intro i;have v:n<+:q:=(List.prefix_append n [j]).trans i;have z:q=n:=by rcases F q d with d|d;exact r.low q d v;exact d
 rw[z]at i;have:=i.length_le;simp at this;omega;rcases F q d with d|rfl;exact h.FQ x c H f j E q d;exact r.FQ x c H f j E;rcases Pg.1 c with rfl|c
 grind
 exact h.Ja x c y G;rcases Pg.1 c with rfl|c
 grind[Hv]
 exact h.Km x c o L J K;let⟨y,G,p⟩:=(h.Dn q o d).2 w O
 grind[AN5]
 rcases Pg.1 c with rfl|c
 grind
 exact h.H8 x c p I
theorem KI.AI(h:KI m M AC s){t u}(D:Af AC t.id=sM t)(hid:u.id=t.id)(E:TI m (DC m s) M u)(L:(Ak u).Nodup)(N:∀q∈Ak u,q∈Ak t\/(Am s q=nO/\∀x∈AC,q∉Ak x))
 (I:∀i∈Fu u,∀j,i.2<=j->∀q,(MK AC s q\/q∈Ak u)->¬(i.1++[j])<+:q) (z:∀x∈AC,x.id≠t.id->∀i∈Fu x,∀j,i.2<=j->∀q∈Ak u,¬(i.1++[j])<+:q)
 (p:∀x∈u.AI,Am s x.name=nO) (k:fl (Hv t 0) m->fl (Hv u 0) m) (C:u.Aw≠1) (d:∀n o,Am s n=sM o->∀w∈o.var.q,w.id≠t.id):KI m M (A1 AC u) s:=by
 have F:=D2 D;have V:∀q,MK (A1 AC u) s q->MK AC s q\/q∈Ak u:=λq d=>by rcases d with d|⟨x,c,d⟩;exact .inl<|.inl d;rcases I6 c with rfl|⟨c,_⟩;exact .inr d;exact .inl<|.inr ⟨x,c,d⟩
 refine{E0:=sorted_put h.E0 u,G3:=λx c=> ?_,Ep:=h.Ep,Jy:= ?_,FQ:=λx c i B j Q q d=> ?_,Ja:=λx c y r=> ?_,Km:=λx c o A J K=> ?_,Dn:=λn o g=>⟨(h.Dn n o g).1,λw W=> ?_⟩,H8:=λx c v O=> ?_,B0:=h.B0};rcases I6 c with rfl|⟨c,_⟩;exact E;exact h.G3 x c;have H:∀l:List AL,Fi l->(l.flatMap Ak).Nodup->(∀x∈l,x∈AC)->((A1 l u).flatMap Ak).Nodup/\∀q,q∈(A1 l u).flatMap Ak->(∃x∈l,x.id≠t.id/\q∈Ak x)\/(q∈Ak u/\∃x∈l,x.id=t.id):=by
  intro l;induction l with
  |nil=>intro _ _ _;exact⟨by simp[A1],λq d=>by simp[A1]at d⟩
  |cons y l ih=>
   intro U g f;have R:=g;rw[List.flatMap_cons,List.nodup_append]at g;let⟨i1,i2⟩:=ih (List.pairwise_cons.1 U).2 g.2.1 λx c=>f x<|List.mem_cons_of_mem _ c;have e:A1 (y::l) u=(if y.id==u.id then u else y)::A1 l u:=rfl;rw[e,List.flatMap_cons,List.nodup_append];by_cases r:y.id=t.id;rw[if_pos gR];have Z:y=t:=by have:=NT h.E0<|f y List.mem_cons_self;rw[r,D]at this;exact(Option.some.inj this).symm
   have T:∀x∈l,x.id≠t.id:=by grind[List.pairwise_cons,Ma]
   grind
   rw[if_neg gR];refine⟨⟨g.1,i1,λa ha b P=> ?_⟩,λq d=> ?_⟩;rintro rfl;rcases i2 a P with⟨x,c,_,X⟩|⟨h3,x,c,G⟩
   grind
   have Y:x=t:=by have:=NT h.E0<|f x<|List.mem_cons_of_mem _ c;rw[G,D]at this;exact(Option.some.inj this).symm
   grind
   grind
 exact(H AC h.E0 h.Jy λ_ h=>h).1;rcases I6 c with rfl|⟨c,S⟩
 grind
 rcases V q d with d|d;exact h.FQ x c i B j Q q d
 grind
 rcases I6 c with rfl|⟨c,_⟩;exact p y r;exact h.Ja x c y r;rcases I6 c with rfl|⟨c,_⟩;rw[hid]at A;exact k<|h.Km t F o A J K;exact h.Km x c o A J K;let⟨y,r,v⟩:=(h.Dn n o g).2 w W
 grind[N4]
 rcases I6 c with rfl|⟨c,_⟩;exact absurd v C;exact h.H8 x c v O
theorem KI.SO(h:KI m M AC s){t}(f:Af AC t.id=sM t)(b:t.Aw≠1):∀n o,Am s n=sM o->∀w∈o.var.q,w.id≠t.id:=λn o a w c e=>by
 let⟨y,g,d,_⟩:=(h.Dn n o a).2 w c
 grind
theorem Sb(l){t u}(h:u.id=t.id):A1 (A1 l t) u=A1 l u:=by unfold A1;ext;grind
theorem RD{l}{t u y:AL}(a:Af l t.id=sM y)(h:u.id=t.id):Af (A1 l u) u.id=sM u:=by grind[N4]
def Gi(l:AA AL)(w:Nm×AA AW):AA AL:=match Af l w.1 with|some t=>A1 l (DX t w.2)|none=>l
def Jt(l:AA AL)(k:Call):AA AL:=k.e.BY.foldl Gi<|k.e.BU.foldl CC<|A1 l k.t
structure CI(m:AT)(M:AH->Prop)(AC:AA AL)(A:AL)(k:Call):Prop where
 ki:KI m M (A1 AC k.t) k.s
 is:Af AC A.id=sM A
 id:k.t.id=A.id
 EI:k.t.AI=A.AI
 st:k.t.Aw=0
 on:∀s∈A.AI,GQ s A.c k.t.c
 hid:fl A.g.Ad m=fF->fl k.t.g.Ad m=fF
structure FI(m:AT)(M:AH->Prop)(AC:AA AL)(A:AL)(k:Call):Prop where
 ki:KI m M (Jt AC k) k.s
 id:k.t.id=A.id
 EI:k.t.AI.take (lN A.AI)=A.AI
 cut:∀s∈A.AI,Dp k.t.c s=Dp A.c s
 hid:fl A.g.Ad m=fF->Cx k.t m (lN A.AI)=fF
variable{A:AL}{k:Call}
def CI.th(h:CI m M AC A k):Af (A1 AC k.t) k.t.id=sM k.t:=RD h.is h.id
def CI.ti(h:CI m M AC A k):TI m (DC m k.s) M k.t:=h.ki.of h.th
def FI.of(h:CI m M AC A k)(he:k.e.BY=[])(a:k.e.BU=[]):FI m M AC A k where
 ki:=by unfold Jt;rw[he,a];exact h.ki
 id:=h.id
 EI:=by rw[h.EI];exact FN
 cut:=λs hs=>(h.on s hs).eq
 hid:=λq=>by unfold Cx;rw[<-h.EI,Ik];exact h.hid q
def CI.HW(h:CI m M AC A k){u}(hT:YI m M (A1 AC k.t) k.s k.t u)(c:u.Aw=0)(b:∀s∈A.AI,GQ s k.t.c u.c)(a:fl k.t.g.Ad m=fF->fl u.g.Ad m=fF):CI m M AC A {k with t:=u} where
 ki:=by have:=h.ki.HW h.th hT;rwa [Sb AC hT.id]at this
 is:=h.is
 id:=hT.id.trans h.id
 EI:=hT.EI.trans h.EI
 st:=c
 on:=λs hs=>(h.on s hs).trans<|b s hs
 hid:=λq=>a<|h.hid q
def CI.core(h:CI m M AC A k){d}(a:∀s∈A.AI,GQ s k.t.c d)(e:FP (DC m k.s) M d):CI m M AC A {k with t:={k.t with c:=d}}:=
 h.HW (u:={k.t with c:=d})
  {id:=rfl,EI:=rfl,Bg:=rfl,A7:=Ag _,idle:=λh=>h,ti:={h.ti with at_:=λs b=>(a s<|by rwa[<-h.EI]).on.at_,JW:=λ_ s b=>(a s<|by rwa[<-h.EI]).on,mono:=⟨h.ti.mono.out⟩,cap:=h.ti.cap,A5:=h.ti.A5,FL:=e},A5:=λh=>h,Dn:=.inr ⟨rfl,rfl,rfl⟩,H8:=λq=>by rw[show k.t.Aw=0 from h.st]at q;cases q}
  h.st a λh=>h
theorem II{P c}(h:FP P M c){v}(b:P v):FP P M (Df c v):=
 ⟨h.fr,λx a=>by rcases Bc.1 a with a|a;exact h.st x a;grind,h.tr,h.tm⟩
def CI.push(h:CI m M AC A k){v}(b:DC m k.s v):CI m M AC A (k.push v):=
 h.core (λs a=>No (h.on s a).on v)<|II h.ti.FL b
structure RZ(m:AT)(g a:St):Prop where
 cap:fl a.Ad a.A5
 Ad:fl a.Ad m->fl g.Ad m
 A5:fl g.A5 m->fl a.A5 m
 Cj:A4 a.Ad=a.Ad/\A4 a.A5=a.A5
theorem AEP{t g i}(h:i<lN t.AI):EF {t with g:=g} i=EF t i:=by grind[EF]
theorem AIX{t g i}(h:i<lN t.AI):Hv {t with g:=g} i=Hv t i:=by grind[Hv]
theorem Yn(t):Hv t (lN t.AI)=t.g.A5:=by grind[Hv]
theorem AdF{P t}(h:TI m P M t){g}(d:RZ m t.g g):TI m P M {t with g:=g}:=by
 refine{h with mono:=⟨λi j c r b=> ?_⟩,cap:=λi f=> ?_,A5:=λi s p u=> ?_,Cj:=⟨d.Cj,h.Cj.2⟩};have l:j<=lN t.AI:=r;by_cases e:j=lN t.AI;subst e;by_cases a:i=lN t.AI;rwa[a];have n:fl g.Ad m:=by have:=Ik {t with g:=g};rw[Cx]at b;rwa [this]at b
 have:=h.mono.out i (lN t.AI) c (Ag _) (by rw[Cx];rw[Ik];exact d.Ad n);rw[Cx]at this⊢
 grind[AEP]
 rw[Cx]at b⊢;rw[AEP oG]at b⊢;exact h.mono.out i j c l b;by_cases e:i=lN t.AI;have o:=Ik {t with g:=g};have a:=Yn {t with g:=g};rw[e];rw[show({t with g:=g}:AL).AI.length=lN t.AI from rfl]at o a;rw[o,a];exact d.cap;rw[AEP (by have:i<=lN t.AI:=f;omega),AIX gR];exact h.cap i f;have q:i<lN t.AI:=(Ci.1 p).1;have:=h.A5 i s p u;by_cases e:i+1=lN t.AI;rw[e];rw[e,Yn]at this;exact(Dt (fl · m)<|Yn {t with g:=g}).trans<|d.A5 this;rwa[AIX oG]
def CI.Bp(h:CI m M AC A k){g}(a:RZ m k.t.g g):CI m M AC A (k.Bp g):=
 h.HW (u:={k.t with g:=g})
  {id:=rfl,EI:=rfl,Bg:=rfl,A7:=Ag _,idle:=λh=>h,ti:=AdF h.ti a,A5:=a.A5,Dn:=.inl<|KI.SO h.ki h.th<|by rw[h.st];decide,H8:=λq=>by rw[show k.t.Aw=0 from h.st]at q;cases q}
  h.st (λs b=>GQ.refl (h.on s b).on) λq=>by
   cases e:fl g.Ad m with
   |false=>rfl
   |true=>rw[a.Ad e]at q;cases q
theorem Mf{t u n}(h:GI t=sM (u,n)):u= {t with A7:=t.A7+1,Ao:=t.Ao-1}/\child t.Bg t.A7=sM n/\1<=t.Ao:=by grind[GI,child]
def CI.Ao(h:CI m M AC A k){u A7 Ao}(c:u= {k.t with A7:=A7,Ao:=Ao})(a:k.t.A7<=A7):CI m M AC A {k with t:=u}:=by
 subst c;exact h.HW (u:={k.t with A7:=A7,Ao:=Ao})
  {id:=rfl,EI:=rfl,Bg:=rfl,A7:=a,idle:=λh=>h,ti:={h.ti with mono:=⟨h.ti.mono.out⟩},A5:=λh=>h,Dn:=.inr ⟨rfl,rfl,rfl⟩,H8:=λq=>by rw[show k.t.Aw=0 from h.st]at q;cases q}
  h.st (λs b=>GQ.refl (h.on s b).on) λh=>h
theorem CI.name(h:CI m M AC A k){u n}(b:GI k.t=sM (u,n)):CI m M AC A {k with t:=u}/\Kh (A1 AC u) k.s n/\Am k.s n=nO:=by
 let⟨e,a,_⟩:=Mf b;have c:=h.Ao e<|Cv _;let⟨d,f⟩:=h.ki.new (u:=u) h.th (by rw[h.st];decide) a (by rw[e]) (by rw[e]) (by rw[e]) (by rw[e]) (by rw[e];show k.t.Aw≠2;rw[h.st];decide)
 grind[Sb]
theorem ALb{l t u s n}(h:Kh (A1 l t) s n){y}(i:Af l t.id=sM y)(hid:u.id=t.id)(r:Ak u=Ak t)(o:Fu u=Fu t):Kh (A1 l u) s n:=by
 have p:t∈A1 l t:=D2<|RD i rfl;have a:∀x∈A1 l u,∃y∈A1 l t,Ak x=Ak y/\Fu x=Fu y:=by grind[A1]
 refine⟨h.ok,λx d=> ?_,λq c g=>h.low q ?_ g,λx d j b=> ?_⟩;let⟨y,f,e,_⟩:=a x d;rw[e];exact h.Ak y f;rcases c with c|⟨x,d,c⟩;exact .inl c;let⟨y,f,e,_⟩:=a x d;exact .inr ⟨y,f,by rwa[<-e]⟩;let⟨y,f,_,e⟩:=a x d;rw[e]at b;exact h.FQ y f j b
def CI.AP8(h:CI m M AC A k){n}(hN:Kh (A1 AC k.t) k.s n)(a:Am k.s n=nO){o}(b:OI (DC m k.s) M o)(c:o.var.q=[]):CI m M AC A {k with s:=Cy k.s n o}/\Kh (A1 AC k.t) (Cy k.s n o) n/\Am (Cy k.s n o) n=sM o:=by refine⟨{h with ki:=h.ki.add hN.ok a hN.Ak hN.FQ b c},hN.add o,?_⟩;rw[I3<|YN hN.ok b a,Ac rfl]
theorem CI.AHE(h:CI m M AC A k){n:Nm}(hN:Kh (A1 AC k.t) k.s n)(f:Am k.s n=nO){o:Ob}(a:OI (DC m k.s) M o)(g:o.var.q=[]):CI m M AC A (OE k n o)/\Kh (A1 AC (OE k n o).t) (OE k n o).s n/\Am (OE k n o).s n=sM o:=by
 obtain⟨c,d,b⟩:=h.AP8 hN f a g
 have e:=c.push (v:=BZ o.kind n o.l) ⟨a.Cj,⟨a.kind.2,Pm hN.ok⟩,λ_ _=>⟨o,b,rfl,rfl⟩⟩
 exact⟨e,ALb d (by rw[h.id];exact h.is) rfl rfl rfl,b⟩
def LW{a b}:fl (A4 a) b=fl a b:=by rw[F0,IV,IV,AYw]
theorem R6{a b}:fl a (A4 b)=fl a b:=by rw[F0,IV,IV,AW6]
theorem SP(a):A4 (A4 a)=A4 a:=Aat a
theorem S0{g l}(h:Dh g l=0):fl g.Ad l/\fl l g.A5:=by grind[AeL]
def AN8{P n g c Ao}(b:CB n)(f:fl g.Ad g.A5)(hl:A4 g.Ad=g.Ad/\A4 g.A5=g.A5)(hc:FP P M c)(e:P AZ):TI m P M (Jw n g c Ao) where
 NO:=rfl
 HM:=λq d=>by rwa[A9.1 d]
 nest:=List.Pairwise.nil
 Ux:=Bm _
 idle:=λh=>by cases h
 over:=λ_=>rfl
 at_:=λs hs=>by cases hs
 JW:=λ_ s hs=>by cases hs
 mono:=⟨λi j a hj l=>by assumption⟩
 cap:=λi hi=>by assumption
 A5:=λi s hs=>by simp[Jw]at hs
 Cj:=⟨hl,nA⟩
 FL:=hc
 val:=e
theorem ACv{P}:FP P M ⟨[],[],[]⟩:=by constructor<;>simp_all
theorem Vy{P c u}(h:FP P M c){i d a b}(e:Gc c i d a b=sM u)(n:∀v∈a,P v)(l:P<|BH 0)(o:M b):FP P M u:=by
 rw[Gc]at e;split at e;cases e;cases e;refine⟨λf g=> ?_,h.st,λx j=> ?_,h.tm⟩;rcases Bc.1 g with g|g;exact h.fr f g
 grind
 have:=h.tr x j
 grind
def CI.BU(h:CI m M AC A k)(he:k.e=A8){n}(hN:Kh (A1 AC k.t) k.s n){u}(hid:u.id=n)(hp:u.Bg=n)(b:u.AI=[])(c:u.Aw=0)(d:TI m (DC m k.s) M u)
 (a:∀o,Am k.s n=sM o->o.kind=6->fl o.l m->fl u.g.A5 m):FI m M AC A {k with e:={k.e with BU:=k.e.BU++[u]}} where
 ki:=by unfold Jt;rw[he];exact h.ki.BU hN hid hp b c d a
 id:=h.id
 EI:=by rw[h.EI];exact FN
 cut:=λs hs=>(h.on s hs).eq
 hid:=λq=>by unfold Cx;rw[<-h.EI,Ik];exact h.hid q
theorem CI.waits(h:CI m M AC A k){n}(c:fl k.t.g.Ad m->∃o,Am k.s n=sM o/\fl o.l m):KI m M (A1 AC (FG k n).t) k.s:=by
 have hT:YI m M (A1 AC k.t) k.s k.t (FG k n).t:=
  {id:=rfl,EI:=rfl,Bg:=rfl,A7:=Ag _,idle:=(λq=>by rw[h.st]at q;cases q),ti:={h.ti with Ux:=(by show 1<=4;decide),idle:=(λq=>by cases q),over:=(λq=>absurd q<|by show¬3<=1;decide),JW:=λ_ s b=>(h.on s<|by rwa[<-h.EI]).on,mono:=⟨h.ti.mono.out⟩},A5:=λh=>h,Dn:=.inl<|KI.SO h.ki h.th<|by rw[h.st];decide,H8:=λ_ a=>c a}
 have:=h.ki.HW h.th hT
 grind[FG,Sb]
def FI.mk'(h:CI m M AC A k){k'}(b:KI m M (Jt AC k') k'.s)(hid:k'.t.id=k.t.id)(a:k'.t.AI=k.t.AI)(c:k'.t.g=k.t.g)(hc:k'.t.c=k.t.c):FI m M AC A k' where
 ki:=b
 id:=hid.trans h.id
 EI:=by rw[a,h.EI];exact FN
 cut:=λs hs=>by rw[hc];exact(h.on s hs).eq
 hid:=λq=>by
  unfold Cx;have e:lN A.AI=lN k'.t.AI:=by rw[a,h.EI]
  rw[e,Ik,c];exact h.hid q
def CI.AF5(h:CI m M AC A k)(a:k.e=A8){n}(b:fl k.t.g.Ad m->∃o,Am k.s n=sM o/\fl o.l m):FI m M AC A (FG k n):=
 FI.mk' h (by rw[Jt];rw[show(FG k n).e=A8 from a];exact h.waits b) rfl rfl rfl rfl
theorem HV{k x o}(h:EY k x=sM o):Am k.s x.name=sM o/\o.kind=x.kind/\o.l=x.l:=by grind[EY]
def CI.AbZ(h:CI m M AC A k){n o}(a:Am k.s n=sM o){v}(b:DC m k.s v):CI m M AC A {k with s:=Cn k.s n {o with v:=v}}:=
 {h with ki:=h.ki.set a rfl rfl {h.ki.Ep n o a with val:=b}<|h.ki.Dn n o a}
theorem Sr{l u id}(h:id≠u.id):Af (A1 l u) id=Af l id:=by rw[N4,AY h]
theorem CI.AMT(h:CI m M AC A k)(I:k.e=A8){n o}(f:Am k.s n=sM o)(B:k.t.g.Ad=o.l){w}(C:w.id=k.t.id)(J:DC m k.s w.v){x}(r:x.q=o.var.q++[w])(u:x.v=o.var.v):
 FI m M AC A (FG {k with s:=Cn k.s n {o with var:=x}} n):=by
 refine FI.mk' h ?_ rfl rfl rfl rfl;have D:=h.waits (n:=n) λF=>⟨o,f,by rwa[<-B]⟩;have p:Af (A1 AC (FG k n).t) k.t.id=sM (FG k n).t:=RD (u:=(FG k n).t) (t:=A) h.is h.id;have d:=h.ki.Ep n o f;have i:=KI.SO h.ki h.th (by rw[h.st];decide) n o f;have j:∀y∈x.q,DC m k.s y.v:=λy c=>by
  rw[r]at c;rcases Bc.1 c with c|c;exact d.Dn y c
  grind
 have l:(x.q.map (·.id)).Nodup:=by rw[r,E3,Gl];refine⟨(h.ki.Dn n o f).1,sP,λa E b v=> ?_⟩;simp[E4,Mw,A9]at v;subst v;rintro rfl;let⟨y,c,e⟩:=BI.1 E;exact i y c<|e.trans C
 have g:∀y∈x.q,∃t,Af (A1 AC (FG k n).t) y.id=sM t/\t.Aw=1/\t.on=n/\t.g.Ad=o.l:=λy c=>by
  rw[r]at c;rcases Bc.1 c with c|c;have G:=i y c;let⟨z,K,q⟩:=(h.ki.Dn n o f).2 y c
  grind[FG,Sr]
  rw[A9.1 c,C];exact⟨_,p,rfl,rfl,B⟩
 have H:=D.set (o:={o with var:=x}) f rfl rfl {d with Lr:=(by show DC m k.s x.v;rw[u];exact d.Lr),Dn:=j} ⟨l,g⟩
 grind[Jt,FG,Cn,A8]
def ALs{c s}(h:On c s)(l):On {c with stack:=c.stack++l} s:=⟨h.fr,h.bs,by simp[CK];have:=h.ht;omega,h.tl,h.tr,h.tp⟩
theorem AST{c s}(h:s.Cg<=lN c.stack)(l):Dp {c with stack:=c.stack++l} s=Dp c s:=by grind[Dp,Ee]
theorem KI.wake{s}(h:KI m M AC s){id t}(c:Af AC id=sM t)(b:t.Aw=1)(g:∀n o,Am s n=sM o->∀w∈o.var.q,w.id≠id){l}(f:∀v∈l,DC m s v):KI m M (Gi AC (id,l)) s:=by
 have hid:=E2 c;subst hid;have a:=h.of c;have e:Gi AC (t.id,l)=A1 AC (DX t l):=by rw[Gi];simp[c]
 rw[e];refine h.HW c {id:=rfl,EI:=rfl,Bg:=rfl,A7:=Ag _,idle:=(λq=>by grind),ti:={a with Ux:=(by show 0<=4;decide),idle:=(λq=>by cases q),over:=(λq=>absurd q<|by show¬3<=0;decide),at_:=(λs d=>(ALs (a.JW (by rw[b];decide) s d) l).at_),JW:=(λ_ s d=>ALs (a.JW (by rw[b];decide) s d) l),mono:=⟨a.mono.out⟩,FL:=⟨a.FL.fr,(λv i=>(Bc.1 i).elim (a.FL.st v)<|f v),a.FL.tr,a.FL.tm⟩},A5:=(λh=>h),Dn:=.inl g,H8:=(λq=>by cases q)}
theorem ALf{l:List Wt}(h:(l.map (·.id)).Nodup){i}{w:Wt}(hi:l[i]? =some w):∀y∈l.eraseIdx i,y.id≠w.id:=by grind[List.getElem?_eq_some_iff,List.mem_eraseIdx_iff_getElem?,List.pairwise_iff_getElem,Nat.lt_trichotomy]
theorem CI.AOq(h:CI m M AC A k)(he:k.e=A8){n o}(f:Am k.s n=some o){i w}(hi:o.var.q[i]? =some w){x}(J:x.q=o.var.q.eraseIdx i)(B:DC m k.s x.v){l}(hl:∀v∈l,DC m k.s v){t'}
 (hC:CI m M AC A {k with t:=t'}):FI m M AC A (EO {k with s:=Cn k.s n {o with var:=x},t:=t'} w.id l):=by
 have c:=h.ki.Ep n o f;obtain⟨C,b⟩:=hC.ki.Dn n o f;have u:w∈o.var.q:=List.mem_of_getElem? hi;obtain⟨H,a,p,D,_⟩:=b w u;have d:=hC.ki.set (o:={o with var:=x}) f rfl rfl {c with Lr:=B,Dn:=λy g=>c.Dn y (by grind[List.mem_of_mem_eraseIdx])} (by grind[List.eraseIdx_sublist]);have j:w.id≠[]:=by have h1:=(hC.ki.of a).HM H.id List.mem_cons_self;rw[E2 a]at h1;intro e;rw[e]at h1;revert h1;decide
 have r:EO {k with s:=Cn k.s n {o with var:=x},t:=t'} w.id l= {k with s:=Cn k.s n {o with var:=x},t:=t',e:={k.e with BY:=k.e.BY++[(w.id,l)]}}:=by rw[EO];rw[if_neg j]
 rw[r];refine FI.mk' hC ?_ rfl rfl rfl rfl;rw[Jt];rw[he];refine d.wake a p (λq y g z G e=> ?_) (λv F=>(hl v F).up (OD.set _ _ _));rw[ADj (o:={o with var:=x}) f rfl rfl]at g;split at g
 grind[ALf]
 rename_i E;obtain⟨K,h1,_,I,_⟩:=(hC.ki.Dn q y g).2 z G
 grind
theorem CI.scope(h:CI m M AC A k)(he:k.e=A8){fn S:Nat}{arg N l}{O Ao:Int}{ad:Nat}{u}(F:Js k.t fn S arg N l O Ao ad=.inl u)(ha:DC m k.s arg)(hm:M N):FI m M AC A {k with t:=u}:=by
 unfold Js at F;split at F;cases F;split at F;cases F;split at F;cases F;rename_i hw;have hw:=S0<|O2.1 hw;split at F;cases F;rename_i o A7 ab;split at F;cases F;split at F;cases F;rename_i c X;cases F;let⟨P,hN,ah⟩:=h.name ab;let⟨e1,_,_⟩:=Mf ab;have y:o.id=k.t.id/\o.AI=k.t.AI/\o.c=k.t.c/\o.g=k.t.g/\o.Aw=0/\o.Bg=k.t.Bg:=by rw[e1];exact⟨rfl,rfl,rfl,rfl,h.st,rfl⟩
 have D:TI m (DC m k.s) M o:=P.ti;generalize hs:(⟨A7,A4 l,ad+O.toNat,lN k.t.c.AG,lN k.t.c.stack,lN k.t.c.AP,k.t.g,k.t.Bg,o.A7,o.Ao-Ao.toNat⟩:Dc)=sc;have ag:lN c.AG=lN k.t.c.AG+1/\c.stack=k.t.c.stack/\c.AP=k.t.c.AP/\c.AG.drop (lN k.t.c.AG)=[⟨fn,0,lN k.t.c.stack,N,[arg]++lP (min S 16) (BH 0)⟩]:=by unfold Gc at X;split at X;cases X;cases X;simp
 have I:∀s∈k.t.AI,GQ s k.t.c c:=λs d=>AEA (h.on s<|by rw[<-h.EI];exact d).on X;have am:On c sc:=by
  subst hs;refine⟨by grind,λf hf=> ?_,by grind,by grind,λx L=> ?_,λx L=> ?_⟩
  grind
  grind
  have ac:x∈c.AP.take (lN k.t.c.AP):=L;rw[ag.2.2.1,FN]at ac;exact h.ti.FL.tr x ac
 have Z:FP (DC m k.s) M c:=Vy h.ti.FL X (λv hv=>by grind) (H7 0) hm;have al:∀s∈o.AI++[sc],On c s:=λs d=>by
  rcases Bc.1 d with d|d;exact(I s gR).on
  grind
 have n:sc.l=A4 l/\sc.g=k.t.g/\sc.name=A7/\sc.Bg=k.t.Bg/\sc.A7=o.A7/\sc.AG=lN k.t.c.AG/\sc.Cg=lN k.t.c.stack/\sc.AP=lN k.t.c.AP:=by subst hs;exact⟨rfl,rfl,rfl,rfl,rfl,rfl,rfl,rfl⟩
 generalize T:({o with AI:=k.t.AI++[sc],c:=c,g:=⟨o.g.Ad,sc.l⟩,Bg:=A7,A7:=0,Ao:=Ao.toNat}:AL)=u;have r:u.AI=o.AI++[sc]:=by rw[<-T,y.2.1]
 have Y:lN u.AI=lN o.AI+1:=by rw[r];simp
 have z:u.id=o.id:=by rw[<-T]
 have V:u.g=⟨k.t.g.Ad,sc.l⟩:=by rw[<-T,y.2.2.2.1]
 have U:u.c=c:=by rw[<-T]
 have H:u.Aw=0:=by rw[<-T];exact y.2.2.2.2.1
 have G:u.Bg=A7/\u.A7=0:=by rw[<-T];exact⟨rfl,rfl⟩
 have B:Ak u=Ak o++[A7]:=by unfold Ak;rw[z,r,E3];simp[n.2.2.1]
 have ak:Fu u=Fu o++[(A7,0)]:=by unfold Fu;rw[H,y.2.2.2.2.1,r,G.1,G.2];simp[n.2.2.2.1,n.2.2.2.2.1,y.2.2.2.2.2]
 have K:Af (A1 AC o) o.id=sM o:=P.th;have E:=D2 K;have R:∀i,i<=lN o.AI->EF u i=EF o i:=by grind[EF]
 have Q:∀i,i<=lN o.AI->Hv u i=Hv o i:=by grind[Hv]
 have aj:EF u (lN u.AI)=k.t.g.Ad:=by rw[Ik,V]
 have ae:Hv u (lN u.AI)=sc.l:=by rw[Yn,V]
 have af:TI m (DC m k.s) M u:={
  NO:=by rw[r,G.1,z,E3,E3];have:=D.NO;grind
  HM:=λq p=>by rw[B]at p;rcases Bc.1 p with p|p;exact D.HM q p;rw[A9.1 p];exact hN.ok
  nest:=by rw[r,ABm];refine⟨D.nest,sP,λa ha b hb=> ?_⟩;rw[A9.1 hb,n.2.2.2.2.2.1,n.2.2.2.2.2.2.1,n.2.2.2.2.2.2.2];have:=(h.on a<|by rw[<-h.EI,<-y.2.1];exact ha).on;exact⟨this.fr,this.ht,this.tl⟩
  Ux:=by rw[H];decide
  idle:=λq=>by grind
  over:=λq=>by grind
  at_:=λs d=>by rw[r]at d;rw[U];exact(al s d).at_
  JW:=by grind
  mono:=⟨λi j ao W hv=>by
   rw[Y]at W;have an:Cx o m (min j<|lN o.AI):=by
    by_cases e:j=lN o.AI+1;simp_all[Cx,Nat.min_eq_right,oG,Ik]
    grind[Cx]
   by_cases e:i=lN o.AI+1
   grind
   have:=D.mono.out i (min j<|lN o.AI) oG oG an
   grind[Cx]⟩
  cap:=λi hi=>by
   rw[Y]at hi;by_cases e:i=lN o.AI+1
   grind[R6]
   rw[R i oG,Q i oG];exact D.cap i oG
  A5:=λi s d hl=>by
   rw[r]at d;by_cases e:i<lN o.AI;rw[Gj e]at d;rw[Q _ oG];exact D.A5 i s d hl
   grind
  Cj:=by rw[V];refine⟨⟨h.ti.Cj.1.1,by grind[SP]⟩,λs d=> ?_⟩;rw[r]at d;rcases Bc.1 d with d|d;exact D.Cj.2 s d;rw[A9.1 d,n.1,n.2.1,SP];exact⟨rfl,h.ti.Cj.1⟩
  FL:=by rw[U];exact Z
  val:=by rw[<-T];exact D.val}
 have ai:KI m M (A1 (A1 AC o) u) k.s:=by
  refine P.ki.AI K z af ?_ (λq p=> ?_) (λpm w j W q p=> ?_) (λx L ap pm w j W q p=> ?_) (λx L=> ?_) (λq=> ?_) (by rw[H];decide)<|KI.SO P.ki K gR;rw[B,Gl];refine⟨AAR P.ki.Jy E,sP,λa ha b hb=> ?_⟩;rw[A9.1 hb];rintro rfl;exact hN.Ak o E ha;rw[B]at p;rcases Bc.1 p with p|p;exact .inl p;rw[A9.1 p];exact .inr ⟨ah,hN.Ak⟩;have C:MK (A1 AC o) k.s q\/q=A7:=by
   rcases p with p|p;exact .inl p;rw[B]at p;rcases Bc.1 p with p|p;exact .inl<|.inr ⟨o,E,p⟩
   grind
  rw[ak]at w;rcases Bc.1 w with w|w;rcases C with C|C;exact P.ki.FQ o E pm w j W q C;rw[C];exact hN.FQ o E pm w j W;rw[A9.1 w];intro J;have h2:A7<+:q:=(List.prefix_append A7 [j]).trans J;have h3:q=A7:=C.elim (λC=>hN.low q C h2) λh=>h;rw[h3]at J;have:=J.length_le;simp at this;omega;rw[B]at p;rcases Bc.1 p with p|p;exact P.ki.FQ x L pm w j W q<|.inr ⟨o,E,p⟩;rw[A9.1 p];exact hN.FQ x L pm w j W;rw[r]at L;rcases Bc.1 L with L|L;exact P.ki.Ja o E x L
  grind
  grind
 rw[Sb AC z]at ai;have aa:lN A.AI=lN o.AI:=by rw[y.2.1,h.EI]
 refine⟨?_,z.trans<|y.1.trans h.id,?_,λs d=> ?_,λq=> ?_⟩
 grind[Jt,A8]
 show u.AI.take (lN A.AI)=A.AI;rw[r,aa,O5,y.2.1,h.EI];rfl;show Dp u.c s=Dp A.c s;rw[U];exact((h.on s d).trans<|I s<|by rw[h.EI];exact d).eq;show Cx u m (lN A.AI)=fF;unfold Cx;rw[aa,R _<|Ag _,Ik,y.2.2.2.1];exact h.hid q
theorem ADa{P t}(h:TI m P M t):∀s∈t.AI,s.AG<=(CV t).1/\s.AP<=(CV t).2:=by
 intro s c;rw[CV];cases e:t.AI.getLast? with
 |none=>grind
 |some x=>
  simp only;obtain⟨i,a,rfl⟩:=P9.1 c;rw[P8]at e;obtain⟨b,rfl⟩:=Ci.1 e;by_cases q:i=lN t.AI-1
  grind
  have:=Lx.1 h.nest i (lN t.AI-1) a b oG
  grind
theorem ASA{P c}(h:FP P M c){f s t}(e:∀x∈c.AP.take t,x.AG<=f):FP P M (Ee c f s t) where
 fr:=λx b=>h.fr x<|Fg b
 st:=λv d=>h.st v<|Fg d
 tr:=λx a=>by
  have h1:=e x a;have g:=h.tr x<|Fg a
  grind[Ee]
 tm:=h.tm.sublist<|Xu _ _
def AR8{P c}(h:FP P M c){l i e}(b:∀f∈l,f∈c.AG):∀f∈KC l i e,M f.AR/\∀v∈f.Ai,P v:=by intro f a;rcases mem_modify a with a|⟨y,d,rfl⟩;exact h.fr f<|b f a;exact h.fr y<|b y d
theorem ASB{P c u}(h:FP P M c)(q:∀n,P<|BH n){b:Int}{d:Nat}(a:NU c b d=sM u):FP P M u:=by
 rw[NU]at a;cases e:c.AP.getLast? with
 |none=>grind
 |some t=>
  rw[e]at a;simp only at a;split at a;cases a;split at a;cases a;rename_i r;cases a;refine⟨AR8 h λf j=>Fg j,λv g=> ?_,λx p=> ?_,h.tm.sublist<|Xu _ _⟩;rcases Bc.1 g with g|g;exact h.st v<|Fg g
  grind
  simp[KC,N8,Cu];have s:x.AG<=t.AG:=by rw[P8]at e;obtain⟨o,rfl⟩:=Ci.1 e;obtain⟨i,l,rfl⟩:=P9.1 p;rw[Cu]at l;rw[VN];exact Lx.1 h.tm i (lN c.AP-1) oG o oG
  omega
theorem AIa{P c}(h:FP P M c)(d:∀n,P<|BH n){a:Int}{b:Nat}:FP P M (FF c a b).1:=by grind[FF,ASB]
theorem XA(c)(a:Int)(b:Nat):(FF c a b).2=.Iu\/((FF c a b).2=.failed (BH a)/\(FF c a b).1=c):=by grind[FF]
theorem CI.end_(h:CI m M AC A k){c}(z: ∀s∈A.AI,Dp c s=Dp A.c s)(r: ∀s∈A.AI,At c s)(hc:FP (DC m k.s) M c)(he:k.e=A8){v}(B:DC m k.s v)(ex:Bool):FI m M AC A (E7 {k with t:={k.t with c:=c}} v ex):=by
 generalize hu:Fq {k.t with c:=c} v ex=u;have hid:u.id=k.t.id:=by rw[<-hu];rfl
 have a:u.AI=k.t.AI:=by rw[<-hu];rfl
 have C:u.g=k.t.g:=by rw[<-hu];rfl
 have l:u.c=c:=by rw[<-hu];rfl
 have y:u.Aw=if 0<k.t.AI.length then 2 else if ex then 4 else 3:=by rw[<-hu];rfl
 have n:2<=u.Aw/\u.Aw<=4/\(u.Aw=2->0<k.t.AI.length)/\(3<=u.Aw->k.t.AI.length=0):=by rw[y];split;exact⟨oG,oG,λ_=>by assumption,λh=>oG⟩;split;exact⟨oG,oG,λh=>oG,λ_=>oG⟩;exact⟨oG,oG,λh=>oG,λ_=>oG⟩
 have d:=h.ti;have e: ∀i,EF u i=EF k.t i:=λi=>by grind[EF]
 have f: ∀i,Hv u i=Hv k.t i:=λi=>by grind[Hv]
 have p:TI m (DC m k.s) M u:={
  NO:=by rw[a,hid];have:=d.NO;rwa[<-hu]
  HM:=λq G=>d.HM q (by grind[Ak])
  nest:=by rw[a];exact d.nest
  Ux:=n.2.1
  idle:=λq=>by grind
  over:=by grind
  at_:=λs hs=>by rw[l];exact r s (by rwa[<-h.EI,<-a])
  JW:=λq=>oG
  mono:=⟨λi j w hj g=>by rw[Cx]at g⊢;rw[e]at g⊢;exact d.mono.out i j w (by rwa[<-a]) g⟩
  cap:=λi hi=>by rw[e,f];exact d.cap i (by rwa[<-a])
  A5:=λi s hs hl=>by rw[f];exact d.A5 i s (by rwa[<-a]) hl
  Cj:=by rw[C,a];exact d.Cj
  FL:=by rwa[l]
  val:=by rw[<-hu];exact B}
 have hT:YI m M (A1 AC k.t) k.s k.t u:={id:=hid,EI:=a,Bg:=(by rw[<-hu];rfl),A7:=(by rw[<-hu];exact Nat.le_refl _),idle:=(λq=>by rw[h.st]at q;cases q),ti:=p,A5:=(by grind),Dn:=.inl (KI.SO h.ki h.th (by rw[h.st];decide)),H8:=(λq=>oG)};have b:=h.ki.HW h.th hT;rw[Sb AC hid]at b;have key: ∀k':Call,k'.t=u->KI m M (A1 AC u) k'.s->k'.e.BU=[]->k'.e.BY=[]->FI m M AC A k':=λk' h1 D E F=>
  {
   ki:=by grind[Jt]
   id:=by rw[h1];exact hid.trans h.id
   EI:=by rw[h1,a,h.EI];exact List.take_length
   cut:=λs hs=>by grind
   hid:=λq=>by rw[h1];rw[Cx];rw[e,<-h.EI,Ik];exact h.hid q}
 rw[E7];rw[hu];dsimp only;split;exact key _ rfl b (by show k.e.BU=[];rw[he];rfl) (by show k.e.BY=[];rw[he];rfl)
 .refine key _ rfl ?_ (by show k.e.BU=[];rw[he];rfl) (by show k.e.BY=[];rw[he];rfl);show KI m M (A1 AC u) (match Am k.s u.id with|some o=>if o.kind=6 then Cn k.s u.id {o with v:=v,ex:=ex,done:=tT}else k.s|none=>k.s);split;rename_i o x;split;exact b.set x rfl rfl {b.Ep _ o x with val:=B} (b.Dn _ o x);exact b;exact b
def CI.raise(h:CI m M AC A k)(g:CI m M AC A ⟨k.s,A,A8⟩)(f:k.e=A8){code:Int}{AP:Nat}(l:∀s∈A.AI,s.AP<=AP):FI m M AC A (EH k A.c code AP):=by have i:FP (DC m k.s) M (FF A.c code AP).1:=AIa g.ti.FL λn=>H7 n;have d:∀s∈A.AI,GQ s A.c (FF A.c code AP).1:=λs a=>AKA (g.on s a).on<|l s a;have b:CI m M AC A {k with t:={k.t with c:=(FF A.c code AP).1}}:=h.core (λs a=>⟨(d s a).on,(d s a).eq.trans (h.on s a).eq.symm⟩) i;rw[EH];rcases XA A.c code AP with e|⟨e,j⟩;generalize FF A.c code AP=r at*;let⟨u,out⟩:=r;simp only at e;subst e;exact FI.of b (by show k.e.BY=[];rw[f];rfl) (by show k.e.BU=[];rw[f];rfl);generalize FF A.c code AP=r at*;let⟨u,out⟩:=r;simp only at e j;subst e;exact h.end_ (λs a=>(d s a).eq) (λs a=>(d s a).on.at_) i f (H7 _) tT
structure IQ(im:A6):Prop where
 kind:∀v∈im.DN,v.kind<=2
 Cj:∀v∈im.DN,A4 v.l=v.l
 nm:∀v∈im.DN,v.name=[]
def IQ.val{b}(h:IQ b){s v}(a:v∈b.DN):DC m s v:=⟨h.Cj v a,⟨Ch (h.kind v a) dC,by rw[h.nm v a];exact AAE⟩,λq=>absurd (h.kind v a) oG⟩
def Rr{P c}(h:FP P M c){f}(b:∀x,(M x.AR/\∀v∈x.Ai,P v)->M (f x).AR/\∀v∈(f x).Ai,P v):FP P M (D4 c f) where
 fr:=λx a=>by rcases mem_modify a with a|⟨y,d,rfl⟩;exact h.fr x a;exact b y<|h.fr y d
 st:=h.st
 tr:=λx a=>by simp[D4,N8];exact h.tr x a
 tm:=h.tm
def ACw{P c}(h:FP P M c)(n):FP P M (FR c n):=⟨h.fr,λv a=>h.st v<|Fg a,h.tr,h.tm⟩
def W8{P c}(h:FP P M c)(n):∀v∈Ct c n,P v:=λv a=>h.st v<|Mx a
def OS{P:AW->Prop}{l:AA AW}(h:∀v∈l,P v)(a:P AZ)(i:Nat):P (l.getD i AZ):=by
 rw[DK];cases e:l[i]? with
 |none=>exact a
 |some v=>exact h v<|De e
def AR6{P a c}(h:FP P M c)(o):FP P M (Fl a c o):=Rr (ACw h _) λ_ h=>h
def AA1{c:Ay}{f}(h:c.top=sM f):f∈c.AG:=ABj h
def AIb{P c}(h:FP P M c):FP P M (Ei c) where
 fr:=λx a=>h.fr x<|Fg a
 st:=λv b=>h.st v<|Fg b
 tr:=λx a=>by have:=(Ho.1 a).2;simp[ER]at this;simp[Ei,Cu];omega
 tm:=h.tm.sublist S7
def AR7{s B}(w:IQ B){c u:Ay}{o l j}(C:∀a b,M a->M (a&&&b))(h:FP (DC m s) M c)(y:∀v∈l,DC m s v)(p:0<lN c.AG)(d:HU B c o l j=.inl u):FP (DC m s) M u:=by
 have r:=OS y Ia 0;have F:=OS y Ia 1;have q:∃f,c.top=sM f:=by
  unfold Ay.top;cases e:c.AG.getLast? with
  |none=>rw[S8]at e;rw[e]at p;cases p
  |some f=>exact⟨f,rfl⟩
 obtain⟨f,t⟩:=q;have n:=h.fr f<|AA1 t;unfold HU at d;dsimp only at d;split at d;cases d;exact II h<|OS (λv i=>w.val i) Ia _;cases d;rw[t];exact II h<|OS n.2 Ia _;cases d;refine Rr h λx g=>⟨g.1,λv i=> ?_⟩;rcases ABl i with i|i;exact g.2 v i;rw[i];exact r;cases d;exact h;cases d;exact II (II h r) r;cases d;exact II (II h F) r;cases d;exact II h<|AF3 _;split at d;split at d;cases d;exact II h<|H7 _;cases d;cases d;split at d;split at d;cases d;exact II h<|H7 _;cases d;cases d;split at d;split at d;cases d;exact II h<|H7 _;cases d;cases d;split at d;split at d;cases d;exact II h<|H7 _;cases d;cases d;split at d;split at d;cases d;exact II h<|H7 _;cases d;cases d;split at d;split at d;cases d;exact II h<|H7 _;cases d;cases d;split at d;cases d;exact II h<|AF3 _;cases d;cases d;exact Rr h λx g=>g;split at d;split at d;cases d;exact Rr h λx g=>g;cases d;exact h;cases d;split at d;rename_i z;cases d;rw[t]at z;exact Vy h z y (H7 0) n.1;cases d;split at d<;>cases d;cases d;refine⟨h.fr,h.st,λx g=> ?_,?_⟩;rcases Bc.1 g with g|g;exact h.tr x g;rw[A9.1 g];exact Ag _;rw[ABm];refine⟨h.tm,sP,λa D b E=> ?_⟩;rw[A9.1 E];exact h.tr a D;cases d;split;exact⟨h.fr,h.st,λx g=>h.tr x<|Fg g,h.tm.sublist<|Xu _ _⟩;exact h;split at d;cases d;exact II h<|Xf<|AMq _ _;cases d;split at d;cases d;exact II h<|Xf<|Aas _ _;cases d;split at d;cases d;exact II h<|AF3 _;cases d;split at d;cases d;exact II h<|Xf r.Cj;cases d;cases d;exact Rr h λx g=>⟨C _ _ g.1,g.2⟩;cases d;exact II h<|H7 _
 cases d;exact h
def ADZ{b}{c:Ay}{o}(h:JM b c=sM o):0<lN c.AG:=by rw[JM]at h;split at h;cases h;rename_i f a;exact VO<|AA1 a
def AR9{s g}(j:IQ g){c AG AP}(l:∀a b,M a->M (a&&&b))(h:FP (DC m s) M c):FP (DC m s) M (Es g c AG AP).1/\∀v,((Es g c AG AP).2=.ended v\/(Es g c AG AP).2=.failed v)->DC m s v:=by
 rw[Es];split;exact⟨h,λv d=>by rcases d with d|d<;>cases d;exact H7 _⟩;rename_i o p;split;exact⟨h,λv d=>by rcases d with d|d<;>cases d⟩;split;dsimp only;split;exact⟨AIb h,λv d=>by rcases d with d|d;cases d;exact OS (W8 h 1) Ia 0;cases d⟩
 exact⟨II (AIb h)<|OS (W8 h 1) Ia 0,λv d=>by rcases d with d|d<;>cases d⟩;split;rename_i u q;refine⟨AR7 j l (AR6 h o) (W8 h _) ?_ q,λv d=>by rcases d with d|d<;>cases d⟩;have:=ADZ p;simpa[Fl,D4,FR]using this;rename_i f i;refine⟨AIa h λn=>H7 n,λv d=> ?_⟩;rcases XA c f AP with e|⟨e,_⟩;rw[e]at d;rcases d with d|d<;>cases d;rw[e]at d;rcases d with d|d<;>cases d;exact H7 _
def Hr(m:AT)(p:AH):Prop:=∀a b,fb a b p->fl b m->fl a m
def Cm(m:AT)(M:AH->Prop)(AC:AA AL)(A:AL)(s:Az)(r:CR):Prop:=
 (r.2=nO/\FI m M AC A r.1)\/(∃a,r.2=sM a/\CI m M AC A r.1/\r.1.s=s/\r.1.e=A8)
def Cm.ex(h:CI m M AC A k)(b:k.e=A8){s}(c:k.s=s)(a:Int):Cm m M AC A s (k,sM a):=.inr ⟨a,rfl,h,c,b⟩
def Cm.ok{s}(h:FI m M AC A k):Cm m M AC A s (k,nO):=.inl ⟨rfl,h⟩
def Cm.done(h:CI m M AC A k)(a:k.e=A8){s}:Cm m M AC A s (k,nO):=.inl ⟨rfl,FI.of h (by rw[a];rfl)<|by rw[a];rfl⟩
def AUw{g}(b:A4 g.A5=g.A5){l}(h:(Et g l).2=0):RZ m g (Et g l).1:=by unfold Et at*;split at h;rename_i a;rw[Ac a];exact⟨a,λq=>by rw[AJN,CJ]at q;exact q.1,λq=>q,AMq _ _,b⟩;cases h
def AUs{g}(c:A4 g.A5=g.A5){l}(h:Dh g l=0):RZ m g ⟨A4 l,g.A5⟩:=by let⟨a,b⟩:=S0 h;exact⟨by rwa[LW],λq=>Y9 a<|by rwa [LW]at q,λq=>q,SP l,c⟩
def AUv{g}(c:A4 g.Ad=g.Ad){l}(h:(KW g l).2=0):RZ m g (KW g l).1:=by unfold KW at*;split at h;rename_i a;split at h;rename_i b;rw[Ac a,Ac b];exact⟨by rwa[R6],λq=>q,λq=>by rw[LW];exact Y9 a q,c,SP l⟩;cases h;cases h
def AUt{g}(d:A4 g.A5=g.A5){l p}(h:(Ih g l p).2.1=0)(c:(Ih g l p).2.2->Hr m p):RZ m g (Ih g l p).1:=by
 unfold Ih at*;split at h;rename_i a;split at h;rename_i b;rw[Ac a,Ac b]at c⊢;refine⟨by rwa[LW],λq=> ?_,λq=>q,SP l,d⟩;rw[LW]at q;cases e:fl g.Ad l with
 |true=>exact Y9 e q
 |false=>exact c (by simp[e]) _ _ a q
 cases h;cases h
def AUu{g}(d:A4 g.Ad=g.Ad){l p}(h:(Il g l p).2.1=0)(c:(Il g l p).2.2->Hr m p):RZ m g (Il g l p).1:=by
 unfold Il at*;split at h;rename_i a;split at h;rename_i b;rw[Ac a,Ac b]at c⊢;refine⟨by rwa[R6],λq=>q,λq=> ?_,d,SP l⟩;rw[LW];cases e:fl l g.A5 with
 |true=>exact Y9 e q
 |false=>exact c (by simp[e]) _ _ a q
 cases h;cases h
def AMi(h:CI m M AC A k)(b:k.e=A8){l f}(c:CI m M AC A (k.Bp (Et k.t.g l).1)->fl l m\/fl (Et k.t.g l).1.Ad m=fF->Cm m M AC A k.s (f<|k.Bp (Et k.t.g l).1)):Cm m M AC A k.s (G1 k l f):=by
 rw[G1];split;exact Cm.ex h b rfl _;rename_i a;have a:=O2.1 a;refine c (h.Bp<|AUw h.ti.Cj.1.2 a) ?_;rw[Et]at a⊢;split at a;rename_i d;rw[Ac d];cases e:fl (jn k.t.g.Ad l) m with
 |false=>exact .inr rfl
 |true=>rw[AJN,CJ]at e;exact .inl e.2
 cases a
def AMh(h:CI m M AC A k)(a:k.e=A8){l f}(b:CI m M AC A (k.Bp ⟨A4 l,k.t.g.A5⟩)->Cm m M AC A k.s (f<|k.Bp ⟨A4 l,k.t.g.A5⟩)):Cm m M AC A k.s (Ga k l f):=by rw[Ga];split;exact Cm.ex h a rfl _;rename_i c;exact b<|h.Bp<|AUs h.ti.Cj.1.2<|O2.1 c
def AAa(h:CI m M AC A k)(a:k.e=A8){o}(e:OI (DC m k.s) M o)(f:o.var.q=[]):Cm m M AC A k.s (Fv k o):=by rw[Fv];split;exact Cm.ex h a rfl _;split;exact Cm.ex h a rfl _;rename_i u n d;let⟨b,hN,c⟩:=h.name d;exact Cm.done (b.AHE hN c e f).1 a
def AAb(h:CI m M AC A k)(c:k.e=A8){x f}(g:∀b,CI m M AC A b->b.s=k.s->b.e=A8->(fl x.l m\/fl b.t.g.Ad m=fF)->∀a,Am k.s x.name=sM a->a.kind=x.kind->a.l=x.l->Cm m M AC A k.s (f b a)):Cm m M AC A k.s (Ff k x f):=by rw[Ff];refine AMi h c λe i=> ?_;split;exact Cm.done (e.push<|H7 0) c;rename_i a d;let⟨q1,q2,q3⟩:=HV d;exact g _ e rfl c i a q1 q2 q3
def AMj{s}(h:CI m M AC A k)(a:k.e=A8)(d:k.s=s){b}(c:DC m k.s b.v):Cm m M AC A s (Ej k b):=by rw[Ej];split;exact Cm.ex h a d _;exact Cm.done (h.push c) a
def AZD{s kind}(a:3<=kind/\kind<=7){l}(b:A4 l=l){v}(d:DC m s v){fn AR}(c:M AR):OI (DC m s) M {Db with kind:=kind,l:=l,v:=v,fn:=fn,AR:=AR}:=
 ⟨b,a,d,Ia,λw e=>(by cases e),λ_=>c⟩
def Ww{s kind}(a:3<=kind/\kind<=6){l}(b:A4 l=l){v}(c:DC m s v):OI (DC m s) M {Db with kind:=kind,l:=l,v:=v}:=
 ⟨b,⟨a.1,Ch a.2 dC⟩,c,Ia,λw d=>(by cases d),λe=>by have:kind=7:=e;omega⟩
def AHa{im AD o AR l}(h:CI m M AC A k)(a:k.e=A8)(U:∀v∈l,DC m k.s v)(hm:M AR)
 (g:∀x∈(CO im AD o AR l k).1.e.Bo,Hr m x.AR):Cm m M AC A k.s (CO im AD o AR l k):=by
 have I:=OS U Ia 0;have P:=OS U Ia 1;have hz:=OS U Ia 2;have hw:=OS U Ia 3;have n:=h.ti.Cj.1;rw[CO]at g⊢;dsimp only at g⊢;generalize l.getD 0 AZ=x at*;generalize l.getD 1 AZ=y at*;generalize l.getD 2 AZ=z at*;generalize l.getD 3 AZ=w4 at*;split;exact Cm.done (h.push<|Xf n.1) a;exact Cm.done (h.push<|Xf n.2) a;split;exact Cm.ex h a rfl _;exact AMi h a λd _=>Cm.done d a;split;exact Cm.ex h a rfl _;split;exact Cm.ex h a rfl _;rename_i F;exact Cm.done (h.Bp<|AUv n.1<|O2.1 F) a;split;exact Cm.ex h a rfl _;exact AAa h a (Ww dC P.Cj I) rfl;split;exact Cm.ex h a rfl _;exact AAb h a λk' d G p _ b f _ _=>AMj d p G (by rw[G];exact(h.ki.Ep _ b f).val);split;exact Cm.ex h a rfl _;exact AAa h a (Ww dC P.Cj I) rfl;split;exact Cm.ex h a rfl _;exact AAb h a λk' d G p _ b f _ _=>Cm.done (d.push<|by rw[G];exact(h.ki.Ep _ b f).val) p;split;exact Cm.ex h a rfl _;split;exact Cm.ex h a rfl _;split;rename_i b f;exact Cm.done (h.AbZ (HV f).1 P) a;exact Cm.done h a;split;exact Cm.ex h a rfl _;exact AAa h a (Ww dC I.Cj Ia) rfl;split;exact Cm.ex h a rfl _;rename_i E;have E:=O2.1 E;refine AMh h a λd=> ?_;have H:fl (A4 x.l) m->∃o,Am k.s x.name=sM o/\fl o.l m:=λq=>by rw[LW]at q;let⟨o,q1,q2,q3⟩:=I.BZ oG q;exact⟨o,q1,by rwa[q3]⟩
 split;exact Cm.ok<|d.AF5 a H;rename_i b f;let⟨q1,q2,q3⟩:=HV f;have D:(k.Bp ⟨A4 x.l,k.t.g.A5⟩).t.g.Ad=b.l:=by rw[q3];exact I.Cj
 have r:=h.ki.Ep _ b q1;rw[GN];by_cases j:(!b.var.full);rw[Ac j];exact Cm.ok<|d.AMT a q1 D (w:=⟨k.t.id,fF,AZ⟩) rfl Ia rfl rfl;rw[AY j];split;rename_i N;cases K:b.var.q.findIdx? (·.put)<;>rw[K]at N<;>cases N;rename_i v N;cases K:b.var.q.findIdx? (·.put)with
 |none=>
  rw[K]at N;cases N;have Q:CI m M AC A {(k.Bp ⟨A4 x.l,k.t.g.A5⟩)with s:=Cn k.s x.name {b with var:=⟨fF,AZ,b.var.q⟩}}:={d with ki:=d.ki.set q1 rfl rfl {r with Lr:=Ia}<|d.ki.Dn _ b q1};exact Cm.done (Q.push<|r.Lr.up<|OD.set _ _ _) a
 |some i=>
  rw[K]at N;cases N;have B:i<lN b.var.q:=(AO2.1 K).1;have V:b.var.q.getD i Al=b.var.q[i]:=by rw[DK,BS B];rfl
  dsimp only;rw[V];have W:=d.push r.Lr;exact Cm.ok<|d.AOq a q1 (BS B) (x:=⟨tT,b.var.q[i].v,b.var.q.eraseIdx i⟩) rfl (r.Dn _<|DR B) (l:=[]) nA W
 split;exact Cm.ex h a rfl _;rename_i E;have E:=O2.1 E;refine AMh h a λd=> ?_;have H:fl (A4 x.l) m->∃o,Am k.s x.name=sM o/\fl o.l m:=λq=>by rw[LW]at q;let⟨o,q1,q2,q3⟩:=I.BZ oG q;exact⟨o,q1,by rwa[q3]⟩
 split;exact Cm.ok<|d.AF5 a H;rename_i b f;let⟨q1,q2,q3⟩:=HV f;have D:(k.Bp ⟨A4 x.l,k.t.g.A5⟩).t.g.Ad=b.l:=by rw[q3];exact I.Cj
 have r:=h.ki.Ep _ b q1;rw[Gg];by_cases j:b.var.full;rw[Ac j];exact Cm.ok<|d.AMT a q1 D (w:=⟨k.t.id,tT,y⟩) rfl P rfl rfl;rw[AY j];cases K:b.var.q.findIdx? (λw=> !w.put)with
 |none=>
  have Q:CI m M AC A {(k.Bp ⟨A4 x.l,k.t.g.A5⟩)with s:=Cn k.s x.name {b with var:=⟨tT,y,b.var.q⟩}}:={d with ki:=d.ki.set q1 rfl rfl {r with Lr:=P}<|d.ki.Dn _ b q1};exact Cm.done Q a
 |some i=>
  have B:i<lN b.var.q:=(AO2.1 K).1;have V:b.var.q.getD i Al=b.var.q[i]:=by rw[DK,BS B];rfl
  dsimp only;rw[V];exact Cm.ok<|d.AOq a q1 (BS B) (x:=⟨b.var.full,b.var.v,b.var.q.eraseIdx i⟩) rfl r.Lr (l:=[y]) (λv C=>by rwa[A9.1 C]) d
 split;exact Cm.ex h a rfl _;split;exact Cm.ex h a rfl _;rename_i O;split;exact Cm.ex h a rfl _;split;exact Cm.ex h a rfl _;rename_i u A7 hn;let⟨e1,_,_⟩:=Mf hn;let⟨d,hN,hg⟩:=h.name hn;have R:u.g=k.t.g:=by rw[e1]
 have Q:CI m M AC A {k with t:={u with Ao:=u.Ao-y.n.toNat}}:=d.Ao (u:={u with Ao:=u.Ao-y.n.toNat}) (A7:=u.A7) (Ao:=u.Ao-y.n.toNat) rfl<|Ag _;have X:Kh (A1 AC {u with Ao:=u.Ao-y.n.toNat}) k.s A7:=ALb hN (show Af AC u.id=sM A by rw[e1];show Af AC k.t.id=sM A;rw[h.id];exact h.is) rfl rfl rfl;let⟨W,Y,aa⟩:=Q.AHE (o:={Db with kind:=6,l:=z.l}) X hg (Ww dC hz.Cj Ia) rfl;refine Cm.ok<|W.BU a Y rfl rfl rfl rfl (AN8 hN.ok ?_ ⟨by rw[R];exact n.1,SP _⟩ ?_ Ia) λb f ah ad=> ?_;show fl u.g.Ad<|A4 z.l;rw[R6,R];exact (S0<|O2.1 O).1;cases Z:Gc ⟨[],[],[]⟩ o.a (varsOf im o.a) [x] AR with
 |none=>exact ACv
 |some c=>exact Vy ACv Z (λv C=>by rw[A9.1 C];exact I.up<|OD.add _ _ _) (H7 0) hm
 rw[aa]at f;cases f;show fl (A4 z.l) m;rwa[LW];split;exact Cm.ex h a rfl _;refine AAb h a λk' d G p C b f _ ac=> ?_;split;exact AMj d p G (by rw[G];exact(h.ki.Ep _ b f).val);refine Cm.ok (d.AF5 p λT=>⟨b,by rwa[G],?_⟩);rw[ac];rcases C with C|C;exact C;rw[T]at C;cases C;split;exact Cm.ex h a rfl _;split;rename_i t ht;exact Cm.ok<|h.scope a ht I hm;exact Cm.ex h a rfl _;split;exact Cm.ex h a rfl _;split;exact Cm.ex h a rfl _;exact .inl ⟨rfl,FI.of (k:={k with e:={k.e with out:=k.e.out++[(y.l,x)]}}) {h with} (by show k.e.BY=[];rw[a];rfl)<|by show k.e.BU=[];rw[a];rfl⟩;rename_i J;rw[J]at g;change∀e∈(if x.kind≠2 then((k,sM (-1)):CR)else if(Ih k.t.g x.l AR).2.1≠0 then(k,sM (Ih k.t.g x.l AR).2.1)else({k.Bp (Ih k.t.g x.l AR).1 with e:=if(Ih k.t.g x.l AR).2.2 then{k.e with Bo:=k.e.Bo++[⟨42,k.t.g.Ad,x.l,AR⟩]}else k.e},nO)).1.e.Bo,Hr m e.AR at g;split;exact Cm.ex h a rfl _;split;exact Cm.ex h a rfl _;rename_i S F;rw[AY S,AY F]at g;have F:=O2.1 F;have d:=h.Bp (AUt n.2 F λL=>by rw[Ac L]at g;exact g ⟨42,k.t.g.Ad,x.l,AR⟩ sP)
 refine .inl ⟨rfl,FI.of {d with} ?_ ?_⟩;dsimp only;split<;>(show k.e.BY=[];rw[a];rfl);dsimp only;split<;>(show k.e.BU=[];rw[a];rfl);rename_i J;rw[J]at g;change∀e∈(if x.kind≠2 then((k,sM (-1)):CR)else if(Il k.t.g x.l AR).2.1≠0 then(k,sM (Il k.t.g x.l AR).2.1)else({k.Bp (Il k.t.g x.l AR).1 with e:=if(Il k.t.g x.l AR).2.2 then{k.e with Bo:=k.e.Bo++[⟨43,k.t.g.A5,x.l,AR⟩]}else k.e},nO)).1.e.Bo,Hr m e.AR at g;split;exact Cm.ex h a rfl _;split;exact Cm.ex h a rfl _;rename_i S F;rw[AY S,AY F]at g;have d:=h.Bp (AUu n.1 (O2.1 F) λL=>by rw[Ac L]at g;exact g ⟨43,k.t.g.A5,x.l,AR⟩ sP)
 refine .inl ⟨rfl,FI.of {d with} ?_ ?_⟩;dsimp only;split<;>(show k.e.BY=[];rw[a];rfl);dsimp only;split<;>(show k.e.BU=[];rw[a];rfl);split;exact Cm.ex h a rfl _;exact AAa h a (AZD dC I.Cj Ia hm) rfl;split;exact Cm.ex h a rfl _;rename_i S;refine AAb h a λk' d G p C b f ab _=> ?_;split;rename_i c T;have ae:M b.AR:=(h.ki.Ep _ b f).Zz (by rw[ab];exact O2.1 S);exact Cm.done (d.core (λs af=>AEA (d.on s af).on T)<|Vy d.ti.FL T (λv ag=>by rwa[A9.1 ag,G]) (H7 0) ae) p;exact Cm.ex d p G _;exact Cm.done h a
theorem AaI{AC}(a:Fi AC){t}(b:Af AC t.id=sM t):A1 AC t=AC:=by
 rw[A1];have:∀x∈AC,(if x.id==t.id then t else x)=x:=by grind[NT]
 ext;grind
def KI.YS(h:KI m M AC s){t}(ht:Af AC t.id=sM t)(a:t.Aw=0):CI m M AC t ⟨s,t,A8⟩ where
 ki:=by rwa[AaI h.E0 ht]
 is:=ht
 id:=rfl
 EI:=rfl
 st:=a
 on:=λx b=>GQ.refl<|(h.of ht).JW oG x b
 hid:=λq=>q
theorem MW(k v)(a:Bool):(E7 k v a).e.Bo=k.e.Bo/\(E7 k v a).e.BU=k.e.BU/\(E7 k v a).e.BY=k.e.BY:=by grind[E7]
theorem Q7(k c)(b:Int)(a:Nat):(EH k c b a).e.Bo=k.e.Bo/\(EH k c b a).e.BU=k.e.BU/\(EH k c b a).e.BY=k.e.BY:=by grind[EH,MW]
def ACM{c}(h:asks c):c≠17:=λe=>by subst e;revert h;decide
theorem AAt{a c b d o}(h:(Es a c b d).2=.asked o):JM a c=sM o/\asks o.code/\(Es a c b d).1=c:=by
 rw[Es]at h⊢
 grind[XA]
theorem Tl{n}(D:IQ n)(N:∀a b,M a->M (a&&&b)){AD}(h:KI m M AC s){t}(L:Af AC t.id=sM t)(C:t.Aw=0)(g:∀x∈(C6 n t s AD).e.Bo,Hr m x.AR):FI m M AC t (C6 n t s AD):=by
 have z:=h.YS L C;have l:=h.of L;have w:=ADa l;rw[C6]at g⊢;rw[AY<|by rw[C];decide]at g⊢;have d:=λx i=>AWT (im:=n) (c:=t.c) (AG:=(CV t).1) (AP:=(CV t).2) (l.JW oG x i) (w x i).1 (w x i).2;have j:=AR9 D (AG:=(CV t).1) (AP:=(CV t).2) N l.FL;dsimp only at g⊢;cases B:(Es n t.c (CV t).1 (CV t).2).2 with
 |Iu=>
  rw[B]at d;exact FI.of (z.core (λx i=>⟨(d x i).2.2 rfl,(d x i).1⟩) j.1) rfl rfl
 |ended v=>exact z.end_ (λx i=>(d x i).1) (λx i=>(d x i).2.1) j.1 rfl (j.2 v<|.inl B) fF
 |failed v=>exact z.end_ (λx i=>(d x i).1) (λx i=>(d x i).2.1) j.1 rfl (j.2 v<|.inr B) tT
 |asked o=>
  rw[B]at g;let⟨K,O,_⟩:=AAt B;have p:=ADY K;have F:CU n o=BP o.code:=by rw[CU];rw[AY<|ACM O]
  rw[F]at p;have E:CI m M AC t ⟨s,{t with c:=D4 (FR t.c<|BP o.code) λf=>{f with pc:=f.pc+1}},A8⟩:=
   z.core (λx i=>(UB (l.JW oG x i) p).trans<|Wa (UB (l.JW oG x i) p).on λ_=>rfl)<|Rr (ACw l.FL _) λ_ q=>q
  have P:M (t.c.top.getD Al).AR:=by
   have:=ADZ K;cases e:t.c.top with
   |none=>grind[Ay.top]
   |some f=>exact(l.FL.fr f<|AA1 e).1
  show FI m M AC t<|Gt n AD (CV t).2 o ⟨s,t,A8⟩;have g:∀x∈(Gt n AD (CV t).2 o ⟨s,t,A8⟩).e.Bo,Hr m x.AR:=g;rw[Gt]at g⊢;dsimp only at g⊢;have G:∀x∈(CO n AD o (t.c.top.getD Al).AR (Ct t.c<|BP o.code) ⟨s,{t with c:=D4 (FR t.c<|BP o.code) λf=>{f with pc:=f.pc+1}},A8⟩).1.e.Bo,Hr m x.AR:=by generalize CO n AD o _ _ _=r at g;obtain⟨Q,_|y⟩:=r;exact g;dsimp only at g;rw[(Q7 _ _ _ _).1]at g;exact g
  have u:=AHa (im:=n) (AD:=AD) (o:=o) E rfl (W8 l.FL _) P G;generalize CO n AD o _ _ _=r at u;rcases u with⟨e,R⟩|⟨y,e,J,I,H⟩
  grind
  let⟨Q,x⟩:=r;simp only at e J I H;subst e;exact J.raise (by rwa[I]) H λx i=>(w x i).2
def KQ(s:Az):Prop:=∀n o,Am s n=sM o->o.kind≠5->o.var.q=[]
def AEE{s}(h:KQ s){n o}(b:o.kind≠5->o.var.q=[]):KQ (Cy s n o):=by intro q w a;by_cases e:Ew s n o;rw[I3 e]at a;split at a;cases a;exact b;exact h q w a;rw[OF<|by simpa using e]at a;exact h q w a
theorem Qr{s}(h:KQ s){n o}(b:o.kind≠5->o.var.q=[]):KQ (Cn s n o):=by intro q w a;rw[PV]at a;split at a;split at a;split at a;cases a;exact b;exact h q w a;exact h q w a;exact h q w a
theorem AKU{k l f}(h:KQ k.s)(b:∀a,a.s=k.s->KQ (f a).1.s):KQ (G1 k l f).1.s:=by rw[G1];split;exact h;exact b _ rfl
def AKR{k l f}(h:KQ k.s)(b:∀a,a.s=k.s->KQ (f a).1.s):KQ (Ga k l f).1.s:=by rw[Ga];split;exact h;exact b _ rfl
def Zf{k o}(h:KQ k.s)(a:o.var.q=[]):KQ (Fv k o).1.s:=by rw[Fv];split;exact h;split;exact h;exact AEE h λ_=>a
theorem Zg{k x f}(h:KQ k.s)(b:∀a o,a.s=k.s->KQ (f a o).1.s):KQ (Ff k x f).1.s:=by refine AKU h λa e=> ?_;split;show KQ a.s;rwa[e];exact b _ _ e
theorem AKV{k o}(h:KQ k.s):KQ (Ej k o).1.s:=by rw[Ej];split;exact h;exact h
theorem Ac2{k}(h:KQ k.s){x o}(a:EY k x=sM o):o.kind≠5->o.var.q=[]:=h _ _ (HV a).1
theorem AQW{n i o f l}(h:KQ k.s):KQ (CO n i o f l k).1.s:=by
 rw[CO];dsimp only;split;exact h;exact h
 grind[AKU]
 split;exact h;split<;>exact h;split;exact h;exact Zf h rfl
 grind[Zg,AKV]
 split;exact h;exact Zf h rfl;split;exact h;exact Zg h λc o e=>by show KQ c.s;rwa[e]
 grind[Ac2,Qr]
 split;exact h;exact Zf h rfl;rename_i p;split;exact h;rename_i g;refine AKR h λc e=> ?_;have a:KQ c.s:=by rwa[e]
 split;exact a;rename_i j b;have d:j.kind=5:=by rw[(HV b).2.1];simpa using g
 split;exact Qr a λq=>(q d).elim;rw[EO];split;exact Qr a λq=>(q d).elim;exact Qr a λq=>(q d).elim;split;exact h;rename_i g;refine AKR h λc e=> ?_;have a:KQ c.s:=by rwa[e]
 split;exact a;rename_i j b;have d:j.kind=5:=by rw[(HV b).2.1];simpa using g
 split;exact Qr a λq=>(q d).elim
 grind[EO,Qr]
 split;exact h;split;exact h;split;exact h;split;exact h;exact AEE h λ_=>rfl;split;exact h;refine Zg h λc o e=> ?_;split
 grind[AKV]
 show KQ c.s;rwa[e]
 grind
 grind
 split;exact h;split<;>exact h;split;exact h;split<;>exact h;split;exact h;exact Zf h rfl
 grind[Zg]
 exact h
theorem AKS{k}(h:KQ k.s)(v)(a:Bool):KQ (E7 k v a).s:=by grind[E7,KQ,Am,Fq,Cn,Qr]
theorem AKT{k}(h:KQ k.s)(c)(b:Int)(a:Nat):KQ (EH k c b a).s:=by grind[EH,AKS]
theorem AEF{im t AD}(h:KQ s):KQ (C6 im t s AD).s:=by grind[C6,A8,Gt,Ct,BP,D4,FR,CO,AKS,AQW,AKT]
theorem Q9(h:KI m M AC s)(z:KQ s){t}(a:Af AC t.id=sM t)(d:t.Aw=1){o}(i:Am s t.on=sM o)(C:o.kind=6):KI m M (A1 AC (Dv t s o.v o.ex).t) (Dv t s o.v o.ex).s/\KQ (Dv t s o.v o.ex).s/\(Dv t s o.v o.ex).t.id=t.id:=by
 have u:∀n f,Am s n=sM f->∀w∈f.var.q,w.id≠t.id:=λn f g w p e=>by let⟨E,b,_,y,_⟩:=(h.Dn n f g).2 w p;rw[e,a]at b;cases b;rw[y,g]at i;cases i;rw[z n o g oG]at p;cases p
 have D:=(h.Ep _ o i).val;rw[Dv];split;have:=h.wake a d u (l:=[o.v])<|gR;rw[Gi]at this;simp[a]at this;trivial;have b:=h.wake a d u (l:=[]) nA;rw[Gi]at b;simp[a]at b;have j:Af (A1 AC<|DX t []) (DX t []).id=sM (DX t []):=RD (u:=DX t []) (t:=t) a rfl;have q:=b.YS j rfl;have c:=q.raise q rfl (code:=o.v.n) (AP:=(CV t).2) λx B=>(ADa (h.of a) x B).2;have r:=Q7 ⟨s,DX t [],A8⟩ (DX t []).c o.v.n (CV t).2;have:=c.ki;rw[Jt]at this;rw[r.2.1,r.2.2]at this;have hid:=c.id
 grind[DX,A8,EH,CV,AKT,Sb]
def NC{b d:Type}{P:b->Prop}{f:b->d->b}(c:∀a x,P a->P (f a x)):∀(l:AA d) {a:b},P a->P (l.foldl f a)
 |[],_,h=>h
 |x::l,_,h=>NC c l<|c _ x h
structure KK(m:AT)(M:AH->Prop)(k:Ap):Prop where
 ki:KI m M k.AC k.Ah
 kq:KQ k.Ah
theorem Yw:∀(n:Nat) {k:Ap} (f:Nm),KK m M k->KK m M (GD n k f)
 |0,_,_,h=>h
 |n+1,k,f,h=>by rw[GD];refine NC (P:=KK m M) (λk x h=> ?_) _ h;split;exact h;rename_i t e;split;exact h;rename_i b;simp[Jk,Ka]at b;split;exact h;rename_i o g;split;exact h;rename_i c;simp[Jk,Ka]at c;have hid:=E2 e;have d:=Q9 h.ki h.kq (t:=t) (by rwa[hid]) b.1 (by rwa[b.2]) c.1;have a:KK m M {k with Ah:=(Dv t k.Ah o.v o.ex).s,AC:=A1 k.AC (Dv t k.Ah o.v o.ex).t}:=⟨d.1,d.2.1⟩;dsimp only;split;exact Yw n x a;exact a
theorem Kp:∀(n:Nat)(k:Ap)(a:Nm),(GD n k a).B5=k.B5/\(GD n k a).Bj=k.Bj/\(GD n k a).AD=k.AD/\(GD n k a).im=k.im
 |0,_,_=>r4
 |n+1,k,a=>by
  rw[GD];refine NC (P:=λb:Ap=>b.B5=k.B5/\b.Bj=k.Bj/\b.AD=k.AD/\b.im=k.im) (λb x h=> ?_) _ r4;split;exact h;split;exact h;split;exact h;split;exact h;dsimp only;split;have this:=λc=>Kp n c x
  grind
  exact h
theorem Oz:∀(l:AA<|Nm×AA AW)(k:Ap),l.foldl RI k= {k with AC:=l.foldl Gi k.AC}
 |[],_=>rfl
 |w::l,k=>by
  rw[Xq,Oz l,Xq]
  grind[RI,Gi,Af]
theorem AND{k}(i:IQ k.im)(n:∀a b,M a->M (a&&&b))(h:KK m M k)(l:Nm)(c:∀x∈(runK k l).1.B5,Hr m x.e.AR):KK m M (runK k l).1:=by
 rw[runK]at c⊢;split;exact h;rename_i t j;have hid:=E2 j;subst hid;rw[j]at c;dsimp only at c⊢;split;exact h;rename_i d;rw[if_neg d]at c;have d:t.Aw=0:=oG;generalize p:C6 k.im t k.Ah k.AD=r at c⊢;have g:∀x∈(C6 k.im t k.Ah k.AD).e.Bo,Hr m x.AR:=λx q=>by
  refine c (⟨k.AD,t.id,x⟩:Lk) ?_
  grind[List.mem_append_right,Oz,Kp]
 have e:=Tl i n (AD:=k.AD) h.ki j d g;have f:=AEF (im:=k.im) (t:=t) (AD:=k.AD) h.kq;rw[p]at e f;have o:KK m M {k with Ah:=r.s,AC:=r.e.BY.foldl Gi<|r.e.BU.foldl CC<|A1 k.AC r.t,Bj:=k.Bj++r.e.out.map λx:AT×AW=>(⟨k.AD,t.id,x.1,x.2⟩:FU),B5:=k.B5++r.e.Bo.map λx:Gr=>(⟨k.AD,t.id,x⟩:Lk)}:=⟨e.ki,f⟩
 grind[Oz,Yw]
theorem AEK{x y a}(h:KV x a=sM y):∃i w,x.q[i]? =sM w/\w.id=a/\y=⟨x.full,x.v,x.q.eraseIdx i⟩:=by grind[KV,List.findIdx?_eq_some_iff_getElem,List.getElem?_eq_getElem]
theorem AXE{x id}(h:KV x id=nO):∀w∈x.q,w.id≠id:=by grind[KV]
theorem AJW(h:KI m M AC s)(g:KQ s){t}(A:Af AC t.id=sM t)(v:t.Aw=1):
 KI m M AC (Gy s t.on t.id)/\KQ (Gy s t.on t.id)/\(∀n o,Am (Gy s t.on t.id) n=sM o->∀w∈o.var.q,w.id≠t.id)/\(∀n,(Am (Gy s t.on t.id) n).isSome=(Am s n).isSome):=by
 have only:∀n o,Am s n=sM o->(∃w∈o.var.q,w.id=t.id)->n=t.on:=λn o b ⟨w,a,e⟩=>by
  let⟨B,y,_,z,_⟩:=(h.Dn n o b).2 w a
  grind
 rw[Gy];cases d:Am s t.on with
 |none=>
  refine⟨h,g,λn o b w a e=> ?_,λ_=>rfl⟩;have:=only n o b ⟨w,a,e⟩
  grind
 |some o=>
  dsimp only;split;rename_i k;cases u:KV o.var t.id with
  |none=>
   refine⟨h,g,λn j b w a e=> ?_,λ_=>rfl⟩;have:=only n j b ⟨w,a,e⟩
   grind[AXE]
  |some x=>
   obtain⟨i,C,r,l,rfl⟩:=AEK u;have p:=ADj (o:={o with var:=⟨o.var.full,o.var.v,o.var.q.eraseIdx i⟩}) d rfl rfl;have f:=h.Ep _ o d;have c:=h.Dn _ o d;dsimp only;refine⟨h.set d rfl rfl {f with Lr:=f.Lr,Dn:=λw a=>f.Dn w<|ABk a} ⟨?_,λw a=> ?_⟩,Qr g λq=>(q k).elim,λn j b w a e=> ?_,λn=> ?_⟩
   grind
   exact c.2 w<|ABk a;rw[p]at b;split at b;cases b;exact ALf c.1 r w a<|e.trans l.symm;have:=only n j b ⟨w,a,e⟩;contradiction;rw[p];split;rename_i e;rw[e,d];rfl;rfl
  rename_i k;refine⟨h,g,λn j b w a e=> ?_,λ_=>rfl⟩;have:=only n j b ⟨w,a,e⟩;rw[this,d]at b;cases b;rw[g _ o d k]at a;cases a
def IL(t:AL)(k:Nat):AL:=
 let s:=t.AI.getD k Al
 {t with AI:=t.AI.take k,g:=s.g,Bg:=s.Bg,A7:=s.A7,Ao:=s.Ao,c:=Ee t.c s.AG s.Cg s.AP,Aw:=0,on:=[],v:=AZ,ex:=fF}
def AKi(t k):GH t k= {IL t k with c:=Df (IL t k).c<|BZ 3 (t.AI.getD k Al).name (t.AI.getD k Al).l}:=rfl
theorem AEM{t i}(a:i<lN t.AI):(∀j,j<=i->EF (IL t i) j=EF t j)/\∀j,j<=i->Hv (IL t i) j=Hv t j:=by grind[IL,EF,Hv]
theorem ALt{c a b}(e:At c a)(g:At c b)(l:a.AG<b.AG)(n:a.Cg<=b.Cg)(o:a.AP<=b.AP):On (Dp c b) a:=by
 have i:=g.fr;have j:=g.ht;have k:=g.tl;refine⟨by simp[Dp,Ee];omega,λf h=>e.bs f ?_,by simp[Dp,Ee];omega,by simp[Dp,Ee];omega,λt d=>e.tr t ?_,λt d=>e.tp t ?_⟩;exact Ry h;exact Ry d
 grind[Dp,Ee]
theorem AdE{P t}(h:TI m P M t){i}(n:i<lN t.AI)(I:P AZ):TI m P M (IL t i):=by
 have v:(IL t i).AI=t.AI.take i:=rfl;have f:t.AI.getD i default=t.AI[i]:=by simp[List.getD_eq_getElem?_getD,n]
 have d:t.AI[i]∈t.AI:=List.getElem_mem n;let⟨y,B⟩:=AEM n;have A:(IL t i).c=Dp t.c t.AI[i]:=by show Ee t.c (t.AI.getD i default).AG (t.AI.getD i default).Cg (t.AI.getD i default).AP=_;rw[f];rfl
 have l:∀x∈t.AI.take i,x∈t.AI/\x.AG<t.AI[i].AG/\x.Cg<=t.AI[i].Cg/\x.AP<=t.AI[i].AP:=λx c=>by obtain⟨j,g,rfl⟩:=List.getElem_of_mem c;rw[List.length_take]at g;have r:j<i:=oG;rw[List.getElem_take];exact⟨List.getElem_mem _,List.pairwise_iff_getElem.1 h.nest j i oG n r⟩
 have u:∀x∈t.AI.take i,On (Dp t.c t.AI[i]) x:=λx c=>by let⟨D,E,F,G⟩:=l x c;exact ALt (h.at_ x D) (h.at_ _ d) E F G
 refine{NO:= ?_,HM:=λq H=>h.HM q ?_,nest:=h.nest.sublist<|List.take_sublist _ _,Ux:=(by show 0<=4;decide),idle:=(λq=>by cases q),over:=(λq=>absurd q<|by show¬3<=0;decide),at_:=λx c=>by rw[A];exact(u x c).at_,JW:=λ_ x c=>by grind,mono:=⟨λa b p z w=> ?_⟩,cap:=λj g=> ?_,A5:=λj x c k=> ?_,Cj:=⟨?_,λx c=>h.Cj.2 x (l x c).1⟩,FL:= ?_,val:=I};have:=h.NO;have C:(IL t i).Bg=t.AI[i].Bg:=by show(t.AI.getD i default).Bg=_;rw[f]
 have o:=congrArg (List.take<|i+1) this;rw[List.take_append_of_le_length sO,List.take_succ_cons,<-List.map_take,<-List.map_take]at o;rw[C];show(t.AI.take i).map (·.Bg)++[t.AI[i].Bg]=t.id::(t.AI.take i).map (·.name)
 grind[List.take_succ_eq_append_getElem]
 rcases List.mem_cons.1 H with e|e;rw[e];exact List.mem_cons_self;let⟨x,c,o⟩:=List.mem_map.1 e;exact List.mem_cons_of_mem _<|List.mem_map.2 ⟨x,List.mem_of_mem_take c,o⟩;have k:lN (IL t i).AI=i:=by rw[v,List.length_take];omega
 rw[k]at z;rw[Cx]at w⊢;rw[y b z]at w;rw[y a oG];exact h.mono.out a b p oG w;have k:lN (IL t i).AI=i:=by rw[v,List.length_take];omega
 rw[k]at g;rw[y j g,B j g];exact h.cap j oG;rw[v,List.getElem?_take]at c;split at c;rw[B (j+1) oG];exact h.A5 j x c k;cases c;have:=(h.Cj.2 _ d).2;show A4 (t.AI.getD i default).g.Ad=(t.AI.getD i default).g.Ad/\A4 (t.AI.getD i default).g.A5=(t.AI.getD i default).g.A5;rwa[f];rw[A];exact ASA h.FL λx c=>(h.at_ _ d).tp x c
theorem PK{t a i}(h:IU t a=sM i):i<lN t.AI:=by grind[IU,List.findIdx?_eq_some_iff_getElem]
theorem AXI{k}(h:KK m M k){t}(L:Af k.AC t.id=sM t){i}(S:i<lN t.AI):KK m M (I4 k t i):=by
 obtain⟨s1,W,c,T,U,X⟩:∃s1,(if t.Aw=1 then Gy k.Ah t.on t.id else k.Ah)=s1/\KI m M k.AC s1/\KQ s1/\(∀n o,Am s1 n=sM o->∀w∈o.var.q,w.id≠t.id)/\∀n,(Am s1 n).isSome=(Am k.Ah n).isSome:=by refine⟨_,rfl,?_⟩;split;rename_i C;exact AJW h.ki h.kq L C;rename_i C;exact⟨h.ki,h.kq,h.ki.SO L C,λ_=>rfl⟩
 have b:=D2 L;have v:=c.G3 t b;have z:t.AI.getD i default=t.AI[i]:=by simp[List.getD_eq_getElem?_getD,S]
 have f:t.AI[i]∈t.AI:=List.getElem_mem S;have a:∀q∈Ak (IL t i),q∈Ak t:=λq u=>by rcases List.mem_cons.1 u with e|e;rw[e];exact List.mem_cons_self;let⟨x,d,Y⟩:=List.mem_map.1 e;exact List.mem_cons_of_mem _<|List.mem_map.2 ⟨x,List.mem_of_mem_take d,Y⟩
 have G:∀y∈Fu (IL t i),y∈Fu t:=by grind[Fu,IL]
 have I:=AAR c.Jy b;have h1:KI m M (A1 k.AC<|IL t i) s1:=by
  refine c.AI L rfl (AdE v S Ia) ?_ (λq u=>.inl<|a q u) (λy p j A q u=> ?_) (λx d B y p j A q u=> ?_) (λx d=>c.Ja t b x<|List.mem_of_mem_take d) (λhc=> ?_) (by show(0:Nat)≠1;decide) U;exact I.sublist<|List.Sublist.cons_cons _<|(List.take_sublist i t.AI).map _;refine c.FQ t b y (G y p) j A q ?_;rcases u with u|u;exact u;exact .inr ⟨t,b,a q u⟩;exact c.FQ x d y p j A q<|.inr ⟨t,b,a q u⟩
  grind[AEM]
 have H:Am s1 t.AI[i].name=nO:=c.Ja t b _ f;have r:CB t.AI[i].name:=v.HM _<|List.mem_cons_of_mem _<|List.mem_map.2 ⟨_,f,rfl⟩;have l:t.AI[i].name∈Ak t:=List.mem_cons_of_mem _<|List.mem_map.2 ⟨_,f,rfl⟩;have K:∀x∈A1 k.AC (IL t i),t.AI[i].name∉Ak x:=λx d F=>by
  rcases I6 d with rfl|⟨d,B⟩;have J:(t.id::t.AI.map (·.name)).Nodup:=I;let⟨R,aa⟩:=List.nodup_cons.1 J;rcases List.mem_cons.1 F with e|e;exact R (by rw[show t.id=t.AI[i].name from e.symm];grind);let⟨x,d,Y⟩:=List.mem_map.1 e;have d:x∈t.AI.take i:=d;obtain⟨j,A,rfl⟩:=List.getElem_of_mem d
  grind[List.pairwise_iff_getElem]
  have:=ALh c.Jy d b F l;exact B (by rw[this];rfl)
 have hO:OI (DC m s1) M (GF t i):=by
  have Q:DC m s1 (IF t i).1:=by rw[IF];split;exact H7 _;split;exact H7 _;exact v.val
  exact{
   Cj:=by show A4 (t.AI.getD i default).l=(t.AI.getD i default).l;rw[z];exact(v.Cj.2 _ f).1
   kind:=by show 3<=3/\3<=7;decide
   val:=Q
   Lr:=Ia
   Dn:=λw hw=>by cases hw
   Zz:=λq=>by cases q}
 have P:KI m M (A1 k.AC<|IL t i) (Cy s1 t.AI[i].name<|GF t i):=by refine h1.add r H K (λx d y p j A=> ?_) hO rfl;rcases I6 d with rfl|⟨d,B⟩;exact c.FQ t b y (G y p) j A _<|.inr ⟨t,b,l⟩;exact c.FQ x d y p j A _<|.inr ⟨t,b,l⟩
 have V:Ew s1 t.AI[i].name (GF t i):=YN r hO H;have D:Af (A1 k.AC<|IL t i) (IL t i).id=sM (IL t i):=RD (t:=t) (u:=IL t i) L rfl;have hv:DC m (Cy s1 t.AI[i].name<|GF t i) (BZ 3 t.AI[i].name t.AI[i].l):=⟨(v.Cj.2 _ f).1,⟨by show 3<=7;decide,Pm r⟩,λ_ _=>⟨_,by rw[I3 V];exact if_pos rfl,rfl,by show(t.AI.getD i default).l=_;rw[z];rfl⟩⟩;have g:=P.of D;have O:TI m (DC m<|Cy s1 t.AI[i].name<|GF t i) M (GH t i):=by rw[AKi,z];exact{g with at_:=(λx d=>((No (g.JW (by show 0<2;decide) x d) _).on).at_),JW:=(λq x d=>(No (g.JW q x d) _).on),mono:=⟨g.mono.out⟩,FL:=II g.FL hv}
 have Z:=P.HW D (u:=GH t i) {id:=rfl,EI:=rfl,Bg:=rfl,A7:=Nat.le_refl _,idle:=(λq=>by cases q),A5:=(λq=>q),Dn:=.inl<|P.SO D<|by show(0:Nat)≠1;decide,H8:=(λq=>by cases q),ti:=O};rw[Sb k.AC (t:=IL t i) (u:=GH t i) rfl]at Z;have e5:I4 k t i= {k with Ah:=Cy s1 t.AI[i].name<|GF t i,AC:=A1 k.AC<|GH t i}:=by rw[I4];rw[W,z]
 rw[e5];exact⟨Z,AEE T λ_=>rfl⟩
theorem Rk{k}(h:KK m M k)(a):KK m M (Fp k a):=by grind[Fp,E2,AXI,PK]
def Vk{k}(h:KK m M k):KK m M (Fo k):=by rw[Fo];exact NC (P:=KK m M) (λa x h=>Rk h x) _ (a:={k with AD:=k.AD+1}) ⟨h.ki,h.kq⟩
theorem YR(k a):(Fp k a).im=k.im/\(Fp k a).AD=k.AD/\(Fp k a).Bj=k.Bj/\(Fp k a).B5=k.B5:=by rw[Fp];split;split<;>trivial;simp
theorem QQ(k):(Fo k).im=k.im/\(Fo k).AD=k.AD+1/\(Fo k).Bj=k.Bj/\(Fo k).B5=k.B5:=by
 rw[Fo];refine NC (P:=λb:Ap=>b.im=k.im/\b.AD=k.AD+1/\b.Bj=k.Bj/\b.B5=k.B5) (λa x h=> ?_) _ r4
 grind[YR]
def AKM:KI m M [] []:={E0:=List.Pairwise.nil,G3:=nA,Ep:=(λn o h=>by cases h),Jy:=sP,FQ:=nA,Ja:=nA,Km:=nA,Dn:=(λn o h=>by cases h),H8:=nA,B0:=sP}
def Ph{i}(h:i<=999):CB [i]:=by simp[CB,h]
def ACa(h:KI m M [] s){i}(c:i<=999)(a:Am s [i]=nO){b:Gs}(e:A4 b.l=b.l):KI m M [] (Cy s [i] {Db with kind:=3,l:=b.l,v:=BH b.v})/\Am (Cy s [i] {Db with kind:=3,l:=b.l,v:=BH b.v})=λq=>if q=[i]then sM {Db with kind:=3,l:=b.l,v:=BH b.v}else Am s q:=by have d:OI (DC m s) M {Db with kind:=3,l:=b.l,v:=BH b.v}:=Ww dC e<|H7 _;refine⟨h.add (Ph c) a nA nA d rfl,?_⟩;funext q;exact I3 (YN (Ph c) d a) q
structure ABt(m:AT)(M:AH->Prop)(c:Dj)(s:Az)(b:FO):Prop where
 Cj:A4 b.l=b.l/\A4 b.c=b.c
 flo:fl b.l b.c
 Zz:M b.AR
 box:0<=b.box->b.box.toNat<=999/\∃o,Am s [b.box.toNat]=sM o/\o.kind=3/\o.l=(c.BJ.getD b.box.toNat Al).l
def Vo(h:KI m M AC s){c b}(k:ABt m M c s b){i}(D:i<=999)(J:Am s [i]=nO)(N:∀q o,Am s q=sM o->lN q=1)(E:∀t∈AC,∃j,t.id=[j]/\j≠i/\t.Bg=[j]/\t.AI=[]):KI m M (CC AC<|D7 c b [i]) s:=by
 have g:∀t∈AC,∀q∈Ak t,lN q=1/\q≠[i]:=λt a q f=>by
  let⟨j,y,z,A,r⟩:=E t a;have f:q=[j]:=by simpa[Ak,r,y]using f
  rw[f];exact⟨rfl,λe=>z<|by simpa using e⟩
 have L:Kh AC s [i]:=by
  refine⟨Ph D,λt a f=>(g t a _ f).2 rfl,λq f p=> ?_,λt a R d j S p=> ?_⟩;have K:lN q=1:=by rcases f with⟨o,n⟩|⟨t,a,f⟩;exact N q o n;exact(g t a q f).1
  exact(p.eq_of_length<|by rw[K];rfl).symm;let⟨Q,y,z,A,r⟩:=E t a;have:R.1=[Q]:=by unfold Fu at d;rw[r]at d;simp only[Mw,F2]at d;split at d;cases d;rw[A9.1 d];exact A
  rw[this]at p;have:=p.length_le;simp at this
 refine h.BU L rfl rfl rfl rfl ?_ λo n=>by rw[J]at n;cases n
 have O:DC m s (if 0<=b.box then BZ 3 [b.box.toNat] (c.BJ.getD b.box.toNat Al).l else BH b.n):=by split;rename_i F;let⟨H,o,B,G,C⟩:=k.box F;exact⟨by show A4 (c.BJ.getD b.box.toNat Al).l=(c.BJ.getD b.box.toNat Al).l;rw[<-C];exact(h.Ep _ o B).Cj,⟨by show 3<=7;decide,λx P=>by rw[show x=b.box.toNat from A9.1 P];exact H⟩,λ_ _=>⟨o,B,G,C⟩⟩;exact H7 _
 have l:∃u,Gc ⟨[],[],[]⟩ b.fn (c.im.Ax.getD b.fn Al).Ai [if 0<=b.box then BZ 3 [b.box.toNat] (c.BJ.getD b.box.toNat Al).l else BH b.n] b.AR=sM u:=⟨_,rfl⟩;let⟨u,l⟩:=l;have e:D7 c b [i]=Jw [i] ⟨b.l,b.c⟩ u b.Ao:=by unfold D7;dsimp only;rw[l];rfl
 rw[e];exact AN8 (Ph D) k.flo k.Cj (Vy (P:=DC m s) (M:=M) ACv l (λv w=>by rw[A9.1 w];exact O) (H7 0) k.Zz) Ia
structure QF(c:Dj)(a b:Gs)(t0 t1 t2:FO):Prop where
 BJ:c.BJ=[a,b]
 BM:c.BM=[t0,t1,t2]
def AAC{c a b d e f}(h:QF c a b d e f):EG c= {im:=c.im,AD:=0,AC:=CC (CC (CC []<|D7 c d [2])<|D7 c e [3])<|D7 c f [4],Ah:=Cy (Cy [] [0] {Db with kind:=3,l:=a.l,v:=BH a.v}) [1] {Db with kind:=3,l:=b.l,v:=BH b.v},Bj:=[],B5:=[]}:=by rw[EG];rw[h.BJ,h.BM];rfl
def AYq{c}{g j:Gs}{f k r}(h:QF c g j f k r)(B:A4 g.l=g.l)(C:A4 j.l=j.l)(D:∀b∈[f,k,r],(A4 b.l=b.l/\A4 b.c=b.c)/\fl b.l b.c/\M b.AR/\b.box<2):KK m M (EG c):=by
 rw[AAC h];let⟨E,z⟩:=ACa (m:=m) (M:=M) AKM (i:=0) dC rfl B;let⟨A,n⟩:=ACa E (i:=1) dC (by rw[z];rfl) C;generalize Cy (Cy [] [0] {Db with kind:=3,l:=g.l,v:=BH g.v}) [1] {Db with kind:=3,l:=j.l,v:=BH j.v}=s at A n⊢;rw[z]at n;have p:∀q,Am s q=if q=[1]then sM {Db with kind:=3,l:=j.l,v:=BH j.v}else if q=[0]then sM {Db with kind:=3,l:=g.l,v:=BH g.v}else nO:=λq=>by rw[n];rfl
 have y:∀q o,Am s q=sM o->lN q=1:=λq o a=>by rw[p]at a;split at a;rename_i e;rw[e];rfl;split at a;rename_i e;rw[e];rfl;cases a
 have u:∀i,2<=i->Am s [i]=nO:=λi L=>by rw[p];rw[AY sO,AY sO]
 have w:∀b∈[f,k,r],ABt m M c s b:=λb x=>by let⟨q1,q2,q3,q4⟩:=D b x;refine⟨q1,q2,q3,λq=>⟨oG,?_⟩⟩;rw[p,h.BJ];have:b.box.toNat=0\/b.box.toNat=1:=oG;rcases this with e|e;rw[e];exact⟨_,rfl,rfl,rfl⟩;rw[e];exact⟨_,rfl,rfl,rfl⟩
 have K:∀(b:FO)(i:Nat),(D7 c b [i]).id=[i]/\(D7 c b [i]).Bg=[i]/\(D7 c b [i]).AI=[]:=λb i=>⟨rfl,rfl,rfl⟩;have F:=Vo A (w f sP) (i:=2) dC (u 2 dC) y nA;have I:∀t∈CC [] (D7 c f [2]),t=D7 c f [2]:=λt d=>A9.1 d;have G:=Vo F (w k sP) (i:=3) dC (u 3 dC) y (λt d=>by rw[I t d];exact⟨2,rfl,dC,rfl,rfl⟩);have J:∀t∈CC (CC [] (D7 c f [2])) (D7 c k [3]),t=D7 c f [2]\/t=D7 c k [3]:=λt d=>by have:t∈[D7 c f [2],D7 c k [3]]:=d;simpa using this
 have H:=Vo G (w r sP) (i:=4) dC (u 4 dC) y (λt d=>by rcases J t d with e|e;rw[e];exact⟨2,rfl,dC,rfl,rfl⟩;rw[e];exact⟨3,rfl,dC,rfl,rfl⟩)
 refine⟨H,λq o a _=> ?_⟩;have a:Am s q=sM o:=a;rw[p]at a;split at a;cases a;rfl;split at a;cases a;rfl;cases a
def C7(n:Int):Prop:= -9223372036854775808<=n/\n<=9223372036854775807
instance (n:Int):Decidable (C7 n):=by rw[C7];infer_instance
theorem AV5(n:Int):C7 (wrap64 n):=by grind[C7,wrap64]
theorem AV3{a:Int}(b:Int)(h:C7 a):C7 (a.tmod b):=by
 rw[C7]at h⊢;have d:=Int.natAbs_tmod a b;have e:=Nat.mod_le a.natAbs b.natAbs;rcases Int.le_total 0 a with q|q
 grind
 have:=Int.tmod_nonneg b (a:= -a) oG
 grind[Int.neg_tmod]
def AV2{c:Nat}{a b n:Int}(d:C7 a)(h:HN c a b=sM n):C7 n:=by
 rw[HN]at h
 repeat' split at h
 all_goals first|(cases h;first|exact AV5 _|exact AV3 _ d|decide)|cases h
def wv(v:AW):Prop:=(v=BH v.n/\C7 v.n)\/v=D1 v.l\/(3<=v.kind/\v.kind<=7/\v.n=0/\CB v.name)
theorem KF(n:Int)(h:C7 n:=by decide):wv (BH n):=.inl ⟨rfl,h⟩
theorem AGB{v}(h:wv v):C7 v.n:=by rcases h with h|h|h;exact h.2;rw[h];exact(by decide:C7 0);rw[h.2.2.1];decide
theorem AJb{l:AA AW}(h:∀v∈l,wv v)(i):C7 (l.getD i AZ).n:=by
 rw[DK];cases e:l[i]? with
 |none=>trivial
 |some v=>grind[AGB]
def S4(l):wv (D1 l):=.inr<|.inl rfl
def AGD(b:Bool):wv (NV b):=by cases b;exact KF 0;exact KF 1
theorem ABL{k n}(h:3<=k/\k<=7)(a:CB n)(l):wv (BZ k n l):=.inr<|.inr ⟨h.1,h.2,rfl,a⟩
structure BC(A:Nat)(c:Ay):Prop where
 fr:lN c.AG<=16
 st:lN c.stack<=A
 tr:lN c.AP<=A
 vs:∀v∈c.stack,wv v
 vf:∀f∈c.AG,lN f.Ai<=2000/\∀v∈f.Ai,wv v
structure BT(A:Nat)(t:AL):Prop where
 c:BC A t.c
 wt:t.Aw=1->lN t.c.stack+1<=A
 sc:lN t.AI<=A
 md:t.A7<=A
 sm:∀x∈t.AI,x.A7<=A/\x.Ao<=999/\x.Cg+1<=A
 rm:t.Ao<=999
 vv:2<=t.Aw->wv t.v
 on:t.Aw=1->CB t.on
 off:t.Aw≠1->t.on=[]
structure BO(A:Nat)(o:Ob):Prop where
 q:lN o.var.q<=A
 v3:o.kind=3\/o.kind=4->wv o.v
 v6:o.kind=6->o.done->wv o.v
 vf:o.var.full->wv o.var.v
 vq:∀w∈o.var.q,w.put->wv w.v
structure BK(A S:Nat)(AC:AA AL)(s:Az):Prop where
 ts:∀t∈AC,BT A t
 os:∀n o,Am s n=sM o->BO A o
 tl:lN AC<=A
 sl:lN s<=S
variable{A B S R:Nat}{c u:Ay}
theorem BC.mono(h:BC A c)(k:A<=B):BC B c:=⟨h.fr,Ch h.st k,Ch h.tr k,h.vs,h.vf⟩
theorem BT.mono{t}(h:BT A t)(k:A<=B):BT B t:=⟨h.c.mono k,λq=>Ch (h.wt q) k,Ch h.sc k,Ch h.md k,λx a=>⟨Ch (h.sm x a).1 k,(h.sm x a).2.1,Ch (h.sm x a).2.2 k⟩,h.rm,h.vv,h.on,h.off⟩
theorem BO.mono{o}(h:BO A o)(k:A<=B):BO B o:=⟨Ch h.q k,h.v3,h.v6,h.vf,h.vq⟩
theorem BK.mono{a s}(h:BK A S a s)(k:A<=B)(r:S<=R):BK B R a s:=⟨λt d=>(h.ts t d).mono k,λn o b=>(h.os n o b).mono k,Ch h.tl k,Ch h.sl r⟩
theorem JJ(h:BC A c){v}(b:wv v):BC (A+1) (Df c v) where
 fr:=h.fr
 st:=by show(c.stack++[v]).length<=_;rw[CK];have:=h.st;simp;omega
 tr:=Ch h.tr<|Cv _
 vs:=λx a=>by
  rcases Bc.1 a with a|a;exact h.vs x a
  grind
 vf:=h.vf
def ACP(h:BC A c)(n):BC A (FR c n):=⟨h.fr,by show(c.stack.take _).length<=_;rw[Cu];have:=h.st;omega,h.tr,λv a=>h.vs v<|Fg a,h.vf⟩
def W9(h:BC A c)(n):∀v∈Ct c n,wv v:=λv a=>h.vs v<|Mx a
theorem N1{n}(h:HQ c n):lN (Ct c n)=n:=by grind[HQ,Ct]
theorem ZE{l:AA AW}(h:∀v∈l,wv v){i}(a:i<lN l):wv (l.getD i AZ):=by grind
theorem Rj(h:BC A c){f}(b:∀x,(lN x.Ai<=2000/\∀v∈x.Ai,wv v)->lN (f x).Ai<=2000/\∀v∈(f x).Ai,wv v):BC A (D4 c f) where
 fr:=by show(c.AG.modify _ f).length<=16;rw[N8];exact h.fr
 st:=h.st
 tr:=h.tr
 vs:=h.vs
 vf:=λx a=>by
  have a:x∈c.AG.modify (lN c.AG-1) f:=a;let⟨i,hi⟩:=ABd a;rw[RP]at hi;cases e:c.AG[i]? with
  |none=>grind
  |some y=>
   rw[e]at hi;have d:=h.vf y<|De e
   grind
def AQj(h:BC A c)(f g t):BC A (Ee c f g t) where
 fr:=by show(c.AG.take f).length<=16;rw[Cu];have:=h.fr;omega
 st:=by show(c.stack.take g).length<=A;rw[Cu];have:=h.st;omega
 tr:=by show(c.AP.take t).length<=A;rw[Cu];have:=h.tr;omega
 vs:=λv a=>h.vs v<|Fg a
 vf:=λx b=>h.vf x<|Fg b
theorem Vi(h:BC A c){j g a e}(i:Gc c j g a e=sM u)(m:∀v∈a,wv v)(n:lN a<=1900):BC A u:=by rw[Gc]at i;split at i;cases i;rename_i l;cases i;refine⟨by grind,h.st,h.tr,h.vs,λf b=> ?_⟩;rcases Bc.1 b with b|b;exact h.vf f b;rw[A9.1 b];refine⟨by grind,λv d=> ?_⟩;rcases Bc.1 d with d|d;exact m v d;rw[(List.mem_replicate.1 d).2];exact KF 0
def AHf(h:BC A c):BC A (Ei c) where
 fr:=by show(c.AG.take _).length<=16;rw[Cu];have:=h.fr;omega
 st:=by show(c.stack.take _).length<=A;rw[Cu];have:=h.st;omega
 tr:=Ch (RQ _ _) h.tr
 vs:=λv a=>h.vs v<|Fg a
 vf:=λx b=>h.vf x<|Fg b
theorem AQn(h:BC A c)(n:lN c.stack+1<=A){a:Int}{d:Nat}(m:C7 a)(b:NU c a d=sM u):BC A u:=by
 rw[NU]at b;split at b;cases b;rename_i t _;split at b;cases b;split at b;cases b;cases b;refine⟨?_,?_,?_,λv j=> ?_,λf g=> ?_⟩;show(KC (c.AG.take t.AG) _ _).length<=16;rw[KC];rw[N8,Cu];have:=h.fr;omega
 grind
 show(c.AP.take _).length<=A;rw[Cu];have:=h.tr;omega;rcases Bc.1 j with j|j;exact h.vs v<|Fg j
 grind[KF]
 have g:f∈KC (c.AG.take t.AG) (t.AG-1) t.at_:=g;rw[KC]at g;let⟨i,l⟩:=ABd g;rw[RP]at l;cases e:(c.AG.take t.AG)[i]? with
 |none=>grind
 |some y=>
  rw[e]at l;have o:=h.vf y<|Fg<|De e
  grind
theorem AHe(h:BC A c)(b:lN c.stack+1<=A){code:Int}{A2:Nat}(a:C7 code):BC A (FF c code A2).1:=by grind[FF,AQn]
def AQl(h:BC A c){a:Int}{b:Nat}(d:C7 a):BC (A+1) (FF c a b).1:=AHe (h.mono<|Cv _) (O6 h.st) d
structure Ie(im:A6):Prop where
 cs:∀v∈im.DN,wv v
 ar:∀f∈im.Ax,f.args<=1000
def AQi(h:BC A c)(a o):BC A (Fl a c o):=Rj (ACP h _) λ_ h=>h
theorem AOE{im o f}(h:c.top=sM f):∃g,(Fl im c o).top=sM g/\g.Ai=f.Ai:=by
 have:(Fl im c o).AG=c.AG.modify (lN c.AG-1) λf=>{f with pc:=f.pc+1}:=rfl
 grind[Ay.top]
def AUO{b}(a:Ie b)(i):(b.Ax.getD i Al).args<=1000:=by
 rw[DK];cases e:b.Ax[i]? with
 |none=>exact Bm _
 |some f=>exact a.ar f<|De e
theorem AQk{d:A6}(g:Ie d){o:Op}{l:AA AW}{b}(h:BC A c)(s:∀v∈l,wv v)(D:lN l=CU d o)(y:o.code=1->o.a<lN d.DN)(z:o.code=2->o.a<lN (c.top.getD Al).Ai/\c.AG≠[])(a:HU d c o l b=.inl u):BC (A+2) u:=by
 have p:∀i,i<CU d o->wv (l.getD i AZ):=λi F=>ZE s oG;have r:o.code≠17->CU d o=BP o.code:=λq=>by unfold CU;rw[AY q]
 unfold HU at a;dsimp only at a;split at a;rename_i e;cases a;refine(JJ h ?_).mono oG;have:=y e;rw[DK,BS this];exact g.cs _<|DR this;rename_i e;cases a;refine(JJ h ?_).mono oG;let⟨q1,q2⟩:=z e;have:∃f,c.top=sM f:=by
  unfold Ay.top;cases C:c.AG.getLast? with
  |none=>exact absurd (S8.1 C) q2
  |some f=>exact⟨f,rfl⟩
 let⟨f,w⟩:=this;rw[w]at q1⊢;simp only[TH]at q1⊢;rw[DK,BS q1];exact(h.vf f<|ABj w).2 _<|DR q1;rename_i e;cases a;have t:wv (l.getD 0 AZ):=p 0 (by rw[r oG,e];decide);refine(Rj h λx n=>⟨by show(x.Ai.set _ _).length<=2000;rw[ABh];exact n.1,λv m=> ?_⟩).mono oG;rcases ABl m with m|m;exact n.2 v m;rw[m];exact t
 grind[BC.mono]
 rename_i e;cases a;have t:wv (l.getD 0 AZ):=p 0 (by rw[r oG,e];decide)
 grind[JJ]
 rename_i e;cases a;have t:wv (l.getD 0 AZ):=p 0 (by rw[r oG,e];decide);have G:wv (l.getD 1 AZ):=p 1 (by rw[r oG,e];decide)
 grind[JJ]
 cases a;exact(JJ h<|AGD _).mono<|Cv _
 all_goals try(
  split at a;split at a;rename_i j;cases a;exact(JJ h<|KF _<|AV2 (AJb s 0) j).mono oG;cases a;cases a)
 split at a;cases a;exact(JJ h<|AGD _).mono<|Cv _;cases a;cases a;exact BC.mono (A:=A) (by grind[Rj])<|VQ A 2;split at a;split at a;cases a;exact BC.mono (A:=A) (by grind[Rj])<|VQ A 2
 grind[BC.mono]
 cases a;rename_i e;split at a;rename_i H E;cases a;refine(Vi h E s ?_).mono oG;rw[D];unfold CU;rw[Ac e,e];have:=AUO g o.a;show BP 17+_<=1900;have:BP 17=0:=rfl;omega;cases a
 grind
 cases a;refine⟨h.fr,Ch h.st oG,?_,h.vs,h.vf⟩;show(c.AP++[_]).length<=A+2;rw[CK];have:=h.tr;simp;omega;cases a;split;refine⟨h.fr,Ch h.st oG,?_,h.vs,h.vf⟩;show(c.AP.take _).length<=A+2;rw[Cu];have:=h.tr;omega;exact h.mono oG;split at a;cases a;exact(JJ h<|S4 _).mono oG;cases a;split at a;cases a;exact(JJ h<|S4 _).mono oG;cases a;split at a;cases a;exact(JJ h<|AGD _).mono<|Cv _;cases a;split at a;cases a;exact(JJ h<|S4 _).mono oG;cases a;cases a;exact BC.mono (A:=A) (by grind[Rj])<|VQ A 2;cases a;exact(JJ h<|KF _ (by unfold C7;have:=((c.top.getD Al).AR).toNat_lt;omega)).mono oG
 grind[BC.mono]
def AaB{f o l}{a:Nat}{code:Int}(d:∀v∈l,wv v)(b:HU f c o l a=.inr code):C7 code:=by
 unfold HU at b;dsimp only at b
 repeat' split at b
 all_goals first|(cases b;first|exact (AJb d 0)|decide)|cases b
theorem AJL{a c o}(h:JM a c=sM o):∃f b,c.top=sM f/\a.Ax[f.fn]? =sM b/\b.code[f.pc]? =sM o/\IY o/\Iq a f o/\HQ c (CU a o):=by grind[JM]
theorem AQm{j}(q:Ie j)(h:BC A c)(b d):BC (A+2) (Es j c b d).1/\∀v,((Es j c b d).2=.ended v\/(Es j c b d).2=.failed v)->wv v:=by
 rw[Es];split;refine⟨h.mono oG,λv l=> ?_⟩;rcases l with l|l<;>cases l;exact KF (-6);rename_i o C;let⟨f,F,w,z,D,G,a,i⟩:=AJL C;split;refine⟨h.mono oG,λv l=> ?_⟩
 grind
 split;rename_i e;have l:wv ((Ct c 1).getD 0 AZ):=by
  have:CU j o=1:=by rw[CU];rw[AY oG,e];rfl
  rw[this]at i;exact ZE (W9 h 1) (by rw[N1 i];decide)
 dsimp only;split;refine⟨(AHf h).mono oG,λv s=> ?_⟩
 grind
 refine⟨(JJ (AHf h) l).mono oG,λv s=> ?_⟩
 grind
 have x:=AQi h j o;have r:(Fl j c o).AG≠[]:=by let⟨g,m,_⟩:=AOE (im:=j) (o:=o) w;intro e;rw[Ay.top]at m;rw[e]at m;cases m
 split;rename_i u E;refine⟨AQk q x (W9 h _) (N1 i) (λe=> ?_) (λe=>⟨?_,r⟩) E,λv l=> ?_⟩;rw[Iq]at a;rw[e]at a;have a:decide (o.a<lN j.DN):=a;simpa using a;let⟨g,m,p⟩:=AOE (im:=j) (o:=o) w;rw[m];show o.a<lN g.Ai;rw[p];rw[Iq]at a;rw[e]at a;have a:decide (o.a<lN f.Ai):=a;simpa using a
 grind
 rename_i t y;have n:=AaB (W9 h _) y;refine⟨(AQl h n).mono oG,λv l=> ?_⟩
 grind[XA,KF]
structure BL(A S:Nat)(k:Call):Prop where
 t:BT A k.t
 o:∀n ob,Am k.s n=sM ob->BO A ob
 s:lN k.s<=S
structure BE(e:Eff):Prop where
 fk:lN e.BU<=1/\∀u∈e.BU,BT 20 u
 wk:lN e.BY<=1/\∀w∈e.BY,lN w.2<=1/\∀v∈w.2,wv v
 ou:lN e.out<=1/\∀x∈e.out,wv x.2/\A4 x.1=x.1/\A4 x.2.l=x.2.l
 lg:lN e.Bo<=1
structure BR(A S:Nat)(r:CR):Prop where
 l:BL (A+1) (S+1) r.1
 e:BE r.1.e
 st:r.2≠nO->r.1.t.Aw=0/\∀c,r.2=sM c->C7 c
def BE.zero:BE A8:=⟨⟨dC,nA⟩,⟨dC,nA⟩,⟨dC,nA⟩,dC⟩
theorem BL.mono(h:BL A S k)(p:A<=B)(q:S<=R):BL B R k:=⟨h.t.mono p,λn o a=>(h.o n o a).mono p,Ch h.s q⟩
def BT.core{t}(h:BT A t)(b:t.Aw≠1){d}(a:BC B d)(k:A<=B):BT B {t with c:=d}:=
 ⟨a,λq=>(b q).elim,(h.mono k).sc,(h.mono k).md,(h.mono k).sm,h.rm,h.vv,h.on,h.off⟩
def BL.core(h:BL A S k)(b:k.t.Aw≠1){d}(a:BC B d)(p:A<=B):BL B S {k with t:={k.t with c:=d}}:=⟨h.t.core b a p,(h.mono p<|Ag _).o,h.s⟩
def BL.push(h:BL A S k)(a:k.t.Aw≠1){v}(b:wv v):BL (A+1) S (k.push v):=h.core a (JJ h.t.c b)<|Cv _
def BL.Bp(h:BL A S k)(g):BL A S (k.Bp g):=⟨⟨h.t.c,h.t.wt,h.t.sc,h.t.md,h.t.sm,h.t.rm,h.t.vv,h.t.on,h.t.off⟩,h.o,h.s⟩
theorem BL.waits(h:BL A S k){n}(a:CB n)(b:k.t.Aw=0):BL (A+1) S (FG k n):=
 ⟨⟨h.t.c.mono<|Cv _,λ_=>O6 h.t.c.st,LM h.t.sc,LM h.t.md,(h.t.mono<|Cv _).sm,h.t.rm,(λq=>absurd q<|by show¬2<=1;decide),(λ_=>a),λq=>(q rfl).elim⟩,(h.mono (Cv _)<|Ag _).o,h.s⟩
theorem UG(s n o):lN (Cy s n o)<=lN s+1:=by grind[Cy]
theorem AEN(s n o):lN (Cn s n o)=lN s:=by grind[Cn]
theorem Vn{s}(h:∀n ob,Am s n=sM ob->BO A ob){n o}(a:BO A o):∀q ob,Am (Cy s n o) q=sM ob->BO A ob:=by grind[Ew,OF,I3]
theorem ACY{s}(h:∀n ob,Am s n=sM ob->BO A ob){n o}(a:BO A o):∀q ob,Am (Cn s n o) q=sM ob->BO A ob:=by grind[PV]
def BL.set(h:BL A S k)(p:A<=B){n o}(a:BO B o):BL B S {k with s:=Cn k.s n o}:=⟨h.t.mono p,ACY (h.mono p<|Ag _).o a,by show(Cn k.s n o).length<=S;rw[AEN];exact h.s⟩
def AGC{v}(h:wv v)(a:3<=v.kind):CB v.name:=by rcases h with h|h|h;rw[h.1]at a;trivial;rw[h]at a;trivial;exact h.2.2.2
theorem AV4(s l):C7 (Et s l).2:=by grind[Et,C7]
theorem AD1(s l):C7 (Dh s l):=by grind[Dh,C7]
theorem AVx(s l):C7 (Rm s l).2:=by grind[Rm,C7,AD1]
theorem AV1(s l):C7 (KW s l).2:=by grind[KW,C7]
theorem AVy(s l p):C7 (Ih s l p).2.1:=by grind[Ih,C7]
theorem AV0(s l p):C7 (Il s l p).2.1:=by grind[Il,C7]
theorem AVz{t}{g d:Nat}{a b l}{x y:Int}{f:Nat}{e:Int}(h:Js t g d a b l x y f=.inr e):C7 e:=by grind[Js,C7,AD1]
def BR.Cq(h:BL A S k)(b:k.e=A8)(a:k.t.Aw=0)(x)(d:∀c,x=sM c->C7 c:=by(intro c q;cases q<;>with_reducible first|exact AV4 _ _|exact AD1 _ _|exact AVx _ _|exact AV1 _ _|exact AVy _ _ _|exact AV0 _ _ _|decide)):BR A S (k,x):=⟨h.mono (Cv _)<|Cv _,by show BE k.e;rw[b];exact .zero,λ_=>⟨a,d⟩⟩
def AH4(h:BL A S k)(b:k.e=A8)(a:k.t.Aw=0){l f}(d:∀g,BR A S<|f<|k.Bp g):BR A S (G1 k l f):=by rw[G1];split;exact .Cq h b a _;exact d _
def AH3(h:BL A S k)(b:k.e=A8)(a:k.t.Aw=0){l f}(d:∀g,BR A S<|f<|k.Bp g):BR A S (Ga k l f):=by rw[Ga];split;exact .Cq h b a _;exact d _
theorem ACd{t u n}(h:BT A t)(d:GI t=sM (u,n))(a:t.Aw=0):BT (A+1) u/\u.Aw=0/\CB n/\u.A7=t.A7+1/\u.Ao=t.Ao-1:=by let⟨e,b,_⟩:=Mf d;subst e;exact⟨⟨h.c.mono<|Cv _,gR,LM h.sc,O6 h.md,(h.mono<|Cv _).sm,by show t.Ao-1<=999;have:=h.rm;omega,λq=>by grind,(λq=>by grind),λq=>h.off q⟩,a,(AIL b).2,rfl,rfl⟩
def Ya(h:BL A S k)(b:k.e=A8)(a:k.t.Aw=0){o}(i:BO A o)(g:3<=o.kind/\o.kind<=7):BR A S (Fv k o):=by
 rw[Fv];split;exact .Cq h b a _;split;exact .Cq h b a _;rename_i t n f;let⟨q1,q2,q3,q4,q5⟩:=ACd h.t f a;let⟨e,d,_⟩:=Mf f;refine⟨?_,by show BE k.e;rw[b];exact .zero,λq=>(q rfl).elim⟩;refine⟨?_,Vn (h.mono (Cv A)<|Ag _).o<|i.mono<|Cv _,Ch (UG _ _ _)<|O6 h.s⟩;have d:BC (A+1) (Df t.c<|BZ o.kind n o.l):=by rw[e];exact JJ h.t.c<|ABL g q3 _
 exact q1.core oG d<|Ag _
def Yb(h:BL A S k)(b:k.e=A8)(a:k.t.Aw=0){x f}(j:∀g o,Am k.s x.name=sM o->o.kind=x.kind->o.l=x.l->BR A S (f (k.Bp g) o)):BR A S (Ff k x f):=by refine AH4 h b a λg=> ?_;split;refine⟨((h.Bp g).push (by show k.t.Aw≠1;omega)<|KF 0).mono (Ag _)<|Cv _,by show BE k.e;rw[b];exact .zero,λq=>(q rfl).elim⟩;rename_i o l;let⟨d,e,i⟩:=HV l;exact j g o d e i
def AH5(h:BL A S k)(b:k.e=A8)(a:k.t.Aw=0){o}(d:wv o.v):BR A S (Ej k o):=by rw[Ej];split;exact .Cq h b a _ (λc q=>by cases q;exact AGB d);exact⟨(h.push oG d).mono (Ag _)<|Cv _,by show BE k.e;rw[b];exact .zero,λq=>(q rfl).elim⟩
def ADI{l:AA Wt}{P:Wt->Prop}(h:∀w∈l,P w)(i:Nat):∀w∈l.eraseIdx i,P w:=λw a=>h w<|ABk a
theorem ADH{a:Type}(l:AA a)(i):lN (l.eraseIdx i)<=lN l:=by grind
theorem Aci{a}(h:BO A a)(n)(o:a.kind=5):BO (A+1) {a with var:=(GN a.var n).1}/\∀v,(GN a.var n).2.1=sM v->wv v:=by
 have j: ¬(a.kind=3\/a.kind=4):=oG;have l: ¬a.kind=6:=oG;rw[GN];split;rename_i b;refine⟨⟨by show(a.var.q++[_]).length<=A+1;rw[CK];have:=h.q;simp;omega,λq=>(j q).elim,λq=>(l q).elim,h.vf,λw f g=> ?_⟩,λv e=>by cases e⟩;rcases Bc.1 f with f|f;exact h.vq w f g
 grind
 rename_i b;have b:a.var.full:=by simpa using b
 split;refine⟨⟨LM h.q,λq=>(j q).elim,λq=>(l q).elim,λq=>(by cases q),h.vq⟩,λv e=> ?_⟩;cases e;exact h.vf b;rename_i i m;have d:=(Lv.1 m).1;refine⟨⟨LM<|Ch (ADH _ _) h.q,λq=>(j q).elim,λq=>(l q).elim,λ_=> ?_,ADI (P:=λw=>w.put->wv w.v) h.vq i⟩,λv e=> ?_⟩;show wv (a.var.q.getD i Al).v;rw[DK,BS d];exact h.vq _ (DR d)<|(Lv.1 m).2.1;cases e;exact h.vf b
theorem AaF{a}(h:BO A a)(j)(m:a.kind=5){y}(g:wv y):BO (A+1) {a with var:=(Gg a.var j y).1}:=by
 have d: ¬(a.kind=3\/a.kind=4):=oG;have e: ¬a.kind=6:=oG;rw[Gg];split;refine⟨by show(a.var.q++[_]).length<=A+1;rw[CK];have:=h.q;simp;omega,λq=>(d q).elim,λq=>(e q).elim,h.vf,λw b f=> ?_⟩;rcases Bc.1 b with b|b;exact h.vq w b f
 grind
 split;exact⟨LM h.q,λq=>(d q).elim,λq=>(e q).elim,λ_=>g,h.vq⟩;rename_i i l;exact⟨LM<|Ch (ADH _ _) h.q,λq=>(d q).elim,λq=>(e q).elim,h.vf,ADI (P:=λw=>w.put->wv w.v) h.vq i⟩
theorem AHg(k)(b:k.e=A8)(a){l}(d:lN l<=1/\∀v∈l,wv v):BE (EO k a l).e/\(EO k a l).t=k.t/\(EO k a l).s=k.s:=by rw[EO];split;rw[b];exact⟨.zero,rfl,rfl⟩;refine⟨?_,rfl,rfl⟩;show BE {k.e with BY:=k.e.BY++[(a,l)]};rw[b];exact{BE.zero with wk:=by grind[A8]}
def AHp(h:BL A S k)(a l):BL A S (EO k a l):=by rw[EO];split;exact h;exact⟨h.t,h.o,h.s⟩
theorem ARK{t u}{m g:Nat}{arg e l}{b f:Int}{j:Nat}(h:BT A t)(i:t.Aw=0)(z:wv arg)(a:Js t m g arg e l b f j=.inl u):BT (A+1) u:=by
 rw[Js]at a;split at a;cases a;split at a;cases a;rename_i C;split at a;cases a;split at a;cases a;rename_i E n r;split at a;cases a;split at a;cases a;rename_i c p;let⟨q1,q2,q3,q4,q5⟩:=ACd h r i;cases a;refine⟨(Vi h.c p (λv D=>by grind) sP).mono<|Cv _,λq=>absurd q gR,?_,Bm _,λx d=> ?_,by grind,λq=>absurd q gR,(λq=>absurd q gR),λq=>q1.off q⟩;show(t.AI++[_]).length<=A+1;rw[CK];have:=h.sc;simp;omega;rcases Bc.1 d with d|d;exact(h.mono<|Cv _).sm x d;rw[A9.1 d];have s:=h.md;have w:=h.rm;have y:=h.c.st
 grind
def Tc{kind l v fn AR}(a:kind=3\/kind=4->wv v):BO A {Db with kind:=kind,l:=l,v:=v,fn:=fn,AR:=AR}:=
 ⟨Bm _,a,λ_ q=>(by cases q),λq=>(by cases q),λw b=>(by cases b)⟩
def AH7(n g){c}(b:BC 20 c){a}(d:a<=999):BT 20 (Jw n g c a):=⟨b,(λq=>by cases q),Bm _,Bm _,nA,d,(λq=>absurd q<|by show¬2<=0;decide),(λq=>by cases q),λ_=>rfl⟩
theorem ACO:BC 20 ⟨[],[],[]⟩:=by constructor<;>grind
theorem AHY{im AD o AR l}(h:BL A S k)(b:k.e=A8)(a:k.t.Aw=0)(r:∀i,i<BP o.code->wv (l.getD i AZ))(J:∀i,i<BP o.code->A4 (l.getD i AZ).l=(l.getD i AZ).l):BR A S (CO im AD o AR l k):=by
 have p:BE k.e:=by rw[b];exact .zero
 have z:k.t.Aw≠1:=oG;rw[CO];dsimp only;split;exact⟨(h.push z<|S4 _).mono (Ag _)<|Cv _,p,λq=>(q rfl).elim⟩;exact⟨(h.push z<|S4 _).mono (Ag _)<|Cv _,p,λq=>(q rfl).elim⟩;split;exact .Cq h b a _;exact AH4 h b a λg=>.Cq (h.Bp g) b a _;split;exact .Cq h b a _;split;exact .Cq h b a _;exact BR.Cq (h.Bp (KW k.t.g (l.getD 0 AZ).l).1) b a nO;rename_i e;split;exact .Cq h b a _;exact Ya h b a (Tc λ_=>r 0<|by rw[e];decide) (by simp);split;exact .Cq h b a _;rename_i I;refine Yb h b a λg j m F G=>AH5 (h.Bp g) b a<|(h.o _ _ m).v3<|.inl oG;rename_i e;split;exact .Cq h b a _;exact Ya h b a (Tc λ_=>r 0<|by rw[e];decide) (by simp);split;exact .Cq h b a _;rename_i I;exact Yb h b a λg j m F G=>⟨((h.Bp g).push z<|(h.o _ _ m).v3<|.inr oG).mono (Ag _)<|Cv _,p,λq=>(q rfl).elim⟩;rename_i e;split;exact .Cq h b a _;split;exact .Cq h b a _;split;rename_i I _ _ j y;let⟨m,F,G⟩:=HV y;have E:=h.o _ _ m;refine .Cq (h.set (o:={j with v:=l.getD 1 AZ}) (Ag _) ⟨E.q,λ_=>r 1<|by rw[e];decide,λq=>absurd q gR,E.vf,E.vq⟩) b a _;exact .Cq h b a _;split;exact .Cq h b a _;simp_all[Ya,Tc,dC];rename_i e;split;exact .Cq h b a _;rename_i I;have D:wv (l.getD 0 AZ):=r 0 (by rw[e];decide);have x:=AGC D oG;refine AH3 h b a λg=> ?_;split;exact⟨((h.Bp g).waits x a).mono (Ag _)<|Cv _,p,λq=>(q rfl).elim⟩;rename_i j y;let⟨m,F,G⟩:=HV y;let⟨N,Y⟩:=Aci (h.o _ _ m) k.t.id oG;have f:=(h.Bp g).set (Cv A) (n:=(l.getD 0 AZ).name) N;split
 have C:BL (A+1) S (FG {k.Bp g with s:=Cn (k.Bp g).s (l.getD 0 AZ).name {j with var:=(GN j.var k.t.id).1}} (l.getD 0 AZ).name):=
  ⟨((h.Bp g).waits x a).t,f.o,f.s⟩
 exact⟨C.mono (Ag _)<|Cv _,p,λq=>(q rfl).elim⟩;rename_i v H;have V:BL (A+1) S ({k.Bp g with s:=Cn (k.Bp g).s (l.getD 0 AZ).name {j with var:=(GN j.var k.t.id).1}}.push v):=⟨((h.Bp g).push z<|Y v H).t,f.o,f.s⟩;exact⟨(AHp V _ _).mono (Ag _)<|Cv _,(by refine(AHg _ ?_ _ ⟨sP,nA⟩).1;exact b),λq=>(q rfl).elim⟩;rename_i e;split;exact .Cq h b a _;rename_i I;have D:wv (l.getD 0 AZ):=r 0 (by rw[e];decide);have W:wv (l.getD 1 AZ):=r 1 (by rw[e];decide);have x:=AGC D oG;refine AH3 h b a λg=> ?_;split;exact⟨((h.Bp g).waits x a).mono (Ag _)<|Cv _,p,λq=>(q rfl).elim⟩;rename_i j y;let⟨m,F,G⟩:=HV y;have f:=(h.Bp g).set (Cv A) (n:=(l.getD 0 AZ).name)<|AaF (h.o _ _ m) k.t.id oG W;split;have C:BL (A+1) S (FG {k.Bp g with s:=Cn (k.Bp g).s (l.getD 0 AZ).name {j with var:=(Gg j.var k.t.id<|l.getD 1 AZ).1}} (l.getD 0 AZ).name):=
  ⟨((h.Bp g).waits x a).t,f.o,f.s⟩
 exact⟨C.mono (Ag _)<|Cv _,p,λq=>(q rfl).elim⟩;exact⟨(AHp f _ _).mono (Ag _)<|Cv _,(by refine(AHg _ ?_ _ gR).1;exact b),λq=>(q rfl).elim⟩;rename_i e;split;exact .Cq h b a _;split;exact .Cq h b a _;split;exact .Cq h b a _;split;exact .Cq h b a _;rename_i X _ t n O;have D:wv (l.getD 0 AZ):=r 0 (by rw[e];decide);let⟨q1,q2,q3,q4,q5⟩:=ACd h.t O a;let⟨Q,hc,_⟩:=Mf O;have U:BC 20 ((Gc ⟨[],[],[]⟩ o.a (varsOf im o.a) [l.getD 0 AZ] AR).getD ⟨[],[],[]⟩):=by
  cases P:Gc ⟨[],[],[]⟩ o.a (varsOf im o.a) [l.getD 0 AZ] AR with
  |none=>exact ACO
  |some u=>exact Vi ACO P (λv H=>by grind) sP
 refine⟨?_,?_,λq=>(q rfl).elim⟩;have M:BT (A+1) {t with Ao:=t.Ao-(l.getD 1 AZ).n.toNat}:=⟨q1.c,q1.wt,q1.sc,q1.md,q1.sm,by show t.Ao-_<=999;have:=q1.rm;omega,q1.vv,q1.on,q1.off⟩;refine⟨?_,Vn (h.mono (Cv A)<|Ag _).o<|Tc λq=>absurd q dC,Ch (UG _ _ _)<|O6 h.s⟩;have K:BC (A+1) (Df t.c<|BZ 6 n (l.getD 2 AZ).l):=by rw[Q];exact JJ h.t.c<|ABL dC q3 _
 exact M.core (by show t.Aw≠1;omega) K<|Ag _;show BE {k.e with BU:=k.e.BU++[_]};rw[b];exact{BE.zero with fk:=by simp_all[A8,Bc,A9,AH7,oG]};rename_i e;split;exact .Cq h b a _;rename_i I;have D:wv (l.getD 0 AZ):=r 0 (by rw[e];decide);refine Yb h b a λg j m F G=> ?_;split;rename_i L;exact AH5 (h.Bp g) b a<|(h.o _ _ m).v6 oG L;exact⟨((h.Bp g).waits (AGC D oG) a).mono (Ag _)<|Cv _,p,λq=>(q rfl).elim⟩;rename_i e;split;exact .Cq h b a _;split;rename_i t M;exact⟨⟨ARK h.t a (r 0<|by rw[e];decide) M,(h.mono (Cv _)<|Ag _).o,LM h.s⟩,p,λq=>(q rfl).elim⟩;rename_i Z D;exact .Cq h b a _ (λc q=>by cases q;exact AVz D);rename_i e;split;exact .Cq h b a _;split;exact .Cq h b a _;refine⟨⟨h.t.mono<|Cv _,(h.mono (Cv _)<|Ag _).o,LM h.s⟩,?_,λq=>(q rfl).elim⟩;show BE {k.e with out:=k.e.out++[_]};rw[b]
 exact{BE.zero with ou:=⟨by simp[A8],λw C=>by rcases Bc.1 C with C|C;cases C;rw[A9.1 C];exact⟨r 0<|by rw[e];decide,J 1<|by rw[e];decide,J 0<|by rw[e];decide⟩⟩}
 split;exact .Cq h b a _;split;exact .Cq h b a _;refine⟨⟨((h.Bp _).mono (Cv _) (Cv _):BL (A+1) (S+1) _).t,(h.mono (Cv A)<|Cv S).o,(h.mono (Cv A)<|Cv S).s⟩,?_,λq=>(q rfl).elim⟩;show BE<|if _ then{k.e with Bo:=k.e.Bo++[_]}else k.e;split;rw[b];exact{BE.zero with lg:=by simp[A8]};exact p;split;exact .Cq h b a _;split;exact .Cq h b a _;refine⟨⟨((h.Bp _).mono (Cv _) (Cv _):BL (A+1) (S+1) _).t,(h.mono (Cv A)<|Cv S).o,(h.mono (Cv A)<|Cv S).s⟩,?_,λq=>(q rfl).elim⟩;show BE<|if _ then{k.e with Bo:=k.e.Bo++[_]}else k.e;split;rw[b];exact{BE.zero with lg:=by simp[A8]};exact p;split;exact .Cq h b a _;simp_all[Ya,Tc,dC];rename_i e;split;exact .Cq h b a _;refine Yb h b a λg j m F G=> ?_;split;rename_i d L;exact⟨((h.Bp g).core z (Vi (c:=k.t.c) h.t.c L (λv H=>by rw[A9.1 H];exact r 0<|by rw[e];decide) sP)<|Ag _).mono (Cv _)<|Cv _,p,λq=>(q rfl).elim⟩;exact .Cq (h.Bp g) b a _;exact .Cq h b a _
theorem ADS(h:BL A S k){v}(d:wv v)(ex:Bool):BL A S (E7 k v ex):=by
 have hb:BT A (Fq k.t v ex):=by
  have b:(Fq k.t v ex).Aw≠1/\2<=(Fq k.t v ex).Aw:=by show(if 0<k.t.AI.length then 2 else if ex then 4 else 3)≠1/\2<=(if 0<k.t.AI.length then 2 else if ex then 4 else 3);split;decide;split<;>decide
  exact⟨h.t.c,λq=>(b.1 q).elim,h.t.sc,h.t.md,h.t.sm,h.t.rm,λ_=>d,(λq=>(b.1 q).elim),λ_=>rfl⟩
 rw[E7];dsimp only;split;exact⟨hb,h.o,h.s⟩
 .refine⟨hb,?_,?_⟩
  .show∀n ob,Am (match Am k.s (Fq k.t v ex).id with|some o=>if o.kind=6 then Cn k.s (Fq k.t v ex).id {o with v:=v,ex:=ex,done:=true}else k.s|none=>k.s) n=some ob->BO A ob;split;rename_i o e;split;rename_i f;have a:=h.o _ _ e;exact ACY h.o ⟨a.q,gR,λ_ _=>d,a.vf,a.vq⟩;exact h.o;exact h.o
  .show(match Am k.s (Fq k.t v ex).id with|some o=>if o.kind=6 then Cn k.s (Fq k.t v ex).id {o with v:=v,ex:=ex,done:=true}else k.s|none=>k.s).length<=S;split;split;rw[AEN];exact h.s;exact h.s;exact h.s
theorem ADU(k v)(a:Bool):(E7 k v a).e.out=k.e.out:=by grind[E7]
theorem AaS(k c)(b:Int)(a:Nat):(EH k c b a).e.out=k.e.out:=by grind[EH,ADU]
def AMW(h:BL B S k)(f:k.t.Aw≠1)(i:BC B c)(p:lN c.stack+1<=B)(b:Int)(a:Nat)(d:C7 b):BL B S (EH k c b a):=by have g:=AHe i p (code:=b) (A2:=a) d;rw[EH];rcases XA c b a with q|⟨q,q2⟩;have e:FF c b a=((FF c b a).1,.Iu):=Prod.ext rfl q;rw[e];exact h.core f g<|Ag _;have e:FF c b a=((FF c b a).1,.failed<|BH b):=Prod.ext rfl q;rw[e];exact ADS (h.core f g<|Ag _) (KF _ d) _
def ACQ{e e'}(h:BE e)(a:e'.BU=e.BU)(b:e'.BY=e.BY)(d:e'.out=e.out)(f:e'.Bo=e.Bo):BE e':=⟨by rw[a];exact h.fk,by rw[b];exact h.wk,by rw[d];exact h.ou,by rw[f];exact h.lg⟩
theorem AC6{im}(j:Ie im){t s AD}(d:BT A t)(p:t.Aw=0)(H:∀n o,Am s n=sM o->BO A o)(I:lN s<=S)(l:∀v∈t.c.stack,A4 v.l=v.l):BL (A+2) (S+1) (C6 im t s AD)/\BE (C6 im t s AD).e:=by
 have y:BL A S ⟨s,t,A8⟩:=⟨d,H,I⟩;have e:t.Aw≠1:=oG;let⟨E,z⟩:=AQm j d.c (CV t).1 (CV t).2;have g:BL (A+2) (S+1) ⟨s,{t with c:=(Es im t.c (CV t).1 (CV t).2).1},A8⟩:=(y.core e E oG).mono (Ag _)<|Cv _;rw[C6];rw[AY oG];dsimp only;cases m:(Es im t.c (CV t).1 (CV t).2).2 with
 |Iu=>exact⟨g,.zero⟩
 |ended v=>exact⟨ADS g (z v<|.inl m) _,ACQ .zero (MW _ _ _).2.1 (MW _ _ _).2.2 (ADU _ _ _) (MW _ _ _).1⟩
 |failed v=>exact⟨ADS g (z v<|.inr m) _,ACQ .zero (MW _ _ _).2.1 (MW _ _ _).2.2 (ADU _ _ _) (MW _ _ _).1⟩
 |asked o=>
  let⟨F,D,_⟩:=AAt m;have a:=ADY F;have w:CU im o=BP o.code:=by rw[CU];rw[AY<|ACM D]
  rw[w]at a;have hlen:=N1 a;have C:BL A S ⟨s,{t with c:=D4 (FR t.c<|BP o.code) λf=>{f with pc:=f.pc+1}},A8⟩:=y.core e (Rj (ACP d.c _) λ_ q=>q)<|Ag _;have b:=AHY (im:=im) (AD:=AD) (o:=o) (AR:=(t.c.top.getD Al).AR) (l:=Ct t.c<|BP o.code) C rfl p (λi G=>ZE (W9 d.c _) oG) (λi G=>by rw[DK,BS oG];exact l _<|Mx<|DR _)
  show BL (A+2) (S+1) (Gt im AD (CV t).2 o ⟨s,t,A8⟩)/\BE (Gt im AD (CV t).2 o ⟨s,t,A8⟩).e;rw[Gt];dsimp only;generalize CO im AD o _ _ _=r at b;obtain⟨K,_|x⟩:=r;exact⟨b.l.mono oG<|Ag _,b.e⟩;let⟨J,h⟩:=b.st sP;exact⟨AMW (b.l.mono oG<|Ag _) gR (d.c.mono oG) (by have:=d.c.st;omega) _ _<|h _ rfl,ACQ b.e (Q7 _ _ _ _).2.1 (Q7 _ _ _ _).2.2 (AaS _ _ _ _) (Q7 _ _ _ _).1⟩
theorem Q6(l t):lN (A1 l t)=lN l:=by grind[A1]
def AJX(l t):lN (CC l t)<=lN l+1:=by rw[CC];split;rw[Q6];omega;exact Nat.le_of_eq (AD3 l t).length_eq
theorem ALG{l t x}(h:x∈CC l t):x=t\/x∈l:=by grind[CC,I6,Pg]
theorem BK.put{a s}(h:BK A S a s){t}(d:BT A t):BK A S (A1 a t) s:=⟨λx b=>by rcases I6 b with rfl|b;exact d;exact h.ts x b.1,h.os,by rw[Q6];exact h.tl,h.sl⟩
def BK.BU{a s}(h:BK A S a s){t}(e:BT A t):BK (A+1) S (CC a t) s:=⟨λx b=>by rcases ALG b with rfl|b;exact e.mono<|Cv _;exact(h.ts x b).mono<|Cv _,λn o d=>(h.os n o d).mono<|Cv _,Ch (AJX _ _)<|O6 h.tl,h.sl⟩
def ARM{t}(h:BT A t){l}(b:lN l<=1/\∀v∈l,wv v):BT (A+1) (DX t l):=by refine⟨⟨h.c.fr,?_,LM h.c.tr,λv a=> ?_,h.c.vf⟩,(λq=>by cases q),LM h.sc,LM h.md,(h.mono<|Cv _).sm,h.rm,(λq=>absurd q<|by show¬2<=0;decide),(λq=>by cases q),λ_=>rfl⟩;show(t.c.stack++l).length<=A+1;rw[CK];have:=h.c.st;omega;rcases Bc.1 a with a|a;exact h.c.vs v a;exact b.2 v a
theorem AH8{t}(h:BT A t)(b:t.Aw=1){l}(d:lN l<=1/\∀v∈l,wv v):BT A (DX t l):=by
 have e:=h.wt b;refine⟨⟨h.c.fr,?_,h.c.tr,λv a=> ?_,h.c.vf⟩,(λq=>by cases q),h.sc,h.md,h.sm,h.rm,(λq=>absurd q<|by show¬2<=0;decide),(λq=>by cases q),λ_=>rfl⟩;show(t.c.stack++l).length<=A
 grind
 rcases Bc.1 a with a|a;exact h.c.vs v a;exact d.2 v a
theorem AFG{t s}(f:BT A t)(a:t.Aw=1)(d:∀n o,Am s n=sM o->BO A o)(e:lN s<=S){v}(h:wv v)(g:Bool):BL A S (Dv t s v g):=by rw[Dv];split;exact⟨(by grind[AH8]),d,e⟩;have b:BL A S ⟨s,DX t [],A8⟩:=⟨AH8 f a ⟨sP,nA⟩,d,e⟩;exact AMW b (by show(0:Nat)≠1;decide) b.t.c (by show(t.c.stack++[]).length+1<=A;rw[Hn];exact f.wt a) _ _<|AGB h
theorem AIp:∀(n:Nat) {k:Ap} (e:Nm),BK A S k.AC k.Ah->BK A S (GD n k e).AC (GD n k e).Ah
 |0,_,_,h=>h
 |n+1,k,e,h=>by rw[GD];refine NC (P:=λk:Ap=>BK A S k.AC k.Ah) (λk x h=> ?_) _ h;split;exact h;rename_i t i;split;exact h;rename_i f;simp[Jk,Ka]at f;split;exact h;rename_i o g;split;exact h;rename_i d;simp[Jk,Ka,Jf,Bool.not_eq_false]at d;have b:=AFG (h.ts t<|D2 i) f.1 h.os h.sl ((h.os _ _ g).v6 d.1 d.2) o.ex;have a:BK A S (A1 k.AC (Dv t k.Ah o.v o.ex).t) (Dv t k.Ah o.v o.ex).s:=⟨(h.put b.t).ts,b.o,(h.put b.t).tl,b.s⟩;dsimp only;split;exact AIp n (k:={k with Ah:=(Dv t k.Ah o.v o.ex).s,AC:=A1 k.AC (Dv t k.Ah o.v o.ex).t}) x a;exact a
theorem AOe{a s}(h:BK A S a s)(w)(d:lN w.2<=1/\∀v∈w.2,wv v):BK (A+1) S (Gi a w) s:=by rw[Gi];split;rename_i t b;exact(h.mono (Cv _)<|Ag _).put<|ARM (h.ts t<|D2 b) d;exact h.mono (Cv _)<|Ag _
theorem Ii{a:Type}{l:AA a}(h:lN l<=1):l=[]\/∃x,l=[x]:=by
 cases l with
 |nil=>exact .inl rfl
 |cons x l=>simp_all
structure BF(N:Nat)(k:Ap):Prop where
 fl:lN k.Bj<=N
 ll:lN k.B5<=N
 fv:∀f∈k.Bj,wv f.v/\A4 f.l=f.l/\A4 f.v.l=f.v.l/\CB f.id
 ln:∀x∈k.B5,CB x.id
theorem ANA{k:Ap}{m M N}(n:Ie k.im)(E:20<=A)(h:BK A S k.AC k.Ah)(hF:BF N k)(z:KK m M k)(p):BK (A+4) (S+1) (runK k p).1.AC (runK k p).1.Ah/\BF (N+1) (runK k p).1:=by
 have g:BF (N+1) k:=⟨LM hF.fl,LM hF.ll,hF.fv,hF.ln⟩;unfold runK;split;exact⟨h.mono oG oG,g⟩;rename_i t o;have hid:=E2 o;subst hid;dsimp only;split;exact⟨h.mono oG oG,g⟩;rename_i i;have i:t.Aw=0:=oG;have j:=z.ki.of o;let⟨l,a⟩:=AC6 (im:=k.im) (AD:=k.AD) n (h.ts t<|D2 o) i h.os h.sl λv C=>(j.FL.st v C).Cj;generalize C6 k.im t k.Ah k.AD=r at l a⊢;have w:BK (A+2) (S+1) (A1 k.AC r.t) r.s:=⟨((h.mono (B:=A+2) oG<|Ag _).put l.t).ts,l.o,by rw[Q6];have:=h.tl;omega,l.s⟩;have y:BK (A+3) (S+1) (r.e.BU.foldl CC<|A1 k.AC r.t) r.s:=by rcases Ii a.fk.1 with e|⟨u,e⟩;rw[e];exact w.mono oG<|Ag _;have:=a.fk.2 u gR;rw[e];exact w.BU<|this.mono oG
 have D:BK (A+4) (S+1) (r.e.BY.foldl Gi<|r.e.BU.foldl CC<|A1 k.AC r.t) r.s:=by
  rcases Ii a.wk.1 with e|⟨u,e⟩;rw[e];exact y.mono oG<|Ag _;have:=a.wk.2 u gR
  grind[AOe]
 have F:CB t.id:=j.HM t.id DT;have b:∀k':Ap,k'.Bj=k.Bj++r.e.out.map (λx:AT×AW=>(⟨k.AD,t.id,x.1,x.2⟩:FU))->k'.B5=k.B5++r.e.Bo.map (λx:Gr=>(⟨k.AD,t.id,x⟩:Lk))->BF (N+1) k':=λk' q s=>by
  refine⟨?_,?_,λf b=> ?_,λx d=> ?_⟩;rw[q,CK,DG];have:=hF.fl;have:=a.ou.1;omega;rw[s,CK,DG];have:=hF.ll;have:=a.lg;omega;rw[q]at b;rcases Bc.1 b with b|b;exact hF.fv f b;let⟨x,d,e⟩:=BI.1 b;subst e;let⟨q1,q2,q3⟩:=a.ou.2 x d
  grind
  rw[s]at d;rcases Bc.1 d with d|d;exact hF.ln x d
  grind
 grind[Oz,AIp,Kp]
theorem ARL{t}(h:BT A t){i}(e:i<lN t.AI)(l:∀x∈t.AI,CB x.name):BT A (GH t i):=by
 have d:t.AI.getD i Al=t.AI[i]:=by rw[DK,BS e];rfl
 have f:=h.sm _<|DR e;have a:=AQj h.c (t.AI[i]).AG (t.AI[i]).Cg (t.AI[i]).AP;have g:BC A (Df (Ee t.c (t.AI[i]).AG (t.AI[i]).Cg (t.AI[i]).AP)<|BZ 3 (t.AI[i]).name (t.AI[i]).l):=by
  refine⟨a.fr,?_,a.tr,λv b=> ?_,a.vf⟩;show(t.c.stack.take _++[_]).length<=A
  grind
  rcases Bc.1 b with b|b;exact a.vs v b
  grind[ABL]
 rw[GH];rw[d];exact⟨g,(λq=>by cases q),by show(t.AI.take i).length<=A;rw[Cu];have:=h.sc;omega,f.1,λx j=>h.sm x<|Fg j,f.2.1,(λq=>absurd q<|by show¬2<=0;decide),(λq=>by cases q),λ_=>rfl⟩
theorem AJV{s}(h:∀n o,Am s n=sM o->BO A o)(on b):(∀n o,Am (Gy s on b) n=sM o->BO A o)/\lN (Gy s on b)=lN s:=by rw[Gy];split;rename_i o d;split;rename_i g;split;rename_i x f;let⟨i,w,_,_,e⟩:=AEK f;have a:=h _ _ d;refine⟨ACY h ?_,AEN _ _ _⟩;rw[e];exact⟨Ch (ADH _ _) a.q,gR,λq=>absurd q gR,a.vf,ADI (P:=λw=>w.put->wv w.v) a.vq i⟩;exact⟨h,rfl⟩;exact⟨h,rfl⟩;exact⟨h,rfl⟩
theorem AXF{k m M}(h:BK A S k.AC k.Ah)(o:KK m M k){t}(g:Af k.AC t.id=sM t){i}(n:i<lN t.AI):BK A (S+1) (I4 k t i).AC (I4 k t i).Ah:=by
 have a:=h.ts t<|D2 g;have f:BO A (GF t i):=by refine⟨Bm _,λ_=> ?_,λq=>absurd q<|by show¬(3:Nat)=6;decide,λq=>(by cases q),λw r=>(by cases r)⟩;show wv (IF t i).1;rw[IF];split;exact KF _ dC;rename_i d;simp[Jk,Ka]at d;split;exact KF _ dC;exact a.vv oG
 have b:=h.put<|ARL a n λx s=>(o.ki.of g).HM _<|DY _<|BI.2 ⟨x,s,rfl⟩;rw[I4];split;let⟨j,l⟩:=AJV h.os t.on t.id;exact⟨b.ts,Vn j f,b.tl,Ch (UG _ _ _)<|by rw[l];exact O6 h.sl⟩;exact⟨b.ts,Vn h.os f,b.tl,Ch (UG _ _ _)<|O6 h.sl⟩
theorem AQq{k m M}(h:BK A S k.AC k.Ah)(d:KK m M k)(a):BK A (S+1) (Fp k a).AC (Fp k a).Ah:=by
 rw[Fp];split;rename_i t b;have hid:=E2 b;split
 grind[AXF,PK]
 exact h.mono (Ag _)<|Cv _;exact h.mono (Ag _)<|Cv _
theorem ADc{m M}:∀(l:AA Nm) {k:Ap} {S:Nat},BK A S k.AC k.Ah->KK m M k->BK A (S+lN l) (l.foldl Fp k).AC (l.foldl Fp k).Ah
 |[],_,_,h,_=>h
 |x::l,k,S,h,hk=>by
  have:=ADc l (AQq h hk x)<|Rk hk x
  grind
def Vj{k m M N}(h:BK A S k.AC k.Ah)(hF:BF N k)(d:KK m M k):BK A (S+A) (Fo k).AC (Fo k).Ah/\BF N (Fo k):=by let⟨e,f,a,b⟩:=QQ k;refine⟨?_,by rw[a];exact hF.fl,by rw[b];exact hF.ll,by rw[a];exact hF.fv,by rw[b];exact hF.ln⟩;rw[Fo];have:=ADc (k.AC.map (·.id)) (k:={k with AD:=k.AD+1}) h ⟨d.ki,d.kq⟩;refine this.mono (Ag _) ?_;rw[DG];have:=h.tl;omega
structure G2(g h:St):Prop where
 Ad:fl g.Ad h.Ad
 A5:fl h.A5 g.A5
theorem OQ{a b c}(h:fl a b)(k:fl b c):fl a c:=IV.2<|le_trans (IV.1 h)<|IV.1 k
theorem G2.refl(g):G2 g g:=⟨QZ _,QZ _⟩
def G2.trans{a b c}(h:G2 a b)(k:G2 b c):G2 a c:=⟨OQ h.Ad k.Ad,OQ k.A5 h.A5⟩
def LG(a:St)(b:AH)(k:Call):Prop:=
 (k.e.Bo=[]/\G2 a k.t.g)\/∃x,k.e.Bo=[x]/\x.AR=b/\(x.to=k.t.g.Ad\/x.to=k.t.g.A5)/\(x.Qa=a.Ad\/x.Qa=a.A5)/\(fl a.Ad k.t.g.Ad=fF\/fl k.t.g.A5 a.A5=fF)
structure Up(g0:St)(k:Call):Prop where
 Bo:k.e.Bo=[]
 g:G2 g0 k.t.g
 fk:k.e.BU=[]
def FK(t:AL)(k:Call):Prop:=k.e.BU=[]\/∃u,k.e.BU=[u]/\u.id=t.Bg++[t.A7]
def AFy{a}(h:Up a k){g}(b:G2 k.t.g g):Up a (k.Bp g):=⟨h.Bo,h.g.trans b,h.fk⟩
theorem AOT{a}(h:Up a k){l f}(c:∀b,Up a b->Up a (f b).1):Up a (G1 k l f).1:=by rw[G1];split;exact h;refine c _<|AFy h ?_;rw[Et];split;exact⟨IV.2<|AW4 _ _,QZ _⟩;exact G2.refl _
theorem AOS{a}(h:Up a k){l f}(c:∀b,Up a b->Up a (f b).1):Up a (Ga k l f).1:=by
 rw[Ga];split;exact h;rename_i d;refine c _<|AFy h ⟨?_,QZ _⟩
 grind[S0,R6]
def Z5{t u n}(h:GI t=sM (u,n)):u.g=t.g/\u.id=t.id/\u.c=t.c/\u.AI=t.AI/\u.Aw=t.Aw:=by rw[(Mf h).1];simp
def ABB{a}(h:Up a k){o}:Up a (Fv k o).1:=by rw[Fv];split;exact h;split;exact h;rename_i t n b;exact⟨h.Bo,by show G2 a t.g;rw[(Z5 b).1];exact h.g,h.fk⟩
def ABC{a}(h:Up a k){x f}(d:∀c o,Up a c->Up a (f c o).1):Up a (Ff k x f).1:=by refine AOT h λc b=> ?_;split;exact⟨b.Bo,b.g,b.fk⟩;exact d _ _ b
def AOU{a}(h:Up a k){o}:Up a (Ej k o).1:=by rw[Ej];split;exact h;exact⟨h.Bo,h.g,h.fk⟩
theorem Vw{p n i}(h:child p i=sM n):n=p++[i]:=by grind[child]
theorem AHb{im AD o AR l}(y:∀v∈l,A4 v.l=v.l)(p:k.e=A8):LG k.t.g AR (CO im AD o AR l k).1/\((CO im AD o AR l k).2≠nO->(CO im AD o AR l k).1.e.Bo=[]/\G2 k.t.g (CO im AD o AR l k).1.t.g)/\FK k.t (CO im AD o AR l k).1:=by
 have h:Up k.t.g k:=⟨by rw[p];rfl,G2.refl _,by rw[p];rfl⟩;have Bz:∀r:CR,Up k.t.g r.1->LG k.t.g AR r.1/\(r.2≠nO->r.1.e.Bo=[]/\G2 k.t.g r.1.t.g)/\FK k.t r.1:=λr g=>⟨.inl ⟨g.Bo,g.g⟩,λ_=>⟨g.Bo,g.g⟩,.inl g.fk⟩;have w:A4 (l.getD 0 AZ).l=(l.getD 0 AZ).l:=by
  rw[DK];cases e:l[0]? with
  |none=>exact AAF
  |some v=>grind
 rw[CO];dsimp only;split;exact Bz _ ⟨h.Bo,h.g,h.fk⟩;exact Bz _ ⟨h.Bo,h.g,h.fk⟩
 grind[AOT]
 split;exact Bz _ h;split;exact Bz _ h;rename_i b;refine Bz _<|AFy h ?_;rw[KW]at b⊢;split;rename_i d;split;exact⟨QZ _,by show fl (A4 _) _;rwa[LW]⟩;exact G2.refl _;exact G2.refl _;split;exact Bz _ h;exact Bz _<|ABB h;split;exact Bz _ h;exact Bz _<|ABC h λi o a=>AOU a;split;exact Bz _ h;exact Bz _<|ABB h;split;exact Bz _ h;exact Bz _<|ABC h λi o a=>⟨a.Bo,a.g,a.fk⟩;split;exact Bz _ h;split;exact Bz _ h;split;exact Bz _ ⟨h.Bo,h.g,h.fk⟩;exact Bz _ h;split;exact Bz _ h;exact Bz _<|ABB h;split;exact Bz _ h;refine Bz _<|AOS h λi a=> ?_;split;exact⟨a.Bo,a.g,a.fk⟩;split;exact⟨a.Bo,a.g,a.fk⟩;rw[EO];split<;>exact⟨a.Bo,a.g,a.fk⟩;split;exact Bz _ h;refine Bz _<|AOS h λi a=> ?_;split;exact⟨a.Bo,a.g,a.fk⟩;split;exact⟨a.Bo,a.g,a.fk⟩;rw[EO];split<;>exact⟨a.Bo,a.g,a.fk⟩;split;exact Bz _ h;split;exact Bz _ h;split;exact Bz _ h;split;exact Bz _ h;rename_i t n j;have s:G2 k.t.g t.g:=by rw[(Z5 j).1];exact h.g
 refine⟨.inl ⟨h.Bo,s⟩,λ_=>⟨h.Bo,s⟩,.inr ⟨_,by show k.e.BU++[_]=_;rw[h.fk];rfl,?_⟩⟩;exact(Vw (Mf j).2.1);split;exact Bz _ h;refine Bz _<|ABC h λi o a=> ?_;split;exact AOU a;exact⟨a.Bo,a.g,a.fk⟩;split;exact Bz _ h;split;rename_i t c;refine Bz _ ⟨h.Bo,?_,h.fk⟩;show G2 k.t.g t.g;rw[Js]at c;split at c;cases c;split at c;cases c;split at c;cases c;rename_i b;split at c;cases c;rename_i u x j;split at c;cases c;split at c;cases c;cases c;have:=(S0<|by simpa using b).2;exact⟨by show fl _ u.g.Ad;rw[(Z5 j).1];exact QZ _,by show fl (A4 _) _;rwa[LW]⟩;exact Bz _ h;split;exact Bz _ h;split;exact Bz _ h;exact Bz _ ⟨h.Bo,h.g,h.fk⟩;split;exact Bz _ h;split;exact Bz _ h;rename_i b;refine⟨?_,λq=>(q rfl).elim,.inl<|by dsimp only;split<;>exact h.fk⟩;rw[LG];rw[Ih]at b⊢;split at b;rename_i d;split at b;rename_i m;rw[Ac d,Ac m];dsimp only;cases f:fl k.t.g.Ad (l.getD 0 AZ).l with
 |true=>exact .inl ⟨h.Bo,⟨by show fl _<|A4 _;rwa[R6],QZ _⟩⟩
 |false=>exact .inr ⟨⟨42,k.t.g.Ad,(l.getD 0 AZ).l,AR⟩,by show k.e.Bo++[_]=_;rw[h.Bo];rfl,rfl,.inl w.symm,.inl rfl,.inl<|by show fl _ (A4 _)=fF;rwa[R6]⟩
 simp at b;simp at b;split;exact Bz _ h;split;exact Bz _ h;rename_i b;refine⟨?_,λq=>(q rfl).elim,.inl<|by dsimp only;split<;>exact h.fk⟩;rw[LG];rw[Il]at b⊢;split at b;rename_i d;split at b;rename_i m;rw[Ac d,Ac m];dsimp only;cases f:fl (l.getD 0 AZ).l k.t.g.A5 with
 |true=>exact .inl ⟨h.Bo,⟨QZ _,by show fl (A4 _) _;rwa[LW]⟩⟩
 |false=>exact .inr ⟨⟨43,k.t.g.A5,(l.getD 0 AZ).l,AR⟩,by show k.e.Bo++[_]=_;rw[h.Bo];rfl,rfl,.inr w.symm,.inr rfl,.inr<|by show fl (A4 _) _=fF;rwa[LW]⟩
 simp at b;simp at b;split;exact Bz _ h;exact Bz _<|ABB h;split;exact Bz _ h;refine Bz _<|ABC h λi o a=> ?_;split;exact⟨a.Bo,a.g,a.fk⟩;exact a;exact Bz _ h
def ADV(k v)(a:Bool):(E7 k v a).t.g=k.t.g:=by rw[E7];dsimp only;split<;>rfl
theorem AMY(k c)(b:Int)(a:Nat):(EH k c b a).t.g=k.t.g:=by rw[EH];split;exact ADV _ _ _;rfl
def ASh{im t s AD}(d:t.Aw=0)(p:∀v∈t.c.stack,A4 v.l=v.l):((C6 im t s AD).e.Bo=[]/\G2 t.g (C6 im t s AD).t.g)\/∃f,t.c.top=sM f/\LG t.g f.AR (C6 im t s AD):=by
 rw[C6];rw[AY<|by rw[d];decide];dsimp only;cases n:(Es im t.c (CV t).1 (CV t).2).2 with
 |Iu=>exact .inl ⟨rfl,G2.refl _⟩
 |ended v=>exact .inl ⟨(MW _ _ _).1,by rw[ADV];exact G2.refl _⟩
 |failed v=>exact .inl ⟨(MW _ _ _).1,by rw[ADV];exact G2.refl _⟩
 |asked o=>
  let⟨m,q,_⟩:=AAt n;have a:=ADZ m;obtain⟨f,j⟩:∃f,t.c.top=sM f:=by
   cases e:t.c.top with
   |none=>rw[Ay.top]at e;rw[S8]at e;rw[e]at a;cases a
   |some f=>exact⟨f,rfl⟩
  dsimp only;rw[Gt];dsimp only;have l:∀v∈Ct t.c (BP o.code),A4 v.l=v.l:=λv g=>p v<|Mx g;have:=AHb (im:=im) (AD:=AD) (o:=o) (AR:=(t.c.top.getD Al).AR) (k:=⟨s,{t with c:=D4 (FR t.c<|BP o.code) λf=>{f with pc:=f.pc+1}},A8⟩) l rfl;have b:(t.c.top.getD Al).AR=f.AR:=by rw[j];rfl
  rw[b]at this⊢;generalize CO im AD o _ _ _=r at this;obtain⟨u,_|h⟩:=r;exact .inr ⟨f,j,this.1⟩;left;have i:=this.2.1 sP;exact⟨by dsimp only;rw[(Q7 _ _ _ _).1];exact i.1,by dsimp only;rw[AMY];exact i.2⟩
def AC8{im t s AD}(a:t.Aw=0)(g:∀v∈t.c.stack,A4 v.l=v.l):FK t (C6 im t s AD):=by
 rw[C6];rw[AY<|by rw[a];decide];dsimp only;cases h:(Es im t.c (CV t).1 (CV t).2).2 with
 |Iu=>exact .inl rfl
 |ended v=>exact .inl (MW _ _ _).2.1
 |failed v=>exact .inl (MW _ _ _).2.1
 |asked o=>
  dsimp only;rw[Gt];dsimp only;have e:∀v∈Ct t.c (BP o.code),A4 v.l=v.l:=λv b=>g v<|Mx b;have:=(AHb (im:=im) (AD:=AD) (o:=o) (AR:=(t.c.top.getD Al).AR) (k:=⟨s,{t with c:=D4 (FR t.c<|BP o.code) λf=>{f with pc:=f.pc+1}},A8⟩) e rfl).2.2;generalize CO im AD o _ _ _=r at this;obtain⟨i,_|d⟩:=r;exact this;rw[FK];dsimp only;rwa[(Q7 _ _ _ _).2.1]
theorem AXh{m M k t}(h:KK m M k)(j:Af k.AC t.id=sM t)(c:t.Aw=0):∀x∈(C6 k.im t k.Ah k.AD).e.Bo,M x.AR:=λx a=>by have b:=h.ki.of j;rcases ASh (im:=k.im) (s:=k.Ah) (AD:=k.AD) c (λv l=>(b.FL.st v l).Cj)with⟨e,_⟩|⟨f,g,d⟩;rw[e]at a;cases a;rcases d with⟨e,_⟩|⟨y,e,i,_⟩;rw[e]at a;cases a;rw[e]at a;rw[A9.1 a,i];exact(b.FL.fr f<|AA1 g).1
variable{A:AL}
structure Inv(m:AT)(AC:AA AL)(s:Az)(k:Call):Prop where
 B0:Ca m s k.s
 BU:∀u∈k.e.BU,fl u.g.Ad m=fF/\u.AI=[]
 out:∀x∈k.e.out,fl x.1 m=fF
 BY:∀w∈k.e.BY,∀t,Af AC w.1=sM t->fl t.g.Ad m=fF
def Inv.AFr(c:k.s=s)(b:k.e.BU=[]/\k.e.out=[]/\k.e.BY=[]):Inv m AC s k:=
 ⟨by rw[c];exact Ca.refl _,(λu a=>by rw[b.1]at a;cases a),(λu a=>by rw[b.2.1]at a;cases a),(λu a=>by rw[b.2.2]at a;cases a)⟩
theorem Inv.Mq(b:k.s=s)(a:k.e=A8):Inv m AC s k:=Inv.AFr b ⟨by rw[a];rfl,by rw[a];rfl,by rw[a];rfl⟩
theorem ZM{a b}(h:fl a m=fF)(k:fl a b):fl b m=fF:=by
 cases e:fl b m with
 |false=>rfl
 |true=>rw[OQ k e]at h;cases h
def Inv.mk0{k'}(c:Ca m s k'.s)(b:k'.e=A8):Inv m AC s k':=
 ⟨c,(λu a=>by rw[b]at a;cases a),(λu a=>by rw[b]at a;cases a),(λu a=>by rw[b]at a;cases a)⟩
def Inv.add(c:k.s=s)(a:k.e=A8){n o}(b:fl o.l m=fF)(t):Inv m AC s (OE {k with t:=t} n o):=
 Inv.mk0 (λq=>by show Je m s q=Je m (Cy k.s n o) q;rw[ABF b,c]) a
def Inv.set(a:k.e=A8){n o}(b:fl o.l m=fF){u}:Inv m AC k.s {k with s:=Cn k.s n o,t:=u}:=
 Inv.mk0 (λq=>(Xe b q).symm) a
def LR(AC:AA AL)(s:Az):Prop:=∀n o,Am s n=sM o->∀w∈o.var.q,∃t,Af AC w.id=sM t/\t.g.Ad=o.l
def KI.qok(h:KI m M AC s):LR AC s:=λn o c w d=>by let⟨t,a,_,_,b⟩:=(h.Dn n o c).2 w d;exact⟨t,a,b⟩
def AFe{x id}:(GN x id).2.2=[]\/∃w∈x.q,w.id=(GN x id).2.2:=by rw[GN];split;exact .inl rfl;split;exact .inl rfl;rename_i i b;let⟨a,_⟩:=Lv.1 b;right;exact⟨x.q[i],DR a,by simp[DK,a]⟩
def AFB{x id v}:(Gg x id v).2.2=[]\/∃w∈x.q,w.id=(Gg x id v).2.2:=by rw[Gg];split;exact .inl rfl;split;exact .inl rfl;rename_i i b;let⟨a,_⟩:=Lv.1 b;right;exact⟨x.q[i],DR a,by simp[DK,a]⟩
def Inv.wake(h:Inv m AC s k){e l}(a:e=[]\/∀t,Af AC e=sM t->fl t.g.Ad m=fF):Inv m AC s (EO k e l):=by rw[EO];split;exact h;rename_i b;refine⟨h.B0,h.BU,h.out,λw d t c=> ?_⟩;rcases Bc.1 d with q|q;exact h.BY w q t c;rw[A9.1 q]at c;rcases a with a|a;exact(b a).elim;exact a t c
def AD6(j:LR AC k.s)(b:k.e=A8){x}(o:fl x.l m=fF):Inv m AC k.s (match EY k x with
 |none=>(FG k x.name,nO)
 |some a=>
  let r:=GN a.var k.t.id;let k:={k with s:=Cn k.s x.name {a with var:=r.1}}
  match r.2.1 with
  |none=>(FG k x.name,nO)
  |some v=>(EO (k.push v) r.2.2 [],nO):CR).1:=by
 split;exact Inv.Mq rfl b;rename_i a d;let⟨g,p,h⟩:=HV d;have c:fl a.l m=fF:=by rwa[h]
 dsimp only;split;exact Inv.set (o:={a with var:=(GN a.var k.t.id).1}) b c;refine Inv.wake (Inv.set (o:={a with var:=(GN a.var k.t.id).1}) b c) ?_;rcases AFe (x:=a.var) (id:=k.t.id)with e|⟨w,n,e⟩;exact .inl e;right;intro t l;let⟨q,f,i⟩:=j _ a g w n;rw[e,l]at f;cases f;rwa[i]
def AD5(j:LR AC k.s)(b:k.e=A8){x y}(o:fl x.l m=fF):Inv m AC k.s (match EY k x with
 |none=>(FG k x.name,nO)
 |some a=>
  let r:=Gg a.var k.t.id y;let k:={k with s:=Cn k.s x.name {a with var:=r.1}}
  if !r.2.1 then(FG k x.name,nO)else(EO k r.2.2 [y],nO):CR).1:=by
 split;exact Inv.Mq rfl b;rename_i a d;let⟨g,p,h⟩:=HV d;have c:fl a.l m=fF:=by rwa[h]
 dsimp only;split;exact Inv.set (o:={a with var:=(Gg a.var k.t.id y).1}) b c;refine Inv.wake (Inv.set (o:={a with var:=(Gg a.var k.t.id y).1}) b c) ?_;rcases AFB (x:=a.var) (id:=k.t.id) (v:=y)with e|⟨w,n,e⟩;exact .inl e;right;intro t l;let⟨q,f,i⟩:=j _ a g w n;rw[e,l]at f;cases f;rwa[i]
structure Quiet(k:Call)(r:Call):Prop where
 s:r.s=k.s
 e:r.e=k.e
def AMU{l f}(b:∀a,a.s=k.s->a.e=k.e->Quiet k (f a).1):Quiet k (G1 k l f).1:=by rw[G1];split;exact⟨rfl,rfl⟩;exact b _ rfl rfl
def AMV{a o}(h:Quiet k a):Quiet k (Ej a o).1:=by rw[Ej];split;exact h;exact⟨h.s,h.e⟩
def AAW{x f}(d:∀a o,Quiet k a->Quiet k (f a o).1):Quiet k (Ff k x f).1:=by refine AMU λa b c=> ?_;split;exact⟨b,c⟩;exact d _ _ ⟨b,c⟩
def Quiet.inv{r}(h:Quiet k r)(a:k.e=A8):Inv m AC k.s r:=Inv.Mq h.s (by rw[h.e,a])
def AaL{x}:Quiet k (Ff k x Ej).1:=AAW λ_ _ h=>AMV h
def AaM{x}:Quiet k (Ff k x λk o=>(k.push o.v,nO)).1:=AAW λ_ _ h=>⟨h.s,h.e⟩
def AaN{x}:Quiet k (Ff k x λk a=>if a.done then Ej k a else(FG k x.name,nO)).1:=AAW λ_ _ h=>by split;exact AMV h;exact⟨h.s,h.e⟩
def AaO{b x y}:Quiet k (Ff k y λk a=>match Gc k.t.c a.fn (varsOf b a.fn) [x] a.AR with
 |some c=>({k with t:={k.t with c:=c}},nO)
 |none=>(k,sM (-6))).1:=AAW λ_ _ h=>by
 split;exact⟨h.s,h.e⟩;exact h
def AQV{im AD o AR l}(B:LR AC k.s)(c:k.e=A8)(z:fl k.t.g.Ad m=fF):Inv m AC k.s (CO im AD o AR l k).1:=by
 have d:∀l:AT,Dh k.t.g l=0->fl l m=fF:=λl h=>ZM z (S0 h).1;have j:∀i:Ob,Inv m AC k.s (Fv k i).1:=λi=>by rw[Fv];split;exact Inv.Mq rfl c;rename_i b;split;exact Inv.Mq rfl c;exact Inv.add rfl c (d _ (by simpa using b)) _
 have a:∀r:Call,r.s=k.s->r.e=k.e->Inv m AC k.s r:=λr f p=>Inv.Mq f (by rw[p,c]);rw[CO];dsimp only;split;exact a _ rfl rfl;exact a _ rfl rfl;split;exact a _ rfl rfl;exact(AMU λD f p=>⟨f,p⟩).inv c;split;exact a _ rfl rfl;split<;>exact a _ rfl rfl;split;exact a _ rfl rfl;exact j _;split;exact a _ rfl rfl;exact AaL.inv c;split;exact a _ rfl rfl;exact j _;split;exact a _ rfl rfl;exact AaM.inv c;split;exact a _ rfl rfl;split;exact a _ rfl rfl;rename_i b;split;rename_i i y;exact Inv.set (o:={i with v:=l.getD 1 AZ}) (u:=k.t) c (by show fl i.l m=fF;rw[(HV y).2.2];exact d _ (by simpa using b));exact a _ rfl rfl;split;exact a _ rfl rfl;exact j _;split;exact a _ rfl rfl;rw[Ga];split;exact a _ rfl rfl;rename_i b;exact AD6 (k:=k.Bp ⟨A4 (l.getD 0 AZ).l,k.t.g.A5⟩) B c (d _ (by simpa using b));split;exact a _ rfl rfl;rw[Ga];split;exact a _ rfl rfl;rename_i b;exact AD5 (k:=k.Bp ⟨A4 (l.getD 0 AZ).l,k.t.g.A5⟩) B c (d _ (by simpa using b));split;exact a _ rfl rfl;split;exact a _ rfl rfl;rename_i b;split;exact a _ rfl rfl;split;exact a _ rfl rfl;rename_i t n C;have q:=d _ (show Dh k.t.g (l.getD 2 AZ).l=0 by simpa using b);have f:=Inv.add (m:=m) (AC:=AC) (k:=k) rfl c (n:=n) (o:={Db with kind:=6,l:=(l.getD 2 AZ).l}) q k.t;refine⟨f.B0,λu e=> ?_,λx g=> ?_,λw d=> ?_⟩;have e:u∈k.e.BU++[Jw n ⟨t.g.Ad,A4 (l.getD 2 AZ).l⟩ ((Gc ⟨[],[],[]⟩ o.a (varsOf im o.a) [l.getD 0 AZ] AR).getD ⟨[],[],[]⟩) (l.getD 1 AZ).n.toNat]:=e;rw[c]at e;rw[A9.1 e]
 exact⟨by show fl t.g.Ad m=fF;rwa[(Z5 C).1],rfl⟩;exact f.out x g;exact f.BY w d;split;exact a _ rfl rfl;exact AaN.inv c;split;exact a _ rfl rfl;split<;>exact a _ rfl rfl;split;exact a _ rfl rfl;split;exact a _ rfl rfl;rename_i b;have q:=d _ (show Dh k.t.g (l.getD 1 AZ).l=0 by simpa using b);refine⟨Ca.refl _,λu e=> ?_,λx g=> ?_,λw d=> ?_⟩;have e:u∈k.e.BU:=e;rw[c]at e;cases e;have g:x∈k.e.out++[((l.getD 1 AZ).l,l.getD 0 AZ)]:=g;rw[c]at g;rwa[A9.1 g];have d:w∈k.e.BY:=d;rw[c]at d;cases d;split;exact a _ rfl rfl;split;exact a _ rfl rfl;refine Inv.AFr rfl ?_;dsimp only;split<;>(rw[c];exact⟨rfl,rfl,rfl⟩);split;exact a _ rfl rfl;split;exact a _ rfl rfl;refine Inv.AFr rfl ?_;dsimp only;split<;>(rw[c];exact⟨rfl,rfl,rfl⟩);split;exact a _ rfl rfl;exact j _;split;exact a _ rfl rfl;exact AaO.inv c;exact a _ rfl rfl
theorem Yg(h:KI m M AC s){t}(b:t∈AC)(a:fl (EF t 0) m=fF){o}(g:Am s t.id=sM o)(f:o.kind=6):fl o.l m=fF:=by
 cases e:fl o.l m with
 |false=>rfl
 |true=>
  rw[OQ ((h.G3 t b).cap 0<|Bm _)<|h.Km t b o g f e]at a;cases a
end Lz
