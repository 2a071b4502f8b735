/- Part 7 of the proof of TopLeaks. No conditions. -/
import Derived.Test.YtomehhepbeiinaaGreatDoorZ06
import Derived.Shelf.Lays
import Derived.Shelf.Strings.SplitCore
import Derived.Shelf.Strings.Count
import Derived.Lib.SplitLaws
import Derived.Test.YtomehhepbeiinaaGreatDoorQPkA
import Derived.Test.YtomehhepbeiinaaGreatDoorQCnfA
import Derived.Carry
import Derived.Deep.Slices
import Derived.Deep.Strs
set_option maxRecDepth 100000
set_option maxHeartbeats 4000000
set_option linter.all false
namespace Go.Proofs.YtomehhepbeiinaaGreatDoor
open Go.Proofs.Tryz
section
open Go.AX Lz
attribute [ext] Lz.St
def AP7{a b:Lz.St}(w:World):(Op.equalIn 10000 44 (.agg #[.string (str a.cur.1),.string (str a.cur.2),.string (str a.Al.1),.string (str a.Al.2)]) (.agg #[.string (str b.cur.1),.string (str b.cur.2),.string (str b.Al.1),.string (str b.Al.2)])).run Tryz.prog w=.ok (decide (a=b)) w:=by
 apply eqx dC
 .simp only[Program.fieldsOf,Tryz.underlying44];go_simp;(repeat apply Wb);rfl
 simp[str_inj,Prod.ext_iff,Lz.St.ext_iff,_root_.and_assoc]
def hFF(I:AB)(x y:Nat):Hint:=.hand (.binOp .eql 4 (.tmp x) (.tmp y) 4) [(x,.v (.bool false)),(y,.v (.bool false))] [] I (.v (.bool true)) (by intro h j o b a;have f:=Cy a (s:=x) (x:=.v (.bool false)) sP;have g:=Cy a (s:=y) (x:=.v (.bool false)) sP;intro k i w e _ _ _ _;refine⟨w,?_,BB.refl w⟩;have c:=e (.tmp x) xO;have d:=e (.tmp y) xO;simp[ev,f,g,den]at c d;simp[execOp,b,Sem.run_bind,c,d];go_simp;rfl)
def AHG(I:AB)(x y:Nat)(a b:Val)(c:Bg a.name)(d:Bg b.name)(r:Bool)(e:decide (a=b)=r)(f:Av:=51):Hint:=
 .hand (.binOp .neq 51 (.tmp x) (.tmp y) f) [(x,Cn a),(y,Cn b)] [] I (.v (.bool (!r))) (AIf dC λ_ w=>e▸eqV c d w)
def ARF(I:AB)(x y:Nat)(a b:Lz.St)(r:Bool)(c:decide (a=b)=r)(d:Av:=44):Hint:=
 .hand (.binOp .eql 44 (.tmp x) (.tmp y) d) [(x,IQ a),(y,IQ b)] [] I (.v (.bool r)) (AIc dC λ_ w=>c▸AP7 w)
def ABO(n:Nm):Hint:=.eq (Value.bool ((AR n).toList==(AR n).toList)) (.bool true) (by simp)
def AQD(I a h j f g r s)(y:EE I a h f r)(z:EE I a j g s)(H:a.length<=1000000)(A:∀v∈a,Bg v.name):Fn 174 [.v (.slice h a.length f),.v (.slice j a.length g)] [] I (A1 (.v (.bool true)) I) none:=by refine fo func174 (BZ rfl) λK B w p=>gg [(10,Ct (a.length:Int) (a.length:Int) rfl)]<|loop (ι:=Nat) (λi=>i<=a.length) (λi=>a.length-i) (Tw I h f j g a.length a.length) 1000 [] 0 (BS _) kR kR ?_;intro i G again T;by_cases b:i<a.length;have e:a[i]? =some a[i]:=A9 b;have k:=A _ (DF b);generalize a[i]=x at e k;obtain⟨n,c,l,E,t,_,rfl,q2,rfl,q4,q5⟩:=y.cell G6 e;obtain⟨o,d,m,F,u,_,rfl,C,rfl,J,D⟩:=z.cell G6 e;exact gg [(14,hT ((i:Int)<(a.length:Int)) oG),(18,BM I E5 n c a.length f i b),(19,DR I MX (c+i*5) (Au x) rfl q2 q5),(22,BM I E5 o d a.length g i b),(23,DR I MX (d+i*5) (Au x) rfl C D),(24,AHG I 19 23 x x k k true (GL rfl)),(25,hW ((i:Int)+1) ((i+1:Nat):Int) oG oG)]<|back [] (Tw I (some ⟨n,c,none⟩) f (some ⟨o,d,none⟩) g a.length a.length (i+1)) 1000 kR kR kR λq=>again (i+1) b oG q;exact gg [(14,hF ((i:Int)<(a.length:Int)) oG)] fi
abbrev ZG(f:B7):Prop:=f.vars.length<=1000000/\∀v∈f.vars,Bg v.name
def ANL(I f c d a b g i)(j:EE I f.vars c a g)(k:EE I f.vars d b i)(h:ZG f):Fn 173 [AA9 f c a,AA9 f d b] [] I (A1 (.v (.bool true)) I) none:=
 fo func173 (BZ rfl) λm l w e=>gg [(9,Ct f.fn f.fn rfl),(15,Ct f.pc f.pc rfl),(22,Ct f.base f.base rfl),(29,Ct f.AL.toNat f.AL.toNat rfl)] (call (AQD I f.vars c d a b g i j k h.1 h.2) kR (gG fi))
def AGQ(I:AB)(a:AK Ac)(ac:Nat)(b:AK Ac)(bc n i:Nat):Hd where
 By:=[(1,.v (.slice b n bc)),(2,.v (.func (.func 173) #[] #[])),(15,.v (.slice a n ac)),(16,.v (.int .i64 (n:Int))),(17,.v (.int .i64 (i:Int)))]
 J:=I
def AQC(I a j k g h y z)(B:Aj I (E7 I) 5 a j g y)(C:Aj I (E7 I) 5 a k h z)(H:a.length<=1000000)(A:∀f∈a,ZG f):
 Fn 172 [.v (.slice j a.length g),.v (.slice k a.length h),.v (.func (.func 173) #[] #[])] [] I (A1 (.v (.bool true)) I) none:=by
 refine fo func172 (BZ rfl) λJ D w r=>gg [(14,Ct (a.length:Int) (a.length:Int) rfl)]<|loop (ι:=Nat) (λi=>i<=a.length) (λi=>a.length-i) (AGQ I j g k h a.length) 1000 [] 0 (BS _) kR kR ?_;intro i G again T;by_cases b:i<a.length;have e:a[i]? =some a[i]:=A9 b;have s:=A _ (DF b);generalize a[i]=x at e s;obtain⟨n,c,arr1,e1,fr1,_,rfl,q2,⟨t,p,E,rfl,l⟩,q4,q5⟩:=B.cell (HW I) e;obtain⟨o,d,arr2,e2,fr2,_,rfl,r2,⟨u,q,F,rfl,m⟩,r4,r5⟩:=C.cell (HW I) e;exact gg [(18,hT ((i:Int)<(a.length:Int)) oG),(20,BM I Ol n c a.length g i b),(21,DR I X4 (c+i*5) (Wi x t p) rfl q2 q5),(24,BM I Ol o d a.length h i b),(25,DR I X4 (d+i*5) (Wi x u q) rfl r2 r5)]<|call (ANL I x t u p q E F l m s) kR<|gg [(31,hW ((i:Int)+1) ((i+1:Nat):Int) oG oG)]<|back [] (AGQ I (some ⟨n,c,none⟩) g (some ⟨o,d,none⟩) h a.length (i+1)) 1000 kR kR kR λv=>again (i+1) b oG v;exact gg [(18,hF ((i:Int)<(a.length:Int)) oG)] fi
structure AEd(t:AJ):Prop where
 fr:t.c.AF.length<=1000000
 vs:∀f∈t.c.AF,ZG f
 st:t.c.stack=[]
 tr:t.c.tries=[]
 sc:t.scopes=[]
 ex:t.ex=false
 v:Bg t.v.name
def AYm(I t p q)(n:Co I t p)(o:Co I t q)(h:AEd t):Fn 63 [.g (CG t p),.g (CG t q)] [] I (A1 (.v (.bool true)) I) none:=by let⟨l,m,c,d,b,hex,f⟩:=h;have j:=n.c.f;have k:=o.c.f;let⟨id,path,g,⟨e,u,x⟩,ss,made,room,status,on,v,ex⟩:=t;simp only at l m c d b hex f j k;subst c d b hex;have r:Fn 120 [.g (Cj ⟨e,[],[]⟩ p.p),.g (Cj ⟨e,[],[]⟩ q.p)] [] I (A1 (.v (.bool true)) I) none:=fo func120 (BZ rfl) λs i w a=>gG (call (AQC I e p.p.fa q.p.fa p.p.fc q.p.fc p.p.fl q.p.fl j k l m) kR (gG (call (AAr func174 (by simp) I p.p.sa q.p.sa p.p.sc q.p.sc) kR (gG (call (AAr func175 (by simp) I p.p.ta q.p.ta p.p.tc q.p.tc) kR (gG fi))))));exact fo func63 (BZ rfl) λs i w a=>gg [(9,ABO id),(15,ABO path),(22,ARF I 19 21 g g true (GL rfl))] (call r kR (gG (call (AAr func121 (by simp) I p.ca q.ca p.cc q.cc) kR (gg [(43,hE made made rfl),(50,hE room room rfl),(57,hE status status rfl),(64,ABO on),(71,UB I 68 70 v v f f true (GL rfl)),(78,hFF I 75 77)] fi))))
def AUv(I a b p q)(i:a.kind=b.kind)(d:a.l=b.l)(e:a.v≠b.v)(g:Bg a.v.name)(h:Bg b.v.name):Fn 123 [.g (Dy a p),.g (Dy b q)] [] I (A1 (.v (.bool false)) I) none:=
 fo func123 (BZ rfl) λj f w c=>gg [(9,Ct a.kind b.kind oG),(15,Nt I 12 14 a.l b.l true (GL d)),(22,AHG I 19 21 a.v b.v g h false (IL e))] fi
def OD(x:Bp)(l:AA AE):Prop:=l=[.string x]
def ALi(x l)(h:OD x l):l.length=1:=by rw[h];rfl
def ALh(I:AB)(a:AK Ac)(n ac:Nat)(ba:AK Ac)(m bc:Nat)(i:Nat):Hd where
 By:=[(0,.v (.slice a n ac)),(1,.v (.slice ba m bc)),(5,.v (.int .i64 (i:Int)))]
 J:=I
def Rp(a b:AA Bp):Bool:=decide (a.map (·.toList)=b.map (·.toList))
def Ch.B0{I c n a xs}(h:Ch I c a n xs):Ch I.B0 c a n xs:=⟨h.len,h.one,h.at_.imp id λ⟨b,d,arr,e,f,g,i,j⟩=>⟨b,d,arr,e,f,g,AB.N9 i,j⟩⟩
def Aj.B0{b:Type}{I:AB}{R:b->List Value->Prop}{size c:Nat}{xs:List b}{a:Option Addr}{cells:List Value}(h:Aj I R size xs a c cells):Aj I.B0 R size xs a c cells:=⟨h.sl.B0,h.cap,h.max,h.rows⟩
def AYO(I)(xs a)(g ba)(ac bc)(al bl)(ha:Aj I.B0 OD 1 xs g ac al)(hb:Aj I.B0 OD 1 a ba bc bl)(hl:xs.length<=1000000):
 Fn 20 [.v (.slice g xs.length ac),.v (.slice ba a.length bc)] [] I (A1 (.v (.bool (Rp xs a))) I) none:=by
 refine fo Tryz.func20 (BZ rfl) λρ key w n=> ?_;by_cases hlen:xs.length=a.length;refine gg [(10,Ct (xs.length:Int) (a.length:Int) oG)]<|loop (ι:=Nat) (λi=>i<=xs.length/\(xs.take i).map (·.toList)=(a.take i).map (·.toList)) (λi=>xs.length-i) (ALh I g xs.length ac ba a.length bc) 1000 [] 0 ⟨BS _,sP⟩ kR kR ?_;rintro i ⟨hi,he⟩ again T;by_cases e:i<xs.length;have b:i<a.length:=oG;have o:xs[i]? =some xs[i]:=A9 e;have p:a[i]? =some a[i]:=A9 b;obtain⟨j,c,l,v,s,q,rfl,q2,q3,q4,q5⟩:=ha.cell ALi o;obtain⟨b2,d,m,x,t,r,rfl,r2,r3,y,u⟩:=hb.cell ALi p;subst q3 r3;have q0:=q5 0 _ rfl;have r0:=u 0 _ rfl;simp only[FD]at q0 r0;by_cases f:xs[i].toList=a[i].toList;refine gg [(14,hT ((i:Int)<(xs.length:Int)) oG),(19,BM I HV j c xs.length ac i e),(20,.Jq I _ _ (G5 (I:=I.B0) Cm rfl q2 q0)),(23,BM I HV b2 d a.length bc i b),(24,.Jq I _ _ (G5 (I:=I.B0) Cm rfl r2 r0)),(25,.eq (Value.bool (!(xs[i].toList==a[i].toList))) (.bool false) (by rw[f];simp)),(16,hW ((i:Int)+1) ((i+1:Nat):Int) oG oG)] ?_;refine back [] (ALh I (some ⟨j,c,none⟩) xs.length ac (some ⟨b2,d,none⟩) a.length bc (i+1)) 1000 kR kR kR λT'=>again (i+1) ⟨oG,?_⟩ oG T';rw[Mi e,Mi b,EL,EL,he];simp[f];have k:Rp xs a=false:=by unfold Rp;refine IL λh=>f ?_;have:=El (·[i]?) h;simpa[o,p]using this
 rw[k];exact gg [(14,hT ((i:Int)<(xs.length:Int)) oG),(19,BM I HV j c xs.length ac i e),(20,.Jq I _ _ (G5 (I:=I.B0) Cm rfl q2 q0)),(23,BM I HV b2 d a.length bc i b),(24,.Jq I _ _ (G5 (I:=I.B0) Cm rfl r2 r0)),(25,.eq (Value.bool (!(xs[i].toList==a[i].toList))) (.bool true) (by simp[f]))]<|fi;have hi:i=xs.length:=oG;subst hi;rw[HB,hlen,HB]at he;have ht:Rp xs a=true:=GL he;rw[ht];exact gg [(14,Go.Proofs.YtomehhepbeiinaaGreatDoor.hF ((xs.length:Int)<(xs.length:Int)) oG)]<|fi;have k:Rp xs a=false:=IL λh=>hlen (by have:=El List.length h;simpa using this);rw[k];exact gg [(10,FJ (xs.length:Int) (a.length:Int) oG)]<|fi
end
end Go.Proofs.YtomehhepbeiinaaGreatDoor
namespace Go.AX
def AB.JP(I:AB)(b:Nat)(o:Obj):AB:=⟨λx=>match Nat.beq x b with|true=>some o|false=>I.at_ x,I.own⟩
def AB.M9(I:AB)(b:Nat):AB:=⟨λx=>match Nat.beq x b with|true=>none|false=>I.at_ x,I.own⟩
def ACR(I:AB)(b)(o):(I.JP b o) b=some o:=by simp[AB.JP]
def SL(I:AB){b x}(o)(h:x≠b):(I.JP b o) x=I x:=by simp[AB.JP,P4 h]
def AUI(I:AB)(b):(I.M9 b) b=none:=by simp[AB.M9]
def AB3(I:AB){b x}(h:x≠b):(I.M9 b) x=I x:=by simp[AB.M9,P4 h]
def AVj{I:AB}{b:Nat}{o:Obj}(h:I b=none):(I.JP b o).M9 b=I:=by obtain⟨f,g⟩:=I;show AB.mk _ g=AB.mk f g;congr 1;funext x;by_cases e:x=b;subst e;have h:f x=none:=h;simp[h];simp[AB.JP,P4 e]
def AHK{I:AB}{b x:Nat}{o y:Obj}(hb:I.free b)(h:I.has x y):x≠b/\(I.JP b o).has x y:=by
 have a:x≠b:=λe=>by have:=h.own;rw[e,hb.2]at this;cases this
 exact⟨a,h.own,(SL I o a).trans h.at_⟩
def AS0{I J:AB}{b:Nat}{o:Obj}(hb:I.free b)(h:(I.JP b o).le J):I.le (J.M9 b):=by
 refine⟨λx y a=> ?_,λx y a=> ?_⟩;have e:x≠b:=λe=>by rw[e,hb.1]at a;cases a
 exact(AB3 _ e).trans (h x y ((SL _ _ e).trans a));obtain⟨e,h1⟩:=AHK (o:=o) hb a;exact⟨(h.own x y h1).own,(AB3 _ e).trans (h.own x y h1).at_⟩
def FC.AJj{P:Program}{F:FuncId}{args:List SV}{need:List (Nat×AG)}{I:AB}{z:Nat->AU->Prop}(K:Nat)(o:Obj){Ψ:Nat->Nat->AU->Prop}(n:K∉need.map (·.1))(hwf: ∀key h,z key h->h.OJ key ((K,.obj o)::need)/\I.Cd h.J)
 (hc: ∀b,I.free b->FC P F (args.map (·.BW K b)) (need.map λkb=>(kb.1,kb.2.BW K b)) (I.JP b o) (Ψ b) none) (v: ∀b key h,I.free b->Ψ b key h->z key {h with J:=h.J.M9 b}):FC P F args ((K,.obj o)::need) I z none:=by
 refine⟨hwf,λρ key w l hN B k i=> ?_⟩;have f:I.free (ρ K):=k (K,.obj o) sP;have p:w.heap[ρ K]? =some o:=hN (K,.obj o) sP _ rfl;have j:As ρ (args.map (·.BW K (ρ K)))=As ρ args:=by rw[Gc,Gc,List.map_map];exact List.map_congr_left λx _=>Wk rfl (λ_ _=>rfl) x
 have m:Holds w (I.JP (ρ K) o):=by refine⟨λx y a=> ?_,B.2⟩;by_cases e:x=ρ K;subst e;rw[ACR]at a;cases a;exact p;rw[SL _ _ e]at a;exact B.1 x y a
 have r: ∀kb∈need,ρ kb.1≠ρ K:=λkb d e=>n (by have:=i kb (List.mem_cons_of_mem _ d) (K,.obj o) sP e;simp only at this;rw[<-this];exact List.mem_map.2 ⟨kb,d,rfl⟩)
 have:=(hc (ρ K) f).2 ρ key w l (λkb d x a=>by
  obtain⟨g,c,rfl⟩:=List.mem_map.1 d;simp only at a⊢;rw[AG.Wk (ρ:=ρ) (σ:=ρ) rfl (λ_ _=>rfl)]at a;exact hN g (List.mem_cons_of_mem _ c) x a) m (λkb d=>by
  obtain⟨g,c,rfl⟩:=List.mem_map.1 d;have h0:=k g (List.mem_cons_of_mem _ c);exact⟨by rw[SL _ _ (r g c)];exact h0.1,h0.2⟩) (λx a y C e=>by
  obtain⟨x',s,rfl⟩:=List.mem_map.1 a;obtain⟨D,t,rfl⟩:=List.mem_map.1 C;exact i x' (List.mem_cons_of_mem _ s) D (List.mem_cons_of_mem _ t) e)
 rw[j]at this;refine this.mono ?_;rintro e E ⟨h,q,u,A,he⟩;have hm: ∀ {x y},(h.J.M9 (ρ K)) x=some y->x≠ρ K/\h.J x=some y:=λ{x y} a=>by by_cases ex:x=ρ K;rw[ex,AUI]at a;cases a;exact⟨ex,(AB3 _ ex).symm.trans a⟩
 refine⟨{h with J:=h.J.M9 (ρ K)},q,v _ key h f u,⟨A.os,A.tape,A.output,A.size,A.keep,A.upd,A.nb,A.qi,⟨λx y a=>A.Gu.1 x y (hm a).2,A.Gu.2⟩,λx y a=> ?_,A.Gz⟩,he⟩;have:=A.fresh x y (hm a).2;rwa [SL _ _ (hm a).1]at this
def FC.still{P F g need I v}(B:∀d∈need,d.2.live)(n:∀d∈need,d.1<100/\∀x∈d.2.keys,x<100)(K:∀c h,v c h->h.upd=need)(h:FC P F g need I v none):
 FC P F g need I (λc x=>∃i,v c i/\x= {i with upd:=[]}) none:=by
 refine⟨?_,λp c w l hN E s k=> ?_⟩;rintro c x ⟨i,f,rfl⟩;let⟨u,hle⟩:=h.1 c i f;exact⟨⟨u.r,nA,u.n,u.l,sP⟩,hle⟩;refine(h.2 p c w l hN E s k).mono ?_;rintro e L ⟨i,q,f,A,J⟩;have r:=K c i f;have m:∀y,y<100->i.Am p c q y=p y:=λy D=>Ej (by
  unfold Bf;cases e:Nat.ble c y with
  |false=>rfl
  |true=>have:=KL e;omega)
 refine⟨_,q,⟨i,f,rfl⟩,⟨A.os,A.tape,A.output,A.size,λb H _ G=> ?_,nA,λj x t=>⟨(A.nb j x t).1,(A.nb j x t).2.1,(A.nb j x t).2.2.imp id λ⟨d,q1,q2,_⟩=>by have:=B d (r▸q1);rw[q2]at this;cases this⟩,A.qi,A.Gu,A.fresh,A.Gz⟩,J⟩;by_cases hex:∃d∈need,p d.1=b;obtain⟨d,a,rfl⟩:=hex;let⟨o,C⟩:=AG.R8 (B d a) p;have z:=A.upd d (r▸a) o ((AG.JE d.2 λy D=>m y ((n d a).2 y D)).trans C);rw[m _ (n d a).1]at z;rw[z,hN d a o C];exact A.keep b H (λd a e=>hex ⟨d,r▸a,e⟩) G
end Go.AX
namespace Go.Proofs.YtomehhepbeiinaaGreatDoor
open Go.Proofs.Tryz
open Go.AX Lz
def ATE{es}{seen}{e}(he:e∈leftOf es seen):(leftOf es (seen.push e.born)).size<(leftOf es seen).size:=by
 have:leftOf es (seen.push e.born)=(leftOf es seen).filter λq=>q.born !=e.born:=by unfold leftOf;rw[Array.filter_filter];congr;funext q;simp[Bool.and_comm,bne,Bool.beq_eq_decide_eq]
 rw[this,Array.size_filter_lt_size_iff_exists];exact⟨e,he,by simp⟩
def DD.len{a b:Type}{R}:∀ {l:AA a} {m:AA b},DD R l m->l.length=m.length
 |_,_,.nil=>rfl
 |_,_,.cons _ h=>by simp[h.len]
def DD.ABz{b c:Type}{R}:∀ {l:AA b} {m:AA c},DD R l m->∀ {x:b},x∈l->∃y∈m,R x y
 |_,_,.nil,_,h=>by cases h
 |_,_,.cons a hr,x,h=>by rcases BD.1 h with rfl|h;exact⟨_,sP,a⟩;let⟨y,d,e⟩:=hr.ABz h;exact⟨y,DW _ d,e⟩
def Of:AE->SV
 | .agg a=>.g (a.toList.map .v)
 |v=>.v v
def WA(v a):den a (Of v)=v:=by unfold Of;split;simp[den];rw[Fu];rfl
def ASc(l:List Value):Ax (l.map .v)=[]:=by
 induction l with
 |nil=>rfl
 |cons x l a=>simp[Ax,SV.keys,a]
def WB(v):(Of v).keys=[]:=by unfold Of;split;exact ASc _;rfl
def ACJ:Bo high:=⟨dC,dC⟩
def AGv(a):fl a high:=Hz.2 (ABk a)
structure AEA where
 seen:AY Nat
 ns:AY Ah
 m:Nat
 J:AB
def AHO(b m0:Nat)(es:AY Ah)(n:Nat)(q:AEA):Hd where
 By:=[(3,.p 6 0),(5,.p 7 0),(26,.p 8 0)]
 Bu:=[(1,.cells [.m 2,.v (.map (some b))] 178),(2,.obj (.map es n)),(6,.cells [.v (.string (str high.1)),.v (.string (str high.2))] 42),(7,.cells [.m 9,.m 10] 178),(8,.obj (.mapIter (some b) m0 q.seen m0)),(9,.obj (.map es n)),(10,.obj (.map q.ns q.m))]
 J:=q.J
def TO(I:AB)(d:AY Ah)(n:Nat)(b:AA (Nat×AG)):Nat->AU->Prop:=λa h=>∃c e J,I.le J/\h= {r:=.p a 0,upd:=b,nb:=[.cells [.m (a+1),.m (a+2)] 178,.obj (.map d n),.obj (.map c e)],J:=J}
def YX{I f n u need}(m:∀a p,∀g∈u,g.1∈need.map (·.1)/\∀k∈g.2.keys,k∈need.map (·.1)\/(Bf a p k).isSome)(i:(u.map (·.1)).Nodup):∀a h,TO I f n u a h->h.OJ a need/\I.le h.J:=by
 rintro a h ⟨e,o,J,hle,rfl⟩;have c:∀j,j<3->(Bf a [.cells [.m (a+1),.m (a+2)] 178,.obj (.map f n),.obj (.map e o)] (a+j)).isSome:=λj l=>by
  rw[Gx]
  match j,l with
  |0,_=>rfl
  |1,_=>rfl
  |2,_=>rfl
 refine⟨⟨λk b=> ?_,m _ _,λq d k b=> ?_,sP,i⟩,hle⟩;simp[SV.keys]at b;subst b;right;exact c 0 oG;simp[mS]at d;rcases d with rfl|rfl|rfl;simp[AG.keys,Ax,SV.keys]at b;rcases b with rfl|rfl;right;exact c 1 oG;right;exact c 2 oG;cases b;cases b
def ARN(I s L t i n m b)(hN:EO I s L i m)(x:I b=some (.map i m))(E:∀r∈L,Bo r.l)(G:∀r∈L,r.ns.length<=1000000):
 Fn 59 [.p 1 0,Cc high] [(1,.cells [.m 2,.v (.map (some b))] 178),(2,.obj (.map t n))] I (TO I t n [(1,.cells [.m 2,.v (.map (some b))] 178),(2,.obj (.map t n))]) none:=by
 refine fo func59 ⟨YX (λ_ _=>by simp[AG.keys,Ax,SV.keys]) (by simp)⟩ λW p w N=>gG<|Ag (AOm I t n) [(1,2)] [] kR (λp h D O c=>by cases D;cases c) ?_;rintro _ rfl;refine gG<|Ag (AOp I b i m x) [] [] kR (λp h D O c=>by cases D;cases c) ?_;rintro _ rfl;refine gG<|AJz (t:=176) (kt:=42) (et:=38) (b:=b) (m:=m) (es:=i) (x:=.tmp 25) (I':=I) kR ADH kR (AB.N9 x) kR<|gG<|loop (ι:=AEA) (λq=>I.le q.J/\∃v,DD IX q.ns.toList v) (λq=>(leftOf i q.seen).size) (AHO b m t n) 1000 [(6,100),(7,204),(8,252),(9,148),(10,188)] ⟨#[],i,m,I⟩ ⟨AB.le_refl I,L,hN.JF⟩ kR kR ?_;rintro⟨seen,g,u,J⟩ ⟨hle,v,l⟩ again T;have y:=AB.N9 (hle b _ x);refine gG<|AI7 (b:=b) (m:=m) (k:=8) (x:=.tmp 26) (es:=i) (seen:=seen) (I':=J) (kS:=λe=>Of e.key) (vS:=λe=>.v e.val) kR kR y hN.bo.lt (λe _=>WA e.key) (λ_ _ _=>rfl) (λe _=>WB e.key) (λ_ _=>rfl) kR (λS=> ?_) (λe B=> ?_);exact gG<|dn [7,9,10] ⟨g,u,J,hle,rfl⟩;have B:e∈leftOf i seen:=Sx.1 B;have C:e∈i.toList:=by unfold leftOf at B;exact Sx.2 (Array.mem_filter.1 B).1
 let⟨r,o,H⟩:=hN.JF.ABz C;have A:=ATE B;let⟨Q,ev,born⟩:=e;obtain⟨rfl,rfl⟩:Q=.agg (Fw r.l)/\ev=r.val:=H;have d:=hN.has r o;refine gG<|AGb (b:=b) (m:=m) (k:=8) (x:=.tmp 26) (es:=i) (seen:=seen) (I':=J) (kS:=λe=>Of e.key) (vS:=λe=>.v e.val) (e:=⟨.agg (Fw r.l),r.val,born⟩) kR kR y hN.bo.nd C (WA _) (λ_=>rfl) (WB _) rfl kR<|gG<|call (LL J r.l high (E r o) ACJ) kR ?_;rw[AGv];refine gG<|Ag (AOr J r.ns r.b r.c r.AC (hle.own _ _ d.1) d.2.1 d.2.2 (by have:=G r o;omega)) [] [] kR (λp h ⟨_,_,_,D,_⟩ O c=>by subst D;cases c) ?_;rintro _ ⟨j,k,f,rfl,U,V,M⟩;have F:=(NF (a:=none) (P1:=[]) (P2:=[]) (o:=Gh r.ns f) M.1 (.inr M)).none_le;generalize J.plus j _=K at F⊢;refine gG<|PD (t:=176) (km:=10) (m0:=u) (m1:=(putRow g u v r.l (.slice (some ⟨j,0,none⟩) r.ns.length k)).2) (es:=g) (es':=(putRow g u v r.l (.slice (some ⟨j,0,none⟩) r.ns.length k)).1) (m:=.tmp 38) (k:=.tmp 39) (x:=.tmp 41) (kv:=.agg (Fw r.l)) (v:=.slice (some ⟨j,0,none⟩) r.ns.length k) (sk:=Cc r.l) (sx:=.v (.slice (some ⟨j,0,none⟩) r.ns.length k)) (I':=K) kR kR kR (λ_=>rfl) kR (λ_=>rfl) (λw R x=>AI0 l w R x) kR ?_;have a:=AJt (n:=u) l (r:=⟨r.l,r.ns,j,k,f⟩);have e:(Rw.mk r.l r.ns j k f).val=.slice (some ⟨j,0,none⟩) r.ns.length k:=rfl;rw[e]at a;generalize putRow g u v r.l (.slice (some ⟨j,0,none⟩) r.ns.length k)=z at a⊢;exact gG<|back [] (AHO b m t n ⟨seen.push born,z.1,z.2,K⟩) 1000 kR kR kR λP=>again ⟨seen.push born,z.1,z.2,K⟩ ⟨hle.trans F,_,a⟩ A P
def AKt(I:AB)(s:Ao)(L:List Rw)(es ns:Array MapEntry)(n m:Nat)(hN:EO I s L ns m)(a: ∀r∈L,Bo r.l)(c: ∀r∈L,r.ns.length<=1000000):
 Fn 59 [.p 1 0,Cc high] [(3,.obj (.map ns m)),(1,.cells [.m 2,.m 3] 178),(2,.obj (.map es n))] I (TO I es n []) none:=by
 refine⟨FC.AJj (need:=[(1,.cells [.m 2,.m 3] 178),(2,.obj (.map es n))]) 3 (.map ns m) (Ψ:=λb key x=>∃h0,TO (I.JP b (.map ns m)) es n [(1,.cells [.m 2,.v (.map (some b))] 178),(2,.obj (.map es n))] key h0/\x= {h0 with upd:=[]}) sP (λkey h e=>⟨(YX (λ_ _=>by simp) (by simp) key h e).1,(YX (need:=[]) (λ_ _=>by simp) (by simp) key h e).2.Cg⟩) ?_ ?_,Hw Tryz.func59 kR kR⟩
 .intro b hb;refine FC.still (need:=[(1,.cells [.m 2,.v (.map (some b))] 178),(2,.obj (.map es n))]) (by simp[AG.live]) (by simp[AG.keys,Ax,SV.keys]) ?_ (ARN (I.JP b (.map ns m)) s L es ns n m b (hN.keep λx g y f=>(AHK hb f).2) (ACR _ _ _) a c).out;rintro key h ⟨_,_,_,_,rfl⟩;rfl
 .rintro b key h hb ⟨_,⟨d,m',J,hle,rfl⟩,rfl⟩;exact⟨d,m',J.M9 b,AS0 hb hle,rfl⟩
end Go.Proofs.YtomehhepbeiinaaGreatDoor
namespace Go.Proofs.YtomehhepbeiinaaGreatDoor
open Go.Proofs.Tryz
section
open Go.AX Lz
def Wq(I):Fn 32 [] [] I (A1 (Cc high) I) none:=fo func32 (BZ rfl) λc b w a=>gG<|fi
def rows_ok{I s L d c}(h:EO I s L d c)(b:∀n o,Ai s n=some o->Ap o.l=o.l)(i:s.length<=1000000):(∀r∈L,Bo r.l)/\∀r∈L,r.ns.length<=1000000:=by refine⟨λr a=> ?_,λr a=>CB (h.len r a) i⟩;let⟨n,f⟩:=List.exists_mem_of_ne_nil _ (h.ne r a);let⟨o,g,e⟩:=(h.mem n r.l).1 ⟨r,a,rfl,f⟩;rw[<-e];exact H8 (b n o g)
def AYT(I L k m)(g:Bl I L k m)(d:∀n o,Ai k.Ar n=some o->Ap o.l=o.l)(l:k.Ar.length<=1000000):
 Fn 30 [.p 1 0] (BN m k.im k.now) I (TO I m.sm.es m.sm.n (BN m k.im k.now)) none:=by
 let⟨a,c⟩:=rows_ok g.Cq d l;refine fo func30 ⟨YX (λ_ _=>Dr) sP⟩ λr e w i=>gG<|call (Wq I) kR<|gG<|Ag (AKt I k.Ar L m.sm.es m.sm.ns m.sm.n m.sm.m g.Cq a c) [(1,3),(2,4),(3,5)] [] kR (λe h ⟨_,_,_,_,j⟩ q b=>by subst j;cases b) ?_;rintro _ ⟨f,p,J,hle,rfl⟩;exact gG<|dn [148,149,150] ⟨f,p,J,hle,rfl⟩
def ASo(I t a)(f:t.scopes=[]):Fn 167 [.g (LO t a),.v (.int .i64 0)] [] I (A1 (Cc t.g.cur) I) none:=by let⟨j,path,g,c,k,d,e,status,on,v,i⟩:=t;subst f;exact fo func167 (BZ rfl) λl h w b=>gG fi
def AH1(I:AB)(t:AJ)(a:CV)(i:Nat):Hd where
 By:=[(2,.p 100 0),(3,.p 108 0),(4,.v (.int .i64 0)),(7,.v (.int .i64 1)),(8,.v (.int .i64 (i:Int)))]
 Bu:=[(100,.cells (LO t a) 200),(108,.cells [.v (.string (str high.1)),.v (.string (str high.2))] 42)]
 J:=I
def ASi(I t a)(b:t.scopes=[])(g:Bo t.g.cur):Fn 112 [.g (LO t a),Cc high] [] I (A1 (.v (.int .i64 1)) I) none:=by have h:=ASo I t a b;have d:=LL I t.g.cur high g ACJ;rw[AGv]at d;have c:=AIS I t a (by rw[b];exact BS _);rw[b]at c;refine fo func112 (BZ rfl) λl j w e=>gG (call c kR (gG ?_));refine loop (ι:=Nat) (λi=>i<=1) (λi=>1-i) (AH1 I t a) 300 [] 0 (BS _) kR kR ?_;intro i k again T;obtain rfl|rfl:i=0\/i=1:=oG;exact gG (call h kR (gG (call d kR (gG (back [] (AH1 I t a 1) 300 kR kR kR λf=>again 1 (AZ _) oG f)))));exact gG (call c kR (gG fi))
def ARM(I t a)(b:t.scopes=[])(e:Bo t.g.cur):Fn 58 [.g (CG t a),Cc high] [] I (A1 (.t [.g (CG t a),.v (.bool true)]) I) none:=by have d:=AIS I t a (by rw[b];exact BS _);rw[b]at d;exact fo func58 (BZ (by simp[SV.keys,Ax,CG])) λg f w c=>gG (call (ACQ I t a) kR (gG (call (ASi I t a b e) kR (gG (call d kR (gG fi))))))
structure HX where
 i:Nat
 J:AB
 es:AY Ah
 n:Nat
 BH:Aq
def AHx(m:BJ)(k:Ab)(x:HX):Hd where
 By:=[(0,.p 1 0),(3,.p 6 0),(5,.p 7 0),(24,.v (.slice m.BH.a k.AD.length m.BH.c)),(25,.v (.int .i64 (k.AD.length:Int))),(26,.v (.int .i64 (x.i:Int)))]
 Bu:=BN m k.im k.now++[(6,.cells [.v (.string (str high.1)),.v (.string (str high.2))] 42),(7,.cells (De k.im m.ip++[.v (.int .i64 k.now),.m 8,x.BH.sv,.v (.pointer none),.v (.slice none 0 0),.v (.slice none 0 0)]) 107),(8,.obj (.map x.es x.n))]
 J:=x.J
structure HP(I:AB)(AD:AA AJ)(x:HX):Prop where
 i:x.i<=AD.length
 tm:DO x.J (D9 (AD.take x.i)) x.es
 BH:Told I x.J 1 9 (((AD.take x.i).map (·.id)).map A5) x.BH
def CE.ix{I c s e i v}(h:CE I 1 e c s)(d:c[i]? =some v):∃b a,s.a=some ⟨b,0,none⟩/\I.has b (.cells (c++a).toArray e (0,0))/\((c++a).toArray:AY AE)[0+i*1]? =some v:=by have f:=(B6.1 d).1;rcases h.at_ with⟨q,_,_⟩|⟨b,a,q1,q2,_⟩;have:=h.n;omega;exact⟨b,a,q1,q2,by rw[Lm,FT (by omega)];simpa using d⟩
structure KH(I:AB)(k:Ab)(m:BJ):Prop where
 tm:DO I (D9 k.AD) m.es
 BH:CE I 1 9 ((k.AD.map (·.id)).map A5) m.BH
 Bm:DJ I k.Ar m.sm.es m.sm.n
def KH.up{I J k m}(h:KH I k m)(hle:I.le J):KH J k m:=⟨DO.up h.tm hle,h.BH.keep λb _ y a=>hle.own b y a,DJ.A8 hle.Cg h.Bm⟩
def AEN(I:AB)(k:Ab)(m:BJ):Nat->AU->Prop:=λa h=>∃b J,h= {r:=.p (a+0) 0,upd:=BN m k.im k.now,nb:=Nw a b k.im k.now,J:=J}/\I.le J/\KH J k b
def AZa{I k m}:CO (AEN I k m) (BN m k.im k.now) I:=by refine⟨?_⟩;rintro c h ⟨f,J,rfl,hle,_⟩;have d:=AMF (m:=f) (im:=k.im) (now:=k.now) (key:=c) (J:=J);exact⟨⟨λx a=>(d.r x (by simpa[SV.keys,Ax]using a)).imp (λq=>by cases q) id,Dr,λb e x a=>(d.n b e x a).imp (λq=>by cases q) id,d.l,sP⟩,hle⟩
structure RN(k:Ab):Prop where
 FB:FY k.AD
 len:k.AD.length<=900000
 AD:∀t∈k.AD,BY t.id/\t.scopes=[]/\Bo t.g.cur
 fl:k.facts.length<=1000000
 ff:∀f∈k.facts,Bo f.l
 ob:∀n o,Ai k.Ar n=some o->Ap o.l=o.l
 sl:k.Ar.length<=1000000
def AHy(I L k m)(W:Bl I L k m)(hQ:RN k):Fn 17 [.p 1 0,Cc high] (BN m k.im k.now) I (AEN I k m) none:=by
 let⟨v,hlen,X,ab,aa,ag,ah⟩:=hQ;let⟨G,af⟩:=rows_ok W.Cq ag ah;have H:m.BH.n=k.AD.length:=by have:=W.BH.n;rw[C6,C6]at this;omega
 let⟨ip,mes,mn,⟨P,am,M⟩,CQ,lk,sm⟩:=m;simp only at H;subst H;refine fo func17 AZa λρ key w aj=>gG<|NH 180 (b:=.DZ [] []) (b':=.obj (.map #[] 0)) kR (λρ=>rfl) nA rfl<|loop (ι:=HX) (HP I k.AD) (λx=>k.AD.length-x.i) (AHx ⟨ip,mes,mn,⟨P,k.AD.length,M⟩,CQ,lk,sm⟩ k) 1000 [(6,100),(7,196),(8,180)] ⟨0,I,#[],0,⟨none,0,0⟩⟩ ⟨BS _,ALa,.nil I 1 9⟩ kR kR ?_;rintro⟨i,J,A,n,⟨Q,on,R⟩⟩ ⟨p1,p3,z⟩ again T;simp only at p1 p3 z;have l:Bl J L k ⟨ip,mes,mn,⟨P,k.AD.length,M⟩,CQ,lk,sm⟩:=W.up z.st.none_le;by_cases d:i<k.AD.length;have hx:k.AD[i]? =some k.AD[i]:=A9 d;have D:=Mi d;have hnew:Aw (k.AD.take i) k.AD[i].id=none:=by
  cases e:Aw (k.AD.take i) k.AD[i].id with
  |none=>rfl
  |some u=>
   exfalso;let⟨j,hj,e2⟩:=Pn (Ed e);rw[CX]at hj;rw[Yr]at e2;have:=Mh.1 v j i oG d oG;rw[e2,GD e,N1]at this;cases this
 have y:=MZ v (DF d);let⟨c,K,hg⟩:=X _ (DF d);have g:((k.AD.map (·.id)).map A5)[i]? =some (A5 k.AD[i].id):=by rw[E0,E0,hx];rfl
 generalize k.AD[i]=t at D hnew y c K hg g;let⟨jt,a,O,ha,_⟩:=(l.tm.find (Ei c)).2 t (by rw[LM];exact y);let⟨b,ak,q1,q2,B⟩:=l.BH.ix g;obtain rfl:P=_:=q1;have p:=LM (k.AD.take i) t.id▸hnew;have al:on<=1000000:=by have O:=z.row.n;rw[C6,C6,CX]at O;simp only at O;omega
 refine gg [(27,hT ((i:Int)<(k.AD.length:Int)) oG),(28,BM J HV b 0 k.AD.length M i d),(29,.Jq J _ _ (G5 (I:=J.B0) Cm rfl q2.B0 B)),(36,.hand _ [(34,.m 2),(35,.v (.string (AR t.id)))] [(2,.obj (.map mes mn))] J _ (N0 A6 (L:=lay) (t:=104) (a:=34) (b:=35) (km:=2) (n:=mn) (kt:=9) (et:=53) (d1:=.string) (es:=mes) (kv:=.string (AR t.id)) (j:=jt) (xs:=DV t a) (I:=J) rfl Cm A0 O))]<|call (ARM J t a K hg) kR<|gG<|PD (t:=104) (km:=8) (m0:=n) (m1:=n+1) (es:=A) (es':=A.push {key:=.string (AR t.id),val:=.agg (DV t a).toArray,born:=n}) (m:=.tmp 45) (k:=.tmp 46) (x:=.tmp 47) (kv:=.string (AR t.id)) (v:=.agg (DV t a).toArray) (sk:=.v (.string (AR t.id))) (sx:=.g (CG t a)) (I':=J) kR kR kR (λ_=>rfl) kR (λρ=>by rw[AC6];simp[den];rw[Fu]) (λw r hb=>UT (kv:=.string (AR t.id)) (v:=.agg (DV t a).toArray) ADG Cm A0 ((p3.find (Ei c)).1 p) w r hb) kR ?_;refine gG<|act (need:=[(1256,.cells ([A5 t.id].map .v) 9)]) [] kR (Im (I:=J) A6 (s:=⟨Q,on,R⟩) (x:=.s 1256 0 1 1) (m:=1) (olds:=((k.AD.take i).map (·.id)).map A5) (news:=[A5 t.id]) Tb kR z.row (D2 (e:=9) sP rfl (by simp[A5,Value.oneCell'])) dC (by show on+1<=16777216;omega)) (λh' p kb o=>by obtain⟨_,_,_,rfl,_⟩:=p;cases o) Il ?_
 rintro h' ⟨N,c',f,rfl,ac,ad,ae,Y,Z⟩;have C:=z.app (AC:=f) (news:=[A5 t.id]) rfl (by simp[A5,Value.oneCell']) ac ad ae Y Z;have p5:=DO.A8 (I:=J) (J:=J.plus N (.cells (((k.AD.take i).map (·.id)).map A5++[A5 t.id]++f).toArray 9 (0,0))) (λ_ _ h=>h) (p3.AEf p (Ei c) ha n);generalize J.plus N (.cells (((k.AD.take i).map (·.id)).map A5++[A5 t.id]++f).toArray 9 (0,0))=F at C p5⊢;rw[show D9 (k.AD.take i)++[(t.id,t)]=D9 (k.AD.take (i+1)) by rw[D];unfold D9;rw[EL];rfl]at p5;rw[show((k.AD.take i).map (·.id)).map A5++[A5 t.id]=((k.AD.take (i+1)).map (·.id)).map A5 by rw[D,EL,EL];rfl]at C;exact gg [(58,hW ((i:Int)+1) ((i+1:Nat):Int) oG oG)]<|back [] (AHx ⟨ip,mes,mn,⟨some ⟨b,0,none⟩,k.AD.length,M⟩,CQ,lk,sm⟩ k ⟨i+1,F,A.push {key:=.string (AR t.id),val:=.agg (DV t a).toArray,born:=n},n+1,⟨some ⟨N,0,none⟩,on+1,c'⟩⟩) 1000 kR kR kR λT'=>again ⟨i+1,F,A.push {key:=.string (AR t.id),val:=.agg (DV t a).toArray,born:=n},n+1,⟨some ⟨N,0,none⟩,on+1,c'⟩⟩ ⟨d,p5,C⟩ (by show k.AD.length-(i+1)<k.AD.length-i;omega) T';obtain rfl:i=k.AD.length:=oG;rw[HB]at p3 z;refine gg [(27,hF ((k.AD.length:Int)<(k.AD.length:Int)) oG)]<|Ag (AKt J k.Ar L sm.es sm.ns sm.n sm.m l.Cq G af) [(1,3),(2,4),(3,5)] [] kR (λkey h ⟨_,_,_,_,p⟩ kb o=>by subst p;cases o) ?_;rintro _ ⟨E,m',J2,q,rfl⟩;refine gG ?_;refine Ag (AIb J2 L k _ (l.up q) ab high ACJ aa) [] [1,2,3,4,5] kR (λkey h ⟨_,_,_,p⟩ kb o=>by subst p;exact(Dr (key:=key) (nb:=[]) kb o).1) ?_;rintro _ ⟨⟨S,V,U⟩,F,ai,rfl⟩;refine gG ?_;have s:=q.trans ai.st.none_le
 exact dn [7,8,1064,1065,1066] ⟨⟨ip,A,n,⟨Q,on,R⟩,⟨S,V,U⟩,⟨none,0,0⟩,⟨sm.es,sm.n,E,m'⟩⟩,F,rfl,z.st.none_le.trans s,(KH.mk (k:=k) (m:=⟨ip,A,n,⟨Q,on,R⟩,⟨S,V,U⟩,⟨none,0,0⟩,⟨sm.es,sm.n,E,m'⟩⟩) p3 z.row l.Bm).up s⟩ (h:={r:=.p (key+0) 0,upd:=BN ⟨ip,mes,mn,⟨P,k.AD.length,M⟩,CQ,lk,sm⟩ k.im k.now,nb:=Nw key ⟨ip,A,n,⟨Q,on,R⟩,⟨S,V,U⟩,⟨none,0,0⟩,⟨sm.es,sm.n,E,m'⟩⟩ k.im k.now,J:=F})
section
def Bq.app{I J K P b}(h:Bq I [] J P)(k:Bq J [] K b):Bq I [] K (P++b) where
 le:=h.le.trans k.le
 keep x y hx _:=k.keep x y (h.keep x y hx sP) sP
 rows x hx:=by rcases BA.1 hx with q|q;exact h.rows x q;rcases k.rows x q with e|e;cases e;exact .inr λy c=>e y (h.keep x y c sP)
def Bq.perm{I K P b}(h:Bq I [] K P)(c:∀x∈b,x∈P):Bq I [] K b:=⟨h.le,h.keep,λx e=>h.rows x (c x e)⟩
def AKN(s:Aq):(A7 s.a).toList.Nodup:=by
 cases A7 s.a with
 |none=>exact List.nodup_nil
 |some b=>exact List.nodup_cons.2 ⟨sP,List.nodup_nil⟩
structure HN(I J:AB)(i:Nat)(f:Av)(l:AA AE)(a:Aq)(j:Nat)(g:Av)(m:AA AE)(d:Aq):Prop where
 st:Bq I [] J ((A7 a.a).toList++(A7 d.a).toList)
 nd:((A7 a.a).toList++(A7 d.a).toList).Nodup
 ra:CE J i f l a
 rb:CE J j g m d
variable {I J K:AB} {i j:Nat} {f g:TypeId} {l m:List Value} {a d:Aq}
def Qs{I b e}:CE I b e [] ⟨none,0,0⟩:=⟨sP,λv h=>(by cases h),.inl ⟨rfl,rfl,rfl⟩⟩
theorem HN.nil(I i j f g):HN I I i f [] ⟨none,0,0⟩ j g [] ⟨none,0,0⟩:=⟨.refl I [],NW,Qs,Qs⟩
def HN.step{P}(h:HN I J i f l a j g m d)(k:Bq J [] K P):HN I K i f l a j g m d where
 st:=⟨h.st.le.trans k.le,λx y e _=>k.keep x y (h.st.keep x y e sP) sP,h.st.rows⟩
 nd:=h.nd
 ra:=h.ra.keep λb _ y c=>k.keep b y c sP
 rb:=h.rb.keep λb _ y c=>k.keep b y c sP
def AKW{n c b:Nat}{k p s z e o}(h:CE J z e o s)(y:k.length=z)(x:∀v∈k,v.oneCell')(t:(o++k).length+p.length=c*z)(u:s.n+1<=c)(w:c<=maxLen)(r:J b=none):CE (J.plus b (.cells (o++k++p).toArray e (0,0))) z e (o++k) ⟨some ⟨b,0,none⟩,s.n+1,c⟩:=by refine⟨?_,?_,.inr ⟨b,p,rfl,MS r,t,u,w⟩⟩;rw[Bc,h.n,y,FU,Nat.one_mul];intro v q;rcases BA.1 q with q|q;exact h.one v q;exact x v q
def AKM{s:Aq}{x:Nat}:x∈(A7 s.a).toList↔A7 s.a=some x:=by cases A7 s.a<;>simp[eq_comm]
def HN.Zn{b c k AC}(h:HN I J i f l a j g m d)(A:k.length=i)(z:∀v∈k,v.oneCell')(s:(l++k).length+AC.length=c*i)(t:a.n+1<=c)(u:c<=maxLen)(o:J b=none)(p:A7 a.a=some b\/J.free b):HN I (J.plus b (.cells (l++k++AC).toArray f (0,0))) i f (l++k) ⟨some ⟨b,0,none⟩,a.n+1,c⟩ j g m d:=by
 have r:∀x∈(A7 d.a).toList,x≠b:=λx n e=>by subst e;rcases p with q|q;exact(Fz.1 h.nd).2.2 x (AKM.2 q) x n rfl;let⟨y,w⟩:=h.rb.has x n;have:=w.own;rw[q.2]at this;cases this
 refine⟨h.st.trans ((NF (P1:=[]) (P2:=(A7 d.a).toList) (o:=.cells (l++k++AC).toArray f (0,0)) o p).cast sP (by simp[A7])),?_,AKW (n:=0) h.ra A z s t u o,h.rb.keep λx n y w=>MU w (r x n)⟩;show([b]++(A7 d.a).toList).Nodup;exact Gl.2 ⟨λn=>r b n rfl,AKN d⟩
def HN.Zr{b c k AC}(h:HN I J i f l a j g m d)(A:k.length=j)(z:∀v∈k,v.oneCell')(t:(m++k).length+AC.length=c*j)(u:d.n+1<=c)(w:c<=maxLen)(o:J b=none)(p:A7 d.a=some b\/J.free b):HN I (J.plus b (.cells (m++k++AC).toArray g (0,0))) i f l a j g (m++k) ⟨some ⟨b,0,none⟩,d.n+1,c⟩:=by
 have r:∀x∈(A7 a.a).toList,x≠b:=λx n e=>by subst e;rcases p with q|q;exact(Fz.1 h.nd).2.2 x n x (AKM.2 q) rfl;let⟨y,s⟩:=h.ra.has x n;have:=s.own;rw[q.2]at this;cases this
 refine⟨h.st.trans ((NF (P1:=(A7 a.a).toList) (P2:=[]) (o:=.cells (m++k++AC).toArray g (0,0)) o p).cast sP (by simp[A7])),?_,h.ra.keep λx n y s=>MU s (r x n),AKW (n:=0) h.rb A z t u w o⟩;show((A7 a.a).toList++[b]).Nodup;rw[Fz];exact⟨AKN a,Gl.2 ⟨sP,NW⟩,λx n y s e=>r x n (e.trans (AP.1 s))⟩
def CE.PT{k:Type}{I J:AB}{R:k->List Value->Prop}{size:Nat}{e:TypeId}{xs:List k}{Aa:List Value}{s:Aq}(h:CE I size e Aa s)(hlen:s.n=xs.length)(c:Rows R xs Aa)(n: ∀b o,s.a=some ⟨b,0,none⟩->I.has b o->J b=some o):Aj J R size xs s.a s.c Aa:=by rcases h.at_ with⟨q1,q2,q3⟩|⟨b,AC,q1,q2,q3,q4,q5⟩;exact⟨⟨by rw[h.n,hlen],h.one,.inl (hlen▸q1)⟩,oG,by rw[q3];exact Nat.zero_le _,c⟩;refine⟨⟨by rw[h.n,hlen],h.one,.inr ⟨b,0,_,e,_,q1,n b _ q1 q2,?_⟩⟩,by rw[<-hlen];exact q4,q5,c⟩;rw[List.drop_zero];show(Aa++AC).take _=_;rw[<-hlen,<-h.n,List.take_left]
def Bq.never{P b o}(h:Bq I [] J P)(t:b∈P)(r:J.has b o):Bq I [] (J.never b o) (P.erase b)/\I.own b=none/\(∀x y,J.has x y->x≠b->(J.never b o).has x y)/\J.Cd (J.never b o):=by
 have p:∀y,¬I.has b y:=by rcases h.rows b t with q|q;cases q;exact q
 have hle:J.Cd (J.never b o):=λx y k=>by rw[UY _ _ (λe=>by rw[e,r.at_]at k;cases k)];exact k
 have c:∀x y,J.has x y->x≠b->(J.never b o).has x y:=λx y k n=>⟨by rw[XY _ _ n];exact k.own,by rw[UY _ _ n];exact k.at_⟩;refine⟨⟨h.le.trans hle,λx y k u=>c x y (h.keep x y k sP) λe=>p y (e▸k),λx k=>h.rows x (List.mem_of_mem_erase k)⟩,?_,c,hle⟩;cases e:I.own b with
 |none=>rfl
 |some y=>
  exfalso;refine p y ⟨e,?_⟩;cases s:I b with
  |none=>rfl
  |some z=>have:=h.le b z s;rw[r.at_]at this;cases this
end
def UK(l:Lz.AV):AA AE:=[.string (str l.1),.string (str l.2)]
def AM4(I:AB):Nat->AU->Prop:=λa h=>h= {r:=.s a 0 8 8,nb:=[.cells ((HZ.flatMap UK).map .v) 42],J:=I}
def XD(I):Fn 16 [] [] I (AM4 I) none:=by refine fo func16 ⟨?_⟩ λl c w f=> ?_;rintro c h rfl;refine⟨⟨λk a=> ?_,nA,λb g k a=> ?_,sP,sP⟩,AB.le_refl _⟩;simp[SV.keys]at a;right;have:=Gx (key:=c) (nb:=[AG.cells ((HZ.flatMap UK).map .v) 42]) (j:=0);rw[FD]at this;rw[a,this];rfl;rw[AP.1 g]at a;exfalso;let⟨v,i,e⟩:=Jn.1 a;obtain⟨x,_,rfl⟩:=BG.1 i;cases e;exact gG<|dn [172] rfl
def Zp:FE prog lay 30 195 3:=⟨⟨_,rfl⟩,⟨_,_,rfl,rfl⟩,kR⟩
def Sq(v):∀x∈Au v,x.oneCell':=by intro x a;simp[Au,mS]at a;rcases a with rfl|rfl|rfl|rfl|rfl<;>rfl
def ATm(I)(x:Nat)(a k:Nat)(s:a<=9223372036854775807)(t:0<k/\k<=1000):∀b f (o:BP),o.op=.binOp .quo 3 (.tmp x) (.const (.int .i64 (k:Int))) 3->(∀p∈[(x,SV.v (.int .i64 (a:Int)))],f p.1=p.2)->LS prog o f b [] I (.v (.int .i64 ((a/k:Nat):Int))) none:=by
 intro b f o d e;have l:=Cy e (s:=x) (x:=.v (.int .i64 (a:Int))) sP;intro v r w j _ _ _ _;refine⟨w,?_,BB.refl w⟩;have g:=j (.tmp x) xO;have h:=j (.const (.int .i64 (k:Int))) xO;simp[ev,l,den]at g h;simp[execOp,d,Sem.run_bind,g,h];have n:Int.tdiv (a:Int) (k:Int)=((a/k:Nat):Int):=by rw[Int.tdiv_eq_ediv_of_nonneg oG];rfl
 have m:(k:Int)≠0:=oG;have u:prog.underlying 3=some (.int .i64):=Dj;have c:a/k<=a:=Nat.div_le_self a k;go_simp;rw[AN oG];have i:((a:Int)/(k:Int))=((a/k:Nat):Int):=rfl;rw[i];generalize a/k=q at c⊢;rw[ADa oG];rfl
def Od(I:AB)(x:AA AH)(l:AA AE):Prop:=∃a c b,l=[.slice a x.length c]/\Aj I Hk 1 x a c b
def AOH(I x l)(h:Od I x l):l.length=1:=by obtain⟨_,_,_,rfl,_⟩:=h;rfl
def AOI{I J}(hle:I.Cd J)(x l)(h:Od I x l):Od J x l:=by let⟨a,c,b,e,q⟩:=h;exact⟨a,c,b,e,Aj.A8 hle q λ_ _ h=>h⟩
def APy:GZ 22 23 1:=⟨kR,by refine⟨(prog.info? 23).getD Af,?_,?_⟩<;>kernel_rfl⟩
def AYw:prog.underlying 23=some (.slice 5):=kR
abbrev Vt(I J:AB)(c d:AA AE)(a b:Aq):Prop:=HN I J 5 51 c a 3 195 d b
abbrev c8:AA Int:=[0,1,2,3,4,5,9,14]
def m8{i}(h:i<8):i=0\/i=1\/i=2\/i=3\/i=4\/i=5\/i=6\/i=7:=oG
structure MA where
 i:Nat
 J:AB
 sc:Aq
def AIl(la:AK Ac)(n lc:Nat)(x:MA):Hd where
 By:=[(0,.v (.slice la n lc)),(2,.p 6 0),(3,.p 7 0),(12,.s 8 0 8 8),(13,.v (.int .i64 8)),(14,.v (.int .i64 (x.i:Int)))]
 Bu:=[(6,.cells [.v (.slice none 0 0),.v (.slice none 0 0)] 32),(7,.cells [x.sc.sv,.v (.slice none 0 0)] 32),(8,.cells (c8.map λk=>.v (.int .i64 k)) 2)]
 J:=x.J
def AIo(la:AK Ac)(n lc:Nat)(x:MA):Hd where
 By:=[(0,.v (.slice la n lc)),(2,.p 6 0),(3,.p 7 0),(6,.v (.int .i64 (x.i:Int)))]
 Bu:=[(6,.cells [.v (.slice none 0 0),.v (.slice none 0 0)] 32),(7,.cells [x.sc.sv,.v (.slice none 0 0)] 32)]
 J:=x.J
structure MC where
 i:Nat
 J:AB
 sf:Aq
 vf:AA AE
def AIp(la:AK Ac)(n lc:Nat)(sc:Aq)(x:MC):Hd where
 By:=[(0,.v (.slice la n lc)),(2,.p 6 0),(3,.p 7 0),(7,.v (.int .i64 (x.i:Int)))]
 Bu:=[(6,.cells [.v (.slice none 0 0),.v (.slice none 0 0)] 32),(7,.cells [sc.sv,x.sf.sv] 32)]
 J:=x.J
structure MD where
 k:Nat
 J:AB
 m:Mk
 s:Aq
def ABy(la:AK Ac)(n lc:Nat)(sc sf:Aq)(i ab:Nat)(a:AK Ac)(mc:Nat)(x:MD):Hd where
 By:=[(0,.v (.slice la n lc)),(2,.p 6 0),(3,.p 7 0),(7,.v (.int .i64 (i:Int))),(8,.p 9 0),(9,.v (.int .i64 (ab:Int))),(10,.v (.int .i64 (x.k:Int)))]
 Bu:=[(6,.cells [.v (.slice none 0 0),.v (.slice none 0 0)] 32),(7,.cells [sc.sv,sf.sv] 32),(9,EI x.m a mc x.s)]
 J:=x.J
structure MDP(a:AB)(ab:Nat)(b:AK Ac)(mc:Nat)(cells:AA AE)(m0:Mk)(x:MD):Prop where
 k:x.k<=12
 st:Bq a [] x.J (A7 x.s.a).toList
 ms:FX (24*x.k) x.J b mc cells x.m x.s
 eq:Mk.parts ab (12-x.k) x.k x.m=Mk.parts ab 12 0 m0
def HN.never{I J K:AB}{za zb:Nat}{ea eb:TypeId}{va vb:List Value}{sa sb s:Aq}{b:Nat}{o:Obj}(h:HN I J za ea va sa zb eb vb sb)(k:Bq J [] K (A7 s.a).toList)(hs:s.a=some ⟨b,0,none⟩)(m:K.has b o):
 I.own b=none/\HN I (K.never b o) za ea va sa zb eb vb sb/\J.Cd (K.never b o):=by
 have hb:b∈(A7 s.a).toList:=by rw[hs];simp[A7]
 have g:=h.st.app k;obtain⟨n,p,n3,n4⟩:=g.never (List.mem_append_right _ hb) m;have l:=h.step k;have j: ∀y,¬J.has b y:=by rcases k.rows b hb with q|q;cases q;exact q
 have c: ∀x∈(A7 sa.a).toList,x≠b:=λx a e=>by obtain⟨y,f⟩:=h.ra.has x a;exact j y (e▸f)
 have d: ∀x∈(A7 sb.a).toList,x≠b:=λx a e=>by obtain⟨y,f⟩:=h.rb.has x a;exact j y (e▸f)
 refine⟨p,⟨n.perm λx a=> ?_,h.nd,l.ra.keep λx a y f=>n3 x y f (c x a),l.rb.keep λx a y f=>n3 x y f (d x a)⟩,k.le.trans n4⟩;have i:x≠b:=by rcases List.mem_append.1 a with q|q;exact c x q;exact d x q
 exact(List.mem_erase_of_ne i).2 (List.mem_append_left _ a)
def PS{I z e a s}(h:CE I z e a s)(d:0<s.n):∃b o,s.a=some ⟨b,0,none⟩/\I.has b o:=by rcases h.at_ with⟨q,_,_⟩|⟨b,c,q1,q2,_⟩;omega;exact⟨b,_,q1,q2⟩
def Aj.AIR{I l a c b}(h:Aj I Hk 1 l a c b):b.length=l.length:=by rw[h.sl.len,RF]
def Wo(I:AB)(x a k:Nat)(b:a<=9223372036854775807)(c:0<k/\k<=1000):Hint:=.hand (.binOp .quo 3 (.tmp x) (.const (.int .i64 (k:Int))) 3) [(x,.v (.int .i64 (a:Int)))] [] I (.v (.int .i64 ((a/k:Nat):Int))) (ATm I x a k b c)
def ATw(fl i m)(h:m=Mk.parts ((i+1)%3) 12 0 ⟨fl.getD i [],0,[]⟩):F9 fl i=⟨1,7,((m.next.2.emit 2 (m.next.1%8)).emit 18 0).code⟩:=by subst h;rfl
abbrev AEM(I:AB)(a:Ak):Nat->AU->Prop:=Ft I (λq:CY=>.g (De a q)) (λJ q=>D3 J a q)
def ATu{i}(h:i<8):((c8.take (i+1)).map whole).flatMap Au=((c8.take i).map whole).flatMap Au++Au (whole ((c8).getD i 0)):=by have:i=0\/i=1\/i=2\/i=3\/i=4\/i=5\/i=6\/i=7:=oG;rcases this with rfl|rfl|rfl|rfl|rfl|rfl|rfl|rfl<;>rfl
def ATx{i}(h:i<8):((HZ.take (i+1)).map Cx).flatMap Au=((HZ.take i).map Cx).flatMap Au++Au (Cx (HZ.getD i EC)):=by have:i=0\/i=1\/i=2\/i=3\/i=4\/i=5\/i=6\/i=7:=oG;rcases this with rfl|rfl|rfl|rfl|rfl|rfl|rfl|rfl<;>rfl
def ATy(I)(fl:List (List UInt8))(la)(lc)(E)(hl:Aj I (Od I) 1 fl la lc E)(hlen:fl.length<=9223372036854775807)(aj: ∀x∈fl,x.length<=9223372036854775807):Fn 34 [.v (.slice la fl.length lc)] [] I (AEM I (He fl)) none:=by
 refine fo Tryz.func34 (EK λ_=>by simp[SV.keys,Ax,De]) λρ key w au=> ?_;refine gG<|loop (ι:=MA) (λx=>x.i<=8/\Vt I x.J (((c8.take x.i).map whole).flatMap Au) [] x.sc ⟨none,0,0⟩) (λx=>8-x.i) (AIl la fl.length lc) 1000 [(6,100),(7,116),(8,132)] ⟨0,I,⟨none,0,0⟩⟩ ⟨Nat.zero_le _,HN.nil _ _ _ _ _⟩ kR kR ?_;rintro⟨i,J,⟨ca,cn,cc⟩⟩ ⟨hi,ht⟩ again T;simp only at hi ht;by_cases a:i<8;have g:=ATu a;have N:cn<=1000000:=by have:=ht.ra.n;rw[F6 (n:=5) (f:=Au) (λ_=>rfl),List.length_map]at this;have h2:=List.length_take_le i c8;simp only at this;omega
 generalize((c8.take i).map whole).flatMap Au=olds at ht g;refine gG ?_ (by obtain rfl|rfl|rfl|rfl|rfl|rfl|rfl|rfl:=m8 a<;>kernel_rfl);refine act (need:=[(1064,.cells ((Au (whole (c8.getD i 0))).map .v) 51)]) [] (by obtain rfl|rfl|rfl|rfl|rfl|rfl|rfl|rfl:=m8 a<;>kernel_rfl) (Im (I:=J) A6 (s:=⟨ca,cn,cc⟩) (x:=.s 1064 0 1 1) (m:=1) (olds:=olds) (news:=Au (whole (c8.getD i 0))) Jf (by obtain rfl|rfl|rfl|rfl|rfl|rfl|rfl|rfl:=m8 a<;>kernel_rfl) ht.ra (D2 (e:=51) sP rfl (Sq _)) dC (by show cn+1<=16777216;omega)) (λh' O kb l=>by obtain⟨_,_,_,rfl,_⟩:=O;cases l) Il ?_
 rintro h' ⟨b',F,c,rfl,s,t,u,B,p⟩;have v:=ht.Zn (AC:=c) rfl (Sq _) s t u B p;generalize J.plus b' _=z at v⊢;refine gG ?_ (by obtain rfl|rfl|rfl|rfl|rfl|rfl|rfl|rfl:=m8 a<;>kernel_rfl);exact back [] (AIl la fl.length lc ⟨i+1,z,⟨some ⟨b',0,none⟩,cn+1,F⟩⟩) 1000 (by obtain rfl|rfl|rfl|rfl|rfl|rfl|rfl|rfl:=m8 a<;>kernel_rfl) (by obtain rfl|rfl|rfl|rfl|rfl|rfl|rfl|rfl:=m8 a<;>kernel_rfl) (by obtain rfl|rfl|rfl|rfl|rfl|rfl|rfl|rfl:=m8 a<;>kernel_rfl) λT'=>again ⟨i+1,z,⟨some ⟨b',0,none⟩,cn+1,F⟩⟩ ⟨a,by rw[g];exact v⟩ (by show 8-(i+1)<8-i;omega) T'
 .have P:i=8:=oG;subst P;have ht:Vt I J (((c8).map whole).flatMap Au) [] ⟨ca,cn,cc⟩ ⟨none,0,0⟩:=ht;refine gG<|loop (ι:=MA) (λx=>x.i<=8/\Vt I x.J (((c8).map whole).flatMap Au++((HZ.take x.i).map Cx).flatMap Au) [] x.sc ⟨none,0,0⟩) (λx=>8-x.i) (AIo la fl.length lc) 3000 [] ⟨0,J,⟨ca,cn,cc⟩⟩ ⟨Nat.zero_le _,by simpa using ht⟩ kR kR ?_;rintro⟨i,J,⟨ca,cn,cc⟩⟩ ⟨hi,ht⟩ again T;simp only at hi ht;by_cases a:i<8;have g:=ATx a;have N:cn<=1000000:=by have:=ht.ra.n;rw[List.length_append,F6 (n:=5) (f:=Au) (λ_=>rfl),F6 (n:=5) (f:=Au) (λ_=>rfl),List.length_map,List.length_map]at this;have h2:=List.length_take_le i HZ;simp only[List.length_cons,List.length_nil]at this;omega
  have K:(((c8).map whole).flatMap Au++((HZ.take (i+1)).map Cx).flatMap Au)=(((c8).map whole).flatMap Au++((HZ.take i).map Cx).flatMap Au)++Au (Cx (HZ.getD i EC)):=by rw[g,List.append_assoc]
  generalize(((c8).map whole).flatMap Au++((HZ.take i).map Cx).flatMap Au)=olds at ht K;refine gG ?_ (by obtain rfl|rfl|rfl|rfl|rfl|rfl|rfl|rfl:=m8 a<;>kernel_rfl);refine Ag (XD J) [] [] (by obtain rfl|rfl|rfl|rfl|rfl|rfl|rfl|rfl:=m8 a<;>kernel_rfl) (λkey h O kb l=>by cases O;cases l) ?_;rintro _ rfl;refine gG ?_ (by obtain rfl|rfl|rfl|rfl|rfl|rfl|rfl|rfl:=m8 a<;>kernel_rfl);refine act (need:=[(3072,.cells ((Au (Cx (HZ.getD i EC))).map .v) 51)]) [] (by obtain rfl|rfl|rfl|rfl|rfl|rfl|rfl|rfl:=m8 a<;>kernel_rfl) (Im (I:=J) A6 (s:=⟨ca,cn,cc⟩) (x:=.s 3072 0 1 1) (m:=1) (olds:=olds) (news:=Au (Cx (HZ.getD i EC))) Jf (by obtain rfl|rfl|rfl|rfl|rfl|rfl|rfl|rfl:=m8 a<;>kernel_rfl) ht.ra (D2 (e:=51) sP rfl (Sq _)) dC (by show cn+1<=16777216;omega)) (λh' O kb l=>by obtain⟨_,_,_,rfl,_⟩:=O;cases l) Il ?_
  rintro h' ⟨b',F,c,rfl,s,t,u,B,p⟩;have v:=ht.Zn (AC:=c) rfl (Sq _) s t u B p;generalize J.plus b' _=z at v⊢;refine gG ?_ (by obtain rfl|rfl|rfl|rfl|rfl|rfl|rfl|rfl:=m8 a<;>kernel_rfl);exact back [] (AIo la fl.length lc ⟨i+1,z,⟨some ⟨b',0,none⟩,cn+1,F⟩⟩) 3000 (by obtain rfl|rfl|rfl|rfl|rfl|rfl|rfl|rfl:=m8 a<;>kernel_rfl) (by obtain rfl|rfl|rfl|rfl|rfl|rfl|rfl|rfl:=m8 a<;>kernel_rfl) (by obtain rfl|rfl|rfl|rfl|rfl|rfl|rfl|rfl:=m8 a<;>kernel_rfl) λT'=>again ⟨i+1,z,⟨some ⟨b',0,none⟩,cn+1,F⟩⟩ ⟨a,by rw[K];exact v⟩ (by show 8-(i+1)<8-i;omega) T'
  .have P:i=8:=oG;subst P;have hC:(((c8).map whole).flatMap Au++((HZ.take 8).map Cx).flatMap Au)=Kg.flatMap Au:=by unfold Kg;rw[List.flatMap_append];rfl
   rw[hC]at ht;have N:cn=16:=by have:=ht.ra.n;rw[F6 (n:=5) (f:=Au) (λ_=>rfl)]at this;have h2:Kg.length=16:=rfl;rw[h2]at this;simp only at this;omega
   subst N;refine gG<|loop (ι:=MC) (λx=>x.i<=3/\Vt I x.J (Kg.flatMap Au) x.vf ⟨ca,16,cc⟩ x.sf/\Rows (Iu x.J) ((List.range x.i).map (F9 fl)) x.vf) (λx=>3-x.i) (AIp la fl.length lc ⟨ca,16,cc⟩) 6000 [] ⟨0,J,⟨none,0,0⟩,[]⟩ ⟨Nat.zero_le _,ht,rfl⟩ kR kR ?_;rintro⟨i,J,⟨fa,fn,fc⟩,vf⟩ ⟨hi,ht,D⟩ again T;simp only at hi ht D;have Eb:fn=i:=by have h1:=ht.rb.n;have h2:=Rows.len (T7 J) D;simp at h2;simp only at h1;omega
   subst Eb;by_cases a:fn<3
   ·
    have aq:(List.range (fn+1)).map (F9 fl)=(List.range fn).map (F9 fl)++[F9 fl fn]:=by rw[List.range_succ,List.map_append];rfl
    have hle:=ht.st.le;by_cases Q:fn<fl.length
    case' pos=>
     have hx:fl[fn]? =some fl[fn]:=List.getElem?_eq_getElem Q;have j:fl.getD fn []=fl[fn]:=by rw[List.getD_eq_getElem?_getD,hx];rfl
     have G:(fl.getD fn []).length<=9223372036854775807:=by rw[j];exact aj _ (List.getElem_mem Q)
     obtain⟨b,off,arr,e,fr,row,hla,q2,⟨y,mc,cells,rfl,ad⟩,q4,q5⟩:=hl.cell (AOH I) hx;have q0:=q5 0 _ rfl;simp only[Nat.add_zero]at q0;have C:Aj J Hk 1 (fl.getD fn []) y mc cells:=by rw[j];exact Aj.A8 hle ad (λ_ _ q=>q)
     refine gg [(41,hT ((fn:Int)<3) oG),(49,hT ((fn:Int)<(fl.length:Int)) oG),(53,BM J APy b off fl.length lc fn Q),(54,C9 J AYw rfl (off+fn*1) (.slice y fl[fn].length mc) (hle _ _ q2) q0),(58,hW ((fn:Int)+1) ((fn+1:Nat):Int) oG oG),(59,H3 J 58 (fn+1) 3 ((fn+1)%3) rfl oG oG)] ?_ (by subst hla;kernel_rfl);refine loop (ι:=MD) (MDP J ((fn+1)%3) y mc cells ⟨fl.getD fn [],0,[]⟩) (λx=>12-x.k) (ABy la fl.length lc ⟨ca,16,cc⟩ ⟨fa,fn,fc⟩ fn ((fn+1)%3) y mc) 10000 [(9,6024)] ⟨0,J,⟨fl.getD fn [],0,[]⟩,⟨none,0,0⟩⟩ ⟨Nat.zero_le _,.refl _ _,⟨C,Qs,Nat.le_refl _,Nat.le_refl _⟩,rfl⟩ (by rw[j];kernel_rfl) kR ?_
    case' neg=>
     have j:fl.getD fn []=[]:=by rw[List.getD_eq_getElem?_getD,List.getElem?_eq_none oG];rfl
     have G:(fl.getD fn []).length<=9223372036854775807:=by rw[j];decide
     obtain⟨y,mc,cells,al,am,C⟩: ∃y mc cells,y=none/\mc=0/\Aj J Hk 1 (fl.getD fn []) y mc cells:=⟨_,_,_,rfl,rfl,by rw[j];exact Aj.empty⟩;refine gg [(41,hT ((fn:Int)<3) oG),(49,Go.Proofs.YtomehhepbeiinaaGreatDoor.hF ((fn:Int)<(fl.length:Int)) oG),(58,hW ((fn:Int)+1) ((fn+1:Nat):Int) oG oG),(59,H3 J 58 (fn+1) 3 ((fn+1)%3) rfl oG oG)]<|loop (ι:=MD) (MDP J ((fn+1)%3) y mc cells ⟨fl.getD fn [],0,[]⟩) (λx=>12-x.k) (ABy la fl.length lc ⟨ca,16,cc⟩ ⟨fa,fn,fc⟩ fn ((fn+1)%3) y mc) 10000 [(9,6024)] ⟨0,J,⟨fl.getD fn [],0,[]⟩,⟨none,0,0⟩⟩ ⟨Nat.zero_le _,.refl _ _,⟨C,Qs,Nat.le_refl _,Nat.le_refl _⟩,rfl⟩ (by rw[j];subst al am;kernel_rfl) kR ?_
    all_goals
     rintro⟨k,J1,m1,⟨sa,sn,sc⟩⟩ ⟨p1,p2,p3,p4⟩ A TD;simp only at p1 p2 p3 p4;have B:=p3.at_;have U:m1.l.length<=9223372036854775807:=by rw[<-Aj.AIR p3.Oe,Aj.AIR C];exact G
     by_cases hc:k<1+m1.at_/\k<2+m1.l.length/6/\k<12;obtain⟨c1,c2,c3⟩:=hc;refine gg [(65,hW (1+(m1.at_:Int)) ((1+m1.at_:Nat):Int) oG oG),(66,hT ((k:Int)<((1+m1.at_:Nat):Int)) oG),(74,Wo J1 73 m1.l.length 6 U oG),(75,hW (2+((m1.l.length/6:Nat):Int)) ((2+m1.l.length/6:Nat):Int) oG oG),(76,hT ((k:Int)<((2+m1.l.length/6:Nat):Int)) oG),(80,hT ((k:Int)<12) oG)]<|Ag (AVQ p3 oG ((fn+1)%3) (Nat.mod_lt _ dC)) [(1,9)] [1] kR Jw ?_;rintro _ ⟨s2,J2,ab,R,rfl⟩;refine gg [(83,hW ((k:Int)+1) ((k+1:Nat):Int) oG oG)]<|back [] (ABy la fl.length lc ⟨ca,16,cc⟩ ⟨fa,fn,fc⟩ fn ((fn+1)%3) y mc ⟨k+1,J2,m1.part ((fn+1)%3),s2⟩) 10000 kR kR kR λT'=>A ⟨k+1,J2,m1.part ((fn+1)%3),s2⟩ ⟨c3,p2.trans ab,R.mono (by show 24*k+24<=24*(k+1);omega),?_⟩ (by show 12-(k+1)<12-k;omega) T';show Mk.parts ((fn+1)%3) (12-(k+1)) (k+1) (m1.part ((fn+1)%3))=_;rw[<-p4,show 12-k=(12-(k+1))+1 by omega];show _=(if k<1+m1.at_/\k<2+m1.l.length/6/\k<12 then _ else _);rw[if_pos ⟨c1,c2,c3⟩]
     .have an:m1=Mk.parts ((fn+1)%3) 12 0 ⟨fl.getD fn [],0,[]⟩:=by
       rw[<-p4];cases hk:12-k with
       |zero=>rfl
       |succ n=>
        show m1=(if k<1+m1.at_/\k<2+m1.l.length/6/\k<12 then _ else _);rw[if_neg hc]
      have ao:=ATw fl fn m1 an;have av:m1.next.1<=255:=L9 _ _;obtain c1|⟨c1,c2⟩|⟨c1,c2,c3⟩: ¬k<1+m1.at_\/k<1+m1.at_/\¬k<2+m1.l.length/6\/k<1+m1.at_/\k<2+m1.l.length/6/\¬k<12:=oG;refine gg [(65,hW (1+(m1.at_:Int)) ((1+m1.at_:Nat):Int) oG oG),(66,Go.Proofs.YtomehhepbeiinaaGreatDoor.hF ((k:Int)<((1+m1.at_:Nat):Int)) oG)] ?_
      rotate_left
      refine gg [(65,hW (1+(m1.at_:Int)) ((1+m1.at_:Nat):Int) oG oG),(66,hT ((k:Int)<((1+m1.at_:Nat):Int)) oG),(74,Wo J1 73 m1.l.length 6 U oG),(75,hW (2+((m1.l.length/6:Nat):Int)) ((2+m1.l.length/6:Nat):Int) oG oG),(76,Go.Proofs.YtomehhepbeiinaaGreatDoor.hF ((k:Int)<((2+m1.l.length/6:Nat):Int)) oG)] ?_
      rotate_left
      refine gg [(65,hW (1+(m1.at_:Int)) ((1+m1.at_:Nat):Int) oG oG),(66,hT ((k:Int)<((1+m1.at_:Nat):Int)) oG),(74,Wo J1 73 m1.l.length 6 U oG),(75,hW (2+((m1.l.length/6:Nat):Int)) ((2+m1.l.length/6:Nat):Int) oG oG),(76,hT ((k:Int)<((2+m1.l.length/6:Nat):Int)) oG),(80,Go.Proofs.YtomehhepbeiinaaGreatDoor.hF ((k:Int)<12) oG)] ?_
      rotate_left
      all_goals
       refine Ag (ACC p3 oG) [(1,9)] [1] kR ADP ?_;rintro _ rfl;refine gg [(90,H3 J1 89 m1.next.1 8 (m1.next.1%8) rfl oG oG)]<|Ag (Nr p3.next oG 2 (m1.next.1%8)) [(1,9)] [1] kR Jw ?_;rintro _ ⟨s2,J2,ab,R,rfl⟩;refine gG<|Ag (Nr R oG 18 0) [(1,9)] [1] kR Jw ?_;rintro _ ⟨⟨ar,f,d⟩,z,ap,S,rfl⟩;refine go Tryz.func34 [] 1 kR ?_;have V:f=((m1.next.2.emit 2 (m1.next.1%8)).emit 18 0).code.length:=S.cnt;have ag:0<f:=by rw[V];show 0<(_++[_]).length;simp
       obtain⟨pb,po,X,aa⟩:=PS S.row ag;have X:ar=some ⟨pb,0,none⟩:=X;subst X;have ah:=(p2.trans ab).trans ap;obtain⟨n1,n2,n3⟩:=ht.never ah rfl aa;refine LU pb z po kR aa n1 ?_;have r:Aj (z.never pb po) PI 2 ((m1.next.2.emit 2 (m1.next.1%8)).emit 18 0).code (some ⟨pb,0,none⟩) d (((m1.next.2.emit 2 (m1.next.1%8)).emit 18 0).code.flatMap B8):=S.row.PT (J:=z.never pb po) V (Rows.flat.2 rfl) λb o hb ho=>by
        obtain rfl:pb=b:=by simpa using hb
        have e:o=po:=by have:=ho.own;rw[aa.own]at this;exact(Option.some.inj this).symm
        rw[e];exact N5 _ _ _
       have L:=D.mono (QU n3);generalize z.never pb po=J4 at n2 n3 r L⊢;have hnew:Iu J4 (F9 fl fn) [Value.int .i64 1,Value.int .i64 7,Value.slice (some ⟨pb,0,none⟩) f d]:=by rw[ao];exact⟨some ⟨pb,0,none⟩,d,_,by rw[V];rfl,r⟩
       refine gG<|act (need:=[(10288,.cells (([Value.int .i64 1,Value.int .i64 7,Value.slice (some ⟨pb,0,none⟩) f d]:List Value).map .v) 195)]) [] kR (Im (I:=J4) A6 (s:=⟨fa,fn,fc⟩) (x:=.s 10288 0 1 1) (m:=1) (olds:=vf) (news:=[Value.int .i64 1,Value.int .i64 7,Value.slice (some ⟨pb,0,none⟩) f d]) Zp kR n2.rb (D2 (e:=195) sP rfl (by simp[Value.oneCell'])) dC (by show fn+1<=16777216;omega)) (λh' O kb l=>by obtain⟨_,_,_,rfl,_⟩:=O;cases l) Il ?_
       rintro h' ⟨b',F,c,rfl,s,t,u,ac,p⟩;have ai:=n2.Zr (AC:=c) rfl (by simp[Value.oneCell']) s t u ac p;have M:Rows (Iu (J4.plus b' (.cells (vf++[Value.int .i64 1,Value.int .i64 7,Value.slice (some ⟨pb,0,none⟩) f d]++c).toArray 195 (0,0)))) ((List.range (fn+1)).map (F9 fl)) (vf++[Value.int .i64 1,Value.int .i64 7,Value.slice (some ⟨pb,0,none⟩) f d]):=by rw[aq];have hp:J4.Cd (J4.plus b' (.cells (vf++[Value.int .i64 1,Value.int .i64 7,Value.slice (some ⟨pb,0,none⟩) f d]++c).toArray 195 (0,0))):=λ_ _ h=>h;exact Rows.append (L.mono (QU hp)) ⟨_,[],(List.append_nil _).symm,QU hp _ _ hnew,rfl⟩
       generalize J4.plus b' _=J5 at ai M⊢;exact gg [(43,hW ((fn:Int)+1) ((fn+1:Nat):Int) oG oG)]<|back [] (AIp la fl.length lc ⟨ca,16,cc⟩ ⟨fn+1,J5,⟨some ⟨b',0,none⟩,fn+1,F⟩,vf++[Value.int .i64 1,Value.int .i64 7,Value.slice (some ⟨pb,0,none⟩) f d]⟩) 6000 kR kR kR λT'=>again ⟨fn+1,J5,⟨some ⟨b',0,none⟩,fn+1,F⟩,vf++[Value.int .i64 1,Value.int .i64 7,Value.slice (some ⟨pb,0,none⟩) f d]⟩ ⟨a,ai,M⟩ (by show 3-(fn+1)<3-fn;omega) T'
   have ak:fn=3:=oG;subst ak;obtain⟨pc,oc,Y,W⟩:=PS ht.ra (Nat.succ_pos 15);obtain⟨m,of,Z,af⟩:=PS ht.rb (Nat.succ_pos 2);have Y:ca=some ⟨pc,0,none⟩:=Y;have Z:fa=some ⟨m,0,none⟩:=Z;subst Y Z;have ae:pc≠m:=λe=>by have:=ht.nd;simp[A7,e]at this
   obtain⟨n1,n2,n3,n4⟩:=ht.st.never (b:=pc) (by simp[A7]) W;have H:=n3 m of af ae.symm;obtain⟨m1,m2,m3,m4⟩:=n1.never (b:=m) ((List.mem_erase_of_ne ae.symm).2 (by simp[A7])) H;refine LU pc J oc kR W n2 ?_;refine LU m (J.never pc oc) of kR H m2 ?_;have hk:Aj ((J.never pc oc).never m of) Ey 5 Kg (some ⟨pc,0,none⟩) cc (Kg.flatMap Au):=ht.ra.PT (J:=(J.never pc oc).never m of) rfl (Rows.flat.2 rfl) λb o hb ho=>by
    obtain rfl:pc=b:=by simpa using hb
    have e:o=oc:=by have:=ho.own;rw[W.own]at this;exact(Option.some.inj this).symm
    rw[e];exact m4 pc oc (N5 _ _ _)
   have hu:Aj ((J.never pc oc).never m of) (Iu ((J.never pc oc).never m of)) 3 ((List.range 3).map (F9 fl)) (some ⟨m,0,none⟩) fc vf:=ht.rb.PT (J:=(J.never pc oc).never m of) rfl (D.mono (QU (n4.trans m4))) λb o hb ho=>by
    obtain rfl:m=b:=by simpa using hb
    have e:o=of:=by have:=ho.own;rw[af.own]at this;exact(Option.some.inj this).symm
    rw[e];exact N5 _ _ _
   have hle:=m1.none_le;generalize(J.never pc oc).never m of=J2 at hk hu hle⊢;exact gG<|dn [] ⟨⟨some ⟨pc,0,none⟩,cc,Kg.flatMap Au,some ⟨m,0,none⟩,fc,vf⟩,J2,rfl,hle,⟨hk,hu⟩⟩
abbrev ASt:AG:=.cells ((HZ.flatMap UK).map .v) 42
def AJN(i):Bo (Do i):=by
 rcases Lp i 8 with h|h;have:i=0\/i=1\/i=2\/i=3\/i=4\/i=5\/i=6\/i=7:=oG;rcases this with rfl|rfl|rfl|rfl|rfl|rfl|rfl|rfl<;>exact⟨dC,dC⟩;have:Do i=EC:=by unfold Do;rw[Cz,I7 (by show 8<=i;exact h)];rfl
 rw[this];exact⟨dC,dC⟩
def ASn{j}(a:j<8):((((HZ.flatMap UK).map SV.v).drop (0+j*2)).take 2)=[.v (.string (str (Do j).1)),.v (.string (str (Do j).2))]:=by have:j=0\/j=1\/j=2\/j=3\/j=4\/j=5\/j=6\/j=7:=oG;rcases this with rfl|rfl|rfl|rfl|rfl|rfl|rfl|rfl<;>rfl
def ABJ(I:AB)(a b K j:Nat)(c:j<8):Hint:=.hand (.indexAddr 67 (.tmp a) (.tmp b)) [(a,.s K 0 8 8),(b,.v (.int .i64 (j:Int)))] [] I (.p K (0+j*2)) (Hb A6 (L:=lay) (t:=67) (a:=a) (b:=b) (k:=K) (off:=0) (n:=8) (c:=8) (i:=j) (e:=42) rfl rfl c)
def ABK(I:AB)(a K j:Nat)(b:j<8):Hint:=.hand (.load 42 (.tmp a)) [(a,.p K (0+j*2))] [(K,ASt)] I (Cc (Do j)) (ATj A6 (L:=lay) (t:=42) (a:=a) (k:=K) (off:=0+j*2) (l:=(HZ.flatMap UK).map .v) (xs:=[.v (.string (str (Do j).1)),.v (.string (str (Do j).2))]) (e:=42) rfl rfl (ASn b) (by show 0+j*2+2<=16;omega))
abbrev ATQ(l:AA Nat):AG:=.cells (l.map λk:Nat=>SV.v (.int .i64 (k:Int))) 3
def AHE(I:AB)(a b K n j:Nat)(c:j<n):Hint:=.hand (.indexAddr 100 (.tmp a) (.tmp b)) [(a,.s K 0 n n),(b,.v (.int .i64 (j:Int)))] [] I (.p K (0+j*1)) (Hb A6 (L:=lay) (t:=100) (a:=a) (b:=b) (k:=K) (off:=0) (n:=n) (c:=n) (i:=j) (e:=3) rfl rfl c)
def AHF(I:AB)(a K j:Nat)(l:AA Nat)(b:j<l.length):Hint:=.hand (.load 3 (.tmp a)) [(a,.p K (0+j*1))] [(K,ATQ l)] I (.v (.int .i64 (l.getD j 0:Int))) (XK A6 (L:=lay) (t:=3) (a:=a) (k:=K) (off:=0+j*1) (l:=l.map λk:Nat=>SV.v (.int .i64 (k:Int))) (e:=3) rfl rfl (by rw[show 0+j*1=j by omega,E0,A9 b,Cz,A9 b];rfl))
def ANY:FE prog lay 33 99 3:=⟨⟨_,rfl⟩,⟨_,_,rfl,rfl⟩,kR⟩
def AEq:FE prog lay 34 103 9:=⟨⟨_,rfl⟩,⟨_,_,rfl,rfl⟩,kR⟩
def ACo(s):∀x∈G3 s,x.oneCell':=by intro x a;simp[G3,mS]at a;rcases a with rfl|rfl|rfl<;>rfl
def Tn(s):∀x∈FZ s,x.oneCell':=by intro x a;simp[FZ,mS]at a;rcases a with rfl|rfl|rfl|rfl|rfl|rfl|rfl|rfl|rfl<;>rfl
def JR(a:AA AH)(i:Nat):HM:=⟨Do (Be a (2*i)%8),(Be a (2*i+1)%4:Nat)⟩
def L8:AA Nat:=[0,0,1,2,4,5,1,3]
def L4:AA Nat:=[7,7,3,1]
def D7(a:AA AH)(none_:Bool)(i:Nat):Fq:=
 {fn:=Be a (6*i+1)%3,l:=Do (L8.getD (Be a (6*i)%8) 0),c:=jn (Do (L8.getD (Be a (6*i)%8) 0)) (Do (L4.getD (Be a (6*i+2)%4) 0)),AL:=if none_ then 0 else UInt8.ofNat (Be a (6*i+2)/4%4),room:=Be a (6*i+3)%12,box:=(Be a (6*i+4)%3:Nat)-1,n:=(Be a (6*i+5)%4:Nat)}
structure OT where
 fa:AK Ac
 fc:Nat
 ba:AK Ac
 bc:Nat
 ta:AK Ac
 tc:Nat
structure TF(I:AB)(c:KN)(q:OT):Prop where
 f:∃cells,Aj I (Od I) 1 c.Ad q.fa q.fc cells
 b:∃cells,Aj I Hk 1 c.boxes q.ba q.bc cells
 t:∃cells,Aj I Hk 1 c.A3 q.ta q.tc cells
 fl:c.Ad.length<=9223372036854775807
 fb:∀x∈c.Ad,x.length<=9223372036854775807
def WC(c:KN)(q:OT):AA SV:=[.v (.slice q.fa c.Ad.length q.fc),.v (.slice q.ba c.boxes.length q.bc),.v (.slice q.ta c.A3.length q.tc)]
structure MQ where
 i:Nat
 J:AB
 s:Aq
def AF8(c:KN)(q:OT)(a:Bool)(ip:CY)(x:MQ):Hd where
 By:=[(1,.v (.bool a)),(2,.p 6 0),(4,.p 7 0),(5,.p 8 0),(6,.v (.int .i64 (x.i:Int)))]
 Bu:=[(6,.cells (WC c q) 25),(7,.cells [.v (.slice none 0 0),.v (.slice none 0 0),.v (.slice none 0 0),.v (.slice none 0 0)] 36),(8,.cells (De (He c.Ad) ip++[x.s.sv,.v (.slice none 0 0)]) 36)]
 J:=x.J
def AAX(c:KN)(q:OT)(a:Bool)(ip:CY)(sb:Aq)(x:MQ):Hd where
 By:=[(1,.v (.bool a)),(2,.p 6 0),(4,.p 7 0),(5,.p 8 0),(7,.v (.int .i64 (x.i:Int)))]
 Bu:=[(6,.cells (WC c q) 25),(7,.cells [.v (.slice none 0 0),.v (.slice none 0 0),.v (.slice none 0 0),.v (.slice none 0 0)] 36),(8,.cells (De (He c.Ad) ip++[sb.sv,x.s.sv]) 36)]
 J:=x.J
abbrev AEK(I:AB)(c:DG):Nat->AU->Prop:=Ft I (λq:Ii=>.g (KZ c q)) (λJ q=>Ja J c q)
def AT7{q:Nat}(h:q<4):Value.int .u8 (IntKind.u8.wrap (q:Int))=.int .u8 ((UInt8.ofNat q).toNat:Int):=by have:q=0\/q=1\/q=2\/q=3:=oG;rcases this with rfl|rfl|rfl|rfl<;>rfl
def AGy{a:Type}(f:Nat->a)(V:a->List Value)(i:Nat):((List.range (i+1)).map f).flatMap V=((List.range i).map f).flatMap V++V (f i):=by rw[List.range_succ,List.map_append,List.flatMap_append];simp
def API(I)(c)(q)(hq:TF I c q)(G:Bool):Fn 9 [.g (WC c q),.v (.bool G)] [] I (AEK I (QC c G)) none:=by
 obtain⟨⟨H,hf⟩,⟨m,hb⟩,⟨d,ht⟩,hfl,hfb⟩:=hq;have ad:=ATy I c.Ad q.fa q.fc H hf hfl hfb;refine fo Tryz.func9 (EK λ_=>by simp[SV.keys,Ax,KZ,De]) λρ key w ai=>gG<|CK ad kR λip J0 z X=>gG<|loop (ι:=MQ) (λx=>x.i<=2/\HN J0 x.J 3 99 (((List.range x.i).map (JR c.boxes)).flatMap G3) x.s 9 103 [] ⟨none,0,0⟩) (λx=>2-x.i) (AF8 c q G ip) 1000 [(6,100),(7,108),(8,148)] ⟨0,J0,⟨none,0,0⟩⟩ ⟨Nat.zero_le _,HN.nil _ _ _ _ _⟩ kR kR ?_;rintro⟨i,J,⟨sa,f,sc⟩⟩ ⟨hi,g⟩ again T;simp only at hi g;have af:f=i:=by have h1:=g.ra.n;rw[F6 (n:=3) (f:=G3) (λ_=>rfl)]at h1;simp at h1;omega
 subst af;have hle:=z.Cg.trans g.st.le;have Q:Aj J Hk 1 c.boxes q.ba q.bc m:=Aj.A8 hle hb λ_ _ h=>h;by_cases A:f<2;have y0:=L9 c.boxes (2*f);have y1:=L9 c.boxes (2*f+1);have t:Be c.boxes (2*f)%8<8:=Nat.mod_lt _ dC;have aj:JR c.boxes f=⟨Do (Be c.boxes (2*f)%8),(Be c.boxes (2*f+1)%4:Nat)⟩:=rfl;have n:=AGy (JR c.boxes) G3 f;refine gg [(15,hT ((f:Int)<2) oG),(24,hW (2*(f:Int)) ((2*f:Nat):Int) oG oG),(32,hW (2*(f:Int)) ((2*f:Nat):Int) oG oG),(33,hW (((2*f:Nat):Int)+1) ((2*f+1:Nat):Int) oG oG)]<|Ag (XD J) [] [] kR (λkey h C kb k=>by cases C;cases k) ?_;rintro _ rfl;refine gG<|call (Nk J c.boxes q.ba q.bc m Q (2*f) oG) kR<|gg [(26,H3 J 25 (Be c.boxes (2*f)) 8 (Be c.boxes (2*f)%8) rfl oG oG),(27,ABJ J 20 26 1032 (Be c.boxes (2*f)%8) t),(28,ABK J 27 1032 (Be c.boxes (2*f)%8) t)]<|call (Nk J c.boxes q.ba q.bc m Q (2*f+1) oG) kR<|gg [(35,H3 J 34 (Be c.boxes (2*f+1)) 4 (Be c.boxes (2*f+1)%4) rfl oG oG)]<|act (need:=[(1168,.cells ((G3 (JR c.boxes f)).map .v) 99)]) [] kR (Im (I:=J) A6 (s:=⟨sa,f,sc⟩) (x:=.s 1168 0 1 1) (m:=1) (olds:=((List.range f).map (JR c.boxes)).flatMap G3) (news:=G3 (JR c.boxes f)) ANY kR g.ra (D2 (e:=99) sP rfl (ACo _)) dC (by show f+1<=16777216;omega)) (λh' C kb k=>by obtain⟨_,_,_,rfl,_⟩:=C;cases k) Il ?_
 rintro h' ⟨b',M,l,rfl,D,E,F,p,B⟩;have s:=g.Zn (AC:=l) rfl (ACo _) D E F p B;generalize J.plus b' _=L at s⊢;refine gg [(17,hW ((f:Int)+1) ((f+1:Nat):Int) oG oG)] ?_;exact back [] (AF8 c q G ip ⟨f+1,L,⟨some ⟨b',0,none⟩,f+1,M⟩⟩) 1000 kR kR kR λT'=>again ⟨f+1,L,⟨some ⟨b',0,none⟩,f+1,M⟩⟩ ⟨A,by rw[n];exact s⟩ (by show 2-(f+1)<2-f;omega) T';have ab:f=2:=oG;subst ab;generalize ah:((List.range 2).map (JR c.boxes)).flatMap G3=vb at g;refine gG<|loop (ι:=MQ) (λx=>x.i<=3/\HN J0 x.J 3 99 vb ⟨sa,2,sc⟩ 9 103 (((List.range x.i).map (D7 c.A3 G)).flatMap FZ) x.s) (λx=>3-x.i) (AAX c q G ip ⟨sa,2,sc⟩) 3000 [] ⟨0,J,⟨none,0,0⟩⟩ ⟨Nat.zero_le _,g⟩ kR kR ?_;rintro⟨i,J,⟨ba,a,bc⟩⟩ ⟨hi,g⟩ again T;simp only at hi g;have aa:a=i:=by have h1:=g.rb.n;rw[F6 (n:=9) (f:=FZ) (λ_=>rfl)]at h1;simp at h1;omega
 subst aa;have hle:=z.Cg.trans g.st.le;have u:Aj J Hk 1 c.A3 q.ta q.tc d:=Aj.A8 hle ht λ_ _ h=>h;by_cases A:a<3;have y0:=L9 c.A3 (6*a);have y1:=L9 c.A3 (6*a+1);have y2:=L9 c.A3 (6*a+2);have y3:=L9 c.A3 (6*a+3);have y4:=L9 c.A3 (6*a+4);have y5:=L9 c.A3 (6*a+5);have t:Be c.A3 (6*a)%8<8:=Nat.mod_lt _ dC;have K:Be c.A3 (6*a+2)%4<4:=Nat.mod_lt _ dC;have W: ∀j,j<8->L8.getD j 0<8:=λj hj=>by have:j=0\/j=1\/j=2\/j=3\/j=4\/j=5\/j=6\/j=7:=oG;rcases this with rfl|rfl|rfl|rfl|rfl|rfl|rfl|rfl<;>decide
 have V: ∀j,j<4->L4.getD j 0<8:=λj hj=>by have:j=0\/j=1\/j=2\/j=3:=oG;rcases this with rfl|rfl|rfl|rfl<;>decide
 have n:=AGy (D7 c.A3 G) FZ a;refine gg [(41,hT ((a:Int)<3) oG),(49,hW (6*(a:Int)) ((6*a:Nat):Int) oG oG)]<|Ag (XD J) [] [] kR (λkey h C kb k=>by cases C;cases k) ?_;rintro _ rfl;refine gG<|call (Nk J c.A3 q.ta q.tc d u (6*a) oG) kR<|gg [(51,H3 J 50 (Be c.A3 (6*a)) 8 (Be c.A3 (6*a)%8) rfl oG oG),(52,AHE J 45 51 3024 8 (Be c.A3 (6*a)%8) t),(53,AHF J 52 3024 (Be c.A3 (6*a)%8) L8 t),(54,ABJ J 44 53 3016 (L8.getD (Be c.A3 (6*a)%8) 0) (W _ t)),(55,ABK J 54 3016 (L8.getD (Be c.A3 (6*a)%8) 0) (W _ t)),
  (59,hW (6*(a:Int)) ((6*a:Nat):Int) oG oG),(60,hW (((6*a:Nat):Int)+1) ((6*a+1:Nat):Int) oG oG),(70,hW (6*(a:Int)) ((6*a:Nat):Int) oG oG),(71,hW (((6*a:Nat):Int)+2) ((6*a+2:Nat):Int) oG oG),(82,hW (6*(a:Int)) ((6*a:Nat):Int) oG oG),(83,hW (((6*a:Nat):Int)+3) ((6*a+3:Nat):Int) oG oG),(89,hW (6*(a:Int)) ((6*a:Nat):Int) oG oG),(90,hW (((6*a:Nat):Int)+4) ((6*a+4:Nat):Int) oG oG),(97,hW (6*(a:Int)) ((6*a:Nat):Int) oG oG),(98,hW (((6*a:Nat):Int)+5) ((6*a+5:Nat):Int) oG oG)] ?_
 refine call (Nk J c.A3 q.ta q.tc d u (6*a+1) oG) kR<|gg [(62,H3 J 61 (Be c.A3 (6*a+1)) 3 (Be c.A3 (6*a+1)%3) rfl oG oG)]<|Ag (XD J) [] [] kR (λkey h C kb k=>by cases C;cases k) ?_;rintro _ rfl;refine gG<|call (Nk J c.A3 q.ta q.tc d u (6*a+2) oG) kR<|gg [(73,H3 J 72 (Be c.A3 (6*a+2)) 4 (Be c.A3 (6*a+2)%4) rfl oG oG),(74,AHE J 66 73 3208 4 (Be c.A3 (6*a+2)%4) K),(75,AHF J 74 3208 (Be c.A3 (6*a+2)%4) L4 K),(76,ABJ J 65 75 3200 (L4.getD (Be c.A3 (6*a+2)%4) 0) (V _ K)),(77,ABK J 76 3200 (L4.getD (Be c.A3 (6*a+2)%4) 0) (V _ K))]<|call (ABc J (Do (L8.getD (Be c.A3 (6*a)%8) 0)) (Do (L4.getD (Be c.A3 (6*a+2)%4) 0)) (AJN _) (AJN _)) kR<|gG<|call (Nk J c.A3 q.ta q.tc d u (6*a+3) oG) kR<|gg [(85,H3 J 84 (Be c.A3 (6*a+3)) 12 (Be c.A3 (6*a+3)%12) rfl oG oG)]<|call (Nk J c.A3 q.ta q.tc d u (6*a+4) oG) kR<|gg [(92,H3 J 91 (Be c.A3 (6*a+4)) 3 (Be c.A3 (6*a+4)%3) rfl oG oG),(93,hW (((Be c.A3 (6*a+4)%3:Nat):Int)-1) (((Be c.A3 (6*a+4)%3:Nat):Int)-1) rfl oG)]<|call (Nk J c.A3 q.ta q.tc d u (6*a+5) oG) kR ?_;cases G with
 |true=>
  refine gg [(100,H3 J 99 (Be c.A3 (6*a+5)) 4 (Be c.A3 (6*a+5)%4) rfl oG oG)]<|act (need:=[(3552,.cells ((FZ (D7 c.A3 true a)).map .v) 103)]) [] kR (Im (I:=J) A6 (s:=⟨ba,a,bc⟩) (x:=.s 3552 0 1 1) (m:=1) (olds:=((List.range a).map (D7 c.A3 true)).flatMap FZ) (news:=FZ (D7 c.A3 true a)) AEq kR g.rb (D2 (e:=103) sP rfl (Tn _)) dC (by show a+1<=16777216;omega)) (λh' C kb k=>by obtain⟨_,_,_,rfl,_⟩:=C;cases k) Il ?_
  rintro h' ⟨b',M,l,rfl,D,E,F,p,B⟩;have s:=g.Zr (AC:=l) rfl (Tn _) D E F p B;generalize J.plus b' _=L at s⊢;refine gg [(43,hW ((a:Int)+1) ((a+1:Nat):Int) oG oG)] ?_;exact back [] (AAX c q true ip ⟨sa,2,sc⟩ ⟨a+1,L,⟨some ⟨b',0,none⟩,a+1,M⟩⟩) 3000 kR kR kR λT'=>again ⟨a+1,L,⟨some ⟨b',0,none⟩,a+1,M⟩⟩ ⟨A,by rw[n];exact s⟩ (by show 3-(a+1)<3-a;omega) T'
 |false=>
  have ae:Be c.A3 (6*a+2)/4%4<4:=Nat.mod_lt _ dC;refine gg [(100,H3 J 99 (Be c.A3 (6*a+5)) 4 (Be c.A3 (6*a+5)%4) rfl oG oG),(107,hW (6*(a:Int)) ((6*a:Nat):Int) oG oG),(108,hW (((6*a:Nat):Int)+2) ((6*a+2:Nat):Int) oG oG)]<|call (Nk J c.A3 q.ta q.tc d u (6*a+2) oG) kR<|gg [(110,Wo J 109 (Be c.A3 (6*a+2)) 4 oG oG),(111,H3 J 110 (Be c.A3 (6*a+2)/4) 4 (Be c.A3 (6*a+2)/4%4) rfl oG oG),(112,.eq _ _ (AT7 ae))]<|act (need:=[(3640,.cells ((FZ (D7 c.A3 false a)).map .v) 103)]) [] kR (Im (I:=J) A6 (s:=⟨ba,a,bc⟩) (x:=.s 3640 0 1 1) (m:=1) (olds:=((List.range a).map (D7 c.A3 false)).flatMap FZ) (news:=FZ (D7 c.A3 false a)) AEq kR g.rb (D2 (e:=103) sP rfl (Tn _)) dC (by show a+1<=16777216;omega)) (λh' C kb k=>by obtain⟨_,_,_,rfl,_⟩:=C;cases k) Il ?_
  rintro h' ⟨b',M,l,rfl,D,E,F,p,B⟩;have s:=g.Zr (AC:=l) rfl (Tn _) D E F p B;generalize J.plus b' _=L at s⊢;refine gg [(43,hW ((a:Int)+1) ((a+1:Nat):Int) oG oG)] ?_;exact back [] (AAX c q false ip ⟨sa,2,sc⟩ ⟨a+1,L,⟨some ⟨b',0,none⟩,a+1,M⟩⟩) 3000 kR kR kR λT'=>again ⟨a+1,L,⟨some ⟨b',0,none⟩,a+1,M⟩⟩ ⟨A,by rw[n];exact s⟩ (by show 3-(a+1)<3-a;omega) T'
 have ac:a=3:=oG;subst ac;subst ah;obtain⟨pc,oc,S,R⟩:=PS g.ra (Nat.succ_pos 1);obtain⟨v,of,U,Z⟩:=PS g.rb (Nat.succ_pos 2);have S:sa=some ⟨pc,0,none⟩:=S;have U:ba=some ⟨v,0,none⟩:=U;subst S U;have Y:pc≠v:=λe=>by have:=g.nd;simp[A7,e]at this
 have ag:Bq I [] J ((A7 (some ⟨pc,0,none⟩)).toList++(A7 (some ⟨v,0,none⟩)).toList):=⟨hle,λx y hx _=>g.st.keep x y (z.own x y hx) sP,λx hx=>by rcases g.st.rows x hx with r|r;exact .inl r;exact .inr λy hy=>r y (z.own x y hy)⟩
 obtain⟨n1,n2,n3,n4⟩:=ag.never (b:=pc) (by simp[A7]) R;have P:=n3 v of Z Y.symm;obtain⟨m1,m2,m3,m4⟩:=n1.never (b:=v) ((List.mem_erase_of_ne Y.symm).2 (by simp[A7])) P;refine LU pc J oc kR R n2<|LU v (J.never pc oc) of kR P m2 ?_;have hk:Aj ((J.never pc oc).never v of) X8 3 ((List.range 2).map (JR c.boxes)) (some ⟨pc,0,none⟩) sc (((List.range 2).map (JR c.boxes)).flatMap G3):=g.ra.PT (J:=(J.never pc oc).never v of) rfl (Rows.flat.2 rfl) λb o hb ho=>by
  obtain rfl:pc=b:=by simpa using hb
  have e:o=oc:=by have:=ho.own;rw[R.own]at this;exact(Option.some.inj this).symm
  rw[e];exact m4 pc oc (N5 _ _ _)
 have hu:Aj ((J.never pc oc).never v of) V1 9 ((List.range 3).map (D7 c.A3 G)) (some ⟨v,0,none⟩) bc (((List.range 3).map (D7 c.A3 G)).flatMap FZ):=g.rb.PT (J:=(J.never pc oc).never v of) rfl (Rows.flat.2 rfl) λb o hb ho=>by
  obtain rfl:v=b:=by simpa using hb
  have e:o=of:=by have:=ho.own;rw[Z.own]at this;exact(Option.some.inj this).symm
  rw[e];exact N5 _ _ _
 have O:=m1.none_le;have N:D3 ((J.never pc oc).never v of) (He c.Ad) ip:=D3.A8 ((g.st.le.trans n4).trans m4) X;generalize(J.never pc oc).never v of=J2 at hk hu O N⊢;exact gG<|dn [] ⟨⟨ip,some ⟨pc,0,none⟩,sc,((List.range 2).map (JR c.boxes)).flatMap G3,some ⟨v,0,none⟩,bc,((List.range 3).map (D7 c.A3 G)).flatMap FZ⟩,J2,rfl,O,⟨N,hk,hu⟩⟩
def ATk{t v k b a:Nat}{i}{n:Nat}{I g}(u:prog.underlying t=some (.map v k))(q:I b=some (.map i n))(r:g= {callee:=.builtin .len,args:=#[.tmp a],argTypes:=#[t]}):
 ∀c f (o:BP),o.op=.call g->(∀p∈[(a,SV.v (.map (some b)))],f p.1=p.2)->LS prog o f c [] I (.v (.int .i64 (i.size:Int))) none:=by
 subst r;intro c f o j e;have m:=Cy e (s:=a) (x:=.v (.map (some b))) sP;intro y x w s _ l _ _;refine⟨w,?_,BB.refl w⟩;have h:=s (.tmp a) (by simp[j,Op.operands,Go.Call.operands]);simp[ev,m,den]at h;have d:=l b _ q;simp[execOp,j,resolve,invoke,builtin,Builtin.len_,h,run_underlying u,MapKept.run_getObj_map d,Result.andThen,den,goInt]
structure Vb(s1 s2:Ao):Prop where
 len:s1.length=s2.length
 pos:0<s1.length
 dif:∀x∈s1,∃o,Ai s2 x.1=some o/\x.2.kind=o.kind/\x.2.l=o.l/\x.2.v≠o.v/\Bg x.2.v.name/\Bg o.v.name
def AQA(I r s a c f g b)(k:DJ I r a f)(y:DJ I s c g)(l:I b=some (.map a f))(m:Vb r s):
 Fn 122 [.v (.map (some b)),.m 2,.v (.func (.func 123) #[] #[])] [(2,.obj (.map c g))] I (AEZ I [(2,.obj (.map c g))] (.v (.bool false))) none:=by
 let⟨M,d,h⟩:=k.perm;let⟨N,p,n⟩:=y.perm;have G:a.size=r.length:=by rw[<-d.length_eq,<-h.len,Li]
 have O:c.size=s.length:=by rw[<-p.length_eq,<-n.len,Li]
 have hlen:=m.len;refine fo func122 (Pg rfl rfl rfl) λP F w A=>gg [(12,.hand (.call {callee:=.builtin .len,args:=#[.tmp 11],argTypes:=#[175]}) [(11,.v (.map (some b)))] [] I (.v (.int .i64 (a.size:Int))) (ATk U8 l rfl)),(14,.hand (.call {callee:=.builtin .len,args:=#[.tmp 13],argTypes:=#[175]}) [(13,.m 2)] [(2,.obj (.map c g))] I (.v (.int .i64 (c.size:Int))) (ABs U8 rfl)),(15,Ct (a.size:Int) (c.size:Int) oG)]<|AJz (t:=175) (kt:=9) (et:=87) (b:=b) (m:=f) (es:=a) (x:=.tmp 16) (I':=I) kR U8 kR (AB.N9 l) kR<|gG<|loop (ι:=Unit) (λ_=>True) (λ_=>0) (λ_=>{By:=[(1,.m 2),(2,.v (.func (.func 123) #[] #[])),(17,.p 3 0)],Bu:=[(2,.obj (.map c g)),(3,.obj (.mapIter (some b) f #[] f))],J:=I}) 1000 [(3,156)] () A0 kR kR λ_ _ _ T=>gG<|AI7 (b:=b) (m:=f) (k:=3) (x:=.tmp 17) (es:=a) (seen:=#[]) (I':=I) (kS:=λe=>.v e.key) (vS:=λe=>Of e.val) kR kR (AB.N9 l) k.bo.lt (λ_ _ _=>rfl) (λe _=>WA e.val) (λ_ _=>rfl) (λe _=>WB e.val) kR (λD=> ?_) (λe E=> ?_);have:leftOf a #[]=a:=Array.filter_eq_self.2 (by simp);rw[this,G]at D;have:=m.pos;omega;have i:e∈a.toList:=Sx.2 (Array.mem_filter.1 (Sx.1 E)).1;let⟨⟨q,o⟩,hpl,hk,qa,hv,hq⟩:=h.ABz i;let⟨o2,z,t,u,v,x,B⟩:=m.dif _ (d.mem_iff.1 hpl);let⟨H,ev,born⟩:=e;simp only at hk hv hq z t u v x;subst hk hv;let⟨j,q2,C,K,L⟩:=(y.find (k.nm _ (d.mem_iff.1 hpl))).2 o2 z
 exact gG<|AGb (b:=b) (m:=f) (k:=3) (x:=.tmp 17) (es:=a) (seen:=#[]) (I':=I) (kS:=λe=>.v e.key) (vS:=λe=>Of e.val) (e:=⟨.string (AR q),.agg (FA o qa).toArray,born⟩) kR kR (AB.N9 l) k.bo.nd i (λ_=>rfl) (WA _) rfl (WB _) kR<|gg [(26,.hand (.lookup 175 (.tmp 24) (.tmp 25) true) [(24,.m 2),(25,.v (.string (AR q)))] [(2,.obj (.map c g))] I (.t [.g ((FA o2 q2).map .v),.v (.bool true)]) (O9 A6 (L:=lay) (t:=175) (a:=24) (b:=25) (km:=2) (n:=g) (kt:=9) (et:=87) (d1:=.string) (es:=c) (kv:=.string (AR q)) (j:=j) (xs:=FA o2 q2) rfl Cm A0 C))]<|call (AUv I o o2 qa q2 t u v x B) kR<|gG<|dn [] rfl
def AQB(I k l a c f g)(m:DJ I k a f)(n:DJ I l c g)(p:Vb k l):Fn 122 [.m 1,.m 2,.v (.func (.func 123) #[] #[])] [(1,.obj (.map a f)),(2,.obj (.map c g))] I (A1 (.v (.bool false)) I) none:=by refine⟨FC.AJj (need:=[(2,.obj (.map c g))]) 1 (.map a f) (Ψ:=λb=>A1 (.v (.bool false)) (I.JP b (.map a f))) sP (BZ rfl).Cg.out (λb i=> ?_) ?_,Hw func122 kR kR⟩;have d:I.Cd (I.JP b (.map a f)):=λx o j=>(SL _ _ (λe=>by rw[e,i.1]at j;cases j)).trans j;exact((AQA (I.JP b (.map a f)) k l a c f g b (DJ.A8 d m) (DJ.A8 d n) (ACR _ _ _) p).same rfl).out;rintro b q h i rfl;show _=_;simp[AVj i.1]
def AXq(a c:AY Ah)(g e:Nat)(b d:AY Ah)(h f:Nat):AA (Nat×AG):=[(1,.cells [.m 2,.m 3] 178),(2,.obj (.map a g)),(3,.obj (.map c e)),(4,.cells [.m 5,.m 6] 178),(5,.obj (.map b h)),(6,.obj (.map d f))]
def AXg(I j k a g e q b i f r)(m:DJ I j a e)(n:DJ I k b f)(o:Vb j k):
 Fn 64 [.p 1 0,.p 4 0] (AXq a g e q b i f r) I (A1 (.v (.bool false)) I) none:=by
 refine Fn.same (fo func64 (Pg rfl kR rfl) λt d w l=> ?_) kR;refine gG<|Ag (AQB I j k a b e f m n o) [(1,2),(2,5)] [] kR (λd h p s c=>by subst p;cases c) ?_;rintro _ rfl;exact gG<|dn [] rfl
abbrev Nv(k:BJ)(b:Ak)(a:Nat):AA (Nat×AG):=[(6,.cells (De b k.ip++[.v (.int .i64 a),.m 7,k.BH.sv,.p 8 0,k.CQ.sv,k.lk.sv]) 107),(7,.obj (.map k.es k.n)),(8,.cells [.m 9,.m 10] 178),(9,.obj (.map k.sm.es k.sm.n)),(10,.obj (.map k.sm.ns k.sm.m))]
def AHs{k f d}:∀c∈Nv k f d,c.1∈[6,7,8,9,10]/\∀x∈c.2.keys,x∈[6,7,8,9,10]:=by intro c b;simp[mS]at b;rcases b with rfl|rfl|rfl|rfl|rfl;refine⟨sP,λx e=> ?_⟩;simp[De,Aq.sv,AG.keys,Ax,SV.keys]at e;rcases e with rfl|rfl<;>simp;exact⟨sP,nA⟩;exact⟨sP,λk a=>by simp[AG.keys,Ax,SV.keys]at a;rcases a with rfl|rfl<;>simp⟩;exact⟨sP,nA⟩;exact⟨sP,nA⟩
structure Zl(a b:Ab):Prop where
 now:a.now=b.now
 AD:a.AD=b.AD
 FB:FY a.AD
 len:a.AD.length<=900000
 th:∀t∈a.AD,BY t.id/\AEd t
 st:Vb a.Ar b.Ar
def T0:∀a:AA Nm,a.flatMap MO=a.map A5
 |[]=>rfl
 |x::l=>by rw[I6,EM,T0 l];rfl
def CE.nm{I:AB}{ns:List Nm}{s:Aq}(h:CE I 1 9 (ns.map A5) s):CE I 1 9 (ns.flatMap MO) s:=by rw[T0];exact h
def AH9(m m':BJ)(a b:Ab)(i:Nat)(I:AB):Hd where
 By:=[(0,.p 1 0),(1,.p 6 0),(31,.v (.slice m.BH.a a.AD.length m.BH.c)),(32,.v (.int .i64 (a.AD.length:Int))),(33,.v (.int .i64 (i:Int)))]
 Bu:=BN m a.im a.now++Nv m' b.im b.now
 J:=I
def ASl(I)(a b:Ab)(m m')(ha:KH I a m)(hb:KH I b m')(h:Zl a b):
 Fn 19 [.p 1 0,.p 6 0] (BN m a.im a.now++Nv m' b.im b.now) I (A1 (.v (.bool false)) I) none:=by
 obtain⟨y,B,k,hlen,s,C⟩:=h;have r:=(AXg I a.Ar b.Ar m.sm.es m.sm.ns m.sm.n m.sm.m m'.sm.es m'.sm.ns m'.sm.n m'.sm.m ha.Bm hb.Bm C);have j:=hb.tm;have g:=hb.BH;rw[<-B]at j g;obtain⟨o1,o2⟩:=ha.BH.nm.OB (V:=MO) (λ_=>rfl) dC;obtain⟨u,o4⟩:=g.nm.OB (V:=MO) (λ_=>rfl) dC;rw[List.length_map]at o1 o2 u o4;have o2:Aj I.B0 LV 1 (a.AD.map λt=>t.id) m.BH.a m.BH.c _:=o2 (by unfold maxLen;omega);have o4:Aj I.B0 LV 1 (a.AD.map λt=>t.id) m'.BH.a m'.BH.c _:=o4 (by unfold maxLen;omega);have e:=(AQE I.B0 _ m.BH.a m'.BH.a m.BH.c m'.BH.c _ _ o2 o4 (by rw[List.length_map];omega)).B0 rfl;rw[List.length_map]at e;obtain⟨ip,mes,mn,⟨oa,on,oc⟩,CQ,lk,sm⟩:=m;obtain⟨ip',mes',mn',⟨l,H,n⟩,fac',lk',sm'⟩:=m';simp only at o1 u e;subst o1 u;refine Fn.same (fo Tryz.func19 (Pg rfl kR kR) λρ key w v=> ?_) kR;refine gg [(15,Ct (a.now:Int) (b.now:Int) oG)]<|call e kR ?_;refine gG<|loop (ι:=Nat) (λi=>i<=a.AD.length) (λi=>a.AD.length-i) (λi=>AH9 ⟨ip,mes,mn,⟨oa,a.AD.length,oc⟩,CQ,lk,sm⟩ ⟨ip',mes',mn',⟨l,a.AD.length,n⟩,fac',lk',sm'⟩ a b i I) 1000 [] 0 (Nat.zero_le _) kR kR ?_;intro i hi again T;by_cases d:i<a.AD.length;have E:a.AD[i]? =some a.AD[i]:=List.getElem?_eq_getElem d;have c:((a.AD.map (·.id)).map A5)[i]? =some (A5 a.AD[i].id):=by rw[List.getElem?_map,List.getElem?_map,E];rfl
 have t1:=MZ k (List.getElem_mem d);obtain⟨hid,z⟩:=s _ (List.getElem_mem d);generalize a.AD[i]=x at c t1 hid z;rw[<-LM]at t1;obtain⟨F,A,g1,p,_⟩:=(ha.tm.find (Ei hid)).2 x t1;obtain⟨G,p2,g2,q,_⟩:=(j.find (Ei hid)).2 x t1;obtain⟨bo,AC,q1,q2,f⟩:=ha.BH.ix c;obtain rfl:oa=_:=q1;refine gg [(34,hT ((i:Int)<(a.AD.length:Int)) oG),(35,BM I HV bo 0 a.AD.length oc i d),(36,.Jq I _ _ (G5 (I:=I.B0) Cm rfl q2.B0 f)),
  (42,.hand _ [(40,.m 2),(41,.v (.string (AR x.id)))] [(2,.obj (.map mes mn))] I _ (N0 A6 (L:=lay) (t:=104) (a:=40) (b:=41) (km:=2) (n:=mn) (kt:=9) (et:=53) (d1:=.string) (es:=mes) (kv:=.string (AR x.id)) (j:=F) (xs:=DV x A) (I:=I) rfl Cm trivial g1)),
  (48,.hand _ [(46,.m 7),(47,.v (.string (AR x.id)))] [(7,.obj (.map mes' mn'))] I _ (N0 A6 (L:=lay) (t:=104) (a:=46) (b:=47) (km:=7) (n:=mn') (kt:=9) (et:=53) (d1:=.string) (es:=mes') (kv:=.string (AR x.id)) (j:=G) (xs:=DV x p2) (I:=I) rfl Cm trivial g2))] ?_
 refine call (AYm I x A p2 p q z) kR ?_;exact gg [(51,hW ((i:Int)+1) ((i+1:Nat):Int) oG oG)]<|back [] (AH9 ⟨ip,mes,mn,⟨some ⟨bo,0,none⟩,a.AD.length,oc⟩,CQ,lk,sm⟩ ⟨ip',mes',mn',⟨l,a.AD.length,n⟩,fac',lk',sm'⟩ a b (i+1) I) 1000 kR kR kR λT'=>again (i+1) d oG T';refine gg [(34,Go.Proofs.YtomehhepbeiinaaGreatDoor.hF ((i:Int)<(a.AD.length:Int)) oG)]<|Ag r [(1,3),(2,4),(3,5),(4,8),(5,9),(6,10)] [] kR (λkey h D kb o=>by cases D;cases o) ?_;rintro _ rfl;exact gG<|dn [] rfl
def AEI(I:AB)(a:AA (Nat×AG)):Nat->AU->Prop:=λ_ h=>∃J,I.le J/\h= {r:=.v (.bool false),upd:=a,J:=J}
def AZR{I:AB}{m m':BJ}{a b:Ab}:CO (AEI I (BN m a.im a.now++Nv m' b.im b.now)) (BN m a.im a.now++Nv m' b.im b.now) I:=by
 refine⟨?_⟩;rintro key h ⟨J,hle,rfl⟩;refine⟨⟨(λk hk=>by cases hk),λkb c=> ?_,(λb hb=>by cases hb),sP,sP⟩,hle⟩;refine⟨List.mem_map.2 ⟨kb,c,rfl⟩,λk hk=>.inl ?_⟩;rcases List.mem_append.1 c with q|q;exact((Dr (key:=0) (nb:=[]) kb q).2 k hk).elim (List.mem_append_left [6,7,8,9,10]) λh=>by cases h
 exact List.mem_append_right [1,2,3,4,5] ((AHs kb q).2 k hk)
def AOE{m g f d e a}:∀b∈BN m f e++Nv g d a,b.1∈[1,2,3,4,5,6,7,8,9,10]:=λb c=>by rcases BA.1 c with q|q;exact E2 [6,7,8,9,10] (Dr (key:=0) (nb:=[]) b q).1;exact GJ [1,2,3,4,5] (AHs b q).1
def AOJ(I o p a b m j)(s:Bl I o a m)(t:Bl I p b j)(x:RN a)(y:RN b)(h:Zl a b):
 Fn 27 [.p 1 0,.p 6 0,Cc high] (BN m a.im a.now++Nv j b.im b.now) I (AEI I (BN m a.im a.now++Nv j b.im b.now)) none:=by
 refine fo func27 AZR λz d w q=>gG ?_;refine Ag (AHy I o a m s x) [] [1,2,3,4,5] kR (λd h ⟨_,_,g,_⟩ i c=>by subst g;exact(Dr (key:=d) (nb:=[]) i c).1) ?_;rintro _ ⟨u,r,rfl,e,k⟩;refine gG ?_;refine Ag (AHy r p b j (t.up e) y) [(1,6),(2,7),(3,8),(4,9),(5,10)] [1,2,3,4,5] kR (λd h ⟨_,_,g,_⟩ i c=>by subst g;exact(Dr (key:=d) (nb:=[]) i c).1) ?_;rintro _ ⟨v,n,rfl,f,l⟩;refine gG<|Ag (ASl n a b u v (k.up f) l h) [(1,132),(2,133),(3,134),(4,135),(5,136),(6,156),(7,157),(8,158),(9,159),(10,160)] [] kR (λd h g i c=>by cases g;cases c) ?_;rintro _ rfl;exact gG<|dn [] ⟨n,e.trans f,rfl⟩
def ATn(I)(x:Nat)(a:Nat)(k:a<256):∀b e (o:BP),o.op=.binOp .rem 5 (.tmp x) (.const (.int .u8 8)) 5->(∀p∈[(x,SV.v (.int .u8 (a:Int)))],e p.1=p.2)->LS prog o e b [] I (.v (.int .u8 ((a%8:Nat):Int))) none:=by
 intro b e o c d;have i:=Cy d (s:=x) (x:=.v (.int .u8 (a:Int))) sP;intro n j w h _ _ _ _;refine⟨w,?_,BB.refl w⟩;have f:=h (.tmp x) xO;have g:=h (.const (.int .u8 8)) xO;simp[ev,i,den]at f g;simp[execOp,c,Sem.run_bind,f,g];have l:Int.tmod (a:Int) 8=((a%8:Nat):Int):=by rw[AMi oG];omega
 have m:prog.underlying 5=some (.int .u8):=Q1;go_simp;rfl
def ATi{P L}(y:Dg P L){t a b N k off n c i:Nat}{e O B I}(s:L.get t=some ⟨N,O,.slice e⟩)(r:L.get e=some B)(G:i<n):
 ∀g u (o:BP),o.op=.indexAddr t (.tmp a) (.tmp b)->(∀p∈[(a,SV.s k off n c),(b,SV.v (.int .u8 (Int.ofNat i)))],u p.1=p.2)->LS P o u g [] I (.p k (off+i*B.n)) none:=by
 intro g u o q f;have C:=Cy f (s:=a) (x:=.s k off n c) sP;have D:=Cy f (s:=b) (x:=.v (.int .u8 (Int.ofNat i))) sP;let⟨U,d,z,H,E,T,J,S,hzero⟩:=Ca (y.get s);let⟨V,R,W,l,F,M,K,m,h⟩:=Ca (y.get r);have j:=Ib J;subst j;intro X Q w A _ _ _ _;refine⟨w,?_,BB.refl w⟩;have v:=A (.tmp a) xO;have x:=A (.tmp b) xO;simp[ev,C,D]at v x;have:(0:Int)<=(i:Int)/\(i:Int)<(n:Int):=oG;simp[execOp,q,Instr.indexAt,v,x,den,asIntOf,run_underlying E,G,sizeOf,typeInfo,l,m,Addr.add_mid]
structure MI where
 i:Nat
 J:AB
 s:Aq
def AHV(a:AK Ac)(n c b:Nat)(x:MI):Hd where
 By:=[(0,.v (.slice a n c)),(1,.v (.int .i64 (b:Int))),(5,.s 6 0 8 8),(6,.v (.slice x.s.a x.s.n x.s.c)),(7,.v (.int .i64 (x.i:Int)))]
 Bu:=[(6,.cells ((JK.map A5).map .v) 9)]
 J:=x.J
abbrev AM2(I:AB)(a:AA Nm):Nat->AU->Prop:=Ft I (λq:AK Ac×Nat=>.v (.slice q.1 a.length q.2)) (λJ q=>Aj J LV 1 a q.1 q.2 (a.map A5))
def ARi(I)(l)(a)(c:Nat)(cells)(hl:Aj I Hk 1 l a c cells)(d:Nat)(hm:d<=1000):Fn 10 [.v (.slice a l.length c),.v (.int .i64 (d:Int))] [] I (AM2 I (F8 l d)) none:=by
 refine fo Tryz.func10 (EK λ_=>by simp[SV.keys]) λρ key w S=>gG<|loop (ι:=MI) (λx=>(x.i<=d/\x.i<=l.length)/\Told I x.J 1 9 ((F8 l x.i).map A5) x.s) (λx=>d-x.i) (AHV a l.length c d) 1000 [(6,108)] ⟨0,I,⟨none,0,0⟩⟩ ⟨⟨BS _,BS _⟩,.nil I 1 9⟩ kR kR ?_;rintro⟨i,J,⟨sa,f,sc⟩⟩ ⟨⟨hi,t⟩,ht⟩ again T;simp only at hi t ht;have hle:=ht.st.none_le;have y: ∀k,k<=l.length->(F8 l k).length=k:=λk hk=>by unfold F8;rw[C6,CX];omega
 have N:f=i:=by have h1:=ht.row.n;rw[C6,y i t]at h1;simp only at h1;omega
 subst N;by_cases h1:f<l.length
 case neg=>
  have e:F8 l d=F8 l f:=by unfold F8;rw[Lo oG,Lo oG]
  rw[e];have p:=y f t;cases D:f with
  |zero=>
   subst D;refine gg [(12,Go.Proofs.YtomehhepbeiinaaGreatDoor.hF (((0:Nat):Int)<(l.length:Int)) oG)] ?_;have m:F8 l 0=[]:=rfl;rw[m];have X:sa=none/\sc=0\/True:=.inr A0;exact dn [] ⟨(sa,sc),J,rfl,hle,⟨⟨rfl,λv O=>(by cases O),.inl rfl⟩,BS _,(by
    rcases ht.row.at_ with⟨_,_,q⟩|⟨_,_,_,_,_,_,q⟩;have q:sc=0:=q;show sc<=maxLen;rw[q];exact BS _
    exact q),rfl⟩⟩ (h:={r:=.v (.slice sa 0 sc),J:=J})
  |succ n=>
   rw[<-D];let⟨pc,oc,j,h⟩:=PS ht.row (by show 0<f;omega);have j:sa=some ⟨pc,0,none⟩:=j;subst j;let⟨P,Q,n3,n4⟩:=ht.st.never (b:=pc) (by simp[A7]) h;refine LU pc J oc kR h Q ?_;have hk:Aj (J.never pc oc) LV 1 (F8 l f) (some ⟨pc,0,none⟩) sc ((F8 l f).map A5):=ht.row.PT (J:=J.never pc oc) p.symm (by rw[<-T0];exact Rows.flat.2 rfl) λb o hb M=>by
    obtain rfl:pc=b:=by simpa using hb
    have e:o=oc:=by have:=M.own;rw[h.own]at this;exact(GK this).symm
    rw[e];exact N5 _ _ _
   have g:=P.none_le;generalize J.never pc oc=u at hk g⊢;exact gg [(12,Go.Proofs.YtomehhepbeiinaaGreatDoor.hF ((f:Int)<(l.length:Int)) oG)]<|dn [] ⟨(some ⟨pc,0,none⟩,sc),u,by rw[p],g,hk⟩ (h:={r:=.v (.slice (some ⟨pc,0,none⟩) f sc),J:=u})
 by_cases V:f<d
 case neg=>
  have e:F8 l d=F8 l f:=by rw[show d=f by omega]
  rw[e];have p:=y f t;cases D:f with
  |zero=>
   subst D;refine gg [(12,hT (((0:Nat):Int)<(l.length:Int)) oG),(16,Go.Proofs.YtomehhepbeiinaaGreatDoor.hF (((0:Nat):Int)<(d:Int)) oG)] ?_;have m:F8 l 0=[]:=rfl;rw[m];exact dn [] ⟨(sa,sc),J,rfl,hle,⟨⟨rfl,λv O=>(by cases O),.inl rfl⟩,BS _,(by
    rcases ht.row.at_ with⟨_,_,q⟩|⟨_,_,_,_,_,_,q⟩;have q:sc=0:=q;show sc<=maxLen;rw[q];exact BS _
    exact q),rfl⟩⟩ (h:={r:=.v (.slice sa 0 sc),J:=J})
  |succ n=>
   rw[<-D];let⟨pc,oc,j,h⟩:=PS ht.row (by show 0<f;omega);have j:sa=some ⟨pc,0,none⟩:=j;subst j;let⟨P,Q,n3,n4⟩:=ht.st.never (b:=pc) (by simp[A7]) h;refine LU pc J oc kR h Q ?_;have hk:Aj (J.never pc oc) LV 1 (F8 l f) (some ⟨pc,0,none⟩) sc ((F8 l f).map A5):=ht.row.PT (J:=J.never pc oc) p.symm (by rw[<-T0];exact Rows.flat.2 rfl) λb o hb M=>by
    obtain rfl:pc=b:=by simpa using hb
    have e:o=oc:=by have:=M.own;rw[h.own]at this;exact(GK this).symm
    rw[e];exact N5 _ _ _
   have g:=P.none_le;generalize J.never pc oc=u at hk g⊢;exact gg [(12,hT ((f:Int)<(l.length:Int)) oG),(16,Go.Proofs.YtomehhepbeiinaaGreatDoor.hF ((f:Int)<(d:Int)) oG)]<|dn [] ⟨(some ⟨pc,0,none⟩,sc),u,by rw[p],g,hk⟩ (h:={r:=.v (.slice (some ⟨pc,0,none⟩) f sc),J:=u})
 have U:l[f]? =some l[f]:=A9 h1;have s:(F8 l (f+1)).map A5=(F8 l f).map A5++[A5 (JK.getD (l[f].toNat%8) [])]:=by unfold F8;rw[Mi h1,EL,EL];rfl
 have C:(l[f]).toNat<256:=(l[f]).toNat_lt;generalize l[f]=x at U s C;have A:x.toNat%8<8:=IK _ dC;have z:((JK.map A5).map SV.v)[0+x.toNat%8*1]? =some (.v (A5 (JK.getD (x.toNat%8) []))):=by rw[show 0+x.toNat%8*1=x.toNat%8 by omega,E0,E0,A9 (show x.toNat%8<JK.length from A),Cz,A9 (show x.toNat%8<JK.length from A)];rfl
 obtain⟨b,off,arr,e,fr,row,rfl,q2,q3,q4,q5⟩:=hl.cell ADF U;subst q3;have q0:=q5 0 _ rfl;simp only[FD]at q0;refine gg [(12,hT ((f:Int)<(l.length:Int)) oG),(16,hT ((f:Int)<(d:Int)) oG),(24,BM J AAl b off l.length c f h1),(25,C9 J Q1 rfl (off+f*1) (OE x) (hle _ _ q2) q0),
  (26,.hand (.binOp .rem 5 (.tmp 25) (.const (.int .u8 8)) 5) [(25,.v (.int .u8 (x.toNat:Int)))] [] J (.v (.int .u8 ((x.toNat%8:Nat):Int))) (ATn J 25 x.toNat C)),
  (27,.hand (.indexAddr 38 (.tmp 21) (.tmp 26)) [(21,.s 6 0 8 8),(26,.v (.int .u8 ((x.toNat%8:Nat):Int)))] [] J (.p 6 (0+x.toNat%8*1)) (ATi A6 (L:=lay) (t:=38) (a:=21) (b:=26) (k:=6) (off:=0) (n:=8) (c:=8) (i:=x.toNat%8) (e:=9) rfl rfl A)),
  (28,.hand (.load 9 (.tmp 27)) [(27,.p 6 (0+x.toNat%8*1))] [(6,.cells ((JK.map A5).map .v) 9)] J (.v (A5 (JK.getD (x.toNat%8) []))) (XK A6 (L:=lay) (t:=9) (a:=27) (k:=6) (off:=0+x.toNat%8*1) (l:=(JK.map A5).map .v) (e:=9) rfl rfl z))] ?_
 refine act (need:=[(1144,.cells ([A5 (JK.getD (x.toNat%8) [])].map .v) 9)]) [] kR (Im (I:=J) A6 (s:=⟨sa,f,sc⟩) (x:=.s 1144 0 1 1) (m:=1) (olds:=(F8 l f).map A5) (news:=[A5 (JK.getD (x.toNat%8) [])]) Tb kR ht.row (D2 (e:=9) sP rfl (by simp[A5,Value.oneCell'])) dC (by show f+1<=16777216;omega)) (λh' W kb G=>by obtain⟨_,_,_,rfl,_⟩:=W;cases G) Il ?_
 rintro h' ⟨b',R,AC,rfl,H,K,L,E,F⟩;have B:=ht.app (AC:=AC) (news:=[A5 (JK.getD (x.toNat%8) [])]) rfl (by simp[A5,Value.oneCell']) H K L E F;generalize J.plus b' _=u at B⊢;refine gg [(19,hW ((f:Int)+1) ((f+1:Nat):Int) oG oG)] ?_;exact back [] (AHV (some ⟨b,off,none⟩) l.length c d ⟨f+1,u,⟨some ⟨b',0,none⟩,f+1,R⟩⟩) 1000 kR kR kR λT'=>again ⟨f+1,u,⟨some ⟨b',0,none⟩,f+1,R⟩⟩ ⟨⟨V,h1⟩,by rw[s];exact B⟩ (by show d-(f+1)<d-f;omega) T'
end
section
open Go.AX Go.RowKit Go.Shelf Lz
def AK3:Ren where
 f:=λx=>match x with|221=>264|268=>335|138=>336|143=>337|195=>368|197=>364|218=>369|219=>338|260=>394|217=>370|225=>371|224=>372|267=>373|266=>397|314=>398|n=>n
 t:=λx=>match x with|9=>9|3=>3|31=>38|4=>4|0=>0|105=>451|21=>21|5=>5|46=>302|119=>487|139=>490|138=>489|146=>474|51=>423|n=>n
 g:=λx=>match x with|1=>3|3=>9|4=>10|n=>n
theorem AK2:Lays.n221 prog AK3:=by constructor<;>first|(intros;kernel_rfl)|(constructor<;>first|(intros;kernel_rfl)|(constructor<;>intros<;>kernel_rfl))
def Zh(I:AB)(n c:Nat)(b:AA AE)(e:Av):Nat->AU->Prop:=λa h=>h= {r:=.s (a+0) 0 n c,nb:=[.Aa b e],J:=I}
theorem AZv{I n c i e}:CO (Zh I n c i e) [] I:=by refine⟨?_⟩;rintro a h rfl;refine⟨⟨λk d=>.inr ?_,nA,λb g k d=> ?_,sP,sP⟩,AB.le_refl _⟩;simp[SV.keys]at d;rw[d];show(Bf a [AG.Aa i e] (a+0)).isSome;rw[Gx];rfl;simp at g;subst g;cases d
theorem AQi{F}{fn}{args}{av}{n c}{xs}{e}{I}(m:Tryz.prog.funcs[F]? =some fn)(hb:fn.body.isSome=true)(f:(fn.name== "runtime.NumGoroutine")=false)
 (ha: ∀ρ,(As ρ args).toArray=av) (h: ∀w,Db w I->Calls Tryz.prog F av w λx l=>x=.returned (.slice (some ⟨w.heap.size,0,none⟩) n c)/\l=w.alloc (.cells xs.toArray e)):Fn F args [] I (Zh I n c xs e) none:=by
 refine⟨⟨AZv.Cg.out,λρ key w k _ g _ _=> ?_⟩,AX.Hw m hb f⟩;rw[ha ρ];refine(h w g.1).mono ?_;rintro x l ⟨rfl,rfl⟩;have a:BB w (w.alloc (.cells xs.toArray e)):=⟨rfl,rfl,rfl,sP,λb hb=>Below.heap_alloc _ _ _ hb⟩;refine⟨_,λ_=>w.heap.size,rfl,⟨rfl,rfl,rfl,a.size,λb hb _ _=>a.block b hb,(λkb d=>by cases d),?_,?_,a.holds g,λb o hb=>.inl hb,λb o hb=>Gg hb⟩,?_⟩;intro j b hj
 match j,hj with
 |0,hj=>cases hj;exact⟨World.alloc_heap_new w _,rfl,.inl (AZ _)⟩
 |j+1,hj=>simp at hj
 intro i j hi hj _;simp at hi hj;omega;simp only[den,AU.Am];rw[Gx];rfl
theorem hi9:(prog.info? (AK3.t 9)).map (λi=>(i.zero,i.size,i.bytes))=some (some (.string ByteArray.empty),1,16):=kR
theorem AQ2(s)(f:s.size<=1000000)(w):Calls prog 264 #[.string s,.string ⟨#[10]⟩,.int .i64 0,.int .i64 (-1)] w λe a=>
 e=.returned (.slice (some ⟨w.heap.size,0,none⟩) (Lib.splitB ⟨#[10]⟩ 0 (Lib.countB s ⟨#[10]⟩) s).length (Lib.countB s ⟨#[10]⟩+1))/\a=w.alloc (.cells (Lib.cellsOf (Lib.splitB ⟨#[10]⟩ 0 (Lib.countB s ⟨#[10]⟩) s) (Lib.countB s ⟨#[10]⟩+1)) 9):=by
 have hle:=Lib.countB_le ⟨#[10]⟩ dC s.size s (AZ _);refine(Any.strings_genSplit_core AK2 hi9 s ⟨#[10]⟩ 0 (-1) (Lib.countB s ⟨#[10]⟩+1) w oG dC dC ?_ ?_ dC dC (by rw[AW dC];omega)).mono ?_;intro x c _;refine(ABV 10 x _).mono ?_;rintro e a ⟨rfl,rfl⟩;refine⟨?_,rfl⟩;have:Lib.index x.data.toList [10]=Lib.indexByte x.data.toList 10:=Lib.index_one _ _;exact El (λz=>Ending.returned (.int .i64 z)) this.symm;refine(Any.strings_Count_one {AK2 with} s 10 w).mono λe a ⟨b,d⟩=>⟨?_,d⟩;rw[b];show _=Ending.returned (Value.int .i64 ((Lib.count s.data.toList [10]:Nat):Int));rw[Lib.count_one];rfl;intro e a h;exact h
theorem AXc(s)(b:s.size<=1000000)(w):Calls prog 184 #[.string s,.string ⟨#[10]⟩] w λe a=>
 e=.returned (.slice (some ⟨w.heap.size,0,none⟩) (Lib.splitB ⟨#[10]⟩ 0 (Lib.countB s ⟨#[10]⟩) s).length (Lib.countB s ⟨#[10]⟩+1))/\a=w.alloc (.cells (Lib.cellsOf (Lib.splitB ⟨#[10]⟩ 0 (Lib.countB s ⟨#[10]⟩) s) (Lib.countB s ⟨#[10]⟩+1)) 9):=by
 have HX:=Lib.hid (AQ2 s b w);generalize Lib.cellsOf _ _=d at HX⊢;generalize(Lib.splitB ⟨#[10]⟩ 0 (Lib.countB s ⟨#[10]⟩) s).length=n at HX⊢;generalize Lib.countB s ⟨#[10]⟩+1=c at HX⊢
 go_enter func184,ntmps184
 go_wp2_with (go_at_call 264;refine HX.out.mono ?_;rintro e a ⟨rfl,rfl⟩)
 go_ret
 exact⟨rfl,rfl⟩
theorem N8(ρ)(key)(q)(h:AU)(e:h.nb=[]):h.Am ρ key q=ρ:=by funext k;unfold AU.Am Bf;rw[e];cases Nat.ble key k<;>rfl
structure PX(I:AB)(f:AA Nat)(ρ:Nat->Nat)(d:AI)(c:Ab)(m:BJ)(L:AA Rw)(J:AB)(S:AA Nat)(W:AI):Prop where
 A:After I ρ d W 0 id {r:=.v undef,upd:=BN m c.im c.now,J:=J}
 s:Bq I f J (Bb L m)
 K:Bl J L c m
 S:∀b∈S,d.heap.size<=b/\b<W.heap.size/\J.free b
def PW(I:AB)(f:AA Nat)(ρ:Nat->Nat)(d:AI)(c:Ab)(S:AA Nat)(W:AI):Prop:=∃m L J,PX I f ρ d c m L J S W
theorem W5(m b a):(BN m b a).map (·.1)=[1,2,3,4,5]:=rfl
theorem ASX(m e a){ρ w}(h:Has w ρ (BN m e a)):∀k∈[1,2,3,4,5],ρ k<w.heap.size:=by
 intro k i;have:k∈(BN m e a).map (·.1):=i;obtain⟨g,b,rfl⟩:=BG.1 this;have j:g.2.live:=by simp[BN,mS]at b;rcases b with rfl|rfl|rfl|rfl|rfl<;>rfl
 let⟨o,l⟩:=AG.R8 j ρ;exact Dh (h g b o l)
theorem ASY{m m':BJ}{im e:Ak}{now a:Nat}{ρ:Nat->Nat}{b:Nat}(h: ∀kb∈BN m im now,ρ kb.1≠b): ∀kb∈BN m' e a,ρ kb.1≠b:=by
 intro kb g;have:kb.1∈(BN m im now).map (·.1):=by rw[W5,<-W5 m' e a];exact List.mem_map.2 ⟨kb,g,rfl⟩
 obtain⟨i,h1,j⟩:=List.mem_map.1 this;rw[<-j];exact h i h1
theorem PW.start{I}{L}{ρ}{w}{k}{m}(e:Bl I L k m)(hH:Has w ρ (BN m k.im k.now))(a:Holds w I):PW I (Bb L m) ρ w k [] w:=
 ⟨m,L,I,⟨rfl,rfl,rfl,Nat.le_refl _,λ_ _ _ _=>rfl,by rw[N8 _ _ _ _ rfl];exact hH,(λj b h=>by cases h),(λi j h=>by cases h),a,λb o h=>.inl h,λb o h=>.inl (by show(I.own b).isSome=true;rw[show I.own b=some o from h];rfl)⟩,Bq.refl _ _,e,λb h=>by cases h⟩
section
variable {I:AB} {f:List Nat} {ρ:Nat->Nat} {d:World} {c:Ab} {S:List Nat} {W W':World}
theorem PX.U7{m}{L}{J}(h:PX I f ρ d c m L J S W)(l: ∀k∈[1,2,3,4,5],ρ k<d.heap.size)(n:W'.os=W.os)(p:W'.tape=W.tape)(q:W'.output=W.output)(r:W.heap.size<=W'.heap.size)(hk: ∀b,b<W.heap.size->b∉S->W'.heap[b]? =W.heap[b]?):PX I f ρ d c m L J S W':=by
 obtain⟨hA,hs,t,hS⟩:=h;refine⟨?_,hs,t,λb hb=>⟨(hS b hb).1,by have:=(hS b hb).2.1;omega,(hS b hb).2.2⟩⟩;have lo: ∀b,b<d.heap.size->b∉S:=λb hb hm=>by have:=(hS b hm).1;omega
 have g:=hA.upd;rw[N8 _ _ _ _ rfl]at g;refine⟨n.trans hA.os,p.trans hA.tape,q.trans hA.output,Nat.le_trans hA.size r,λb hb h1 s=>(hk b (Nat.lt_of_lt_of_le hb hA.size) (lo b hb)).trans (hA.keep b hb h1 s),?_,(λj b h=>by cases h),(λi j h=>by cases h),?_,hA.fresh,hA.Gz⟩;rw[N8 _ _ _ _ rfl];intro kb a o u;have e:kb.1∈[1,2,3,4,5]:=by rw[<-W5 m c.im c.now];exact List.mem_map.2 ⟨kb,a,rfl⟩
 rw[hk _ (Nat.lt_of_lt_of_le (l _ e) hA.size) (lo _ (l _ e))];exact g kb a o u;constructor;intro b o hb;have:=hA.Gu.1 b o hb;rw[hk b (Dh this) λhm=>by have:=(hS b hm).2.2.1;rw[show J b=some o from hb]at this;cases this];exact this;intro b o hb;have:=hA.Gu.2 b o hb;rw[hk b (Dh this) λhm=>by have:=(hS b hm).2.2.2;rw[show J.own b=some o from hb]at this;cases this];exact this
theorem PW.U7(h:PW I f ρ d c S W)(a:∀k∈[1,2,3,4,5],ρ k<d.heap.size)(e:W'.os=W.os)(g:W'.tape=W.tape)(i:W'.output=W.output)(j:W.heap.size<=W'.heap.size)(l:∀b,b<W.heap.size->b∉S->W'.heap[b]? =W.heap[b]?):PW I f ρ d c S W':=by let⟨m,L,J,h⟩:=h;exact⟨m,L,J,h.U7 a e g i j l⟩
theorem PW.put(h:PW I f ρ d c S W)(a:∀k∈[1,2,3,4,5],ρ k<d.heap.size){b}(g:b∈S)(o):PW I f ρ d c S (W.putObj b o):=
 h.U7 a rfl rfl rfl (by simp[World.putObj]) λx _ i=>World.putObj_heap_other (λe=>i (by subst e;exact g))
theorem PW.set(h:PW I f ρ d c S W)(a:∀k∈[1,2,3,4,5],ρ k<d.heap.size){b}(g:b∈S)(v):PW I f ρ d c S (W.setCell ⟨b,0,none⟩ v):=
 h.U7 a rfl rfl rfl (by simp[World.setCell]) λx _ i=>Below.heap_setCell _ _ _ _ (λe=>i (by subst e;exact g))
theorem PW.alloc(h:PW I f ρ d c S W)(i:∀k∈[1,2,3,4,5],ρ k<d.heap.size)(o):PW I f ρ d c (W.heap.size::S) (W.alloc o):=by let⟨m,L,J,h⟩:=h;have a:=h.U7 (W':=W.alloc o) i rfl rfl rfl sP λx j _=>Below.heap_alloc _ _ _ j;refine⟨m,L,J,a.A,a.s,a.K,λb g=> ?_⟩;rcases BD.1 g with rfl|g;refine⟨h.A.size,sP,?_,?_⟩;rcases e:J.at_ W.heap.size with _|l;rfl;exact absurd (Dh (h.A.Gu.1 _ _ e)) (Nat.lt_irrefl _);rcases e:J.own W.heap.size with _|l;rfl;exact absurd (Dh (h.A.Gu.2 _ _ e)) (Nat.lt_irrefl _);exact a.S b g
theorem PW.run{G}{args}{k2}{rv}{av}(h:PW I f ρ d c S W)(E:Holds d I)(p: ∀k∈[1,2,3,4,5],ρ k<d.heap.size)(r: ∀k∈[1,2,3,4,5],I.free (ρ k))(s: ∀x∈[1,2,3,4,5],∀y∈[1,2,3,4,5],ρ x=ρ y->x=y)
 (hc: ∀J L m,Bl J L c m->Fn G args (BN m c.im c.now) J (HH J (Bb L m) rv k2) none) (z:(As ρ args).toArray=av):
 Calls Tryz.prog G av W λe W'=>e=.returned (den ρ rv)/\PW I f ρ d k2 S W'/\∀b∈S,W'.heap[b]? =W.heap[b]? :=by
 obtain⟨m,L,J,h⟩:=h;obtain⟨hA,hs,B,hS⟩:=h;have n:=hA.upd;rw[N8 _ _ _ _ rfl]at n;have n:Has W ρ (BN m c.im c.now):=n;have l: ∀kb∈BN m c.im c.now,kb.1∈[1,2,3,4,5]:=λkb g=>by rw[<-W5 m c.im c.now];exact List.mem_map.2 ⟨kb,g,rfl⟩
 have free: ∀k∈[1,2,3,4,5],J.free (ρ k):=λk hk=>by constructor;rcases e:J.at_ (ρ k)with _|o;rfl;rcases hA.fresh _ _ e with e'|⟨e',_⟩;rw[(r k hk).1]at e';cases e';have:=p k hk;omega;rcases e:J.own (ρ k)with _|o;rfl;rcases hA.Gz _ _ e with e'|⟨e',_⟩;rw[(r k hk).2]at e';cases e';have:=p k hk;omega
 have hC:=(hc J L m B).out.2 ρ 100 W (Nat.le_refl _) n hA.Gu (λkb g=>free _ (l kb g)) (λx C y D e=>s _ (l x C) _ (l y D) e);rw[z]at hC;refine hC.mono ?_;rintro e W' ⟨h',q,⟨m2,L2,u,rfl,A,w⟩,a,rfl⟩;refine⟨by rw[N8 _ _ _ _ rfl],⟨m2,L2,u,?_,hs.trans A,w,λb hb=>⟨(hS b hb).1,Nat.lt_of_lt_of_le (hS b hb).2.1 a.size,?_⟩⟩,λb hb=>a.keep b (hS b hb).2.1 (λkb g e=> ?_) (hS b hb).2.2.2⟩;have t:=a.upd;rw[N8 _ _ _ _ rfl]at t;refine⟨a.os.trans hA.os,a.tape.trans hA.tape,a.output.trans hA.output,Nat.le_trans hA.size a.size,λb hb h1 v=> ?_,by rw[N8 _ _ _ _ rfl];exact t,(λj b h=>by cases h),(λi j h=>by cases h),a.Gu,λb o hb=> ?_,λb o hb=> ?_⟩;refine(a.keep b (Nat.lt_of_lt_of_le hb hA.size) h1 ?_).trans (hA.keep b hb (ASY h1) v);rcases e:J.own b with _|o;rfl;rcases hA.Gz _ _ e with e'|⟨e',_⟩;rw[v]at e';cases e';omega;rcases a.fresh b o hb with e|⟨e,_⟩;rcases hA.fresh b o e with e'|⟨e',_⟩;exact .inl e';exact .inr ⟨e',λj hj=>by cases hj⟩;exact .inr ⟨Nat.le_trans hA.size e,λj hj=>by cases hj⟩;rcases a.Gz b o hb with e|⟨e,_⟩;obtain⟨o',e⟩:=Option.isSome_iff_exists.1 e;rcases hA.Gz b o' e with e'|⟨e',_⟩;exact .inl e';exact .inr ⟨e',λj hj=>by cases hj⟩;exact .inr ⟨Nat.le_trans hA.size e,λj hj=>by cases hj⟩;constructor;rcases e:u.at_ b with _|o;rfl;rcases a.fresh _ _ e with e'|⟨e',_⟩;rw[(hS b hb).2.2.1]at e';cases e';have:=(hS b hb).2.1;omega;rcases e:u.own b with _|o;rfl;rcases a.Gz _ _ e with e'|⟨e',_⟩;rw[(hS b hb).2.2.2]at e';cases e';have:=(hS b hb).2.1;omega
 have h1:=p _ (Dr (key:=0) (nb:=[]) kb g).1;have v:=(hS b hb).1;have e:ρ kb.1=b:=e;omega
theorem PW.at_(h:PW I f ρ d c S W){b o}(a:I b=some o):W.heap[b]? =some o:=by let⟨m,L,J,h⟩:=h;exact h.A.Gu.1 b o (h.s.le b o a)
end
theorem AV7{F}{n}{P}{g}{ps}{assign body}{Q}{a}{w}(i:F.round=none)(h1:1<=n){gf}{lb}(o:a.eval g=.func (.func gf) #[] lb)(e:F.fn gf)(m: ∀args w,(callFunc gf args).run P w=.ok (.enter gf args) w)
 (h: ∀fn (r:LoopState->AK Code->Loop),F.fn fn->(r=λst j=>{state:=st,pending:=j,fn,tmps:=a.tmps,params:=ps,assign,body,defers:=w.heap.size})->
   CallsIn F (n-1) P gf (#[.func (.yield (w.heap.size+1)) #[] #[]]++lb) ((w.alloc (.deferred (some []))).alloc (.loop (r .ready none))) (rangePost F n P (w.heap.size+1) Q {a with defers:=[{target:=.collected w.heap.size,args:=#[]}]++a.defers})):
 (Code.rangeFunc g ps assign body).wpIn F n P Q a w:=by
 refine wpIn_rangeFunc λfn Eb=> ?_;rw[i];obtain⟨r,l⟩: ∃r:LoopState->AK Code->Loop,r=λst j=>{state:=st,pending:=j,fn,tmps:=a.tmps,params:=ps,assign,body,defers:=w.heap.size}:=⟨_,rfl⟩;obtain⟨V,k⟩: ∃V,(w.alloc (.deferred (some []))).alloc (.loop (r .ready none))=V:=⟨_,rfl⟩;have hc:=h fn r Eb l;rw[k]at hc;refine⟨w.heap.size+1,[{target:=.collected w.heap.size,args:=#[]}],V,{target:=.fn (.func gf) lb,args:=#[.func (.yield (w.heap.size+1)) #[] #[]]},V,gf,#[.func (.yield (w.heap.size+1)) #[] #[]]++lb,V,?_,?_,?_,?_,λ_=>h1,?_⟩;rw[<-k,l];exact run_enterLoop_outer _ _ _ _ _
 .simp[resolve,o];simp[go_sem]
 intro p b;simp[Target.leads]at b;subst b;exact e
 .simp[invoke,go_sem,m]
 with_reducible exact hc
section
attribute [local go_sem] Oper.semAt_some
def Zb(I:AB)(P:AA Nat)(a:Ab):Nat->AU->Prop:=λ_ h=>∃(z:Int)(b:BJ)(c:AA Rw)(J:AB),h= {r:=.v (.int .i64 z),upd:=BN b a.im a.now,J:=J}/\Bq I P J (Bb c b)/\Bl J c a b
theorem AZh{I P i m g c}:E3 (Zb I P i) (BN m g c) I:=by refine⟨?_⟩;rintro l h ⟨z,o,n,J,rfl,f,_⟩;exact⟨⟨nA,(λj a=>Dr j a),nA,sP,sP⟩,f.le⟩
theorem AJg(I:AB)(L:List Rw)(k:Ab)(m:BJ)(hK:Bl I L k m)(ids:List Nm)(sa:Option Addr)(sc:Nat)(cells:List Value)(hs:Aj I LV 1 ids sa sc cells)(hlen:ids.length<=1000000)
 (ad: ∀i id,ids[i]? =some id->∀J L' m',Bl J L' (Eu k (ids.take i)) m'->Fn 25 [.p 1 0,.v (.string (AR id))] (BN m' (Eu k (ids.take i)).im (Eu k (ids.take i)).now) J (Nf J (Bb L' m') (MR (Eu k (ids.take i)) id)) none):
 Fn 18 [.p 1 0,.v (.slice sa ids.length sc)] (BN m k.im k.now) I (Zb I (Bb L m) (Eu k ids)) none:=by
 refine⟨⟨AZh.out,λρ key w ar hH hI al aa=> ?_⟩,Hw Tryz.func18 rfl kR⟩;have c:=ASX m k.im k.now hH;have n: ∀x∈[1,2,3,4,5],∃kb∈BN m k.im k.now,kb.1=x:=λx f=>by have:x∈(BN m k.im k.now).map (·.1):=f;obtain⟨kb,h1,h2⟩:=List.mem_map.1 this;exact⟨kb,h1,h2⟩
 have X: ∀x∈[1,2,3,4,5],I.free (ρ x):=λx f=>by obtain⟨kb,h1,rfl⟩:=n x f;exact al kb h1
 have Q: ∀x∈[1,2,3,4,5],∀y∈[1,2,3,4,5],ρ x=ρ y->x=y:=λx f y hy e=>by obtain⟨kx,h1,rfl⟩:=n x f;obtain⟨ky,h2,rfl⟩:=n y hy;exact aa kx h1 ky h2 e
 have p0:=PW.start (ρ:=ρ) hK hH hI;obtain⟨sb,so,ac⟩: ∃sb so,0<ids.length->sa=some ⟨sb,so,none⟩:=by by_cases h0:0<ids.length;obtain⟨b1,A,U,e1,ag,C,q1,_⟩:=hs.cell Ua (List.getElem?_eq_getElem h0);exact⟨b1,A,λ_=>q1⟩;exact⟨0,0,λh=>absurd h h0⟩
 have l: ∀W k' S,PW I (Bb L m) ρ w k' S W->∀i,i<ids.length->W.cell? ⟨sb,so+i,none⟩=some (.string (AR (ids.getD i []))):=by intro W k' S g i hi;obtain⟨b1,A,U,e1,ag,C,q1,q2,q3,q4,q5⟩:=hs.cell Ua (List.getElem?_eq_getElem hi);have q3:C=MO (ids[i]):=q3;subst q3;rw[ac oG]at q1;cases q1;have hb:=g.at_ q2;have:=q5 0 _ rfl;simp only[World.cell?,hb,List.getD_eq_getElem?_getD,List.getElem?_eq_getElem hi,Option.getD_some];rw[show so+i*1+0=so+i by omega]at this;exact this
 generalize u:ρ 1=kb at*;have P:(As ρ [.p 1 0,.v (.slice sa ids.length sc)]).toArray=#[.pointer (some ⟨kb,0,none⟩),.slice sa ids.length sc]:=by simp[As,den,u]
 rw[P];refine callsIn_wide.1 (?_:CallsIn Fence.wide 6 Tryz.prog 18 _ w _);refine callsIn_of_wp_marks Tryz.func18 rfl trivial ?_ rfl;simp only[Tryz.ntmps18,List.size_toArray,List.length_cons,List.length_nil,Nat.reduceAdd,Nat.reduceSub,Array.replicate_succ,Array.replicate_zero,List.push_toArray,List.append_toArray,List.nil_append,List.cons_append]
 gi_wp2_with (refine⟨trivial,?_⟩;gi_at_call 61;refine(AVg Fence.wide _ trivial rfl _ _ _ rfl rfl).mono ?_;rintro e w' ⟨rfl,rfl⟩)
 have p3:=((p0.alloc c (.cells #[Value.int IntKind.i64 0] 3)).alloc c (.cells #[.pointer (some ⟨kb,0,none⟩)] 27)).alloc c (.cells #[.slice sa ids.length sc] 38);have F:=Boxed.new w 3 (.int .i64 0);have s:=Boxed.new (w.alloc (.cells #[.int .i64 0] 3)) 27 (.pointer (some ⟨kb,0,none⟩));have E:=Boxed.new ((w.alloc (.cells #[.int .i64 0] 3)).alloc (.cells #[.pointer (some ⟨kb,0,none⟩)] 27)) 38 (.slice sa ids.length sc);replace F:=(F.alloc (.cells #[.pointer (some ⟨kb,0,none⟩)] 27)).alloc (.cells #[.slice sa ids.length sc] 38);replace s:=s.alloc (.cells #[.slice sa ids.length sc] 38);rw[World.size_alloc]at s;rw[World.size_alloc,World.size_alloc]at E;simp only[World.size_alloc]at p3;have af:(((w.alloc (.cells #[Value.int IntKind.i64 0] 3)).alloc (.cells #[.pointer (some ⟨kb,0,none⟩)] 27)).alloc (.cells #[.slice sa ids.length sc] 38)).heap.size=w.heap.size+1+1+1:=sP;generalize((w.alloc (.cells #[Value.int IntKind.i64 0] 3)).alloc (.cells #[.pointer (some ⟨kb,0,none⟩)] 27)).alloc (.cells #[.slice sa ids.length sc] 38)=w3 at p3 F s E af⊢;refine AV7 rfl oG (gf:=119) (lb:=#[.pointer (some ⟨w.heap.size+1+1,0,none⟩),.pointer (some ⟨w.heap.size+1,0,none⟩)]) rfl trivial (Hw Tryz.func119 kR kR) λfn r Eb p=> ?_;have p5:=(p3.alloc c (.deferred (some []))).alloc c (.loop (r .ready none));replace F:=(F.alloc (.deferred (some []))).alloc (.loop (r .ready none));replace s:=(s.alloc (.deferred (some []))).alloc (.loop (r .ready none))
 replace E:=(E.alloc (.deferred (some []))).alloc (.loop (r .ready none));have JJ:=World.alloc_heap_new (w3.alloc (.deferred (some []))) (.loop (r .ready none));have M:((w3.alloc (.deferred (some []))).alloc (.loop (r .ready none))).heap[w3.heap.size]? =some (.deferred (some [])):=(Below.heap_alloc _ _ _ sP).trans (World.alloc_heap_new w3 _);simp only[World.size_alloc]at p5 JJ;rw[af]at p5 JJ M p⊢;generalize(w3.alloc (.deferred (some []))).alloc (.loop (r .ready none))=V at p5 F s E JJ M⊢;clear p3 p0;obtain⟨S,hS⟩: ∃S,[w.heap.size+1+1+1+1,w.heap.size+1+1+1,w.heap.size+1+1,w.heap.size+1,w.heap.size]=S:=⟨_,rfl⟩;rw[hS]at p5;have s0:w.heap.size∈S:=by rw[<-hS];simp
 have s1:w.heap.size+1∈S:=by rw[<-hS];simp
 have s2:w.heap.size+1+1∈S:=by rw[<-hS];simp
 have s3:w.heap.size+1+1+1∈S:=by rw[<-hS];simp
 have s4:w.heap.size+1+1+1+1∈S:=by rw[<-hS];simp
 clear hS;obtain⟨J,H⟩: ∃J:Nat->World->Prop,J=λi W=>PW I (Bb L m) ρ w (Eu k (ids.take i)) S W/\(∃z,Boxed W w.heap.size 3 (.int .i64 z))/\Boxed W (w.heap.size+1) 27 (.pointer (some ⟨kb,0,none⟩))/\Boxed W (w.heap.size+1+1) 38 (.slice sa ids.length sc)/\W.heap[w.heap.size+1+1+1]? =some (.deferred (some []))/\W.heap[w.heap.size+1+1+1+1]? =some (.loop (r .ready none)):=⟨_,rfl⟩;refine(AVf (6-1) oG (w.heap.size+1+1+1+1) (w.heap.size+1+1) (w.heap.size+1) ⟨kb,0,none⟩ sa sb so ids.length sc ac hlen (λi=>AR (ids.getD i [])) J (λi _=>J (i+1)) ?_ ?_ ?_ V E.cell ?_).mono ?_;intro i W hW hi;rw[H]at hW;obtain⟨g,_,t,_⟩:=hW;exact⟨t.cell,l W _ S g i hi⟩;intro i W hW hi;rw[H]at hW⊢;obtain⟨g,⟨z,N⟩,t,d,G,hl⟩:=hW;have hid:ids[i]? =some (ids.getD i []):=by rw[List.getD_eq_getElem?_getD,List.getElem?_eq_getElem hi];rfl
 refine(g.run (k2:=(MR (Eu k (ids.take i)) (ids.getD i [])).1) (rv:=.v (.bool (MR (Eu k (ids.take i)) (ids.getD i [])).2)) hI c X Q (λJ' L' m' ah=>ad i _ hid J' L' m' ah) (by simp[As,den,u])).mono ?_;rintro e W' ⟨rfl,aj,a⟩;refine⟨_,rfl,?_,⟨z,(a _ s0).trans N⟩,(a _ s1).trans t,(a _ s2).trans d,(a _ s3).trans G,(a _ s4).trans hl⟩;have:Eu k (ids.take (i+1))=(MR (Eu k (ids.take i)) (ids.getD i [])).1:=by rw[List.take_add_one,hid];unfold Eu;rw[List.foldl_append];rfl
 rw[this];exact aj
 .intro i b W hW hi;have K: ∀Z,J (i+1) Z↔_:=λZ=>by rw[H]
  rw[K]at hW;obtain⟨g,⟨z,N⟩,t,d,G,hl⟩:=hW;have hy:=run_yield (P:=Tryz.prog) (args:=#[.bool b]) hl (by rw[p];rfl);rw[p]at hy;have an:(r .ready none).state=.ready:=by rw[p]
  have ao:(.loop {r .ready none with state:=.ready,pending:=none}:Obj)=.loop (r .ready none):=by rw[p]
  clear H p;refine⟨fn,_,_,_,hy,roundIn_of_wpIn Eb ?_⟩
  gi_wp2
  refine⟨_,run_beginRound hl an,?_⟩;have am:w.heap.size+1+1+1+1<W.heap.size:=Dh hl;obtain⟨Y,O⟩: ∃Y,W.putObj (w.heap.size+1+1+1+1) (.loop {r .ready none with state:=.busy})=Y:=⟨_,rfl⟩;have ak:Y.heap[w.heap.size+1+1+1+1]? =some (.loop {r .ready none with state:=.busy}):=by rw[<-O];exact World.putObj_heap_same am
  have B: ∀x,x≠w.heap.size+1+1+1+1->Y.heap[x]? =W.heap[x]? :=λx f=>by rw[<-O];exact World.putObj_heap_other f
  have R:PW I (Bb L m) ρ w (Eu k (ids.take (i+1))) S Y:=by rw[<-O];exact g.put c s4 _
  have D:Boxed Y w.heap.size 3 (.int .i64 z):=(B _ oG).trans N;have yR:Boxed Y (w.heap.size+1) 27 (.pointer (some ⟨kb,0,none⟩)):=(B _ oG).trans t;have aq:Boxed Y (w.heap.size+1+1) 38 (.slice sa ids.length sc):=(B _ oG).trans d;have yD:=(B (w.heap.size+1+1+1) oG).trans G;rw[O];have fin: ∀(Z:World) (z':Int),PW I (Bb L m) ρ w (Eu k (ids.take (i+1))) S Z->Boxed Z w.heap.size 3 (.int .i64 z')->(∀x,x≠w.heap.size->Z.heap[x]? =Y.heap[x]?)->
   ∃v w',(Instr.endRound (w.heap.size+1+1+1+1) none).run Tryz.prog Z=.ok v w'/\(Ending.returned v=.returned (.bool true)/\J (i+1) w'):=by
   intro Z z' zP zX zo;have zl:=(zo (w.heap.size+1+1+1+1) oG).trans ak;have he:=run_endRound (P:=Tryz.prog) none zl;refine⟨_,_,he,rfl,?_⟩;rw[K];have q: ∀x (o:Obj),x≠w.heap.size+1+1+1+1->(Z.putObj (w.heap.size+1+1+1+1) o).heap[x]? =Z.heap[x]? :=λx o f=>World.putObj_heap_other f;refine⟨zP.put c s4 _,⟨z',(q _ _ oG).trans zX⟩,(q _ _ oG).trans ((zo _ oG).trans yR),(q _ _ oG).trans ((zo _ oG).trans aq),(q _ _ oG).trans ((zo _ oG).trans yD),?_⟩;refine(World.putObj_heap_same (Dh zl)).trans ?_;exact congrArg some ao
  have T:=Lib.hid fin;clear K fin;clear g N t d G hl;have yc:=D.cell;have yf:=D.frozen;cases b
  .gi_wp2
   exact T.out Y z R D λ_ _=>rfl
  .gi_wp2
   exact T.out _ _ (R.set c s0 _) (D.set _) λx f=>Below.heap_setCell _ _ _ _ f
 rw[H];exact⟨by simpa[Eu]using p5,⟨0,F⟩,s,E,M,JJ⟩
 .rintro e Z ⟨⟨v,rfl⟩,hZ⟩;rw[H]at hZ;obtain⟨g,⟨z,N⟩,t,d,G,hl⟩:=hZ;have ab:(r .ready none).pending=none:=by rw[p]
  have he:=run_endLoop (P:=Tryz.prog) hl (by rw[p];simp);have R:=g.put c s4 (.loop {r .ready none with state:=.exhausted});have B: ∀x (o:Obj),x≠w.heap.size+1+1+1+1->(Z.putObj (w.heap.size+1+1+1+1) o).heap[x]? =Z.heap[x]? :=λx o f=>World.putObj_heap_other f;have D:Boxed _ w.heap.size 3 (.int .i64 z):=(B _ (.loop {r .ready none with state:=.exhausted}) oG).trans N;have yD:=(B (w.heap.size+1+1+1) (.loop {r .ready none with state:=.exhausted}) oG).trans G;obtain⟨Y,O⟩: ∃Y,Z.putObj (w.heap.size+1+1+1+1) (.loop {r .ready none with state:=.exhausted})=Y:=⟨_,rfl⟩;rw[O]at he R D yD;rw[ab]at he;refine⟨none,Y,he,?_⟩;have yc:=D.cell;have yf:=D.frozen;have eF:Eu k (ids.take ids.length)=Eu k ids:=by rw[List.take_length]
  rw[eF]at R;clear H p g N t d G hl O B he ab ad hs l eF;show Exit.inBlock 0 _ _ _ _
  gi_wp2
  refine⟨sP,.inl ⟨_,_,rfl,run_takeDeferred yD,?_⟩⟩;have zP:=R.put c s3 (.deferred none);refine⟨.int .i64 z,?_,?_⟩
  .simp[results,Tryz.f18,go_sem]
  obtain⟨m2,L2,J2,hA,ap,ai,_⟩:=zP;refine⟨{r:=.v (.int .i64 z),upd:=BN m2 (Eu k ids).im (Eu k ids).now,J:=J2},id,⟨z,m2,L2,J2,rfl,ap,ai⟩,?_,rfl⟩;have ae:=hA.upd;rw[N8 _ _ _ _ rfl]at ae;exact⟨hA.os,hA.tape,hA.output,hA.size,hA.keep,by rw[N8 _ _ _ _ rfl];exact ae,(λj b h=>by cases h),(λi j h=>by cases h),hA.Gu,hA.fresh,hA.Gz⟩
end
end
section
open Go.AX Lz
inductive Ln where
 |mk (l:AV)
 |int (n:Nat)
 |fn (a b:Nat)
 |op (o:Lz.Op)
deriving DecidableEq,Inhabited
def EJ(o:Lz.Op):AA AH:=if Bn o.code=0 then Et.getD (o.code-1) []else Et.getD (o.code-1) []++32::Lib.itoa o.a
def Ln.Dz:Ln->AA AH
 | .mk l=>[109,97,114,107,32]++AYM l
 | .int n=>[105,110,116,32]++Lib.itoa n
 | .fn a b=>[102,117,110,32]++Lib.itoa a++32::Lib.itoa b
 | .op o=>EJ o
def LQ:AA Ln:=DN.consts.map (λv=>if v.kind==2 then .mk v.l else .int v.n.toNat)++DN.Ad.flatMap λf=>.fn f.args f.vars::f.code.map .op
def AHm:AA (AA AH)->AA AH
 |[]=>[]
 |[x]=>x
 |x::l=>x++10::AHm l
def Hh:AA AH:=AHm (LQ.map Ln.Dz)
def ATT:LQ.length=39:=by decide+kernel
def AVa:Hh.length=257:=by decide+kernel
def AVW:Hh.count 10=38:=by decide+kernel
def AVc:Lib.splitK [10] 0 38 Hh=LQ.map Ln.Dz:=by decide+kernel
def AXu(x):str x.data.toList=x:=by apply VM;simp[str]
def AVb:Lib.splitB ⟨#[10]⟩ 0 38 (str Hh)=LQ.map λx=>str x.Dz:=by
 have h:=Lib.splitB_data ⟨#[10]⟩ 0 38 (str Hh);rw[show(str Hh).data.toList=Hh from rfl,show(⟨#[10]⟩:Bp).data.toList=[10]from rfl,AVc]at h;have a:=El (List.map str) h;rw[HA,HA]at a;rw[show(Lib.splitB ⟨#[10]⟩ 0 38 (str Hh)).map (str∘ λx=>x.data.toList)=Lib.splitB ⟨#[10]⟩ 0 38 (str Hh)from by
  conv=>rhs;rw[<-List.map_id (Lib.splitB ⟨#[10]⟩ 0 38 (str Hh))]
  exact Ih λx _=>AXu x]at a
 exact a
def AVX:Lib.countB (str Hh) ⟨#[10]⟩=38:=by show Lib.count Hh [10]=38;rw[Lib.count_one,<-AVW]
def O8:AA AE:=LQ.map λx=>.string (str x.Dz)
def AXb(I):Fn 184 [.v (.string (str Hh)),.v (.string ⟨#[10]⟩)] [] I (Zh I 39 39 O8 9) none:=by refine AQi (av:=#[.string (str Hh),.string ⟨#[10]⟩]) Tryz.func184 rfl kR (λ_=>rfl) λw _=>(AXc (str Hh) (by rw[show(str Hh).size=Hh.length from by simp[str,ByteArray.size],AVa];decide) w).mono ?_;rintro e a ⟨rfl,rfl⟩;rw[AVX,AVb];refine⟨by rw[List.length_map,ATT],?_⟩;congr 2
end
section
open Go.AX Go.RowKit Go.Shelf Lz
section
attribute [local go_sem] Oper.semAt_some
theorem AVO(w ev)(c:w.cell? ⟨UM.g 15,0,none⟩=some ev)(b:ev=.nilIface\/∃f d,ev=.iface f d):Calls prog 247 #[.string (str [])] w λe g=>e=.returned (.tuple #[.int .i64 0,.bool false])/\Below w.heap.size w g:=by
 have HX:=Lib.hid (Any.strconv_ParseInt_10_at64_syntax AIE (str []) dC (by decide+kernel) ev w c b)
 go_enter func247,ntmps247
 go_wp2_with (go_at_call 322;refine HX.out.mono ?_;rintro e j ⟨N,rfl,h,i,a⟩)
 go_wp2
 refine bodyPost_ret (v:=.tuple #[.int .i64 0,.bool false]) ?_ rfl ⟨rfl,a⟩;simp[results,f247,go_sem]
theorem AVJ(I)(c:Pow I):Fn 247 [.v (.string (str []))] [] I (A1 (.t [.v (.int .i64 0),.v (.bool false)]) I) none:=by refine MB (av:=#[.string (str [])]) (v:=.tuple #[.int .i64 0,.bool false]) func247 kR kR (λ_=>rfl) (λ_=>rfl) rfl λw d=> ?_;let⟨ev,e,f,a,b⟩:=c.err;exact AVO w ev (by simp[World.cell?,d _ _ a]) b
theorem AAa(c)(I)(t x y)(b:Bool)(ht:t.length<=1000)(h:DY c t=(x,y,b)):Fn 185 [.v (.string (str t)),.v (.string ⟨#[c]⟩)] [] I (A1 (.t [.v (.string (str x)),.v (.string (str y)),.v (.bool b)]) I) none:=by refine MB (av:=#[.string (str t),.string ⟨#[c]⟩]) (v:=.tuple #[.string (str x),.string (str y),.bool b]) Tryz.func185 kR kR (λ_=>rfl) (λ_=>rfl) rfl λw hw=> ?_;have:=APT c t (by unfold maxLen;omega) w;rw[h]at this;exact this
theorem Mt:type_of%(AAa 32):=AAa 32
end
end
section
open Go.AX Lz
def AGi(I:AB)(s:Bp)(i:Nat):Hd where
 By:=[(0,.v (.string s)),(4,.v (.int .i64 (i:Int)))]
 Bu:=[]
 J:=I
def AUO:∀c:Fin 48,∀i:Fin 47,1<=c.1->(((Et.getD i.1 [])==Et.getD (c.1-1) [])=decide (i.1+1=c.1)):=by decide+kernel
def AJT(I)(d:DK I)(c:Nat)(h1:1<=c)(m:c<=47):Fn 339 [.v (.string (str (Et.getD (c-1) [])))] [] I (A1 (.v (.int .i64 c)) I) none:=by let⟨arr,e,fr,f,b⟩:=d.at_;let⟨inf,hi,h⟩:=AHe;have a:=AUO ⟨c,oG⟩;refine fo Tryz.func339 (BZ rfl) λρ key w g=>gG<|loop (ι:=Nat) (λi=>i+1<=c) (λi=>c-i) (AGi I (str (Et.getD (c-1) []))) 1000 [] 0 oG kR kR ?_;rintro i k again T;have b:=b (i+1) oG oG 0 _ rfl;have a:=a ⟨i,oG⟩ h1;simp only[Nat.add_sub_cancel]at b a;by_cases l:i+1<c;rw[IL oG]at a;exact gg [(5,hT ((i:Int)<47) oG),(8,.op I _ _ (Sc (b:=1) (off:=0) (k:=i) Qz hi h oG)),(10,C9 I Cm rfl (0+i*4+0) (.string (str (Et.getD i []))) f (by simpa using b)),(12,.eq (Value.bool ((str (Et.getD i [])).toList==(str (Et.getD (c-1) [])).toList)) (.bool false) (by rw[IB,IB,a])),(15,hW ((i:Int)+1) ((i+1:Nat):Int) oG oG)]<|back [] (AGi I (str (Et.getD (c-1) [])) (i+1)) 1000 kR kR kR λT'=>again (i+1) oG oG T';have j:c=i+1:=oG;rw[GL oG]at a;exact gg [(5,hT ((i:Int)<47) oG),(8,.op I _ _ (Sc (b:=1) (off:=0) (k:=i) Qz hi h oG)),(10,C9 I Cm rfl (0+i*4+0) (.string (str (Et.getD i []))) f (by simpa using b)),(12,.eq (Value.bool ((str (Et.getD i [])).toList==(str (Et.getD (c-1) [])).toList)) (.bool true) (by rw[IB,IB,a])),(14,hW (1+(i:Int)) (c:Int) oG oG)]<|fi
def AUM:∀c:Fin 48,(Et.getD (c.1-1) []).length<=5:=by decide+kernel
def AHi(n:Nat)(h:n<=65535):(Lib.itoa (n:Int)).length<=21:=Lib.itoa_length_le n oG oG
def AJW(I)(a:DK I)(g:Pow I)(o)(h:Gf o):Fn 340 [N7 o] [] I (A1 (.v (.string (str (EJ o)))) I) none:=by
 let⟨⟨d,f⟩,h3,h4⟩:=Qi h;have l:(Et.getD (o.code-1) []).length<=5:=AUM ⟨o.code,oG⟩;have i:o.a<=65535:=by by_cases e:Bn o.code=0;have:=h3 e;omega;exact h4 e
 have k:=AHi o.a i;refine fo func340 (BZ rfl) λm j w c=>gG<|call (Ur I a o h) kR<|gG<|call (OZ I a o.code d f) kR ?_;by_cases e:Bn o.code=0;have b:EJ o=Et.getD (o.code-1) []:=by unfold EJ;rw[AW e]
 rw[b];exact gg [(16,hE (Bn o.code) 0 oG)]<|fi;have b:str (EJ o)=str (Et.getD (o.code-1) [])++⟨#[32]⟩++str (Lib.itoa o.a):=by unfold EJ;rw[AN e];rw[show(⟨#[32]⟩:Bp)=str [32]from rfl,ALA,ALA,Dk];rfl
 rw[b];refine gg [(16,hN (Bn o.code) 0 oG),(21,Rt I 20 (str (Et.getD (o.code-1) [])) ⟨#[32]⟩ (by rw[U1];show _+1<=_;unfold maxLen;omega))] ?_;refine call (YH I g o.a oG oG) kR<|gg [(25,UA I 21 24 (str (Et.getD (o.code-1) [])++⟨#[32]⟩) (str (Lib.itoa o.a)) (by rw[ADl,U1,U1];show _+1+_<=_;unfold maxLen;omega))] ?_;exact fi
def Xi(o:Lz.Op):Bool:=Gf o&&Nat.ble (EJ o).length 16&&(DY 32 (EJ o)==if Bn o.code=0 then(Et.getD (o.code-1) [],[],false)else(Et.getD (o.code-1) [],Lib.itoa o.a,true))&&(Bn o.code=0||decide (Lib.parseIntB 64 (Lib.itoa o.a)=.ok (o.a:Int)))
def AU6(I)(a:DK I)(f:Pow I)(o)(h:Xi o):Fn 266 [.v (.string (str (EJ o)))] [] I (A1 (.t [N7 o,.v (.bool true)]) I) none:=by
 simp[Xi,Bt,Nat.ble_eq,Gm,Ig,D1]at h;let⟨⟨⟨c,hlen⟩,hcut⟩,g⟩:=h;let⟨⟨i,j⟩,h3,h4⟩:=Qi c;have n:(str (EJ o)).size=(EJ o).length:=U1 _;refine fo func266 (BZ rfl) λr p w k=> ?_;by_cases e:Bn o.code=0;rw[AW e]at hcut;let⟨d,q⟩:=o;obtain rfl:q=0:=h3 e;exact gg [(12,hF (((str (EJ ⟨d,0⟩)).size:Int)>16) oG)]<|call (Mt I _ _ _ _ oG hcut) kR<|gG<|call (AJT I a d i j) kR<|gG<|call (AVJ I f) kR<|gG<|call (Ur I a ⟨d,0⟩ c) kR<|gG<|call (AJW I a f ⟨d,0⟩ c) kR<|gg [(46,.eq _ _ (XX (EJ ⟨d,0⟩)))]<|fi;rw[AN e]at hcut;have l:=h4 e;have g:=g.resolve_left (by simpa using e);have m:=AHi o.a l;have b:(Lib.itoa (o.a:Int)).length<=20:=by
  have:(EJ o).length=(Et.getD (o.code-1) []).length+((Lib.itoa o.a).length+1):=by unfold EJ;rw[AN e];simp
  omega
 exact gg [(12,hF (((str (EJ o)).size:Int)>16) oG)]<|call (Mt I _ _ _ _ oG hcut) kR<|gG<|call (AJT I a o.code i j) kR<|gG<|call (PL I f _ _ g rfl b oG oG) kR<|gg [(31,hT ((o.a:Int)≥0) oG),(35,hT ((o.a:Int)<=65535) oG)]<|call (Ur I a o c) kR<|gG<|call (AJW I a f o c) kR<|gg [(46,.eq _ _ (XX (EJ o)))]<|fi
def I2(a:Aq)(b:SV):AG:=.cells [a.sv,b] 322
def TT(I:AB)(b:Aq)(c:AA Val):Nat->AU->Prop:=λ_ h=>∃(a:Aq)(J:AB),h= {r:=.v (.bool true),upd:=[(1,I2 a (.v (.slice none 0 0)))],J:=J}/\Bq I (A7 b.a).toList J (A7 a.a).toList/\CE J 5 51 (c.flatMap Au) a
def ADW{I e i b}:E3 (TT I e i) [(1,b)] I:=by refine⟨?_⟩;rintro g h ⟨l,J,rfl,d,_⟩;refine⟨⟨nA,λj c=> ?_,nA,sP,sP⟩,d.le⟩;rw[AP.1 c];exact⟨sP,λk a=>by simp[I2,Aq.sv,AG.keys,Ax,SV.keys]at a⟩
def YT{I d e}:∀a h,TT I d e a h->∀c∈h.upd,c.1∈[1]:=by rintro a h ⟨_,_,rfl,_⟩ c b;rw[AP.1 b];exact AP.2 rfl
def AWc{I d v l n b c a}(m:CE I 5 51 (d.flatMap Au) ⟨l,d.length,n⟩)(i:(d.flatMap Au++Au v).length+a.length=c*5)(j:d.length+1<=c)(k:c<=maxLen)(f:I b=none)(h:A7 l=some b\/I.free b):
 Bq I (A7 l).toList (I.plus b (.cells (d.flatMap Au++Au v++a).toArray 51 (0,0))) [b]/\CE (I.plus b (.cells (d.flatMap Au++Au v++a).toArray 51 (0,0))) 5 51 ((d++[v]).flatMap Au) ⟨some ⟨b,0,none⟩,d.length+1,c⟩:=by
 refine⟨(NF (P1:=[]) (P2:=[]) (o:=.cells (d.flatMap Au++Au v++a).toArray 51 (0,0)) f h).cast sP sP,?_⟩;have e:(d++[v]).flatMap Au=d.flatMap Au++Au v:=by rw[Mf];simp
 rw[e];refine⟨?_,λx g=> ?_,.inr ⟨b,a,rfl,MS f,i,j,k⟩⟩;rw[Bc,F6 (n:=5) (λ_=>rfl)];show _+5=_;simp only;omega;rcases BA.1 g with g|g;exact m.one x g;exact Sq v x g
def AF5(I g d)(n:CE I 5 51 (d.flatMap Au) g)(x:d.length<=1000)(v):Fn 333 [.p 1 0,Cn v] [(1,I2 g (.v (.slice none 0 0)))] I (TT I g (d++[v])) none:=by
 let⟨p,_⟩:=n.OB (V:=Au) (λ_=>rfl) dC;let⟨t,z,u⟩:=g;simp only at p;subst p;refine Bh func333 ADW λA s w o=>gG<|act (need:=[(228,.cells ((Au v).map .v) 51)]) [] kR (Im (I:=I) A6 (s:=⟨t,d.length,u⟩) (x:=.s 228 0 1 1) (m:=1) (olds:=d.flatMap Au) (news:=Au v) Jf kR n (D2 (e:=51) sP rfl (Sq v)) dC (by show d.length+1<=16777216;omega)) (λq r y j=>by obtain⟨_,_,_,rfl,_⟩:=r;cases j) Il ?_
 rintro q ⟨b,c,f,rfl,k,l,m,h,i⟩;let⟨e,a⟩:=AWc n k l m h i;generalize I.plus b (.cells (d.flatMap Au++Au v++f).toArray 51 (0,0))=J at e a⊢;exact gG<|dn [] ⟨⟨some ⟨b,0,none⟩,d.length+1,c⟩,J,rfl,e,a⟩
abbrev RJ(x f:AA AH):Prop:=(x,f)∈[([84],[]),([97],[(1:AH)])]
def AF2(I)(a:HF I)(x f)(h:RJ x f):Fn 367 [.v (.string (str x))] [] I (A1 (.t [.v (.string (str f)),.v (.bool true)]) I) none:=by refine MB (av:=#[.string (str x)]) (v:=.tuple #[.string (str f),.bool true]) func367 kR kR (λ_=>rfl) (λ_=>rfl) rfl λw b=> ?_;simp[RJ,mS,OQ]at h;obtain⟨rfl,rfl⟩|⟨rfl,rfl⟩:=h;exact AO7 w;exact AO4 w (a.ATK b)
def ASs(I)(a:HF I)(t x y f g)(d:t.length<=1000)(c:DY 47 t=(x,y,true))(e:RJ x f)(h:RJ y g):Fn 334 [.v (.string (str t))] [] I (A1 (.t [Cc (f,g),.v (.bool true)]) I) none:=fo func334 (BZ rfl) λj i w b=>gG<|call (AAa 47 I t x y true d c) kR<|gG<|call (AF2 I a x f e) kR<|gG<|call (AF2 I a y g h) kR<|gG<|fi
def AWB(I)(i:Pow I)(b c)(m:CE I 5 51 (c.flatMap Au) b)(k:c.length<=1000)(n:Int)(g: -9223372036854775808<=n)(h:n<=9223372036854775807)(l:Lib.parseIntB 64 (Lib.itoa n)=.ok n)(d:(Lib.itoa n).length<=20):
 Fn 261 [.p 1 0,.v (.string (str (Lib.itoa n)))] [(1,I2 b (.v (.slice none 0 0)))] I (TT I b (c++[whole n])) none:=by
 refine Bh func261 ADW λq o w f=>gG<|call (PL I i _ n l rfl d g h) kR<|gG<|Ag (AF5 I b c m k (whole n)) [] [1] kR YT λy j=> ?_;obtain⟨p,J,rfl,e,a⟩:=j;exact gG<|dn [] ⟨p,J,rfl,e,a⟩
def AWA(I)(f:HF I)(b c)(j:CE I 5 51 (c.flatMap Au) b)(h:c.length<=1000)(l t x y)(k:t.length<=1000)(i:DY 47 t=(x,y,true))(m:RJ x l.1)(n:RJ y l.2):
 Fn 262 [.p 1 0,.v (.string (str t))] [(1,I2 b (.v (.slice none 0 0)))] I (TT I b (c++[Cx l])) none:=by
 refine Bh func262 ADW λq o w e=>gG<|call (ASs I f t x y l.1 l.2 k i m n) kR<|gG<|Ag (AF5 I b c j h (Cx l)) [] [1] kR YT λy g=> ?_;obtain⟨p,J,rfl,d,a⟩:=g;exact gG<|dn [] ⟨p,J,rfl,d,a⟩
def Er(a b:Nat)(s:Aq):AA AE:=[.int .i64 a,.int .i64 b,.slice s.a s.n s.c]
def Wl(a b s):∀x∈Er a b s,x.oneCell':=by intro x c;simp[Er]at c;rcases c with rfl|rfl|rfl<;>rfl
def ZQ(I:AB)(f:Aq)(a b:Nat):Nat->AU->Prop:=λe h=>∃c d,1<=c/\c<=maxLen/\d.length=(c-1)*3/\h= {r:=.v (.bool true),upd:=[(1,I2 f (.s e 0 1 c))],nb:=[.Aa (Er a b ⟨none,0,0⟩++d) 195],J:=I}
def AZW{I i a b x}:CO (ZQ I i a b) [(1,x)] I:=by refine⟨?_⟩;rintro j h ⟨g,f,_,_,_,rfl⟩;refine⟨⟨nA,λm e=> ?_,(λl d k c=>by rw[AP.1 d]at c;cases c),sP,sP⟩,AB.le_refl _⟩;rw[AP.1 e];refine⟨sP,λk c=>.inr ?_⟩;simp[I2,Aq.sv,AG.keys,Ax,SV.keys]at c;rw[c];exact MN _ _
def AY1{I f a b}:∀c h,ZQ I f a b c h->∀e∈h.upd,e.1∈[1]:=by rintro c h ⟨_,_,_,_,_,rfl⟩ e d;rw[AP.1 d];exact AP.2 rfl
structure ZF(t:AA AH)(a b:Nat):Prop where
 len:t.length<=1000
 cut:DY 32 t=(Lib.itoa a,Lib.itoa b,true)
 ha:a<=255
 hb:b<=255
 pa:Lib.parseIntB 64 (Lib.itoa a)=.ok (a:Int)
 pb:Lib.parseIntB 64 (Lib.itoa b)=.ok (b:Int)
 la:(Lib.itoa a).length<=20
 lb:(Lib.itoa b).length<=20
def AV8(I)(g:Pow I)(f t a b)(h:ZF t a b):Fn 263 [.p 1 0,.v (.string (str t))] [(1,I2 f (.v (.slice none 0 0)))] I (ZQ I f a b) none:=by have p:=h.ha;have q:=h.hb;refine fo func263 AZW λs l w i=>gG<|call (Mt I _ _ _ _ h.len h.cut) kR<|gG<|call (PL I g _ _ h.pa rfl h.la oG oG) kR<|gG<|call (PL I g _ _ h.pb rfl h.lb oG oG) kR<|gg [(36,hF ((a:Int)<0) oG),(40,hF ((a:Int)>255) oG),(44,hF ((b:Int)<0) oG),(48,hF ((b:Int)>255) oG)]<|act (need:=[(540,.cells ((Er a b ⟨none,0,0⟩).map .v) 195)]) [] kR (KU (I:=I) A6 (n:=0) (cap:=0) (m:=1) (a:=none) (l:=.v (.slice none 0 0)) (x:=.s 540 0 1 1) (olds:=[]) (news:=Er a b ⟨none,0,0⟩) Zp kR rfl NG (D2 (e:=195) (AP.2 rfl) rfl (Wl _ _ _)) (AZ _) oG (λ_=>rfl) oG) (λj k r e=> ?_) LD ?_;obtain⟨d,c,_,_,_,rfl⟩:=k;cases e;rintro j ⟨d,c,m,n,o,rfl⟩;exact gG<|dn [548] ⟨d,c,m,n,o,rfl⟩
def ZR(I:AB)(g:Aq)(n:Nat)(e:AA AE)(a b:Nat):Nat->AU->Prop:=λf h=>∃c d,n+1<=c/\c<=maxLen/\d.length=(c-(n+1))*3/\h= {r:=.v (.bool true),upd:=[(1,I2 g (.s f 0 (n+1) c)),(2,.gone)],nb:=[.Aa (e++Er a b ⟨none,0,0⟩++d) 195],J:=I}
def AZX{I j n e a b x y}:CO (ZR I j n e a b) [(1,x),(2,y)] I:=by refine⟨?_⟩;rintro l h ⟨i,g,_,_,_,rfl⟩;refine⟨⟨nA,λo d=> ?_,(λm f k c=>by rw[AP.1 f]at c;cases c),sP,sP⟩,AB.le_refl _⟩;simp[mS]at d;rcases d with rfl|rfl;refine⟨sP,λk c=>.inr ?_⟩;simp[I2,Aq.sv,AG.keys,Ax,SV.keys]at c;rw[c];exact MN _ _;exact⟨sP,nA⟩
def AY2{I g n e a b}:∀d h,ZR I g n e a b d h->∀f∈h.upd,f.1∈[1,2]:=by rintro d h ⟨_,_,_,_,_,rfl⟩ f c;simp[mS]at c;rcases c with rfl|rfl<;>simp
def AV9(I)(i:Pow I)(cs)(t)(a b)(h:ZF t a b)(n cap)(olds AC)(k:n<=1000/\n<=cap/\cap<=maxLen)(e:olds.length=n*3)(g: ∀v∈olds,v.oneCell'=true)(hj:AC.length=(cap-n)*3):
 Fn 263 [.p 1 0,.v (.string (str t))] [(1,I2 cs (.s 2 0 n cap)),(2,.Aa (olds++AC) 195)] I (ZR I cs n olds a b) none:=by
 have ha:=h.ha;have hb:=h.hb;refine fo Tryz.func263 AZX λρ key w j=>gG<|call (Mt I _ _ _ _ h.len h.cut) kR<|gG<|call (PL I i _ _ h.pa rfl h.la oG oG) kR<|gG<|call (PL I i _ _ h.pb rfl h.lb oG oG) kR<|gg [(36,hF ((a:Int)<0) oG),(40,hF ((a:Int)>255) oG),(44,hF ((b:Int)<0) oG),(48,hF ((b:Int)>255) oG)]<|act (need:=[(2,.Aa (olds++AC) 195),(540,.cells ((Er a b ⟨none,0,0⟩).map .v) 195)]) [2] kR (JC (I:=I) A6 (n:=n) (m:=1) (cap:=cap) (k:=2) (vs:=olds++AC) (olds:=olds) (news:=Er a b ⟨none,0,0⟩) (x:=.s 540 0 1 1) Zp kR sP ?_ ?_ g (D2 (e:=195) sP rfl (Wl _ _ _)) k.2.1 k.2.2 oG) ?_ (Oc rfl) ?_;rw[List.length_append,e,hj,<-Nat.add_mul];congr 1;omega;rw[List.take_left'];rw[e];rintro h ⟨cap,AC,_,_,_,rfl⟩ kb f;rw[List.mem_singleton.1 f];exact List.mem_singleton.2 rfl;rintro h' ⟨d,c,r1,r2,r3,rfl⟩;exact gG<|dn [548] ⟨d,c,r1,r2,r3,rfl⟩
def Ze(I:AB)(g:Aq)(n e:Nat)(d c:AA AE)(a b:Nat)(ops:AA Lz.Op)(s:Aq):Nat->AU->Prop:=λ_ h=>∃(f:Aq)(J:AB),h= {r:=.v (.bool true),upd:=[(1,I2 g (.s 2 0 n e)),(2,.Aa (d++Er a b f++c) 195)],J:=J}/\Bq I (A7 s.a).toList J (A7 f.a).toList/\CE J 2 211 (ops.flatMap B8) f
def AZk{I l n g f e a b ops s x y}:E3 (Ze I l n g f e a b ops s) [(1,x),(2,y)] I:=by refine⟨?_⟩;rintro m h ⟨q,J,rfl,j,_⟩;refine⟨⟨nA,λp d=> ?_,nA,sP,sP⟩,j.le⟩;simp[mS]at d;rcases d with rfl|rfl;refine⟨sP,λk c=>.inl ?_⟩;simp[I2,Aq.sv,AG.keys,Ax,SV.keys]at c;rw[c];simp;exact⟨sP,nA⟩
def ALx{I j n g f d a b ops s}:∀e h,Ze I j n g f d a b ops s e h->∀i∈h.upd,i.1∈[1,2]:=by rintro e h ⟨_,_,rfl,_⟩ i c;simp[mS]at c;rcases c with rfl|rfl<;>simp
def AQ0{c AC m a b s}(d:c.length=m*3):(c++Er a b s++AC)[0+m*3+2]? =some (.slice s.a s.n s.c):=by rw[Dk,Ef oG,d,show 0+m*3+2-m*3=2 by omega];rfl
def AQ1{c AC m a b s s'}(d:c.length=m*3):splice (c++Er a b s++AC) (0+m*3+2) [.slice s'.a s'.n s'.c]=c++Er a b s'++AC:=by rw[Dk,show 0+m*3+2=c.length+2 by omega,AK5,Se (by simp[Er]),Dk];rfl
def AXQ{I ops o k m b c a}(l:CE I 2 211 (ops.flatMap B8) ⟨k,ops.length,m⟩)(h:(ops.flatMap B8++B8 o).length+a.length=c*2)(i:ops.length+1<=c)(j:c<=maxLen)(d:I b=none)(g:A7 k=some b\/I.free b):
 Bq I (A7 k).toList (I.plus b (.cells (ops.flatMap B8++B8 o++a).toArray 211 (0,0))) [b]/\CE (I.plus b (.cells (ops.flatMap B8++B8 o++a).toArray 211 (0,0))) 2 211 ((ops++[o]).flatMap B8) ⟨some ⟨b,0,none⟩,ops.length+1,c⟩:=by
 refine⟨(NF (P1:=[]) (P2:=[]) (o:=.cells (ops.flatMap B8++B8 o++a).toArray 211 (0,0)) d g).cast sP sP,?_⟩;have e:(ops++[o]).flatMap B8=ops.flatMap B8++B8 o:=by rw[Mf];simp
 rw[e];refine⟨?_,λx f=> ?_,.inr ⟨b,a,rfl,MS d,h,i,j⟩⟩;rw[Bc,F6 (n:=2) (λ_=>rfl)];show _+2=_;simp only;omega;rcases BA.1 f with f|f;exact l.one x f;exact Ug o x f
def AJ0(I)(n:DK I)(D:Pow I)(z m f e d a b s ops)(y:CE I 2 211 (ops.flatMap B8) s)(N:ops.length<=100000)(G:m+1<=f/\f<=maxLen)(h:e.length=m*3)(o)(H:Xi o):
 Fn 186 [.p 1 0,.v (.string (str (EJ o)))] [(1,I2 z (.s 2 0 (m+1) f)),(2,.Aa (e++Er a b s++d) 195)] I (Ze I z (m+1) f e d a b (ops++[o]) s) none:=by
 let⟨B,_⟩:=y.OB (V:=B8) (λ_=>rfl) dC;unfold maxLen at G;have E:=AQ0 (AC:=d) (a:=a) (b:=b) (s:=s) h;let⟨j,P,k⟩:=s;simp only at B;subst B;refine Bh func186 AZk λQ M w A=>gG<|call (AU6 I n D o H) kR<|gg [(22,hN ((m+1:Nat):Int) 0 oG),(35,hW (((m+1:Nat):Int)-1) ((m:Nat):Int) oG oG),
  (36,.hand (.indexAddr 30 (.tmp 28) (.tmp 35)) [(28,.s 2 0 (m+1) f),(35,.v (.int .i64 ((m:Nat):Int)))] [] I (.p 2 (0+m*3)) (Hb A6 (L:=lay) (t:=30) (a:=28) (b:=35) (k:=2) (off:=0) (n:=m+1) (c:=f) (i:=m) (e:=195) (ty:=⟨3,_,_⟩) rfl rfl oG)),
  (41,.hand (.load 188 (.tmp 40)) [(40,.p 2 (0+m*3+2))] [(2,.Aa (e++Er a b ⟨j,ops.length,k⟩++d) 195)] I (.v (.slice j ops.length k)) (MM A6 (L:=lay) (t:=188) (a:=40) (k:=2) (off:=0+m*3+2) (ty:=⟨1,_,_⟩) (vs:=e++Er a b ⟨j,ops.length,k⟩++d) (e:=195) rfl rfl E))] ?_
 refine act (need:=[(420,.cells ((B8 o).map .v) 211)]) [] kR (Im (I:=I) A6 (s:=⟨j,ops.length,k⟩) (x:=.s 420 0 1 1) (m:=1) (olds:=ops.flatMap B8) (news:=B8 o) AEp kR y (D2 (e:=211) sP rfl (Ug o)) dC (by show ops.length+1<=16777216;omega)) (λC F O r=>by obtain⟨_,_,_,rfl,_⟩:=F;cases r) Il ?_
 rintro C ⟨l,c,L,rfl,t,u,x,p,q⟩;let⟨i,g⟩:=AXQ y t u x p q;generalize I.plus l (.cells (ops.flatMap B8++B8 o++L).toArray 211 (0,0))=J at i g⊢;refine gG<|Bm (k:=2) (off:=0+m*3+2) (cs:=[.slice (some ⟨l,0,none⟩) (ops.length+1) c]) (vs:=e++Er a b ⟨j,ops.length,k⟩++d) (e:=195) (t:=188) (ad:=.tmp 46) (x:=.tmp 44) (ty:=⟨1,_,_⟩) (I':=J) kR kR kR rfl rfl (by simp[Er];omega) (by intro v K;rw[AP.1 K];rfl) kR ?_;rw[AQ1 (s':=⟨some ⟨l,0,none⟩,ops.length+1,c⟩) h];exact gG<|dn [] ⟨⟨some ⟨l,0,none⟩,ops.length+1,c⟩,J,rfl,i,g⟩
def NO:AG:=.DZ [.string ⟨#[105,110,116]⟩,.string ⟨#[109,97,114,107]⟩,.string ⟨#[102,117,110]⟩] [.v (.func (.func 261) #[] #[]),.v (.func (.func 262) #[] #[]),.v (.func (.func 263) #[] #[])]
def AZ0(I):Fn 183 [] [] I (ZN I NO) none:=fo func183 (AMC rfl) λc b w a=>gG<|dn [108] rfl
structure Live(I J:AB)(z:Nat)(e:Av)(Aa:AA AE)(s:Aq):Prop where
 st:Bq I [] J (A7 s.a).toList
 row:CE J z e Aa s
def Live.next{I J K z e b a s s'}(h:Live I J z e b s)(c:Bq J (A7 s.a).toList K (A7 s'.a).toList)(d:CE K z e a s'):Live I K z e a s':=⟨h.st.trans c,d⟩
theorem Live.nil(I z e):Live I I z e [] ⟨none,0,0⟩:=⟨.refl I [],Qs⟩
def Live.never{i:Type}{I J:AB}{R:i->List Value->Prop}{z:Nat}{e:TypeId}{xs:List i}{Aa:List Value}{s:Aq}(h:Live I J z e Aa s)(hlen:s.n=xs.length)(g:0<xs.length)(l:Rows R xs Aa):
 ∃b o,J.has b o/\I.own b=none/\I.le (J.never b o)/\J.Cd (J.never b o)/\Aj (J.never b o) R z xs s.a s.c Aa:=by
 obtain⟨b,o,hb,d⟩:=PS h.row oG;have c:=h.st;rw[hb]at c;obtain⟨h1,j,n,k⟩:=c.never (b:=b) (o:=o) (by simp[A7]) d;refine⟨b,o,d,j,⟨h1.le,λx y m=>h1.keep x y m sP⟩,k,h.row.PT hlen l λb' o' a f=> ?_⟩;rw[hb]at a;obtain rfl:b=b':=by simpa using a
 have e:o'=o:=by have:=f.own;rw[d.own]at this;exact(Option.some.inj this).symm
 rw[e];exact N5 _ _ _
structure AS where
 i:Nat
 J:AB
 cs:Aq
 m:Nat
 cap:Nat
 olds:AA AE
 s:Aq
 AC:AA AE
def AEu(x:AS):AA (Nat×SV):=[(2,.p 100 0),(5,.p 124 0),(6,.m 132),(17,.s 156 0 39 39),(18,.v (.int .i64 39)),(19,.v (.int .i64 (x.i:Int)))]
def Pz(x:AS):Hd:=match x.m with
 |0=>{By:=AEu x,Bu:=[(100,.cells [.v (.slice none 0 0),.v (.slice none 0 0)] 32),(124,I2 x.cs (.v (.slice none 0 0))),(132,NO),(156,.Aa O8 9)],J:=x.J}
 |m+1=>{By:=AEu x,Bu:=[(100,.cells [.v (.slice none 0 0),.v (.slice none 0 0)] 32),(124,I2 x.cs (.s 7 0 (m+1) x.cap)),(132,NO),(156,.Aa O8 9),(7,.Aa (x.olds++Er 1 1 x.s++x.AC) 195)],J:=x.J}
def Ru(I:AB)(i:Nat)(t:AA AH)(h:O8[0+i*1]? =some (.string (str t))):Hint:=.hand (.load 9 (.tmp 22)) [(22,.p 156 (0+i*1))] [(156,.Aa O8 9)] I (.v (.string (str t))) (MM A6 (L:=lay) (t:=9) (a:=22) (k:=156) (off:=0+i*1) (ty:=⟨1,_,_⟩) (vs:=O8) (e:=9) rfl rfl h)
def Rv(I:AB)(i:Nat)(h:i<39):Hint:=.hand (.indexAddr 38 (.tmp 17) (.tmp 19)) [(17,.s 156 0 39 39),(19,.v (.int .i64 (i:Int)))] [] I (.p 156 (0+i*1)) (Hb A6 (L:=lay) (t:=38) (a:=17) (b:=19) (k:=156) (off:=0) (n:=39) (c:=39) (i:=i) (e:=9) (ty:=⟨1,_,_⟩) rfl rfl h)
def LP(i){x}(h:LQ[i]? =some x):O8[0+i*1]? =some (.string (str x.Dz)):=by unfold O8;rw[show 0+i*1=i by omega,E0,h];rfl
def Mr:AA Lz.Op:=(DN.Ad.getD 0 Af).code
def Ms:AA Lz.Op:=(DN.Ad.getD 1 Af).code
def ATO:∀j:Fin 20,LQ[6+j.1]? =(Mr[j.1]?).map .op:=by decide+kernel
def ATP:∀j:Fin 12,LQ[27+j.1]? =(Ms[j.1]?).map .op:=by decide+kernel
def AJV:∀o∈Mr++Ms,Xi o:=by decide+kernel
structure AsF(I:AB)(x:AS)(ops:AA Lz.Op):Prop where
 cap:x.m<=x.cap/\x.cap<=maxLen
 AC:x.AC.length=(x.cap-x.m)*3
 cs:x.cs.n=5/\Aj x.J Ey 5 DN.consts x.cs.a x.cs.c (DN.consts.flatMap Au)
 row:Live I x.J 2 211 (ops.flatMap B8) x.s
def AsP(I:AB)(x:AS):Prop:=
 (x.m=0/\x.i<=5/\Live I x.J 5 51 ((DN.consts.take x.i).flatMap Au) x.cs)\/
 (x.m=0+1/\6<=x.i/\x.i<=26/\x.olds=[]/\AsF I x (Mr.take (x.i-6)))\/
 (x.m=1+1/\27<=x.i/\x.i<=39/\Rows (Iu x.J) [DN.Ad.getD 0 Af] x.olds/\AsF I x (Ms.take (x.i-27)))
def AEH(I:AB):Nat->AU->Prop:=λ_ h=>∃(a:CY)(J:AB),h= {r:=.t [.g (De DN a),.v (.int .i64 0),.v (.int .i64 0)],J:=J}/\I.le J/\D3 J DN a
def AZQ{I}:CO (AEH I) [] I:=by refine⟨?_⟩;rintro e h ⟨f,J,rfl,hle,_⟩;exact⟨⟨(λk d=>by simp[De,SV.keys,Ax]at d),nA,nA,sP,sP⟩,hle⟩
def AQT(b l):(if(0:Int)<=0 then(str (b::l))[(0:Int).toNat]? else none)=some b:=by
 rw[AW dC];show(str (b::l))[0]? =some b;have h:0<(str (b::l)).size:=by rw[U1];simp
 rw[getElem?_pos (str (b::l)) 0 h];rfl
def Sa{I}(b)(l): ∀w,Db w I->∃a,(Instr.index 9 (.string (str (b::l))) (.int .i64 0)).run Tryz.prog w=.ok (den id (.v (.int .u8 (b.toNat:Int)))) a/\BB w a:=λw _=>
 ⟨w,by
   have hu:Tryz.prog.underlying 9=some .string:=Cm;have c:=AQT b l;unfold Instr.index;simp only[Sem.run_bind,asIntOf,Sem.run_pure,Result.andThen_ok,run_underlying hu,c,den],BB.refl w⟩
def VH:AY Ah:=#[{key:=.string ⟨#[105,110,116]⟩,val:=.func (.func 261) #[] #[],born:=0},{key:=.string ⟨#[109,97,114,107]⟩,val:=.func (.func 262) #[] #[],born:=1},{key:=.string ⟨#[102,117,110]⟩,val:=.func (.func 263) #[] #[],born:=2}]
def AMZ(a):NO.den a=some (.map VH 3):=rfl
def ALk:prog.underlying 323=some (.map 9 328):=kR
def ATq{I}(c j g)(r:Instr.findNow .string (.string c) VH.toList 0=some (some (j,.func (.func g) #[] #[]))):
 ∀b i (o:BP),o.op=.lookup 323 (.tmp 38) (.tmp 39) true->(∀p∈[(38,SV.m 132),(39,SV.v (.string c))],i p.1=p.2)->LS prog o i b [(132,NO)] I (.t [.v (.func (.func g) #[] #[]),.v (.bool true)]) none:=by
 intro b i o h a;have n:=Cy a (s:=38) (x:=.m 132) sP;have q:=Cy a (s:=39) (x:=.v (.string c)) sP;intro s t w m hN _ _ _;refine⟨w,?_,BB.refl w⟩;have k:=m (.tmp 38) xO;have l:=m (.tmp 39) xO;simp[ev,n,q,den]at k l;have d:=hN (132,NO) sP _ (AMZ s);have f:=MapKept.run_findKey (P:=prog) (w:=w) (Cm) r;have e:=MapKept.run_checkKey (P:=prog) (w:=w) (Cm) (show MapKept.IsKey .string (.string c)from A0);simp[execOp,h,k,l,Instr.lookup,run_underlying ALk,MapKept.run_getObj_map d,e,f,Result.andThen,den,As]
def ATr{I}(c)(n:Instr.findNow .string (.string c) VH.toList 0=some none):
 ∀b h (o:BP),o.op=.lookup 323 (.tmp 38) (.tmp 39) true->(∀p∈[(38,SV.m 132),(39,SV.v (.string c))],h p.1=p.2)->LS prog o h b [(132,NO)] I (.t [.v .nilFunc,.v (.bool false)]) none:=by
 intro b h o g a;have l:=Cy a (s:=38) (x:=.m 132) sP;have m:=Cy a (s:=39) (x:=.v (.string c)) sP;intro r s w k hN _ _ _;refine⟨w,?_,BB.refl w⟩;have i:=k (.tmp 38) xO;have j:=k (.tmp 39) xO;simp[ev,l,m,den]at i j;have d:=hN (132,NO) sP _ (AMZ r);have f:=MapKept.run_findKey (P:=prog) (w:=w) (Cm) n;have e:=MapKept.run_checkKey (P:=prog) (w:=w) (Cm) (show MapKept.IsKey .string (.string c)from A0);have q:∀w,(zeroValue 328).run prog w=.ok .nilFunc w:=zeroValue328;simp[execOp,g,i,j,Instr.lookup,run_underlying ALk,MapKept.run_getObj_map d,e,f,q,Result.andThen,den,As]
def Wp(I:AB)(a:Bp)(j g:Nat)(b:Instr.findNow .string (.string a) VH.toList 0=some (some (j,.func (.func g) #[] #[]))):Hint:=.hand (.lookup 323 (.tmp 38) (.tmp 39) true) [(38,.m 132),(39,.v (.string a))] [(132,NO)] I (.t [.v (.func (.func g) #[] #[]),.v (.bool true)]) (ATq a j g b)
def AHI(I:AB)(a:Bp)(b:Instr.findNow .string (.string a) VH.toList 0=some none):Hint:=.hand (.lookup 323 (.tmp 38) (.tmp 39) true) [(38,.m 132),(39,.v (.string a))] [(132,NO)] I (.t [.v .nilFunc,.v (.bool false)]) (ATr a b)
def AIt:AA Lz.Op:=[⟨2,0⟩,⟨1,2⟩,⟨1,3⟩,⟨1,1⟩,⟨40,1⟩,⟨4,0⟩,⟨3,1⟩,⟨2,1⟩,⟨16,12⟩,⟨1,4⟩,⟨18,0⟩,⟨1,0⟩,⟨41,0⟩,⟨8,0⟩,⟨15,8⟩]
def mem1:AA Lz.Op:=[⟨2,0⟩,⟨30,0⟩,⟨3,1⟩,⟨2,1⟩,⟨16,7⟩,⟨18,0⟩,⟨1,4⟩,⟨8,0⟩,⟨15,3⟩]
def ML(i:Nat):AV:=if i=0 then([],[])else([1],[])
def Ny(i:Nat):Nat:=if i=2 then 2 else if i=3 then 9 else 1
def ARn:∀o∈Mr,o∈AIt:=by decide+kernel
def ARo:∀o∈Ms,o∈mem1:=by decide+kernel
def HF.A8{I J}(hle:I.Cd J)(h:HF I):HF J:=by let⟨arr,e,a,b,c⟩:=h.at_;exact⟨arr,e,a,hle _ _ b,c⟩
def Xr:Nb DN where
 cs:=dC
 fs:=dC
 ck:=by decide+kernel
 fk f hf:=by
  have ha:∀f∈DN.Ad,f.args<=16/\f.args+f.vars<=16/\0<f.code.length/\f.code.length<=256/\∀o∈f.code,Gf o:=by decide+kernel
  let⟨h1,a,b,c,d⟩:=ha f hf;exact⟨h1,a,⟨b,c⟩,d⟩
def AG1:ZF (DY 32 (Ln.fn 1 1).Dz).2.1 1 1:=⟨by decide+kernel,by decide+kernel,dC,dC,by decide+kernel,by decide+kernel,by decide+kernel,by decide+kernel⟩
def AKb{I}:∀ {d:AA Lz.DT} {l:AA AE},Rows (Iu I) d l->∀v∈l,v.oneCell'
 |[],_,h,v,c=>by cases h;cases c
 |f::d,l,⟨a,b,e,⟨_,_,_,q,_⟩,h⟩,v,c=>by rw[e]at c;rcases BA.1 c with c|c;rw[q]at c;simp at c;rcases c with rfl|rfl|rfl<;>rfl;exact AKb h v c
def ALK{l:List Lz.Op}{j:Nat}{o:Lz.Op}(h:l[j]? =some o):l.take (j+1)=l.take j++[o]:=by rw[List.take_add_one,h];rfl
def ANi(I)(P:DK I)(W:Pow I)(hL:HF I):Fn 133 [.v (.string (str Hh))] [] I (AEH I) none:=by
 refine fo Tryz.func133 AZQ λρ key w ab=>gG<|Ag (AZ0 I) [] [] kR (λ_ h Q kb R=>by subst Q;cases R) λh Q=> ?_;subst Q;refine gG<|Ag (AXb I) [] [] kR (λ_ h Q kb R=>by subst Q;cases R) λh Q=> ?_;subst Q;refine gG<|loop (ι:=AS) (AsP I) (λx=>39-x.i) Pz 1000 [] ⟨0,I,⟨none,0,0⟩,0,0,[],⟨none,0,0⟩,[]⟩ (.inl ⟨rfl,Nat.zero_le _,Live.nil I 5 51⟩) kR kR ?_;rintro⟨i,J,cs,m,cap,olds,s,AC⟩ hp again T;rcases hp with⟨hm,hi,d⟩|⟨hm,hi,a,t,Z⟩|⟨hm,hi,a,t,Z⟩;obtain rfl:m=0:=hm;simp only at hi d;have hle:I.Cd J:=d.st.le;obtain a|a|rfl:(i=0\/i=1)\/(i=2\/i=3\/i=4)\/i=5:=oG;refine gg [(20,hT (((i:Nat):Int)<39) oG),(22,Rv J i oG),(23,Ru J i _ (LP i (show LQ[i]? =some (Ln.mk (ML i)) by obtain rfl|rfl:=a<;>decide+kernel))),(28,.op J _ _ (Sa ((Ln.mk (ML i)).Dz.headD 0) (Ln.mk (ML i)).Dz.tail))] ?_ (by obtain rfl|rfl:=a<;>kernel_rfl);refine call (Mt J (Ln.mk (ML i)).Dz (DY 32 (Ln.mk (ML i)).Dz).1 (DY 32 (Ln.mk (ML i)).Dz).2.1 (DY 32 (Ln.mk (ML i)).Dz).2.2 (by obtain rfl|rfl:=a<;>decide+kernel) rfl) (by obtain rfl|rfl:=a<;>kernel_rfl) ?_;refine gg [(40,Wp J (str (DY 32 (Ln.mk (ML i)).Dz).1) 1 262 (by obtain rfl|rfl:=a<;>kernel_rfl))] ?_ (by obtain rfl|rfl:=a<;>kernel_rfl)
 refine Ag (AWA J (HF.A8 hle hL) cs (DN.consts.take i) d.row (by obtain rfl|rfl:=a<;>decide) (ML i) (DY 32 (Ln.mk (ML i)).Dz).2.1 (AC2 (ML i).1) [84] (by obtain rfl|rfl:=a<;>decide+kernel) (by obtain rfl|rfl:=a<;>decide+kernel) (by obtain rfl|rfl:=a<;>decide+kernel) (by obtain rfl|rfl:=a<;>decide+kernel)) [(1,124)] [1] (by obtain rfl|rfl:=a<;>kernel_rfl) YT ?_;rintro _ ⟨C,A,rfl,p,l⟩;refine gg [(57,hW (((i:Nat):Int)+1) ((i+1:Nat):Int) oG oG)] ?_ (by obtain rfl|rfl:=a<;>kernel_rfl);exact back [] (Pz ⟨i+1,A,C,0,cap,olds,s,AC⟩) 1000 (by obtain rfl|rfl:=a<;>kernel_rfl) (by obtain rfl|rfl:=a<;>kernel_rfl) (by obtain rfl|rfl:=a<;>kernel_rfl) λT'=>again ⟨i+1,A,C,0,cap,olds,s,AC⟩ (.inl ⟨rfl,by show i+1<=5;omega,by obtain rfl|rfl:=a<;>exact d.next p l⟩) (by show 39-(i+1)<39-i;omega) T';refine gg [(20,hT (((i:Nat):Int)<39) oG),(22,Rv J i oG),(23,Ru J i _ (LP i (show LQ[i]? =some (Ln.int (Ny i)) by obtain rfl|rfl|rfl:=a<;>decide+kernel))),(28,.op J _ _ (Sa ((Ln.int (Ny i)).Dz.headD 0) (Ln.int (Ny i)).Dz.tail))] ?_ (by obtain rfl|rfl|rfl:=a<;>kernel_rfl);refine call (Mt J (Ln.int (Ny i)).Dz (DY 32 (Ln.int (Ny i)).Dz).1 (DY 32 (Ln.int (Ny i)).Dz).2.1 (DY 32 (Ln.int (Ny i)).Dz).2.2 (by obtain rfl|rfl|rfl:=a<;>decide+kernel) rfl) (by obtain rfl|rfl|rfl:=a<;>kernel_rfl) ?_;refine gg [(40,Wp J (str (DY 32 (Ln.int (Ny i)).Dz).1) 0 261 (by obtain rfl|rfl|rfl:=a<;>kernel_rfl))] ?_ (by obtain rfl|rfl|rfl:=a<;>kernel_rfl)
 refine Ag (AWB J (Pow.A8 hle W) cs (DN.consts.take i) d.row (by obtain rfl|rfl|rfl:=a<;>decide) (Ny i) (by obtain rfl|rfl|rfl:=a<;>decide) (by obtain rfl|rfl|rfl:=a<;>decide) (by obtain rfl|rfl|rfl:=a<;>decide+kernel) (by obtain rfl|rfl|rfl:=a<;>decide+kernel)) [(1,124)] [1] (by obtain rfl|rfl|rfl:=a<;>kernel_rfl) YT ?_;rintro _ ⟨C,A,rfl,p,l⟩;refine gg [(57,hW (((i:Nat):Int)+1) ((i+1:Nat):Int) oG oG)] ?_ (by obtain rfl|rfl|rfl:=a<;>kernel_rfl);exact back [] (Pz ⟨i+1,A,C,0,cap,olds,s,AC⟩) 1000 (by obtain rfl|rfl|rfl:=a<;>kernel_rfl) (by obtain rfl|rfl|rfl:=a<;>kernel_rfl) (by obtain rfl|rfl|rfl:=a<;>kernel_rfl) λT'=>again ⟨i+1,A,C,0,cap,olds,s,AC⟩ (.inl ⟨rfl,by show i+1<=5;omega,by obtain rfl|rfl|rfl:=a<;>exact d.next p l⟩) (by show 39-(i+1)<39-i;omega) T';have D:cs.n=5:=by
  have:=d.row.n;have e:((DN.consts.take 5).flatMap Au).length=25:=by decide+kernel
  omega
 obtain⟨b,o,h1,Y,K,N,O⟩:=d.never (xs:=DN.consts) (R:=Ey) D dC (Rows.flat.2 rfl);refine LU b J o kR h1 Y ?_;generalize J.never b o=q at K N O⊢;refine gg [(20,hT (((5:Nat):Int)<39) oG),(22,Rv q 5 oG),(23,Ru q 5 _ (LP 5 (show LQ[5]? =some (Ln.fn 1 1) by decide+kernel))),(28,.op q _ _ (Sa ((Ln.fn 1 1).Dz.headD 0) (Ln.fn 1 1).Dz.tail))]<|call (Mt q (Ln.fn 1 1).Dz (DY 32 (Ln.fn 1 1).Dz).1 (DY 32 (Ln.fn 1 1).Dz).2.1 (DY 32 (Ln.fn 1 1).Dz).2.2 (by decide+kernel) rfl) kR<|gg [(40,Wp q (str (DY 32 (Ln.fn 1 1).Dz).1) 2 263 kR)]<|Ag (AV8 q (W.up K) cs (DY 32 (Ln.fn 1 1).Dz).2.1 1 1 AG1) [(1,124)] [1] kR AY1 ?_;rintro _ ⟨u,n,r1,r2,r3,rfl⟩;exact gg [(57,hW (((5:Nat):Int)+1) ((5+1:Nat):Int) oG oG)]<|back [(7,1288)] (Pz ⟨5+1,q,cs,0+1,u,[],⟨none,0,0⟩,n⟩) 1000 kR kR kR λT'=>again ⟨5+1,q,cs,0+1,u,[],⟨none,0,0⟩,n⟩ (.inr (.inl ⟨rfl,by show 6<=5+1;omega,by show 5+1<=26;omega,rfl,⟨⟨r1,r2⟩,r3,⟨D,O⟩,⟨.of K,Qs⟩⟩⟩)) (by show 39-(5+1)<39-5;omega) T';obtain rfl:m=0+1:=hm;simp only at hi a t;have hle:I.Cd J:=Z.row.st.le;obtain⟨f,g,k,d⟩:=Z;simp only at f g k d;have z:olds.length=0*3:=by rw[t];rfl
 by_cases ac:i<26;obtain⟨j,rfl⟩: ∃j,i=6+j:=⟨i-6,oG⟩;have hj:j<20:=oG;obtain⟨o,M⟩: ∃o,Mr[j]? =some o:=⟨_,List.getElem?_eq_getElem (show j<Mr.length from hj)⟩;have G:=ATO ⟨j,hj⟩;simp only[M,Option.map_some]at G;have U:=AJV o (List.mem_append_left _ (List.mem_of_getElem? M));have c:=ARn o (List.mem_of_getElem? M);rw[show 6+j-6=j by omega]at d;have S:=ALK M;simp only[AIt,List.mem_cons,List.not_mem_nil,_root_.or_false]at c;refine gg [(20,hT (((6+j:Nat):Int)<39) oG),(22,Rv J (6+j) oG),(23,Ru J (6+j) _ (LP (6+j) G)),(28,.op J _ _ (Sa ((EJ o).headD 0) (EJ o).tail))] ?_ (by obtain rfl|rfl|rfl|rfl|rfl|rfl|rfl|rfl|rfl|rfl|rfl|rfl|rfl|rfl|rfl:=c<;>kernel_rfl);refine call (Mt J (EJ o) (DY 32 (EJ o)).1 (DY 32 (EJ o)).2.1 (DY 32 (EJ o)).2.2 (by obtain rfl|rfl|rfl|rfl|rfl|rfl|rfl|rfl|rfl|rfl|rfl|rfl|rfl|rfl|rfl:=c<;>decide+kernel) rfl) (by obtain rfl|rfl|rfl|rfl|rfl|rfl|rfl|rfl|rfl|rfl|rfl|rfl|rfl|rfl|rfl:=c<;>kernel_rfl) ?_;refine gg [(40,AHI J (str (DY 32 (EJ o)).1) (by obtain rfl|rfl|rfl|rfl|rfl|rfl|rfl|rfl|rfl|rfl|rfl|rfl|rfl|rfl|rfl:=c<;>kernel_rfl))] ?_ (by obtain rfl|rfl|rfl|rfl|rfl|rfl|rfl|rfl|rfl|rfl|rfl|rfl|rfl|rfl|rfl:=c<;>kernel_rfl);refine Ag (AJ0 J (DK.A8 hle P) (Pow.A8 hle W) cs 0 cap olds AC 1 1 s (Mr.take j) d.row (by rw[List.length_take];omega) f z o U) [(1,124),(2,7)] [1,2] (by obtain rfl|rfl|rfl|rfl|rfl|rfl|rfl|rfl|rfl|rfl|rfl|rfl|rfl|rfl|rfl:=c<;>kernel_rfl) ALx ?_;rintro _ ⟨s',A,rfl,p,l⟩
 refine gg [(57,hW (((6+j:Nat):Int)+1) ((6+j+1:Nat):Int) oG oG)] ?_ (by obtain rfl|rfl|rfl|rfl|rfl|rfl|rfl|rfl|rfl|rfl|rfl|rfl|rfl|rfl|rfl:=c<;>kernel_rfl);exact back [] (Pz ⟨6+j+1,A,cs,0+1,cap,olds,s',AC⟩) 1000 (by obtain rfl|rfl|rfl|rfl|rfl|rfl|rfl|rfl|rfl|rfl|rfl|rfl|rfl|rfl|rfl:=c<;>kernel_rfl) (by obtain rfl|rfl|rfl|rfl|rfl|rfl|rfl|rfl|rfl|rfl|rfl|rfl|rfl|rfl|rfl:=c<;>kernel_rfl) (by obtain rfl|rfl|rfl|rfl|rfl|rfl|rfl|rfl|rfl|rfl|rfl|rfl|rfl|rfl|rfl:=c<;>kernel_rfl) λT'=>again ⟨6+j+1,A,cs,0+1,cap,olds,s',AC⟩ (.inr (.inl ⟨rfl,by show 6<=6+j+1;omega,by show 6+j+1<=26;omega,t,⟨f,g,⟨k.1,Aj.A8 p.le k.2 λ_ _ h=>h⟩,by show Live I A 2 211 ((Mr.take (6+j+1-6)).flatMap B8) s';rw[show 6+j+1-6=j+1 by omega,S];exact d.next p l⟩⟩)) (by show 39-(6+j+1)<39-(6+j);omega) T';obtain rfl:i=26:=oG;subst t;have B:s.n=20:=by
  have:=d.row.n;have e:((Mr.take (26-6)).flatMap B8).length=40:=by decide+kernel
  omega
 obtain⟨b,o,h1,Y,K,N,O⟩:=d.never (xs:=Mr) (R:=PI) B dC (Rows.flat.2 rfl);refine LU b J o kR h1 Y ?_;have y:=Aj.A8 N k.2 (S:=Ey) λ_ _ h=>h;generalize J.never b o=q at K N O y⊢;refine gg [(20,hT (((26:Nat):Int)<39) oG),(22,Rv q 26 oG),(23,Ru q 26 _ (LP 26 (show LQ[26]? =some (Ln.fn 1 1) by decide+kernel))),(28,.op q _ _ (Sa ((Ln.fn 1 1).Dz.headD 0) (Ln.fn 1 1).Dz.tail))]<|call (Mt q (Ln.fn 1 1).Dz (DY 32 (Ln.fn 1 1).Dz).1 (DY 32 (Ln.fn 1 1).Dz).2.1 (DY 32 (Ln.fn 1 1).Dz).2.2 (by decide+kernel) rfl) kR<|gg [(40,Wp q (str (DY 32 (Ln.fn 1 1).Dz).1) 2 263 kR)]<|Ag (AV9 q (W.up K) cs (DY 32 (Ln.fn 1 1).Dz).2.1 1 1 AG1 1 cap (Er 1 1 s) AC ⟨oG,f⟩ rfl (Wl _ _ _) g) [(1,124),(2,7)] [1,2] kR AY2 ?_;rintro _ ⟨u,n,r1,r2,r3,rfl⟩;refine gg [(57,hW (((26:Nat):Int)+1) ((26+1:Nat):Int) oG oG)] ?_;exact back [(7,1288)] (Pz ⟨26+1,q,cs,1+1,u,Er 1 1 s,⟨none,0,0⟩,n⟩) 1000 kR kR kR λT'=>again ⟨26+1,q,cs,1+1,u,Er 1 1 s,⟨none,0,0⟩,n⟩ (.inr (.inr ⟨rfl,by show 27<=26+1;omega,by show 26+1<=39;omega,⟨Er 1 1 s,[],(List.append_nil _).symm,⟨s.a,s.c,_,by unfold Er;rw[B];rfl,O⟩,rfl⟩,⟨⟨r1,r2⟩,r3,⟨k.1,y⟩,⟨.of K,Qs⟩⟩⟩)) (by show 39-(26+1)<39-26;omega) T'
 .obtain rfl:m=1+1:=hm;simp only at hi a t;have hle:I.Cd J:=Z.row.st.le;obtain⟨f,g,k,d⟩:=Z;simp only at f g k d;have z:olds.length=1*3:=(by have:=t.len (T7 J);simpa using this);by_cases ac:i<39;obtain⟨j,rfl⟩: ∃j,i=27+j:=⟨i-27,oG⟩;have hj:j<12:=oG;obtain⟨o,M⟩: ∃o,Ms[j]? =some o:=⟨_,List.getElem?_eq_getElem (show j<Ms.length from hj)⟩;have G:=ATP ⟨j,hj⟩;simp only[M,Option.map_some]at G;have U:=AJV o (List.mem_append_right _ (List.mem_of_getElem? M));have c:=ARo o (List.mem_of_getElem? M);rw[show 27+j-27=j by omega]at d;have S:=ALK M;simp only[mem1,List.mem_cons,List.not_mem_nil,_root_.or_false]at c;refine gg [(20,hT (((27+j:Nat):Int)<39) oG),(22,Rv J (27+j) oG),(23,Ru J (27+j) _ (LP (27+j) G)),(28,.op J _ _ (Sa ((EJ o).headD 0) (EJ o).tail))] ?_ (by obtain rfl|rfl|rfl|rfl|rfl|rfl|rfl|rfl|rfl:=c<;>kernel_rfl);refine call (Mt J (EJ o) (DY 32 (EJ o)).1 (DY 32 (EJ o)).2.1 (DY 32 (EJ o)).2.2 (by obtain rfl|rfl|rfl|rfl|rfl|rfl|rfl|rfl|rfl:=c<;>decide+kernel) rfl) (by obtain rfl|rfl|rfl|rfl|rfl|rfl|rfl|rfl|rfl:=c<;>kernel_rfl) ?_;refine gg [(40,AHI J (str (DY 32 (EJ o)).1) (by obtain rfl|rfl|rfl|rfl|rfl|rfl|rfl|rfl|rfl:=c<;>kernel_rfl))] ?_ (by obtain rfl|rfl|rfl|rfl|rfl|rfl|rfl|rfl|rfl:=c<;>kernel_rfl);refine Ag (AJ0 J (DK.A8 hle P) (Pow.A8 hle W) cs 1 cap olds AC 1 1 s (Ms.take j) d.row (by rw[List.length_take];omega) f z o U) [(1,124),(2,7)] [1,2] (by obtain rfl|rfl|rfl|rfl|rfl|rfl|rfl|rfl|rfl:=c<;>kernel_rfl) ALx ?_;rintro _ ⟨s',A,rfl,p,l⟩
  refine gg [(57,hW (((27+j:Nat):Int)+1) ((27+j+1:Nat):Int) oG oG)] ?_ (by obtain rfl|rfl|rfl|rfl|rfl|rfl|rfl|rfl|rfl:=c<;>kernel_rfl);exact back [] (Pz ⟨27+j+1,A,cs,1+1,cap,olds,s',AC⟩) 1000 (by obtain rfl|rfl|rfl|rfl|rfl|rfl|rfl|rfl|rfl:=c<;>kernel_rfl) (by obtain rfl|rfl|rfl|rfl|rfl|rfl|rfl|rfl|rfl:=c<;>kernel_rfl) (by obtain rfl|rfl|rfl|rfl|rfl|rfl|rfl|rfl|rfl:=c<;>kernel_rfl) λT'=>again ⟨27+j+1,A,cs,1+1,cap,olds,s',AC⟩ (.inr (.inr ⟨rfl,by show 27<=27+j+1;omega,by show 27+j+1<=39;omega,t.mono (QU p.le),⟨f,g,⟨k.1,Aj.A8 p.le k.2 λ_ _ h=>h⟩,by show Live I A 2 211 ((Ms.take (27+j+1-27)).flatMap B8) s';rw[show 27+j+1-27=j+1 by omega,S];exact d.next p l⟩⟩)) (by show 39-(27+j+1)<39-(27+j);omega) T'
  .obtain rfl:i=39:=oG;have B:s.n=12:=by
    have:=d.row.n;have e:((Ms.take (39-27)).flatMap B8).length=24:=by decide+kernel
    omega
   obtain⟨b,o,h1,Y,K,N,O⟩:=d.never (xs:=Ms) (R:=PI) B dC (Rows.flat.2 rfl);refine LU b J o kR h1 Y ?_;have y:=Aj.A8 N k.2 (S:=Ey) λ_ _ h=>h;have H:=t.mono (QU N);have D:=k.1;obtain⟨ca,cn,cc⟩:=cs;obtain⟨sa,sn,sc⟩:=s;simp only at D B;subst D;subst B;generalize J.never b o=q at K N O y H⊢;refine BW 7 q (vs:=olds++Er 1 1 ⟨sa,12,sc⟩++AC) (e:=195) kR λpb X L ae ad=> ?_;have F:=K.trans L;have V:Rows (Iu X) DN.Ad (olds++Er 1 1 ⟨sa,12,sc⟩):=by have e:DN.Ad=[DN.Ad.getD 0 default]++[DN.Ad.getD 1 default]:=rfl;rw[e];exact Rows.append (H.mono (AG9 L)) (Rows.one ⟨sa,sc,_,rfl,O.up L λ_ _ h=>h⟩)
   have E:D3 X DN ⟨ca,cc,DN.consts.flatMap Au,some ⟨pb,0,none⟩,cap,olds++Er 1 1 ⟨sa,12,sc⟩⟩:=by refine⟨y.up L λ_ _ h=>h,⟨.NC ad (by rw[List.length_append,z];rfl) ?_,f.1,f.2,V⟩⟩;intro v hv;rcases List.mem_append.1 hv with hv|hv;exact AKb H v hv;exact Wl _ _ _ v hv
   generalize aa:(⟨ca,cc,DN.consts.flatMap Au,some ⟨pb,0,none⟩,cap,olds++Er 1 1 ⟨sa,12,sc⟩⟩:CY)=ip at E;refine gg [(20,hF (((39:Nat):Int)<39) oG)]<|call (AHX X (P.up F) (W.up F) DN ip E Xr) (by rw[<-aa];kernel_rfl) ?_;exact gG<|done Tryz.func133 ab [] (h:={r:=.t [.g (De DN ip),.v (.int .i64 0),.v (.int .i64 0)],J:=X}) (by rw[<-aa];kernel_rfl) ⟨ip,X,rfl,F,E⟩
def AVq(I)(b:DK I)(g:Pow I)(f:HF I):Fn 84 [.v (.string (str Hh))] [] I (AEM I DN) none:=by refine fo func84 (EK λx=>rfl) λl j w e=>gG<|Ag (ANi I b g f) [] [] kR (λ_ h c k d=>by obtain⟨_,_,rfl,_⟩:=c;cases d) λh c=> ?_;obtain⟨i,J,rfl,hle,a⟩:=c;exact gG<|dn [] ⟨i,J,rfl,hle,a⟩
def AFZ(I)(e:DK I)(q:Pow I)(p:HF I)(v:Int):Fn 29 [.v (.int .i64 v)] [] I (AEK I (Dv v)) none:=by
 refine fo func29 (EK λx=>rfl) λz y w k=>gG<|CK (AVq I e q p) kR λu J hle b=>gG<|call (Wq J) kR<|gG<|call (Wq J) kR<|go func29 [] 5 kR<|BW 140 J (vs:=(Dv v).boxes.flatMap G3) (e:=99) kR λm o c l g=>BW 188 o (vs:=(Dv v).A3.flatMap FZ) (e:=103) kR λn d a f h=> ?_;have r:Aj d X8 3 (Dv v).boxes (some ⟨m,0,none⟩) 1 ((Dv v).boxes.flatMap G3):=by refine⟨.NC (AC:=[]) (e:=99) (by rw[G9];exact a.at_ _ _ g) rfl ?_,AZ _,by unfold maxLen;decide,Rows.flat.2 rfl⟩;intro x j;let⟨s,_,i⟩:=KG.1 j;exact ACo s x i
 have t:Aj d V1 9 (Dv v).A3 (some ⟨n,0,none⟩) 2 ((Dv v).A3.flatMap FZ):=by refine⟨.NC (AC:=[]) (e:=103) (by rw[G9];exact h) rfl ?_,AZ _,by unfold maxLen;decide,Rows.flat.2 rfl⟩;intro x j;let⟨s,_,i⟩:=KG.1 j;exact Tn s x i
 exact gG<|dn [] ⟨⟨u,some ⟨m,0,none⟩,1,(Dv v).boxes.flatMap G3,some ⟨n,0,none⟩,2,(Dv v).A3.flatMap FZ⟩,d,rfl,(hle.trans c).trans a,⟨(b.up c).up a,r,t⟩⟩
def Qt{n}(h:n<=200):3+n*(25+4*n)<=200000:=by have:n*(25+4*n)<=200*(25+4*200):=TA h oG;omega
def AHY{im}(h:Nb im)(h1:Ij im)(b:Jc im):TJ im where
 ok:=⟨λf a=>(h.fk f a).o,λf a=>by have:=(h.fk f a).a;omega,λf a=>by have:=(h.fk f a).c.2;omega⟩
 im:=h1
 ib:=b
 QQ:=by have:=h.fs.2;omega
def AH2{n k}(h:Hp n k)(a:n<=200):KO (24+4*n) (3+n*(25+4*n)) k:=⟨h.kk,h.bk,oG,by have:=Qt a;omega,by have:=h.now;omega⟩
def AVe{n k}(h:Hp n k)(c:n<=200)(b:Nb k.im)(I L m)(d:Bl I L k m)(a)(hid:BY a):
 Fn 25 [.p 1 0,.v (.string (AR a))] (BN m k.im k.now) I (Nf I (Bb L m) (MR k a)) none:=
 AVd I L k m d (AH2 h c) (AHY b h.im h.ib) oG (by have:=Qt c;omega) h.bf oG (by have:=h.now;omega) a hid
def AHP{n k}(h:Hp n k)(a:n<=200)(hs:∀t∈k.AD,t.scopes=[]):RN k where
 FB:=h.kk.ki.FB
 len:=by have:=h.bk.tl;omega
 AD t ht:=by have hi:=h.kk.ki.Gj t ht;exact⟨hi.Fx _ (by unfold own;simp),hs t ht,H8 hi.CC.1.1⟩
 fl:=by have:=h.bf.fl;omega
 ff f hf:=H8 (h.bf.fv f hf).2.1
 ob n o ho:=(h.kk.ki.D8 n o ho).CC
 sl:=by have:=h.bk.sl;have:=Qt a;omega
def Xb{n}(h:SF n):Bg n:=by unfold SF at h;rw[Df]at h;exact λx a=>JY (h x a)
def run_parts{a b}(h:ACl a b=true)(ha:Hp 120 a)(hb:Hp 120 b):(Fe a EC).length=9/\(∃t,Aw a.AD [1]=some t/\t.status=3/\t.v.n=1)/\Fe a EC=Fe b EC/\(∃o,Ai b.Ar [1,0]=some o/\o.ex=true/\o.v=whole (-7))/\RN a/\RN b/\Zl a b:=by simp only[ACl,ALO,Bt,D1,Df,Option.any_eq_true]at h;let⟨⟨⟨⟨⟨⟨⟨h1,d⟩,h3⟩,h4⟩,h5⟩,h6⟩,h7⟩,h8⟩:=h;refine⟨h1,d,h3,h4,AHP ha dC λt ht=>(h6 t ht).1.2.2.2.1,AHP hb dC λt ht=>(h6 t (h5▸ht)).1.2.2.2.1,⟨?_,h5,ha.kk.ki.FB,by have:=ha.bk.tl;omega,λt ht=> ?_,⟨h7.1,h7.2,λx g=> ?_⟩⟩⟩;have:=ha.now;have:=hb.now;omega;let⟨⟨⟨q1,q2⟩,q3,q4,q5,q6⟩,q7⟩:=h6 t ht;exact⟨q1,by have:=(ha.bk.ts t ht).c.fr;omega,λf c=>⟨(q2 f c).1,λv e=>Xb ((q2 f c).2 v e)⟩,q3,q4,q5,q6,Xb q7⟩;let⟨o,q1,⟨q2,q3⟩,q4⟩:=h8 x g;exact⟨o,q1,q2.1,q2.2.1,q2.2.2,Xb q3,Xb q4⟩
def AKd(v:Int)(a:CZ v:=by decide):Hp 120 (SU v):=by have:=ABb FO (AFb v a);rw[show 0+FO.length=120 by decide]at this;exact this
def AGh{k:Ab}(a:k.facts.all We=true): ∀f∈k.facts,Vd f:=λf hm=>by have h:=List.all_eq_true.1 a f hm;simp only[We,Bool.and_eq_true,decide_eq_true_eq]at h;exact⟨h.1,h.2⟩
def AYX{n k}(h:Hp n k)(i:n<=200)(I L m)(d:Bl I L k m)(t)(c:Aw k.AD t.id=some t):Fn 12 [.p 1 0,.v (.string (AR t.id))] (BN m k.im k.now) I (Vj I m k.im k.now t true) none:=by have b:=Ed c;have a:=h.bk.ts t b;have g:=h.kk.ki.Gj t b;exact ALV I L k m d t (g.Fx _ (by unfold own;simp)) c (by have:=a.sc;omega) ⟨by have:=a.c.fr;omega,by have:=a.c.st;omega,by have:=a.c.tr;omega⟩ λf e=>by have:=(a.c.vf f e).1;omega
section
structure Jb(I J:AB)(L:AA Rw)(k:Ab)(m:BJ)(L':AA Rw)(k':Ab)(m':BJ):Prop where
 st:Bq I [] J (Bb L m++Bb L' m')
 ka:Bl J L k m
 kb:Bl J L' k' m'
 dj:∀x∈Bb L m,x∉Bb L' m'
variable {I J K:AB} {L c L':List Rw} {k k2 k':Ab} {m d m':BJ}
def Jb.swap(h:Jb I J L k m L' k' m'):Jb I J L' k' m' L k m:=
 ⟨⟨h.st.le,h.st.keep,λx a=>h.st.rows x (BA.2 (BA.1 a).symm)⟩,h.kb,h.ka,λx a b=>h.dj x b a⟩
def Jb.up(h:Jb I J L k m L' k' m')(hle:J.le K):Jb I K L k m L' k' m':=⟨h.st.trans (.of hle),h.ka.up hle,h.kb.up hle,h.dj⟩
def Jb.le(h:Jb I J L k m L' k' m'):I.le J:=h.st.none_le
def Jb.a(h:Jb I J L k m L' k' m')(a:Bq J (Bb L m) K (Bb c d))(hk:Bl K c k2 d):Jb I K c k2 d L' k' m' where
 st:=by
  have g:∀x y,I.has x y->x∉Bb L m:=λx y e hm=>by rcases h.st.rows x (E2 _ hm)with q|q;cases q;exact q y e
  refine⟨h.st.le.trans a.le,λx y e _=>a.keep x y (h.st.keep x y e sP) (g x y e),λx e=> ?_⟩;rcases BA.1 e with e|e;rcases a.rows x e with q|q;exact h.st.rows x (E2 _ q);exact .inr λy f=>q y (h.st.keep x y f sP);exact h.st.rows x (GJ _ e)
 ka:=hk
 kb:=h.kb.keep a.le λb hb y f=>a.keep b y f λhm=>h.dj b hm hb
 dj x e f:=by rcases a.rows x e with q|q;exact h.dj x q f;let⟨y,f⟩:=h.kb.hasAll x f;exact q y f
def Jb.new(e:Bq I [] J (Bb L m))(hk:Bl J L k m)(a:Bq J [] K (Bb L' m'))(b:Bl K L' k' m'):Jb I K L k m L' k' m' where
 st:=e.app a
 ka:=hk.up a.none_le
 kb:=b
 dj x hx f:=by rcases a.rows x f with q|q;cases q;let⟨y,f⟩:=hk.hasAll x hx;exact q y f
def AFa(v:Int):TH (Dv v) where
 nb:=by show 1<=8;decide
 nt:=by show 0<2/\2<=8;decide
 bx b hb:=by rw[AP.1 hb];show Ap ([1],[])=([1],[]);decide+kernel
 th b hb:=by
  have hb:b=⟨0,EC,high,0,5,0,0⟩\/b=⟨0,([1],[]),high,0,5,0,0⟩:=by simpa[Dv]using hb
  rcases hb with rfl|rfl;exact⟨by show 0<2;decide,λf a=>by cases a;rfl,by decide+kernel,by decide+kernel,dC,dC,by show(0:Int)<1;decide,by decide+kernel⟩;exact⟨by show 0<2;decide,λf a=>by cases a;rfl,by decide+kernel,by decide+kernel,dC,dC,by show(0:Int)<1;decide,by decide+kernel⟩
 fs:=by show 2<=1000;decide
def AJf:∀f∈DN.Ad,∃S,Lr DN f S:=λf a=>by
 have a:f=DN.Ad.getD 0 Af\/f=DN.Ad.getD 1 Af:=by simpa[DN]using a
 rcases a with rfl|rfl;exact⟨_,AJe 0 dC⟩;exact⟨_,AJe 1 dC⟩
def AJa{I A B:AB}{b:Nat}{o:Obj}(hle:I.le A)(h0:A.Cd B)(f:A.own b=none)(h1:B.has b o):I.own b=none:=by
 cases e:I.own b with
 |none=>rfl
 |some y=>
  exfalso;have g:I b=none:=by
   cases a:I b with
   |none=>rfl
   |some z=>
    have:=h0 b z (hle.at_ b z a);rw[h1.at_]at this;cases this
  have:=(hle.own b y ⟨e,g⟩).own;rw[f]at this;cases this
def AJi(v:Int)(g:CZ v:=by decide):∀i b,FO[i]? =some b->∀J L' m',Bl J L' (Eu (ED (Dv v)) (FO.take i)) m'->Fn 25 [.p 1 0,.v (.string (AR b))] (BN m' (Eu (ED (Dv v)) (FO.take i)).im (Eu (ED (Dv v)) (FO.take i)).now) J (Nf J (Bb L' m') (MR (Eu (ED (Dv v)) (FO.take i)) b)) none:=λi b hid J L' m' f=>by
 have e:i<120:=(B6.1 hid).1;have hinv:=ABb (FO.take i) (AFb v g);rw[CX,show min i FO.length=i from JX (S9 e),D5]at hinv;have a:b=[1]:=by unfold FO at hid;rw[AMl,AW e]at hid;exact(GK hid).symm
 subst a;exact AVe hinv oG (by rw[AVh];exact Xr) J L' m' f [1] rfl
def ALw{I P k'}:∀(a:Nat)(h:AU),Zb I P k' a h->∀e∈h.upd,e.1∈[1,2,3,4,5]:=by rintro a h ⟨_,_,_,_,rfl,_⟩ e b;exact(Dr (key:=a) (nb:=[]) e b).1
def AYx:prog.underlying 27=some (.pointer (prog.pointee 27)):=kR
def ATl(I){a k b}:∀e h (o:BP),o.op=.binOp .eql 27 (.tmp a) (.const (.pointer none)) 27->(∀p∈[(a,SV.p k b)],h p.1=p.2)->LS prog o h e [] I (.v (.bool false)) none:=by intro e h o f g;have s:=Cy g (s:=a) (x:=.p k b) sP;intro n t w l _ _ _ _;refine⟨w,?_,BB.refl w⟩;have i:=l (.tmp a) xO;have j:=l (.const (.pointer none)) xO;simp[ev,s,den]at i j;have q:(eqGuard .eql 27 (.tmp a) (.const (.pointer none)) (.pointer (some ⟨n k,b,none⟩)) (.pointer none)).run prog w=.ok () w:=rfl;have r:=run_eql_pointer_nil (P:=prog) (w:=w) 27 (some ⟨n k,b,none⟩) AYx;simp[execOp,f,Sem.run_bind,i,j,q,Result.andThen_ok,r];rfl
def ABN(I:AB)(a k:Nat):Hint:=.hand (.binOp .eql 27 (.tmp a) (.const (.pointer none)) 27) [(a,.p k 0)] [] I (.v (.bool false)) (ATl I)
end
structure AQ where
 i:Nat
 J:AB
 s:Aq
def AEl(a b:BJ)(x:AQ):Hd where
 By:=[(1,.p 1 0),(2,.p 6 0),(3,x.s.sv),(4,.v (.int .i64 (x.i:Int)))]
 Bu:=BN a (ED (Dv 0)).im (ED (Dv 0)).now++Nv b (ED (Dv 100)).im (ED (Dv 100)).now
 J:=x.J
def AEE(I:AB):Nat->AU->Prop:=λ_ h=>∃J,I.le J/\h= {r:=.v (.bool true),J:=J}
def AZN{I}:CO (AEE I) [] I:=by refine⟨?_⟩;rintro e h ⟨J,hle,rfl⟩;exact⟨⟨nA,nA,nA,sP,sP⟩,hle⟩
def AKc:∀l:AA F0,Rows OD (l.map JG) (Is l)
 |[]=>rfl
 |f::l=>⟨[.string (JG f)],Is l,rfl,rfl,AKc l⟩
def Told.never{c:Type}{I0 I J:AB}{R:c->List Value->Prop}{z:Nat}{e:TypeId}{xs:List c}{Aa:List Value}{s:Aq}(h:Told I J z e Aa s)(hle:I0.le I)(hlen:s.n=xs.length)(a:0<xs.length)(i:Rows R xs Aa):
 ∃b o,J.has b o/\I0.own b=none/\I.le (J.never b o)/\Aj (J.never b o) R z xs s.a s.c Aa:=by
 obtain⟨b,o,h1,d,f,j,g⟩:=(Live.mk h.st h.row).never hlen a i;exact⟨b,o,h1,AJa hle h.st.le d h1,f,g⟩
def AQd(l:List Nm):l.flatMap MO=l.map A5:=T0 l
def ANT(I)(A:DK I)(hP:Pow I)(hL:HF I):Fn 7 [] [] I (AEE I) none:=by
 refine fo Tryz.func7 AZN λρ key w bc=> ?_;refine gG<|CK (AFZ I A hP hL 0) kR λqa J0 c a1=> ?_;refine gG<|Ag (Z9 J0 (A.up c) (hP.up c) (Dv 0) qa a1 (AFa 0) Xr AJf) [] [] kR (λ_ h f kb a=>by obtain⟨_,_,_,rfl,_⟩:=f;cases a) ?_;rintro _ ⟨ma,La,J1,rfl,X,al⟩;have j:=c.trans X.none_le;refine gG<|CK (AFZ J1 (A.up j) (hP.up j) (hL.up j) 100) kR λqb J2 q a2=> ?_;have g:=j.trans q;refine gG<|Ag (Z9 J2 (A.up g) (hP.up g) (Dv 100) qb a2 (AFa 100) Xr AJf) [] [] kR (λ_ h f kb a=>by obtain⟨_,_,_,rfl,_⟩:=f;cases a) ?_;rintro _ ⟨mb,Lb,z,rfl,Y,a⟩;have hd:Jb J0 z La (ED (Dv 0)) ma Lb (ED (Dv 100)) mb:=.new (X.trans (.of q)) (al.up q) Y a;refine gg [(15,ABN z 14 116),(18,ABN z 17 140)]<|loop (ι:=AQ) (λx=>x.i<=120/\Told z x.J 1 9 ((FO.take x.i).map A5) x.s/\x.s.n=x.i) (λx=>120-x.i) (AEl ma mb) 1000 [(1,116),(2,117),(3,118),(4,119),(5,120),(6,140),(7,141),(8,142),(9,143),(10,144)] ⟨0,z,⟨none,0,0⟩⟩ ⟨Nat.zero_le _,Told.nil z 1 9,rfl⟩ kR kR ?_;rintro⟨i,J,sa,d,sc⟩ ⟨hi,ht,ao⟩ again T;simp only at hi ht ao;subst ao;by_cases a8:d<120;refine gg [(21,hT ((d:Int)<120) oG)]<|act (need:=[(1024,.cells ([A5 [1]].map .v) 9)]) [] kR (Im (I:=J) A6 (s:=⟨sa,d,sc⟩) (x:=.s 1024 0 1 1) (m:=1) (olds:=(FO.take d).map A5) (news:=[A5 [1]]) Tb kR ht.row (D2 (e:=9) sP rfl (by simp[A5,Value.oneCell'])) dC (by show d+1<=16777216;omega)) (λh' f kb a=>by obtain⟨_,_,_,rfl,_⟩:=f;cases a) Il ?_
 rintro h' ⟨b',c',AC,rfl,a5,a6,a7,az,a0⟩;have ap:=ht.app (AC:=AC) (news:=[A5 [1]]) rfl (by simp[A5,Value.oneCell']) a5 a6 a7 az a0;have aa:(FO.take (d+1)).map A5=(FO.take d).map A5++[A5 [1]]:=by
  have:FO[d]? =some [1]:=by unfold FO;rw[List.getElem?_replicate,if_pos a8]
  rw[List.take_add_one,this,List.map_append];rfl
 generalize J.plus b' _=K at ap⊢;refine gg [(23,hW ((d:Int)+1) ((d+1:Nat):Int) oG oG)] ?_;exact back [] (AEl ma mb ⟨d+1,K,⟨some ⟨b',0,none⟩,d+1,c'⟩⟩) 1000 kR kR kR λT'=>again ⟨d+1,K,⟨some ⟨b',0,none⟩,d+1,c'⟩⟩ ⟨by show d+1<=120;omega,by show Told z K 1 9 ((FO.take (d+1)).map A5) _;rw[aa];exact ap,rfl⟩ (by show 120-(d+1)<120-d;omega) T';obtain rfl:d=120:=oG;have an:Live z J 1 9 (FO.flatMap MO) ⟨sa,120,sc⟩:=by refine⟨ht.st,?_⟩;rw[AQd];exact ht.row
 obtain⟨b,o,h1,h2,h3,h4,h5⟩:=an.never (xs:=FO) (R:=LV) (show 120=120 from rfl) dC (Rows.flat.2 rfl);have am:I.le z:=g.trans Y.none_le;have ac:I.own b=none:=AJa am ht.st.le h2 h1;refine LU b J o kR h1 ac ?_;have B:=hd.up h3;generalize J.never b o=K at h3 h5 B⊢;refine gg [(21,hF (((120:Nat):Int)<120) oG)]<|Ag (AJg K La (ED (Dv 0)) ma B.ka FO sa sc (FO.flatMap MO) h5 dC (AJi 0)) [] [1,2,3,4,5] kR ALw ?_;rintro _ ⟨za,ab,N,K2,rfl,u,F⟩;have P:=B.a u F;have ad:=Aj.A8 u.le h5 (S:=LV) λ_ _ h=>h;refine gG<|Ag (AJg K2 Lb (ED (Dv 100)) mb P.kb FO sa sc (FO.flatMap MO) ad dC (AJi 100)) [(1,6),(2,7),(3,8),(4,9),(5,10)] [1,2,3,4,5] kR ALw ?_;rintro _ ⟨zb,v,O,K3,rfl,L,G⟩;have Q:=(P.swap.a L G).swap;have E:=AKd 0;have m:=AKd 100;have ag:=AGh AQL;have ah:=AGh AQM;have hp:=run_parts AWo E m;unfold SU at E m ag ah hp;generalize Eu (ED (Dv 0)) FO=y at*;generalize Eu (ED (Dv 100)) FO=p at*;obtain⟨p1,⟨t,p2,p3,p4⟩,p5,⟨o,p6,p7,p8⟩,p9,Xp,p11⟩:=hp;have s:I.le K3:=c.trans Q.le;have be:=hL.up s;refine gG ?_;refine Ag (AGg K3 N y ab Q.ka (by have:=E.bf.fl;omega) ([],[]) ⟨dC,dC⟩ ag) [] [1,2,3,4,5] kR (λkey h ⟨_,_,_,f⟩ kb a=>by subst f;exact(Dr (key:=key) (nb:=[]) kb a).1) ?_;rintro _ ⟨⟨fa,fn,fc⟩,K4,ai,rfl⟩;have Eb:fn=9:=by
  have hn:_=fn*1:=ai.row.n;have e:(Is (Fe y ([],[]))).length=9:=by unfold Is;rw[List.length_map];exact p1
  rw[e]at hn;omega
 subst Eb;refine go Tryz.func7 [] 2 kR ?_;obtain⟨b,o',h1,h2,h3,h4⟩:=ai.never (xs:=(Fe y EC).map JG) (R:=OD) s (show 9=_ by rw[List.length_map,p1]) (by rw[List.length_map,p1];decide) (AKc _);refine LU b K4 o' kR h1 h2 ?_;have R:=Q.up h3;generalize K4.never b o'=K5 at h3 h4 R⊢;have M:=GD p2;have aq:=AYX E dC K5 N ab R.ka t (by rw[M];exact p2);rw[M]at aq;refine gG ?_;refine Ag aq [] [1,2,3,4,5] kR (λkey h ⟨_,_,f,_⟩ kb a=>by subst f;exact(Dr (key:=key) (nb:=[]) kb a).1) ?_;rintro _ ⟨qt,K6,rfl,r,bh⟩;have ae:=R.up r;have av:=h4.up r (S:=OD) λ_ _ h=>h;refine gG ?_;refine Ag (AYT K6 O p v ae.kb (λn o ho=>(m.kk.ki.D8 n o ho).CC) (by have:=m.bk.sl;have:=Qt (n:=120) dC;omega)) [(1,6),(2,7),(3,8),(4,9),(5,10)] [1,2,3,4,5] kR (λkey h ⟨_,_,_,_,f⟩ kb a=>by subst f;exact(Dr (key:=key) (nb:=[]) kb a).1) ?_;rintro _ ⟨a9,m',K7,Z,rfl⟩;have af:=ae.up Z;have aw:=av.up Z (S:=OD) λ_ _ h=>h;have aj:=T9 K7 p.Ar v.sm.es a9 v.sm.n m' [1,0] (λx hx=>by simp at hx;omega) (λo ho=>by have:=(m.bk.os [1,0] o ho).q;omega) af.kb.Bm;have a4:Ow p.Ar [1,0]=(o,true):=by unfold Ow;rw[p6]
 rw[a4]at aj;refine gG<|Ag aj [(1,1168),(2,1169),(3,1170)] [1,2,3] kR (λkey h ⟨_,_,f,_⟩ kb a=>by subst f;simp only[List.mem_cons,List.not_mem_nil,_root_.or_false]at a;rcases a with rfl|rfl|rfl<;>simp) ?_
 rintro _ ⟨qo,K8,rfl,k,bg⟩;have S:=af.up k;have ax:=aw.up k (S:=OD) λ_ _ h=>h;obtain⟨kind,ol,ov,bi,ba,bd,bj,bb⟩:=o;simp only at p7 p8;subst p7;subst p8;have k:=(((h3.trans r).trans Z).trans k);have bf:=hL.up (c.trans S.le);refine gg [(54,hE (t.status:Int) 3 oG),(60,hE t.v.n 1 p4)] ?_;refine Ag (AGg K8 O p v S.kb (by have:=m.bf.fl;omega) ([],[]) ⟨dC,dC⟩ ah) [(1,6),(2,7),(3,8),(4,9),(5,10)] [1,2,3,4,5] kR (λkey h ⟨_,_,_,f⟩ kb a=>by subst f;exact(Dr (key:=key) (nb:=[]) kb a).1) ?_;rintro _ ⟨⟨ga,gn,gc⟩,K9,V,rfl⟩;have U:=S.up V.st.none_le;have ay:=(ax.up V.st.none_le (S:=OD) λ_ _ h=>h).B0;have ak:(Fe p ([],[])).length=9:=by rw[show Fe p ([],[])=Fe y ([],[])from p5.symm];exact p1
 have a3:Is (Fe p ([],[]))=((Fe p ([],[])).map JG).flatMap λx=>[.string x]:=by
  unfold Is;generalize Fe p ([],[])=l;induction l with
  |nil=>rfl
  |cons x l ih=>rw[List.map_cons,List.map_cons,List.flatMap_cons,ih];rfl
 have H:=V.row;rw[a3]at H;obtain⟨C,D⟩:=H.OB (V:=λx=>[Value.string x]) (λ_=>rfl) dC;rw[List.length_map,ak]at C D;have C:gn=9:=C;subst C;have D:=D (by unfold maxLen;decide);have ar:=AYO K9 ((Fe y ([],[])).map JG) ((Fe p ([],[])).map JG) fa ga fc gc _ _ ay D (by rw[List.length_map,show(Fe y ([],[])).length=9 from p1];decide);rw[List.length_map,List.length_map,show(Fe y ([],[])).length=9 from p1,ak,show Rp ((Fe y ([],[])).map JG) ((Fe p ([],[])).map JG)=true from decide_eq_true (by rw[show Fe y ([],[])=Fe p ([],[])from p5])]at ar;refine gG<|call ar kR ?_;refine gg [(80,UB K9 78 79 (whole (-7)) (whole (-7)) (λx hx=>by cases hx) (λx hx=>by cases hx) true (decide_eq_true rfl))]<|call (Wq K9) kR ?_;refine gG<|Ag (AOJ K9 N O y p ab v U.ka U.kb p9 Xp p11) [] [1,2,3,4,5,6,7,8,9,10] kR (λkey h ⟨_,_,f⟩ kb a=>by subst f;exact AOE kb a) ?_;rintro _ ⟨au,W,rfl⟩;exact gG<|dn [] ⟨au,c.trans (U.le.trans W),rfl⟩
def ABi(i):∃j:Fin 8,Do i=Do j.1:=by rcases Lp i 8 with h|h;exact⟨⟨i,h⟩,rfl⟩;refine⟨⟨0,dC⟩,?_⟩;unfold Do;rw[Cz,I7 (by show 8<=i;exact h)];rfl
def XC(i):Ap (Do i)=Do i:=by
 let⟨j,e⟩:=ABi i;rw[e];have:∀j:Fin 8,Ap (Do j.1)=Do j.1:=by decide+kernel
 exact this j
def AIB(a b):Ap (jn (Do a) (Do b))=jn (Do a) (Do b)/\fl (Do a) (jn (Do a) (Do b)):=by
 let⟨i,e⟩:=ABi a;let⟨j,c⟩:=ABi b;rw[e,c];have:∀i j:Fin 8,Ap (jn (Do i.1) (Do j.1))=jn (Do i.1) (Do j.1)/\fl (Do i.1) (jn (Do i.1) (Do j.1)):=by decide+kernel
 exact this i j
def AIm:∀v∈Kg,(v=whole v.n\/(v=Cx v.l/\Ap v.l=v.l)):=by decide+kernel
def XN(l):∀f∈(He l).Ad,∃i,i<3/\f=F9 l i:=λf a=>by
 have a:f=F9 l 0\/f=F9 l 1\/f=F9 l 2:=by simpa[He]using a
 rcases a with rfl|rfl|rfl;exact⟨0,dC,rfl⟩;exact⟨1,dC,rfl⟩;exact⟨2,dC,rfl⟩
def ATz(l):∀f∈(He l).Ad,∃S,Lr (He l) f S:=λf a=>by obtain⟨i,_,rfl⟩:=XN l f a;let⟨S,h,_⟩:=ABx l i (ABv l);exact⟨S,h⟩
def XO(l):Nb (He l) where
 cs:=by show 16<=64;decide
 fs:=by show 0<3/\3<=16;decide
 ck:=AIm
 fk f b:=by obtain⟨i,_,rfl⟩:=XN l f b;let⟨S,h,h1,a,d,e⟩:=ABx l i (ABv l);exact⟨oG,oG,⟨a,oG⟩,λo c=>(h.op o c).1⟩
def AT1(l):Ij (He l):=⟨(by decide+kernel:∀v∈Kg,v.kind<=2),(by decide+kernel:∀v∈Kg,Ap v.l=v.l),(by decide+kernel:∀v∈Kg,v.name=[])⟩
def AT0(l):Jc (He l) where
 cs v hv:=by
  rcases AIm v hv with h|h;refine .inl ⟨h,?_⟩;have:∀v∈Kg,CZ v.n:=by decide+kernel
  exact this v hv;exact .inr (.inl h.1)
 ar f a:=by obtain⟨i,_,rfl⟩:=XN l f a;let⟨S,h,h1,b,c,d⟩:=ABx l i (ABv l);omega
def AT6(b:Bool)(x):(if b then(0:AH)else UInt8.ofNat (x/4%4)).toNat<=63:=by cases b;have h:x/4%4<4:=IK _ dC;generalize x/4%4=q at h;have:q=0\/q=1\/q=2\/q=3:=oG;rcases this with rfl|rfl|rfl|rfl<;>decide;show(0:AH).toNat<=63;decide
def AFO(a)(b:Bool)(i):(Ap (D7 a b i).l=(D7 a b i).l/\Ap (D7 a b i).c=(D7 a b i).c)/\fl (D7 a b i).l (D7 a b i).c/\(D7 a b i).AL.toNat<=63/\(D7 a b i).box<2/\(D7 a b i).room<=999/\(D7 a b i).fn<3:=by refine⟨⟨XC _,(AIB _ _).1⟩,(AIB _ _).2,AT6 _ _,?_,?_,?_⟩;show((Be a (6*i+4)%3:Nat):Int)-1<2;omega;show Be a (6*i+3)%12<=999;omega;show Be a (6*i+1)%3<3;omega
def AAW(c)(a:Bool):TG (QC c a) (JR c.boxes 0) (JR c.boxes 1) (D7 c.A3 a 0) (D7 c.A3 a 1) (D7 c.A3 a 2):=⟨rfl,rfl⟩
def APF(c)(a:Bool):TH (QC c a) where
 nb:=by show 2<=8;decide
 nt:=by show 0<3/\3<=8;decide
 bx b hb:=by
  have hb:b=JR c.boxes 0\/b=JR c.boxes 1:=by rw[(AAW c a).boxes]at hb;simpa using hb
  rcases hb with rfl|rfl<;>exact XC _
 th b hb:=by
  have hb:∃i,b=D7 c.A3 a i:=by
   rw[(AAW c a).A3]at hb;have:b=D7 c.A3 a 0\/b=D7 c.A3 a 1\/b=D7 c.A3 a 2:=by simpa using hb
   rcases this with h|h|h;exact⟨0,h⟩;exact⟨1,h⟩;exact⟨2,h⟩
  obtain⟨i,rfl⟩:=hb;let⟨⟨f1,d⟩,e,f4,f5,f6,f7⟩:=AFO c.A3 a i;refine⟨f7,λf g=> ?_,f1,d,f4,f6,f5,e⟩;have hm:f∈(He c.Ad).Ad:=Cv g;obtain⟨j,_,rfl⟩:=XN c.Ad f hm;rfl
 fs:=by show 3<=1000;decide
def AKm(a i):CZ (JR a i).v:=by have h:Be a (2*i+1)%4<4:=IK _ dC;show CZ ((Be a (2*i+1)%4:Nat):Int);unfold CZ;omega
def AOA(a)(b:Bool)(i):CZ (D7 a b i).n:=by have h:Be a (6*i+5)%4<4:=IK _ dC;show CZ ((Be a (6*i+5)%4:Nat):Int);unfold CZ;omega
def APH(c)(a:Bool)(m M)(k:∀i,M (D7 c.A3 a i).AL):Vf m M 0 (ED (QC c a)):=by
 refine AUb (AAW c a) (XC _) (XC _) (λb d=> ?_) ⟨AKm _ _,AKm _ _⟩ (AT1 c.Ad) (AT0 c.Ad);have d:∃i,b=D7 c.A3 a i:=by
  have:b=D7 c.A3 a 0\/b=D7 c.A3 a 1\/b=D7 c.A3 a 2:=by simpa using d
  rcases this with h|h|h;exact⟨0,h⟩;exact⟨1,h⟩;exact⟨2,h⟩
 obtain⟨i,rfl⟩:=d;let⟨e,f,l,g,j,n⟩:=AFO c.A3 a i;exact⟨e,f,k i,g,j,AOA _ _ _⟩
def APG(c)(a:Bool):Hp 0 (ED (QC c a)):=(APH c a high (λ_=>True) λ_=>A0).inv
def ALU{A S k}(c:KK high (λ_=>True) k)(b:BK A S k.AD k.Ar)(n:A<=900000)(I L m)(i:Bl I L k m)(h t)(d:Aw k.AD h=some t):Fn 12 [.p 1 0,.v (.string (AR h))] (BN m k.im k.now) I (Vj I m k.im k.now t true) none:=by have e:=GD d;subst e;have g:=Ed d;have a:=b.ts t g;have l:=c.ki.Gj t g;exact ALV I L k m i t (l.Fx _ (by unfold own;simp)) d (by have:=a.sc;omega) ⟨by have:=a.c.fr;omega,by have:=a.c.st;omega,by have:=a.c.tr;omega⟩ λf j=>by have:=(a.c.vf f j).1;omega
def XF{k n}(a:BF n k)(e:n<=1000)(I L m)(c:Bl I L k m):Fn 13 [.p 1 0] (BN m k.im k.now) I (AEQ I m k.im k.now 8 k.BQ.length (k.BQ.flatMap FM)) none:=by
 have d:=a.ll;have b:m.lk.n=k.BQ.length:=by have:=c.lk.n;rw[F6 (n:=8) (λ_=>rfl)]at this;omega
 have h:=AS3 I m k.im k.now (k.BQ.flatMap FM) oG c.lk;rw[b]at h;exact h
def AKf{n k}(h:Ve n k)(d:n<=199)(b:Nb k.im)(I L m)(c:Bl I L k m)(a)(hid:BY a):
 Fn 14 [.p 1 0,.v (.string (AR a))] (BN m k.im k.now) I (Nf I (Bb L m) (runK k a)) none:=
 AKe I L k m c (A:=24+4*n) (S:=3+n*(25+4*n)+(24+4*n)) (N:=n) ⟨h.kk,h.bk,oG,by have:=Qt (n:=n) oG;omega,by have:=h.now;omega⟩ (AHY b h.im h.ib) oG (by have:=Qt (n:=n) oG;omega) h.bf oG a hid
def ANw{n k}(h:Hp n k)(b:n<=199)(I L m)(a:Bl I L k m):Fn 11 [.p 1 0] (BN m k.im k.now) I (HH I (Bb L m) (.t []) (FF k)) none:=
 AE6 I L k m a (AH2 h oG) (by have:=Qt (n:=n) oG;omega) (by have:=h.now;omega)
def AWn{k a}(h:Aw k.AD a=none):runK k a=(k,false):=by unfold runK;rw[h]
def okT{k}(a:KK high (λ_=>True) k){d t}(c:Aw k.AD d=some t):Bo t.g.cur/\Bo t.g.Al:=by have b:=(a.ki.Gj t (Ed c)).CC.1;exact⟨H8 b.1,H8 b.2⟩
def ATc(I x y)(a b:Bool):∀d f (o:BP),o.op=.binOp .neq 4 (.tmp x) (.tmp y) 4->(∀p∈[(x,SV.v (.bool a)),(y,SV.v (.bool b))],f p.1=p.2)->LS prog o f d [] I (.v (.bool (a !=b))) none:=by intro d f o e c;have j:=Cy c (s:=x) (x:=.v (.bool a)) sP;have k:=Cy c (s:=y) (x:=.v (.bool b)) sP;intro m l w i _ _ _ _;refine⟨w,?_,BB.refl w⟩;have g:=i (.tmp x) xO;have h:=i (.tmp y) xO;simp[ev,j,k,den]at g h;simp[execOp,e,Sem.run_bind,g,h];cases a<;>cases b<;>(go_simp;rfl)
def ABH(I:AB)(x y:Nat)(a b:Bool):Hint:=.hand (.binOp .neq 4 (.tmp x) (.tmp y) 4) [(x,.v (.bool a)),(y,.v (.bool b))] [] I (.v (.bool (a !=b))) (ATc I x y a b)
structure TL where
 i:Nat
 J:AB
 L:AA Rw
 k:Ab
 m:BJ
def YJ(a:AK Ac)(n c:Nat)(x:TL):Hd where
 By:=[(5,.v (.bool true)),(6,.p 1 0),(7,.v (.slice a n c)),(8,.v (.int .i64 (x.i:Int)))]
 Bu:=BN x.m x.k.im x.k.now
 J:=x.J
structure TLP(a:AB)(im:Ak)(x:TL):Prop where
 st:Bq a [] x.J (Bb x.L x.m)
 UG:Bl x.J x.L x.k x.m
 inv:Hp x.i x.k
 im:x.k.im=im
def AEY(I:AB):Nat->AU->Prop:=λ_ h=>∃J,I.le J/\h= {r:=.v (.bool true),J:=J}
def AZs{I}:CO (AEY I) [] I:=by refine⟨?_⟩;rintro e h ⟨J,hle,rfl⟩;exact⟨⟨nA,nA,nA,sP,sP⟩,hle⟩
def ADO{I P r b}:∀(a:Nat)(h:AU),HH I P r b a h->∀c∈h.upd,c.1∈[1,2,3,4,5]:=LX
def Pd{ι:Type}{I:AB}{m:BJ}{im:Ak}{now:Nat}{S:ι->SV}{R:AB->ι->Prop}: ∀(key:Nat) (h:AU),Pw I (BN m im now) S R key h->∀kb∈h.upd,kb.1∈[1,2,3,4,5]:=by rintro key h ⟨_,_,rfl,_⟩ kb a;exact(Dr (key:=key) (nb:=[]) kb a).1
def ARf:∀a∈JK,BY a:=by decide+kernel
def ARh(l n):∀a∈F8 l n,BY a:=λa hid=>by obtain⟨x,_,rfl⟩:=BG.1 hid;have h:x.toNat%8<JK.length:=IK _ dC;rw[Cz,A9 h];exact ARf _ (DF h)
def ARg(l n):(F8 l n).length<=n:=by unfold F8;rw[C6,CX];omega
def AYf(I)(al:DK I)(hP:Pow I)(hL:HF I)(c q)(hq:TF I c q)(l la lc M)(hl:Aj I Hk 1 l la lc M):
 Fn 3 [.g (WC c q),.v (.slice la l.length lc)] [] I (AEY I) none:=by
 refine fo func3 AZs λρ bl w bd=>gG<|Ag (ANT I al hP hL) [] [] kR (λ_ h hh o ak=>by obtain⟨_,_,rfl⟩:=hh;cases ak) ?_;rintro _ ⟨J0,B,rfl⟩;refine gG ?_;have a6:TF J0 c q:=⟨hq.f.imp λ_ h=>h.up B λx l h=>AOI B.Cg x l h,hq.b.imp λ_ h=>h.up B λ_ _ h=>h,hq.t.imp λ_ h=>h.up B λ_ _ h=>h,hq.fl,hq.fb⟩;refine CK (API J0 c q a6 false) kR λqc J1 ap a2=> ?_;have z:=B.trans ap;refine gG<|Ag (Z9 J1 (al.up z) (hP.up z) (QC c false) qc a2 (APF c false) (XO c.Ad) (ATz c.Ad)) [] [] kR (λ_ h hh o ak=>by obtain⟨_,_,_,rfl,_⟩:=hh;cases ak) ?_;rintro _ ⟨m0,L0,J2,rfl,ag,a4⟩;have aq:=z.trans ag.none_le;refine gg [(26,ABN J2 25 164)]<|CK (ARi J2 l la lc M (hl.up aq λ_ _ h=>h) 80 dC) kR λqi J3 af ae=> ?_;let⟨ia,H⟩:=qi;have a3:=ARg l 80;have ao:=ARh l 80;generalize F8 l 80=ids at ae a3 ao⊢;refine gG ?_;have av:Bq J1 [] J3 (Bb L0 m0):=ag.trans (.of af);refine loop (ι:=TL) (λx=>x.i<=ids.length/\TLP J1 (He c.Ad) x/\J3.Cd x.J) (λx=>ids.length-x.i) (YJ ia ids.length H) 1000 [(1,164),(2,165),(3,166),(4,167),(5,168)] ⟨0,J3,L0,ED (QC c false),m0⟩ ⟨BS _,⟨av,a4.up af,APG c false,rfl⟩,AB.Fa J3⟩ kR kR ?_;rintro⟨i,J,L,k,m⟩ ⟨hi,hp,N⟩ again T;let⟨ab,hK,hinv,aj⟩:=hp;simp only at hi ab hK hinv aj N;have a0:Aj J LV 1 ids ia H (ids.map A5):=Aj.A8 N ae λ_ _ h=>h;by_cases C:i<ids.length
 case neg=>
  obtain rfl:i=ids.length:=oG;exact gg [(32,hF ((ids.length:Int)<(ids.length:Int)) oG)]<|dn [] ⟨J,z.trans ab.none_le,rfl⟩
 obtain⟨id,hid⟩:∃id,ids[i]? =some id:=⟨_,A9 C⟩;have F:=ao id (Cv hid);obtain⟨b,a,arr,e,fr,bc,rfl,q2,q3,q4,q5⟩:=a0.cell Ua hid;have q3:bc=MO id:=q3;subst q3;have q0:arr[a+i*1]? =some (.string (AR id)):=by have:=q5 0 _ rfl;rw[FD]at this;exact this
 have bh:Nb k.im:=by rw[aj];exact XO c.Ad
 refine gg [(32,hT ((i:Int)<(ids.length:Int)) oG)]<|Ag (ANw hinv oG J L m hK) [] [1,2,3,4,5] kR ADO ?_;rintro _ ⟨m1,L1,J4,rfl,V,Z⟩;have p:=AHg hinv;have S:(FF k).im=He c.Ad:=by rw[(Tg k).1];exact aj
 have a1:(FF k).now=i+1:=p.now;have ar:=AS2 p id;have ah:=ab.trans V;have v:=AHh p id;have D:(runK (FF k) id).1.im=He c.Ad:=by rw[(X5 (FF k) id).2];exact S
 generalize FF k=o at*;have ac:=V.le _ _ q2;have tail:True:=A0;have bk:=p.bf.ll;generalize hr:runK o id=r at ar v D;cases ar
 case none ht he=>
  have a8:r=(o,false):=by rw[<-hr];exact AWn ht
  subst a8;refine gg [(41,BM J4 HV b a ids.length H i C),(42,C9 J4 Cm rfl (a+i*1) (.string (AR id)) ac q0)]<|Ag (ALT J4 L1 o m1 Z id F ht) [] [1,2,3,4,5] kR Pd ?_;rintro _ ⟨qt,J5,rfl,g,aw⟩;have O:=Z.up g;refine gG<|Ag (XF p.bf oG J5 L1 m1 O) [] [1,2,3,4,5] kR Pd ?_;rintro _ ⟨⟨xa,xc⟩,J6,rfl,d,_⟩;have ai:=O.up d;have Y:=(g.trans d) _ _ ac;refine gg [(52,BM J6 HV b a ids.length H i C),(53,C9 J6 Cm rfl (a+i*1) (.string (AR id)) Y q0)] ?_;have U:=AKf p oG (by rw[S];exact XO c.Ad) J6 L1 m1 ai id F;rw[hr]at U;refine Ag U [] [1,2,3,4,5] kR ADO ?_;rintro _ ⟨X,K,J7,rfl,A,P⟩;have ad:=A.le _ _ Y;have W:=(ah.trans (.of (g.trans d))).trans A;refine gg [(59,BM J7 HV b a ids.length H i C),(60,C9 J7 Cm rfl (a+i*1) (.string (AR id)) ad q0)]<|Ag (ALT J7 K o X P id F ht) [] [1,2,3,4,5] kR Pd ?_;rintro _ ⟨qu,J8,rfl,j,a9⟩;have Q:=P.up j;refine gG<|Ag (XF v.bf oG J8 K X Q) [] [1,2,3,4,5] kR Pd ?_;rintro _ ⟨⟨ya,yc⟩,s,rfl,n,ax,ay,az⟩;have R:=Q.up n;have E:=W.trans (.of (j.trans n));refine gg [(91,hW ((o.BQ.length:Int)+1) ((o.BQ.length+1:Nat):Int) oG oG),(92,hN (o.BQ.length:Int) ((o.BQ.length+1:Nat):Int) oG),(93,ABH s 87 92 false false),(101,Ct (o.BQ.length:Int) (o.BQ.length:Int) rfl),(34,hW ((i:Int)+1) ((i+1:Nat):Int) oG oG)] ?_;exact back [] (YJ (some ⟨b,a,none⟩) ids.length H ⟨i+1,s,K,o,X⟩) 1000 kR kR kR λT'=>again ⟨i+1,s,K,o,X⟩ ⟨by show i+1<=_;omega,⟨E,R,v,D⟩,N.trans (V.le.trans ((g.trans d).Cg.trans (A.le.trans (j.trans n).Cg)))⟩ (by show ids.length-(i+1)<ids.length-i;omega) T'
 case' AIF t u f x ht hu he hf hm h1 h2 hd hg=>skip
 case' same t u ht hu he hg=>skip
 all_goals
  have o1:=okT p.kk ht;have o2:=okT v.kk hu;refine gg [(41,BM J4 HV b a ids.length H i C),(42,C9 J4 Cm rfl (a+i*1) (.string (AR id)) ac q0)]<|Ag (ALU p.kk p.bk oG J4 L1 m1 Z id t ht) [] [1,2,3,4,5] kR Pd ?_;rintro _ ⟨qt,J5,rfl,g,aw⟩;have O:=Z.up g;refine gG<|Ag (XF p.bf oG J5 L1 m1 O) [] [1,2,3,4,5] kR Pd ?_;rintro _ ⟨⟨xa,xc⟩,J6,rfl,d,_⟩;have ai:=O.up d;have Y:=(g.trans d) _ _ ac;refine gg [(52,BM J6 HV b a ids.length H i C),(53,C9 J6 Cm rfl (a+i*1) (.string (AR id)) Y q0)] ?_;have U:=AKf p oG (by rw[S];exact XO c.Ad) J6 L1 m1 ai id F;rw[hr]at U;refine Ag U [] [1,2,3,4,5] kR ADO ?_;rintro _ ⟨X,K,J7,rfl,A,P⟩;have ad:=A.le _ _ Y;have W:=(ah.trans (.of (g.trans d))).trans A;refine gg [(59,BM J7 HV b a ids.length H i C),(60,C9 J7 Cm rfl (a+i*1) (.string (AR id)) ad q0)]<|Ag (ALU v.kk v.bk oG J7 K X P id u hu) [] [1,2,3,4,5] kR Pd ?_;rintro _ ⟨qu,J8,rfl,j,a9⟩;have Q:=P.up j;refine gG<|Ag (XF v.bf oG J8 K X Q) [] [1,2,3,4,5] kR Pd ?_;rintro _ ⟨⟨ya,yc⟩,s,rfl,n,ax,ay,az⟩;have R:=Q.up n;have E:=W.trans (.of (j.trans n));have G:=LL s t.g.cur u.g.cur o1.1 o2.1;have aa:=LL s u.g.Al t.g.Al o2.2 o1.2
 have hlen:r.1.BQ.length=o.BQ.length:=by rw[he]
 rw[hg.cur]at G;rw[hg.Al]at aa;refine gG<|call G kR<|gG<|call aa kR<|gg [(91,hW ((o.BQ.length:Int)+1) ((o.BQ.length+1:Nat):Int) oG oG),(92,hN (r.1.BQ.length:Int) ((o.BQ.length+1:Nat):Int) oG),(93,ABH s 87 92 false false),(101,Ct (r.1.BQ.length:Int) (o.BQ.length:Int) oG),(34,hW ((i:Int)+1) ((i+1:Nat):Int) oG oG)] ?_;exact back [] (YJ (some ⟨b,a,none⟩) ids.length H ⟨i+1,s,K,r.1,X⟩) 1000 kR kR kR λT'=>again ⟨i+1,s,K,r.1,X⟩ ⟨by show i+1<=_;omega,⟨E,R,v,D⟩,N.trans (V.le.trans ((g.trans d).Cg.trans (A.le.trans (j.trans n).Cg)))⟩ (by show ids.length-(i+1)<ids.length-i;omega) T'
 .have hlen:r.1.BQ.length=o.BQ.length+1:=by rw[he];simp
  have au:r.1.BQ[o.BQ.length]? =some ⟨o.now,id,x⟩:=by rw[he];simp
  have an:t.c.AF[t.c.AF.length-1]? =some f:=by have:=hf;unfold Ae.top at this;rw[NT]at this;exact this
  have bj:=(B6.1 an).1;have bi:=(p.bk.ts t (Ed ht)).c.fr;have ba:Aj s (λ(y:Lk) l=>l=FM y) 8 r.1.BQ ya yc (r.1.BQ.flatMap FM):=⟨az,ax,ay,Rows.flat.2 rfl⟩;obtain⟨yb,yo,be,ye,bt,bf,rfl,y2,y3,y4,y5⟩:=ba.cell (λ_ l h=>by rw[h];rfl) au;subst y3;have a7:J5.Cd s:=d.Cg.trans (A.le.trans (j.trans n).Cg);let⟨⟨fa,fc,bg,bm,bn,bo,bp,bq,br⟩,ca0,cc0,cl0⟩:=qt;obtain⟨zb,zo,zarr,ze,zfr,zrow,rfl,z2,⟨va,vc,bs,rfl,z6⟩,z4,z5⟩:=aw.c.f.cell (HW J5) an;have z2:=a7 _ _ z2;have bb:=(j.trans n) _ _ ad;have a5:o.now=r.1.now:=by rw[<-hr];exact(X5 o id).1.symm
  have am:r.2:=hd;let⟨r1,r2⟩:=r;simp only at am hlen au he a5 v D hu E R;subst am;refine gG ?_;cases hv:fl t.g.cur u.g.cur
  case' false=>
   rw[hv]at G;refine call G kR ?_
  case' true=>
   rw[hv]at G;rw[hg.resolve_left (by rw[hv];decide)]at aa;refine call G kR (gG (call aa kR ?_))
  all_goals
   cases e1:decide (x.to=u.g.cur)<;>cases e3:decide (x.to=u.g.Al)<;>try(exfalso;rcases h1 with h|h<;>simp[h]at e1 e3;done)
   all_goals
    cases e2:decide (x.H0=t.g.cur)<;>cases e4:decide (x.H0=t.g.Al)<;>try(exfalso;rcases h2 with h|h<;>simp[h]at e2 e4;done)
    all_goals
     refine gg [(91,hW ((o.BQ.length:Int)+1) ((o.BQ.length+1:Nat):Int) oG oG),(92,hE (r1.BQ.length:Int) ((o.BQ.length+1:Nat):Int) oG),(93,ABH s 87 92 true true),(110,hN (t.c.AF.length:Int) 0 oG),(113,BM s APz yb yo r1.BQ.length yc o.BQ.length oG),(114,DR s AKV (yo+o.BQ.length*8) (FM ⟨o.now,id,x⟩) rfl y2 y5),(122,hW ((t.c.AF.length:Int)-1) ((t.c.AF.length-1:Nat):Int) oG oG),(123,BM s Ol zb zo t.c.AF.length fc (t.c.AF.length-1) oG),(124,DR s X4 (zo+(t.c.AF.length-1)*5) [.int .i64 f.fn,.int .i64 f.pc,.int .i64 f.base,.int .u8 f.AL.toNat,.slice va f.vars.length vc] rfl z2 z5),(132,BM s HV b a ids.length H i C),(133,C9 s Cm rfl (a+i*1) (.string (AR id)) bb q0),(134,.eq _ _ (XX (Cr id))),(140,hW ((i:Int)+1) ((i+1:Nat):Int) oG oG),(141,Ct (o.now:Int) ((i+1:Nat):Int) oG),(149,Ct (x.AL.toNat:Int) (f.AL.toNat:Int) (by rw[hm])),(158,Nt s 154 157 x.to u.g.cur _ e1),(166,Nt s 162 165 x.to u.g.Al _ e3),(176,Nt s 172 175 x.H0 t.g.cur _ e2),(184,Nt s 180 183 x.H0 t.g.Al _ e4),(34,hW ((i:Int)+1) ((i+1:Nat):Int) oG oG)] ?_;exact back [] (YJ (some ⟨b,a,none⟩) ids.length H ⟨i+1,s,K,r1,X⟩) 1000 kR kR kR λT'=>again ⟨i+1,s,K,r1,X⟩ ⟨by show i+1<=_;omega,⟨E,R,v,D⟩,N.trans (V.le.trans ((g.trans d).Cg.trans (A.le.trans (j.trans n).Cg)))⟩ (by show ids.length-(i+1)<ids.length-i;omega) T'
end
section
open Go.AX Go.RowKit Lz
def O4(W:AI):AB:=⟨λb=>W.heap[b]?,λ_=>none⟩
def ARk(W):Holds W (O4 W):=⟨λ_ _ h=>h,λ_ _ h=>by cases h⟩
def ANy{W W' g d q h}(f:h.upd=[])(a:After (O4 W) g W W' d q h):Below W.heap.size W W':=
 ⟨a.os,a.tape,a.output,a.size,λb e=>a.keep b e (λi c=>by rw[f]at c;cases c) rfl⟩
def AYg(W)(d:DK (O4 W))(k:Pow (O4 W))(j:HF (O4 W))(c q)(n:TF (O4 W) c q)(l f g a)(m:Aj (O4 W) Hk 1 l f g a):
 Calls prog 3 #[.agg #[.slice q.fa c.Ad.length q.fc,.slice q.ba c.boxes.length q.bc,.slice q.ta c.A3.length q.tc],.slice f l.length g] W λe W'=>e=.returned (.bool true)/\Below W.heap.size W W':=by
 have h:=(AYf (O4 W) d k j c q n l f g a m).out.2 (λ_=>0) 100 W (AZ _) nA (ARk W) nA nA;refine h.mono ?_;rintro e W' ⟨r,s,⟨J,hle,rfl⟩,i,rfl⟩;exact⟨rfl,ANy rfl i⟩
end
section
open Go.AX Go.ChangeAt Go.ChangeShapes Go.Joins Go.RowKit Go.WideShapes Lz
def AKY{W:World}{ab ao n:Nat}{xs:List Value}(hl:xs.length=n)(h0:0<n)(h: ∀j,j<n->W.cell? ⟨ab,ao+j,none⟩=xs[j]?): ∃arr e fr,W.heap[ab]? =some (.cells arr e fr)/\(arr.toList.drop ao).take n=xs:=by
 have hc:=h 0 h0;rw[List.getElem?_eq_getElem oG]at hc;cases hb:W.heap[ab]? with
 |none=>simp[World.cell?,hb]at hc
 |some o=>
  cases o<;>simp[World.cell?,hb]at hc;rename_i arr e fr;refine⟨arr,e,fr,rfl,?_⟩;apply List.ext_getElem?;intro j;rw[List.getElem?_take];by_cases hj:j<n;rw[if_pos hj,List.getElem?_drop,<-h j hj];simp[World.cell?,hb];rw[if_neg hj,List.getElem?_eq_none oG]
section
variable {H:Type} {enc:TypeId×Value->H} {W:World} {b:Bool}
def AAL{a:Addr}{v:Value}(h:W.cell? (a.add 0)=some v):a.spot=none:=by simpa[Addr.add]using World.cell?_spot h
def AEh{a c j}:(⟨a,c,none⟩:Ac).add j=⟨a,c+j,none⟩:=Addr.add_mid _ _ _
def YL{fuel}{v}{y}(h:DataW.trod enc Tryz.prog W 0 (λ_=>true) b fuel 23 [v]=some y): ∃(l:List UInt8) (a:Option Addr) (c:Nat),v=.slice a l.length c/\l.length<=maxLen/\∃cells,Aj (Mo W) Hk 1 l a c cells:=by
 rcases open_ints Tryz.underlying23 Tryz.underlying5 kR h with⟨f,k⟩|⟨a,len,cap,zs,f,_,hl,hm,o,k,d,i⟩;obtain rfl:v=.slice none 0 0:=by simpa using f
 exact⟨[],none,0,rfl,Nat.zero_le _,[],Ch.nil,Nat.le_refl _,Nat.zero_le _,rfl⟩;obtain rfl:v=.slice (some a) len cap:=by simpa using f
 simp only[if_true]at o;have hlen:((zs.take len).map λn=>UInt8.ofNat n.toNat).length=len:=by simp;omega
 refine⟨(zs.take len).map λn=>UInt8.ofNat n.toNat,some a,cap,by rw[hlen],by rw[hlen];omega,((zs.take len).map λn=>UInt8.ofNat n.toNat).map OE,⟨⟨by rw[List.length_map];omega,?_,?_⟩,by rw[hlen];exact hl,hm,?_⟩⟩;intro x k;obtain⟨z,_,rfl⟩:=List.mem_map.1 k;rfl;rw[hlen];rcases Nat.eq_zero_or_pos len with h0|h0;exact .inl h0;right;obtain⟨ab,ao,sp⟩:=a;have g:sp=none:=AAL (d 0 oG);subst g;obtain⟨arr,e,fr,h1,m⟩:=AKY (W:=W) (ab:=ab) (ao:=ao) (n:=len) (xs:=((zs.take len).map λn=>UInt8.ofNat n.toNat).map OE) (by rw[List.length_map];omega) h0 (λj hj=>by
  have hc:=d j oG;rw[AEh]at hc;rw[hc];have hb:=range_u8 i j;rw[List.getElem?_map,List.getElem?_map,List.getElem?_take,if_pos hj,List.getElem?_eq_getElem (show j<zs.length by omega)];rw[List.getElem?_eq_getElem (show j<zs.length by omega)]at hb;rw[List.getD_eq_getElem?_getD,List.getElem?_eq_getElem (show j<zs.length by omega)];simp only[Option.getD_some,Option.map_some,Option.some.injEq]at hb⊢;unfold OE;congr 1;have:(UInt8.ofNat (zs[j]).toNat).toNat=(zs[j]).toNat:=by rw[UInt8.toNat_ofNat'];omega
  rw[this];omega)
 exact⟨ab,ao,arr,e,fr,rfl,h1,by rw[Nat.mul_one];exact m⟩;generalize((zs.take len).map λn=>UInt8.ofNat n.toNat)=l;induction l with
 |nil=>rfl
 |cons x l p=>exact⟨[OE x],l.map OE,rfl,rfl,p⟩
def AKa{a:Type}{R:a->List Value->Prop}{f:Nat->a}{g:Nat->Value}: ∀(is:List Nat),(∀i∈is,R (f i) [g i])->Rows R (is.map f) (is.map g)
 |[],_=>rfl
 |i::is,h=>⟨[g i],is.map g,rfl,h i List.mem_cons_self,AKa is λj hj=>h j (List.mem_cons_of_mem _ hj)⟩
def AYk{fuel}{v}{y}(h:DataW.trod enc Tryz.prog W 0 (λ_=>true) b fuel 22 [v]=some y): ∃(l:List (List UInt8)) (a:Option Addr) (c:Nat),v=.slice a l.length c/\l.length<=maxLen/\(∀x∈l,x.length<=maxLen)/\∃cells,Aj (Mo W) (Od (Mo W)) 1 l a c cells:=by
 rcases Go.Deep.open_slice1 Tryz.underlying22 kR h with⟨d,g⟩|⟨a,len,cap,m,n,V,D,Pl,d,_,hl,hm,r,g,f⟩;obtain rfl:v=.slice none 0 0:=by simpa using d
 exact⟨[],none,0,rfl,Nat.zero_le _,(λx g=>by cases g),[],Ch.nil,Nat.le_refl _,Nat.zero_le _,rfl⟩;obtain rfl:v=.slice (some a) len cap:=by simpa using d
 simp only[if_true]at r;have hb: ∀i,∃l:List UInt8,i<len->l.length<=maxLen/\Od (Mo W) l [V i]:=λi=>by by_cases hi:i<len;obtain⟨l,o,p,t,u,cells,w⟩:=YL (f i oG).2;exact⟨l,λ_=>⟨u,o,p,cells,by rw[t],w⟩⟩;exact⟨[],λq=>absurd q hi⟩
 have k:=λi=>Classical.choose_spec (hb i);generalize hF:(λi=>Classical.choose (hb i))=F;have k: ∀i,i<len->(F i).length<=maxLen/\Od (Mo W) (F i) [V i]:=λi hi=>by rw[<-hF];exact k i hi
 refine⟨(List.range len).map F,some a,cap,sP,by simp;omega,λx g=> ?_,(List.range len).map V,⟨⟨sP,?_,?_⟩,by simpa using hl,hm,AKa _ λi hi=>(k i (List.mem_range.1 hi)).2⟩⟩;obtain⟨i,hi,rfl⟩:=List.mem_map.1 g;exact(k i (List.mem_range.1 hi)).1;intro x g;obtain⟨i,hi,rfl⟩:=List.mem_map.1 g;obtain⟨_,o,p,cells,e,_⟩:=k i (List.mem_range.1 hi);rw[show V i=.slice o (F i).length p by simpa using e];rfl;rw[List.length_map,List.length_range];rcases Nat.eq_zero_or_pos len with h0|h0;exact .inl h0;right;obtain⟨ab,ao,sp⟩:=a;have s:sp=none:=AAL (f 0 oG).1;subst s;obtain⟨arr,e,fr,h1,z⟩:=AKY (W:=W) (ab:=ab) (ao:=ao) (n:=len) (xs:=(List.range len).map V) sP h0 (λj hj=>by have hc:=(f j oG).1;rw[AEh]at hc;rw[hc,List.getElem?_map,List.getElem?_range hj];rfl)
 exact⟨ab,ao,arr,e,fr,rfl,h1,by rw[Nat.mul_one];exact z⟩
end
section
variable {H:Type} {enc:TypeId×Value->H} {W:World}
def AU4{r}{i}{v}{d}{ps}(m:Value.okWide Tryz.prog W r i 25 v)(h:DataW.Trod enc Tryz.prog W 0 (λ_=>true) true 25 v d ps):
 ∃(c:KN) (q:OT),v=.agg #[.slice q.fa c.Ad.length q.fc,.slice q.ba c.boxes.length q.bc,.slice q.ta c.A3.length q.tc]/\TF (Mo W) c q:=by
 obtain⟨cs,rfl,g⟩:=okWide_struct Tryz.underlying25 m;obtain⟨v0,v1,v2,rfl⟩:=array3 (g.trans (show Tryz.prog.cellsOf 25=3 by kernel_rfl));let⟨fuel,l⟩:=h;have f:DataW.trod enc Tryz.prog W 0 (λ_=>true) true fuel 25 [v0,v1,v2]=some (d,ps):=by simpa[Value.cells]using l
 let⟨w,x,y,n,_,_,t0,t1,t2⟩:=Go.Deep.trod_struct3 Tryz.underlying25 f;have a:Tryz.prog.cellsOf 22=1:=kR;have e:Tryz.prog.cellsOf 23=1:=kR;simp[a,e,Q6,ADp,Y4,List.take_zero]at t0 t1 t2;obtain⟨l0,a0,c0,rfl,j,k,o⟩:=AYk t0;obtain⟨p,a1,c1,rfl,t,k1⟩:=YL t1;obtain⟨s,a2,c2,rfl,u,k2⟩:=YL t2;exact⟨⟨l0,p,s⟩,⟨a0,c0,a1,c1,a2,c2⟩,rfl,⟨o,k1,k2,j,k⟩⟩
def open_list{r}{i}{v}{d}{ps}(n:Value.okWide Tryz.prog W r i 23 v)(h:DataW.Trod enc Tryz.prog W 0 (λ_=>true) true 23 v d ps):
 ∃(l:AA AH) (a:AK Ac) (c:Nat),v=.slice a l.length c/\∃cells,Aj (Mo W) Hk 1 l a c cells:=by
 obtain⟨g,n',j,rfl⟩:=okWide_slice Tryz.underlying23 n;let⟨fuel,m⟩:=h;have f:DataW.trod enc Tryz.prog W 0 (λ_=>true) true fuel 23 [.slice g n' j]=some (d,ps):=by simpa[Value.cells]using m
 let⟨l,a,c,e,_,k⟩:=YL f;exact⟨l,a,c,e,k⟩
end
end
end Go.Proofs.YtomehhepbeiinaaGreatDoor
