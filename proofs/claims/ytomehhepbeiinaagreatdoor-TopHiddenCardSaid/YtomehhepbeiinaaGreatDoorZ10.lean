/- Part 10 of the proof of TopHidden. No conditions. -/
import Derived.Test.YtomehhepbeiinaaGreatDoorZ09
import Derived.Lib.ItoaLen
set_option maxRecDepth 100000
set_option maxHeartbeats 4000000
set_option linter.all false
open Go renaming run_underlying->rU
open Go.Result renaming andThen_ok->aK,andThen->aT
open Go.Sem renaming run_bind->rB
open Nat renaming beq->bQ
open List renaming length->lN
open Option renaming some->sM,none->nO
open Bool renaming true->tT,false->fF
open Go.Value renaming string->vS,bool->vB
open Go.IntKind renaming i64->iK
namespace Go.Proofs.YtomehhepbeiinaaGreatDoor
open Tryz
section
open Go.AX Lz
def AXp(I:AB)(x y:Operand)(j:AA (Nat×SV))(a b:Ce)(q:x=.const (vS a)\/∃t,x=.tmp t/\(t,SV.v (vS a))∈j)(r:y=.const (vS b)\/∃t,y=.tmp t/\(t,SV.v (vS b))∈j)(n:a.size+b.size<=maxLen):
 ∀d e (o:Bw),o.op=.binOp .add 9 x y 9->(∀p∈j,e p.1=p.2)->LS prog o e d [] I (.v (vS (a++b))) nO:=by
 intro d e o i c;have l:ev e x=.v (vS a):=by rcases q with rfl|⟨t,rfl,h⟩;rfl;exact c _ h
 have m:ev e y=.v (vS b):=by rcases r with rfl|⟨t,rfl,h⟩;rfl;exact c _ h
 intro v s w k _ _ _ _;refine⟨w,?_,Bl.refl w⟩;have f:=k x xO;have g:=k y xO;rw[l]at f;rw[m]at g;simp only[AO]at f g;simp only[execOp,i,rB,f,g];have u:prog.underlying 9=sM .string:=Di;go_simp;rw[AY (by rw[maxLen]at n;omega)];rfl
def ADn(I:AB)(x y:Operand)(c:AA<|Nat×SV)(a b:Ce)(e:x=.const (vS a)\/∃t,x=.tmp t/\(t,SV.v<|vS a)∈c)(f:y=.const (vS b)\/∃t,y=.tmp t/\(t,SV.v<|vS b)∈c)(d:a.size+b.size<=maxLen):Hint:=
 .BZ (.binOp .add 9 x y 9) c [] I (.v<|vS<|a++b)<|AXp I x y c a b e f d
def WL(I:AB)(x y:Nat)(a b:Ce)(c:a.size+b.size<=maxLen):Hint:=ADn I (.tmp x) (.tmp y) [(x,.v<|vS a),(y,.v<|vS b)] a b (.inr ⟨x,rfl,sP⟩) (.inr ⟨y,rfl,sP⟩) c
def AUx(I:AB)(y:Nat)(a b:Ce)(c:a.size+b.size<=maxLen):Hint:=ADn I (.const<|vS a) (.tmp y) [(y,.v<|vS b)] a b (.inl rfl) (.inr ⟨y,rfl,sP⟩) c
def T0(I:AB)(x:Nat)(a b:Ce)(c:a.size+b.size<=maxLen):Hint:=ADn I (.tmp x) (.const<|vS b) [(x,.v<|vS a)] a b (.inr ⟨x,rfl,sP⟩) (.inl rfl) c
structure Iw(I:AB):Prop where
 at_:∃arr e fr,I 2=sM (.cells arr e fr)/\∀i,i<6->arr[i]? =sM (.int .u8 (97+(i:Int)))
def Iw.up{I J}(h:Iw I)(hle:I.le J):Iw J:=by let⟨arr,e,a,b,c⟩:=h.at_;exact⟨arr,e,a,hle _ _ b,c⟩
def Iw.AXT{I}(h:Iw I){w}(d:EJ w I):Kg w:=λi c=>by let⟨arr,e,f,a,b⟩:=h.at_;have:=d _ _ a;simp[World.cell?,this,b i c]
def AfI(I)(b:Iw I)(a)(c:B9 a):Fn 70 [DW a] [] I (BW (.v<|vS<|AJ<|Acx a) I) nO:=
 MX func70 kR kR (λ_=>rfl) (λ_=>rfl) rfl λw d=>AgP a c w<|b.AXT d
def XU(l):(AJ l).size=lN l:=by simp[AJ,ByteArray.size]
def Afw(f):lN (AFf f)<=1000:=by rw[AFf];have:=AfM<|Lz.DO f;have:=Lz.Afl f;split;simp;split;simp;omega
def Ae1(a):(AJ<|Acx a).size<=2001:=by rw[XU];have b:=Afw a.1;have c:=Afw a.2;rw[Acx];rw[CK,FM];omega
def Aev(k:Nat):Ce:=if k=3 then⟨#[98,111,120]⟩else if k=4 then⟨#[114,101,102]⟩else if k=5 then⟨#[118,97,114]⟩else if k=6 then⟨#[99,101,108,108]⟩else⟨#[103,97,116,101]⟩
def Af1(k):(Aev k).size<=4:=by rw[Aev];split;decide;split;decide;split;decide;split<;>decide
def Ag2(I k):Fn 127 [.v<|iV k] [] I (BW (.v<|vS<|Aev k) I) nO:=by refine fo func127 λg f w e=> ?_;rw[Aev];by_cases a:k=3;subst a;exact gG<|fi;rw[AY a];by_cases b:k=4;subst b;exact gG<|fi;rw[AY b];by_cases c:k=5;subst c;exact gG<|fi;rw[AY c];by_cases d:k=6;subst d;exact gG<|fi;rw[AY d];exact gg [(5,hN (k:Int) 3),(7,hN (k:Int) 4),(9,hN (k:Int) 5),(11,hN (k:Int) 6)]<|fi
def atB(l:Lz.AT):Ce:=(⟨#[60]⟩++AJ (Acx l))++⟨#[62]⟩
def AfV(l):(atB l).size<=2003:=by have:=Ae1 l;rw[atB];rw[AGK,AGK];show 1+_+1<=_;omega
def Ael(v:AW):Ce:=if v.right=tT then(if v.kind=1 then AJ (Lib.itoa v.n)else if v.kind=2 then atB v.l else(Aev v.kind++⟨#[58]⟩++Aa v.name)++atB v.l)else⟨#[63]⟩
def Ae0{n}(h:BV n):(Aa n).size<=4*lN n:=by rw[Aa];rw[XU];exact(Z3 h).1
def AfO(I)(c:Pow I)(h:Iw I)(v)(e:WV v)(b: -9223372036854775808<=v.n/\v.n<=9223372036854775807)(i:BV v.name/\lN v.name<=1000):Fn 71 [Do v] [] I (BW (.v<|vS<|Ael v) I) nO:=by
 have l:=AfV v.l;have n:=Ae1 v.l;refine fo func71 λp k w d=>gG<|call (AF4 I c v e) ?_;rw[Ael];by_cases a:v.right;rw[Ac a];refine gg [(6,OV v.right fF<|by rw[a];rfl)] ?_;refine call (AfI I h v.l e.2) ?_;by_cases f:v.kind=1;rw[Ac f];refine gg [(10,AUx I 9 ⟨#[60]⟩ (AJ<|Acx v.l)<|by show 1+_<=_;rw[maxLen];omega),(11,T0 I 10 (⟨#[60]⟩++AJ (Acx v.l)) ⟨#[62]⟩<|by rw[AGK];show 1+_+1<=_;rw[maxLen];omega),(15,hE (v.kind:Int) 1)] ?_;exact call (AAx I c v.n b.1 b.2)<|gG<|fi;rw[AY f];by_cases g:v.kind=2;rw[Ac g];refine gg [(10,AUx I 9 ⟨#[60]⟩ (AJ<|Acx v.l)<|by show 1+_<=_;rw[maxLen];omega),(11,T0 I 10 (⟨#[60]⟩++AJ (Acx v.l)) ⟨#[62]⟩<|by rw[AGK];show 1+_+1<=_;rw[maxLen];omega),(15,hN (v.kind:Int) 1),(20,hE (v.kind:Int) 2)] ?_;exact fi;rw[AY g];have o:=Af1 v.kind;have m:=Ae0 i.1;refine gg [(10,AUx I 9 ⟨#[60]⟩ (AJ<|Acx v.l)<|by show 1+_<=_;rw[maxLen];omega),(11,T0 I 10 (⟨#[60]⟩++AJ (Acx v.l)) ⟨#[62]⟩<|by rw[AGK];show 1+_+1<=_;rw[maxLen];omega),(15,hN (v.kind:Int) 1),(20,hN (v.kind:Int) 2)] ?_;refine call (Ag2 I v.kind)<|gg [(25,T0 I 24 (Aev v.kind) ⟨#[58]⟩<|by show _+1<=_;rw[maxLen];omega),(28,WL I 25 27 (Aev v.kind++⟨#[58]⟩) (Aa v.name)<|by rw[AGK];show _+1+_<=_;rw[maxLen];omega),(30,WL I 28 29 (Aev v.kind++⟨#[58]⟩++Aa v.name) (atB v.l)<|by rw[AGK,AGK];show _+1+_+_<=_;rw[maxLen];omega)] ?_;exact fi;rw[AY a];have a:v.right=fF:=by simpa using a
 refine gg [(6,OV v.right tT<|by rw[a];rfl)] ?_;exact fi
def APM(I:AB)(k:Ap):zP:=λa h=>∃m L J,h= {r:=.p (a+0) 0,nb:=ZZ a m k.im k.AD,J:=J}/\Cb I [] J (CM L m)/\CZ J L k m
def YY(I)(a:EB I)(i:Pow I)(c q)(j:Ke I c q)(h:RY c)(e:Ra c.im)(d:∀f∈c.im.Ax,∃S,Ng c.im f S):Fn 8 [.g (MU c q)] [] I (APM I (EG c)) nO:=by have p:=AYn I a i c q j h (Ado I a i c.im q.ip j.im e d);let⟨A,x,y,z,B,C,D⟩:=q;refine fo Tryz.func8 λE s w k=>gG<|A0 p [] ?_;rintro _ ⟨m,L,J,rfl,r,o⟩;let⟨u,l,n,g,b,t,v⟩:=m;exact gG<|dn [124,125,126,127,128] ⟨⟨u,l,n,g,b,t,v⟩,L,J,rfl,r,o⟩
def Pv(x:AH):AF:=.int .u8 (x.toNat:Int)
def JC(x:AH)(l:AA AF):Prop:=l=[Pv x]
def AFu(x l)(h:JC x l):lN l=1:=by rw[h];rfl
def ADC:IE 23 5 1:=⟨kR,T9 kR⟩
def PC(I l a c d)(m:Av I JC 1 l a c d)(i)(r:i<=1000000):Fn 35 [.v<|.slice a (lN l) c,.v<|iV i] [] I (BW (.v<|iV<|CN l i) I) nO:=by
 refine fo func35 λs o w k=> ?_;by_cases f:i<lN l;have j:l[i]? =sM l[i]:=BS f;have h:CN l i=l[i].toNat:=by rw[CN];rw[j];rfl
 rw[h];generalize l[i]=x at j;have n:x.toNat<256:=x.toNat_lt;obtain⟨b,g,arr,e,q,p,rfl,q2,q3,q4,q5⟩:=m.cell AFu j;subst q3;have q0:=q5 0 _ rfl;simp only[IB]at q0;exact gg [(8,tH i<|lN l),(11,Br I ADC b g (lN l) c i f),(12,ED I Sw rfl (g+i*1) (Pv x) q2 q0),(13,.eq (.int iK<|IntKind.i64.wrap (x.toNat:Int)) (iV x.toNat)<|iw rfl oG)]<|fi;have h:CN l i=0:=by rw[CN];rw[Jh oG];rfl
 rw[h];exact gg [(8,fH i<|lN l)]<|fi
def Oe(l:AA AH)(a:AU Au)(b at_:Nat)(s:Bi):AK:=.cells [.v<|.slice a (lN l) b,.v<|iV at_,.v<|.slice s.a s.n s.c] 190
def AB4(I:AB)(l:AA AH)(a:AU Au)(b at_:Nat)(s:Bi):zP:=λ_ h=>h= {r:=.v<|iV<|CN l at_,AV:=[(1,Oe l a b (at_+1) s)],J:=I}
def AEh(I l h d at_ s a)(p:Av I JC 1 l h d a)(v:at_<=1000000):
 Fn 93 [.p 1 0] [(1,Oe l h d at_ s)] I (AB4 I l h d at_ s) nO:=by
 let⟨m,o,n⟩:=s;refine fo func93 λy q w k=> ?_;by_cases f:at_<lN l;have i:l[at_]? =sM l[at_]:=BS f;have g:CN l at_=l[at_].toNat:=by rw[CN];rw[i];rfl
 have j:(l[at_]).toNat<256:=(l[at_]).toNat_lt;generalize l[at_]=x at i g j;obtain⟨b,c,arr,e,u,t,rfl,q2,q3,q4,q5⟩:=p.cell AFu i;subst q3;have q0:=q5 0 _ rfl;simp only[IB]at q0;exact gg [(7,sH at_),(19,hF<|((at_+1:Nat):Int)>(lN l:Int)),(28,hW (((at_+1:Nat):Int)-1) ((at_:Nat):Int)),(29,Br I ADC b c (lN l) d at_ f),(30,ED I Sw rfl (c+at_*1) (Pv x) q2 q0),(31,.eq (.int iK<|IntKind.i64.wrap (x.toNat:Int)) (iV x.toNat)<|iw rfl oG)]<|dn [] (by rw[AB4];rw[g]) (h:={r:=.v<|iV x.toNat,AV:=[(1,Oe l (aO b c) d (at_+1) ⟨m,o,n⟩)],J:=I});have g:CN l at_=0:=by rw[CN];rw[Jh oG];rfl
 exact gg [(7,sH at_),(19,hT<|((at_+1:Nat):Int)>(lN l:Int))]<|dn [] (by rw[AB4];rw[g]) (h:={r:=.v<|.int iK (0:Nat),AV:=[(1,Oe l h d (at_+1) ⟨m,o,n⟩)],J:=I})
end
end Go.Proofs.YtomehhepbeiinaaGreatDoor
namespace Go.AX
def FC.CW{P F d I r}(C:r.A3=[])(h:FC P F d [] I.CW (λ_ h=>h= {r:=r,J:=I.CW}) nO):FC P F d [] I (λ_ h=>h= {r:=r,J:=I}) nO:=by intro B p w k hN f t g;have m:Holds w I.CW:=⟨f.CW,λb o a=>by cases a⟩;refine(h B p w k hN m nA g).mono ?_;rintro e z ⟨x,q,⟨rfl,l,_⟩,A,u⟩;refine⟨{r:=r,J:=I},q,⟨rfl,⟨l.r,l.u,l.n,l.l,l.d⟩,AB.Hj _⟩,?_,u⟩;have n:∀b,b<w.heap.size->z.heap[b]? =w.heap[b]? :=λb a=>A.A2 b a nA rfl;exact{os:=A.os,tape:=A.tape,output:=A.output,size:=A.size,A2:=λb a _ _=>n b a,AV:=nA,nb:=(λj b y=>by simp at y),qi:=(λi j v=>by simp at v),H2:=⟨λb o a=>by rw[n b<|Eg<|f.1 b o a];exact f.1 b o a,λb o a=>by rw[n b<|Eg<|f.2 b o a];exact f.2 b o a⟩,fresh:=λb o a=>.inl a,IX:=λb o a=>IM a}
end Go.AX
namespace Go.Proofs.YtomehhepbeiinaaGreatDoor
open Tryz
open Go.AX Lz
def Fn.CW{F a I r}(b:r.A3=[])(h:Fn F a [] I.CW (BW r I.CW) nO):Fn F a [] I (BW r I) nO:=⟨FC.CW b h.out,h.Gb⟩
theorem AK8{a b:UInt8}:((a.toNat:Int)=(b.toNat:Int))↔a=b:=by grind[UInt8.toNat_inj]
attribute [ext] FU Lk Gr Fj Wt Dc Lz.St
def ATQ{a b}(c:BV a.id/\BV a.v.name)(d:BV b.id/\BV b.v.name)(w):(Op.equalIn 10000 154 (.agg (Dy a).toArray) (.agg (Dy b).toArray)).run prog w=.ok (decide (a=b)) w:=by
 apply QX dC
 .simp[Dy,E9,Ea,H9,Hl,BG,M9,F1,F2,Program.fieldsOf,underlying154];go_simp;(repeat apply PR);rfl
 simp_all[Qy,Pj,str_inj,MB,AW.ext_iff,OA,Gr.ext_iff,Lz.St.ext_iff,FU.ext_iff,_root_.and_assoc]
def ATR{a b}(c:BV a.id)(d:BV b.id)(w):(Op.equalIn 10000 63 (.agg (E9 a).toArray) (.agg (E9 b).toArray)).run prog w=.ok (decide (a=b)) w:=by
 apply QX dC
 .simp[Dy,E9,Ea,H9,Hl,BG,M9,F1,F2,Program.fieldsOf,underlying63];go_simp;(repeat apply PR);rfl
 simp_all[Qy,Pj,str_inj,MB,AW.ext_iff,OA,Gr.ext_iff,Lz.St.ext_iff,Lk.ext_iff,_root_.and_assoc]
def ATU{a b}(w):(Op.equalIn 10000 118 (.agg (Ea a).toArray) (.agg (Ea b).toArray)).run prog w=.ok (decide (a=b)) w:=by
 apply QX dC
 .simp[Dy,E9,Ea,H9,Hl,BG,M9,F1,F2,Program.fieldsOf,underlying118];go_simp;(repeat apply PR);rfl
 grind[Fj.ext_iff]
def ATV{a b}(c:BV a.id/\BV a.v.name)(d:BV b.id/\BV b.v.name)(w):(Op.equalIn 10000 261 (.agg (H9 a).toArray) (.agg (H9 b).toArray)).run prog w=.ok (decide (a=b)) w:=by
 apply QX dC
 .simp[Dy,E9,Ea,H9,Hl,BG,M9,F1,F2,Program.fieldsOf,underlying261];go_simp;(repeat apply PR);rfl
 simp_all[Qy,Pj,str_inj,MB,AW.ext_iff,OA,Gr.ext_iff,Lz.St.ext_iff,Wt.ext_iff,_root_.and_assoc]
def ATS{a b}(c:BV a.name/\BV a.Bg)(d:BV b.name/\BV b.Bg)(w):(Op.equalIn 10000 114 (.agg (Hl a).toArray) (.agg (Hl b).toArray)).run prog w=.ok (decide (a=b)) w:=by
 apply QX dC
 .simp[Dy,E9,Ea,H9,Hl,BG,M9,F1,F2,Program.fieldsOf,underlying114];go_simp;(repeat apply PR);rfl
 simp_all[Qy,Pj,str_inj,MB,AW.ext_iff,OA,Gr.ext_iff,Lz.St.ext_iff,Dc.ext_iff,_root_.and_assoc]
def ATT{a b:Lz.St}(w:AN):(Op.equalIn 10000 44 (.agg #[vS (AJ a.Ad.1),vS (AJ a.Ad.2),vS (AJ a.A5.1),vS (AJ a.A5.2)]) (.agg #[vS (AJ b.Ad.1),vS (AJ b.Ad.2),vS (AJ b.A5.1),vS (AJ b.A5.2)])).run prog w=.ok (decide (a=b)) w:=by
 apply QX dC
 .simp[Program.fieldsOf,underlying44];go_simp;(repeat apply PR);rfl
 simp[str_inj,OA,Lz.St.ext_iff,_root_.and_assoc]
def AI5(I:AB)(a:AU Au)(ac:Nat)(b:AU Au)(bc n m i:Nat):Hd where
 Cd:=[(0,.v<|.slice a n ac),(1,.v<|.slice b m bc),(12,.v<|iV n),(13,.v<|iV i)]
 J:=I
theorem AFn{c:Type}{a b:AA c}{i:Nat}{x y:c}(h:a.take i=b.take i)(d:a[i]? =sM x)(f:b[i]? =sM y)(e:x=y):a.take (i+1)=b.take (i+1):=by ext;grind
theorem AFo{c:Type}{a b:AA c}{i:Nat}{x y:c}(d:a[i]? =sM x)(f:b[i]? =sM y)(e:x≠y):a≠b:=by grind
def AJD(f:FU)(l:AA AF):Prop:=l=Dy f
def lkR(f:Lk)(l:AA AF):Prop:=l=E9 f
def Mg(n:Nm):AA AF:=[BQ n]
def NL(f:Nm)(l:AA AF):Prop:=l=Mg f
def Ws(f l)(h:NL f l):lN l=1:=by rw[h];rfl
def AAh:Ht 154 9:=row_of kR kR
def ADB:IE 105 154 9:=⟨kR,AAh.hi⟩
def AFJ:Ht 63 8:=row_of kR kR
def AIy:IE 56 63 8:=⟨kR,AFJ.hi⟩
def ldV{I t a b o}(R:Ht t a){arr e f}(c)(h:lN c=a)(g:I b=sM (.cells arr e f))(i:∀j v,c[j]? =sM v->arr[o+j]? =sM v):
 ∀w,EJ w I->∃d,(Instr.loadAt t<|.pointer<|aO b o).run prog w=.ok (AO id<|.v<|.agg c.toArray) d/\Bl w d:=by
 have:=Wh (o:=o) R c h g i
 grind[AO,Gw]
abbrev rT{t a:Nat}(_:Ht t a):Nat:=t
def AXv{I t g a b x y}{r:Bool}(f:t∈[42,44,51,63,114,118,154,261])(h:∀w,(Op.equalIn 10000 t (.agg x)<|.agg y).run prog w=.ok r w):
 HL prog (.binOp .neq t (.tmp a) (.tmp b) g) [(a,SV.v<|.agg x),(b,SV.v<|.agg y)] [] I (.v<|vB<|!r):=by
 refine .of ?_;rintro j i w ⟨c,d,_⟩ _ _ _ o e;simp[AO]at c d;simp[execOp,e,rB,c,d];rw[run_eqGuard_agg w .neq t _ _ _ _ (Uw t f).2.2];simp[aK];rw[run_neq_struct w t _ _,h w];rfl
def Ts{u:Type}[DecidableEq u]{F S T k g}(C:u->AA AF)(P:prog.funcs[F]? =sM g)(hF:(F=65/\S=105/\T=154/\g=f65)\/(F=66/\S=56/\T=63/\g=f66)\/(F=121/\S=49/\T=114/\g=f121)\/(F=174/\S=29/\T=51/\g=f174)\/(F=175/\S=46/\T=118/\g=f175)\/(F=252/\S=83/\T=261/\g=f252))(t:∀x,lN (C x)=k)(E:IE S T k)(R:Ht T k)(I:AB){a b r s p q D J}(M:Av I (λx l=>l=C x) k a r p D)(N:Av I (λx l=>l=C x) k b s q J)(Z:lN a<=1000000)(hm:lN b<=1000000)
 (O:∀x∈a,∀y∈b,∀w,(Op.equalIn 10000 T (.agg (C x).toArray)<|.agg (C y).toArray).run prog w=.ok (decide<|x=y) w):Fn F [.v<|.slice r (lN a) p,.v<|.slice s (lN b) q] [] I (BW (.v<|vB<|decide<|a=b) I) nO:=by
 have A:∀x l,l=C x->lN l=k:=λx l h=>h▸t x;rcases hF with⟨rfl,rfl,rfl,rfl⟩|⟨rfl,rfl,rfl,rfl⟩|⟨rfl,rfl,rfl,rfl⟩|⟨rfl,rfl,rfl,rfl⟩|⟨rfl,rfl,rfl,rfl⟩|⟨rfl,rfl,rfl,rfl⟩<;>
 .refine fo P λρ Q w B=> ?_;by_cases hlen:lN a=lN b;refine gg [(10,EN (lN a:Int) (lN b:Int))]<|loop (ι:=Nat) (λi=>i<=lN a/\a.take i=b.take i) (λi=>lN a-i) (AI5 I r p s q (lN a)<|lN b) 1000 [] 0 ⟨Bm _,rfl⟩ ?_;rintro i ⟨Y,m⟩ again T;by_cases j:i<lN a;have c:i<lN b:=oG;have d:a[i]? =sM a[i]:=BS j;have f:b[i]? =sM b[i]:=BS c;have n:=O _ (DR j) _<|DR c;generalize a[i]=x at d n;generalize b[i]=y at f n;obtain⟨G,o1,v,W,K,_,rfl,q2,rfl,q4,q5⟩:=M.cell A d;obtain⟨H,o2,z,X,L,_,rfl,U,rfl,r4,V⟩:=N.cell A f;revert n;cases o:decide (x=y)<;>intro n<;>refine gg [(14,tH i<|lN a),(18,Br I E G o1 (lN a) p i j),(19,.op I _ _<|ldV (o:=o1+i*k) R (C x) (t x) q2 q5),(22,Br I E H o2 (lN b) q i c),(23,.op I _ _<|ldV (o:=o2+i*k) R (C y) (t y) U V),(24,.BZ (.binOp .neq (rT R) (.tmp 19) (.tmp 23)<|rT R) [(19,.v<|.agg (C x).toArray),(23,.v<|.agg (C y).toArray)] [] I _<|AXv (by unfold rT;decide) n),(25,sH i)] ?_;rw[Gp<|AFo d f<|of_decide_eq_false o];exact fi;exact bk again [] (i+1) ⟨oG,AFn m d f<|LO o⟩;obtain rfl:i=lN a:=oG;rw[G5<|show a=b by rw[FN,hlen,FN]at m;exact m];exact gg [(14,fH (lN a)<|lN a)]<|fi;rw[Gp λe=>hlen<|by rw[e]];exact gg [(10,Fs (lN a:Int) (lN b:Int))]<|fi
def ATg(I a b c e d f g i)(j:Av I AJD 9 a c d g)(k:Av I AJD 9 b e f i)(l:lN a<=1000000)(m:lN b<=1000000)(n:∀x∈a,BV x.id/\BV x.v.name)(o:∀x∈b,BV x.id/\BV x.v.name):Fn 65 [.v<|.slice c (lN a) d,.v<|.slice e (lN b) f] [] I (BW (.v<|vB<|decide<|a=b) I) nO:=
 Ts Dy func65 (by simp) (λ_=>rfl) ADB AAh I j k l m λ_ h _ q=>ATQ (n _ h)<|o _ q
def ATh(I a b c e d f g i)(j:Av I lkR 8 a c d g)(k:Av I lkR 8 b e f i)(l:lN a<=1000000)(m:lN b<=1000000)(n:∀x∈a,BV x.id)(o:∀x∈b,BV x.id):Fn 66 [.v<|.slice c (lN a) d,.v<|.slice e (lN b) f] [] I (BW (.v<|vB<|decide<|a=b) I) nO:=
 Ts E9 func66 (by simp) (λ_=>rfl) AIy AFJ I j k l m λ_ h _ q=>ATR (n _ h)<|o _ q
def ATb(I a b c e d f g i)(j:Av I Ll 14 a c d g)(k:Av I Ll 14 b e f i)(l:lN a<=1000000)(m:lN b<=1000000)(n:∀x∈a,BV x.name/\BV x.Bg)(o:∀x∈b,BV x.name/\BV x.Bg):Fn 121 [.v<|.slice c (lN a) d,.v<|.slice e (lN b) f] [] I (BW (.v<|vB<|decide<|a=b) I) nO:=
 Ts Hl func121 (by simp) (λ_=>rfl) Rz XG I j k l m λ_ h _ q=>ATS (n _ h)<|o _ q
def AI6(I a b c e d f g i)(j:Av I F9 5 a c d g)(k:Av I F9 5 b e f i)(l:lN a<=1000000)(m:lN b<=1000000)(n:∀x∈a,BV x.name)(o:∀x∈b,BV x.name):Fn 174 [.v<|.slice c (lN a) d,.v<|.slice e (lN b) f] [] I (BW (.v<|vB<|decide<|a=b) I) nO:=
 Ts BG func174 (by simp) (λ_=>rfl) Gx Oo I j k l m λ_ h _ q=>eqV (n _ h)<|o _ q
def ATd(I a b c e d f g i)(j:Av I Oy 3 a c d g)(k:Av I Oy 3 b e f i)(l:lN a<=1000000)(m:lN b<=1000000)(n:∀x∈a,True)(o:∀x∈b,True):Fn 175 [.v<|.slice c (lN a) d,.v<|.slice e (lN b) f] [] I (BW (.v<|vB<|decide<|a=b) I) nO:=
 Ts Ea func175 (by simp) (λ_=>rfl) V6 XH I j k l m λ_ h _ q=>ATU
def ATe(I a b c e d f g i)(j:Av I S3 7 a c d g)(k:Av I S3 7 b e f i)(l:lN a<=1000000)(m:lN b<=1000000)(n:∀x∈a,BV x.id/\BV x.v.name)(o:∀x∈b,BV x.id/\BV x.v.name):Fn 252 [.v<|.slice c (lN a) d,.v<|.slice e (lN b) f] [] I (BW (.v<|vB<|decide<|a=b) I) nO:=
 Ts H9 func252 (by simp) (λ_=>rfl) R0 AAi I j k l m λ_ h _ q=>ATV (n _ h)<|o _ q
def ATf(I:AB)(a b:AA Nm)(q r:AU Au)(l m:Nat)(D E:AA AF)(H:Av I NL 1 a q l D)(J:Av I NL 1 b r m E)(R:lN a<=1000000)(S:lN b<=1000000)(K:∀x∈a,BV x)(L:∀x∈b,BV x):
 Fn 62 [.v<|.slice q (lN a) l,.v<|.slice r (lN b) m] [] I (BW (.v<|vB<|decide<|a=b) I) nO:=by
 refine fo func62 λU M w A=> ?_;by_cases hlen:lN a=lN b;refine gg [(10,EN (lN a:Int) (lN b:Int))]<|loop (ι:=Nat) (λi=>i<=lN a/\a.take i=b.take i) (λi=>lN a-i) (AI5 I q l r m (lN a)<|lN b) 1000 [] 0 ⟨Bm _,rfl⟩ ?_;rintro i ⟨z,k⟩ again T;by_cases g:i<lN a;have c:i<lN b:=oG;have h:a[i]? =sM a[i]:=BS g;have j:b[i]? =sM b[i]:=BS c;have N:=K _<|DR g;have O:=L _<|DR c;generalize a[i]=x at h N;generalize b[i]=y at j O;obtain⟨u,d,s,P,F,o,rfl,q2,q3,q4,q5⟩:=H.cell Ws h;have q3:o=Mg x:=q3;subst q3;obtain⟨v,f,t,Q,G,p,rfl,B,r3,r4,C⟩:=J.cell Ws j;have r3:p=Mg y:=r3;subst r3;by_cases n:x=y;exact gg [(14,tH i<|lN a),(18,Br I Jr u d (lN a) l i g),(19,ED I Di rfl (d+i*1) (BQ x) q2<|q5 0 _ rfl),(22,Br I Jr v f (lN b) m i c),(23,ED I Di rfl (f+i*1) (BQ y) B<|C 0 _ rfl),(24,.eq (Value.bool<|!((Aa x).toList==(Aa y).toList)) fV gR),(25,sH i)]<|bk again [] (i+1) ⟨oG,AFn k h j n⟩;rw[Gp<|AFo h j n];exact gg [(14,tH i<|lN a),(18,Br I Jr u d (lN a) l i g),(19,ED I Di rfl (d+i*1) (BQ x) q2<|q5 0 _ rfl),(22,Br I Jr v f (lN b) m i c),(23,ED I Di rfl (f+i*1) (BQ y) B<|C 0 _ rfl),(24,.eq (Value.bool<|!((Aa x).toList==(Aa y).toList)) tV<|by grind[Aa,TY])]<|fi;have z:i=lN a:=oG;subst z;rw[G5<|show a=b by rw[FN,hlen,FN]at k;exact k];exact gg [(14,fH (lN a)<|lN a)]<|fi;rw[Gp λe=>hlen<|by rw[e]];exact gg [(10,Fs (lN a:Int) (lN b:Int))]<|fi
end Go.Proofs.YtomehhepbeiinaaGreatDoor
namespace Go.Proofs.YtomehhepbeiinaaGreatDoor
open Tryz
section
open Go.AX Lz
def AJj(I:AB){t a:Nat}(R:Ht t a){b:Nat}{arr:Ae AF}{e:BN}{d:Nat×Nat}(o:Nat)(c:AA AF)(g:lN c=a)(f:I.CW b=sM (.cells arr e d))(h:∀j v,c[j]? =sM v->arr[o+j]? =sM v):Hint:=.Kz I _ _<|Wh (I:=I.CW) (o:=o) R c g f h
def C8.Mn{j:Type}{I:AB}{a e V}{c:AA j}{s:Bi}(h:C8 I a e (c.flatMap V) s)(f:∀x,lN (V x)=a)(k:0<a):s.n=lN c/\(lN c<=maxLen->Av I.CW (λx l=>l=V x) a c s.a s.c (c.flatMap V)):=by
 have g:s.n=lN c:=by have i:=h.n;rw[HB f]at i;exact(Nat.eq_of_mul_eq_mul_right k i).symm
 refine⟨g,λm=> ?_⟩;rcases h.at_ with⟨q1,q2,q3⟩|⟨b,d,q1,q2,q3,q4,q5⟩;exact⟨⟨by rw[HB f],h.one,.inl<|g▸q1⟩,by rw[<-g,q1,q3];exact Ag _,by rw[q3];exact Bm _,Rows.flat.2 rfl⟩;refine⟨⟨by rw[HB f],h.one,.inr ⟨b,0,_,e,_,q1,q2.CW,?_⟩⟩,by rwa[<-g],q5,Rows.flat.2 rfl⟩;rw[S6];show(c.flatMap V++d).take _=_;rw[<-HB f c,TC]
structure Told(I J:AB)(size:Nat)(e:BN)(As:AA AF)(s:Bi):Prop where
 st:Cb I [] J (Bb s.a).toList
 row:C8 J size e As s
theorem Told.nil(I a e):Told I I a e [] ⟨nO,0,0⟩:=⟨.refl I [],⟨sP,sP,.inl r3⟩⟩
def Told.app{I J d e a news s b c AE}(h:Told I J d e a s)(n:lN news=d)(m:∀v∈news,v.oneCell')
 (j:lN (a++news)+lN AE=c*d) (k:s.n+1<=c) (l:c<=maxLen) (f:J b=nO) (i:Bb s.a=sM b\/J.free b):Told I (J.plus b<|.cells (a++news++AE).toArray e (0,0)) d e (a++news) ⟨sM ⟨b,0,nO⟩,s.n+1,c⟩:=by
 refine⟨h.st.trans<|(Oj (P1:=[]) (P2:=[]) (o:=.cells (a++news++AE).toArray e (0,0)) f i).cast sP<|by simp[Bb],⟨?_,?_,.inr ⟨b,AE,rfl,Li f,j,k,l⟩⟩⟩;rw[CK,h.row.n,n,Gm,Nat.one_mul];intro v g;rcases Bc.1 g with g|g;exact h.row.one v g;exact m v g
def Cb.ANO{I J P}(h:Cb I [] J P){b o}(a:I.CW b=sM o):J.CW b=sM o:=by
 cases c:I b with
 |some x=>
  rw[AB.Sj c]at a;cases a;exact AB.Sj<|h.le b _ c
 |none=>
  have a:(match I b with|some o=>sM o|none=>I.Ak b)=sM o:=a;rw[c]at a;exact(h.A2 b _ ⟨a,c⟩ sP).CW
def AB8(I:AB)(a:AA<|Nat×AK)(b:Nat)(e:BN)(c:AA AF):zP:=λ_ h=>∃s J,Told I J b e c s/\h= {r:=.v<|.slice s.a s.n s.c,AV:=a,J:=J}
def Cb.GJ{I J P}(h:Cb I [] J P):I.le J:=⟨h.le,λx y a=>h.A2 x y a sP⟩
def AXf(m:CH)(k:Ap)(l:Lz.AT)(q:Nat×Bi×AB):Hd where
 Cd:=[(0,.p 1 0),(3,.p 6 0),(5,.v<|.slice q.2.1.a q.2.1.n q.2.1.c),(11,.v<|.slice m.DD.a (lN k.Bj) m.DD.c),(12,.v<|iV<|lN k.Bj),(13,.v<|iV q.1)]
 Cc:=CL m k.im k.AD++[(6,.cells [.v<|vS<|AJ l.1,.v<|vS<|AJ l.2] 42)]
 J:=q.2.2
def AXg(a:AA FU)(l){i}(h:i<lN a):(a.take<|i+1).filter (λf=>fl f.l l)=(a.take i).filter (λf=>fl f.l l)++(if fl a[i].l l=tT then[a[i]]else[]):=by rw[Kd h,VK];congr 1;by_cases q:fl a[i].l l;rw[Ac q];simp[q];rw[AY q];simp[q]
def AKv(I L)(k:Ap)(m)(V:CZ I L k m)(hl:lN k.Bj<=1000000)(l)(D:B9 l)(W:∀f∈k.Bj,B9 f.l):
 Fn 60 [.p 1 0,DW l] (CL m k.im k.AD) I (AB8 I (CL m k.im k.AD) 9 154<|(D9 k l).flatMap Dy) nO:=by
 let⟨O,r⟩:=V.DD.Mn (V:=Dy) (λ_=>rfl) dC;have P:=r (by unfold maxLen;omega);let⟨ip,es,n,Bu,⟨S,fn,K⟩,lk,sm⟩:=m;simp only at O P;subst O;refine fo func60 λρ Y w N=>gG<|loop (ι:=Nat×Bi×AB) (λq=>q.1<=lN k.Bj/\Told I q.2.2 9 154 (((k.Bj.take q.1).filter λf=>fl f.l l).flatMap Dy) q.2.1) (λq=>lN k.Bj-q.1) (AXf ⟨ip,es,n,Bu,⟨S,lN k.Bj,K⟩,lk,sm⟩ k l) 1000 [(6,100)] (0,⟨nO,0,0⟩,I) ⟨Bm _,.nil I 9 154⟩ ?_;rintro⟨i,⟨F,j,G⟩,J⟩ ⟨z,d⟩ again T;simp only at z d;by_cases c:i<lN k.Bj;have Q:k.Bj[i]? =sM k.Bj[i]:=BS c;have p:=W _<|DR c;have a:=AXg k.Bj l c;generalize k.Bj[i]=f at Q p a;let⟨b,t,arr,e,U,Z,v,q2,q3,q4,q5⟩:=P.cell (λx l h=>by rw[h];rfl) Q;subst q3;subst v;have E:J.CW b=sM (.cells arr e U):=d.st.ANO q2;refine gg [(14,tH i<|lN k.Bj),(15,Br J ADB b t (lN k.Bj) K i c),(16,AJj J AAh (t+i*9) (Dy f) rfl E q5)]<|call (NB J f.l l p D) ?_;cases o:fl f.l l with
 |false=>
  refine gg [(25,sH i)] ?_;rw[AY<|by rw[o];simp,Hn]at a;exact bk again [] (i+1,⟨F,j,G⟩,J) ⟨by show i+1<=_;omega,by show Told I J 9 154 (((k.Bj.take<|i+1).filter _).flatMap Dy) _;rwa[a]⟩
 |true=>
  rw[Ac o]at a;have X:j<=1000000:=by have M:=d.row.n;rw[HB (n:=9) λ_=>rfl]at M;have h2:=RQ (λf=>fl f.l l)<|k.Bj.take i;have h3:=AGZ i k.Bj;simp only at M;omega
  refine gG<|act (need:=[(1088,.cells ((Dy f).map .v) 154)]) (JI (I:=J) Be (s:=⟨F,j,G⟩) (x:=.s 1088 0 1 1) (m:=1) (CQ:=((k.Bj.take i).filter λf=>fl f.l l).flatMap Dy) (news:=Dy f) AHQ kR d.row (Ez (e:=154) sP rfl<|Y7 _) dC<|by show j+1<=16777216;omega) JH ?_;rintro h' ⟨H,R,g,rfl,A,B,C,u,y⟩;have s:=d.app (AE:=g) (news:=Dy f) rfl (Y7 f) A B C u y;generalize J.plus H (.cells (((k.Bj.take i).filter λf=>fl f.l l).flatMap Dy++Dy f++g).toArray 154 (0,0))=J2 at s⊢;refine gg [(25,sH i)] ?_;exact bk again [] (i+1,⟨sM ⟨H,0,nO⟩,j+1,R⟩,J2) ⟨by show i+1<=_;omega,by show Told I J2 9 154 (((k.Bj.take<|i+1).filter _).flatMap Dy) _;rwa[a,Mu,show[f].flatMap Dy=Dy f from by simp]⟩
 have z:i=lN k.Bj:=oG;subst z;refine gg [(14,fH (lN k.Bj)<|lN k.Bj)] ?_;rw[FN]at d;exact dn [] ⟨⟨F,j,G⟩,J,d,rfl⟩
def Cb.AdN{I J K P a}(h:Cb I [] J P)(k:Cb J [] K a):Cb I [] K a where
 le:=h.le.trans k.le
 A2 x y hx _:=k.A2 x y (h.A2 x y hx sP) sP
 CE x hx:=by rcases k.CE x hx with q|q;cases q;exact .inr λy b=>q y<|h.A2 x y b sP
def Kq(f:FU):Ce:=(((((AJ (Lib.itoa f.AD)++⟨#[32]⟩)++Aa f.id)++⟨#[32]⟩)++AJ (Acx f.l))++⟨#[32]⟩)++Ael f.v
structure X5(f:FU):Prop where
 AD:f.AD<=1000000000
 id:BV f.id/\lN f.id<=1000
 l:B9 f.l
 v:WV f.v
 n: -9223372036854775808<=f.v.n/\f.v.n<=9223372036854775807
 nm:BV f.v.name/\lN f.v.name<=1000
def Ae6(v)(a: -9223372036854775808<=v.n/\v.n<=9223372036854775807)(b:BV v.name/\lN v.name<=1000):(Ael v).size<=6100:=by have c:=Lib.itoa_length_le v.n a.1 a.2;have d:=AfV v.l;have e:=Af1 v.kind;have f:=Ae0 b.1;rw[Ael];split;split;rw[XU];omega;split;omega;rw[AGK,AGK,AGK];show _+1+_+_<=_;omega;show 1<=_;omega
def ATm(I)(c:Pow I)(b:Iw I)(f)(h:X5 f):Fn 68 [.g<|(Dy f).map .v] [] I (BW (.v<|vS<|Kq f) I) nO:=by
 have n:=Lib.itoa_length_le f.AD oG (by have:=h.AD;omega);have o:=Ae0 h.id.1;have p:=Ae1 f.l;have q:=Ae6 f.v h.n h.nm;have r:=h.id.2;have a:=XU<|Lib.itoa f.AD;refine fo func68 λs e w d=> ?_;have g:(AJ (Lib.itoa f.AD)++⟨#[32]⟩).size<=22:=by rw[AGK,a];show _+1<=_;omega
 have i:((AJ (Lib.itoa f.AD)++⟨#[32]⟩)++Aa f.id).size<=4022:=by rw[AGK];omega
 have j:(((AJ (Lib.itoa f.AD)++⟨#[32]⟩)++Aa f.id)++⟨#[32]⟩).size<=4023:=by rw[AGK];show _+1<=_;omega
 have k:((((AJ (Lib.itoa f.AD)++⟨#[32]⟩)++Aa f.id)++⟨#[32]⟩)++AJ (Acx f.l)).size<=6100:=by rw[AGK];omega
 have l:(((((AJ (Lib.itoa f.AD)++⟨#[32]⟩)++Aa f.id)++⟨#[32]⟩)++AJ (Acx f.l))++⟨#[32]⟩).size<=6101:=by rw[AGK];show _+1<=_;omega
 have m:=T0 I 5 (AJ<|Lib.itoa f.AD) ⟨#[32]⟩ (by rw[a];show _+1<=_;rw[maxLen];omega);refine gG<|call (AAx I c f.AD oG (by have:=h.AD;omega)) ?_;refine gg [(6,T0 I 5 (AJ<|Lib.itoa f.AD) ⟨#[32]⟩<|by rw[a];show _+1<=_;rw[maxLen];omega),(9,WL I 6 8 (AJ (Lib.itoa f.AD)++⟨#[32]⟩) (Aa f.id)<|by rw[maxLen];omega),(10,T0 I 9 ((AJ (Lib.itoa f.AD)++⟨#[32]⟩)++Aa f.id) ⟨#[32]⟩<|by show _+1<=_;rw[maxLen];omega)] ?_;refine call (AfI I b f.l h.l)<|gg [(14,WL I 10 13 (((AJ (Lib.itoa f.AD)++⟨#[32]⟩)++Aa f.id)++⟨#[32]⟩) (AJ<|Acx f.l)<|by rw[maxLen];omega),(15,T0 I 14 ((((AJ (Lib.itoa f.AD)++⟨#[32]⟩)++Aa f.id)++⟨#[32]⟩)++AJ (Acx f.l)) ⟨#[32]⟩<|by show _+1<=_;rw[maxLen];omega)] ?_;refine call (AfO I c b f.v h.v h.n h.nm)<|gg [(19,WL I 15 18 (((((AJ (Lib.itoa f.AD)++⟨#[32]⟩)++Aa f.id)++⟨#[32]⟩)++AJ (Acx f.l))++⟨#[32]⟩) (Ael f.v)<|by rw[maxLen];omega)] ?_;exact fi
def KT(a:AA FU):AA AF:=a.map λf=>vS<|Kq f
def ASt(s:Bi)(n:Nat)(q:Nat×Bi×AB):Hd where
 Cd:=[(1,.v<|.func (.func 68) #[] #[]),(5,.v<|.slice q.2.1.a q.2.1.n q.2.1.c),(8,.v<|.slice s.a n s.c),(9,.v<|iV n),(10,.v<|iV q.1)]
 J:=q.2.2
def AS3(I)(S:Pow I)(R:Iw I)(a s)(V:C8 I 9 154 (a.flatMap Dy) s)(hl:lN a<=1000000)(U:∀f∈a,X5 f):
 Fn 67 [.v<|.slice s.a s.n s.c,.v<|.func (.func 68) #[] #[]] [] I (AB8 I [] 1 9<|KT a) nO:=by
 let⟨H,m⟩:=V.Mn (V:=Dy) (λ_=>rfl) dC;have K:=m (by unfold maxLen;omega);let⟨P,Z,F⟩:=s;simp only at H K;subst H;refine fo func67 λρ X w G=>gG<|loop (ι:=Nat×Bi×AB) (λq=>q.1<=lN a/\Told I q.2.2 1 9 (KT<|a.take q.1) q.2.1) (λq=>lN a-q.1) (ASt ⟨P,lN a,F⟩<|lN a) 1000 [] (0,⟨nO,0,0⟩,I) ⟨Bm _,.nil I 1 9⟩ ?_;rintro⟨i,⟨M,p,N⟩,J⟩ ⟨y,g⟩ again T;simp only at y g;by_cases d:i<lN a;have L:a[i]? =sM a[i]:=BS d;have k:=U _<|DR d;have c:KT (a.take<|i+1)=KT (a.take i)++[vS<|Kq a[i]]:=by unfold KT;rw[Kd d,E3];rfl
 generalize a[i]=f at L k c;let⟨b,o,arr,e,Q,Y,u,q2,q3,q4,q5⟩:=K.cell (λx l h=>by rw[h];rfl) L;subst q3;subst u;have C:J.CW b=sM (.cells arr e Q):=g.st.ANO q2;have hle:=g.st.GJ;have W:p<=1000000:=by have r:=g.row.n;unfold KT at r;rw[DG,Cu]at r;simp only at r;omega
 refine gg [(11,tH i<|lN a),(12,Br J ADB b o (lN a) F i d),(13,AJj J AAh (o+i*9) (Dy f) rfl C q5)]<|call (ATm J (S.up hle) (R.up hle) f k)<|gG<|act (need:=[(1072,.cells ([Value.string<|Kq f].map .v) 9)]) (JI (I:=J) Be (s:=⟨M,p,N⟩) (x:=.s 1072 0 1 1) (m:=1) (CQ:=KT<|a.take i) (news:=[Value.string<|Kq f]) Ve kR g.row (Ez (e:=9) sP rfl<|SQ rfl) dC<|by show p+1<=16777216;omega) JH ?_;rintro h' ⟨E,O,j,rfl,z,A,B,t,v⟩;have n:=g.app (AE:=j) (news:=[Value.string<|Kq f]) rfl (SQ rfl) z A B t v;generalize J.plus E (.cells (KT (a.take i)++[Value.string<|Kq f]++j).toArray 9 (0,0))=D at n⊢;refine gg [(20,sH i)] ?_;exact bk again [] (i+1,⟨sM ⟨E,0,nO⟩,p+1,O⟩,D) ⟨by show i+1<=_;omega,by show Told I D 1 9 (KT<|a.take<|i+1) _;rw[c];exact n⟩;have y:i=lN a:=oG;subst y;refine gg [(11,fH (lN a)<|lN a)] ?_;rw[FN]at g;exact dn [] ⟨⟨M,p,N⟩,J,g,rfl⟩
def AJC(I L k m)(e:CZ I L k m)(q:Iw I)(j:lN k.Bj<=1000000)(l)(c:B9 l)(g:∀f∈k.Bj,X5 f):
 Fn 21 [.p 1 0,DW l] (CL m k.im k.AD) I (AB8 I (CL m k.im k.AD) 1 9<|KT<|D9 k l) nO:=by
 have a:=AKv I L k m e j l c λf h=>(g f h).l;have r:=e.pow;let⟨y,x,n,u,p,z,A⟩:=m;refine fo func21 λB t w i=>gG<|A0 a [] ?_;rintro _ ⟨s,J,d,rfl⟩;refine gG ?_;have hle:=d.st.GJ;refine A0 (AS3 J (r.up hle) (q.up hle) (D9 k l) s d.row (Ch (RQ _ _) j) λf h=>g f (Ho.1 h).1) [] ?_;rintro _ ⟨v,o,b,rfl⟩;exact gG<|dn [] ⟨v,o,⟨d.st.AdN b.st,b.row⟩,rfl⟩
def AHS:Gq prog Bt 188 211 2:=⟨⟨_,rfl⟩,⟨_,_,rfl,rfl⟩,kR⟩
def YA(I:AB)(l:AA AH)(b:AU Au)(c at_:Nat)(s:Bi)(Aj:AA Lz.Op):zP:=λ_ h=>∃(a:Bi)(J:AB),Cb I (Bb s.a).toList J (Bb a.a).toList/\C8 J 2 211 (Aj.flatMap Cs) a/\h= {r:=.t [],AV:=[(1,Oe l b c at_ a)],J:=J}
def Wy(o):∀v∈Cs o,v.oneCell':=SQ rfl
def Yz(I l r t at_ s Aj)(n:C8 I 2 211 (Aj.flatMap Cs) s)(A:lN Aj<=1000000)(o):
 Fn 92 [.p 1 0,.v<|nV o.code,.v<|nV o.a] [(1,Oe l r t at_ s)] I (YA I l r t at_ s<|Aj++[o]) nO:=by
 let⟨q,_⟩:=n.Mn (V:=Cs) (λ_=>rfl) dC;let⟨u,B,y⟩:=s;simp only at q;subst q;refine fo func92 λC x w p=>gG<|act (need:=[(164,.cells ((Cs o).map .v) 211)]) (JI (I:=I) Be (s:=⟨u,lN Aj,y⟩) (x:=.s 164 0 1 1) (m:=1) (CQ:=Aj.flatMap Cs) (news:=Cs o) AHS kR n (Ez (e:=211) sP rfl<|Wy o) dC<|by show lN Aj+1<=16777216;omega) JH ?_;rintro z ⟨b,c,a,rfl,j,k,m,f,i⟩;have g:Cb I (Bb u).toList (I.plus b<|.cells (Aj.flatMap Cs++Cs o++a).toArray 211 (0,0)) [b]:=(Oj (P1:=[]) (P2:=[]) (o:=.cells (Aj.flatMap Cs++Cs o++a).toArray 211 (0,0)) f i).cast sP sP;have d:C8 (I.plus b<|.cells (Aj.flatMap Cs++Cs o++a).toArray 211 (0,0)) 2 211 ((Aj++[o]).flatMap Cs) ⟨sM ⟨b,0,nO⟩,lN Aj+1,c⟩:=by
  have e:(Aj++[o]).flatMap Cs=Aj.flatMap Cs++Cs o:=by rw[Mu];simp
  rw[e];refine⟨?_,λv h=> ?_,.inr ⟨b,a,rfl,Li f,j,k,m⟩⟩;rw[CK,HB (n:=2) λ_=>rfl];show _+2=_;simp only;omega;rcases Bc.1 h with h|h;exact n.one v h;exact Wy o v h
 generalize I.plus b (.cells (Aj.flatMap Cs++Cs o++a).toArray 211 (0,0))=J at g d⊢;exact gG<|dn [] ⟨⟨sM ⟨b,0,nO⟩,lN Aj+1,c⟩,J,g,d,rfl⟩
def AXd(I l c d at_ s Aj)(g:C8 I 2 211 (Aj.flatMap Cs) s)(f:lN Aj<=1000000)(k):
 Fn 143 [.p 1 0,.v<|iV k] [(1,Oe l c d at_ s)] I (YA I l c d at_ s<|Aj++[⟨2,k⟩]) nO:=by
 refine fo func143 λj h w e=>gG<|A0 (Yz I l c d at_ s Aj g f ⟨2,k⟩) [] ?_;rintro _ ⟨i,J,b,a,rfl⟩;exact gG<|dn [] ⟨i,J,b,a,rfl⟩
def AEU(I)(x:Nat)(a k:Nat)(h:a<=1000000)(i:0<k/\k<=1000):HL prog (.binOp .rem 3 (.tmp x) (.const (iV k)) 3) [(x,SV.v (iV a))] [] I (.v (.int iK ((a%k:Nat):Int))):=by
 refine .of ?_;rintro m g w ⟨b,_⟩ d _ _ o f;have c:=d (iV k) xO;simp[AO]at b;simp[execOp,f,rB,b,c];have j:Int.tmod (a:Int) (k:Int)=((a%k:Nat):Int):=by rw[AO0 oG];omega
 have e:(k:Int)≠0:=oG;have l:prog.underlying 3=sM (.int iK):=Ek;go_simp;rw[AY oG];rfl
def AY7(I l c d at_ s a)(k:Av I JC 1 l c d a)(g:at_<=1000000)(Aj)(j:C8 I 2 211 (Aj.flatMap Cs) s)(i:lN Aj<=1000000):
 Fn 191 [.p 1 0] [(1,Oe l c d at_ s)] I (YA I l c d (at_+1) s<|Aj++[⟨1,CN l at_%8⟩]) nO:=by
 refine fo func191 λo m w f=>gG<|A0 (AEh I l c d at_ s a k g) [] ?_;rintro _ rfl;have h:CN l at_<=1000000:=by
  rw[CN];cases l[at_]? with
  |none=>exact Bm _
  |some x=>have:=x.toNat_lt;show x.toNat<=_;omega
 refine gg [(5,.BZ (.binOp .rem 3 (.tmp 4) (.const<|.int iK ((8:Nat):Int)) 3) [(4,.v<|iV<|CN l at_)] [] I (.v<|.int iK ((CN l at_%8:Nat):Int))<|AEU I 4 (CN l at_) 8 h oG)]<|A0 (Yz I l c d (at_+1) s Aj j i ⟨1,CN l at_%8⟩) [] ?_;rintro _ ⟨n,J,e,b,rfl⟩;exact gG<|dn [] ⟨n,J,e,b,rfl⟩
def AYF(I l c d at_ s a)(k:Av I JC 1 l c d a)(g:at_<=1000000)(Aj)(j:C8 I 2 211 (Aj.flatMap Cs) s)(i:lN Aj<=1000000):
 Fn 192 [.p 1 0] [(1,Oe l c d at_ s)] I (YA I l c d (at_+1) s<|Aj++[⟨1,8+CN l at_%8⟩]) nO:=by
 refine fo func192 λo m w f=>gG<|A0 (AEh I l c d at_ s a k g) [] ?_;rintro _ rfl;have h:CN l at_<=1000000:=by
  rw[CN];cases l[at_]? with
  |none=>exact Bm _
  |some x=>have:=x.toNat_lt;show x.toNat<=_;omega
 refine gg [(5,.BZ (.binOp .rem 3 (.tmp 4) (.const<|.int iK ((8:Nat):Int)) 3) [(4,.v<|iV<|CN l at_)] [] I (.v<|.int iK ((CN l at_%8:Nat):Int))<|AEU I 4 (CN l at_) 8 h oG),(6,hW (8+((CN l at_%8:Nat):Int)) ((8+CN l at_%8:Nat):Int))]<|A0 (Yz I l c d (at_+1) s Aj j i ⟨1,8+CN l at_%8⟩) [] ?_;rintro _ ⟨n,J,e,b,rfl⟩;exact gG<|dn [] ⟨n,J,e,b,rfl⟩
structure G7(B:Nat)(I:AB)(z:AU Au)(j:Nat)(cells:AA AF)(m:Mk)(s:Bi):Prop where
 QS:Av I JC 1 m.l z j cells
 row:C8 I 2 211 (m.code.flatMap Cs) s
 at_:m.at_<=B
 len:lN m.code<=B
abbrev G0(m:Mk)(z:AU Au)(j:Nat)(s:Bi):AK:=Oe m.l z j m.at_ s
def M2(I:AB)(z:AU Au)(j:Nat)(cells:AA AF)(B:Nat)(m':Mk)(s:Bi):zP:=λ_ h=>∃(s':Bi)(J:AB),Cb I (Bb s.a).toList J (Bb s'.a).toList/\G7 B J z j cells m' s'/\h= {r:=.t [],AV:=[(1,G0 m' z j s')],J:=J}
variable{B:Nat}{I:AB}{z:Option Addr}{j:Nat}{cells:List Value}{m m':Mk}{s s':Bi}
def G7.next(h:G7 B I z j cells m s):G7 (B+1) I z j cells m.next.2 s:=⟨h.QS,h.row,O6 h.at_,LM h.len⟩
def G7.HW{J}(h:G7 B I z j cells m s)(a:Cb I (Bb s.a).toList J (Bb s'.a).toList)(b:m'.l=m.l)(d:m'.at_<=m.at_+1)(e:lN m'.code<=lN m.code+1)(c:C8 J 2 211 (m'.code.flatMap Cs) s'):G7 (B+1) J z j cells m' s':=
 ⟨by rw[b];exact Av.Bf a.le h.QS λ_ _ q=>q,c,by have:=h.at_;omega,by have:=h.len;omega⟩
def Nk(l i):CN l i<=255:=by
 rw[CN];cases l[i]? with
 |none=>exact Bm _
 |some x=>have:=x.toNat_lt;show x.toNat<=_;omega
def AEq(h:G7 B I z j cells m s)(a:B<=999999):Fn 93 [.p 1 0] [(1,G0 m z j s)] I (λ_ h=>h= {r:=.v<|iV m.next.1,AV:=[(1,G0 m.next.2 z j s)],J:=I}) nO:=
 AEh I m.l z j m.at_ s cells h.QS (by have:=h.at_;omega)
def PQ(h:G7 B I z j cells m s)(f:B<=999999)(c a):Fn 92 [.p 1 0,.v<|iV c,.v<|iV a] [(1,G0 m z j s)] I (M2 I z j cells (B+1) (m.BD c a) s) nO:=
 Fn.to (Yz I m.l z j m.at_ s m.code h.row (by have:=h.len;omega) ⟨c,a⟩) λe x=>by rintro⟨s',J,b,d,rfl⟩;exact⟨s',J,b,h.HW (m':=m.BD c a) b rfl (Cv _) (by show(m.code++[_]).length<=_;simp) d,rfl⟩
def AKu(h:G7 B I z j cells m s)(d:B<=999999)(k):Fn 143 [.p 1 0,.v<|iV k] [(1,G0 m z j s)] I (M2 I z j cells (B+1) (m.Dq k) s) nO:=
 Fn.to (AXd I m.l z j m.at_ s m.code h.row (by have:=h.len;omega) k) λc x=>by rintro⟨s',J,a,b,rfl⟩;exact⟨s',J,a,h.HW (m':=m.Dq k) a rfl (Cv _) (by show(m.code++[_]).length<=_;simp) b,rfl⟩
def AY6(h:G7 B I z j cells m s)(d:B<=999999):Fn 191 [.p 1 0] [(1,G0 m z j s)] I (M2 I z j cells (B+1) m.number s) nO:=
 Fn.to (AY7 I m.l z j m.at_ s cells h.QS (by have:=h.at_;omega) m.code h.row (by have:=h.len;omega)) λc x=>by rintro⟨s',J,a,b,rfl⟩;exact⟨s',J,a,h.HW (m':=m.number) a rfl (Ag _) (by show(m.code++[_]).length<=_;simp) b,rfl⟩
def AYE(h:G7 B I z j cells m s)(d:B<=999999):Fn 192 [.p 1 0] [(1,G0 m z j s)] I (M2 I z j cells (B+1) m.mark s) nO:=
 Fn.to (AYF I m.l z j m.at_ s cells h.QS (by have:=h.at_;omega) m.code h.row (by have:=h.len;omega)) λc x=>by rintro⟨s',J,a,b,rfl⟩;exact⟨s',J,a,h.HW (m':=m.mark) a rfl (Ag _) (by show(m.code++[_]).length<=_;simp) b,rfl⟩
theorem G7.mono{C}(h:G7 B I z j cells m s)(a:B<=C):G7 C I z j cells m s:=⟨h.QS,h.row,Ch h.at_ a,Ch h.len a⟩
def JO(I:AB)(x a k r:Nat)(d:a%k=r)(b:a<=1000000)(c:0<k/\k<=1000):Hint:=.BZ (.binOp .rem 3 (.tmp x) (.const<|iV k) 3) [(x,.v<|iV a)] [] I (.v<|iV r) (by rw[<-d];exact AEU I x a k b c)
structure X8(v:AB)(o:Bi)(B:Nat)(I:AB)(z:AU Au)(j:Nat)(cells:AA AF)(m:Mk)(s:Bi):Prop where
 st:Cb v (Bb o.a).toList I (Bb s.a).toList
 ms:G7 B I z j cells m s
section
variable {F:FuncId} {fn:Func} {n B C:Nat} {I J v:AB} {w:World} {ρ:Nat->Nat} {A:List Nat} {R:Ec} {f:Bv} {z:Option Addr} {j:Nat} {cells:List Value} {m m':Mk} {s o:Bi} {c a key:Nat} (h:X8 v o B J z j cells m s)
include h
def E6(b:B<=999999:=by omega):Fn 92 [.p 1 0,.v<|iV c,.v<|iV a] [(1,G0 m z j s)] J (M2 J z j cells (B+1) (m.BD c a) s) nO:=PQ h.ms b c a
def MZ(b:B<=999999:=by omega):Fn 143 [.p 1 0,.v<|iV c] [(1,G0 m z j s)] J (M2 J z j cells (B+1) (m.Dq c) s) nO:=AKu h.ms b c
def nuT(b:B<=999999:=by omega):Fn 191 [.p 1 0] [(1,G0 m z j s)] J (M2 J z j cells (B+1) m.number s) nO:=AY6 h.ms b
def Oa(b:B<=999999:=by omega):Fn 192 [.p 1 0] [(1,G0 m z j s)] J (M2 J z j cells (B+1) m.mark s) nO:=AYE h.ms b
def cE{G b}(k:Fn G b [(1,G0 m z j s)] J (M2 J z j cells C m' s) nO)
 (i:∀d K,X8 v o C K z j cells m' d->At F fn n I w ρ A R (rX [] n A<|f.out (BA []) {r:=.t [],AV:=[(1,G0 m' z j d)],J:=K}).f)
 (l:FH f n G [] [(1,G0 m z j s)] b J:=by exact kR)
 (e:∀d K,Rs [] n A (f.out (BA []) {r:=.t [],AV:=[(1,G0 m' z j d)],J:=K}):=by intro _ _;exact kR):At F fn n I w ρ A R f:=
 A0 k [] (hobs:=l) λ_ q=>by obtain⟨d,K,p,g,rfl⟩:=q;exact gG (i d K ⟨h.st.trans p,g⟩)<|e d K
def cN(b:AB->Mk->G8 prog)
 (g:X8 v o (B+1) J z j cells m.next.2 s->At F fn n I w ρ A R (rX (b J m) n A<|f.out (BA []) {r:=.v<|iV m.next.1,AV:=[(1,G0 m.next.2 z j s)],J:=J}).f)
 (d:B<=999999:=by omega)
 (i:FH f n 93 [] [(1,G0 m z j s)] [.p 1 0] J:=by exact kR)
 (e:Rs (b J m) n A (f.out (BA []) {r:=.v<|iV m.next.1,AV:=[(1,G0 m.next.2 z j s)],J:=J}):=by exact kR):At F fn n I w ρ A R f:=
 A0 (AEq h.ms d) [] (hobs:=i) λ_ q=>by subst q;exact gg _ (g ⟨h.st,h.ms.next⟩) e
def fE(d:B<=C:=by omega)(hend:KY Bt fn.results.toList A [] key f=sM {r:=.t [],AV:=[(1,G0 m z j s)],J:=J}:=by kernel_rfl)(b:100<=key:=by assumption):At F fn n v w ρ A (Ends A v ρ key w (M2 v z j cells C m o) nO) f:=
 dn [] ⟨s,J,h.st,h.ms.mono d,rfl⟩ hend b
end
def AEv(m:Mk):m.next.1<=255:=Nk _ _
def mR(s k:Nat)(b:0<k/\k<=1000:=by decide):AB->Mk->G8 prog:=λJ m=>[(s,JO J (s-1) m.next.1 k (m.next.1%k) rfl (Ch (AEv m) dC) b)]
def mA(s c k:Nat)(b:(0<k/\k<=1000)/\c<=1000:=by decide):AB->Mk->G8 prog:=λJ m=>(s+1,hW (c+((m.next.1%k:Nat):Int)) ((c+m.next.1%k:Nat):Int) oG (by have:=JE m.next.1 b.1.1;omega))::mR s k b.1 J m
def mE(I:AB)(s d:Nat){n r:Nat}(e:n%d=r)(b:n<=255)(x:G8 prog:=[])(g:0<d/\d<=1000:=by decide):AB->Mk->G8 prog:=λ_ _=>(s,JO I (s-1) n d r e (Ch b dC) g)::x
def aB(n:Nat):G8 prog:=[157,194,248,274].map λs=>(s,hT<|((n+1:Nat):Int)>0)
def AC3{B I z j cells m s}(h:G7 B I z j cells m s)(r:B<=999900)(b)(t:b<3):
 Fn 142 [.p 1 0,.v<|iV b] [(1,G0 m z j s)] I (M2 I z j cells (B+16) (m.FZ b) s) nO:=by
 have p:=JE m.next.2.next.1<|show 32>0 from dC;have q:=JE m.next.2.next.2.next.1<|show 4>0 from dC;have i:=AEv m.next.2.next.2;have e:=AEv m.next.2;rw[show m.FZ b=Mk.AC2 m.next.2.next.2 (m.next.1%8) (m.next.2.next.1%32) (m.next.2.next.2.next.1%4) b from rfl];generalize d:m.next.2.next.1%32=k at p⊢;generalize el:m.next.2.next.2.next.1%4=l at q⊢;replace h:X8 I s B I z j cells m s:=⟨.refl _ _,h⟩;by_cases u:k=16\/k=17\/k=19\/k=20\/k=21\/k=26\/k=28
 .obtain rfl|⟨n,rfl⟩:b=0\/∃n,b=n+1:=by cases b;exact .inl rfl;exact .inr ⟨_,rfl⟩
  .refine fo func142 λρ key w g=>gG<|cN h (mR 8 8) λh=> ?_;obtain(rfl|rfl|rfl|rfl|rfl)|(rfl|rfl):(k=16\/k=17\/k=19\/k=20\/k=21)\/(k=26\/k=28):=oG
   iterate 5 exact cN h (mE I 11 32 d e) λh=>cE h (MZ h) λ_ _ h=>cE h (Oa h) λ_ _ h=>cE h (E6 h) λ_ _ h=>fE h
   iterate 2 exact cN h (mE I 11 32 d e) λh=>cE h (E6 h) λ_ _ h=>cE h (E6 h) λ_ _ h=>fE h
  .refine fo func142 λρ key w g=>gG<|cN h (mR 8 8) λh=> ?_;obtain(rfl|rfl)|(rfl|rfl|rfl)|rfl|rfl:(k=16\/k=17)\/(k=19\/k=20\/k=21)\/k=26\/k=28:=oG
   iterate 2
    obtain rfl|rfl|rfl|rfl:l=0\/l=1\/l=2\/l=3:=oG
    iterate 4 exact cN h (mE I 11 32 d e<|aB n) λh=>cN h (mE I 164 4 el i) λh=>cE h (MZ h) λ_ _ h=>cN h (mR 171 4) λh=>cE h (E6 h) λ_ _ h=>cE h (Oa h) λ_ _ h=>cE h (E6 h) λ_ _ h=>cE h (E6 h) λ_ _ h=>fE h
   iterate 3
    obtain rfl|rfl|rfl|rfl:l=0\/l=1\/l=2\/l=3:=oG
    iterate 4 exact cN h (mE I 11 32 d e<|aB n) λh=>cN h (mE I 200 4 el i) λh=>cE h (MZ h) λ_ _ h=>cN h (mR 207 4) λh=>cE h (E6 h) λ_ _ h=>cN h (mA 212 4 4) λh=>cE h (E6 h) λ_ _ h=>cE h (Oa h) λ_ _ h=>cE h (E6 h) λ_ _ h=>cE h (E6 h) λ_ _ h=>fE h
   exact cN h (mE I 11 32 d e<|aB n) λh=>cE h (Oa h) λ_ _ h=>cE h (E6 h) λ_ _ h=>cE h (E6 h) λ_ _ h=>fE h;exact cN h (mE I 11 32 d e<|aB n) λh=>cE h (MZ h) λ_ _ h=>cE h (E6 h) λ_ _ h=>cE h (E6 h) λ_ _ h=>fE h
 .refine fo func142 λρ key w g=>gG<|cN h (mR 8 8) λh=> ?_;obtain rfl|rfl|(rfl|rfl)|(rfl|rfl|rfl)|(rfl|rfl|rfl)|(rfl|rfl|rfl)|(rfl|rfl|rfl)|rfl|(rfl|rfl|rfl)|rfl|rfl|rfl|rfl|rfl:k=0\/k=1\/(k=2\/k=3)\/(k=4\/k=5\/k=9)\/(k=6\/k=7\/k=8)\/(k=10\/k=13\/k=18)\/(k=11\/k=14\/k=15)\/k=12\/(k=22\/k=23\/k=24)\/k=25\/k=27\/k=29\/k=30\/k=31:=oG;exact cN h (mE I 11 32 d e) λh=>cE h (nuT h) λ_ _ h=>cE h (MZ h) λ_ _ h=>cN h (mA 27 7 7) λh=>cE h (E6 h) λ_ _ h=>cE h (E6 h) λ_ _ h=>fE h;exact cN h (mE I 11 32 d e) λh=>cN h (mA 38 25 2) λh=>cE h (E6 h) λ_ _ h=>cE h (Oa h) λ_ _ h=>cN h (mA 46 22 2) λh=>cE h (E6 h) λ_ _ h=>cE h (E6 h) λ_ _ h=>fE h
  iterate 2 exact cN h (mE I 11 32 d e) λh=>cE h (Oa h) λ_ _ h=>cE h (E6 h) λ_ _ h=>fE h
  iterate 3 exact cN h (mE I 11 32 d e) λh=>cE h (MZ h) λ_ _ h=>cE h (Oa h) λ_ _ h=>cE h (E6 h) λ_ _ h=>cE h (E6 h) λ_ _ h=>fE h
  iterate 3
   obtain rfl|rfl|rfl|rfl:l=0\/l=1\/l=2\/l=3:=oG
   iterate 4 exact cN h (mE I 11 32 d e) λh=>cN h (mE I 85 4 el i) λh=>cE h (MZ h) λ_ _ h=>cE h (E6 h) λ_ _ h=>cE h (E6 h) λ_ _ h=>fE h
  iterate 3 exact cN h (mE I 11 32 d e) λh=>cE h (MZ h) λ_ _ h=>cE h (E6 h) λ_ _ h=>cE h (E6 h) λ_ _ h=>fE h
  iterate 3 exact cN h (mE I 11 32 d e) λh=>cE h (MZ h) λ_ _ h=>cE h (MZ h) λ_ _ h=>cE h (E6 h) λ_ _ h=>fE h
  exact cN h (mE I 11 32 d e) λh=>cE h (Oa h) λ_ _ h=>cE h (E6 h) λ_ _ h=>cE h (E6 h) λ_ _ h=>fE h
  iterate 3 exact cN h (mE I 11 32 d e) λh=>cE h (MZ h) λ_ _ h=>cE h (Oa h) λ_ _ h=>cE h (E6 h) λ_ _ h=>fE h
  exact cN h (mE I 11 32 d e) λh=>cE h (Oa h) λ_ _ h=>cN h (mA 240 42 2) λh=>cE h (E6 h) λ_ _ h=>fE h;exact cN h (mE I 11 32 d e) λh=>cE h (MZ h) λ_ _ h=>cE h (MZ h) λ_ _ h=>cE h (E6 h) λ_ _ h=>cE h (E6 h) λ_ _ h=>fE h;exact cN h (mE I 11 32 d e) λh=>cE h (nuT h) λ_ _ h=>cE h (E6 h) λ_ _ h=>fE h;exact cN h (mE I 11 32 d e) λh=>cN h (mR 297 4) λh=>cE h (E6 h) λ_ _ h=>fE h;exact cN h (mE I 11 32 d e) λh=>cE h (E6 h) λ_ _ h=>cE h (E6 h) λ_ _ h=>fE h
variable{F:FuncId}{fn:Func}{n:Nat}{w:World}{ρ:Nat->Nat}{A:List Nat}{R:Ec}{f:Bv}
def Le(b)(I':AB)(o)(hobs:(f.rg.isNone,f.σ.im)=(true,I'))(hb:I'.B8 b o)(h0:I.Ak b=none)(h:At F fn n I w ρ A R<|f.ANR<|I'.never b o):At F fn n I w ρ A R f:=by let⟨h1,a⟩:=IC hobs;subst a;exact⟨λhF=>AYh b o h1 hb h0<|h.out hF⟩
def G7.Bq(h:G7 B I z j cells m s):s.n=lN m.code:=(h.row.Mn (λ_=>rfl) dC).1
def AUJ{l:AA Lz.Op}{x:Nat}{AE:AA AF}:∀ {i:Nat},i<lN l->BX (l.flatMap Cs++AE) (0+i*2+1) [Value.int iK (x:Int)]=(l.modify i λo=>{o with a:=x}).flatMap Cs++AE:=by
 induction l with
 |nil=>intro i h;simp at h
 |cons y l b=>
  intro i h;cases i with
  |zero=>rfl
  |succ i=>
   have:=b (by simpa using h);rw[List.modify_succ_cons,Kb,Kb,Eb,Eb,<-this];rw[show 0+(i+1)*2+1=(0+i*2+1)+2 by omega];rfl
def AUI{l:AA Lz.Op}{a:AA AF}:∀ {i:Nat} {o:Lz.Op},l[i]? =sM o->(l.flatMap Cs++a)[0+i*2+0]? =sM (iV o.code):=by
 induction l with
 |nil=>intro i o h;simp at h
 |cons y l b=>
  intro i o h;cases i with
  |zero=>simp at h;subst h;rfl
  |succ i=>
   have:=b (by simpa using h);rwa[Kb,show 0+(i+1)*2+0=(0+i*2+0)+2 by omega]
def ADv(h:G7 B I z j cells m s){b}(c:s.a=sM ⟨b,0,nO⟩)(i x:Nat)(hi:i<lN m.code):∃K,(∀ {o:Bw} {tm:Nat->SV} {key:Nat} {ad xo:Operand},o.op=.store 3 ad xo->ev tm ad=.v (.pointer<|sM ⟨b,0+i*2+1,nO⟩)->ev tm xo=.v (iV x)->HS prog o tm key [] I (λh=>h= {r:=.v undef,AV:=[],J:=K}) nO)/\
 Cb I (Bb s.a).toList K (Bb s.a).toList/\G7 B K z j cells (m.KZ i x) s/\I.Da K:=by
 have t:=h.Bq;have hl:=HB (n:=2) (f:=Cs) (λ_=>rfl) m.code;rcases h.row.at_ with⟨_,q1,_⟩|⟨b',AE,q1,q2,q3,q4,q5⟩;rw[c]at q1;cases q1;rw[c]at q1;obtain rfl:b=b':=by simpa using q1
 have d:=AUJ (x:=x) (AE:=AE) hi;have g:Cb I (Bb s.a).toList (I.plus b<|.cells ((m.code.modify i λo=>{o with a:=x}).flatMap Cs++AE).toArray 211 (0,0)) (Bb s.a).toList:=by refine⟨λ_ _ h=>h,λy o p k=>K0 p λe=> ?_,λy p=>.inl p⟩;subst e;exact k (by rw[c];simp[Bb])
 refine⟨I.plus b<|.cells ((m.code.modify i λo=>{o with a:=x}).flatMap Cs++AE).toArray 211 (0,0),λ{o tm key ad xo} h1 h2 h3=> ?_,g,⟨Av.Bf g.le h.QS λ_ _ q=>q,⟨?_,?_,.inr ⟨b,AE,c,Li q2.at_,?_,q4,q5⟩⟩,h.at_,?_⟩,λ_ _ h=>h⟩;have:=AVX (P:=prog) (L:=Bt) Be (key:=key) (need:=[]) (cs:=[Value.int iK (x:Int)]) (e:=211) h1 h2 (by rw[h3];rfl) (by rfl) (by rfl) (by rw[CK,hl];show 0+i*2+1+1<=_;omega) (SQ rfl) q2;rw[d]at this;exact this;show((m.code.modify i _).flatMap Cs).length=_;rw[HB (n:=2) (f:=Cs) λ_=>rfl,N8,t];intro v l;let⟨o,_,l⟩:=LJ.1 l;exact Wy o v l;show((m.code.modify i _).flatMap Cs).length+lN AE=_;rwa[HB (n:=2) (f:=Cs) λ_=>rfl,N8,<-hl];show(m.code.modify i _).length<=B;rw[N8];exact h.len
def AF7{K c}(hle:I.Da K):∀h:Ab,h= {r:=.v undef,AV:=[],J:=K}->h.wf I c [] []:=by rintro h rfl;exact⟨nA,nA,nA,sP,hle,sP⟩
def G7.place(h:G7 B I z j cells m s)(a:m.code≠[]):∃b,s.a=sM ⟨b,0,nO⟩:=by have c:=h.Bq;rcases h.row.at_ with⟨q,_,_⟩|⟨b,_,q,_⟩;rw[q]at c;exact(a<|ABe.1 c.symm).elim;exact⟨b,q⟩
def last_at{m:Mk}(a:m.code≠[]):m.code[lN m.code-1]? =sM (m.code.getLast?.getD Al):=by rw[P8];have:lN m.code-1<lN m.code:=Nat.sub_lt (ABg.2 a) dC;rw[BS this];rfl
def AZi(h:G7 B I z j cells m s)(hB:B<=999000)(a)(C:a<3):Fn 91 [.p 1 0,.v<|iV a] [(1,G0 m z j s)] I (M2 I z j cells (B+24) (m.part a) s) nO:=by
 have av:m.next.1<=255:=Nk m.l m.at_;have Z:=h.next;have u:=Z.Bq;generalize hk:m.next.1%8=k;have c:m.part a=(if k<3 then(if((((m.next.2.BD 20 0).FZ a).code.getLast?.getD Al).code=19)then(((m.next.2.BD 20 0).FZ a).KZ (lN m.next.2.code)<|lN ((m.next.2.BD 20 0).FZ a).code).BD 3 1 else(((((m.next.2.BD 20 0).FZ a).BD 21 0).BD 15<|lN (((m.next.2.BD 20 0).FZ a).BD 21 0).code+2).KZ (lN m.next.2.code) ((((m.next.2.BD 20 0).FZ a).BD 21 0).BD 15<|lN (((m.next.2.BD 20 0).FZ a).BD 21 0).code+2).code.length).BD 3 1)
  else if k=3 then(((m.next.2.Dq 1).BD 16 0).FZ a).KZ (lN m.next.2.code+1) (lN (((m.next.2.Dq 1).BD 16 0).FZ a).code) else m.next.2.FZ a):=by
  rw[<-hk];rfl
 refine fo func91 λρ az w aq=>gG<|A0 (AEq h oG) [] ?_;rintro _ rfl;generalize ay:m.next.2=x at*;by_cases c3:k<3;rw[Ac c3]at c;refine gg [(8,JO I 7 m.next.1 8 k hk oG oG),(19,hT<|(k:Int)<3)]<|A0 (PQ Z oG 20 0) [] ?_;rintro _ ⟨s2,J2,v,M,rfl⟩;refine gG<|A0 (AC3 M oG a C) [] ?_;rintro _ ⟨⟨sa,g,X⟩,Q,P,i,rfl⟩;let⟨D,hD,_,ai,_⟩:=V0 (x.BD 20 0) C;have T:(x.BD 20 0).code=x.code++[⟨20,0⟩]:=rfl;rw[T]at hD;generalize ar:(x.BD 20 0).FZ a=o at*;have G:lN x.code+1<=lN o.code:=by rw[hD];simp
 have S:o.code≠[]:=λq=>by rw[q]at G;simp at G
 have ad:g=lN o.code:=i.Bq;have ax:=i.len;let⟨b,t⟩:=i.place S;have t:sa=sM ⟨b,0,nO⟩:=t;subst t;rcases i.row.at_ with⟨_,q1,_⟩|⟨b',ah,q1,q2,_⟩;cases q1;obtain rfl:b=b':=by simpa using q1
 have E:((o.code.flatMap Cs++ah).toArray:Ae AF)[0+(g-1)*2+0]? =sM (.int iK ((o.code.getLast?.getD Al).code:Int)):=by rw[Mv,ad];exact AUI<|last_at S
 by_cases Y:(o.code.getLast?.getD Al).code=19;rw[Ac Y]at c;let⟨K,y,ae,d,aa⟩:=ADv i rfl s.n g (by rw[u];omega);refine gg [(34,hW ((g:Int)-1) ((g-1:Nat):Int)),(35,Br Q PN b 0 g X<|g-1),(37,.Kz Q _ _<|IZ Ek rfl q2.CW E),(38,hE ((o.code.getLast?.getD Al).code:Int) 19),(49,Br Q PN b 0 g X s.n)]<|act (need:=[]) (y (ad:=.tmp 50) (xo:=.tmp 48) kR kR kR) (AF7 aa) ?_;rintro _ rfl;refine gG<|A0 (PQ d oG 3 1) [] ?_;rintro _ ⟨s5,J5,W,p,rfl⟩;refine gG ?_;have e:m.part a=(o.KZ s.n g).BD 3 1:=by rw[c,u,ad]
 exact dn [] ⟨s5,J5,((v.trans P).trans ae).trans W,by rw[e];exact p.mono oG,by rw[e]⟩ (h:={r:=.t [],AV:=[(1,G0 ((o.KZ s.n g).BD 3 1) z j s5)],J:=J5});rw[AY Y]at c;refine gg [(34,hW ((g:Int)-1) ((g-1:Nat):Int)),(35,Br Q PN b 0 g X<|g-1),(37,.Kz Q _ _<|IZ Ek rfl q2.CW E),(38,hN ((o.code.getLast?.getD Al).code:Int) 19)]<|A0 (PQ i oG 21 0) [] ?_;rintro _ ⟨⟨a0,l,a1⟩,J4,V,d,rfl⟩;have U:l=lN (o.BD 21 0).code:=d.Bq;have aj:=d.len;refine gg [(61,hW ((l:Int)+2) ((l+2:Nat):Int))]<|A0 (PQ d oG 15<|l+2) [] ?_;rintro _ ⟨⟨ao,O,ap⟩,J5,W,p,rfl⟩;have am:O=lN ((o.BD 21 0).BD 15<|l+2).code:=p.Bq;have L:lN x.code+1<=lN ((o.BD 21 0).BD 15<|l+2).code:=by show _<=lN ((o.code++[_])++[_]);simp<;>omega
 let⟨b5,N⟩:=p.place (λq=>by rw[q]at L;simp at L);have N:ao=sM ⟨b5,0,nO⟩:=N;subst N;let⟨K,y,ag,ak,ac⟩:=ADv p rfl s.n O (by rw[u];omega);refine gg [(73,Br J5 PN b5 0 O ap s.n)]<|act (y (ad:=.tmp 74) (xo:=.tmp 72) kR kR kR) (AF7 ac) ?_;rintro _ rfl;refine gG<|A0 (PQ ak oG 3 1) [] ?_;rintro _ ⟨s7,J7,an,al,rfl⟩;refine gG ?_;have e:m.part a=(((o.BD 21 0).BD 15<|l+2).KZ s.n O).BD 3 1:=by rw[c,u,am,U]
 exact dn [] ⟨s7,J7,((((v.trans P).trans V).trans W).trans ag).trans an,by rw[e];exact al.mono oG,by rw[e]⟩;rw[AY c3]at c;by_cases c4:k=3;rw[Ac c4]at c;refine gg [(8,JO I 7 m.next.1 8 k hk oG oG),(19,hF<|(k:Int)<3),(79,hE (k:Int) 3)]<|A0 (AKu Z oG 1) [] ?_;rintro _ ⟨s2,J2,v,M,rfl⟩;refine gG<|A0 (PQ M oG 16 0) [] ?_;rintro _ ⟨s3,Q,P,i,rfl⟩;refine gG<|A0 (AC3 i oG a C) [] ?_;rintro _ ⟨⟨sa,g,X⟩,J4,V,d,rfl⟩;let⟨D,hD,_,ai,_⟩:=V0 ((x.Dq 1).BD 16 0) C;have T:((x.Dq 1).BD 16 0).code=(x.code++[⟨2,1⟩])++[⟨16,0⟩]:=rfl;rw[T]at hD;generalize au:((x.Dq 1).BD 16 0).FZ a=m4 at*;have H:lN x.code+2<=lN m4.code:=by rw[hD];simp
 have U:g=lN m4.code:=d.Bq;have aj:=d.len;have aw:=Z.len;let⟨b,t⟩:=d.place (λq=>by rw[q]at H;simp at H);have t:sa=sM ⟨b,0,nO⟩:=t;subst t;let⟨K,y,af,p,ab⟩:=ADv d rfl (s.n+1) g (by rw[u];omega);refine gg [(92,sH s.n),(98,Br J4 PN b 0 g X<|s.n+1)]<|act (need:=[]) (y (ad:=.tmp 99) (xo:=.tmp 97) kR kR kR) (AF7 ab) ?_;rintro _ rfl;refine gG ?_;have e:m.part a=m4.KZ (s.n+1) g:=by rw[c,u,U]
 exact dn [] ⟨_,K,((v.trans P).trans V).trans af,by rw[e];exact p.mono oG,by rw[e]⟩ (h:={r:=.t [],AV:=[(1,G0 (m4.KZ (s.n+1) g) z j ⟨sM ⟨b,0,nO⟩,g,X⟩)],J:=K});rw[AY c4]at c;refine gg [(8,JO I 7 m.next.1 8 k hk oG oG),(19,hF<|(k:Int)<3),(79,hN (k:Int) 3)]<|A0 (AC3 Z oG a C) [] ?_;rintro _ ⟨s2,J2,v,M,rfl⟩;refine gG ?_;exact dn [] ⟨s2,J2,v,by rw[c];exact M.mono oG,by rw[c]⟩ (h:={r:=.t [],AV:=[(1,G0 (x.FZ a) z j s2)],J:=J2})
def AZY(k c){vs e}(a:(SB f A k,f.σ.im)=(sM (vs,e),c))(h:∀b,c.free b->At F fn n I w ρ A R (f.B4 k b<|c.plus b<|.cells vs.toArray e (0,0))):At F fn n I w ρ A R f:=by let⟨d,g⟩:=IC a;subst g;exact⟨λhF=>AZZ (c:=ctx prog F fn n I w ρ A) k d λb i=>(h b i).out hF⟩
def AMZ{t kt et b m x es I'}(i:(Mo f).op=.range t x)(j:prog.underlying t=sM (.map kt et))(o:ev f.σ.tm x=.v (.map<|sM b))(c:I'.CW b=sM (.map es m))(a:OB f n [] I')
 (hnext:At F fn n I w ρ A R<|f.act {r:=.p (EL f) 0,nb:=[.Aq<|.mapIter (sM b) m #[] m],J:=I'}):At F fn n I w ρ A R f:=by
 refine act (need:=[]) (hobs:=a) (AVV (I:=I') i j o c) ?_ ?_;rintro h rfl;refine{r:=λk e=> ?_,u:=nA,n:=λb c k e=> ?_,l:=by simp,le:=AB.Hj _,d:=by simp};simp[SV.A3]at e;subst e;right;show(CX (EL f) [AK.Aq<|.mapIter (sM b) m #[] m]<|EL f+0).isSome;rw[Nv];rfl;simp at c;subst c;cases e;rintro h rfl;exact hnext
def ALc{b m k:Nat}{x:Operand}{es:Ae Ar}{CG:Ae Nat}{I':AB}{kS vS:Ar->SV}(v:(Mo f).op=.next x fF)(z:ev f.σ.tm x=.p k 0)(g:I'.CW b=sM (.map es m))(q:∀e∈es.toList,e.born<m)(i:∀e∈es.toList,∀ρ,AO ρ (kS e)=e.key)(y:∀e∈es.toList,∀ρ,AO ρ (vS e)=e.val)(p:∀e∈es.toList,(kS e).A3=[])(s:∀e∈es.toList,(vS e).A3=[])
 (o:OB f n [(k,.Aq<|.mapIter (sM b) m CG m)] I')
 (hend:(leftOf es CG).size=0->At F fn n I w ρ A R (f.act {r:=.t [.v fV],J:=I'}))
 (hnext:∀e∈(leftOf es CG).toList,At F fn n I w ρ A R<|f.act {r:=.t [.v tV,kS e,vS e],AV:=[(k,.Aq<|.mapIter (sM b) m (CG.push e.born) m)],J:=I'}):At F fn n I w ρ A R f:=by
 refine act (need:=[(k,.Aq<|.mapIter (sM b) m CG m)]) (hobs:=o) (AVU (I:=I') v z g q i y) ?_ ?_;rintro h (⟨_,rfl⟩|⟨e,a,rfl⟩);exact{r:=nA,u:=nA,n:=nA,l:=by simp,le:=AB.Hj _,d:=by simp};have c:e∈es.toList:=by rw[leftOf]at a;simp only[P4,Ho]at a;exact a.1
 refine{r:=λk i=> ?_,u:=λB j=> ?_,n:=nA,l:=by simp,le:=AB.Hj _,d:=by simp};simp[SV.A3,DF,p e c,s e c]at i;rw[A9.1 j];exact⟨A9.2 rfl,λb g=>by rw[(IC<|A9.1 g).2];rfl,nA⟩;rintro h (⟨t,rfl⟩|⟨e,a,rfl⟩);exact hend t;exact hnext e a
def AI4{b m k:Nat}{x:Operand}{es:Ae Ar}{CG:Ae Nat}{I':AB}{kS vS:Ar->SV}{e:Ar}(s:(Mo f).op=.entry x)(v:ev f.σ.tm x=.p k 0)(c:I'.CW b=sM (.map es m))(p:(es.toList.map (·.born)).Nodup)(g:e∈es.toList)(i:∀ρ,AO ρ (kS e)=e.key)(t:∀ρ,AO ρ (vS e)=e.val)(o:(kS e).A3=[])(q:(vS e).A3=[])
 (a:OB f n [(k,.Aq<|.mapIter (sM b) m (CG.push e.born) m)] I')
 (hnext:At F fn n I w ρ A R<|f.act {r:=.t [kS e,vS e],J:=I'}):At F fn n I w ρ A R f:=by
 refine act (need:=[(k,.Aq<|.mapIter (sM b) m (CG.push e.born) m)]) (hobs:=a) (AVP (I:=I') s v c p g i t) ?_ ?_;rintro h rfl;exact{r:=(λk i=>by simp[SV.A3,DF,o,q]at i),u:=nA,n:=nA,l:=by simp,le:=AB.Hj _,d:=by simp};rintro h rfl;exact hnext
def APq(I:AB)(d:AA Nm):zP:=λ_ h=>∃b c a,h= {r:=.v<|.slice (aP b) (lN d) c,J:=I.plus b<|Gh d a}/\lN d+lN a=c/\c<=maxLen/\I.free b
def ARo(I a h g c)(j:I.B8 h<|Gh a c)(u:lN a+lN c=g)(o:g<=maxLen)(v:lN a<=16777216):Fn 118 [.v<|.slice (aP h) (lN a) g] [] I (APq I a) nO:=by
 have p:∀e,Reads I e (.v<|.slice (aP h) (lN a) g) 1 (lN a) (a.map BQ):=λe=>
  (show C8 I 1 9 (a.map BQ) ⟨sM ⟨h,0,nO⟩,lN a,g⟩from⟨sP,Uv,.inr ⟨h,c,rfl,j,by simp;omega,by show lN a<=g;omega,o⟩⟩).reads (need:=e)
 have hlen:lN (a.map BQ)=lN a*1:=sP;refine Ju 8 func118 ntmps118 rfl rfl kR λρ q w k=>gg [(4,.op I _ (.v fV)<|MV (a:=sM ⟨h,0,nO⟩) (n:=lN a) (c:=g) (.tmp 3) (.const zS) AON)]<|act (need:=[(124,.As [] 9)]) (Kk Be (n:=0) (cap:=0) (vs:=[]) (CQ:=[]) (x:=.v<|.slice (aP h) (lN a) g) Ve kR sP rfl rfl sP (p _) (Ag _) (by unfold maxLen;omega)<|by show 0+lN a<=16777216;omega) (QO<|.inr ⟨_,_,_,rfl,rfl⟩) ?_;rintro s ⟨i,d,t,l,m,rfl⟩;refine gG<|AZY 140 I (vs:=a.map BQ++d) (e:=9) kR λb j=>gG ?_;exact dn [] ⟨b,i,d,by rw[FE];rfl,by simp at m⊢;omega,l,j⟩ (h:={r:=.v<|.slice (aP b) (0+lN a) i,J:=I.plus b<|.cells (a.map BQ++d).toArray 9 (0,0)})
def C5.len{a b:Type}{R}:∀ {l:AA a} {m:AA b},C5 R l m->lN l=lN m
 |_,_,.nil=>rfl
 |_,_,.cons _ h=>by simp[h.len]
def C5.erase{b c:Type}{R}:∀ {l:AA b} {m:AA c} (j:Nat),C5 R l m->C5 R (l.eraseIdx j) (m.eraseIdx j)
 |_,_,_,.nil=>by simpa using C5.nil
 |_,_,0,.cons _ h=>by simpa using h
 |_,_,j+1,.cons a h=>by simpa using C5.cons a<|h.erase j
def C5.VC{b c:Type}{R}:∀ {l:AA b} {m:AA c},C5 R l m->∀ {p:b×c},p∈l.zip m->R p.1 p.2
 |_,_,.nil,_,h=>by simp at h
 |_,_,.cons a hr,p,h=>by simp[List.zip_cons_cons,Co]at h;rcases h with rfl|h;exact a;exact hr.VC h
def C5.zip_fst{a b:Type}{R}:∀ {l:AA a} {m:AA b},C5 R l m->(l.zip m).map (·.1)=l
 |_,_,.nil=>rfl
 |_,_,.cons _ h=>by simp[h.zip_fst]
def C5.Xj{a b:Type}{R}:∀ {l:AA a} {m:AA b},C5 R l m->(l.zip m).map (·.2)=m
 |_,_,.nil=>rfl
 |_,_,.cons _ h=>by simp[h.Xj]
def ADJ{a:Ae Ar}{j:Nat}(h:j<a.size):(a.eraseIdxIfInBounds j).toList=a.toList.eraseIdx j:=by simp
def Ic.erase{a n}(h:Ic a n)(j):Ic (a.eraseIdxIfInBounds j) n:=by
 by_cases b:j<a.size;exact⟨λx c=>h.lt x gR,by rw[ADJ b];exact h.nd.sublist<|(ABX _ _).map _⟩
 grind
theorem AMA{a:Type}{l:List a}{j:Nat}{x:a}(h:l[j]? =sM x):l.Perm (x::l.eraseIdx j):=by grind[List.getElem?_eq_some_iff,Go.ChangeMaps.set_perm,List.set_getElem_self]
def PG(a:Ae Ar)(L:AA Rw)(l:AT):Ae Ar:=match G9 L l 0 with
 |some x=>a.eraseIdxIfInBounds x.1
 |none=>a
def Tg(L:AA Rw)(l:AT):AA Rw:=match G9 L l 0 with
 |some x=>L.eraseIdx x.1
 |none=>L
def AYL{d n L l}(h:C5 Hk d.toList L)(w r f)(e:w.heap[r]? =sM (.map d n)):
 (Builtin.delete_ #[176,42] f #[.map<|sM r,.agg<|HG l]).run prog w=.ok (.tuple #[]) {w with heap:=w.heap.setIfInBounds r<|.map (PG d L l) n}:=by
 have a:=ADR (w:=w) (l:=l) h;have c:=ACm (w:=w) d.isEmpty l;rw[PG];cases b:G9 L l 0 with
 |none=>
  rw[b]at a;simp[Builtin.delete_,rU Xb,MapKept.run_getObj_map e,c,a,aT,MapKept.run_setObj_map _ e]
 |some x=>
  rw[b]at a;simp[Builtin.delete_,rU Xb,MapKept.run_getObj_map e,c,a,aT,MapKept.run_setObj_map _ e]
def ASY{a L l}(h:C5 Hk a.toList L):C5 Hk (PG a L l).toList (Tg L l):=by
 rw[PG,Tg];cases b:G9 L l 0 with
 |none=>exact h
 |some x=>
  let⟨j,v⟩:=x;let⟨k,r,e,c,_⟩:=Ri b;simp only;have d:j<a.size:=by have:=(Ci.1 c).1;rw[<-h.len]at this;simp[Lt]at this;omega
  rw[ADJ d];exact h.erase j
def ASX{a n L l}(h:Ic a n):Ic (PG a L l) n:=by rw[PG];split;exact h.erase _;exact h
def AEk{d:Type}:∀ {l:AA d},l.Nodup->∀ {i j:Nat} (a:i<lN l) (b:j<lN l),l[i]=l[j]->i=j
 |x::l,h,i,j,a,b,e=>by
  let⟨f,c⟩:=GX.1 h;cases i with
  |zero=>
   grind
  |succ i=>
   cases j with
   |zero=>grind
   |succ j=>
    have:=AEk (i:=i) (j:=j) c (by simpa using a) (by simpa using b) (by simpa using e);rw[this]
def AWs{L:AA Rw}(h:(L.map (·.l)).Nodup){a b:Rw}(c:a∈L)(d:b∈L)(e:a.l=b.l):a=b:=by obtain⟨i,f,rfl⟩:=Kc c;obtain⟨j,g,rfl⟩:=Kc d;have:=AEk h (i:=i) (j:=j) (by simpa using f) (by simpa using g) (by simpa using e);subst this;rfl
def AHc{L X r0}(e:L.Perm (r0::X))(g:(L.map (·.l)).Nodup):∃k v,G9 L r0.l 0=sM (k,v)/\L[k]? =sM r0/\X.Perm (L.eraseIdx k):=by
 have c:r0∈L:=e.mem_iff.2 sP;cases b:G9 L r0.l 0 with
 |none=>grind[ACN]
 |some x=>
  let⟨j,v⟩:=x;let⟨k,r,d,a,f,_⟩:=Ri b;rw[FE]at d;subst d;have h:r=r0:=AWs g (De a) c f;subst h;exact⟨j,v,rfl,a,(List.Perm.cons_inv<|e.symm.trans<|AMA a)⟩
def ASZ{L X a}(e:L.Perm (a::X))(d:(L.map (·.l)).Nodup):(Tg L a.l).Perm X:=by let⟨k,v,b,f,c⟩:=AHc e d;rw[Tg];rw[b];exact c.symm
def AaC{L X a r}(h:L.Perm (a::X))(g:(L.map (·.l)).Nodup)(e:r.l=a.l):(KA L r).Perm (r::X):=by let⟨k,v,b,c,d⟩:=AHc h g;rw[KA];rw[e,b];exact(Go.ChangeMaps.set_perm L k ((Ci.1 c).1) r).trans<|d.symm.cons r
def C9.del{I s a n}(h:C9 I s a n){x}(K:BV x):
 ∃f,(∀(w:World)(r:Nat)(C:TypeId),w.heap[r]? =some (.map a n)->(Builtin.delete_ #[175,9] C #[.map<|some r,.string<|Aa x]).run Tryz.prog w=.ok (.tuple #[]) {w with heap:=w.heap.setIfInBounds r<|.map f n})/\C9 I (s.filter λp=>p.1 !=x) f n:=by
 let⟨l,v,b⟩:=h.perm;have c:∀e∈a.toList,MapKept.IsKey .string e.key:=λe F=>by
  obtain⟨i,g,rfl⟩:=List.getElem_of_mem F;have o:(a.toList[i],l[i]'(by rw[<-b.len];exact g))∈a.toList.zip l:=by rw[List.mem_iff_getElem];exact⟨i,by simp[<-b.len];simpa using g,sP⟩
  have:=b.VC o;rw[this.1];trivial
 have H:(l.map (·.1)).Nodup:=(v.map _).nodup_iff.2 h.nd;rcases MapKept.findNow_spec (d:=.string) (k:=.string<|Aa x) trivial a.toList 0 c with⟨q,y⟩|⟨j,e,q,y,D⟩;refine⟨a,λw r C t=> ?_,⟨⟨l,?_,b⟩,?_,λp d=>h.nm p (List.mem_filter.1 d).1,h.bo⟩⟩;have z:=MapKept.run_findKey (P:=Tryz.prog) (w:=w) Di q;simp[Builtin.delete_,run_underlying Pw,MapKept.run_getObj_map t,MapKept.run_checkKey (P:=Tryz.prog) Di<|show MapKept.IsKey .string (sV x)from trivial,z,Result.andThen,MapKept.run_setObj_map _ t];rw[List.filter_eq_self.2];exact v;intro p B;have A:=v.mem_iff.2 B;obtain⟨i,g,rfl⟩:=List.getElem_of_mem A;have G:i<lN a.toList:=by rw[b.len];exact g
 have o:(a.toList[i],l[i])∈a.toList.zip l:=by rw[List.mem_iff_getElem];exact⟨i,by simp[b.len];simpa[b.len]using g,sP⟩
 have u:=(b.VC o).1
 grind
 exact h.nd.sublist<|(List.filter_sublist).map _;rw[Nat.zero_add]at q;have m:j<a.size:=by have:=(List.getElem?_eq_some_iff.1 y).1;simpa using this
 have k:j<lN l:=by rw[<-b.len];simpa using m
 refine⟨a.eraseIdxIfInBounds j,λw r C t=>ANB (kv:=.string<|Aa x) Pw Di trivial q w r t,⟨⟨l.eraseIdx j,?_,by rw[ADJ m];exact b.erase j⟩,?_,λp d=>h.nm p (List.mem_filter.1 d).1,h.bo.erase j⟩⟩;have o:(e,l[j])∈a.toList.zip l:=by rw[List.mem_iff_getElem];refine⟨j,by simp;omega,?_⟩;have:=(List.getElem?_eq_some_iff.1 y).2;simp[<-this]
 have u:=(b.VC o).1;simp only at u;rw[D]at u;have L:l[j].1=x:=by
  have E:Dm x=Dm l[j].1:=by have:=Value.string.inj u;unfold Aa at this;exact str_inj.1 (by rw[this])
  exact(Of K (h.nm _<|v.mem_iff.1<|List.getElem_mem k) E).symm
 have J:=AMA<|List.getElem?_eq_getElem k
 grind[List.filter_eq_self]
 grind
def JA(b:Ae Ar)(L:AA Rw)(a:Ae Nat):AA Rw:=((b.toList.zip L).filter λp=> !a.contains p.1.born).map (·.2)
def ADO{f:Type}(a):∀ {Z:List f},(Z.map a).Nodup->∀ {p:f},p∈Z->∀s:Array Nat,s.contains (a p)=fF->(Z.filter λq=> !s.contains (a q)).Perm (p::Z.filter λq=> !(s.push (a p)).contains (a q))
 |[],_,_,h,_,_=>by cases h
 |x::Z,hn,p,b,s,hs=>by
  simp only[List.map_cons,List.nodup_cons]at hn;rcases List.mem_cons.1 b with rfl|b;have i:(Z.filter λq=> !(s.push (a p)).contains (a q))=Z.filter λq=> !s.contains (a q):=by grind[List.filter_congr]
  simp_all;have d:a x≠a p:=λe=>hn.1 (List.mem_map.2 ⟨p,b,e.symm⟩);have g:=ADO a hn.2 b s hs;by_cases c:s.contains (a x)
  grind
  have c:s.contains (a x)=fF:=by simpa using c
  rw[List.filter_cons_of_pos (by rw[c];simp),List.filter_cons_of_pos (by simp only[Array.contains_push,c];simp[d])];exact(g.cons x).trans (List.Perm.swap p x _)
def AXO{b n L a e}(c:C5 Hk b.toList L)(h:Ic b n)(d:e∈(leftOf b a).toList):
 ∃r,Hk e r/\r∈L/\(JA b L a).Perm (r::JA b L (a.push e.born)):=by
 rw[leftOf]at d;simp only[P4,Ho,Jf]at d;let⟨i,j⟩:=d;have k:e∈(b.toList.zip L).map (·.1):=by rwa[c.zip_fst]
 obtain⟨p,g,rfl⟩:=BI.1 k;have f:((b.toList.zip L).map λp=>p.1.born).Nodup:=by
  have:((b.toList.zip L).map λp=>p.1.born)=((b.toList.zip L).map (·.1)).map (·.born):=by rw[Gk];rfl
  rw[this,c.zip_fst];exact h.nd
 refine⟨p.2,c.VC g,by have:=c.Xj;grind,?_⟩;have:=(ADO (λp:Ar×Rw=>p.1.born) f g a j).map (·.2);exact this
def AXM{b L a}(c:C5 Hk b.toList L)(g:(leftOf b a).size=0):JA b L a=[]:=by
 rw[JA];rw[List.map_eq_nil_iff,AGT];intro p e f;have d:p.1∈b.toList:=by have:=c.zip_fst;rw[<-this];exact BI.2 ⟨p,e,rfl⟩
 have:p.1∈(leftOf b a).toList:=by rw[leftOf];simp only[P4,Ho];exact⟨d,f⟩
 grind
def AKl{a L}(b:C5 Hk a.toList L):JA a L #[]=L:=by rw[JA];rw[RO.2 λp _=>sP,b.Xj]
def SE{s}(h:(s.map (·.1)).Nodup){n o}:Am s n=some o↔(n,o)∈s:=by
 induction s with
 |nil=>simp[Am]
 |cons x s a=>
  simp only[List.map_cons,List.nodup_cons]at h;have a:=a h.2;rw[Am]at a⊢;rw[List.find?_cons];by_cases e:x.1=n;rw[show(x.1==n)=true by simp[e]];simp only[Option.map_some,Option.some.injEq,List.mem_cons];constructor;intro q;left;rw[<-q,<-e];rintro(q|q);rw[<-q];exact absurd (List.mem_map.2 ⟨(n,o),q,rfl⟩) (by rw[<-e];exact h.1);rw[show(x.1==n)=false by simp[e]];simp only[List.mem_cons];rw[a];constructor;exact .inr;rintro(q|q);exact absurd (by rw[<-q]) e;exact q
structure X6 where
 CG:Ae Nat
 es:Ae Ar
 ns:Ae Ar
 m:Nat
 Lh:AA Rw
 H:AA Rw
 G:AA Rw
 V:AA Rw
 D:AA Nm
 J:AB
structure MF(I:AB)(s:Az)(L:AA Rw)(f:Ae Ar)(n:Nat)(l:AT)(q:X6):Prop where
 p1:L.Perm (q.H++(q.G++JA f L q.CG))
 hh:∀r∈q.H,fl r.l l=fF
 gg:∀r∈q.G,fl r.l l
 vg:C5 (λa r:Rw=>a.l=r.l/\a.ns=r.ns) q.V q.G
 vh:∀r∈q.V,q.J.B8 r.b (Gh r.ns r.AE)/\lN r.ns+lN r.AE=r.c/\r.c<=maxLen
 vb:(q.V.map (·.b)).Nodup
 st:Cb I [] q.J (q.V.map (·.b))
 Gb:C5 Hk q.ns.toList q.Lh
 bo:Ic q.ns q.m
 lp:q.Lh.Perm (q.V++JA f L q.CG)
 dm:∀x,x∈q.D↔∃r∈q.H,x∈r.ns
 B0:C9 q.J (s.filter λx=> !q.D.contains x.1) q.es n
variable{s:Az}{L:List Rw}{f:Array MapEntry}{l:AT}{q:X6}
def MF.start{a m0}(hS:C9 I s a n)(hN:El I s L f m0):MF I s L f n l ⟨#[],a,f,m0,L,[],[],[],[],I⟩ where
 p1:=by show L.Perm<|[]++([]++JA f L #[]);rw[AKl hN.Gb];exact List.Perm.refl _
 hh r hr:=by cases hr
 gg r hr:=by cases hr
 vg:=.nil
 vh r hr:=by cases hr
 vb:=N9
 st:=.refl I []
 Gb:=hN.Gb
 bo:=hN.bo
 lp:=by show L.Perm<|[]++JA f L #[];rw[AKl hN.Gb];exact List.Perm.refl _
 dm x:=sP
 B0:=by have:(s.filter λx=> !([]:AA Nm).contains x.1)=s:=RO.2 λx _=>sP;show C9 I (s.filter λx=> !([]:AA Nm).contains x.1) a n;rwa[this]
def MF.Cj(h:MF I s L f n l q)(b:(L.map (·.l)).Nodup):(q.Lh.map (·.l)).Nodup:=by
 have e:∀ {V G:AA Rw},C5 (λd r:Rw=>d.l=r.l/\d.ns=r.ns) V G->V.map (·.l)=G.map (·.l):=by
  intro V G h;induction h with
  |nil=>rfl
  |cons a _ i=>simp[a.1,i]
 have c:((q.H++(q.G++JA f L q.CG)).map (·.l)).Nodup:=(h.p1.map _).nodup_iff.1 b;rw[E3]at c;rw[(h.lp.map _).nodup_iff,E3,e h.vg,<-E3];exact (Gl.1 c).2.1
def MF.Ads(h:MF I s L f n l q)(g:(L.map (·.l)).Nodup){born r}(hl:(JA f L q.CG).Perm (r::JA f L (q.CG.push born)))(k:fl r.l l){b c AE}(hc:lN r.ns+lN AE=c)(hm:c<=maxLen)(hb:q.J.free b):
 MF I s L f n l {q with CG:=q.CG.push born,ns:=(putRow q.ns q.m q.Lh r.l<|.slice (aP b) (lN r.ns) c).1,m:=(putRow q.ns q.m q.Lh r.l<|.slice (aP b) (lN r.ns) c).2,Lh:=KA q.Lh ⟨r.l,r.ns,b,c,AE⟩,G:=r::q.G,V:=⟨r.l,r.ns,b,c,AE⟩::q.V,J:=q.J.plus b<|Gh r.ns AE} where
 p1:=h.p1.trans<|VH _<|(VH _ hl).trans TA
 hh:=h.hh
 gg d a:=by rcases Co.1 a with rfl|a;exact k;exact h.gg d a
 vg:=.cons ⟨rfl,rfl⟩ h.vg
 vh d a:=by rcases Co.1 a with rfl|a;exact⟨Li hb.1,hc,hm⟩;have h0:=h.vh d a;exact⟨K0 h0.1 (λe=>by have:=h0.1.Ak;rw[e,hb.2]at this;cases this),h0.2⟩
 vb:=by show((⟨r.l,r.ns,b,c,AE⟩::q.V).map (·.b)).Nodup;rw[E4,GX];refine⟨λj=> ?_,h.vb⟩;let⟨d,i,e⟩:=BI.1 j;have:=(h.vh d i).1.Ak;rw[show d.b=b from e,hb.2]at this;cases this
 st:=h.st.trans ((Oj (a:=nO) (P1:=[]) (P2:=q.V.map (·.b)) (o:=Gh r.ns AE) hb.1<|.inr hb).cast (by simp[Bb]) sP)
 Gb:=AMR (r:=⟨r.l,r.ns,b,c,AE⟩) h.Gb
 bo:=AMQ h.bo
 lp:=AaC (r:=⟨r.l,r.ns,b,c,AE⟩) (h.lp.trans<|(VH _ hl).trans TA) (h.Cj g) rfl
 dm:=h.dm
 B0:=C9.Bf (I:=q.J) (J:=q.J.plus b<|Gh r.ns AE) (λ_ _ j=>j) h.B0
def MF.hidden(h:MF I s L f n l q)(c:(L.map (·.l)).Nodup){born r}(hl:(JA f L q.CG).Perm (r::JA f L (q.CG.push born)))(e:fl r.l l=fF){es}(hs:C9 q.J (s.filter λx=> !(q.D++r.ns).contains x.1) es n):
 MF I s L f n l {q with CG:=q.CG.push born,es:=es,ns:=PG q.ns q.Lh r.l,Lh:=Tg q.Lh r.l,H:=r::q.H,D:=q.D++r.ns} where
 p1:=h.p1.trans<|(VH _<|(VH _ hl).trans TA).trans TA
 hh a d:=by rcases Co.1 d with rfl|d;exact e;exact h.hh a d
 gg:=h.gg
 vg:=h.vg
 vh:=h.vh
 vb:=h.vb
 st:=h.st
 Gb:=ASY h.Gb
 bo:=ASX h.bo
 lp:=ASZ (h.lp.trans<|(VH _ hl).trans TA)<|h.Cj c
 dm x:=by show x∈q.D++r.ns↔∃a∈r::q.H,x∈a.ns;rw[Bc,h.dm];constructor;rintro(⟨a,h1,b⟩|h1);exact⟨a,by simp[h1],b⟩;exact⟨r,sP,h1⟩;rintro⟨a,h1,b⟩;rcases Co.1 h1 with rfl|h1;exact .inr b;exact .inl ⟨a,h1,b⟩
 B0:=hs
def MF.ATx{W}(h:MF I s L f n l q)(hN:El I s L f W)(t:(s.map (·.1)).Nodup)(T:JA f L q.CG=[]):
 Cb I [] q.J (q.Lh.map (·.b))/\C9 q.J (GU s l) q.es n/\El q.J (GU s l) q.Lh q.ns q.m:=by
 have C:=h.p1;have m:=h.lp;rw[T,Hn]at C m;have B:∀ {V G:AA Rw},C5 (λp r:Rw=>p.l=r.l/\p.ns=r.ns) V G->(∀p∈V,∃r∈G,p.l=r.l/\p.ns=r.ns)/\∀r∈G,∃p∈V,p.l=r.l/\p.ns=r.ns:=by
  intro V G h;induction h with
  |nil=>exact⟨nA,nA⟩
  |cons a _ S=>
   refine⟨λr b=> ?_,λr b=> ?_⟩;rcases Co.1 b with rfl|b;exact⟨_,sP,a⟩;let⟨x,c,d⟩:=S.1 r b;exact⟨x,by simp[c],d⟩;rcases Co.1 b with rfl|b;exact⟨_,sP,a⟩;let⟨x,c,d⟩:=S.2 r b;exact⟨x,by simp[c],d⟩
 let⟨j,M⟩:=B h.vg;have i:∀r∈q.G,r∈L:=λr b=>C.mem_iff.2<|HZ _ b;have N:∀r∈q.H,r∈L:=λr b=>C.mem_iff.2<|GC _ b;have z:(s.filter λx=> !q.D.contains x.1)=GU s l:=by
  rw[GU];refine ABY λx u=> ?_;have R:Am s x.1=sM x.2:=(SE t).2 u;let⟨r,b,P,Q⟩:=(hN.mem x.1 x.2.l).2 ⟨x.2,R,rfl⟩;by_cases w:fl x.2.l l;rw[w];have:x.1∉q.D:=λU=>by let⟨E,c,d⟩:=(h.dm _).1 U;let⟨o1,e,v⟩:=(hN.mem x.1 E.l).1 ⟨E,N E c,rfl,d⟩;rw[R]at e;cases e;have:=h.hh E c;rw[<-v,w]at this;cases this
  simp[this];have w:fl x.2.l l=fF:=by simpa using w
  rw[w];have:x.1∈q.D:=by rcases Bc.1 (C.mem_iff.1 b)with y|y;exact(h.dm _).2 ⟨r,y,Q⟩;have:=h.gg r y;rw[P,w]at this;cases this
  simp[this]
 have k:((GU s l).map (·.1)).Nodup:=t.sublist<|(S7).map _;have A:∀ {r:Rw},r∈q.G->∀ {x:Nm},x∈r.ns->∃o,Am (GU s l) x=sM o/\o.l=r.l:=λ{r} b {x} u=>by let⟨o,c,d⟩:=(hN.mem x r.l).1 ⟨r,i r b,rfl,u⟩;refine⟨o,(SE k).2 ?_,d⟩;rw[GU];rw[Ho];exact⟨(SE t).1 c,by show fl o.l l;rw[d];exact h.gg r b⟩
 have O:∀x∈q.Lh.map (·.b),x∈q.V.map (·.b):=λx u=>(m.map (·.b)).mem_iff.1 u;refine⟨⟨h.st.le,h.st.A2,λx u=>h.st.CE x<|O x u⟩,z▸h.B0,⟨h.Gb,λr b=>h.vh r<|m.mem_iff.1 b,(m.map _).nodup_iff.2 h.vb,h.Cj hN.lb,λr b=> ?_,λr b=> ?_,λx Cj=>⟨?_,?_⟩,h.bo,λr b=> ?_,λr b=> ?_⟩⟩;let⟨g,c,d,e⟩:=j r<|m.mem_iff.1 b;rw[e];exact hN.ok g<|i g c;let⟨g,c,d,e⟩:=j r<|m.mem_iff.1 b;rw[e];have:=Wq (hN.Z9 g<|i g c) (m:=(GU s l).map (·.1)) λx u=>by let⟨o,v,_⟩:=A c u;exact BI.2 ⟨(x,o),(SE k).1 v,rfl⟩
 simpa using this;rintro⟨r,b,d,e⟩;let⟨g,v,F,H⟩:=j r<|m.mem_iff.1 b;rw[H]at e;let⟨o,J,K⟩:=A v e;exact⟨o,J,by rw[K,<-F,d]⟩;rintro⟨o,d,e⟩;have D:=(SE k).1 d;rw[GU]at D;rw[Ho]at D;let⟨r,b,v,F⟩:=(hN.mem x o.l).2 ⟨o,(SE t).2 D.1,rfl⟩;rcases Bc.1 (C.mem_iff.1 b)with y|y;have:=h.hh r y;have w:fl o.l l:=D.2;rw[v,w]at this;cases this;let⟨p,H,J,K⟩:=M r y;exact⟨p,m.mem_iff.2 H,by rw[J,v,e],by rwa[K]⟩;let⟨g,c,d,e⟩:=j r<|m.mem_iff.1 b;rw[e];exact hN.Z9 g<|i g c;let⟨g,c,d,e⟩:=j r<|m.mem_iff.1 b;rw[e];exact hN.ne g<|i g c
def UD(e:Ar):SV:=match e.key with
 | .agg a=>.g<|a.toList.map .v
 |v=>.v v
def AKF(e a):AO a (UD e)=e.key:=by rw[UD];split;simp_all[AO,Gw];rfl
def AKI(l:AA AF):DF (l.map .v)=[]:=by
 induction l with
 |nil=>rfl
 |cons x l a=>simp[DF,SV.A3,a]
def AKG(e):(UD e).A3=[]:=by rw[UD];split;exact AKI _;rfl
abbrev AKY(l:AT):AA SV:=[.v<|vS<|AJ l.1,.v<|vS<|AJ l.2]
def AJp(b d:Nat)(c:Ae Ar)(n:Nat)(l:AT)(a:Ae Nat)(e f:Ae Ar)(m:Nat):AA (Nat×AK):=
 [(1,.cells [.m 2,.v<|.map<|sM b] 178),(2,.Aq<|.map c n),(6,.cells (AKY l) 42),(7,.cells [.m 9,.m 10] 178),(8,.Aq<|.mapIter (sM b) d a d),(9,.Aq<|.map e n),(10,.Aq<|.map f m)]
def AU6(b m0:Nat)(a:Ae Ar)(n:Nat)(l:AT)(q:X6):Hd where
 Cd:=[(3,.p 6 0),(5,.p 7 0),(26,.p 8 0)]
 Cc:=AJp b m0 a n l q.CG q.es q.ns q.m
 J:=q.J
def AU7(b m0:Nat)(a:Ae Ar)(n:Nat)(l:AT)(CG:Ae Nat)(ns:Ae Ar)(m:Nat)(J:AB)(r:Rw)(x:Nat×Ae Ar):Hd where
 Cd:=[(3,.p 6 0),(5,.p 7 0),(6,.p 11 0),(26,.p 8 0),(42,.v r.val),(43,.v<|iV<|lN r.ns),(44,.v<|iV x.1)]
 Cc:=AJp b m0 a n l CG x.2 ns m++[(11,.cells (AKY r.l) 42)]
 J:=J
def AGw(I:AB)(s:Az)(l:AT)(e:Ae Ar)(n b:Nat):zP:=λa h=>∃(c d:Ae Ar)(g:Nat)(f:AA Rw)(J:AB),Cb I [] J (f.map (·.b))/\C9 J (GU s l) c n/\El J (GU s l) f d g/\
 h= {r:=.p a 0,AV:=[(1,.cells [.m 2,.v<|.map<|sM b] 178),(2,.Aq<|.map e n)],nb:=[.cells [.m<|a+1,.m<|a+2] 178,.Aq<|.map c n,.Aq<|.map d g],J:=J}
def AVB(I s L F g n m b)(hS:C9 I s F n)(hN:El I s L g m)(N:I.Ak b=sM (.map g m))(l)(ad:B9 l)(Z:∀r∈L,B9 r.l)(ai:∀r∈L,lN r.ns<=1000000)(S:I b=nO):
 Fn 59 [.p 1 0,DW l] [(1,.cells [.m 2,.v<|.map<|sM b] 178),(2,.Aq<|.map F n)] I (AGw I s l F n b) nO:=by
 refine fo func59 λρ aj w ah=>gG<|A0 (ARj I F n) [(1,2)] ?_;rintro _ rfl;refine gG<|A0 (ARm I b g m N) [] ?_;rintro _ rfl;refine gG<|AMZ (t:=176) (kt:=42) (et:=38) (b:=b) (m:=m) (es:=g) (x:=.tmp 25) (I':=I) kR Xb kR (show I.B8 b (.map g m)from⟨N,S⟩).CW kR<|gG<|loop (ι:=X6) (λq=>MF I s L g n l q) (λq=>lN<|JA g L q.CG) (AU6 b m F n l) 1000 [(6,100),(7,204),(8,252),(9,148),(10,188)] ⟨#[],F,g,m,L,[],[],[],[],I⟩ (.start hS hN) ?_;rintro⟨a,K,c,z,t,H,G,V,D,J⟩ C again T;have U:J.B8 b (.map g m):=C.st.A2 _ _ ⟨N,S⟩ sP;refine gG<|ALc (b:=b) (m:=m) (k:=8) (x:=.tmp 26) (es:=g) (CG:=a) (I':=J) (kS:=UD) (vS:=λe=>.v e.val) kR kR U.CW hN.bo.lt (λe _=>AKF e) (λ_ _ _=>rfl) (λe _=>AKG e) (λ_ _=>rfl) kR (λh0=> ?_) λe he=> ?_;have h:=C.ATx hN hS.nd<|AXM hN.Gb h0;exact gG<|dn [7,9,10] ⟨K,c,z,t,J,h.1,h.2.1,h.2.2,rfl⟩;let⟨r,ae,Q,d⟩:=AXO hN.Gb hN.bo he;have ab:e∈g.toList:=by rw[leftOf]at he;simp only[P4,Ho]at he;exact he.1
 let⟨ek,ev,born⟩:=e;let⟨X,Y⟩:=ae;simp only at X Y d;subst X Y;have i:=hN.B8 r Q;have k:J.B8 r.b (Gh r.ns r.AE):=C.st.A2 _ _ i.1 sP;have B:lN (JA g L<|a.push born)<lN (JA g L a):=by have:=d.length_eq;rw[FM]at this;omega
 refine gG<|AI4 (b:=b) (m:=m) (k:=8) (x:=.tmp 26) (es:=g) (CG:=a) (I':=J) (kS:=UD) (vS:=λe=>.v e.val) (e:=⟨.agg<|HG r.l,r.val,born⟩) kR kR U.CW hN.bo.nd ab (AKF _) (λ_=>rfl) (AKG _) rfl kR<|gG<|call (NB J r.l l (Z r Q) ad) ?_;cases W:fl r.l l with
 |true=>
  refine gG<|A0 (ARo J r.ns r.b r.c r.AE k i.2.1 i.2.2 gR) [] ?_;rintro _ ⟨o,A,f,rfl,h1,h2,h3⟩;have P:=C.Ads hN.lb d W h1 h2 h3;exact gG<|Qv (t:=176) (km:=10) (m0:=z) (m1:=(putRow c z t r.l<|.slice (aP o) (lN r.ns) A).2) (es:=c) (es':=(putRow c z t r.l<|.slice (aP o) (lN r.ns) A).1) (m:=.tmp 38) (k:=.tmp 39) (x:=.tmp 41) (kv:=.agg<|HG r.l) (v:=.slice (aP o) (lN r.ns) A) (sk:=DW r.l) (sx:=.v<|.slice (aP o) (lN r.ns) A) (I':=J.plus o<|Gh r.ns f) kR kR kR (λ_=>rfl) kR (λ_=>rfl) (λw rr N=>ALQ C.Gb w rr N) kR<|gG<|bk again [] ⟨a.push born,K,(putRow c z t r.l<|.slice (aP o) (lN r.ns) A).1,(putRow c z t r.l<|.slice (aP o) (lN r.ns) A).2,KA t ⟨r.l,r.ns,o,A,f⟩,H,r::G,⟨r.l,r.ns,o,A,f⟩::V,D,J.plus o<|Gh r.ns f⟩ P (hm:=B)
 |false=>
  refine gG<|loop (ι:=Nat×Ae Ar) (λx=>x.1<=lN r.ns/\C9 J (s.filter λp=> !(D++r.ns.take x.1).contains p.1) x.2 n) (λx=>lN r.ns-x.1) (AU7 b m F n l (a.push born) c z J r) 3000 [(11,1040)] (0,K) ⟨Bm _,by simpa using C.B0⟩ ?_;rintro⟨j,R⟩ ⟨hj,y⟩ u T2;simp only at hj y;by_cases v:j<lN r.ns;let⟨M,aa,af⟩:=y.del<|F5<|hN.ok r Q _<|DR v;have O:(r.ns.map BQ++r.AE).toArray[0+j*1]? =sM (vS<|Aa r.ns[j]):=by simp[List.getElem?_append,v,BQ]
  have ag:C9 J (s.filter λp=> !(D++r.ns.take (j+1)).contains p.1) M n:=by
   have:(s.filter λp=> !(D++r.ns.take (j+1)).contains p.1)=((s.filter λp=> !(D++r.ns.take j).contains p.1).filter λp=>p.1 !=r.ns[j]):=by rw[List.filter_filter];refine ABY λp _=> ?_;rw[Kd v,<-Eb];generalize D++r.ns.take j=E;rw[F0];simp only[List.contains_eq_mem,Bc,A9,Jf,AGf,CJ,VT,ne_eq,Jk];exact And.comm
   rwa[this]
  exact gg [(45,tH j<|lN r.ns),(46,Br J Jr r.b 0 (lN r.ns) r.c j v),(47,.Kz J _ _<|IZ (I:=J.CW) Di rfl k.CW O)]<|AYK (t:=175) (kt:=9) (km:=9) (m0:=n) (m:=.tmp 51) (k:=.tmp 52) (kv:=vS<|Aa r.ns[j]) (sk:=.v<|vS<|Aa r.ns[j]) (es:=R) (es':=M) (I':=J) kR rfl kR kR (λ_=>rfl) aa kR<|gg [(53,hW ((j:Int)+1) ((j+1:Nat):Int) oG gR)]<|bk u [] (j+1,M) ⟨by assumption,ag⟩;have hj:j=lN r.ns:=oG;subst hj;rw[FN]at y;exact gg [(45,fH (lN r.ns)<|lN r.ns)]<|AYK (t:=176) (kt:=42) (km:=10) (m0:=z) (m:=.tmp 57) (k:=.tmp 58) (kv:=.agg<|HG r.l) (sk:=DW r.l) (es:=c) (es':=PG c t r.l) (I':=J) kR rfl kR kR (λ_=>rfl) (λw rr ty N=>AYL C.Gb w rr ty N) kR<|gG<|bk again [] ⟨a.push born,R,PG c t r.l,z,Tg t r.l,r::H,G,V,D++r.ns,J⟩ (C.hidden hN.lb d W y) (hm:=B)
def WM(a b:Nm)(r:Bool)(c:BV a)(d:BV b)(h:decide (a=b)=r):Hint:=.eq (Value.bool<|(Aa a).toList==(Aa b).toList) (vB r) (by unfold Aa;grind[TY])
def AXn(I x y)(a b:Bool):HL prog (.binOp .eql 4 (.tmp x) (.tmp y) 4) [(x,SV.v<|vB a),(y,SV.v<|vB b)] [] I (.v<|vB<|a==b):=by refine .of ?_;rintro g f w ⟨c,d,_⟩ _ _ _ o e;simp[AO]at c d;simp[execOp,e,rB,c,d];rfl
def AXo(I x y)(a b:Bool):HL prog (.binOp .neq 4 (.tmp x) (.tmp y) 4) [(x,SV.v<|vB a),(y,SV.v<|vB b)] [] I (.v<|vB<|!(a==b)):=by refine .of ?_;rintro g f w ⟨c,d,_⟩ _ _ _ o e;simp[AO]at c d;simp[execOp,e,rB,c,d];rfl
def hBE(I:AB)(x y:Nat)(a b r:Bool)(h:decide (a=b)=r):Hint:=.BZ (.binOp .eql 4 (.tmp x) (.tmp y) 4) [(x,.v<|vB a),(y,.v<|vB b)] [] I (.v<|vB r) (by subst h;exact AXn I x y a b)
def ZG(I:AB)(x y:Nat)(a b r:Bool)(h:decide (a=b)=r):Hint:=.BZ (.binOp .neq 4 (.tmp x) (.tmp y) 4) [(x,.v<|vB a),(y,.v<|vB b)] [] I (.v<|vB<|!r) (by subst h;exact AXo I x y a b)
def hUE(a b:AH)(r:Bool)(h:decide (a=b)=r):Hint:=.eq (Value.bool<|(a.toNat:Int)==(b.toNat:Int)) (vB r) (by grind[AK8])
def hUN(a b:AH)(r:Bool)(h:decide (a=b)=r):Hint:=.eq (Value.bool<|(a.toNat:Int) !=(b.toNat:Int)) (vB<|!r) (by grind[AK8])
def ZH(a b:Nat)(r:Bool)(h:decide (a=b)=r):Hint:=.eq (Value.bool<|(a:Int)==(b:Int)) (vB r) (by grind[Pj])
def Qe(a b:Nat)(r:Bool)(h:decide (a=b)=r):Hint:=.eq (Value.bool<|(a:Int) !=(b:Int)) (vB<|!r) (by grind[Pj])
def AJi(I:AB)(x y:Nat)(a b:AW)(c:BV a.name)(d:BV b.name)(r:Bool)(e:decide (a=b)=r)(f:BN:=51):Hint:=
 .BZ (.binOp .neq 51 (.tmp x) (.tmp y) f) [(x,Do a),(y,Do b)] [] I (.v<|vB<|!r)<|AK2 dC λ_ w=>e▸eqV c d w
def AJf(I:AB)(x y:Nat)(a b:Lz.St)(r:Bool)(c:decide (a=b)=r)(d:BN:=44):Hint:=
 .BZ (.binOp .eql 44 (.tmp x) (.tmp y) d) [(x,Jv a),(y,Jv b)] [] I (.v<|vB r)<|AKx dC λ_ w=>c▸ATT w
def AUf{a b:Cw}:a=b↔a.fn=b.fn/\a.pc=b.pc/\a.Cp=b.Cp/\a.AR=b.AR/\a.Ai=b.Ai:=by let⟨_,_,_,_,_⟩:=a;let⟨_,_,_,_,_⟩:=b;simp[_root_.and_assoc]
def Ac7{a b:AL}:a=b↔a.id=b.id/\a.Bg=b.Bg/\a.g=b.g/\a.c=b.c/\a.AI=b.AI/\a.A7=b.A7/\a.Ao=b.Ao/\a.Aw=b.Aw/\a.on=b.on/\a.v=b.v/\a.ex=b.ex:=by let⟨_,_,_,_,_,_,_,_,_,_,_⟩:=a;let⟨_,_,_,_,_,_,_,_,_,_,_⟩:=b;simp[_root_.and_assoc]
def Adu{a b:Vr}:a=b↔a.full=b.full/\a.v=b.v/\a.q=b.q:=by let⟨_,_,_⟩:=a;let⟨_,_,_⟩:=b;simp[_root_.and_assoc]
def AZB{a b:Ob}:a=b↔a.kind=b.kind/\a.l=b.l/\a.v=b.v/\a.ex=b.ex/\a.done=b.done/\a.var=b.var/\a.fn=b.fn/\a.AR=b.AR:=by let⟨_,_,_,_,_,_,_,_⟩:=a;let⟨_,_,_,_,_,_,_,_⟩:=b;simp[_root_.and_assoc]
def ASI{a b:Ay}:a=b↔a.AG=b.AG/\a.stack=b.stack/\a.AP=b.AP:=by let⟨_,_,_⟩:=a;let⟨_,_,_⟩:=b;simp[_root_.and_assoc]
structure ABu(c:Ay):Prop where
 l:Kf c
 f:∀f∈c.AG,lN f.Ai<=1000000/\∀v∈f.Ai,BV v.name
 s:∀v∈c.stack,BV v.name
theorem AQA(I f g c d a b o p)(q:F3 I f.Ai c a o)(r:F3 I g.Ai d b p)(k:lN f.Ai<=1000000/\∀v∈f.Ai,BV v.name)(l:lN g.Ai<=1000000/\∀v∈g.Ai,BV v.name):Fn 173 [ADg f c a,ADg g d b] [] I (BW (.v<|vB<|decide<|f=g) I) nO:=by rw[show decide (f=g)=(decide (f.fn=g.fn)&&(decide (f.pc=g.pc)&&(decide (f.Cp=g.Cp)&&(decide (f.AR=g.AR)&&(decide<|f.Ai=g.Ai)))))from F0.2<|by simp[AUf]];generalize e:decide (f.fn=g.fn)=r1;generalize h:decide (f.pc=g.pc)=r2;generalize i:decide (f.Cp=g.Cp)=r3;generalize j:decide (f.AR=g.AR)=r4;refine fo func173 λt s w m=> ?_;cases n:r1&&(r2&&(r3&&(r4)));exact gg [(9,Qe f.fn g.fn r1 e),(15,Qe f.pc g.pc r2 h),(22,Qe f.Cp g.Cp r3 i),(29,hUN f.AR g.AR r4 j)] (fi<|by cases r1;exact kR;cases r2;exact kR;cases r3;exact kR;cases r4;exact kR;grind) (by cases r1;exact kR;cases r2;exact kR;cases r3;exact kR;cases r4;exact kR;grind);simp[CJ]at n;obtain⟨rfl,rfl,rfl,rfl⟩:=n;refine gg [(9,Qe f.fn g.fn tT e),(15,Qe f.pc g.pc tT h),(22,Qe f.Cp g.Cp tT i),(29,hUN f.AR g.AR tT j)]<|call (AI6 I f.Ai g.Ai c d a b o p q r k.1 l.1 k.2 l.2) ?_;cases decide (f.Ai=g.Ai)<;>exact gG fi
def AS7(I:AB)(a:AU Au)(ac:Nat)(b:AU Au)(bc n m i:Nat):Hd where
 Cd:=[(1,.v<|.slice b m bc),(2,.v<|.func (.func 173) #[] #[]),(15,.v<|.slice a n ac),(16,.v<|iV n),(17,.v<|iV i)]
 J:=I
def ATc(I a b z A o p O P)(S:Av I (Gd I) 5 a z o O)(U:Av I (Gd I) 5 b A p P)(hl:lN a<=1000000)(hm:lN b<=1000000)(V:∀f∈a,lN f.Ai<=1000000/\∀v∈f.Ai,BV v.name)(W:∀f∈b,lN f.Ai<=1000000/\∀v∈f.Ai,BV v.name):
 Fn 172 [.v<|.slice z (lN a) o,.v<|.slice A (lN b) p,.v<|.func (.func 173) #[] #[]] [] I (BW (.v<|vB<|decide<|a=b) I) nO:=by
 refine fo func172 λρ X w J=> ?_;by_cases hlen:lN a=lN b;refine gg [(14,EN (lN a:Int) (lN b:Int))]<|loop (ι:=Nat) (λi=>i<=lN a/\a.take i=b.take i) (λi=>lN a-i) (AS7 I z o A p (lN a)<|lN b) 1000 [] 0 ⟨Bm _,rfl⟩ ?_;rintro i ⟨H,n⟩ again T;by_cases j:i<lN a;have c:i<lN b:=oG;have k:a[i]? =sM a[i]:=BS j;have m:b[i]? =sM b[i]:=BS c;have K:=V _<|DR j;have L:=W _<|DR c;generalize a[i]=x at k K;generalize b[i]=y at m L;obtain⟨F,d,D,e1,Q,q,rfl,q2,q3,q4,q5⟩:=S.cell (JN I) k;let⟨t,ca,Y,q3,B⟩:=q3;have q3:q=Qb x t ca:=q3;subst q3;obtain⟨G,g,E,e2,R,r,rfl,M,r3,r4,N⟩:=U.cell (JN I) m;let⟨u,s,Z,r3,C⟩:=r3;have r3:r=Qb y u s:=r3;subst r3;have h:=AQA I x y t u ca s Y Z B C K L;by_cases l:x=y;rw[G5 l]at h;exact gg [(18,tH i<|lN a),(20,Br I PO F d (lN a) o i j),(21,D8 I XJ (d+i*5) (Qb x t ca) rfl q2 q5),(24,Br I PO G g (lN b) p i c),(25,D8 I XJ (g+i*5) (Qb y u s) rfl M N)]<|call h<|gg [(31,sH i)]<|bk again [] (i+1) ⟨oG,AFn n k m l⟩;rw[Gp l]at h;rw[Gp<|AFo k m l];exact gg [(18,tH i<|lN a),(20,Br I PO F d (lN a) o i j),(21,D8 I XJ (d+i*5) (Qb x t ca) rfl q2 q5),(24,Br I PO G g (lN b) p i c),(25,D8 I XJ (g+i*5) (Qb y u s) rfl M N)]<|call h<|gG<|fi;have H:i=lN a:=oG;subst H;rw[G5<|show a=b by rw[FN,hlen,FN]at n;exact n];exact gg [(18,fH (lN a)<|lN a)]<|fi;rw[Gp λe=>hlen<|by rw[e]];exact gg [(14,Fs (lN a:Int) (lN b:Int))]<|fi
def ASQ(I a b p q)(e:C0 I a p)(f:C0 I b q)(c:ABu a)(d:ABu b):Fn 120 [.g<|Dx a p,.g<|Dx b q] [] I (BW (.v<|vB<|decide<|a=b) I) nO:=by rw[show decide (a=b)=(decide (a.AG=b.AG)&&(decide (a.stack=b.stack)&&(decide<|a.AP=b.AP)))from F0.2<|by simp[ASI]];refine fo func120 λi h w g=>gG<|call (ATc I a.AG b.AG p.fa q.fa p.fc q.fc p.fl q.fl e.f f.f (by have:=c.l.f;omega) (by have:=d.l.f;omega) c.f d.f) ?_;cases decide<|a.AG=b.AG;exact gG fi;refine gG<|call (AI6 I a.stack b.stack p.sa q.sa p.sc q.sc p.sl q.sl e.s f.s (by have:=c.l.s;omega) (by have:=d.l.s;omega) c.s d.s) ?_;cases decide<|a.stack=b.stack;exact gG fi;refine gG<|call (ATd I a.AP b.AP p.ta q.ta p.tc q.tc p.tl q.tl e.t f.t (by have:=c.l.t;omega) (by have:=d.l.t;omega) (λ_ _=>trivial) λ_ _=>trivial) ?_;cases decide (a.AP=b.AP)<;>exact gG fi
structure TT(t:AL):Prop where
 id:BV t.id
 Bg:BV t.Bg
 on:BV t.on
 v:BV t.v.name
 c:ABu t.c
 sl:lN t.AI<=1000000
 s:∀x∈t.AI,BV x.name/\BV x.Bg
def AdQ(I a b p q)(j:DZ I a p)(k:DZ I b q)(c:TT a)(d:TT b):Fn 63 [.g<|Dr a p,.g<|Dr b q] [] I (BW (.v<|vB<|decide<|a=b) I) nO:=by
 rw[show decide (a=b)=(decide (a.id=b.id)&&(decide (a.Bg=b.Bg)&&(decide (a.g=b.g)&&(decide (a.c=b.c)&&(decide (a.AI=b.AI)&&(decide (a.A7=b.A7)&&(decide (a.Ao=b.Ao)&&(decide (a.Aw=b.Aw)&&(decide (a.on=b.on)&&(decide (a.v=b.v)&&(decide<|a.ex=b.ex)))))))))))from F0.2<|by simp[Ac7]];generalize g:decide (a.id=b.id)=r1;generalize h:decide (a.Bg=b.Bg)=r2;generalize i:decide (a.g=b.g)=r3;generalize n:decide (a.A7=b.A7)=r6;generalize o:decide (a.Ao=b.Ao)=r7;generalize r:decide (a.Aw=b.Aw)=r8;generalize s:decide (a.on=b.on)=r9;generalize e:decide (a.v=b.v)=r10;generalize f:decide (a.ex=b.ex)=r11;refine fo func63 λu t w l=> ?_;cases m:r1&&(r2&&(r3));exact gg [(9,WM a.id b.id r1 c.id d.id g),(15,WM a.Bg b.Bg r2 c.Bg d.Bg h),(22,AJf I 19 21 a.g b.g r3 i)] (fi<|by cases r1;exact kR;cases r2;exact kR;cases r3;exact kR;grind) (by cases r1;exact kR;cases r2;exact kR;cases r3;exact kR;grind);simp[CJ]at m;obtain⟨rfl,rfl,rfl⟩:=m;refine gg [(9,WM a.id b.id tT c.id d.id g),(15,WM a.Bg b.Bg tT c.Bg d.Bg h),(22,AJf I 19 21 a.g b.g tT i)]<|call (ASQ I a.c b.c p.p q.p j.c k.c c.c d.c) ?_;cases decide<|a.c=b.c;exact gG fi;refine gG<|call (ATb I a.AI b.AI p.ca q.ca p.cc q.cc p.cl q.cl j.s k.s c.sl d.sl c.s d.s) ?_;cases decide<|a.AI=b.AI;exact gG fi
 exact gg [(43,ZH a.A7 b.A7 r6 n),(50,ZH a.Ao b.Ao r7 o),(57,ZH a.Aw b.Aw r8 r),(64,WM a.on b.on r9 c.on d.on s),(71,SF I 68 70 a.v b.v c.v d.v r10 e),(78,hBE I 75 77 a.ex b.ex r11 f)] (fi<|by cases r6;exact kR;cases r7;exact kR;cases r8;exact kR;cases r9;exact kR;cases r10;exact kR;cases r11<;>exact kR) (by cases r6;exact kR;cases r7;exact kR;cases r8;exact kR;cases r9;exact kR;cases r10;exact kR;cases r11<;>exact kR)
structure VrN(x:Vr):Prop where
 v:BV x.v.name
 l:lN x.q<=1000000
 q:∀w∈x.q,BV w.id/\BV w.v.name
theorem Adz(I a b p q)(i:ML I a p)(j:ML I b q)(c:VrN a)(d:VrN b):Fn 176 [Ms a p,Ms b q] [] I (BW (.v<|vB<|decide<|a=b) I) nO:=by rw[show decide (a=b)=(decide (a.full=b.full)&&(decide (a.v=b.v)&&(decide<|a.q=b.q)))from F0.2<|by simp[Adu]];generalize e:decide (a.full=b.full)=r1;generalize f:decide (a.v=b.v)=r2;refine fo func176 λl k w g=> ?_;cases h:r1&&(r2);exact gg [(9,hBE I 6 8 a.full b.full r1 e),(15,SF I 12 14 a.v b.v c.v d.v r2 f)] (fi<|by cases r1;exact kR;cases r2;exact kR;grind) (by cases r1;exact kR;cases r2;exact kR;rfl);simp[CJ]at h;obtain⟨rfl,rfl⟩:=h;refine gg [(9,hBE I 6 8 a.full b.full tT e),(15,SF I 12 14 a.v b.v c.v d.v tT f)]<|call (ATe I a.q b.q p.a q.a p.c q.c p.l q.l i j c.l d.l c.q d.q) ?_;cases decide (a.q=b.q)<;>exact gG fi
structure O7(o:Ob):Prop where
 v:BV o.v.name
 var:VrN o.var
def AZA(I a b p q)(n:FY I a p)(o:FY I b q)(c:O7 a)(d:O7 b):Fn 123 [.g<|Fx a p,.g<|Fx b q] [] I (BW (.v<|vB<|decide<|a=b) I) nO:=by
 rw[show decide (a=b)=(decide (a.kind=b.kind)&&(decide (a.l=b.l)&&(decide (a.v=b.v)&&(decide (a.ex=b.ex)&&(decide (a.done=b.done)&&(decide (a.var=b.var)&&(decide (a.fn=b.fn)&&(decide<|a.AR=b.AR))))))))from F0.2<|by simp[AZB]];generalize e:decide (a.kind=b.kind)=r1;generalize f:decide (a.l=b.l)=r2;generalize g:decide (a.v=b.v)=r3;generalize h:decide (a.ex=b.ex)=r4;generalize i:decide (a.done=b.done)=r5;generalize l:decide (a.fn=b.fn)=r7;generalize m:decide (a.AR=b.AR)=r8;refine fo func123 λs r w j=> ?_;cases k:r1&&(r2&&(r3&&(r4&&(r5))));exact gg [(9,Qe a.kind b.kind r1 e),(15,T4 I 12 14 a.l b.l r2 f),(22,AJi I 19 21 a.v b.v c.v d.v r3 g),(29,ZG I 26 28 a.ex b.ex r4 h),(36,ZG I 33 35 a.done b.done r5 i)] (fi<|by cases r1;exact kR;cases r2;exact kR;cases r3;exact kR;cases r4;exact kR;cases r5;exact kR;grind) (by cases r1;exact kR;cases r2;exact kR;cases r3;exact kR;cases r4;exact kR;cases r5;exact kR;grind);simp[CJ]at k;obtain⟨rfl,rfl,rfl,rfl,rfl⟩:=k;refine gg [(9,Qe a.kind b.kind tT e),(15,T4 I 12 14 a.l b.l tT f),(22,AJi I 19 21 a.v b.v c.v d.v tT g),(29,ZG I 26 28 a.ex b.ex tT h),(36,ZG I 33 35 a.done b.done tT i)]<|call (Adz I a.var b.var p q n o c.var d.var) ?_;cases decide<|a.var=b.var;exact gG fi;exact gg [(48,ZH a.fn b.fn r7 l),(55,hUE a.AR b.AR r8 m)] (fi<|by cases r7;exact kR;cases r8<;>exact kR) (by cases r7;exact kR;cases r8<;>exact kR)
def AXL{b n a e}(f:Ic b n)(c:e∈(leftOf b a).toList):(leftOf b<|a.push e.born).size<(leftOf b a).size:=by
 rw[leftOf]at c;simp only[P4,Ho,Jf]at c;have:=(ADO (λx:Ar=>x.born) f.nd c.1 a c.2).length_eq;rw[FM]at this;have d:∀s:Ae Nat,(leftOf b s).size=lN (b.toList.filter λq=> !s.contains q.born):=λs=>by rw[leftOf];rw[<-Lt,P4]
 rw[d,d];omega
def Zt(s:Az)(x:Nm×Ob):Bool:=match Am s x.1 with|some o=>o==x.2|none=>fF
def U3(e:Ar):SV:=match e.val with
 | .agg a=>.g<|a.toList.map .v
 |v=>.v v
def AOX(e a):AO a (U3 e)=e.val:=by rw[U3];split;rename_i b h;rw[h];simp[AO];rw[Gw];rfl
def AOY(e):(U3 e).A3=[]:=by rw[U3];split;exact AKI _;rfl
def AK1{t m g b a f n I d}(l:prog.underlying t=sM (.map m g))(i:I b=sM (.map f n))(j:d= {callee:=.builtin .len,args:=#[.tmp a],argTypes:=#[t]}):
 HL prog (.call d) [(a,SV.v<|.map<|sM b)] [] I (.v<|iV f.size):=by
 subst j;refine .of ?_;rintro q p w ⟨e,_⟩ _ _ h o k;simp[AO]at e;have c:=h b _ i;simp[execOp,k,resolve,invoke,builtin,Builtin.len_,e,rU l,MapKept.run_getObj_map c,aT,AO,goInt]
def ATY(b c:Nat)(a:Ae Ar)(d:Nat)(I:AB)(CG:Ae Nat):Hd where
 Cd:=[(1,.m 2),(2,.v<|.func (.func 123) #[] #[]),(17,.p 3 0)]
 Cc:=[(2,.Aq<|.map a d),(3,.Aq<|.mapIter (sM b) c CG c)]
 J:=I
def AGv(I:AB)(a:Ae Ar)(b:Nat)(r:Bool):zP:=λ_ h=>h= {r:=.v<|vB r,AV:=[(2,.Aq<|.map a b)],J:=I}
def ATZ(I s1 s2 a d A r b)(v:C9 I s1 a A)(J:C9 I s2 d r)(B:I b=sM (.map a A))(M:∀x∈s1,O7 x.2)(N:∀x∈s2,O7 x.2):
 Fn 122 [.v (.map (sM b)),.m 2,.v (.func (.func 123) #[] #[])] [(2,.Aq (.map d r))] I (AGv I d r (JZ s1 s2)) nO:=by
 let⟨n,t,f⟩:=v.perm;let⟨l2,R,K⟩:=J.perm;have z1:a.size=lN s1:=by rw[<-t.length_eq,<-f.len,Lt]
 have z2:d.size=lN s2:=by rw[<-R.length_eq,<-K.len,Lt]
 refine fo func122 λρ ab w aa=> ?_;by_cases hlen:lN s1=lN s2;refine gg [(12,.BZ (.call {callee:=.builtin .len,args:=#[.tmp 11],argTypes:=#[175]}) [(11,.v (.map (sM b)))] [] I (.v (iV a.size)) (AK1 Pw B rfl)),(14,.BZ (.call {callee:=.builtin .len,args:=#[.tmp 13],argTypes:=#[175]}) [(13,.m 2)] [(2,.Aq (.map d r))] I (.v (iV d.size)) (Zo Pw rfl)),(15,EN (a.size:Int) (d.size:Int))]<|AMZ (t:=175) (kt:=9) (et:=87) (b:=b) (m:=A) (es:=a) (x:=.tmp 16) (I':=I) kR Pw kR (AB.Sj B) kR<|gG<|loop (ι:=Ae Nat) (λc=>∀p∈a.toList.zip n,c.contains p.1.born->Zt s2 p.2) (λc=>(leftOf a c).size) (ATY b A d r I) 1000 [(3,156)] #[] (λp _ h=>by simp at h) ?_;intro c l again T;refine gG<|ALc (b:=b) (m:=A) (k:=3) (x:=.tmp 17) (es:=a) (CG:=c) (I':=I) (kS:=λe=>.v e.key) (vS:=U3) kR kR (AB.Sj B) v.bo.lt (λ_ _ _=>rfl) (λe _=>AOX e) (λ_ _=>rfl) (λe _=>AOY e) kR (λh0=> ?_) (λe H=> ?_);have u:JZ s1 s2:=by
  rw[JZ];rw[CJ];refine⟨by simpa using hlen,EQ.2 λx hx=> ?_⟩;have U:x∈n:=t.mem_iff.2 hx;have V:x∈(a.toList.zip n).map (·.2):=by rwa[f.Xj]
  obtain⟨p,z,rfl⟩:=BI.1 V;refine l p z ?_;cases G:c.contains p.1.born with
  |true=>rfl
  |false=>
   exfalso;have L:p.1∈a.toList:=by have:=f.zip_fst;rw[<-this];exact BI.2 ⟨p,z,rfl⟩
   have:p.1∈(leftOf a c).toList:=by rw[leftOf];simp only[P4,Ho];exact⟨L,by rw[G];rfl⟩
   have hl:lN (leftOf a c).toList=0:=by simpa using h0
   rw[Ib hl]at this;cases this
 rw[u];exact gG<|dn [] rfl;have s:e∈a.toList:=by rw[leftOf]at H;simp only[P4,Ho]at H;exact H.1
 have q:=AXL v.bo H;have V:e∈(a.toList.zip n).map (·.1):=by rwa[f.zip_fst]
 let⟨p,z,E⟩:=BI.1 V;let⟨Z,qa,hv,hq⟩:=f.VC z;have S:p.2∈n:=by have:=f.Xj;rw[<-this];exact BI.2 ⟨p,z,rfl⟩
 have k:p.2∈s1:=t.mem_iff.1 S;have hnext:Zt s2 p.2->∀F∈a.toList.zip n,(c.push e.born).contains F.1.born->Zt s2 F.2:=λL F D G=>by
  by_cases C:F.1.born=e.born;have O:((a.toList.zip n).map λp=>p.1.born).Nodup:=by
   have:((a.toList.zip n).map λp=>p.1.born)=((a.toList.zip n).map (·.1)).map (·.born):=by rw[Gk];rfl
   rw[this,f.zip_fst];exact v.bo.nd
  let⟨i,hi,W⟩:=Kc D;let⟨j,hj,X⟩:=Kc z;have:=AEk O (i:=i) (j:=j) (by simpa using hi) (by simpa using hj) (by simp[W,X,C,E]);subst this;rwa[<-W,X];refine l F D ?_;rw[Array.contains_push]at G;simpa[C]using G
 subst E;let⟨⟨ek,ev,born⟩,nm,o⟩:=p;simp only at Z hv hq k hnext q s;subst Z hv;have Y:=J.find (v.nm _ k);refine gG<|AI4 (b:=b) (m:=A) (k:=3) (x:=.tmp 17) (es:=a) (CG:=c) (I':=I) (kS:=λe=>.v e.key) (vS:=U3) (e:=⟨vS (Aa nm),.agg (GK o qa).toArray,born⟩) kR kR (AB.Sj B) v.bo.nd s (λ_=>rfl) (AOX _) rfl (AOY _) kR ?_;cases y:Am s2 nm with
 |none=>
  have g:JZ s1 s2=fF:=by rw[JZ];rw[ABR];right;rw[AGM];exact⟨(nm,o),k,by simp[y]⟩
  rw[g];exact gg [(26,Aez Aer I tT 24 25 2 r ABM (Y.1 y))]<|dn [] rfl
 |some o2=>
  let⟨j,q2,g1,g2,g3⟩:=Y.2 o2 y;have Q:(nm,o2)∈s2:=(SE J.nd).1 y;refine gg [(26,hLk Aer I tT 24 25 2 r g1)]<|call (AZA I o o2 qa q2 hq g2 (M _ k) (N _ Q)) ?_;by_cases m:o=o2;refine gg [(36,OV (decide (o=o2)) fF (by rw[G5 m];rfl))] ?_;exact bk again [] (c.push born) (hnext (by rw[Zt];rw[y];simp[m])) (hm:=q);have g:JZ s1 s2=fF:=by rw[JZ];rw[ABR];right;rw[AGM];exact⟨(nm,o),k,by simp[y];exact λe=>m e.symm⟩
  rw[g];refine gg [(36,OV (decide (o=o2)) tT (by rw[Gp m];rfl))] ?_;exact dn [] rfl
 have g:JZ s1 s2=fF:=by rw[JZ];rw[ABR];left;simpa using hlen
 rw[g];exact gg [(12,.BZ (.call {callee:=.builtin .len,args:=#[.tmp 11],argTypes:=#[175]}) [(11,.v (.map (sM b)))] [] I (.v (iV a.size)) (AK1 Pw B rfl)),(14,.BZ (.call {callee:=.builtin .len,args:=#[.tmp 13],argTypes:=#[175]}) [(13,.m 2)] [(2,.Aq (.map d r))] I (.v (iV d.size)) (Zo Pw rfl)),(15,Fs (a.size:Int) (d.size:Int))]<|dn [] rfl
def Pu(x:Ce)(l:AA AF):Prop:=l=[vS x]
def AOJ(x l)(h:Pu x l):lN l=1:=by rw[h];rfl
def AdZ(I:AB)(a:AU Au)(n ac:Nat)(ba:AU Au)(m bc:Nat)(i:Nat):Hd where
 Cd:=[(0,.v<|.slice a n ac),(1,.v<|.slice ba m bc),(5,.v<|iV i)]
 J:=I
def Tr(a b:AA Ce):Bool:=decide (a.map (·.toList)=b.map (·.toList))
def Dk.CW{I c n a xs}(h:Dk I c a n xs):Dk I.CW c a n xs:=⟨h.len,h.one,h.at_.imp id λ⟨b,d,arr,e,f,g,i,j⟩=>⟨b,d,arr,e,f,g,AB.Sj i,j⟩⟩
def Av.CW{b:Type}{I:AB}{R:b->List Value->Prop}{size c:Nat}{xs:List b}{a:Option Addr}{cells:List Value}(h:Av I R size xs a c cells):Av I.CW R size xs a c cells:=⟨h.sl.CW,h.cap,h.max,h.CE⟩
def Acz(I)(xs a)(g ba)(ac bc)(al bl)(ha:Av I.CW Pu 1 xs g ac al)(hb:Av I.CW Pu 1 a ba bc bl)(hl:xs.length<=1000000):
 Fn 20 [.v (.slice g xs.length ac),.v (.slice ba a.length bc)] [] I (BW (.v (.bool (Tr xs a))) I) none:=by
 refine fo Tryz.func20 λρ key w n=> ?_;by_cases hlen:xs.length=a.length;refine gg [(10,EN (xs.length:Int) (a.length:Int))]<|loop (ι:=Nat) (λi=>i<=xs.length/\(xs.take i).map (·.toList)=(a.take i).map (·.toList)) (λi=>xs.length-i) (AdZ I g xs.length ac ba a.length bc) 1000 [] 0 ⟨Nat.zero_le _,sP⟩ ?_;rintro i ⟨hi,he⟩ again T;by_cases c:i<xs.length;have b:i<a.length:=oG;have o:xs[i]? =some xs[i]:=List.getElem?_eq_getElem c;have p:a[i]? =some a[i]:=List.getElem?_eq_getElem b;obtain⟨m,e,k,v,s,q,rfl,q2,q3,q4,q5⟩:=ha.cell AOJ o;obtain⟨b2,f,l,x,t,r,rfl,r2,r3,r4,u⟩:=hb.cell AOJ p;subst q3 r3;have q0:=q5 0 _ rfl;have r0:=u 0 _ rfl;simp only[Nat.add_zero]at q0 r0;by_cases d:xs[i].toList=a[i].toList;refine gg [(14,hT ((i:Int)<(xs.length:Int))),(19,Br I Jr m e xs.length ac i c),(20,.Kz I _ _ (IZ (I:=I.CW) Di rfl q2 q0)),(23,Br I Jr b2 f a.length bc i b),(24,.Kz I _ _ (IZ (I:=I.CW) Di rfl r2 r0)),(25,.eq (Value.bool (!(xs[i].toList==a[i].toList))) (.bool false) (by rw[d];simp)),(16,hW ((i:Int)+1) ((i+1:Nat):Int))] ?_;refine bk again [] (i+1) ⟨oG,?_⟩;rw[List.take_succ_eq_append_getElem c,List.take_succ_eq_append_getElem b,List.map_append,List.map_append,he];simp[d];have j:Tr xs a=false:=by unfold Tr;refine decide_eq_false λh=>d ?_;have:=congrArg (·[i]?) h;simpa[o,p]using this
 rw[j];exact gg [(14,hT ((i:Int)<(xs.length:Int))),(19,Br I Jr m e xs.length ac i c),(20,.Kz I _ _ (IZ (I:=I.CW) Di rfl q2 q0)),(23,Br I Jr b2 f a.length bc i b),(24,.Kz I _ _ (IZ (I:=I.CW) Di rfl r2 r0)),(25,.eq (Value.bool (!(xs[i].toList==a[i].toList))) (.bool true) (by simp[d]))]<|fi;have hi:i=xs.length:=oG;subst hi;rw[List.take_length,hlen,List.take_length]at he;have ht:Tr xs a=true:=decide_eq_true he;rw[ht];exact gg [(14,Go.Proofs.YtomehhepbeiinaaGreatDoor.hF ((xs.length:Int)<(xs.length:Int)))]<|fi;have j:Tr xs a=false:=decide_eq_false λh=>hlen (by have:=congrArg List.length h;simpa using this);rw[j];exact gg [(10,Fs (xs.length:Int) (a.length:Int))]<|fi
end
section
open Go.AX Go.RowKit Go.Shelf Lz
section
attribute [local go_sem] Oper.semAt_some Fz Jc
def H1(l:AA Ce):AA AH:=l.flatMap λx=>x.data.toList++[10]
def PP(a:AA<|AA Ce):AA AH:=a.flatMap H1
theorem AgS{l:AA Ce}{j:Nat}{x:Ce}(a:l[j]? =sM x):H1 (l.take<|j+1)=H1 (l.take j)++x.data.toList++[10]:=by unfold H1;rw[My,a,Mu];simp
theorem AgT{a:AA<|AA Ce}{k:Nat}{l:AA Ce}(b:a[k]? =sM l):PP (a.take<|k+1)=PP (a.take k)++H1 l:=by unfold PP;rw[My,b,Mu];simp
theorem Afc{a:Type}(f:a->List UInt8)(l:List a)(k:Nat):((l.take k).flatMap f).length<=(l.flatMap f).length:=by
 have:l.flatMap f=(l.take k).flatMap f++(l.drop k).flatMap f:=by rw[<-List.flatMap_append,List.take_append_drop]
 rw[this,List.length_append];omega
theorem Af6(b w p)(h:w.heap[b]? =sM (.cells #[p,.slice nO 0 0] 250 (0,0))):
 Calls prog 132 #[.pointer (aP b)] w λe d=>e=.returned (vS (AJ []))/\Below w.heap.size w d:=by
 have c1:w.drew.cell? ⟨b,1,nO⟩=sM zS:=by have:w.drew.heap[b]? =sM (.cells #[p,.slice nO 0 0] 250 (0,0)):=h;rw[Lib.cell_of_heap this];rfl
 have a:(Builtin.unsafeSliceData_ #[23] 320 #[.slice nO 0 0]).run prog w.drew=.ok (.pointer nO) w.drew:=rfl;have c:(Builtin.unsafeString_ #[320,3] 9 #[.pointer nO,.int iK 0]).run prog w.drew=.ok (vS (AJ [])) w.drew:=rfl
 go_enter func132,ntmps132
 go_wp2
 go_region
 all_goals(go_wp2;go_ret;exact⟨rfl,Below.drew (Below.refl _ w)⟩)
def Ae2(b:Nat)(l:AA AH)(w:AN):Prop:=l=[]->w.heap[b]? =sM (.cells #[.pointer nO,.slice nO 0 0] 250 (0,0))
abbrev bW0(w:AN):AN:=w.alloc<|.cells #[.pointer nO,.slice nO 0 0] 250
theorem AgV(q c f w)(hn:lN f<=1000)
 (Y:∀k l,f[k]? =sM l->∃a T,w.cell? ⟨q,k,nO⟩=sM (.slice a (lN l) T)/\lN l<=1000000/\∀j x,l[j]? =sM x->∃b o,a=sM ⟨b,o,nO⟩/\w.cell? ⟨b,o+j,nO⟩=sM (vS x))
 (hlen:lN (PP f)<=15000000):
 Calls prog 83 #[.slice (aP q) (lN f) c] w λe Q=>e=.returned (vS (AJ (PP f)))/\Below w.heap.size w Q:=by
 have S:=Lib.hid (show∀W:AN,E5 (w.heap.size+1) w.heap.size (bW0 w) W->∀(a:Au) v,w.cell? a=sM v->a.block<w.heap.size/\W.cell? a=sM v from λW t a v h=>by
  have n:a.block<w.heap.size:=by rcases Jj a.block w.heap.size with B|B;exact B;simp[World.cell?,Xl B]at h
  refine⟨n,?_⟩;have C:W.heap[a.block]? =w.heap[a.block]? :=by rw[t.block a.block oG oG];exact Lib.alloc_old w _ a.block n
  simpa[World.cell?,C]using h)
 have HQ:=Lib.hid Y;have E:JF (w.heap.size+1) w.heap.size [] (bW0 w):=AQ9 w oG;have I:Ae2 w.heap.size [] (bW0 w):=λ_=>World.alloc_heap_new w _;have z:=Lib.hid hlen
 go_enter func83,ntmps83
 go_wp2_with fail
 go_loopw [5,7,10] (λ_ _ i wr=>∃k:Nat,k<=lN f/\i=.int iK k/\JF (w.heap.size+1) w.heap.size (PP (f.take k)) wr/\Ae2 w.heap.size (PP (f.take k)) wr/\E5 (w.heap.size+1) w.heap.size (bW0 w) wr) (λ_ _ i _=>lN f-(intOf i).toNat)
 case atStart=>exact⟨0,Bm _,rfl,E,I,E5.refl _ _ _⟩
 case round=>
  obtain⟨k,hk,rfl,d,g,t⟩:=hrel;by_cases n:k<lN f
  .obtain⟨l,L⟩:∃l,f[k]? =sM l:=⟨_,BS n⟩;let⟨a,T,U,e2,V⟩:=HQ.out k l L;have aa:=(S.out wr t _ _ U).2;have HS:=Lib.hid (AgT L);have HT:=Lib.hid (show(PP (f.take (k+1))).length<=15000000 from Ch (Afc H1 f (k+1)) z.out);have HL:=Lib.hid V;have M:JF (w.heap.size+1) w.heap.size (PP (f.take k)++H1 (l.take 0)) wr:=by simpa[H1]using d
   have J:Ae2 w.heap.size (PP (f.take k)++H1 (l.take 0)) wr:=by simpa[H1]using g
   go_wp2_with fail
   go_loopw [7,16] (λ_ i R=>∃j:Nat,j<=lN l/\i=.int iK j/\JF (w.heap.size+1) w.heap.size (PP (f.take k)++H1 (l.take j)) R/\Ae2 w.heap.size (PP (f.take k)++H1 (l.take j)) R/\E5 (w.heap.size+1) w.heap.size (bW0 w) R) (λ_ i _=>lN l-(intOf i).toNat)
   case atStart=>exact⟨0,Bm _,rfl,M,J,t⟩
   case round=>
    obtain⟨j,hj,rfl,d,g,m⟩:=hrel;have y:=m.size;rw[World.size_alloc]at y;by_cases O:j<lN l
    .obtain⟨x,P⟩:∃x,l[j]? =sM x:=⟨_,BS O⟩;obtain⟨b,o,rfl,X⟩:=HL.out j x P;have ab:=(S.out wr m _ _ X).2;have s:=Lib.hid (AgS P);have af:lN (PP (f.take k)++H1 (l.take j))+x.size+1<=15000000:=by have C:=HT.out;have D:=Afc (λx:Ce=>x.data.toList++[10]) l (j+1);have D:lN (H1 (l.take (j+1)))<=lN (H1 l):=D;rw[HS.out,CK]at C;rw[s.out,CK,CK,O3]at D;rw[CK];have:lN x.data.toList=x.size:=rfl;omega
     go_wp2_with fail
     refine(AOu _ _ _ _ _ d (by omega) oG).mono ?_;rintro e w3 ⟨rfl,F,r,ad⟩;have ag:=r.size;have N:lN ((PP (f.take k)++H1 (l.take j))++x.data.toList)<16000000:=by rw[CK];have:lN x.data.toList=x.size:=rfl;omega
     go_wp2_with fail
     refine(AOt _ _ _ _ 10 rfl _ F N oG).mono ?_;rintro e w4 ⟨rfl,G,A,ae⟩;have H:JF (w.heap.size+1) w.heap.size (PP (f.take k)++H1 (l.take (j+1))) w4:=by rwa[s.out,<-Eb,<-Eb]
     have K:Ae2 w.heap.size (PP (f.take k)++H1 (l.take (j+1))) w4:=λh=>by rw[s.out]at h;simp at h
     go_wp2
     go_roundw
     case rel=>exact⟨j+1,oG,by go_num,H,K,(m.trans r).trans A⟩
     case measure=>simp[intOf];omega
    .obtain rfl:j=lN l:=oG;rw[FN,<-HS.out]at d g
     go_wp2
     go_roundw
     case rel=>exact⟨k+1,oG,by go_num,d,g,m⟩
     case measure=>simp[intOf];omega
  .obtain rfl:k=lN f:=oG;have y:=t.size;rw[World.size_alloc]at y;rw[FN]at d g;by_cases p:PP f=[]
   .have hh:=g p;have Z:=Lib.hid p
    go_wp2_with (go_at_call 132;refine(Af6 _ _ _ hh).mono ?_;rintro e Q ⟨rfl,u⟩)
    go_ret
    exact⟨by rw[Z.out];rfl,(((Below.refl _ w).alloc (Ag _) _).trans (t.below (B':=w.heap.size) oG (Ag _))).trans (u.mono oG)⟩
   .clear g
    go_wp2_with (go_at_call 132;refine(AIA _ _ _ p _ d).mono ?_;rintro e Q ⟨rfl,u,ac⟩)
    go_ret
    exact⟨rfl,(((Below.refl _ w).alloc (Ag _) _).trans (t.below (B':=w.heap.size) oG (Ag _))).trans (u.mono oG)⟩
theorem Afy{w I}(g:EJ w I){l a c d}(h:Av I Pu 1 l a c d):∀j x,l[j]? =sM x->∃b o,a=sM ⟨b,o,nO⟩/\w.cell? ⟨b,o+j,nO⟩=sM (vS x):=by intro j x i;obtain⟨b,f,arr,e,m,k,rfl,q2,q3,q4,q5⟩:=h.cell AOJ i;subst q3;have q0:=q5 0 _ rfl;rw[IB,TG]at q0;refine⟨b,f,rfl,?_⟩;rwa[Lib.cell_of_heap<|g _ _ q2]
theorem AgU(I c d a b m n u v)(y:Av I.CW Pu 1 c a m u)(f:Av I.CW Pu 1 d b n v)(C:lN c<=1000000)(D:lN d<=1000000)(B:lN (PP [c,d])<=15000000):
 Fn 83 [.s 1 0 2 2] [(1,.cells [.v<|.slice a (lN c) m,.v<|.slice b (lN d) n] 38)] I (BW (.v<|vS<|AJ<|PP [c,d]) I) nO:=by
 refine⟨FC.of (AOj rfl).EA.out λF E w t hN p _ _=> ?_,AX.JL func83 kR kR⟩;have s:=hN (1,.cells [.v<|.slice a (lN c) m,.v<|.slice b (lN d) n] 38) DT _ rfl;refine(AgV (F 1) 2 [c,d] w (by show 2<=1000;decide) (λk l h=> ?_) B).mono ?_
 match k,h with
 |0,h=>obtain rfl:=FX h;exact⟨a,m,by rw[Lib.cell_of_heap s];rfl,C,Afy p.CW y⟩
 |1,h=>obtain rfl:=FX h;exact⟨b,n,by rw[Lib.cell_of_heap s];rfl,D,Afy p.CW f⟩
 rintro e H ⟨rfl,x⟩;have g:=AJe x;exact⟨{r:=.v<|vS<|AJ<|PP [c,d],J:=I},λ_=>0,rfl,⟨g.os,g.tape,g.output,g.size,λb f _ _=>g.block b f,nA,(λj b A=>by simp at A),(λi j z=>by simp at z),g.Eo p,λb o f=>.inl f,λb o f=>IM f⟩,rfl⟩
end
end
end Go.Proofs.YtomehhepbeiinaaGreatDoor
namespace Go.AX
def FC.drop{P F i need I H}(k b)(l:k<100)(u:(k,b)∈need)(f:b.live)(E:∀x∈b.A3,x<100)(L:∀c h,H c h->∀a∈h.AV,a.1=k->a.2=b)(h:FC P F i need I H nO):
 FC P F i need I (λc x=>∃g,H c g/\x= {g with AV:=g.AV.filter λa=> !bQ a.1 k}) nO:=by
 intro p c w s hN O B r;refine(h p c w s hN O B r).mono ?_;rintro e U ⟨g,q,⟨n,v,hle⟩,A,S⟩;refine⟨_,q,⟨⟨g,n,rfl⟩,⟨v.r,λa d=>v.u a (Ho.1 d).1,v.n,v.l,v.d.sublist<|(S7).map _⟩,hle⟩,⟨A.os,A.tape,A.output,A.size,λx T m Q=> ?_,λa d o z=>A.AV a (Ho.1 d).1 o z,λj x C=>⟨(A.nb j x C).1,(A.nb j x C).2.1,(A.nb j x C).2.2.imp id λ⟨a,q1,q2,q3⟩=>⟨a,Ho.2 ⟨q1,by
  have m:a.1≠k:=λe=>by have q4:=L c g n a q1 e;rw[q2]at q4;rw[<-q4]at f;cases f
  simp[OH m]⟩,q2,q3⟩⟩,A.qi,A.H2,A.fresh,A.IX⟩,S⟩
 by_cases hex:∃a∈g.AV,p a.1=x;let⟨a,d,J⟩:=hex;have D:a.1=k:=by by_cases q:a.1=k;exact q;exact absurd J<|m a<|Ho.2 ⟨d,by simp[OH q]⟩
 let⟨o,z⟩:=AK.UI f p;have t:∀y,y<100->g.Bh p c q y=p y:=λy M=>F7 (by
  rw[CX];cases e:Nat.ble c y with
  |false=>rfl
  |true=>have:=LL e;omega)
 have G:a.2.AO (g.Bh p c q)=sM o:=by rw[L c g n a d D,<-z];exact AK.Ko b λy M=>t y<|E y M
 have K:=A.AV a d o G;rw[t _<|by rwa[D]]at K;rw[<-J,K,D];exact (hN (k,b) u o z).symm;exact A.A2 x T (λa d e=>hex ⟨a,d,e⟩) Q
end Go.AX
namespace Go.Proofs.YtomehhepbeiinaaGreatDoor
open Tryz
open Go.AX Lz
def APU(I:AB)(s:Az)(l:AT):zP:=λa h=>∃(b c:Ae Ar)(f e:Nat)(d:AA Rw)(J:AB),Cb I [] J (d.map (·.b))/\C9 J (GU s l) b f/\El J (GU s l) d c e/\
 h= {r:=.p a 0,nb:=[.cells [.m<|a+1,.m<|a+2] 178,.Aq<|.map b f,.Aq<|.map c e],J:=J}
def ANV(I s L k g n m)(M:C9 I s k n)(hN:El I s L g m)(l)(E:B9 l)(w:∀r∈L,B9 r.l)(D:∀r∈L,lN r.ns<=1000000):
 Fn 59 [.p 1 0,DW l] [(3,.Aq (.map g m)),(1,.cells [.m 2,.m 3] 178),(2,.Aq (.map k n))] I (APU I s l) nO:=by
 refine⟨FC.place (need:=[(1,.cells [.m 2,.m 3] 178),(2,.Aq (.map k n))]) 3 (.map g m) (Ψ:=λb i x=>∃u,(∃t,AGw (I.plus b (.map g m)) s l k n b i t/\u= {t with AV:=t.AV.filter λz=> !bQ z.1 1})/\x= {u with AV:=u.AV.filter λz=> !bQ z.1 2}) sP ?_ ?_,JL Tryz.func59 kR kR⟩;intro b p;have v:I.Da (I.plus b (.map g m)):=λ_ _ h=>h;have B:El (I.plus b (.map g m)) s L g m:=hN.A2 λx a y j=>K0 j λe=>by have:=j.Ak;rw[e,p.2]at this;cases this
 have t:=(AVB (I.plus b (.map g m)) s L k g n m b (C9.Bf v M) B (Ua _ _ _) l E w D p.1).out;have u:=FC.drop 1 (.cells [.m 2,.v (.map (sM b))] 178) dC sP rfl (λx a=>by simp[AK.A3,DF,SV.A3]at a;omega) (by rintro i h ⟨_,_,_,_,_,_,_,_,rfl⟩ z d G;simp[List.mem_cons,List.not_mem_nil,_root_.or_false]at d;rcases d with rfl|rfl;rfl;cases G) t
 have K:=FC.drop (need:=[(1,.cells [.m 2,.v (.map (sM b))] 178),(2,.Aq (.map k n))]) 2 (.Aq (.map k n)) dC sP rfl nA (by rintro i h ⟨_,⟨_,_,_,_,_,_,_,_,rfl⟩,rfl⟩ z d G;simp at d;obtain⟨rfl,_⟩:=d;rfl) u
 exact K;rintro b i h p ⟨_,⟨_,⟨A,F,P,H,J,f,O,N,rfl⟩,rfl⟩,rfl⟩;have C:J.B8 b (.map g m):=f.A2 _ _ (Li p.1) sP;refine⟨C.Ak,A,F,n,P,H,J.minus b,⟨λx o a=>f.le x o a,λx y a _=> ?_,λx a=> ?_⟩,C9.Bf (I:=J) (J:=J.minus b) (λ_ _ a=>a) O,N.A2 λx a y j=> ?_,rfl⟩;have c:x≠b:=λe=>by have:=a.Ak;rw[e,p.2]at this;cases this
 have:=f.A2 x y (K0 a c) sP;exact⟨by rw[Zx _ c];exact this.Ak,this.at_⟩;rcases f.CE x a with q|q;cases q;right;intro y j;have c:x≠b:=λe=>by have:=j.Ak;rw[e,p.2]at this;cases this
 exact q y (K0 j c);have c:x≠b:=λe=>by rcases f.CE x a with q|q;cases q;subst e;exact q _ (Li p.1)
 exact⟨by rw[Zx _ c];exact j.Ak,j.at_⟩
end Go.Proofs.YtomehhepbeiinaaGreatDoor
namespace Go.AX
def AB.N0(I:AB)(b:Nat)(o:Obj):AB:=⟨λx=>match bQ x b with|true=>sM o|false=>I.at_ x,I.Ak⟩
def AB.Od(I:AB)(b:Nat):AB:=⟨λx=>match bQ x b with|true=>nO|false=>I.at_ x,I.Ak⟩
def AMK(I:AB)(b o):(I.N0 b o) b=sM o:=by simp[AB.N0]
def W7(I:AB){b x}(o)(h:x≠b):(I.N0 b o) x=I x:=by simp[AB.N0,OH h]
def ALM(I:AB)(b):(I.Od b) b=nO:=by simp[AB.Od]
def AEg(I:AB){b x}(h:x≠b):(I.Od b) x=I x:=by simp[AB.Od,OH h]
def AZ3{I:AB}{b:Nat}{o:Obj}(h:I b=nO):(I.N0 b o).Od b=I:=by let⟨f,g⟩:=I;show AB.mk _ g=AB.mk f g;congr 1;funext x;by_cases e:x=b;subst e;have h:f x=nO:=h;simp[h];simp[AB.N0,OH e]
def FC.AZ1{P:B7}{F:Ba}{args:AA SV}{need:AA<|Nat×AK}{I:AB}{Q:zP}(K:Nat)(o:Obj){Ψ:Nat->zP}(z:K∉need.map (·.1))
 (S:∀b,I.free b->FC P F (args.map (·.B4 K b)) (need.map λl=>(l.1,l.2.B4 K b)) (I.N0 b o) (Ψ b) nO) (H:∀b i h,I.free b->Ψ b i h->Q i {h with J:=h.J.Od b}):FC P F args ((K,.Aq o)::need) I Q nO:=by
 intro c i w t hN M s n;have d:I.free (c K):=s (K,.Aq o) sP;have B:w.heap[c K]? =sM o:=hN (K,.Aq o) sP _ rfl;have p:BB c (args.map (·.B4 K (c K)))=BB c args:=by rw[Hw,Hw,Gk];exact JD λx _=>Tz rfl (λ_ _=>rfl) x
 have v:Holds w (I.N0 (c K) o):=by refine⟨λx y a=> ?_,M.2⟩;by_cases e:x=c K;subst e;rw[AMK]at a;cases a;exact B;rw[W7 _ _ e]at a;exact M.1 x y a
 have C:∀l∈need,c l.1≠c K:=λl g e=>z (by have:=n l (DY _ g) (K,.Aq o) sP e;simp only at this;rw[<-this];exact BI.2 ⟨l,g,rfl⟩)
 have:=(S (c K) d) c i w t (λl g x a=>by
  obtain⟨m,f,rfl⟩:=BI.1 g;simp only at a⊢;rw[AK.Tz (ρ:=c) (σ:=c) rfl λ_ _=>rfl]at a;exact hN m (DY _ f) x a) v (λl g=>by
  obtain⟨m,f,rfl⟩:=BI.1 g;have L:=s m<|DY _ f;exact⟨by rw[W7 _ _<|C m f];exact L.1,L.2⟩) (λx a y U e=>by
  obtain⟨W,D,rfl⟩:=BI.1 a;obtain⟨X,E,rfl⟩:=BI.1 U;exact n W (DY _ D) X (DY _ E) e)
 rw[p]at this;refine this.mono ?_;rintro e Y ⟨h,q,⟨G,V,hle⟩,A,T⟩;have j:h.LD i (((K,AK.Aq o)::need).map (·.1)):=V.mono λk N=>by rw[Gk]at N;exact DY _ N
 refine⟨{h with J:=h.J.Od<|c K},q,⟨H _ i h d G,⟨j.r,j.u,j.n,j.l,j.d⟩,λx y a=>by
  have O:x≠c K:=λe=>by rw[e,d.1]at a;cases a
  show(h.J.Od<|c K) x=sM y;rw[AEg _ O];exact hle x y<|by rwa[W7 _ _ O]⟩,⟨A.os,A.tape,A.output,A.size,λx a u R=>A.A2 x a u R,A.AV,A.nb,A.qi,⟨λx y a=> ?_,A.H2.2⟩,λx y a=> ?_,A.IX⟩,T⟩
 have a:(h.J.Od<|c K) x=sM y:=a;by_cases r:x=c K;rw[r,ALM]at a;cases a;rw[AEg _ r]at a;exact A.H2.1 x y a;have a:(h.J.Od<|c K) x=sM y:=a;by_cases r:x=c K;rw[r,ALM]at a;cases a;rw[AEg _ r]at a;have:=A.fresh x y a;rw[W7 _ _ r]at this;exact this
end Go.AX
namespace Go.Proofs.YtomehhepbeiinaaGreatDoor
open Tryz
open Go.AX Lz
def ATa(I:AB)(l m:Az)(a c:Ae Ar)(g i:Nat)(t:C9 I l a g)(u:C9 I m c i)(q:∀x∈l,O7 x.2)(r:∀x∈m,O7 x.2):
 Fn 122 [.m 1,.m 2,.v<|.func (.func 123) #[] #[]] [(1,.Aq<|.map a g),(2,.Aq<|.map c i)] I (BW (.v<|vB<|JZ l m) I) nO:=by
 refine⟨FC.AZ1 (need:=[(2,.Aq<|.map c i)]) 1 (.map a g) (Ψ:=λb f x=>∃j,AGv (I.N0 b<|.map a g) c i (JZ l m) f j/\x= {j with AV:=j.AV.filter λs=> !bQ s.1 2}) sP ?_ ?_,JL func122 kR kR⟩;intro b n;have d:I.Da (I.N0 b<|.map a g):=λx o k=>by rwa[W7 _ _ λe=>by rw[e,n.1]at k;cases k]
 have j:=(ATZ (I.N0 b<|.map a g) l m a c g i b (C9.Bf d t) (C9.Bf d u) (AMK _ _ _) q r).out;have v:=FC.drop (need:=[(2,.Aq<|.map c i)]) 2 (.Aq<|.map c i) dC sP rfl nA (by rintro f h rfl s p w;rw[A9.1 p]) j
 exact v;rintro b f h n ⟨_,rfl,rfl⟩;show _=_;simp only[AZ3 n.1];rfl
def ANm(a c:Ae Ar)(g e:Nat)(b d:Ae Ar)(h f:Nat):AA (Nat×AK):=[(1,.cells [.m 2,.m 3] 178),(2,.Aq<|.map a g),(3,.Aq<|.map c e),(4,.cells [.m 5,.m 6] 178),(5,.Aq<|.map b h),(6,.Aq<|.map d f)]
def AHA(I:AB)(a:AA<|Nat×AK)(r:Bool):zP:=λ_ h=>h= {r:=.v<|vB r,AV:=a,J:=I}
def AcB(I g h a c e l b d f m)(n:C9 I g a e)(o:C9 I h b f)(i:∀x∈g,O7 x.2)(j:∀x∈h,O7 x.2):
 Fn 64 [.p 1 0,.p 4 0] (ANm a c e l b d f m) I (AHA I (ANm a c e l b d f m)<|JZ g h) nO:=by
 refine fo func64 λq p w k=>gG<|A0 (ATa I g h a b e f n o i j) [(1,2),(2,5)] ?_;rintro _ rfl;exact gG<|dn [] rfl
end Go.Proofs.YtomehhepbeiinaaGreatDoor
namespace Go.Proofs.YtomehhepbeiinaaGreatDoor
open Tryz
section
open Go.AX Lz
def ZO(I):Fn 32 [] [] I (BW (DW high) I) nO:=fo func32 λc b w a=>gG<|fi
def ALq:B9 high:=⟨dC,dC⟩
def AUF(a):fl a high:=IV.2<|AEI a
def AVF(s):GU s high=s:=RO.2 λx _=>AUF _
def rows_ok{I s L d c}(h:El I s L d c)(b:∀n o,Am s n=sM o->A4 o.l=o.l)(i:lN s<=1000000):(∀r∈L,B9 r.l)/\∀r∈L,lN r.ns<=1000000:=by refine⟨λr a=> ?_,λr a=>Ch (h.len r a) i⟩;let⟨n,f⟩:=List.exists_mem_of_ne_nil _<|h.ne r a;let⟨o,g,e⟩:=(h.mem n r.l).1 ⟨r,a,rfl,f⟩;rw[<-e];exact JV<|b n o g
def APw(I:AB)(c:AA<|Nat×AK)(s:Az):zP:=λa h=>∃(b d:Ae Ar)(g f:Nat)(e:AA Rw)(J:AB),Cb I [] J (e.map (·.b))/\C9 J s b g/\El J s e d f/\
 h= {r:=.p a 0,AV:=c,nb:=[.cells [.m<|a+1,.m<|a+2] 178,.Aq<|.map b g,.Aq<|.map d f],J:=J}
def Ac4(I L k m)(c:CZ I L k m)(e:∀n o,Am k.Ah n=sM o->A4 o.l=o.l)(q:lN k.Ah<=1000000):
 Fn 30 [.p 1 0] (CL m k.im k.AD) I (APw I (CL m k.im k.AD) k.Ah) nO:=by
 let⟨a,d⟩:=rows_ok c.Dl e q;refine fo func30 λu r w j=>gG<|call (ZO I)<|gG<|A0 (ANV I k.Ah L m.sm.es m.sm.ns m.sm.n m.sm.m c.B0 c.Dl high ALq a d) [(1,3),(2,4),(3,5)] ?_;rintro _ ⟨b,g,t,s,l,J,f,h,i,rfl⟩;rw[AVF]at h i;exact gG<|dn [148,149,150] ⟨b,g,t,s,l,J,f,h,i,rfl⟩
structure HX where
 i:Nat
 J:AB
 es:Ae Ar
 n:Nat
 Bu:Bi
def AWe(m:CH)(k:Ap)(l:Lz.AT)(x:HX):Hd where
 Cd:=[(0,.p 1 0),(3,.p 6 0),(5,.p 7 0),(24,.v<|.slice m.Bu.a (lN k.AC) m.Bu.c),(25,.v<|iV<|lN k.AC),(26,.v<|iV x.i)]
 Cc:=CL m k.im k.AD++[(6,.cells [.v<|vS<|AJ l.1,.v<|vS<|AJ l.2] 42),(7,.cells (Fa k.im m.ip++[.v<|nV k.AD,.m 8,x.Bu.sv,.v<|.pointer nO,.v zS,.v zS]) 107),(8,.Aq<|.map x.es x.n)]
 J:=x.J
structure HP(I:AB)(k:Ap)(l:Lz.AT)(x:HX):Prop where
 i:x.i<=lN k.AC
 tm:D6 x.J (FA (Ft l (k.AC.take x.i))) x.es
 Bu:Told I x.J 1 9 (((Ft l (k.AC.take x.i)).map (·.id)).map BQ) x.Bu
def APX(I:AB)(k:Ap)(m:CH)(l:Lz.AT):zP:=λa h=>∃b c J,h= {r:=.p (a+0) 0,AV:=CL m k.im k.AD,nb:=ZZ a b k.im k.AD,J:=J}/\Cb I [] J (CM c b)/\CZ J c (Hh k l) b
def Cb.app{I J K P a}(h:Cb I [] J P)(k:Cb J [] K a):Cb I [] K (P++a) where
 le:=h.le.trans k.le
 A2 x y hx _:=k.A2 x y (h.A2 x y hx sP) sP
 CE x hx:=by rcases Bc.1 hx with q|q;exact h.CE x q;rcases k.CE x q with e|e;cases e;exact .inr λy b=>e y<|h.A2 x y b sP
def Cb.perm{I K P a}(h:Cb I [] K P)(b:∀x∈a,x∈P):Cb I [] K a:=⟨h.le,h.A2,λx c=>h.CE x<|b x c⟩
def AVA{l a i}(h:i<lN a):Ft l (a.take<|i+1)=Ft l (a.take i)++(C4 a[i] l).toList:=by rw[Ft];rw[Kd h,List.filterMap_append,AGR];cases C4 a[i] l<;>rfl
def AAf(s:Bi):(Bb s.a).toList.Nodup:=by
 cases Bb s.a with
 |none=>exact N9
 |some b=>exact GX.2 ⟨sP,N9⟩
def AYe{I1 I2:AB}{A B C:AA Nat}(i:A.Nodup)(j:B.Nodup)(k:C.Nodup)(h:∀x∈A,∃y,I1.B8 x y)(d:∀x∈B,∀y,¬I1.B8 x y)(a:∀x∈A++B,∃y,I2.B8 x y)(g:∀x∈C,∀y,¬I2.B8 x y):(B++(A++(C++[]))).Nodup:=by rw[Hn,Gl];refine⟨j,?_,λx c y f e=> ?_⟩;rw[Gl];refine⟨i,k,λx c y f e=> ?_⟩;subst e;let⟨z,b⟩:=a x<|GC _ c;exact g x f z b;subst e;rcases Bc.1 f with q|q;let⟨z,b⟩:=h x q;exact d x c z b;let⟨z,b⟩:=a x<|HZ _ c;exact g x q z b
structure X7(k:Ap):Prop where
 E0:Fi k.AC
 len:lN k.AC<=900000
 AC:∀t∈k.AC,CB t.id/\lN t.AI<=900000/\∀i,B9 (EF t i)
 fl:lN k.Bj<=1000000
 ff:∀f∈k.Bj,B9 f.l
 ob:∀n o,Am k.Ah n=sM o->A4 o.l=o.l
 sl:lN k.Ah<=1000000
def AKL(I L k m)(hK:CZ I L k m)(hQ:X7 k)(l)(Z:B9 l):
 Fn 17 [.p 1 0,DW l] (CL m k.im k.AD) I (APX I k m l) nO:=by
 let⟨P,hlen,aj,an,am,au,ax⟩:=hQ;let⟨af,ar⟩:=rows_ok hK.Dl au ax;have ag:m.Bu.n=lN k.AC:=by have:=hK.Bu.n;rw[DG,DG]at this;omega
 have hm:=hK;let⟨ip,mes,mn,⟨ma,a0,mc⟩,DD,lk,sm⟩:=m;simp only at ag;subst ag;refine fo func17 λρ key w ay=>gG<|Om 180 (b:=.Ey [] []) (b':=.Aq<|.map #[] 0) kR (λρ=>rfl) nA rfl<|loop (ι:=HX) (HP I k l) (λx=>lN k.AC-x.i) (AWe ⟨ip,mes,mn,⟨ma,lN k.AC,mc⟩,DD,lk,sm⟩ k l) 1000 [(6,100),(7,196),(8,180)] ⟨0,I,#[],0,⟨nO,0,0⟩⟩ ⟨Bm _,AOB,.nil I 1 9⟩ ?_;rintro⟨i,J,M,n,⟨oa,on,oc⟩⟩ ⟨p1,p3,K⟩ again T;simp only at p1 p3 K;have hle:I.le J:=K.st.GJ;have z:CZ J L k ⟨ip,mes,mn,⟨ma,lN k.AC,mc⟩,DD,lk,sm⟩:=hK.up hle;by_cases C:i<lN k.AC;have o:k.AC[i]? =sM k.AC[i]:=BS C;have D:=DR C;have s:=AVA (l:=l) C;have hnew:Af (Ft l<|k.AC.take i) k.AC[i].id=nO:=by
  cases e:Af (Ft l<|k.AC.take i) k.AC[i].id with
  |none=>rfl
  |some u=>
   exfalso;let⟨t',h1,h2⟩:=ALH<|D2 e;have h3:=Qg h2;rw[E2 e]at h3;let⟨j,hj,e2⟩:=Kc h1;rw[Cu]at hj;rw[VN]at e2;have:=Lx.1 P j i oG C oG;rw[e2,<-h3,Ma]at this;cases this
 have Q:=NT P D;let⟨f,O,ae⟩:=aj _ D;have v:((k.AC.map (·.id)).map BQ)[i]? =sM (BQ k.AC[i].id):=by rw[GB,GB,o];rfl
 generalize k.AC[i]=t at o D s hnew Q f O ae v;let⟨jt,a,h1,ha,_⟩:=(z.tm.find<|F5 f).2 t (by rwa[NF]);rcases z.Bu.at_ with⟨q2,_,_⟩|⟨b,ai,q1,q2,_⟩;exfalso;have q2:lN k.AC=0:=q2;omega;simp only at q1;subst q1;have U:(((k.AC.map (·.id)).map BQ++ai).toArray:Ae AF)[0+i*1]? =sM (BQ t.id):=by rw[Mv,Gj<|by rw[DG,DG];omega];simpa using v
 refine gg [(27,tH i<|lN k.AC),(28,Br J Jr b 0 (lN k.AC) mc i C),(29,.Kz J _ _<|IZ (I:=J.CW) Di rfl q2.CW U),(36,hLk Aek J fF 34 35 2 mn h1)]<|Cz (AVC J t a l O Z ae ha) λq p B hq=> ?_;have c:Told I p 1 9 (((Ft l<|k.AC.take i).map (·.id)).map BQ) ⟨oa,on,oc⟩:=⟨K.st.trans<|.of B,K.row.A2 λF _ y E=>B.Ak F y E⟩;have ad:=D6.up p3 B;cases hu:C4 t l with
 |none=>
  rw[hu]at s;refine gg [(58,sH i)] ?_;refine bk again [] ⟨i+1,p,M,n,⟨oa,on,oc⟩⟩ ⟨by show i+1<=_;omega,?_,?_⟩;show D6 p (FA<|Ft l<|k.AC.take<|i+1) M;rw[s];simpa using ad;show Told I p 1 9 (((Ft l<|k.AC.take<|i+1).map (·.id)).map BQ) ⟨oa,on,oc⟩;rw[s];simpa using c
 |some u=>
  rw[hu]at s hq;have hq:DZ p u q:=hq;have R:=Qg hu;have hg:Aed (FA<|Ft l<|k.AC.take i) t.id=nO:=by rwa[NF]
  have V:=(ad.find<|F5 f).1 hg;have az:on<=1000000:=by have h1:=c.row.n;rw[DG,DG]at h1;have h2:lN (Ft l<|k.AC.take i)<=lN (k.AC.take i):=AO6 _ _;rw[Cu]at h2;simp only at h1;omega
  refine gG<|Qv (t:=104) (km:=8) (m0:=n) (m1:=n+1) (es:=M) (es':=M.push {key:=vS<|Aa t.id,val:=.agg (EZ u q).toArray,born:=n}) (m:=.tmp 45) (k:=.tmp 46) (x:=.tmp 47) (kv:=vS<|Aa t.id) (v:=.agg (EZ u q).toArray) (sk:=.v<|sV t.id) (sx:=.g<|Dr u q) (I':=p) kR kR kR (λ_=>rfl) kR (λρ=>by rw[AFj];simp only[AO];rw[Gw]) (λw r hb=>Wn (kv:=vS<|Aa t.id) (v:=.agg (EZ u q).toArray) AFv Di trivial V w r hb) kR ?_;refine gG<|act (need:=[(1256,.cells ([BQ t.id].map .v) 9)]) (JI (I:=p) Be (s:=⟨oa,on,oc⟩) (x:=.s 1256 0 1 1) (m:=1) (CQ:=((Ft l<|k.AC.take i).map (·.id)).map BQ) (news:=[BQ t.id]) Ve kR c.row (Ez (e:=9) sP rfl<|SQ rfl) dC<|by show on+1<=16777216;omega) JH ?_;rintro h' ⟨F,c',g,rfl,ao,ap,aq,ak,al⟩;have ah:=c.app (AE:=g) (news:=[BQ t.id]) rfl (SQ rfl) ao ap aq ak al;have av:p.Da (p.plus F (.cells (((Ft l<|k.AC.take i).map (·.id)).map BQ++[BQ t.id]++g).toArray 9 (0,0))):=λ_ _ h=>h;have p5:D6 (p.plus F (.cells (((Ft l<|k.AC.take i).map (·.id)).map BQ++[BQ t.id]++g).toArray 9 (0,0))) (FA (Ft l<|k.AC.take i)++[(t.id,u)]) (M.push {key:=vS<|Aa t.id,val:=.agg (EZ u q).toArray,born:=n}):=D6.Bf av<|ad.add hg (F5 f) hq n;generalize p.plus F (.cells (((Ft l<|k.AC.take i).map (·.id)).map BQ++[BQ t.id]++g).toArray 9 (0,0))=G at ah p5⊢;refine gg [(58,sH i)] ?_;refine bk again [] ⟨i+1,G,M.push {key:=vS<|Aa t.id,val:=.agg (EZ u q).toArray,born:=n},n+1,⟨sM ⟨F,0,nO⟩,on+1,c'⟩⟩ ⟨by show i+1<=_;omega,?_,?_⟩;show D6 G (FA<|Ft l<|k.AC.take<|i+1) _;rw[s]
  have:FA (Ft l (k.AC.take i)++(sM u).toList)=FA (Ft l<|k.AC.take i)++[(t.id,u)]:=by rw[FA];rw[E3,<-R];rfl
  rwa[this];show Told I G 1 9 (((Ft l<|k.AC.take<|i+1).map (·.id)).map BQ) _;rw[s];have:((Ft l (k.AC.take i)++(sM u).toList).map (·.id)).map BQ=((Ft l<|k.AC.take i).map (·.id)).map BQ++[BQ t.id]:=by rw[E3,E3,<-R];rfl
  rwa[this]
 have hi:i=lN k.AC:=oG;subst hi;rw[FN]at p3 K;refine gg [(27,fH (lN k.AC)<|lN k.AC)]<|A0 (ANV J k.Ah L sm.es sm.ns sm.n sm.m z.B0 z.Dl l Z af ar) [(1,3),(2,4),(3,5)] ?_;rintro _ ⟨S,ac,n',m',L',p,c,aw,X,rfl⟩;have N:CZ p L k ⟨ip,mes,mn,⟨ma,lN k.AC,mc⟩,DD,lk,sm⟩:=z.up c.GJ;refine gG<|A0 (AKv p L k _ N an l Z am) [] ?_;rintro _ ⟨⟨fa,fn,fc⟩,G,H,rfl⟩;refine gG ?_;have d:=H.st.GJ;refine dn [7,8,1064,1065,1066] ⟨⟨ip,M,n,⟨oa,on,oc⟩,⟨fa,fn,fc⟩,⟨nO,0,0⟩,⟨S,n',ac,m'⟩⟩,L',G,rfl,?_,?_⟩ (h:={r:=.p (key+0) 0,AV:=CL ⟨ip,mes,mn,⟨ma,lN k.AC,mc⟩,DD,lk,sm⟩ k.im k.AD,nb:=ZZ key ⟨ip,M,n,⟨oa,on,oc⟩,⟨fa,fn,fc⟩,⟨nO,0,0⟩,⟨S,n',ac,m'⟩⟩ k.im k.AD,J:=G});refine((K.st.app c).app H.st).perm λx o=> ?_;rw[CM]at o;simp only[Bc]at o⊢;rcases o with q|q|q|q;exact .inl<|.inr q;exact .inl<|.inl q;exact .inr q;simp[Bb]at q;have A:=N.up d;have aa:C8 G 1 9 (((Ft l k.AC).map (·.id)).map BQ) ⟨oa,on,oc⟩:=(K.row.A2 λF _ y E=>c.A2 F y E sP).A2 λF _ y E=>d.Ak F y E;have Y:El G (GU k.Ah l) L' ac m':=X.up d;have ab:C9 G (GU k.Ah l) S n':=C9.Bf d.EA aw;refine{tab:=A.tab,pow:=A.pow,img:=A.img,tm:=D6.Bf (c.le.trans d.EA) p3,B0:=ab,Dl:=Y,Bu:=aa,DD:=H.row,lk:=AAk,nd:= ?_};refine AYe (I1:=J) (I2:=p) (AAf _) X.bl (AAf _) (λx o=>K.row.B8 x o) (λx o y E=> ?_) (λx o=> ?_) λx o y E=> ?_;rcases c.CE x o with q|q;cases q;exact q y E;rcases Bc.1 o with q|q;let⟨y,E⟩:=K.row.B8 x q;exact⟨y,c.A2 x y E sP⟩;let⟨r,hr,e⟩:=BI.1 q;exact⟨_,by rw[<-e];exact(X.B8 r hr).1⟩;rcases H.st.CE x o with q|q;cases q;exact q y E
structure Iz(I J:AB)(W:Nat)(f:BN)(Z:AA AF)(a:Bi)(Y:Nat)(r:BN)(X:AA AF)(d:Bi):Prop where
 st:Cb I [] J ((Bb a.a).toList++(Bb d.a).toList)
 nd:((Bb a.a).toList++(Bb d.a).toList).Nodup
 ra:C8 J W f Z a
 rb:C8 J Y r X d
variable{I J K:AB}{W Y:Nat}{f r:TypeId}{Z X:List Value}{a d:Bi}
def Sg{I b e}:C8 I b e [] ⟨nO,0,0⟩:=⟨sP,λv h=>(by cases h),.inl ⟨rfl,rfl,rfl⟩⟩
theorem Iz.nil(I W Y f r):Iz I I W f [] ⟨nO,0,0⟩ Y r [] ⟨nO,0,0⟩:=⟨.refl I [],N9,Sg,Sg⟩
def Iz.step{P}(h:Iz I J W f Z a Y r X d)(k:Cb J [] K P):Iz I K W f Z a Y r X d where
 st:=⟨h.st.le.trans k.le,λx y e _=>k.A2 x y (h.st.A2 x y e sP) sP,h.st.CE⟩
 nd:=h.nd
 ra:=h.ra.A2 λb _ y c=>k.A2 b y c sP
 rb:=h.rb.A2 λb _ y c=>k.A2 b y c sP
def AM4{n c b:Nat}{g j s z e i}(h:C8 J z e i s)(t:lN g=z)(q:∀v∈g,v.oneCell')(m:lN (i++g)+lN j=c*z)(o:s.n+1<=c)(p:c<=maxLen)(l:J b=nO):C8 (J.plus b<|.cells (i++g++j).toArray e (0,0)) z e (i++g) ⟨sM ⟨b,0,nO⟩,s.n+1,c⟩:=by refine⟨?_,?_,.inr ⟨b,j,rfl,Li l,m,o,p⟩⟩;rw[CK,h.n,t,Gm,Nat.one_mul];intro v k;rcases Bc.1 k with k|k;exact h.one v k;exact q v k
def AMw{s:Bi}{x:Nat}:x∈(Bb s.a).toList↔Bb s.a=sM x:=by cases Bb s.a<;>simp[eq_comm]
def Iz.ACF{b c g AE}(h:Iz I J W f Z a Y r X d)(t:lN g=W)(s:∀v∈g,v.oneCell')(m:lN (Z++g)+lN AE=c*W)(n:a.n+1<=c)(o:c<=maxLen)(j:J b=nO)(k:Bb a.a=sM b\/J.free b):Iz I (J.plus b<|.cells (Z++g++AE).toArray f (0,0)) W f (Z++g) ⟨sM ⟨b,0,nO⟩,a.n+1,c⟩ Y r X d:=by
 have l:∀x∈(Bb d.a).toList,x≠b:=λx i e=>by subst e;rcases k with q|q;exact(Gl.1 h.nd).2.2 x (AMw.2 q) x i rfl;let⟨y,p⟩:=h.rb.B8 x i;have:=p.Ak;rw[q.2]at this;cases this
 refine⟨h.st.trans<|(Oj (P1:=[]) (P2:=(Bb d.a).toList) (o:=.cells (Z++g++AE).toArray f (0,0)) j k).cast sP<|by simp[Bb],?_,AM4 (n:=0) h.ra t s m n o j,h.rb.A2 λx i y p=>K0 p<|l x i⟩;show([b]++(Bb d.a).toList).Nodup;exact GX.2 ⟨λi=>l b i rfl,AAf d⟩
def Iz.ACK{b c g AE}(h:Iz I J W f Z a Y r X d)(t:lN g=Y)(s:∀v∈g,v.oneCell')(n:lN (X++g)+lN AE=c*Y)(o:d.n+1<=c)(p:c<=maxLen)(j:J b=nO)(k:Bb d.a=sM b\/J.free b):Iz I (J.plus b<|.cells (X++g++AE).toArray r (0,0)) W f Z a Y r (X++g) ⟨sM ⟨b,0,nO⟩,d.n+1,c⟩:=by
 have l:∀x∈(Bb a.a).toList,x≠b:=λx i e=>by subst e;rcases k with q|q;exact(Gl.1 h.nd).2.2 x i x (AMw.2 q) rfl;let⟨y,m⟩:=h.ra.B8 x i;have:=m.Ak;rw[q.2]at this;cases this
 refine⟨h.st.trans<|(Oj (P1:=(Bb a.a).toList) (P2:=[]) (o:=.cells (X++g++AE).toArray r (0,0)) j k).cast sP<|by simp[Bb],?_,h.ra.A2 λx i y m=>K0 m<|l x i,AM4 (n:=0) h.rb t s n o p j⟩;show((Bb a.a).toList++[b]).Nodup;rw[Gl];exact⟨AAf a,GX.2 ⟨sP,N9⟩,λx i y m e=>l x i<|e.trans<|A9.1 m⟩
def C8.Ou{k:Type}{I J:AB}{R:k->AA AF->Prop}{c:Nat}{e:BN}{i:AA k}{As:AA AF}{s:Bi}(h:C8 I c e As s)(hlen:s.n=lN i)(j:Rows R i As)(l:∀b o,s.a=sM ⟨b,0,nO⟩->I.B8 b o->J b=sM o):Av J R c i s.a s.c As:=by rcases h.at_ with⟨q1,q2,q3⟩|⟨b,g,q1,q2,q3,q4,q5⟩;exact⟨⟨by rw[h.n,hlen],h.one,.inl<|hlen▸q1⟩,oG,by rw[q3];exact Bm _,j⟩;refine⟨⟨by rw[h.n,hlen],h.one,.inr ⟨b,0,_,e,_,q1,l b _ q1 q2,?_⟩⟩,by rwa[<-hlen],q5,j⟩;rw[S6];show(As++g).take _=_;rw[<-hlen,<-h.n,TC]
def Cb.never{P b o}(h:Cb I [] J P)(m:b∈P)(k:J.B8 b o):Cb I [] (J.never b o) (P.erase b)/\I.Ak b=nO/\(∀x y,J.B8 x y->x≠b->(J.never b o).B8 x y)/\J.Da (J.never b o):=by
 have j:∀y,¬I.B8 b y:=by rcases h.CE b m with q|q;cases q;exact q
 have hle:J.Da (J.never b o):=λx y g=>by rwa[US _ _ λe=>by rw[e,k.at_]at g;cases g]
 have c:∀x y,J.B8 x y->x≠b->(J.never b o).B8 x y:=λx y g i=>⟨by rw[AAB _ _ i];exact g.Ak,by rw[US _ _ i];exact g.at_⟩;refine⟨⟨h.le.trans hle,λx y g n=>c x y (h.A2 x y g sP) λe=>j y<|e▸g,λx g=>h.CE x<|List.mem_of_mem_erase g⟩,?_,c,hle⟩;cases e:I.Ak b with
 |none=>rfl
 |some y=>
  exfalso;refine j y ⟨e,?_⟩;cases l:I b with
  |none=>rfl
  |some z=>have:=h.le b z l;rw[k.at_]at this;cases this
def Zi(l:Lz.AT):AA AF:=[vS<|AJ l.1,vS<|AJ l.2]
def APe(I:AB):zP:=λa h=>h= {r:=.s a 0 8 8,nb:=[.cells ((JR.flatMap Zi).map .v) 42],J:=I}
def Wd(I):Fn 16 [] [] I (APe I) nO:=fo func16 λc b w a=>gG<|dn [172] rfl
def ACH:Gq prog Bt 30 195 3:=⟨⟨_,rfl⟩,⟨_,_,rfl,rfl⟩,kR⟩
def U2(v):∀x∈BG v,x.oneCell':=SQ rfl
def AXx(I)(x:Nat)(a k:Nat)(l:a<=9223372036854775807)(m:0<k/\k<=1000):HL prog (.binOp .quo 3 (.tmp x) (.const (iV k)) 3) [(x,SV.v (iV a))] [] I (.v (.int iK ((a/k:Nat):Int))):=by
 refine .of ?_;rintro p j w ⟨c,_⟩ f _ _ o i;have e:=f (iV k) xO;simp[AO]at c;simp[execOp,i,rB,c,e];have h:Int.tdiv (a:Int) (k:Int)=((a/k:Nat):Int):=by rw[Int.tdiv_eq_ediv_of_nonneg oG];rfl
 have g:(k:Int)≠0:=oG;have n:prog.underlying 3=sM (.int iK):=Ek;have b:a/k<=a:=Nat.div_le_self a k;go_simp;rw[AY oG];have d:((a:Int)/(k:Int))=((a/k:Nat):Int):=rfl;rw[d];generalize a/k=q at b⊢;rw[AF9 oG];rfl
end
end Go.Proofs.YtomehhepbeiinaaGreatDoor
