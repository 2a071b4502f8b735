/- Part 4 of the proof of TopLeaks. No conditions. -/
import Derived.Test.YtomehhepbeiinaaGreatDoorZ03
import Derived.Shelf.Strconv.Itoa4
import Derived.Shelf.Strconv.ParseIntPublic10
import Derived.Shelf.Lay
import Derived.Ground.NamesProg
import Derived.Test.YtomehhepbeiinaaGreatDoorQWords
import Derived.Test.YtomehhepbeiinaaGreatDoorQIdxB
import Derived.Test.YtomehhepbeiinaaGreatDoorQBuilder
import Derived.Test.YtomehhepbeiinaaGreatDoorQBuilder2
import Derived.Test.YtomehhepbeiinaaGreatDoorQLabel3
import Derived.Shelf.SlIterI.Nil
import Derived.Shelf.SortM.Plain
import Derived.Shelf.SortM.SortNone
import Derived.Ground.GgzProg
import Derived.Ground.SlgmProg
import Derived.Shelf.SlMaps.Clone
import Derived.Ground.SlmcProg
import Derived.Shelf.Lays2
import Derived.Shelf.Spec.SlicesInsertGrow
import Derived.Ground.Names2Prog
set_option maxRecDepth 100000
set_option maxHeartbeats 4000000
set_option linter.all false
namespace Go.Proofs.YtomehhepbeiinaaGreatDoor
open Tryz
section
open Go.AX Lz
section
variable {F:FuncId} {a:Func} {n:Nat} {I:AB} {w:World} {ρ:Nat->Nat} {A:List Nat} {R:Dl} {f:BU}
def NH{i}(k){b b'}(g:ACX f k=some b)(e:∀ρ,b'.den ρ=b.den ρ)(c:∀x∈b'.keys,x∈b.keys)(d:b'.live=b.live)(h:AtD i F a n I w ρ A R (f.re k b')):AtD i F a n I w ρ A R f:=
 ⟨λhF=>AWC (c:=Jg prog F a n I w ρ A i) k g e c d (h.out hF)⟩
def AXo{l cs e t k off k2 b2 ad x ty I'}(p:(Lc f).op=.store t ad x)(B:ev f.σ.tm ad=.p k off)(y:(ev f.σ.tm x).cs=some cs)(s:lay.get t=some ty)(E:cs.length=ty.n)(D:off+cs.length<=l.length)(z:∀v∈cs,Xf v)
 (m:b2.live) (o:∀x∈Ax (splice l off cs),x=k\/x=k2) (i:Lw f n [(k,.cells l e),(k2,b2)] [k]=some ([some (.cells l e),some b2],I')) (hnext:At F a n I w ρ A R (f.act {r:=.v undef,upd:=[(k,.cells (splice l off cs) e)],J:=I'})):At F a n I w ρ A R f:=by
 refine act (need:=[(k,.cells l e),(k2,b2)]) [k] i (ARd (I:=I') (e:=e) A6 (L:=lay) p B y s E D z DX) ?_ ?_ ?_;intro h g G c;subst g;rw[AP.1 c];exact AP.2 rfl;intro h g;subst g;refine{r:= ?_,u:= ?_,n:= ?_,l:=by simp,le:=AB.Fa _,d:=by simp};intro k C;cases C;intro G c;rw[AP.1 c];refine⟨sP,?_,?_⟩;intro b j;rcases BD.1 j with q|q;rw[(GY q).2];rfl;rw[(GY (AP.1 q)).2];exact m;intro x y;rcases o x y with q|q<;>(left;simp[q]);intro b j;cases j;intro h g;subst g;exact hnext
end
def AYe{op c rd I r}(b:List (Nat×SV))(h:∀key tm (o:Oper),o.op=op->(∀p∈c,tm p.1=p.2)->LS prog o tm key rd I r none):
 ∀key tm (o:Oper),o.op=op->(∀p∈c++b,tm p.1=p.2)->LS prog o tm key rd I r none:=λkey tm o d ht=>h key tm o d λp hp=>ht p (List.mem_append_left _ hp)
def ABA(k b)(l:AA AE):F7 k b (l.map .v)=l.map .v:=by
 induction l with
 |nil=>rfl
 |cons x l c=>simp[EM,F7,SV.BW,c]
def AG8(k b l r):F7 k b (l++r)=F7 k b l++F7 k b r:=by
 induction l with
 |nil=>rfl
 |cons x l c=>simp[Fj,F7,c]
def AQz(k b n c d)(l:AA AE):F7 k b (splice (l.map .v) d [.s k 0 n c])=(splice l d [.slice (some ⟨b,0,none⟩) n c]).map .v:=by unfold splice;rw[AG8,AG8,<-Yv,<-List.map_drop,ABA,ABA];simp[F7,SV.BW]
def Nx(l:AA AE):Ax (l.map .v)=[]:=by
 induction l with
 |nil=>rfl
 |cons x l b=>simp[Ax,SV.keys,b]
def W8(l r):Ax (l++r)=Ax l++Ax r:=by
 induction l with
 |nil=>rfl
 |cons x l b=>simp[Ax,b]
def ASe(k n c d)(l:AA AE):∀x∈Ax (splice (l.map .v) d [.s k 0 n c]),x=k:=by intro x b;unfold splice at b;rw[W8,W8,<-Yv,<-List.map_drop,Nx,Nx]at b;simpa[Ax,SV.keys]using b
def AQy{I f g b c d}(i:g.length=f.vars.length)(h:EE I g (some ⟨b,0,none⟩) c d):∀e,E7 I f e->E7 I {f with vars:=g} (splice e 4 [.slice (some ⟨b,0,none⟩) f.vars.length c]):=by rintro e ⟨k,l,j,rfl,q⟩;refine⟨some ⟨b,0,none⟩,c,d,?_,h⟩;show _=[_,_,_,_,Value.slice _ g.length c];rw[i];rfl
def ADQ(b e ρ):(AG.cells (b.map .v) e).den ρ=(AG.Aa b e).den ρ:=by simp[AG.den,Fu]
def AXt(I m cap fl AC f vs cells x)(ht:EE I vs m.ta m.tc cells)(hn:m.tn=vs.length)(H:vs[0]? =some x)(O:m.c.top=some f)(u:m.oa<f.vars.length)(ad:f.vars.length<=1000000)(hF:EY I m.c cap fl AC)(P:m.c.AF.length<=1000000):
 Fn 203 [.p 1 0] (IU m cap (fl++AC)) I (Mm I m cap (Da m.c λf=>{f with vars:=f.vars.set m.oa x})) none:=by
 have p:0<vs.length:=(B6.1 H).1;obtain⟨m,b,off,arr,e,fr,rfl,hI,l⟩:=Qv m ht hn p;have h0:=l 0 x H;have hl:=hF.len;simp only at O u hF P hl;let⟨ab,va,V,d,o,t⟩:=hF.top O;have k:=t 4 _ rfl;let⟨b2,j,W,e2,Z,G,aa,ac⟩:=VA o oG;subst G;have T:=ACk o.rows;generalize hN:m.c.AF.length=N at*;have hlen:(fl++AC).length=fl.length+AC.length:=Bc;have i:((fl++AC).map SV.v)[0+(N-1)*5+4]? =some (.v (.slice (some ⟨b2,j,none⟩) f.vars.length V)):=by rw[E0,k];rfl
 refine fo func203 YV λρ key w C=>gG ?_;have E:=YK I (m.tk b off vs.length) cap (fl++AC) (by show 0<m.c.AF.length;omega) (by show m.c.AF.length<=_;omega);refine Mp E rfl [] kR<|go func203 [] 2 kR<|NH 2 (b:=.Aa (fl++AC) 65) (b':=.cells ((fl++AC).map .v) 65) kR (λρ=>ADQ _ _ ρ) (by intro x z;simp only[AG.keys,Nx]at z;cases z) rfl ?_;refine gg [(9,.hand (.load 29 (.tmp 8)) [(8,.p 2 (0+(m.c.AF.length-1)*5+4))] [(2,.cells ((fl++AC).map .v) 65)] I (.v (.slice (some ⟨b2,j,none⟩) f.vars.length V)) (XK A6 (L:=lay) (t:=29) (a:=8) (k:=2) (off:=0+(m.c.AF.length-1)*5+4) (ty:=⟨1,_,_⟩) (l:=(fl++AC).map .v) (e:=65) rfl rfl (by rw[hN];exact i)))] ?_;refine Nl (AFx I ⟨b2,j,none⟩ f.vars.length V d oG o.sl) kR λc g L M hj=>go func203 [] 2 kR ?_;have D:0+(m.c.AF.length-1)*5+4+1<=((fl++AC).map SV.v).length:=by rw[C6,hlen,hN];omega
 refine AXo (k:=2) (off:=0+(m.c.AF.length-1)*5+4) (t:=29) (ad:=.tmp 12) (x:=.tmp 10) (e:=65) (l:=(fl++AC).map .v) (cs:=[.s 164 0 f.vars.length c]) (k2:=164) (b2:=.Aa (d++g) 51) (ty:=⟨1,_,_⟩) (I':=I) kR kR kR rfl rfl D (by intro v l;rw[AP.1 l];rfl) rfl (λx z=>.inr (ASe _ _ _ _ _ x z)) kR ?_;have B:(splice ((fl++AC).map SV.v) (0+(m.c.AF.length-1)*5+4) [.s 164 0 f.vars.length c])[0+(m.c.AF.length-1)*5+4]? =some (.s 164 0 f.vars.length c):=by
  unfold splice;have h3:(((fl++AC).map SV.v).take (0+(m.c.AF.length-1)*5+4)).length=0+(m.c.AF.length-1)*5+4:=by rw[CX];omega
  rw[Dk,Ef oG,h3,Pp];rfl
 have s:d.length=f.vars.length*5:=by rw[T,R7]
 refine gg [(16,.hand (.load 29 (.tmp 15)) ([(15,.p 2 (0+(m.c.AF.length-1)*5+4))]++[(10,.s 164 0 f.vars.length c)]) [(2,.cells (splice ((fl++AC).map .v) (0+(m.c.AF.length-1)*5+4) [.s 164 0 f.vars.length c]) 65)] I (.s 164 0 f.vars.length c) (AYe [(10,.s 164 0 f.vars.length c)] (XK A6 (L:=lay) (t:=29) (a:=15) (k:=2) (off:=0+(m.c.AF.length-1)*5+4) (ty:=⟨1,_,_⟩) (l:=splice ((fl++AC).map .v) (0+(m.c.AF.length-1)*5+4) [.s 164 0 f.vars.length c]) (e:=65) rfl rfl B))),
  (26,BM I E5 b off vs.length m.tc 0 p),(27,DR I MX (off+0*5) (Au x) rfl hI h0),
  (28,.hand (.indexAddr 29 (.tmp 16) (.tmp 21)) [(16,.s 164 0 f.vars.length c),(21,.v (.int .i64 (Int.ofNat m.oa)))] [] I (.p 164 (0+m.oa*5)) (Hb A6 (L:=lay) (t:=29) (a:=16) (b:=21) (k:=164) (off:=0) (n:=f.vars.length) (c:=c) (i:=m.oa) (e:=51) (ty:=⟨5,_,_⟩) rfl rfl u))] ?_
 refine Bm (k:=164) (off:=0+m.oa*5) (t:=51) (ad:=.tmp 28) (x:=.tmp 27) (e:=51) (vs:=d++g) (cs:=Au x) (ty:=⟨5,_,_⟩) (I':=I) kR kR kR rfl rfl (by rw[Bc,s];show 0+m.oa*5+5<=_;omega) (by intro v l;simp[Au]at l;rcases l with rfl|rfl|rfl|rfl|rfl<;>rfl) kR ?_;refine gG<|BW 164 I (vs:=splice (d++g) (0+m.oa*5) (Au x)) (e:=51) kR λb3 J hle _ X=>NH 2 (b:=.cells (F7 164 b3 (splice ((fl++AC).map .v) (0+(m.c.AF.length-1)*5+4) [.s 164 0 f.vars.length c])) 65) (b':=.Aa (splice (fl++AC) (0+(m.c.AF.length-1)*5+4) [.slice (some ⟨b3,0,none⟩) f.vars.length c]) 65) kR (λρ=>by rw[AQz,ADQ]) (by intro x z;cases z) rfl ?_;have U:f.vars[m.oa]? =some f.vars[m.oa]:=A9 u;have y:EE J (f.vars.set m.oa x) (some ⟨b3,0,none⟩) c (splice d (m.oa*5+0) (Au x)):=by
  have Y:Rows Ey (f.vars.set m.oa x) (splice d (m.oa*5+0) (Au x)):=o.rows.upd G6 (λ_ _ h=>h) U (λrow q=>by unfold Ey at q⊢;rw[q];rfl) (by simp[Au])
  refine Aj.JN (AC:=g) (e:=51) ?_ Y G6 (λv l=>N6 v (by rw[ACk Y]at l;exact l)) (by rw[Yu];exact L) M;rw[D5,Se (by rw[s];show m.oa*5+5<=_;omega)]at X;exact X
 have K:EY I m.c cap fl AC:=hF;let⟨Q,S⟩:=K.Fi (f:=f) O hle (j:=4) (cs:=[.slice (some ⟨b3,0,none⟩) f.vars.length c]) (g:=λf=>{f with vars:=f.vars.set m.oa x}) (AQy sP y) sP;have hd:Mm I (m.tk b off vs.length) cap (Da m.c λf=>{f with vars:=f.vars.set m.oa x}) key {r:=.t [],upd:=[(1,(m.tk b off vs.length).JO 2 cap),(2,.Aa (splice (fl++AC) (0+(m.c.AF.length-1)*5+4) [.slice (some ⟨b3,0,none⟩) f.vars.length c]) 65)],J:=J}:=by refine⟨J,_,AC,hle,Q,?_⟩;rw[S];unfold BV.JO;simp only[ACK];rfl
 exact done func203 C [] kR hd
end
section
open Go.AX Go.RowKit Go.Shelf Lz
def ASy:Ren where
 f:=λx=>match x with|173=>124|246=>177|283=>253|284=>254|285=>255|286=>256|129=>328|317=>327|318=>329|319=>330|320=>331|337=>365|338=>366|n=>n
 t:=λx=>match x with|2=>2|3=>3|9=>9|4=>4|171=>360|0=>0|53=>227|37=>23|5=>5|173=>363|212=>422|51=>423|20=>20|213=>424|46=>302|232=>469|233=>470|n=>n
 g:=λx=>match x with|17=>4|18=>5|19=>6|n=>n
def AID:LaysM.n173 prog ASy:=by constructor<;>first|(intros;kernel_rfl)|(constructor<;>first|(intros;kernel_rfl)|(constructor<;>intros<;>kernel_rfl))
def UM:Ren where
 f:=λx=>match x with|174=>322|247=>361|245=>362|287=>389|279=>390|280=>391|281=>392|282=>393|321=>409|322=>410|316=>411|171=>413|205=>412|243=>420|246=>177|283=>253|284=>254|285=>255|286=>256|129=>328|317=>327|318=>329|319=>330|320=>331|337=>365|338=>366|n=>n
 t:=λx=>match x with|9=>9|3=>3|2=>2|75=>252|85=>416|4=>4|167=>463|5=>5|53=>227|175=>464|46=>302|168=>466|37=>23|0=>0|210=>485|21=>21|127=>320|145=>499|143=>497|171=>360|173=>363|212=>422|51=>423|20=>20|213=>424|232=>469|233=>470|80=>256|n=>n
 g:=λx=>match x with|15=>7|16=>8|17=>4|18=>5|19=>6|n=>n
def AIE:LaysC.n174 prog UM:=by constructor<;>first|(intros;kernel_rfl)|(constructor<;>first|(intros;kernel_rfl)|(constructor<;>intros<;>kernel_rfl))
structure Pow(I:AB):Prop where
 tab:∃e fr,I 4=some (.cells (Lib.pow10Tab.map λz=>Value.int .u64 z).toArray e fr)
 err:∃ev e fr,I (UM.g 15)=some (.cells #[ev] e fr)/\(ev=.nilIface\/∃b a,ev=.iface b a)
def Pow.up{I J}(h:Pow I)(hle:I.le J):Pow J:=by let⟨⟨e,c,d⟩,⟨ev,b,a,f,g⟩⟩:=h;exact⟨⟨e,c,hle _ _ d⟩,⟨ev,b,a,hle _ _ f,g⟩⟩
def ABE:prog.globalNamed "internal/strconv.uint64pow10" =some 4:=kR
def Pow.is{I}(h:Pow I){w}(b:Db w I):Lib.TabIs prog w "internal/strconv.uint64pow10" .u64 Lib.pow10Tab:=by let⟨e,c,a⟩:=h.tab;unfold Lib.TabIs World.var?;rw[ABE];simp[b 4 _ a]
def AA5{F b a f r v I}(j:prog.funcs[F]? =some b)(i:b.body.isSome)(c:(b.name== "runtime.NumGoroutine")=false)
 (g:∀d,(As d a).toArray=f) (l:∀d,den d r=v) (k:r.keys=[]) (h:∀w,Db w I->Calls prog F f w λe m=>e=.returned v/\Below w.heap.size w m):Fn F a [] I (A1 r I) none:=
 MB j i c g l k h
def AFA(w k a):Below w.heap.size w (Go.Sort.grow (w.drewN k) a):=by refine⟨rfl,rfl,rfl,?_,λj b=> ?_⟩;show w.heap.size<=(w.heap++a).size;rw[Array.size_append];omega;show(w.heap++a)[j]? =w.heap[j]?;rw[Array.getElem?_append_left b]
def AQt(I)(c:Pow I)(n:Int)(a: -9223372036854775808<=n)(b:n<=9223372036854775807):Fn 124 [.v (.int .i64 n),.v (.int .i64 10)] [] I (A1 (.v (.string (str (Lib.itoa n)))) I) none:=
 AA5 func124 kR kR (λ_=>rfl) (λ_=>rfl) rfl λw d=>by refine(Any.strconv_FormatInt_10 AID n a b w (c.is d)).mono ?_;rintro e g ⟨rfl,k,f,rfl⟩;exact⟨rfl,AFA w k f⟩
def YH(I)(d:Pow I)(n:Int)(b: -9223372036854775808<=n)(c:n<=9223372036854775807):Fn 69 [.v (.int .i64 n)] [] I (A1 (.v (.string (str (Lib.itoa n)))) I) none:=fo func69 (BZ rfl) λf e w a=>gG<|call (AQt I d n b c) kR<|gG<|fi
def AVM(I l)(n:Int)(h:Lib.parseIntB 64 l=.ok n)(a:l.length<=1000):Fn 322 [.v (.string (str l)),.v (.int .i64 10),.v (.int .i64 64)] [] I (A1 (.t [.v (.int .i64 n),.v .nilIface]) I) none:=
 AA5 func322 kR kR (λ_=>rfl) (λ_=>rfl) rfl λw b=>by refine(Any.strconv_ParseInt_10_at64_ok AIE (str l) (by rw[show(str l).size=l.length from by simp[str,ByteArray.size]];omega) n (by rw[show(str l).data.toList=l from by simp[str]];exact h) w).mono ?_;rintro e c ⟨rfl,rfl|⟨t,rfl⟩⟩;exact⟨rfl,Below.refl _ _⟩;exact⟨rfl,Go.Joins.below_bytesWorld _ _ _ _ (AZ _)⟩
def ALj:prog.underlying 252=some (.interface (prog.methodsAt 252)):=kR
def AXI{I}(x):∀w,Db w I->∃a,((do eqGuard .neq 252 x (.const .nilIface) .nilIface .nilIface;binOp .neq 252 .nilIface .nilIface:Sem AE)).run prog w=.ok (den id (.v (.bool false))) a/\BB w a:=λw _=>
 ⟨w,by
   rw[eqGuard_nil_constR];simp[Sem.run_bind,Sem.run_pure,Result.andThen_ok,den];exact run_neq_nil_nil w 252 ALj,BB.refl w⟩
def XX(l):Value.bool (!((str l).toList==(str l).toList))=.bool false:=sP
def PL(I)(d:Pow I)(l)(n:Int)(h:Lib.parseIntB 64 l=.ok n)(e:Lib.itoa n=l)(g:l.length<=20)(b: -9223372036854775808<=n)(c:n<=9223372036854775807):Fn 247 [.v (.string (str l))] [] I (A1 (.t [.v (.int .i64 n),.v (.bool true)]) I) none:=by have i:=Ek l;refine fo func247 (BZ rfl) λj f w a=>gg [(8,hF (((str l).size:Int)>20) oG)]<|call (AVM I l n h oG) kR<|gg [(15,.op I _ _ (AXI (.tmp 14)))]<|call (YH I d n b c) kR ?_;rw[e];exact gg [(20,.eq _ _ (XX l))]<|fi
end
section
open Go.AX Lz
def Bg(n:Nm):Prop:=∀x∈n,x<=999
def AJ1:AA AH->Nat:=List.foldl (λa c=>10*a+(c.toNat-48)) 0
def APV:(List.range 1000).all (λn=>AJ1 (dec n)==n&&(dec n).all (λc=>c !=46)&&decide (1<=(dec n).length)&&decide ((dec n).length<=3)):=kR
def Ir{n}(h:n<=999):AJ1 (dec n)=n/\(46:AH)∉dec n/\1<=(dec n).length/\(dec n).length<=3:=by have:=Df.1 APV n (NV.2 oG);simp[Bt,Gm,D1,Df]at this;exact⟨this.1.1.1,λa=>by have:=this.1.1.2 46 a;revert this;decide,this.1.2,this.2⟩
def AGB{a b}(e:a<=999)(f:b<=999)(h:dec a=dec b):a=b:=by have c:=(Ir e).1;have d:=(Ir f).1;rw[h]at c;rw[<-c,d]
def isOk:Lib.NumEnd Int->Int->Bool
 | .ok v,n=>v==n
 |_,_=>false
def ASD{e}{n:Int}(h:isOk e n):e=.ok n:=by unfold isOk at h;split at h;rw[eq_of_beq h];cases h
def AVN:(List.range 1000).all (λn=>isOk (Lib.parseIntB 64 (dec n)) (n:Int)):=kR
def AGC{n:Nat}(h:n<=999):Lib.parseIntB 64 (dec n)=.ok (n:Int):=ASD (Df.1 AVN n (NV.2 oG))
def AAb{n:Nat}(h:n<=999):Lib.itoa (n:Int)=dec n:=by have c: ¬(n:Int)<0:=oG;unfold Lib.itoa dec;rw[AN c,Int.toNat_natCast];by_cases a:n<10;rw[AW a,Lib.decDigits,RH a];rw[AN a];by_cases b:n<100;rw[AW b,Lib.decDigits,dif_neg a,Lib.decDigits,RH oG];rfl;rw[AN b,Lib.decDigits,dif_neg a,Lib.decDigits,dif_neg oG,Lib.decDigits,RH oG];simp[Fj,Fo];rw[Nat.div_div_eq_div_mul]
def AX8{n}(h:n<=999)(l):(dec n++46::l).takeWhile (λc=>c !=46)=dec n:=by
 have a:=(Ir h).2.1;have:∀d:AA AH,(46:AH)∉d->(d++46::l).takeWhile (λc=>c !=46)=d:=by
  intro d;induction d with
  |nil=>intro _;simp
  |cons x d g=>
   intro f;have b:(x !=46):=by rw[ZA];intro e;exact f (by rw[e];simp)
   rw[Fj,Po,AW b,g λq=>f (DW _ q)]
 exact this _ a
def AX9{n}(h:n<=999):(dec n).takeWhile (λc=>c !=46)=dec n:=by
 have a:=(Ir h).2.1;have:∀d:AA AH,(46:AH)∉d->d.takeWhile (λc=>c !=46)=d:=by
  intro d;induction d with
  |nil=>intro _;rfl
  |cons x d g=>
   intro f;have b:(x !=46):=by rw[ZA];intro e;exact f (by rw[e];simp)
   rw[Po,AW b,g λq=>f (DW _ q)]
 exact this _ a
def Kj(n m l):Cr (n::m::l)=dec n++46::Cr (m::l):=rfl
def XS{n l}(h:n<=999):(Cr (n::l)).takeWhile (λc=>c !=46)=dec n:=by
 cases l with
 |nil=>exact AX9 h
 |cons m l=>rw[Kj];exact AX8 h _
def N3:∀ {a b:Nm},Bg a->Bg b->Cr a=Cr b->a=b
 |[],[],_,_,_=>rfl
 |[],n::l,_,hb,h=>by have c:=XS (l:=l) (hb n sP);rw[<-h]at c;have:=(Ir (hb n sP)).2.2.1;rw[<-c]at this;simp[Cr]at this
 |n::l,[],ha,_,h=>by have c:=XS (l:=l) (ha n sP);rw[h]at c;have:=(Ir (ha n sP)).2.2.1;rw[<-c]at this;simp[Cr]at this
 |[n],[m],ha,hb,h=>by rw[AGB (ha n sP) (hb m sP) h]
 |[n],m::k::l,ha,hb,h=>by
  have c:(46:AH)∈Cr [n]:=by rw[h,Kj];simp
  exact absurd c (Ir (ha n sP)).2.1
 |n::k::l,[m],ha,hb,h=>by
  have c:(46:AH)∈Cr [m]:=by rw[<-h,Kj];simp
  exact absurd c (Ir (hb m sP)).2.1
 |n::k::l,m::j::r,ha,hb,h=>by have c:=XS (l:=k::l) (ha n sP);have g:=XS (l:=j::r) (hb m sP);rw[h,g]at c;have e:=AGB (hb m sP) (ha n sP) c;subst e;rw[Kj,Kj]at h;have f:=List.append_cancel_left h;simp[ON,true_and]at f;rw[N3 (λx d=>ha x (DW _ d)) (λx d=>hb x (DW _ d)) f]
def XT:∀ {a:Nm},Bg a->(Cr a).length<=4*a.length/\(a≠[]->(Cr a).length+1<=4*a.length/\1<=(Cr a).length)
 |[],_=>⟨AZ _,λh=>absurd rfl h⟩
 |[n],h=>by have:=Ir (h n sP);show(dec n).length<=4/\(_->(dec n).length+1<=4/\1<=(dec n).length);exact⟨oG,λ_=>⟨oG,oG⟩⟩
 |n::m::l,h=>by have d:=Ir (h n sP);have b:=XT (a:=m::l) (λx c=>h x (DW _ c));rw[Kj];simp only[Bc,EW]at b⊢;have e:=b.2 sP;exact⟨oG,λ_=>⟨oG,oG⟩⟩
def XU{n}(h:BY n):Bg n/\n≠[]/\n.length<=24:=by simp[BY,Bt,D1,Df]at h;exact⟨h.2,by intro e;rw[e]at h;simp at h,h.1.2⟩
def index_none{n}(h:n<=999):Lib.indexByte (dec n) 46= -1:=by
 have a:=(Ir h).2.1;have:∀d:AA AH,(46:AH)∉d->Lib.indexByte d 46= -1:=by
  intro d;induction d with
  |nil=>intro _;rfl
  |cons x d f=>
   intro c;have b: ¬(x==46):=by intro e;exact c (by rw[eq_of_beq e];simp)
   rw[Lib.indexByte,AN b,f λq=>c (DW _ q)];rfl
 exact this _ a
def ARt{n}(h:n<=999)(l):Lib.indexByte (dec n++46::l) 46=(dec n).length:=by
 have a:=(Ir h).2.1;have:∀d:AA AH,(46:AH)∉d->Lib.indexByte (d++46::l) 46=d.length:=by
  intro d;induction d with
  |nil=>intro _;rfl
  |cons x d g=>
   intro c;have b: ¬(x==46):=by intro e;exact c (by rw[eq_of_beq e];simp)
   have f:=g λq=>c (DW _ q);rw[Fj,Lib.indexByte,AN b,f];have: ¬((d.length:Int)== -1):=sP;rw[AN this];simp
 exact this _ a
section
open Go.RowKit Go.Shelf
attribute [local go_sem] Oper.semAt_some Ek IB
def ABU(I l)(n:Int)(h:Lib.indexByte l 46=n):Fn 337 [.v (.string (str l)),.v (.string ⟨#[46]⟩)] [] I (A1 (.v (.int .i64 n)) I) none:=
 AA5 func337 kR kR (λ_=>rfl) (λ_=>rfl) rfl λw a=>by refine(ABV 46 (str l) w).mono ?_;rintro e b ⟨rfl,rfl⟩;rw[show(str l).data.toList=l from by simp[str],h];exact⟨rfl,Below.refl _ _⟩
end
def ints(n:AA Nat):AA AE:=n.map λx:Nat=>Value.int .i64 (Int.ofNat x)
abbrev Jt(x:SV):AG:=.cells [x] 100
abbrev Jo:AG:=.cells [.v (.bool true)] 4
def ZS(I:AB)(n:Nat):Nat->AU->Prop:=λc h=>∃a b,1<=a/\a<=maxLen/\b.length=a-1/\h= {r:=.v (.bool true),upd:=[(1,Jt (.s c 0 1 a)),(2,Jo)],nb:=[.Aa (ints [n]++b) 3],J:=I}
def MN(a b):(Bf a [b] a).isSome:=by have:=Gx (key:=a) (nb:=[b]) (j:=0);simp[FD]at this;rw[this];rfl
def AZY{I n f g}:CO (ZS I n) [(1,f),(2,g)] I:=by refine⟨?_⟩;rintro l h ⟨i,d,_,_,_,rfl⟩;refine⟨⟨nA,λm c=> ?_,(λb j k a=>by rw[AP.1 j]at a;cases a),sP,sP⟩,AB.le_refl _⟩;rcases BD.1 c with e|e;rw[e];exact⟨sP,λk a=>.inr (by simp[AG.keys,Ax,SV.keys]at a;rw[a];exact MN _ _)⟩;rw[AP.1 e];exact⟨sP,nA⟩
def ZZ(I:AB)(done:Nm)(n:Nat):Nat->AU->Prop:=λc h=>∃a b,done.length+1<=a/\a<=maxLen/\b.length=a-(done.length+1)/\h= {r:=.v (.bool true),upd:=[(1,Jt (.s c 0 (done.length+1) a)),(2,Jo),(3,.gone)],nb:=[.Aa (ints (done++[n])++b) 3],J:=I}
def AZf{I done n f g i}:CO (ZZ I done n) [(1,f),(2,g),(3,i)] I:=by refine⟨?_⟩;rintro m h ⟨j,d,_,_,_,rfl⟩;refine⟨⟨nA,λo c=> ?_,(λb l k a=>by rw[AP.1 l]at a;cases a),sP,sP⟩,AB.le_refl _⟩;simp[mS]at c;rcases c with e|e|e;rw[e];exact⟨sP,λk a=>.inr (by simp[AG.keys,Ax,SV.keys]at a;rw[a];exact MN _ _)⟩;rw[e];exact⟨sP,nA⟩;rw[e];exact⟨sP,nA⟩
def UD(n):(ints n).length=n.length:=by simp[ints]
def UE(n):∀v∈ints n,v.oneCell':=by intro v a;obtain⟨x,_,rfl⟩:=BG.1 a;rfl
def Zo:FE prog lay 100 3 1:=⟨⟨_,rfl⟩,⟨_,_,rfl,rfl⟩,kR⟩
def ALI(I)(j:Pow I)(n)(d:n<=999):Fn 246 [.v (.string (str (dec n))),.p 1 0,.p 2 0] [(1,Jt (.v (.slice none 0 0))),(2,Jo)] I (ZS I n) none:=by have m:=Ir d;refine fo func246 AZY λp l w e=>gG<|call (PL I j (dec n) n (AGC d) (AAb d) oG oG oG) kR<|gg [(15,hT ((n:Int)≥0) oG),(19,hT ((n:Int)<=999) oG)]<|act (need:=[(308,.cells [.v (.int .i64 n)] 3)]) [] kR (KU (I:=I) A6 (n:=0) (cap:=0) (m:=1) (a:=none) (l:=.v (.slice none 0 0)) (x:=.s 308 0 1 1) (olds:=[]) (news:=ints [n]) Zo kR rfl NG (D2 (e:=3) (AP.2 rfl) rfl (UE [n])) (AZ _) oG (λ_=>rfl) oG) (λf k o c=> ?_) LD ?_;obtain⟨b,a,_,_,_,rfl⟩:=k;cases c;rintro f ⟨b,a,g,h,i,rfl⟩;refine gG ?_;exact dn [316] ⟨b,a,g,h,by rw[i];simp,rfl⟩
def ALJ(I)(o:Pow I)(a n c b)(g:n<=999)(v:a.length<24)(p:a.length<=c)(t:c<=maxLen)(s:b.length=c-a.length):Fn 246 [.v (.string (str (dec n))),.p 1 0,.p 2 0] [(1,Jt (.s 3 0 a.length c)),(2,Jo),(3,.Aa (ints a++b) 3)] I (ZZ I a n) none:=by have u:=Ir g;refine fo func246 AZf λy h w i=>gG<|call (PL I o (dec n) n (AGC g) (AAb g) oG oG oG) kR<|gg [(15,hT ((n:Int)≥0) oG),(19,hT ((n:Int)<=999) oG),(24,hT ((a.length:Int)<24) oG)]<|act (need:=[(3,.Aa (ints a++b) 3),(308,.cells ((ints [n]).map .v) 3)]) [3] kR (JC (I:=I) A6 (n:=a.length) (m:=1) (cap:=c) (k:=3) (vs:=ints a++b) (olds:=ints a) (news:=ints [n]) (x:=.s 308 0 1 1) Zo kR DX (by rw[Bc,UD,s];omega) (by rw[NZ];rw[UD];omega) (UE _) (D2 (e:=3) sP rfl (UE [n])) p t oG) (λj q x f=> ?_) (Oc rfl) ?_;obtain⟨c,b,_,_,_,rfl⟩:=q;rw[AP.1 f];exact AP.2 rfl;rintro j ⟨e,d,k,l,m,rfl⟩;refine gG ?_;refine dn [316] ⟨e,d,k,l,by rw[m];simp,?_⟩ (h:={r:=.v (.bool true),upd:=[(1,Jt (.s (h+0) 0 (a.length+1) e)),(2,Jo),(3,.gone)],nb:=[.Aa (ints a++ints [n]++d) 3],J:=I});simp[ints]
abbrev NK(l:AA AH):AG:=.cells [.v (.string (str l))] 9
abbrev NJ:AG:=.cells [.v (.string ⟨#[46]⟩)] 9
abbrev zeroCell:AG:=.cells [.v (.int .i64 0)] 3
section
variable {F:FuncId} {a:Func} {n:Nat} {I:AB} {w:World} {ρ:Nat->Nat} {A:List Nat} {R:Dl} {f:BU}
def AFe{i m d j k}(h:Fn 246 d [(1,j),(2,k)] i (ZS i m) none)(g:Ci f n 246 [] [(1,j),(2,k)] [1,2]=some (Bz (AT []) d,[(1,j),(2,k)].map (λp=>some (p.2.Am (AT []))),i))
 (hnext:∀c b,1<=c->c<=maxLen->b.length=c-1->At F a n I w ρ A R (f.out (AT []) {r:=.v (.bool true),upd:=[(1,Jt (.s (Cw f) 0 1 c)),(2,Jo)],nb:=[.Aa (ints [m]++b) 3],J:=i})):At F a n I w ρ A R f:=
 Ag h [] [1,2] g (λ_ h l p o=>by obtain⟨c,b,_,_,_,rfl⟩:=l;rcases BD.1 o with e|e;rw[e];simp;rw[AP.1 e];simp) λh l=>by obtain⟨c,b,q,s,t,rfl⟩:=l;exact hnext c b q s t
def AFf{l b m g o p q}(k)(h:Fn 246 g [(1,o),(2,p),(3,q)] l (ZZ l b m) none)(j:Ci f n 246 [(3,k)] [(1,o),(2,p),(3,q)] [1,2,3]=some (Bz (AT [(3,k)]) g,[(1,o),(2,p),(3,q)].map (λt=>some (t.2.Am (AT [(3,k)]))),l))
 (hnext:∀d c,b.length+1<=d->d<=maxLen->c.length=d-(b.length+1)->At F a n I w ρ A R (f.out (AT [(3,k)]) {r:=.v (.bool true),upd:=[(1,Jt (.s (Cw f) 0 (b.length+1) d)),(2,Jo),(3,.gone)],nb:=[.Aa (ints (b++[m])++c) 3],J:=l})):At F a n I w ρ A R f:=
 Ag h [(3,k)] [1,2,3] j (λ_ h s t i=>by obtain⟨d,c,_,_,_,rfl⟩:=s;simp[mS]at i;rcases i with e|e|e<;>(rw[e];simp)) λh s=>by obtain⟨d,c,u,v,x,rfl⟩:=s;exact hnext d c u v x
end
abbrev UX(l:AA AH):AA (Nat×AG):=[(1,Jt (.v (.slice none 0 0))),(2,Jo),(3,NJ),(4,NK l),(5,zeroCell)]
def TU(I:AB)(d:Nm):Nat->AU->Prop:=λe h=>∃b c l,d.length<=b/\b<=maxLen/\c.length=b-d.length/\h= {r:=.t [],upd:=[(1,Jt (.s e 0 d.length b)),(2,Jo),(3,NJ),(4,NK l),(5,zeroCell)],nb:=[.Aa (ints d++c) 3],J:=I}
def AZn{I o l}:CO (TU I o) (UX l) I:=by
 refine⟨?_⟩;rintro m h ⟨i,g,l,_,_,_,rfl⟩;refine⟨⟨nA,λp d=> ?_,(λb j k c=>by rw[AP.1 j]at c;cases c),sP,sP⟩,AB.le_refl _⟩;simp[mS]at d;rcases d with e|e|e|e|e;rw[e];exact⟨sP,λk c=>.inr (by simp[AG.keys,Ax,SV.keys]at c;rw[c];exact MN _ _)⟩
 all_goals(rw[e];exact⟨sP,nA⟩)
structure SqX where
 Ep:Nm
 rest:Nm
 cap:Nat
 AC:AA AE
def YB(I:AB)(x:SqX):Hd where
 By:=[(0,.fn (.func 246) [] [.p 1 0,.p 2 0]),(1,.p 3 0),(2,.p 4 0),(3,.p 5 0)]
 Bu:=match x.Ep with
  |[]=>[(1,Jt (.v (.slice none 0 0))),(2,Jo),(3,NJ),(4,NK (Cr x.rest)),(5,zeroCell)]
  |d::l=>[(1,Jt (.s 6 0 (d::l).length x.cap)),(2,Jo),(3,NJ),(4,NK (Cr x.rest)),(5,zeroCell),(6,.Aa (ints (d::l)++x.AC) 3)]
 J:=I
structure SqP(nm:Nm)(x:SqX):Prop where
 all:x.Ep++x.rest=nm
 ne:x.rest≠[]
 cap:x.Ep.length<=x.cap/\x.cap<=maxLen/\x.AC.length=x.cap-x.Ep.length
def AXM{I}{l:AA AH}{k:Nat}(d:k<=l.length):∀w,Db w I->∃c,(Instr.sliceAt 9 (.string (str l)) none (some (.int .i64 (k:Int))) none).run prog w=.ok (den id (.v (.string (str (l.take k))))) c/\BB w c:=λw _=>
 ⟨w,by
   have b:(0:Int)<=(k:Int)/\(k:Int)<=((str l).size:Int):=by rw[Ek];omega
   simp[Instr.sliceAt,Instr.slice,run_underlying YQ,Instr.sliceBounds,run_sliceBound,b.1,b.2,Result.andThen,den,AGf],BB.refl w⟩
def AXL{I}{l:AA AH}{k:Nat}(d:k<=l.length):∀w,Db w I->∃c,(Instr.sliceAt 9 (.string (str l)) (some (.int .i64 (k:Int))) none none).run prog w=.ok (den id (.v (.string (str (l.drop k))))) c/\BB w c:=λw _=>
 ⟨w,by
   have b:(0:Int)<=(k:Int)/\(k:Int)<=((str l).size:Int):=by rw[Ek];omega
   simp[Instr.sliceAt,Instr.slice,run_underlying YQ,Instr.sliceBounds,run_sliceBound,b.1,b.2,Result.andThen,den];rw[Ek,extract_from],BB.refl w⟩
def AW4(I)(G:Pow I)(m:Nm)(O:Bg m)(N:m≠[])(P:m.length<=24):Fn 363 [.fn (.func 246) [] [.p 1 0,.p 2 0],.p 3 0,.p 4 0,.p 5 0] (UX (Cr m)) I (TU I m) none:=by
 refine fo func363 AZn λρ o w p=> ?_;refine gG<|loop (SqP m) (λx=>x.rest.length) (YB I) 300 [] ⟨[],m,0,[]⟩ ⟨rfl,N,⟨AZ _,BS _,rfl⟩⟩ kR kR ?_;rintro⟨j,rest,i,c⟩ ⟨g,q,h⟩ again T;simp only at g q h;cases rest with
 |nil=>exact absurd rfl q
 |cons x rest=>
  have s:x<=999:=O x (by rw[<-g];simp);have hlen:j.length+(x::rest).length=m.length:=by rw[<-g,Bc]
  cases rest with
  |nil=>
   cases j with
   |nil=>
    refine gG<|call (ABU I (dec x) (-1) (index_none s)) kR ?_;refine gG<|AFe (ALI I G x s) kR λi c t u v=> ?_;refine gG ?_;have L:TU I m o {r:=.t [],upd:=[(1,Jt (.s (o+0) 0 1 i)),(2,Jo),(3,NJ),(4,NK (dec x)),(5,zeroCell)],nb:=[.Aa (ints [x]++c) 3],J:=I}:=by subst g;exact⟨i,c,dec x,t,u,v,rfl⟩
    exact done func363 p [364] kR L
   |cons d l=>
    refine gG<|call (ABU I (dec x) (-1) (index_none s)) kR ?_;refine gG<|AFf 6 (ALJ I G (d::l) x i c s (by simp at hlen⊢;omega) h.1 h.2.1 h.2.2) kR λe b t u v=> ?_;refine gG ?_;have L:TU I m o {r:=.t [],upd:=[(1,Jt (.s (o+0) 0 ((d::l).length+1) e)),(2,Jo),(3,NJ),(4,NK (dec x)),(5,zeroCell)],nb:=[.Aa (ints (d::l++[x])++b) 3],J:=I}:=by subst g;exact⟨e,b,dec x,by simpa using t,u,by simpa using v,sP⟩
    exact done func363 p [364] kR L
  |cons y rest=>
   have M:(dec x).length<=(Cr (x::y::rest)).length:=by rw[Kj];simp
   have E:(dec x).length+1<=(Cr (x::y::rest)).length:=by rw[Kj];simp
   have B:(Cr (x::y::rest)).take (dec x).length=dec x:=by rw[Kj,NZ];rfl
   have z:(Cr (x::y::rest)).drop ((dec x).length+1)=Cr (y::rest):=by rw[Kj,List.drop_append,Pk oG,show(dec x).length+1-(dec x).length=1 by omega];rfl
   have C:=AXM (I:=I) M;have k:=AXL (I:=I) E;rw[B]at C;rw[z]at k;have Q:=(Ir s).2.2;have D:=ABU I (Cr (x::y::rest)) (dec x).length (by rw[Kj];exact ARt s _);cases j with
   |nil=>
    refine gG<|call D kR ?_;refine gg [(33,hF (((dec x).length:Int)<0) oG),(37,hW (((dec x).length:Int)+0) ((dec x).length:Nat) oG oG),(38,.op I _ _ C)]<|AFe (ALI I G x s) kR λi c t u v=> ?_;exact gg [(47,hW (((dec x).length:Int)+1) (((dec x).length+1:Nat):Int) oG oG),(48,.op I _ _ k)]<|back [(6,412)] (YB I ⟨[x],y::rest,i,c⟩) 300 kR kR kR λH=>again ⟨[x],y::rest,i,c⟩ ⟨by simpa using g,sP,⟨t,u,v⟩⟩ sP H
   |cons d l=>
    refine gG<|call D kR ?_;refine gg [(33,hF (((dec x).length:Int)<0) oG),(37,hW (((dec x).length:Int)+0) ((dec x).length:Nat) oG oG),(38,.op I _ _ C)]<|AFf 6 (ALJ I G (d::l) x i c s (by simp at hlen⊢;omega) h.1 h.2.1 h.2.2) kR λe b t u v=> ?_;refine gg [(47,hW (((dec x).length:Int)+1) (((dec x).length+1:Nat):Int) oG oG),(48,.op I _ _ k)] ?_;have K:(d::(l++[x])).length=(d::l).length+1:=sP;refine back [(6,412)] (YB I ⟨d::(l++[x]),y::rest,e,b⟩) 300 ?_ kR kR λH=>again ⟨d::(l++[x]),y::rest,e,b⟩ ⟨by simpa using g,sP,⟨by show(d::(l++[x])).length<=e;rw[K];exact t,u,by show b.length=e-(d::(l++[x])).length;rw[K];exact v⟩⟩ sP H;unfold YB;simp[K];kernel_rfl
end
section
open Go.AX Go.RowKit Go.Shelf Lz
section
attribute [local go_sem] Oper.semAt_some Ek IB
abbrev Py(w:AI):Prop:=Lib.TabIs prog w "internal/strconv.uint64pow10" .u64 Lib.pow10Tab
theorem Py.below{w a B}(h:Py w)(b:Below B w a)(c:5<=B):Py a:=by unfold Py Lib.TabIs World.var? at h⊢;rw[ABE]at h⊢;show((some 4).bind λg=>match a.heap[g]? with|some (Obj.cells cs elem frozen)=>some cs|_=>none)=_;simp[AD4]at h⊢;rw[b.block 4 oG];exact h
theorem AJI(n:Int)(b: -9223372036854775808<=n)(c:n<=9223372036854775807)(w)(hT:Py w):
 Calls prog 69 #[.int .i64 n] w λe a=>e=.returned (.string (str (Lib.itoa n)))/\Below w.heap.size w a:=by
 go_enter func69,ntmps69
 go_wp2_with (go_at_call 124;refine(Any.strconv_FormatInt_10 AID n b c _ hT).mono ?_)
 rintro e a ⟨rfl,k,d,rfl⟩
 go_wp2
 go_ret
 exact⟨rfl,AFA w k d⟩
theorem AN8{B}(w:AI)(h:w.heap.size<B):Ho B w.heap.size [] (w.alloc (.cells #[.pointer none,.slice none 0 0] 250)):=
 ⟨h,_,_,.inl rfl,World.alloc_heap_new w _,World.ownsRow_nil _ _ _ _⟩
theorem AWe{W c B a n e v xs}(h:W.ownsRow B e a v n xs)(b:Below W.heap.size W c):c.ownsRow B e a v n xs:=
 h.kept (row:=none) ⟨b.os,b.tape,b.output,b.size,λi d _=>b.block i d⟩ (by by_cases h:v.ownBlock=none;exact .inl h;exact .inr h)
theorem Ho.up{B b l w e}(h:Ho B b l w)(d:Below w.heap.size w e):Ho B b l e:=by let⟨f,p,v,g,a,i⟩:=h;have c:=(Jz.1 a).1;exact⟨f,p,v,g,(d.block b c).trans a,AWe i d⟩
theorem AUK{c:Nm}{k x}(d:c[k]? =some x):Cr (c.take (k+1))=if k=0 then dec x else Cr (c.take k)++[46]++dec x:=by
 have f:=(B6.1 d).1;have e:c.take (k+1)=c.take k++[x]:=by rw[List.take_succ,d];rfl
 rw[e];split;rename_i h;subst h;rfl;rename_i h;have:∀l:Nm,l≠[]->Cr (l++[x])=Cr l++[46]++dec x:=by
  intro l;induction l with
  |nil=>intro h;exact absurd rfl h
  |cons a l g=>
   intro _;cases l with
   |nil=>simp[Cr]
   |cons b l=>
    rw[Fj,Fj,Kj,Kj,<-Fj,g sP];simp
 exact this _ (by intro e;have:=El List.length e;rw[CX,JX (S9 f)]at this;exact h this)
theorem AUL{a:Nm}{k}(b:∀x∈a.take k,x<=999):(Cr (a.take k)).length<=4*k:=by have:=(XT (a:=a.take k) b).1;rw[CX]at this;omega
theorem AJA(b c:Nat)(nm:Nm)(arr:Array Value)(e:TypeId)(fr:Nat×Nat)(w:World)(hb:w.heap[b]? =some (.cells arr e fr))(hv:∀k x:Nat,nm[k]? =some x->arr[k]? =some (.int .i64 (x:Int)))(hT:Py w)(F:5<=w.heap.size)
 (r:List UInt8) (q:Bool) (A:Hid ((BY nm=true->r=Cr nm/\q=true)/\(BY nm=false->r=[]/\q=false))):
 Calls prog 138 #[.slice (some ⟨b,0,none⟩) nm.length c] w λe V=>e=.returned (.tuple #[.string (str r),.bool q])/\Below w.heap.size w V:=by
 have T:=Lib.hid hT;clear hT;have D:=(Array.getElem?_eq_some_iff.1 hb).1;by_cases E:nm.length<1
 .have o:BY nm=false:=by simp[BY];omega
  have hd:decide ((nm.length:Int)<1)=true:=by simp;omega
  obtain⟨rfl,rfl⟩:=A.out.2 o
  go_enter func138,ntmps138
  go_wp2
  go_ret2
  exact⟨rfl,Below.refl _ _⟩
 by_cases U:24<nm.length
 .have o:BY nm=false:=by simp[BY];omega
  obtain⟨rfl,rfl⟩:=A.out.2 o
  go_enter func138,ntmps138
  go_wp2
  go_ret2
  exact⟨rfl,Below.refl _ _⟩
 have S:=Lib.hid (show BY nm=nm.all (λx=>decide (x<=999)) by simp[BY];omega);have m:∀W:World,Du (w.heap.size+1) w.heap.size (w.alloc (.cells #[.pointer none,.slice none 0 0] 250)) W->∀k x:Nat,nm[k]? =some x->W.cell? ⟨b,k,none⟩=some (.int .i64 (x:Int)):=by
  intro W n k x p;have h1:W.heap[b]? =some (.cells arr e fr):=by rw[n.block b oG oG];exact(Lib.alloc_old w _ b D).trans hb
  rw[Lib.cell_of_heap h1];exact hv k x p
 have X:=Lib.hid m;clear m
 go_enter func138,ntmps138
 go_wp2_with fail
 go_loopw [5,6,17] (λ_ _ i wr=>∃k:Nat,k<=nm.length/\i=.int .i64 k/\(∀x∈nm.take k,x<=999)/\Ho (w.heap.size+1) w.heap.size (Cr (nm.take k)) wr/\Du (w.heap.size+1) w.heap.size (w.alloc (.cells #[.pointer none,.slice none 0 0] 250)) wr) (λ_ _ i _=>nm.length-(intOf i).toNat)
 case atStart=>exact⟨0,Nat.zero_le _,rfl,sP,AN8 w oG,Du.refl _ _ _⟩
 case round=>
  obtain⟨k,hk,rfl,d,f,n⟩:=hrel;have u:=n.size;rw[World.size_alloc]at u;by_cases N:k<nm.length
  .have p:nm[k]? =some nm[k]:=List.getElem?_eq_getElem N;have L:=X.out wr n k _ p;have t:=AUK p;have ac:=AUL d;have HS:=Lib.hid t;have v:nm.take (k+1)=nm.take k++[nm[k]]:=by rw[List.take_succ,p];rfl
   have H:=Lib.hid v;generalize nm[k]=x at p L t HS v H;clear t v;by_cases s:x<=999
   .have R:=Lib.hid (AAb s);have Y:=(Ir s).2.2.2;have G:(str (dec x)).data.toList=dec x:=by simp[str]
    have C:=Lib.hid G;clear G;have J:=Lib.hid (T.out.below (((Below.refl _ w).alloc (Nat.le_refl _) _).trans (n.below (B':=w.heap.size) oG (Nat.le_refl _))) F);by_cases h0:k=0
    .subst h0;rw[if_pos rfl]at HS
     go_wp2_with fail
     refine(AJI _ oG oG _ J.out).mono ?_;rintro e w2 ⟨rfl,a⟩;rw[R.out];have Q:=a.size
     go_wp2_with fail
     refine(AMb _ _ _ _ _ (f.up a) (by rw[Ek];simp[Cr];omega) oG).mono ?_;rintro e w3 ⟨rfl,g,l,M⟩;rw[C.out]at g
     go_wp2
     go_roundw
     case rel=>exact⟨1,oG,by go_num,by rw[H.out];intro y z;simp at z;omega,by rw[HS.out];simpa[Cr]using g,(n.trans (Du.of_below (a.mono u))).trans l⟩
     case measure=>simp[intOf];omega
    .rw[if_neg h0]at HS;have Z:0<k:=oG
     go_wp2_with fail
     refine(AMa _ _ _ _ 46 rfl _ f oG oG).mono ?_;rintro e w1 ⟨rfl,K,j,aa⟩;have P:=j.size;have I:=Lib.hid (T.out.below (((Below.refl _ w).alloc (Nat.le_refl _) _).trans ((n.trans j).below (B':=w.heap.size) oG (Nat.le_refl _))) F)
     go_wp2_with fail
     refine(AJI _ oG oG _ I.out).mono ?_;rintro e w2 ⟨rfl,a⟩;rw[R.out];have Q:=a.size
     go_wp2_with fail
     refine(AMb _ _ _ _ _ (K.up a) (by rw[Ek,List.length_append];simp;omega) oG).mono ?_;rintro e w3 ⟨rfl,g,l,M⟩;rw[C.out]at g
     go_wp2
     go_roundw
     case rel=>exact⟨k+1,oG,by go_num,by rw[H.out];intro y z;rcases List.mem_append.1 z with z|z;exact d y z;rw[List.mem_singleton.1 z];exact s,by rw[HS.out];exact g,((n.trans j).trans (Du.of_below (a.mono (Nat.le_trans u P)))).trans l⟩
     case measure=>simp[intOf];omega
   .have o:BY nm=false:=by rw[S.out];refine Bool.eq_false_iff.2 λh=>s ?_;have:=List.all_eq_true.1 h x (List.mem_of_getElem? p);simpa using this
    have B:=Lib.hid o;clear o;have ad: ¬((x:Int)<0):=oG;have ae:(999:Int)<(x:Int):=oG
    go_wp2
    all_goals go_ret2
    all_goals exact⟨(by rw[(A.out.2 B.out).1,(A.out.2 B.out).2];rfl),((Below.refl _ w).alloc (Nat.le_refl _) _).trans (n.below (B':=w.heap.size) oG (Nat.le_refl _))⟩
  .obtain rfl:k=nm.length:=oG;rw[List.take_length]at d f;have o:BY nm=true:=by rw[S.out];exact List.all_eq_true.2 λx p=>by simpa using d x p
   have O:Cr nm≠[]:=by have:=(XT (a:=nm) d).2 (by intro e;rw[e]at E;simp at E);intro e;rw[e]at this;simp at this
   have B:=Lib.hid o;clear o
   go_wp2_with (go_at_call 132;refine(AFY _ _ _ O _ f).mono ?_;rintro e V ⟨rfl,a,ab⟩)
   go_ret2
   exact⟨(by rw[(A.out.1 B.out).1,(A.out.1 B.out).2];rfl),(((Below.refl _ w).alloc (Nat.le_refl _) _).trans (n.below (B':=w.heap.size) oG (Nat.le_refl _))).trans (a.mono oG)⟩
end
end
section
open Go.AX Lz
def Vy{I}(b:Pow I){w}(c:Db w I):Py w/\5<=w.heap.size:=by refine⟨b.is c,?_⟩;let⟨e,d,h⟩:=b.tab;have:=(Jz.1 (c 4 _ h)).1;omega
open Go.RowKit in
theorem AG2{F:FuncId}{fn:Func}{args:List SV}{k:Nat}{b:AG}{o:Obj}{av:Nat->Array Value}{r:SV}{v:Value}{I:AB}(hf:Tryz.prog.funcs[F]? =some fn)(hb:fn.body.isSome=true)(hnm:(fn.name== "runtime.NumGoroutine")=false)
 (hbo: ∀ρ,b.den ρ=some o) (ha: ∀ρ,(As ρ args).toArray=av (ρ k)) (hr: ∀ρ,den ρ r=v) (hk:r.keys=[]) (h: ∀w q,Db w I->w.heap[q]? =some o->Calls Tryz.prog F (av q) w λe w'=>e=.returned v/\Below w.heap.size w w'):Fn F args [(k,b)] I (A1 r I) none:=by
 refine⟨⟨(BZ hk).Cg.out,λρ key w hkey hN hI _ _=> ?_⟩,AX.Hw hf hb hnm⟩
 rw[ha ρ]
 refine(h w (ρ k) hI.1 (hN (k,b) List.mem_cons_self o (hbo ρ))).mono ?_
 rintro e w' ⟨rfl,hB⟩
 have hg:=AHD hB
 refine⟨{r:=r,J:=I},λ_=>0,rfl,⟨hg.os,hg.tape,hg.output,hg.size,λb hb _ _=>hg.block b hb,(λkb hkb=>by cases hkb),(λj b hj=>by simp at hj),(λi j hi=>by simp at hi),hg.holds hI,λb o hb=>.inl hb,λb o hb=>Gg hb⟩,?_⟩
 simp only[hr]
def Wz{c b}{k x:Nat}(h:c[k]? =some x):(ints c++b).toArray[k]? =some (.int .i64 (x:Int)):=by have d:=(B6.1 h).1;rw[Lm,FT (by rw[UD];exact d),ints,E0,h];rfl
def Ix(b:Nm):AA AH:=if BY b then Cr b else[]
def AT3(I)(e:Pow I)(d c b):Fn 138 [.s 1 0 d.length c] [(1,.Aa (ints d++b) 3)] I (A1 (.t [.v (.string (str (Ix d))),.v (.bool (BY d))]) I) none:=
 AG2 func138 kR kR (λ_=>rfl) (λρ=>rfl) (λ_=>rfl) rfl λw q g i=>
  AJA q c d _ _ _ w i (λk x h=>Wz h) (Vy e g).1 (Vy e g).2 _ _ (by refine⟨λh=>⟨by unfold Ix;rw[AW h],h⟩,λh=>⟨by unfold Ix;rw[h];rfl,h⟩⟩)
def AT2(I)(b:Pow I)(x c:Nat):Fn 138 [.s 1 0 1 c] [(1,.cells [.v (.int .i64 (x:Int))] 3)] I (A1 (.t [.v (.string (str (Ix [x]))),.v (.bool (BY [x]))]) I) none:=
 AG2 (o:=.cells (ints [x]++[]).toArray 3 (0,0)) func138 kR kR (λ_=>rfl) (λρ=>rfl) (λ_=>rfl) rfl λw q d e=>
  AJA q c [x] _ _ _ w e (λk x h=>Wz h) (Vy b d).1 (Vy b d).2 _ _ (by refine⟨λh=>⟨by unfold Ix;rw[AW h],h⟩,λh=>⟨by unfold Ix;rw[h];rfl,h⟩⟩)
section
variable {F:FuncId} {a:Func} {n:Nat} {I:AB} {w:World} {ρ:Nat->Nat} {A:List Nat} {R:Dl} {f:BU}
def P7{c b r g G}(h:Fn G c b g (A1 r g) none)(e)(d:Ci f n G e b []=some (Bz (AT e) c,b.map (λk=>some (k.2.Am (AT e))),g))(hnext:At F a n I w ρ A R (f.out (AT e) {r:=r,J:=g})):At F a n I w ρ A R f:=
 Ag h e [] d (λ_ h i k j=>by subst i;cases j) λh i=>by subst i;exact hnext
end
def ACI(I)(d:Pow I)(x c:Nat):Fn 88 [.s 1 0 1 c] [(1,.cells [.v (.int .i64 (x:Int))] 3)] I (A1 (.t [.v (.string (str (Ix [x]))),.v (.bool (BY [x]))]) I) none:=by refine Fn.same (need:=[(1,.cells [.v (.int .i64 (x:Int))] 3)]) ?_ rfl;exact fo func88 (ADX (m:=.cells [.v (.int .i64 (x:Int))] 3) (r:=.t [.v (.string (str (Ix [x]))),.v (.bool (BY [x]))]) rfl rfl) λρ e w b=>gG<|P7 (AT2 I d x c) [(1,1)] kR<|gG<|dn [] rfl
def Vm(I:AB)(l:AA AH):Nat->AU->Prop:=λb h=>h= {r:=.fn (.func 363) [] [.p (b+1) 0,.p b 0,.p (b+2) 0],nb:=[NK l,NJ,zeroCell],J:=I}
def AMN{I l}:CO (Vm I l) [] I:=by
 refine⟨?_⟩;rintro c h rfl;have e:∀j,j<3->(Bf c [NK l,NJ,zeroCell] (c+j)).isSome:=λj m=>by
  rw[Gx]
  match j,m with
  |0,_=>rfl
  |1,_=>rfl
  |2,_=>rfl
 refine⟨⟨λk d=>.inr ?_,nA,(λb i k d=>by simp at i;rcases i with rfl|rfl|rfl<;>cases d),sP,sP⟩,AB.le_refl _⟩;simp[SV.keys,Ax]at d;rcases d with rfl|rfl|rfl;exact e 1 oG;exact e 0 oG;exact e 2 oG
def AXX(I l):Fn 323 [.v (.string (str l)),.v (.string ⟨#[46]⟩),.v (.int .i64 0)] [] I (Vm I l) none:=fo func323 AMN λρ c w b=>gG<|dn [100,108,116] rfl
section
variable {F:FuncId} {a:Func} {n:Nat} {I:AB} {w:World} {ρ:Nat->Nat} {A:List Nat} {R:Dl} {f:BU}
def AFj{b l e G}(h:Fn G b [] e (Vm e l) none)(d:Ci f n G [] [] []=some (Bz (AT []) b,[],e))(hnext:At F a n I w ρ A R (f.out (AT []) {r:=.fn (.func 363) [] [.p (Cw f+1) 0,.p (Cw f) 0,.p (Cw f+2) 0],nb:=[NK l,NJ,zeroCell],J:=e})):At F a n I w ρ A R f:=
 Ag h [] [] d (λ_ h g i c=>by rw[show h=_ from g]at c;cases c) λh g=>by rw[show h=_ from g];exact hnext
end
def AXW(I l):Fn 248 [.v (.string (str l)),.v (.string ⟨#[46]⟩)] [] I (Vm I l) none:=fo func248 AMN λρ c w b=>gG<|AFj (AXX I l) kR<|gG<|dn [124,125,126] rfl
def Zd(I:AB)(d:Nm):Nat->AU->Prop:=λe h=>∃b c,d.length<=b/\b<=maxLen/\c.length=b-d.length/\h= {r:=.t [.s e 0 d.length b,.v (.bool true)],nb:=[.Aa (ints d++c) 3],J:=I}
def AZj{I l}:CO (Zd I l) [] I:=by refine⟨?_⟩;rintro j h ⟨g,e,_,_,_,rfl⟩;refine⟨⟨λk c=>.inr ?_,nA,(λb i k c=>by rw[AP.1 i]at c;cases c),sP,sP⟩,AB.le_refl _⟩;simp[SV.keys,Ax]at c;rw[c];exact MN _ _
section
variable {F:FuncId} {a:Func} {n:Nat} {I:AB} {w:World} {ρ:Nat->Nat} {A:List Nat} {R:Dl} {f:BU}
def V9{d g i G}(h:Fn G d [] i (Zd i g) none)(e:Ci f n G [] [] []=some (Bz (AT []) d,[],i))(hnext:∀c b,g.length<=c->c<=maxLen->b.length=c-g.length->At F a n I w ρ A R (f.out (AT []) {r:=.t [.s (Cw f) 0 g.length c,.v (.bool true)],nb:=[.Aa (ints g++b) 3],J:=i})):At F a n I w ρ A R f:=
 Ag h [] [] e (λ_ h j p k=>by obtain⟨c,b,_,_,_,rfl⟩:=j;cases k) λh j=>by obtain⟨c,b,l,m,o,rfl⟩:=j;exact hnext c b l m o
def AOX{d j l m G}(k)(h:Fn G d (UX l) m (TU m j) none)(i:Ci f n G k (UX l) [1,2,3,4,5]=some (Bz (AT k) d,(UX l).map (λq=>some (q.2.Am (AT k))),m))(hnext:∀c b o,j.length<=c->c<=maxLen->b.length=c-j.length->At F a n I w ρ A R (f.out (AT k) {r:=.t [],upd:=[(1,Jt (.s (Cw f) 0 j.length c)),(2,Jo),(3,NJ),(4,NK o),(5,zeroCell)],nb:=[.Aa (ints j++b) 3],J:=m})):At F a n I w ρ A R f:=
 Ag h k [1,2,3,4,5] i (λ_ h p q g=>by obtain⟨c,b,o,_,_,_,rfl⟩:=p;simp[mS]at g;rcases g with e|e|e|e|e<;>(rw[e];simp)) λh p=>by obtain⟨c,b,o,s,t,u,rfl⟩:=p;exact hnext c b o s t u
end
def Xw(I)(k:Pow I)(b)(e:BY b):Fn 160 [.v (.string (str (Cr b)))] [] I (Zd I b) none:=by let⟨g,h,j⟩:=XU e;have o:=(XT g).2 h;refine fo func160 AZj λρ m w i=> ?_;have l:=Ek (Cr b);exact gg [(9,hF (((str (Cr b)).size:Int)>95) oG)]<|AFj (AXW I (Cr b)) kR<|gG<|AOX [(1,140),(2,148),(3,189),(4,188),(5,190)] (AW4 I k b g h j) kR λd c p q1 q2 q3=>gG<|dn [204] ⟨d,c,q1,q2,q3,rfl⟩
def AJG(I)(h:Pow I)(c)(b:BY c):Fn 139 [.v (.string (str (Cr c)))] [] I (A1 (.v (.bool true)) I) none:=fo func139 (BZ rfl) λρ i w d=>gG<|V9 (Xw I h c b) kR λg e j k l=>gG<|fi
def AOg(I)(j:Pow I)(b)(x:Nat)(h:BY b):Fn 388 [.v (.string (str (Cr b))),.v (.int .i64 (x:Int))] [] I (A1 (.t [.v (.string (str (Ix (b++[x])))),.v (.bool (BY (b++[x])))]) I) none:=by let⟨t,u,v⟩:=XU h;refine fo func388 (BZ rfl) λρ s w k=>gG<|V9 (Xw I j b h) kR λe c o p q=>gG<|act (need:=[(124,.Aa (ints b++c) 3),(204,.cells [.v (.int .i64 (x:Int))] 3)]) [124] kR (JC (I:=I) A6 (n:=b.length) (m:=1) (cap:=e) (k:=124) (vs:=ints b++c) (olds:=ints b) (news:=ints [x]) (x:=.s 204 0 1 1) Zo kR DX (by rw[Bc,UD,q];omega) (by rw[NZ];rw[UD];omega) (UE _) (D2 (e:=3) (by simp[ints]) rfl (UE [x])) o p oG) (λm r y i=> ?_) (Oc rfl) ?_;obtain⟨e,c,_,_,_,rfl⟩:=r;rw[AP.1 i];exact AP.2 rfl;rintro m ⟨g,d,q1,q2,q3,rfl⟩;have l:=AT3 I j (b++[x]) g d;rw[Bc,show ints (b++[x])=ints b++ints [x] by simp[ints]]at l;exact gG<|P7 l [(1,212)] kR<|gG<|fi
def FG:Nm->Nm->Int
 |[],[]=>0
 |[],_::_=> -1
 |_::_,[]=>1
 |x::a,y::b=>if x<y then-1 else if y<x then 1 else FG a b
def KY(x y:Nat):Int:=if x<y then-1 else if y<x then 1 else 0
def AI1(I)(x:Int):Fn 324 [.v (.int .i64 x)] [] I (A1 (.v (.bool false)) I) none:=fo func324 (BZ rfl) λc b w a=>gg [(5,Ct x x rfl)]<|fi
def AO3(I)(x y:Nat):Fn 249 [.v (.int .i64 (x:Int)),.v (.int .i64 (y:Int))] [] I (A1 (.v (.int .i64 (KY x y))) I) none:=by
 refine fo func249 (BZ rfl) λd c w b=>gG<|call (AI1 I x) kR<|gG<|call (AI1 I y) kR ?_;by_cases h:x<y;have e:KY x y= -1:=by unfold KY;rw[AW h]
 rw[e];exact gg [(16,hT ((x:Int)<y) oG)]<|fi;by_cases a:y<x;have e:KY x y=1:=by unfold KY;rw[AN h,AW a]
 rw[e];exact gg [(16,hF ((x:Int)<y) oG),(19,hT ((x:Int)>y) oG)]<|fi;have e:KY x y=0:=by unfold KY;rw[AN h,AN a]
 rw[e];exact gg [(16,hF ((x:Int)<y) oG),(19,hF ((x:Int)>y) oG)]<|fi
def WW:GZ 100 3 1:=⟨kR,by refine⟨(prog.info? 3).getD Af,?_,?_⟩<;>kernel_rfl⟩
def AO2{a b:Nm}{i x y}(e:a[i]? =some x)(f:b[i]? =some y):FG (a.drop i) (b.drop i)=if x<y then-1 else if y<x then 1 else FG (a.drop (i+1)) (b.drop (i+1)):=by obtain⟨c,rfl⟩:=B6.1 e;obtain⟨d,rfl⟩:=B6.1 f;rw[VP c,VP d];rfl
def AF7(I:AB)(a c1 b2 c2 n m:Nat)(i:Nat):Hd where
 By:=[(0,.v (.slice (some ⟨a,0,none⟩) n c1)),(1,.v (.slice (some ⟨b2,0,none⟩) m c2)),(4,.v (.int .i64 0)),(9,.v (.slice (some ⟨a,0,none⟩) n c1)),(10,.v (.int .i64 (n:Int))),(11,.v (.int .i64 (i:Int)))]
 Bu:=[]
 J:=I
def APE(I)(a b:Nm)(k c1 m c2:Nat)(s t)(q:I k=some (.cells (ints a++s).toArray 3 (0,0)))(v:I m=some (.cells (ints b++t).toArray 3 (0,0)))(E:a.length<=1000):
 Fn 161 [.v (.slice (some ⟨k,0,none⟩) a.length c1),.v (.slice (some ⟨m,0,none⟩) b.length c2)] [] I (A1 (.v (.int .i64 (FG a b))) I) none:=by
 refine fo func161 (BZ rfl) λF D w r=> ?_;refine gG<|loop (ι:=Nat) (λi=>i<=a.length/\i<=b.length/\FG a b=FG (a.drop i) (b.drop i)) (λi=>a.length-i) (AF7 I k c1 m c2 a.length b.length) 300 [] 0 ⟨BS _,BS _,rfl⟩ kR kR ?_;rintro i ⟨z,A,l⟩ again T;by_cases g:i<a.length;have o:a[i]? =some a[i]:=A9 g;have f:((ints a++s).toArray)[i]? =some (.int .i64 (a[i]:Int)):=Wz o;by_cases d:i<b.length;have p:b[i]? =some b[i]:=A9 d;have n:((ints b++t).toArray)[i]? =some (.int .i64 (b[i]:Int)):=Wz p;have j:=AO2 o p;generalize a[i]=x at o f j;generalize b[i]=y at p n j;refine gg [(12,hT ((i:Int)<(a.length:Int)) oG),(14,BM I WW k 0 a.length c1 i g),(15,C9 I Dj rfl (0+i*1) (.int .i64 (x:Int)) q (by simpa using f)),(19,hF ((i:Int)≥(b.length:Int)) oG),(22,BM I WW m 0 b.length c2 i d),(23,C9 I Dj rfl (0+i*1) (.int .i64 (y:Int)) v (by simpa using n))]<|call (AO3 I x y) kR ?_;by_cases c:x<y;have e:KY x y= -1:=by unfold KY;rw[AW c]
 rw[AW c]at j;rw[l,j,e];exact gg [(28,FJ (-1) 0 dC)]<|fi;by_cases h:y<x;have e:KY x y=1:=by unfold KY;rw[AN c,AW h]
 rw[AN c,AW h]at j;rw[l,j,e];exact gg [(28,FJ 1 0 dC)]<|fi;have e:KY x y=0:=by unfold KY;rw[AN c,AN h]
 rw[AN c,AN h]at j;rw[e];exact gg [(28,Ct 0 0 rfl),(30,hW ((i:Int)+1) ((i+1:Nat):Int) oG oG)]<|back [] (AF7 I k c1 m c2 a.length b.length (i+1)) 300 kR kR kR λu=>again (i+1) ⟨oG,oG,by rw[l,j]⟩ oG u;have C:i=b.length:=oG;have e:FG (a.drop i) (b.drop i)=1:=by rw[VP g,Pk (l:=b) oG];rfl
 generalize a[i]=x at o f;rw[l,e];exact gg [(12,hT ((i:Int)<(a.length:Int)) oG),(14,BM I WW k 0 a.length c1 i g),(15,C9 I Dj rfl (0+i*1) (.int .i64 (x:Int)) q (by simpa using f)),(19,hT ((i:Int)≥(b.length:Int)) oG)]<|fi;have B:i=a.length:=oG;by_cases d:a.length<b.length;have e:FG (a.drop i) (b.drop i)= -1:=by rw[Pk (l:=a) oG,VP (l:=b) (i:=i) oG];rfl
 rw[l,e];exact gg [(12,hF ((i:Int)<(a.length:Int)) oG),(35,hT ((a.length:Int)<(b.length:Int)) oG)]<|fi;have e:FG (a.drop i) (b.drop i)=0:=by rw[Pk (l:=a) oG,Pk (l:=b) oG];rfl
 rw[l,e];exact gg [(12,hF ((i:Int)<(a.length:Int)) oG),(35,hF ((a.length:Int)<(b.length:Int)) oG)]<|fi
def AJY(I)(l:Pow I)(a b)(m:BY a)(r:BY b):Fn 106 [.v (.string (str (Cr a))),.v (.string (str (Cr b)))] [] I (Ft I (λ_:Unit=>.v (.int .i64 (FG a b))) (λ_ _=>True)) none:=by refine fo func106 (EK λ_=>rfl) λA s w n=>gG<|V9 (Xw I l a m) kR λh e x y z=>gG<|V9 (Xw I l b r) kR λf c t u v=>go func106 [] 7 kR<|BW 116 I (vs:=ints a++e) (e:=3) kR λp o g _ i=>BW 172 o (vs:=ints b++c) (e:=3) kR λq k d _ j=>gG<|call (APE k a b p h q f e c (d _ _ i) j (by have:=(XU m).2.2;omega)) kR ?_;exact gG<|dn [] ⟨(),k,rfl,g.trans d,A0⟩
end
section
open Go.AX Go.RowKit Go.Shelf Lz
def U2:∀t∈[42,44,51,63,114,118,154,261],prog.underlying t=some (.struct (prog.fieldsOf t))/\prog.stoodInHeld t=false/\prog.eqGuardType prog.depth t=false:=by intro t a;simp[mS]at a;rcases a with rfl|rfl|rfl|rfl|rfl|rfl|rfl|rfl<;>refine⟨?_,?_,?_⟩<;>kernel_rfl
def str_inj{a b}:(str a).toList=(str b).toList↔a=b:=by rw[IB,IB]
def AUQ{a b:Nat}:((a:Int)=(b:Int))↔a=b:=Int.ofNat_inj
section
variable {w:World}
def Wb{p:Prop}[Decidable p]{q:Bool}{X:Result Bool}(h:X=.ok q w):(if p then X else .ok false w)=.ok (decide p&&q) w:=by by_cases hp:p;rw[if_pos hp,h];congr 1;simp[hp];rw[if_neg hp];congr 1;simp[hp]
def AP8{p:Prop}[Decidable p]:(if p then Result.ok true w else .ok false w)=.ok (decide p) w:=by by_cases a:p;rw[if_pos a];congr 1;simp[a];rw[if_neg a];congr 1;simp[a]
def eqx{p:Prop}[Decidable p]{t}(a:t∈[42,44,51,63,114,118,154,261]){x y}{r:Bool}(h:(Op.eqFields (9996+3) x y (prog.fieldsOf t).toList).run prog w=.ok r w)(b:r↔p):(Op.equalIn 10000 t (.agg x) (.agg y)).run prog w=.ok (decide p) w:=by rw[show(10000:Nat)=9996+3+1 from rfl,run_equalIn_agg w (9996+3) t _ _ (U2 t a).1 (U2 t a).2.1,h,show r=decide p by rw[If,b,D1]]
end
def AIc{I t u a b i j}{r:Bool}(s:t∈[42,44,51,63,114,118,154,261])(h:∀(e:Nat->Nat) w,(Op.equalIn 10000 t (.agg (As e i).toArray) (.agg (As e j).toArray)).run prog w=.ok r w):
 ∀d g (o:BP),o.op=.binOp .eql t (.tmp a) (.tmp b) u->(∀p∈[(a,SV.g i),(b,SV.g j)],g p.1=p.2)->LS prog o g d [] I (.v (.bool r)) none:=by
 intro d g o f c;have n:=Cy c (s:=a) (x:=.g i) sP;have q:=Cy c (s:=b) (x:=.g j) sP;intro e v w m _ _ _ _;refine⟨w,?_,BB.refl w⟩;have k:=m (.tmp a) xO;have l:=m (.tmp b) xO;simp[ev,n,q,den]at k l;simp[execOp,f,Sem.run_bind,k,l];rw[run_eqGuard_agg w .eql t _ _ _ _ (U2 t s).2.2];simp[Result.andThen_ok];rw[run_eql_struct w t _ _,h e w];rfl
def AIf{I t u a b i j}{r:Bool}(s:t∈[42,44,51,63,114,118,154,261])(h:∀(e:Nat->Nat) w,(Op.equalIn 10000 t (.agg (As e i).toArray) (.agg (As e j).toArray)).run prog w=.ok r w):
 ∀d g (o:BP),o.op=.binOp .neq t (.tmp a) (.tmp b) u->(∀p∈[(a,SV.g i),(b,SV.g j)],g p.1=p.2)->LS prog o g d [] I (.v (.bool (!r))) none:=by
 intro d g o f c;have n:=Cy c (s:=a) (x:=.g i) sP;have q:=Cy c (s:=b) (x:=.g j) sP;intro e v w m _ _ _ _;refine⟨w,?_,BB.refl w⟩;have k:=m (.tmp a) xO;have l:=m (.tmp b) xO;simp[ev,n,q,den]at k l;simp[execOp,f,Sem.run_bind,k,l];rw[run_eqGuard_agg w .neq t _ _ _ _ (U2 t s).2.2];simp[Result.andThen_ok];rw[run_neq_struct w t _ _,h e w];rfl
abbrev ALz(v:Val):AY AE:=#[.int .i64 v.kind,.int .i64 v.n,.string (AR v.name),.string (str v.l.1),.string (str v.l.2)]
def AUd{a b}(c:Bg a)(d:Bg b):(AR a).toList=(AR b).toList↔a=b:=
 ⟨λh=>N3 c d (str_inj.1 h),λh=>by rw[h]⟩
attribute [ext] Val
def eqV{a b:Val}(ha:Bg a.name)(hb:Bg b.name)(w):(Op.equalIn 10000 51 (.agg (ALz a)) (.agg (ALz b))).run prog w=.ok (decide (a=b)) w:=by
 apply eqx dC
 .simp only[Program.fieldsOf,underlying51];go_simp;(repeat apply Wb);rfl
 simp[AUd ha hb,AUQ,str_inj,Val.ext_iff,VX]
def UB(I:AB)(x y:Nat)(a b:Val)(c:Bg a.name)(d:Bg b.name)(r:Bool)(e:decide (a=b)=r)(f:Av:=51):Hint:=
 .hand (.binOp .eql 51 (.tmp x) (.tmp y) f) [(x,Cn a),(y,Cn b)] [] I (.v (.bool r)) (AIc dC λ_ w=>e▸eqV c d w)
abbrev Fw(l:AV):AY AE:=#[.string (str l.1),.string (str l.2)]
def eqL{a b}(w):(Op.equalIn 10000 42 (.agg (Fw a)) (.agg (Fw b))).run prog w=.ok (decide (a=b)) w:=by
 apply eqx dC
 .simp only[Program.fieldsOf,underlying42];go_simp;(repeat apply Wb);rfl
 simp[str_inj,Prod.ext_iff]
end
section
open Go.AX Lz
def WV(v:Val):Prop:=(v=whole v.n\/v=Cx v.l\/(3<=v.kind/\v.kind<=7/\v.n=0/\BY v.name))/\Bo v.l
def AKK(n:Int):(whole n).right:=by simp[Val.right,whole]
def AKH(l):(Cx l).right=decide (Ap l=l):=by simp only[Val.right,Cx,AO];simp;exact decide_eq_decide.2 Iff.rfl
def AWW{v:Val}(a:3<=v.kind)(b:v.kind<=7)(c:v.n=0)(d:BY v.name):v.right=decide (Ap v.l=v.l):=by unfold Val.right;rw[AN oG,AN oG,AW ⟨a,b⟩,c,d];rfl
def AFB(a b:AV):(a==b)=decide (a=b):=by by_cases h:a=b;rw[h];simp;rw[decide_eq_false h];exact beq_eq_false_iff_ne.2 h
def AZC(I)(n:Int):Fn 126 [Cn (whole n)] [] I (A1 (.v (.bool true)) I) none:=fo func126 (BZ rfl) λd c w b=>gg [(11,UB I 7 10 (whole n) (whole n) nA nA true sP)]<|fi
def AZB(I l)(hl:Bo l):Fn 126 [Cn (Cx l)] [] I (A1 (.v (.bool (decide (Ap l=l)))) I) none:=by refine fo func126 (BZ rfl) λρ key w b=>gg [(18,UB I 14 17 (Cx l) (Cx l) (λx a=>by cases a) (λx a=>by cases a) true sP)] ?_;have h:=XJ I l hl;rw[AFB]at h;exact call h kR<|gG<|fi
def AZA(I)(c:Pow I)(k nm l)(h1:3<=k)(d:k<=7)(b:BY nm=true)(hl:Bo l):Fn 126 [Cn (hand k nm l)] [] I (A1 (.v (.bool (decide (Ap l=l)))) I) none:=by
 have h:=XJ I l hl;rw[AFB]at h;refine fo func126 (BZ rfl) λρ key w a=> ?_;have hk:k=3\/k=4\/k=5\/k=6\/k=7:=oG;rcases hk with rfl|rfl|rfl|rfl|rfl<;>
 (
  exact gG<|call (AJG I c nm b) kR<|gG<|call h kR<|gG<|fi)
def ADS(I)(f:Pow I)(v:Val)(g:WV v):Fn 126 [Cn v] [] I (A1 (.v (.bool v.right)) I) none:=by
 let⟨h,e⟩:=g;rcases h with h|h|⟨b,c,a,d⟩
 .rw[h,AKK];exact AZC I v.n
 .rw[h,AKH];exact AZB I v.l e
 .rw[AWW b c a d];have:v=hand v.kind v.name v.l:=by let⟨k,n,i,l⟩:=v;simp only at a;subst a;rfl
  rw[this];exact AZA I f v.kind v.name v.l b c d e
def ARJ(I)(b:Pow I)(v)(c:WV v):Fn 294 [Cn v] [] I (A1 (.v (.bool (Oz v))) I) none:=by
 refine fo func294 (BZ rfl) λf d w a=> ?_;by_cases h:3<=v.kind;have e:Oz v=v.right:=by simp[Oz,h]
 rw[e];exact gg [(5,hT ((v.kind:Int)≥3) oG)]<|call (ADS I b v c) kR<|gG<|fi;have e:Oz v=false:=by simp[Oz,h]
 rw[e];exact gg [(5,hF ((v.kind:Int)≥3) oG)]<|fi
section
def AN0(x y:Val):(x==y)=decide (x=y):=by by_cases h:x=y;rw[h];simp;rw[decide_eq_false h];exact beq_eq_false_iff_ne.2 h
def JJ(I:AB)(i j b a n c k:Nat){arr:AY AE}{e:Av}{d:Nat×Nat}(x:Val)(h:k<n)(g:I b=some (.cells arr e d))(l:∀j v,(Au x)[j]? =some v->arr[a+k*5+j]? =some v):AA (Nat×Hint):=
 [(i,BM I E5 b a n c k h),(j,DR I MX (a+k*5) (Au x) rfl g l)]
structure Fs(I:AB)(im:Ak)(m:BV)(f:B7)(vs:AA Val):Prop where
 pow:Pow I
 cs:∃l,EE I im.consts m.ia m.ic l
 cn:m.iN=im.consts.length
 fs:∃l,Aj I (Iu I) 3 im.Ad m.ja m.jc l
 fn:m.jn=im.Ad.length
 FH:CH I m.c m.p
 top:m.c.top=some f
 tk:∃l,EE I vs m.ta m.tc l
 tn:m.tn=vs.length
 wv:∀v∈vs,WV v
 sl:m.c.stack.length<=900000
 fl:m.c.AF.length<=900000
 tl:m.c.tries.length<=900000
 SJ:G1 im f ⟨m.oc,m.oa⟩
 num:vs.length=Bi im ⟨m.oc,m.oa⟩
 al:m.oc=17->vs.length<=1000
def Wm{l:AA Val}{i}(h:i<l.length):l[i]? =some (l.getD i AO):=by rw[A9 h,Cz,A9 h];rfl
def WV.nm{v}(h:WV v):Bg v.name:=by rcases h.1 with e|e|⟨_,_,_,e⟩;rw[e];intro x a;cases a;rw[e];intro x a;cases a;exact(XU e).1
variable {I:AB} {im:Ak} {m:BV} {f:B7} {vs:List Val} {r:Ae ⊕ Int} {x y:Val}
def Fs.at_(S:Fs I im m f vs)(i)(h:i<Bi im ⟨m.oc,m.oa⟩):vs[i]? =some (vs.getD i AO)/\WV (vs.getD i AO):=by
 have:=Wm (S.num▸h)
 exact⟨this,S.wv _ (Cv this)⟩
def AB5(S:Fs I im m f vs)(l):Fn 290 [.p 1 0,Cc l] [(1,m.blk)] I (Hq I m (.inl (Ce m.c (Cx l)))) none:=by have:=S.sl;exact fo func290 GH λd c w a=>gG<|Gb (MJ I m (Cx l) oG S.FH) kR λq J hle b=>gG<|dn [] ⟨q,J,rfl,hle,b⟩
def AU0{G}(S:Fs I im m f vs)(n:G=284\/G=285\/G=287)(l:vs[0]? =some x)(h:x.kind=1->Fn G [Cn x,.p 2 0] [(1,m.blk),Gd] I (LC I m r) none)(o:x.kind≠1->r=.inr (-1)):
 Fn 283 [.p 1 0,.v (.int .i64 1),.fn (.func G) [] [.p 2 0]] [(1,m.blk),Gd] I (LC I m r) none:=by
 have c:=(B6.1 l).1;let⟨_,p⟩:=S.tk;obtain⟨m,b,a,arr,e,u,rfl,g,s⟩:=Qv m p S.tn c;have d:=s 0 x l;refine fo func283 OK λv t w k=> ?_;by_cases j:x.kind=1;rcases n with rfl|rfl|rfl<;>
 .exact gg ((12,C9 I Dj rfl (a+0*5+0) (.int .i64 x.kind) g (d 0 _ rfl))::(14,Ct (x.kind:Int) 1 oG)::(10,BM I E5 b a vs.length m.tc 0 c)::JJ I 22 23 b a vs.length m.tc 0 x c g d)<|V8 2 (h j) kR λq J hle i=>gG<|dn [] ⟨q,J,rfl,hle,i⟩
 rw[o j];exact gg [(12,C9 I Dj rfl (a+0*5+0) (.int .i64 x.kind) g (d 0 _ rfl)),(14,FJ (x.kind:Int) 1 oG),(10,BM I E5 b a vs.length m.tc 0 c)]<|Gb (QN I (m.tk b a vs.length) (-1)) kR λq J hle i=>gG<|dn [] ⟨q,J,rfl,hle,i⟩
def AYq{G}{k:Nat}(S:Fs I im m f vs)(z:G=279\/G=289\/G=291\/G=293)(u:vs[0]? =some x)(v:vs[1]? =some y)(h:x.kind=k/\y.kind=k->Fn G [Cn x,Cn y,.p 2 0] [(1,m.blk),Gd] I (LC I m r) none)(s: ¬(x.kind=k/\y.kind=k)->r=.inr (-1)):
 Fn 278 [.p 1 0,.v (.int .i64 k),.fn (.func G) [] [.p 2 0]] [(1,m.blk),Gd] I (LC I m r) none:=by
 have c:=(B6.1 u).1;have g:=(B6.1 v).1;let⟨_,A⟩:=S.tk;obtain⟨m,b,a,arr,e,C,rfl,d,t⟩:=Qv m A S.tn c;have j:=t 0 x u;have l:=t 1 y v;refine fo func278 OK λD B w o=> ?_;by_cases n:x.kind=k;by_cases p:y.kind=k;rcases z with rfl|rfl|rfl|rfl<;>
 .exact gg ((12,C9 I Dj rfl (a+0*5+0) (.int .i64 x.kind) d (j 0 _ rfl))::(14,Ct (x.kind:Int) k oG)::(10,BM I E5 b a vs.length m.tc 0 c)::(22,C9 I Dj rfl (a+1*5+0) (.int .i64 y.kind) d (l 0 _ rfl))::(24,Ct (y.kind:Int) k oG)::(20,BM I E5 b a vs.length m.tc 1 g)::JJ I 33 34 b a vs.length m.tc 0 x c d j++JJ I 39 40 b a vs.length m.tc 1 y g d l)<|V8 2 (h ⟨n,p⟩) kR λq J hle i=>gG<|dn [] ⟨q,J,rfl,hle,i⟩
 rw[s λq=>p q.2];exact gg [(12,C9 I Dj rfl (a+0*5+0) (.int .i64 x.kind) d (j 0 _ rfl)),(14,Ct (x.kind:Int) k oG),(10,BM I E5 b a vs.length m.tc 0 c),(22,C9 I Dj rfl (a+1*5+0) (.int .i64 y.kind) d (l 0 _ rfl)),(24,FJ (y.kind:Int) k oG),(20,BM I E5 b a vs.length m.tc 1 g)]<|Gb (QN I (m.tk b a vs.length) (-1)) kR λq J hle i=>gG<|dn [] ⟨q,J,rfl,hle,i⟩;rw[s λq=>n q.1];exact gg [(12,C9 I Dj rfl (a+0*5+0) (.int .i64 x.kind) d (j 0 _ rfl)),(14,FJ (x.kind:Int) k oG),(10,BM I E5 b a vs.length m.tc 0 c)]<|Gb (QN I (m.tk b a vs.length) (-1)) kR λq J hle i=>gG<|dn [] ⟨q,J,rfl,hle,i⟩
def AUs(S:Fs I im m f vs)(h:7<=m.oc/\m.oc<=13):Fn 279 [Cn x,Cn y,.p 2 0] [(1,m.blk),Gd] I (LC I m (match Ff m.oc x.n y.n with|some n=>.inl (Ce m.c (whole n))|none=>.inr (-2))) none:=by
 have:=S.sl;have b:=AUr I m.oc x.n y.n h.1 h.2;refine fo func279 OK λe d w c=>gG ?_;generalize Ff m.oc x.n y.n=o at b⊢;refine call b kR ?_;cases o with
 |some n=>
  exact gG<|call (Ss I n) kR<|gG<|Gb (MJ I m (whole n) oG S.FH) kR λq J hle a=>gG<|dn [] ⟨q,J,rfl,hle,a⟩
 |none=>
  exact gG<|Gb (QN I m (-2)) kR λq J hle a=>gG<|dn [] ⟨q,J,rfl,hle,a⟩
def AIA{G l}(S:Fs I im m f vs)(d:Bo x.l)(e:Bo y.l)(h:G=289/\l=jn x.l y.l\/G=291/\l=mt x.l y.l):Fn G [Cn x,Cn y,.p 2 0] [(1,m.blk),Gd] I (LC I m (.inl (Ce m.c (Cx l)))) none:=by
 rcases h with⟨rfl,rfl⟩|⟨rfl,rfl⟩;refine fo func289 OK λg c w a=> ?_
 rotate_left
 refine fo func291 OK λg c w a=> ?_
 rotate_left
 all_goals
  refine gG ?_
  first
  |refine call (ABc I x.l y.l d e) kR ?_
   exact gG<|Gb (AB5 S (jn x.l y.l)) kR λq J hle b=>gG<|dn [] ⟨q,J,rfl,hle,b⟩
  |refine call (AUA I x.l y.l d e) kR ?_
   exact gG<|Gb (AB5 S (mt x.l y.l)) kR λq J hle b=>gG<|dn [] ⟨q,J,rfl,hle,b⟩
def AUi(S:Fs I im m f vs):Fn 284 [Cn x,.p 2 0] [(1,m.blk),Gd] I (LC I m (.inl (Ce m.c (Le (x.n==0))))) none:=by have:=S.sl;exact fo func284 OK λd c w a=>gG<|call (ADE I (x.n==0)) kR<|gG<|Gb (MJ I m (Le (x.n==0)) oG S.FH) kR λq J hle b=>gG<|dn [] ⟨q,J,rfl,hle,b⟩
def AYZ:Fn 287 [Cn x,.p 2 0] [(1,m.blk),Gd] I (LC I m (.inr x.n)) none:=fo func287 OK λd c w a=>gG<|Gb (QN I m x.n) kR λq J hle b=>gG<|dn [] ⟨q,J,rfl,hle,b⟩
def AMc(S:Fs I im m f vs)(b:x.n=0):Fn 285 [Cn x,.p 2 0] [(1,m.blk),Gd] I (LC I m (.inl m.c)) none:=fo func285 OK λd c w a=>gg [(5,Ct x.n 0 b)]<|dn [] ⟨m.p,I,rfl,AB.le_refl _,QD S.FH⟩
def AQe(S:Fs I im m f vs)(c:Bo x.l)(d:Bo y.l):Fn 293 [Cn x,Cn y,.p 2 0] [(1,m.blk),Gd] I (LC I m (.inl (Ce m.c (Le (fl x.l y.l))))) none:=by have:=S.sl;exact fo func293 OK λg e w a=>gG<|call (LL I x.l y.l c d) kR<|gG<|call (ADE I (fl x.l y.l)) kR<|gG<|Gb (MJ I m (Le (fl x.l y.l)) oG S.FH) kR λq J hle b=>gG<|dn [] ⟨q,J,rfl,hle,b⟩
def ACL{F G}(S:Fs I im m f vs)(d:F=209/\G=284\/F=211/\G=285\/F=214/\G=287)(i:vs[0]? =some x)(h:x.kind=1->Fn G [Cn x,.p 2 0] [(1,m.blk),Gd] I (LC I m r) none)(g:x.kind≠1->r=.inr (-1)):Fn F [.p 1 0] [(1,m.blk)] I (Hq I m r) none:=by
 rcases d with⟨rfl,rfl⟩|⟨rfl,rfl⟩|⟨rfl,rfl⟩;refine fo func209 GH λc b w a=> ?_
 rotate_left
 refine fo func211 GH λc b w a=> ?_
 rotate_left
 refine fo func214 GH λc b w a=> ?_
 rotate_left
 all_goals
  exact gG<|V8 100 (AU0 S (by simp) i h g) kR λq J hle e=>gG<|dn [] ⟨q,J,rfl,hle,e⟩
def Ui{F G k}(S:Fs I im m f vs)(d:F=207/\G=279/\k=1\/F=217/\G=289/\k=2\/F=218/\G=291/\k=2\/F=219/\G=293/\k=2)(i:vs[0]? =some x)(j:vs[1]? =some y)(h:x.kind=k/\y.kind=k->Fn G [Cn x,Cn y,.p 2 0] [(1,m.blk),Gd] I (LC I m r) none)(g: ¬(x.kind=k/\y.kind=k)->r=.inr (-1)):Fn F [.p 1 0] [(1,m.blk)] I (Hq I m r) none:=by
 rcases d with⟨rfl,rfl,rfl⟩|⟨rfl,rfl,rfl⟩|⟨rfl,rfl,rfl⟩|⟨rfl,rfl,rfl⟩;refine fo func207 GH λc b w a=> ?_
 rotate_left
 refine fo func217 GH λc b w a=> ?_
 rotate_left
 refine fo func218 GH λc b w a=> ?_
 rotate_left
 refine fo func219 GH λc b w a=> ?_
 rotate_left
 all_goals
  exact gG<|V8 100 (AYq S (by simp) i j h g) kR λq J hle e=>gG<|dn [] ⟨q,J,rfl,hle,e⟩
def o1(S:Fs I im m f vs)(d:im.consts[m.oa]? =some x):Fn 201 [.p 1 0] [(1,m.blk)] I (Hq I m (.inl (Ce m.c x))) none:=by have h:=(B6.1 d).1;have j:=S.sl;let⟨_,k⟩:=S.cs;obtain⟨m,b,a,arr,e,o,rfl,g,l⟩:=APK m k S.cn oG;refine fo func201 GH λp n w c=>gg (JJ I 13 14 b a im.consts.length m.ic m.oa x h g (l m.oa x d))<|Gb (MJ I (m.ks b a im.consts.length) x (by show m.c.stack.length<=_;have:m.c.stack.length<=_:=j;omega) S.FH) kR λq J hle i=> ?_;exact gG<|dn [] ⟨q,J,rfl,hle,i⟩
def o2(S:Fs I im m f vs)(p:f.vars[m.oa]? =some x):Fn 202 [.p 1 0] [(1,m.blk)] I (Hq I m (.inl (Ce m.c x))) none:=by have F:=S.sl;have E:=S.fl;let⟨b,c,arr,e,D,G,B,g,o,u,k,i,a⟩:=AA8 I m S.FH S.top;rw[o];have v:=(B6.1 p).1;obtain⟨s,d,l,C,t,rfl,h,j⟩:=VA k oG;refine fo func202 GH λH A w n=>gG<|AAI (ADC I m b c i oG) rfl kR<|gg ((7,.op I _ _ (G5 Lf rfl u (a 4 _ rfl)))::JJ I 13 14 s d f.vars.length B m.oa x v h (j m.oa x p))<|Gb (MJ I (m.RX b c) x (by show m.c.stack.length<=_;omega) (by rw[<-o];exact S.FH)) kR λq J hle z=> ?_;exact gG<|dn [] ⟨q,J,rfl,hle,z⟩
def o47(S:Fs I im m f vs):Fn 222 [.p 1 0] [(1,m.blk)] I (Hq I m (.inl (Ce m.c (whole f.AL.toNat)))) none:=by have t:=S.sl;have s:=S.fl;let⟨b,c,arr,e,o,u,v,d,i,j,l,g,a⟩:=AA8 I m S.FH S.top;rw[i];have p:=f.AL.toNat_lt;refine fo func222 GH λz n w h=>gG<|AAI (ADC I m b c g oG) rfl kR<|gg [(7,.op I _ _ (G5 Q1 rfl j (a 3 _ rfl))),(8,.eq _ _ (iw (n:=(f.AL.toNat:Int)) (m:=(f.AL.toNat:Int)) rfl oG))]<|call (Ss I f.AL.toNat) kR<|gG<|Gb (MJ I (m.RX b c) (whole f.AL.toNat) (by show m.c.stack.length<=_;omega) (by rw[<-i];exact S.FH)) kR λq J hle k=> ?_;exact gG<|dn [] ⟨q,J,rfl,hle,k⟩
def o4(S:Fs I im m f vs):Fn 204 [.p 1 0] [(1,m.blk)] I (Hq I m (.inl m.c)) none:=fo func204 GH λc b w a=>gG<|dn [] ⟨m.p,I,rfl,AB.le_refl _,QD S.FH⟩
def o56{F k}(S:Fs I im m f vs)(hF:F=205/\k=0\/F=206/\k=1)(t:vs[0]? =some x)(u:vs[k]? =some y):Fn F [.p 1 0] [(1,m.blk)] I (Hq I m (.inl (Ce (Ce m.c y) x))) none:=by
 have n:=(B6.1 t).1;have h:=(B6.1 u).1;have o:=S.sl;let⟨_,C⟩:=S.tk;obtain⟨m,b,a,arr,e,G,rfl,l,s⟩:=Qv m C S.tn n;replace o:m.c.stack.length<=900000:=o;have z:=s 0 x t;have A:=s k y u;rcases hF with⟨rfl,rfl⟩|⟨rfl,rfl⟩;refine fo func205 GH λE j w d=> ?_
 rotate_left
 refine fo func206 GH λE j w d=> ?_
 rotate_left
 all_goals
  refine gg (JJ I 7 8 b a vs.length m.tc _ y h l A)<|Gb (MJ I (m.tk b a vs.length) y (by show m.c.stack.length<=_;omega) S.FH) kR λq J hle B=> ?_;refine gg (JJ J 15 16 b a vs.length m.tc 0 x n (hle b _ l) z)<|Gb (MJ J ({m.tk b a vs.length with c:=Ce m.c y,p:=q}:BV) x (by show(m.c.stack++[y]).length<=1000000;simp;omega) (B _ rfl)) kR λD v g i=> ?_;exact gG<|dn [] ⟨D,v,rfl,hle.trans g,i⟩
def o12(S:Fs I im m f vs)(j:vs[0]? =some x)(k:vs[1]? =some y)(s:WV x)(t:WV y):Fn 208 [.p 1 0] [(1,m.blk)] I (Hq I m (.inl (Ce m.c (Le (x==y))))) none:=by have g:=(B6.1 j).1;have c:=(B6.1 k).1;have n:=S.sl;let⟨_,o⟩:=S.tk;obtain⟨m,b,a,arr,e,u,rfl,d,i⟩:=Qv m o S.tn g;refine fo func208 GH λv p w h=>gg ((15,UB I 8 14 x y s.nm t.nm (x==y) (AN0 x y).symm)::JJ I 7 8 b a vs.length m.tc 0 x g d (i 0 x j)++JJ I 13 14 b a vs.length m.tc 1 y c d (i 1 y k))<|call (ADE I (x==y)) kR<|gG<|Gb (MJ I (m.tk b a vs.length) (Le (x==y)) (by show m.c.stack.length<=_;have:m.c.stack.length<=900000:=n;omega) S.FH) kR λq J hle l=> ?_;exact gG<|dn [] ⟨q,J,rfl,hle,l⟩
def o31(S:Fs I im m f vs)(o:vs[0]? =some x)(u:WV x):Fn 220 [.p 1 0] [(1,m.blk)] I (Hq I m (if Oz x then .inl (Ce m.c (Cx x.l))else .inr (-1))) none:=by
 have d:=(B6.1 o).1;let⟨_,p⟩:=S.tk;obtain⟨m,b,a,arr,e,z,rfl,k,s⟩:=Qv m p S.tn d;have i:=s 0 x o;have l:=ARJ I S.pow x u;refine fo func220 GH λA t w n=>gg (JJ I 6 7 b a vs.length m.tc 0 x d k i) ?_;generalize Oz x=g at l⊢;refine call l kR ?_;cases g with
 |true=>
  refine gg [(17,BM I E5 b a vs.length m.tc 0 d),(19,DR I SS (a+0*5+3) [.string (str x.l.1),.string (str x.l.2)] rfl k (λj v c=>by
   have:=i (3+j) v (by
    match j,c with
    |0,c=>exact c
    |1,c=>exact c)
   rw[<-Mj]at this;exact this))] ?_
  exact Gb (AB5 S x.l) kR λq J hle h=>gG<|dn [] ⟨q,J,rfl,hle,h⟩
 |false=>
  exact gG<|Gb (QN I (m.tk b a vs.length) (-1)) kR λq J hle h=>gG<|dn [] ⟨q,J,rfl,hle,h⟩
def o20(S:Fs I im m f vs):Fn 215 [.p 1 0] [(1,m.blk)] I (Hq I m (.inl {m.c with tries:=m.c.tries++[⟨m.c.AF.length,m.c.stack.length,m.oa⟩]})) none:=by have u:=S.tl;have h:=S.FH;refine fo func215 GH λA s w j=>gG<|call (AFt I m.p.ta m.c.tries.length m.p.tc h.t.cap) kR<|gG ?_;refine act (need:=[(324,.cells [.v (.int .i64 m.c.AF.length),.v (.int .i64 m.c.stack.length),.v (.int .i64 m.oa)] 118)]) [] kR (KU A6 (n:=m.c.tries.length) (cap:=m.c.tries.length) (m:=1) (a:=m.p.ta) (l:=.v (.slice m.p.ta m.c.tries.length m.c.tries.length)) (x:=.s 324 0 1 1) (olds:=m.p.tl) (news:=EA ⟨m.c.AF.length,m.c.stack.length,m.oa⟩) Zq kR rfl (h.t.sl.reads (c:=m.c.tries.length)) (D2 (AP.2 rfl) rfl (by intro v d;simp[EA]at d;rcases d with rfl|rfl|rfl<;>rfl)) (AZ _) (Y5 _) (λe=>by have:=h.t.sl;rw[e]at this;exact this.UZ) oG) (λk p z i=> ?_) LD ?_;obtain⟨c,a,_,_,_,rfl⟩:=p;cases i;rintro k ⟨c,a,l,n,t,rfl⟩;refine gG<|BW 332 I (vs:=(m.p.tl++EA ⟨m.c.AF.length,m.c.stack.length,m.oa⟩)++a) (e:=118) kR λb J hle _ o=>gG ?_;have g:(m.c.tries++[(⟨m.c.AF.length,m.c.stack.length,m.oa⟩:EQ)]).length=m.c.tries.length+1:=sP;refine dn [] ⟨{m.p with ta:=some ⟨b,0,none⟩,tc:=c,tl:=m.p.tl++EA ⟨m.c.AF.length,m.c.stack.length,m.oa⟩},J,(by simp[BV.Fi,BV.blk,BV.row,g];rfl),hle,QD ⟨(h.up hle).f,(h.up hle).s,?_,by rw[g];exact l,n,h.t.rows.append (Rows.one rfl)⟩⟩;rw[g];refine Ch.NC o (by simp[h.t.sl.len,EA,FU]) λv d=> ?_;rcases BA.1 d with q|q;exact h.t.sl.one v q;simp[EA]at q;rcases q with rfl|rfl|rfl<;>rfl
def o21(S:Fs I im m f vs):Fn 216 [.p 1 0] [(1,m.blk)] I (Hq I m (.inl (if m.tr<m.c.tries.length then{m.c with tries:=m.c.tries.take (m.c.tries.length-1)}else m.c))) none:=by have k:=S.tl;have h:=S.FH;have d:=h.t.cap;let⟨i,a,b⟩:=Ww;refine fo func216 GH λl j w e=> ?_;split;refine gg [(14,hT ((m.c.tries.length:Int)>m.tr) oG),(22,hW ((m.c.tries.length:Int)-1) ((m.c.tries.length-1:Nat):Int) oG oG),(23,.op I _ _ (Uz (a:=m.p.ta) (n:=m.c.tries.length) (c:=m.p.tc) (m:=m.c.tries.length-1) Q0 a oG))]<|call (AFt I m.p.ta (m.c.tries.length-1) m.p.tc oG) kR<|gG ?_;have g:=h.t.take Sl (m.c.tries.length-1);have c:min (m.c.tries.length-1) m.c.tries.length=m.c.tries.length-1:=oG;rw[c]at g;exact dn [] ⟨{m.p with tc:=m.c.tries.length-1,tl:=_},I,(by simp[BV.Fi,BV.blk,BV.row,CX,c];rfl),AB.le_refl _,QD ⟨h.f,h.s,g⟩⟩;exact gg [(14,hF ((m.c.tries.length:Int)>m.tr) oG)]<|dn [] ⟨m.p,I,rfl,AB.le_refl _,QD h⟩
def o17{s}(S:Fs I im m f vs)(C:m.oc=17)(E:im.Ad[m.oa]? =some s):Fn 212 [.p 1 0] [(1,m.blk)] I (Hq I m (match F5 m.c m.oa s.vars vs f.AL with|some u=>.inl u|none=>.inr (-6))) none:=by
 let⟨_,ht⟩:=S.tk;let⟨_,F⟩:=S.fs;let⟨B,c,L,e2,Q,ca,cc,cl,R,T,g3,U,V⟩:=My F E;let⟨b,a,arr,e,fr,va,vc,o,N,W,ab,H,i⟩:=AA8 I m S.FH S.top;have aa:=S.sl;have X:=S.fl;have D:=S.al C;have n:=S.FH;have Z:=S.tn;have Y:=S.fn;let⟨ia,iN,ic,ja,jn,jc,was,wp,c0,⟨P,p,d,t,v,z,g,h,A⟩,oc,oa,ta,tn,tc,fr',tr,ok,ov,xc,xa,wrong,code⟩:=m;have G:P=some ⟨b,a,none⟩:=El (λm:BV=>m.p.fa) N;simp only at*;subst R Y Z G;let⟨O,j,k⟩:=ABW;refine fo func212 GH λρ ac w M=>gg [(24,.op I _ _ (Sb (b:=B) (off:=c) (n:=im.Ad.length) (c:=jc) (k:=oa) ADJ j k U)),(26,.op I _ _ (G5 Dj rfl T (V 1 _ rfl)))]<|AAI (ADC I (⟨ia,iN,ic,some ⟨B,c,none⟩,im.Ad.length,jc,was,wp,c0,⟨some ⟨b,a,none⟩,p,d,t,v,z,g,h,A⟩,oc,oa,ta,vs.length,tc,fr',tr,ok,ov,xc,xa,wrong,code⟩:BV) b a H (by show c0.AF.length<=_;omega)) rfl kR ?_;refine gg [(35,.op I _ _ (G5 Q1 rfl W (i 3 _ rfl)))] ?_;unfold F5;by_cases l:16<=c0.AF.length;rw[AW l];exact call (AGa I c0 ⟨some ⟨b,a,none⟩,p,d,t,v,z,g,h,A⟩ oa s.vars ta vs.length tc f.AL oG) kR<|gG<|Gb (QN I (⟨ia,iN,ic,some ⟨B,c,none⟩,im.Ad.length,jc,was,wp,c0,⟨some ⟨b,a,none⟩,p,d,t,v,z,g,h,A⟩,oc,oa,ta,vs.length,tc,fr',tr,ok,ov,xc,xa,wrong,code⟩:BV) (-6)) kR λq J hle K=>gG<|dn [] ⟨q,J,rfl,hle,K⟩;rw[AN l];exact CK (AP4 I c0 ⟨some ⟨b,a,none⟩,p,d,t,v,z,g,h,A⟩ oa s.vars vs ta tc _ f.AL n ht oG D oG) kR λq J hle K=>gG<|dn [] ⟨q,J,rfl,hle,QD K⟩
def stepG(k:Nat):Nat:=200+[0,1,2,3,4,5,6,7,7,7,7,7,8,7,9,10,11,12,13,14,15,16,17,18,19,0,0,0,0,0,0,20,0,0,0,0,0,0,0,0,0,0,0,0,21,0,0,22].getD k 0
theorem ops(S:Fs I im m f vs)(h:m.oc∈[1,2,4,5,6,7,8,9,10,11,12,13,14,16,17,19,20,21,22,23,24,31,47])(a:m.oc=16->¬((vs.getD 0 AO).kind=1/\(vs.getD 0 AO).n≠0)):Fn (stepG m.oc) [.p 1 0] [(1,m.blk)] I (Hq I m (Fh im m.c ⟨m.oc,m.oa⟩ vs m.tr)) none:=by
 have hA:=S.at_
 have hO:=S.SJ
 have ht:=S.top
 have hN:=λx y=>AUs (x:=x) (y:=y) S
 generalize e:m.oc=k at*
 have hp: ∀r,Fh im m.c ⟨k,m.oa⟩ vs m.tr=r->Fn (stepG k) [.p 1 0] [(1,m.blk)] I (Hq I m r) none->Fn (stepG k) [.p 1 0] [(1,m.blk)] I (Hq I m (Fh im m.c ⟨k,m.oa⟩ vs m.tr)) none:=λr e h=>e▸h
 simp only[List.mem_cons,List.not_mem_nil,_root_.or_false]at h
 rcases h with rfl|rfl|rfl|rfl|rfl|rfl|rfl|rfl|rfl|rfl|rfl|rfl|rfl|rfl|rfl|rfl|rfl|rfl|rfl|rfl|rfl|rfl|rfl<;>
  (try have h0:=hA 0 (of_decide_eq_true rfl))<;>(try have h1:=hA 1 (of_decide_eq_true rfl))
 ·exact o1 S (Wm (of_decide_eq_true hO))
 ·refine hp _ ?_ (o2 S (Wm (of_decide_eq_true hO)))
  simp[Fh,ht]
 ·exact o4 S
 ·exact o56 S (.inl ⟨rfl,rfl⟩) h0.1 h0.1
 ·exact o56 S (.inr ⟨rfl,rfl⟩) h0.1 h1.1
 iterate 5 exact Ui S (.inl ⟨rfl,rfl,rfl⟩) h0.1 h1.1 (λh=>by simp only[Fh,if_pos h];exact hN _ _ dC) λh=>if_neg h
 ·exact o12 S h0.1 h1.1 h0.2 h1.2
 ·exact Ui S (.inl ⟨rfl,rfl,rfl⟩) h0.1 h1.1 (λh=>by simp only[Fh,if_pos h];exact hN _ _ dC) λh=>if_neg h
 ·exact ACL S (.inl ⟨rfl,rfl⟩) h0.1 (λh=>by simp only[Fh,if_pos h];exact AUi S) λh=>if_neg h
 ·exact ACL S (.inr (.inl ⟨rfl,rfl⟩)) h0.1 (λh=>by have:=a rfl;simp only[Fh,if_pos h,if_neg λq=>this ⟨h,q⟩];exact AMc S (Decidable.not_not.1 λq=>this ⟨h,q⟩)) λh=>if_neg h
 ·refine hp _ ?_ (o17 S e (List.getElem?_eq_getElem (of_decide_eq_true hO)))
  simp only[Fh,ht,List.getD_eq_getElem?_getD,List.getElem?_eq_getElem (of_decide_eq_true hO:m.oa<im.Ad.length)];rfl
 ·exact ACL S (.inr (.inr ⟨rfl,rfl⟩)) h0.1 (λh=>by simp only[Fh,if_pos h];exact AYZ) λh=>if_neg h
 ·exact o20 S
 ·exact o21 S
 ·exact Ui S (.inr (.inl ⟨rfl,rfl,rfl⟩)) h0.1 h1.1 (λh=>by simp only[Fh,if_pos h];exact AIA S h0.2.2 h1.2.2 (.inl ⟨rfl,rfl⟩)) λh=>if_neg h
 ·exact Ui S (.inr (.inr (.inl ⟨rfl,rfl,rfl⟩))) h0.1 h1.1 (λh=>by simp only[Fh,if_pos h];exact AIA S h0.2.2 h1.2.2 (.inr ⟨rfl,rfl⟩)) λh=>if_neg h
 ·exact Ui S (.inr (.inr (.inr ⟨rfl,rfl,rfl⟩))) h0.1 h1.1 (λh=>by simp only[Fh,if_pos h];exact AQe S h0.2.2 h1.2.2) λh=>if_neg h
 ·exact o31 S h0.1 h0.2
 ·refine hp _ ?_ (o47 S)
  simp[Fh,ht]
def AWO(c):(Di c).AF.length<=c.AF.length/\(Di c).stack.length<=c.stack.length:=by simp[Di];omega
def BV.X0(m:BV)(q:CN):BV:=if(Di m.was).AF.length<=m.fr then{m with c:=Di m.was,p:=q,ok:=1,ov:=(CJ m.was 1).getD 0 AO,xc:=0,xa:=0}else{m with c:=Ce (Di m.was) ((CJ m.was 1).getD 0 AO),p:=q}
def AKF{m:BV}(h:(Di m.was).AF.length<=m.fr):m.X0=λq=>{m with c:=Di m.was,p:=q,ok:=1,ov:=(CJ m.was 1).getD 0 AO,xc:=0,xa:=0}:=FV λ_=>AW h
def AKE{m:BV}(h: ¬(Di m.was).AF.length<=m.fr):m.X0=λq=>{m with c:=Ce (Di m.was) ((CJ m.was 1).getD 0 AO),p:=q}:=FV λ_=>AN h
def AU1(m:BV)(f)(o:m.was.top=some f)(d:Fg m.was 1)(j:Jd m.was)(h:CH I m.was m.wp):
 Fn 213 [.p 1 0] [(1,m.blk)] I (TR I m.X0 λJ q=>CH J (m.X0 q).c q) none:=by
 have v:=(AWO m.was).2;have s:=j.s;have k:=AWQ I m.was m.wp f o d j h;by_cases l:(Di m.was).AF.length<=m.fr;rw[AKF l];refine fo func213 GH λu i w a=> ?_;refine gG<|CK k kR λq J hle e=> ?_;exact gg [(25,hT (((Di m.was).AF.length:Int)<=m.fr) oG)]<|dn [] ⟨q,J,rfl,hle,e⟩;rw[AKE l];refine fo func213 GH λu i w a=> ?_;refine gG<|CK k kR λq J hle e=> ?_;refine gg [(25,hF (((Di m.was).AF.length:Int)<=m.fr) oG)]<|Gb (MJ J {m with c:=Di m.was,p:=q} ((CJ m.was 1).getD 0 AO) (by show(Di m.was).stack.length<=_;omega) e) kR λt n b g=> ?_;exact gG<|dn [] ⟨t,n,rfl,hle.trans b,g _ rfl⟩
end
def AVl(I c p)(n:Nat)(f)(o:c.top=some f)(i:Fg c n=false)(z:c.stack.length<=1000000)(s:c.AF.length<=1000000)(h:CH I c p):Fn 156 [.g (Cj c p),.v (.int .i64 (n:Int))] [] I (A1 (.t [.g (Cj c p),.v (.slice none 0 0),.v (.bool false)]) I) none:=by
 let⟨b,d,arr,e,y,G,H,j,g,l,u,t,a⟩:=Rs h o;let⟨x,k,fl,A,B,C,D,E,F⟩:=p;simp only at g;subst g;have r:KV c=f.base:=by unfold KV;rw[o]
 simp[Fg,Bool.and_eq_false_iff,AMq]at i;rw[r]at i;refine fo func156 (BZ rfl) λJ v w q=> ?_;by_cases m:c.stack.length<f.base;refine gg [(13,hT ((c.AF.length:Int)>0) oG),(19,hW ((c.AF.length:Int)-1) ((c.AF.length-1:Nat):Int) oG oG),
  (20,BM I Ol b d c.AF.length k (c.AF.length-1) oG),(22,C9 I Dj rfl (d+(c.AF.length-1)*5+2) _ l (a 2 _ rfl)),(27,hF ((n:Int)<0) oG),(30,hF ((f.base:Int)<0) oG),(35,hT ((f.base:Int)>c.stack.length) oG)] ?_
 exact fi;refine gg [(13,hT ((c.AF.length:Int)>0) oG),(19,hW ((c.AF.length:Int)-1) ((c.AF.length-1:Nat):Int) oG oG),
  (20,BM I Ol b d c.AF.length k (c.AF.length-1) oG),(22,C9 I Dj rfl (d+(c.AF.length-1)*5+2) _ l (a 2 _ rfl)),(27,hF ((n:Int)<0) oG),(30,hF ((f.base:Int)<0) oG),(35,hF ((f.base:Int)>c.stack.length) oG),
  (40,hW ((c.stack.length:Int)-f.base) ((c.stack.length-f.base:Nat):Int) oG oG),(42,hT (((c.stack.length-f.base:Nat):Int)<n) oG)] ?_
 exact fi
def ALL(I)(g:DK I)(b p o)(l:D3 I b p)(n:Gf o)(i:o.code=17->o.a<b.Ad.length)(m:∀f∈b.Ad,f.args<=1000000):Fn 200 [.g (De b p),N7 o] [] I (A1 (.v (.int .i64 (Bi b o))) I) none:=by
 let⟨j,_,_⟩:=Qi n;by_cases h:o.code=17;have d:=i h;let⟨c,a⟩:=o;simp only at h d;subst h;have k:b.Ad[a]? =some b.Ad[a]:=A9 d;have:=AYF I g b p a b.Ad[a] l k (m _ (DF d));have e:Bi b ⟨17,a⟩=b.Ad[a].args:=by unfold Bi;simp[List.getD,k,A2]
 rw[e];exact this;exact AYE I g b p o l j.1 j.2 h
structure ZH(im:Ak):Prop where
 right:∀f∈im.Ad,∀o∈f.code,Gf o
 args:∀f∈im.Ad,f.args<=1000
 code:∀f∈im.Ad,f.code.length<=100000
abbrev AM0(I:AB)(o:Lz.Op)(b:Bool):Nat->AU->Prop:=Ft I (λ_:Unit=>.t [N7 o,.v (.bool b)]) (λ_ _=>True)
def JH(a:Ak)(c:Ae):Lz.Op×Bool:=match Hy a c with|some o=>(o,true)|none=>(⟨0,0⟩,false)
def AQX(I)(r:DK I)(im)(ip)(c)(p)(hi:D3 I im ip)(C:ZH im)(D:Jd c)(h:CH I c p):Fn 149 [.g (De im ip),.g (Cj c p)] [] I (AM0 I (JH im c).1 (JH im c).2) none:=by
 have R:=D.f;have S:=D.s;refine fo Tryz.func149 (EK λ_=>rfl) λρ key w E=> ?_;cases a:c.top with
 |none=>
  have N:c.AF.length=0:=by have:c.AF.getLast?=none:=a;rw[Q8]at this;rw[this];rfl
  have e:JH im c=(⟨0,0⟩,false):=by unfold JH Hy;rw[a]
  rw[e];exact gg [(15,hE (c.AF.length:Int) 0 oG)]<|dn [] ⟨(),I,rfl,AB.le_refl _,A0⟩
 |some f=>
  let⟨b,off,arr,e,fr,va,M,cells,u,z,L,K,s⟩:=Rs h a;let⟨fa,fc,fl,sa,sc,sl,ta,tc,tl⟩:=p;simp only at u;subst u;refine gg [(15,hN (c.AF.length:Int) 0 oG),(22,hW ((c.AF.length:Int)-1) ((c.AF.length-1:Nat):Int) oG oG),(23,BM I Ol b off c.AF.length fc (c.AF.length-1) oG),(24,DR I X4 (off+(c.AF.length-1)*5) _ rfl z s)]<|call (Su I f.fn im.Ad.length) kR ?_;by_cases Eb:f.fn<im.Ad.length;have d:im.Ad[f.fn]? =some im.Ad[f.fn]:=A9 Eb;have m:=DF Eb;generalize im.Ad[f.fn]=fn at d m;let⟨b2,g,A,O,F,ca,cc,cl,g1,g2,g3,g4,g5⟩:=My hi.u d;let⟨ka,kc,kl,ua,uc,ul⟩:=ip;simp only at g1;subst g1;rw[show decide (f.fn<im.Ad.length)=true from GL Eb];refine gg [(37,BM I LI b2 g im.Ad.length uc f.fn g4),(39,C9 I ADI rfl (g+f.fn*3+2) _ g2 (g5 2 _ rfl))]<|call (Su I f.pc fn.code.length) kR ?_;by_cases k:f.pc<fn.code.length;have j:fn.code[f.pc]? =some fn.code[f.pc]:=A9 k;have v:=DF k;generalize fn.code[f.pc]=o at j v;let⟨b3,n,B,P,G,row,q1,q2,q3,q4,q5⟩:=g3.cell Xj j;subst q1 q3;have t:=C.right fn m o v;have x:=Qi t;rw[show decide (f.pc<fn.code.length)=true from GL k];refine gg [(50,BM I Nq b3 n fn.code.length cc f.pc q4),(51,DR I Ut (n+f.pc*2) (B8 o) rfl q2 q5)]<|call (Ur I r o t) kR<|gG<|call (AU5 I r im ⟨ka,kc,kl,some ⟨b2,g,none⟩,uc,ul⟩ f va M fn o hi d x.1.1 x.1.2) kR ?_;cases i:G1 im f o with
  |false=>
   have e:JH im c=(⟨0,0⟩,false):=by unfold JH Hy;rw[a];simp only[d,j,t,i];simp
   rw[e];exact gG<|dn [] ⟨(),I,rfl,AB.le_refl _,A0⟩
  |true=>
   have y:o.code=17->o.a<im.Ad.length:=λh=>by
    have:Bn o.code=4:=by rw[h];rfl
    unfold G1 at i;rw[this]at i;simpa using i
   refine gG<|call (ALL I r im ⟨ka,kc,kl,some ⟨b2,g,none⟩,uc,ul⟩ o hi t y (λf H=>by have:=C.args f H;omega)) kR ?_;refine gG ?_;cases l:Fg c (Bi im o)with
   |false=>
    have e:JH im c=(⟨0,0⟩,false):=by unfold JH Hy;rw[a];simp only[d,j,t,i,l];simp
    rw[e];exact call (AVl I c ⟨some ⟨b,off,none⟩,fc,fl,sa,sc,sl,ta,tc,tl⟩ (Bi im o) f a l oG oG h) kR<|gG<|dn [] ⟨(),I,rfl,AB.le_refl _,A0⟩
   |true=>
    have e:JH im c=(o,true):=by unfold JH Hy;rw[a];simp only[d,j,t,i,l];simp
    rw[e];exact CK (Xt I c ⟨some ⟨b,off,none⟩,fc,fl,sa,sc,sl,ta,tc,tl⟩ (Bi im o) f a l oG oG h) kR λq J hle Q=>gG<|dn [] ⟨(),J,rfl,hle,A0⟩
  have e:JH im c=(⟨0,0⟩,false):=by unfold JH Hy;rw[a];simp only[d];rw[I7 oG]
  rw[e,show decide (f.pc<fn.code.length)=false from IL k];exact gG<|dn [] ⟨(),I,rfl,AB.le_refl _,A0⟩;have e:JH im c=(⟨0,0⟩,false):=by unfold JH Hy;rw[a];simp only;rw[I7 oG]
  rw[e,show decide (f.fn<im.Ad.length)=false from IL Eb];exact gG<|dn [] ⟨(),I,rfl,AB.le_refl _,A0⟩
def AC1:AA AE:=[.int .i64 1,.int .i64 2,.int .i64 3,.int .i64 4,.int .i64 5,.int .i64 6,.int .i64 7,.int .i64 8,.int .i64 9,.int .i64 10,.int .i64 11,.int .i64 12,.int .i64 13,.int .i64 14,.int .i64 15,.int .i64 16,.int .i64 17,.int .i64 18,.int .i64 19,.int .i64 20,.int .i64 21,.int .i64 22,.int .i64 23,.int .i64 24,.int .i64 31,.int .i64 44,.int .i64 47]
def YE:AA SV:=[.fn (.func 201) [.p 1 0] [],.fn (.func 202) [.p 1 0] [],.fn (.func 203) [.p 1 0] [],.fn (.func 204) [.p 1 0] [],.fn (.func 205) [.p 1 0] [],.fn (.func 206) [.p 1 0] [],.fn (.func 207) [.p 1 0] [],.fn (.func 207) [.p 1 0] [],.fn (.func 207) [.p 1 0] [],.fn (.func 207) [.p 1 0] [],.fn (.func 207) [.p 1 0] [],.fn (.func 208) [.p 1 0] [],.fn (.func 207) [.p 1 0] [],.fn (.func 209) [.p 1 0] [],.fn (.func 210) [.p 1 0] [],.fn (.func 211) [.p 1 0] [],.fn (.func 212) [.p 1 0] [],.fn (.func 213) [.p 1 0] [],.fn (.func 214) [.p 1 0] [],.fn (.func 215) [.p 1 0] [],.fn (.func 216) [.p 1 0] [],.fn (.func 217) [.p 1 0] [],.fn (.func 218) [.p 1 0] [],.fn (.func 219) [.p 1 0] [],.fn (.func 220) [.p 1 0] [],.fn (.func 221) [.p 1 0] [],.fn (.func 222) [.p 1 0] []]
def AEW(I:AB)(m:AG):Nat->AU->Prop:=λb h=>h= {r:=.m b,upd:=[(1,m)],nb:=[.DZ AC1 YE],J:=I}
def AZp{I m}(j:m.keys=[]):CO (AEW I m) [(1,m)] I:=by
 refine⟨?_⟩;rintro d h rfl;have e:(Bf d [AG.DZ AC1 YE] d).isSome:=MN _ _;refine⟨⟨(λk c=>.inr ?_),λl g=> ?_,(λb i k c=> ?_),sP,sP⟩,AB.le_refl _⟩;simp[SV.keys]at c;rw[c];exact e;rw[AP.1 g];exact⟨sP,λk c=>by rw[j]at c;cases c⟩;rw[AP.1 i]at c;have:k=1:=by simp[AG.keys,YE,Ax,SV.keys]at c;exact c
 rw[this];exact .inl sP
def AX5(I)(m:BV):Fn 151 [.p 1 0] [(1,m.blk)] I (AEW I m.blk) none:=fo func151 (AZp rfl) λρ c w b=>gG<|dn [108] rfl
section
variable {F:FuncId} {a:Func} {n:Nat} {I:AB} {w:World} {ρ:Nat->Nat} {A:List Nat} {R:Dl} {f:BU}
def AOY{I'}{m:BV}(k)(c:Ci f n 151 [(1,k)] [(1,m.blk)] [1]=some (Bz (AT [(1,k)]) [.p 1 0],[some (m.blk.Am (AT [(1,k)]))],I'))(hnext:At F a n I w ρ A R (f.out (AT [(1,k)]) {r:=.m (Cw f),upd:=[(1,m.blk)],nb:=[.DZ AC1 YE],J:=I'})):At F a n I w ρ A R f:=
 Ag (AX5 I' m) [(1,k)] [1] c (λ_ h d e b=>by rw[show h=_ from d]at b;rw[AP.1 b];exact AP.2 rfl) λh d=>by rw[show h=_ from d];exact hnext
end
structure Nh(I:AB)(im:Ak)(ip:CY)(c:Ae)(p:CN):Prop where
 tab:DK I
 pow:Pow I
 img:D3 I im ip
 ok:ZH im
 len:Jd c
 FH:CH I c p
 Aa:∀v∈c.stack,WV v
 vars:∀f∈c.AF,f.vars.length<=1000000
abbrev XL(e:Ak)(b:CY)(c:Ae)(p:CN)(g h k a:Nat):BV:=⟨b.ka,e.consts.length,b.kc,b.ua,e.Ad.length,b.uc,c,p,⟨[],[],[]⟩,⟨none,0,[],none,0,[],none,0,[]⟩,k,a,none,0,0,g,h,0,AO,0,0,false,0⟩
abbrev XM(e:Ak)(b:CY)(c:Ae)(p:CN)(h o k a:Nat)(g:Ae)(i:CN)(j:AK Ac)(m l:Nat):BV:=⟨b.ka,e.consts.length,b.kc,b.ua,e.Ad.length,b.uc,c,p,g,i,k,a,j,m,l,h,o,0,AO,0,0,false,0⟩
structure OU(im:Ak)(c:Ae)(o:Lz.Op)(f:B7)(d:Lz.DT):Prop where
 top:c.top=some f
 Eb:im.Ad[f.fn]? =some d
 op:d.code[f.pc]? =some o
 right:Gf o
 SJ:G1 im f o
 pop:Fg c (Bi im o)
def AQY{e c o}(h:Hy e c=some o):∃f d,OU e c o f d:=by unfold Hy at h;split at h;cases h;rename_i f g;split at h;cases h;rename_i d b;split at h;cases h;rename_i j i;split at h;rename_i a;cases h;simp[Bt]at a;exact⟨f,d,g,b,i,a.1.1,a.1.2,a.2⟩;cases h
def OU.SN{a c o f d}(h:OU a c o f d):Bi a o=(CJ c (Bi a o)).length:=by have:=h.pop;simp[Fg,Bt,D1]at this;rw[MV oG]
def OU.at_{a c o f d}(h:OU a c o f d){i}(b:i<Bi a o):(CJ c (Bi a o))[i]? =some ((CJ c (Bi a o)).getD i AO):=Wm (by rw[<-h.SN];exact b)
def Nh.up{I J a b c p}(S:Nh I a b c p)(hle:I.le J):Nh J a b c p:=⟨S.tab.up hle,S.pow.up hle,S.img.up hle,S.ok,S.len,S.FH.up hle,S.Aa,S.vars⟩
def Zz{I b g c p}(S:Nh I b g c p){k a f d}(h:OU b c ⟨k,a⟩ f d)(i j):Fn 152 [.p 1 0] [(1,(XL b g c p i j k a).blk)] I (TM I (XL b g c p i j k a) (ER b c ⟨k,a⟩) (Bi b ⟨k,a⟩) (CJ c (Bi b ⟨k,a⟩))) none:=by have hlen:=S.ok.code d (Cv h.Eb);have m:=(B6.1 h.op).1;refine ANv I S.tab b g (XL b g c p i j k a) f ⟨k,a⟩ S.img rfl rfl rfl rfl rfl rfl rfl rfl h.top oG (ALL I S.tab b g ⟨k,a⟩ S.img h.right ?_ (λf l=>by have:=S.ok.args f l;omega)) h.pop S.len S.FH;intro e;have e:k=17:=e;have:=h.SJ;subst e;simpa[G1,Bn]using this
section
variable {F:FuncId} {d:Func} {n:Nat} {I:AB} {w:World} {ρ:Nat->Nat} {A:List Nat} {R:Dl} {f:BU}
def AAF{g m c tn o}(k)(h:Fn 152 [.p 1 0] [(1,m.blk)] g (TM g m c tn o) none)(e:Ci f n 152 [(1,k)] [(1,m.blk)] [1]=some (Bz (AT [(1,k)]) [.p 1 0],[some (m.blk.Am (AT [(1,k)]))],g))
 (hnext:∀(J:AB)(q:CN)(ta:AK Ac)(tc:Nat)(i:AA AE)(b:Nat)(fl a:AA AE),g.le J->Aj J Ey 5 c.stack q.sa q.sc q.sl->Aj J Pb 3 c.tries q.ta q.tc q.tl->EY J c b fl a->EE J o ta tc i->
   At F d n I w ρ A R (f.out (AT [(1,k)]) {r:=.t [],upd:=[(1,({m with c:=c,p:=q,ta:=ta,tn:=tn,tc:=tc}:BV).JO (Cw f) b)],nb:=[.Aa (fl++a) 65],J:=J})):At F d n I w ρ A R f:=
 Ag h [(1,k)] [1] e (λ_ h j y l=>by
  obtain⟨J,q,ta,tc,i,b,fl,a,_,_,_,_,_,rfl⟩:=j;rw[AP.1 l];exact AP.2 rfl) λh j=>by
  obtain⟨J,q,ta,tc,i,b,fl,a,s,t,u,v,x,rfl⟩:=j;exact hnext J q ta tc i b fl a s t u v x
def AAJ{ι:Type}{args:List SV}{I':AB}{G:FuncId}{m:AG}{S:ι->BV}{Q:AB->ι->Prop}(k:Nat)(h:Fn G args [(1,m)] I' (TR I' S Q) none)(a:Ci f n G [(1,k)] [(1,m)] [1]=some (Bz (AT [(1,k)]) args,[some (m.Am (AT [(1,k)]))],I'))(hnext: ∀x J,I'.le J->Q J x->At F d n I w ρ A R (f.out (AT [(1,k)]) {r:=.t [],upd:=[(1,(S x).blk)],J:=J})):At F d n I w ρ A R f:=
 Ag h [(1,k)] [1] a (λ_ h b kb c=>by obtain⟨x,J,rfl,_⟩:=b;rw[List.mem_singleton.1 c];exact List.mem_singleton.2 rfl) λh b=>by obtain⟨x,J,rfl,hle,q⟩:=b;exact hnext x J hle q
end
def begun{J K:AB}{c:Ae}{q:CN}{e b fl a}(g:Aj J Ey 5 c.stack q.sa q.sc q.sl)(i:Aj J Pb 3 c.tries q.ta q.tc q.tl)(j:EY J c e fl a)(hle:J.le K)(k:K b=some (.cells (fl++a).toArray 65 (0,0))):CH K c {q with fa:=some ⟨b,0,none⟩,fc:=e,fl:=fl}:=
 ⟨(j.up hle).BW k,g.up hle λ_ _ h=>h,i.up hle λ_ _ h=>h⟩
def AE8(a c o):(ER a c o).stack.length<=c.stack.length/\(ER a c o).AF.length=c.AF.length/\(ER a c o).tries.length=c.tries.length:=by simp[ER,Da,Ev]
def AE9{im c f}(h:c.top=some f){o}:(ER im c o).top=some {f with pc:=f.pc+1}:=by have a:=QV (l:=c.AF) (x:=f) h;show(c.AF.modify (c.AF.length-1) _).getLast?=_;rw[NT,Mg,Pm,a];simp
section
variable {F:FuncId} {d:Func} {n:Nat} {I:AB} {w:World} {ρ:Nat->Nat} {A:List Nat} {R:Dl} {f:BU}
def AOV{l m b o s G g}(j k)(h:Fn G g (IU m b s) l (Mm l m b o) none)(i:Ci f n G [(1,j),(2,k)] (IU m b s) [1,2]=some (Bz (AT [(1,j),(2,k)]) g,(IU m b s).map (λt=>some (t.2.Am (AT [(1,j),(2,k)]))),l))
 (hnext:∀(J:AB)(fl a:AA AE),l.le J->EY J o b fl a->At F d n I w ρ A R (f.out (AT [(1,j),(2,k)]) {r:=.t [],upd:=[(1,({m with c:=o}:BV).JO 2 b),(2,.Aa (fl++a) 65)],J:=J})):At F d n I w ρ A R f:=
 Ag h [(1,j),(2,k)] [1,2] i (λ_ h p t q=>by obtain⟨J,fl,a,_,_,rfl⟩:=p;rcases BD.1 q with e|e;rw[e];simp;rw[AP.1 e];simp) λh p=>by obtain⟨J,fl,a,u,v,rfl⟩:=p;exact hnext J fl a u v
end
section
abbrev AND(I:AB)(im:Ak)(d:CY)(c:Ae)(p:CN)(a b:Nat)(r:Ae×Lz.Out):Prop:=Fn 102 [.g (De im d),.g (Cj c p),.v (.int .i64 a),.v (.int .i64 b)] [] I (Vn I r) none
variable {I:AB} {im:Ak} {d:CY} {c:Ae} {p:CN}
def Nh.ops{k a f n q l m r}(S:Nh I im d c p)(hF:OU im c ⟨k,a⟩ f n)(b:CH I (ER im c ⟨k,a⟩) q)(j:EE I (CJ c (Bi im ⟨k,a⟩)) l m r)(o s):Fs I im (XM im d c p o s k a (ER im c ⟨k,a⟩) q l (Bi im ⟨k,a⟩) m) {f with pc:=f.pc+1} (CJ c (Bi im ⟨k,a⟩)):=by have i:=AE8 im c ⟨k,a⟩;have g:=S.len;refine⟨S.pow,⟨_,S.img.k⟩,rfl,⟨_,S.img.u⟩,rfl,b,AE9 hF.top,⟨_,j⟩,hF.SN,λv h=>S.Aa v (Kw h),CB i.1 g.s,i.2.1▸g.f,i.2.2▸g.t,hF.SJ,hF.SN.symm,λh=> ?_⟩;have h:k=17:=h;subst h;have e:a<im.Ad.length:=JY hF.SJ;have h:=S.ok.args _ (DF e);rw[<-hF.SN];show 0+(im.Ad.getD a Af).args<=1000;rw[Cz,A9 e];show 0+im.Ad[a].args<=1000;omega
def AVF{k a f x q m n e o fl b}(S:Nh I im d c p)(hF:OU im c ⟨k,a⟩ f x)(l:EE I (CJ c (Bi im ⟨k,a⟩)) m n o)(g:EY I (ER im c ⟨k,a⟩) e fl b)(s r)
 (h:k=3\/k=15\/k=44\/k=16/\((CJ c (Bi im ⟨k,a⟩)).getD 0 AO).kind=1/\((CJ c (Bi im ⟨k,a⟩)).getD 0 AO).n≠0):
 ∃t,Fh im (ER im c ⟨k,a⟩) ⟨k,a⟩ (CJ c (Bi im ⟨k,a⟩)) r=.inl (Da (ER im c ⟨k,a⟩) t)/\Fn (stepG k) [.p 1 0] (IU (XM im d c p s r k a (ER im c ⟨k,a⟩) q m (Bi im ⟨k,a⟩) n) e (fl++b)) I (Mm I (XM im d c p s r k a (ER im c ⟨k,a⟩) q m (Bi im ⟨k,a⟩) n) e (Da (ER im c ⟨k,a⟩) t)) none:=by
 have z:=AE8 im c ⟨k,a⟩;have y:=S.len;have i:=AE9 (im:=im) hF.top (o:=⟨k,a⟩);have j:(ER im c ⟨k,a⟩).AF.length<=1000000:=by have:=y.f;omega
 have w:=λh=>hF.at_ (i:=0) h;rcases h with rfl|rfl|rfl|⟨rfl,u,v⟩;exact⟨_,rfl,AXt I _ e fl b {f with pc:=f.pc+1} _ o _ l hF.SN (w (JY rfl)) i (JY hF.SJ) (S.vars f (Yx hF.top)) g j⟩;exact⟨_,rfl,AHn I _ e fl b {f with pc:=f.pc+1} i g j⟩;exact⟨_,rfl,ATH I _ e fl b {f with pc:=f.pc+1} i g j (by have:a<=65535:=(Qi hF.right).2.2 (by show Bn 44≠0;decide);show a<=_;omega)⟩;exact⟨_,(AW u).trans (AW v),ASK I _ e fl b {f with pc:=f.pc+1} _ o _ l hF.SN (w (JY rfl)) u v i g j⟩
def AXl(S:Nh I im d c p)(m tr):AND I im d c p m tr (ET im c m tr):=by
 have H:=AQX I S.tab im d c p S.img S.ok S.len S.FH;unfold JH at H;refine fo func102 (EK λq=>AK9 _ q) λρ x w ab=>gG ?_;cases l:Hy im c with
 |none=>
  rw[l]at H;rw[show ET im c m tr=(c,.failed (whole (-6))) by unfold ET;rw[l]];exact CK H kR λ_ J hle _=>gG<|call (Ss J (-6)) kR<|gG<|dn [] ⟨p,J,rfl,hle,S.FH.up hle⟩
 |some o=>
  rw[l]at H;let⟨f,fn,hF⟩:=AQY l;have W:=(Qi hF.right).1;let⟨k,a⟩:=o;obtain⟨r,F⟩:∃r,r=Fh im (ER im c ⟨k,a⟩) ⟨k,a⟩ (CJ c (Bi im ⟨k,a⟩)) tr:=⟨_,rfl⟩;rw[show ET im c m tr=if asks k then(c,.asked ⟨k,a⟩)else if k=18 then(if(Di c).AF.length<=m then(Di c,.ended ((CJ c 1).getD 0 AO))else(Ce (Di c) ((CJ c 1).getD 0 AO),.Ic))else match r with| .inl u=>(u,.Ic)| .inr e=>D4 c e tr by unfold ET;rw[l,F];rfl];simp only at W;refine CK H kR λ_ J hle _=> ?_;replace S:=S.up hle;refine gg [(29,M1 J #[3,3] m 0 m oG),(31,M1 J #[3,3] tr 0 tr oG)]<|AOY (I':=J) (m:=XL im d c p m tr k a) 284 kR ?_;cases Y:asks k with
  |true=>
   rw[AW rfl];have hk:k=25\/k=26\/k=27\/k=28\/k=29\/k=30\/k=32\/k=33\/k=34\/k=35\/k=36\/k=37\/k=38\/k=39\/k=40\/k=41\/k=42\/k=43\/k=45\/k=46:=by simpa[asks]using Y
   rcases hk with rfl|rfl|rfl|rfl|rfl|rfl|rfl|rfl|rfl|rfl|rfl|rfl|rfl|rfl|rfl|rfl|rfl|rfl|rfl|rfl<;>
   .exact gG<|dn [] ⟨p,J,rfl,hle,S.FH⟩
  |false=>
   rw[AN ADi];by_cases y:k=18;rw[AW y];subst y;refine gG<|AAF 284 (Zz S hF m tr) kR λO q ta tc tl D fl n i R T A B=>go func102 [] 1 kR<|BW 404 O (vs:=fl++n) (e:=65) kR λb K g _ P=>gG ?_;have x:=AU1 (I:=K) (XM im d c p m tr 18 a (ER im c ⟨18,a⟩) {q with fa:=some ⟨b,0,none⟩,fc:=D,fl:=fl} ta (Bi im ⟨18,a⟩) tc) f hF.top hF.pop S.len (S.FH.up (i.trans g));by_cases Q:(Di c).AF.length<=m;rw[AW Q];rw[AKF Q]at x;exact AAJ 284 x kR λq3 C j s=>gG<|dn [] ⟨q3,C,rfl,hle.trans (i.trans (g.trans j)),s⟩;rw[AN Q];rw[AKE Q]at x;exact AAJ 284 x kR λq3 C j s=>gG<|dn [] ⟨q3,C,rfl,hle.trans (i.trans (g.trans j)),s⟩;rw[AN y];by_cases E:k=3\/k=15\/k=44\/k=16/\((CJ c (Bi im ⟨k,a⟩)).getD 0 AO).kind=1/\((CJ c (Bi im ⟨k,a⟩)).getD 0 AO).n≠0;have Z:=E;rcases E with rfl|rfl|rfl|⟨rfl,_⟩<;>
   .refine gG<|AAF 284 (Zz S hF m tr) kR λO q ta tc tl D fl n i R T A B=> ?_;let⟨t,e',hk⟩:=AVF (q:=q) (S.up i) hF B A m tr Z;rw[<-F]at e';cases e';refine gG<|AOV 284 404 hk kR λC U G j X=>go func102 [] 1 kR<|BW 404 C (vs:=U++G) (e:=65) kR λb K g _ P=> ?_;have L:=begun (c:=Da (ER im c _) t) (R.up j λ_ _ h=>h) (T.up j λ_ _ h=>h) X g P;exact gG<|dn [] ⟨_,K,rfl,hle.trans (i.trans (j.trans g)),L⟩
   have h3:k≠3/\k≠15/\k≠44:=⟨λh=>E (.inl h),λh=>E (.inr (.inl h)),λh=>E (.inr (.inr (.inl h)))⟩;have hm:k∈[1,2,4,5,6,7,8,9,10,11,12,13,14,16,17,19,20,21,22,23,24,31,47]:=by have:=Df.1 (show(List.range 48).all (λk=>k==0||asks k||[3,15,18,44].contains k||[1,2,4,5,6,7,8,9,10,11,12,13,14,16,17,19,20,21,22,23,24,31,47].contains k)=true from dC) k (NV.2 oG);simp[Y]at this⊢;omega
   have V:k=16->¬(((CJ c (Bi im ⟨k,a⟩)).getD 0 AO).kind=1/\((CJ c (Bi im ⟨k,a⟩)).getD 0 AO).n≠0):=λh q=>E (.inr (.inr (.inr ⟨h,q⟩)));have N:=hm;simp[mS]at N;rcases N with rfl|rfl|rfl|rfl|rfl|rfl|rfl|rfl|rfl|rfl|rfl|rfl|rfl|rfl|rfl|rfl|rfl|rfl|rfl|rfl|rfl|rfl|rfl<;>
   .refine gG<|AAF 284 (Zz S hF m tr) kR λO q ta tc tl D fl n i R T A B=>go func102 [] 1 kR<|BW 404 O (vs:=fl++n) (e:=65) kR λb K g _ P=> ?_;have hk:=ops ((S.up (i.trans g)).ops hF (begun R T A g P) (B.up g λ_ _ h=>h) m tr) hm V;replace hk:=F▸hk;refine gG<|AAJ 284 hk kR λq3 C j s=> ?_;cases r with
    |inl u=>
     exact gG<|dn [] ⟨q3,C,rfl,hle.trans (i.trans (g.trans j)),s _ rfl⟩
    |inr e=>
     have F:=AJx C c p e tr S.len (S.FH.up (i.trans (g.trans j)));show At _ _ _ _ _ _ _ (Ends _ _ _ _ (Vn I (D4 c e tr)) none) _;refine gG ?_;generalize D4 c e tr=z at F⊢;refine CK F kR λq4 J4 M aa=> ?_;obtain⟨u,_|v|v|o⟩:=z<;>
     .exact gG<|dn [] ⟨q4,J4,rfl,hle.trans (i.trans (g.trans (j.trans M))),aa⟩
end
def JU(w:Wt):AA AE:=[.string (AR w.id),.bool w.put,.int .i64 w.v.kind,.int .i64 w.v.n,.string (AR w.v.name),.string (str w.v.l.1),.string (str w.v.l.2)]
def Yf(w:Wt):SV:=.g ((JU w).map .v)
def VJ(w:Wt)(l:AA AE):Prop:=l=JU w
def Kt(w l)(h:VJ w l):l.length=7:=by rw[h];rfl
def Uf{c l}(h:Rows VJ c l):∀v∈l,v.oneCell':=by rw[Rows.flat.1 h];intro v b;let⟨x,_,a⟩:=KG.1 b;simp[JU]at a;rcases a with rfl|rfl|rfl|rfl|rfl|rfl|rfl<;>rfl
abbrev Lv(I:AB)(d:AA Wt)(a:AK Ac)(c:Nat)(b:AA AE):Prop:=Aj I VJ 7 d a c b
def AVw(I x):Fn 355 [Yf x] [] I (A1 (.v (.bool x.put)) I) none:=fo func355 (BZ rfl) λc b w a=>gG<|fi
def AYB(I x):Fn 356 [Yf x] [] I (A1 (.v (.bool (!x.put))) I) none:=fo func356 (BZ rfl) λc b w a=>gG<|fi
abbrev UC(n:Nm):AG:=.cells [.v (.string (AR n))] 9
def Z0{a b}(c:Bg a)(d:Bg b):((str (Cr a)).toList==(str (Cr b)).toList)=(a==b):=by rw[IB,IB];by_cases h:a=b;rw[h];simp;rw[OR.2 (λe=>h (N3 c d e)),OR.2 h]
def ARO(I x n)(e:Bg x.id)(d:Bg n):Fn 194 [Yf x,.p 2 0] [(2,UC n)] I (A1 (.v (.bool (x.id==n))) I) none:=by refine Fn.same (need:=[(2,UC n)]) ?_ rfl;refine fo func194 (VE (r:=.v (.bool (x.id==n))) (by intro k a;cases a) (by intro g b k a;rw[AP.1 b]at a;simp[AG.keys,Ax,SV.keys]at a) sP) λh f w c=> ?_;exact gg [(7,.eq _ _ (El Value.bool (Z0 e d)))]<|dn [] rfl
def ixI:AK Nat->Int
 |none=> -1
 |some i=>i
def AAx{P}{l:AA Wt}{i x}(e:l[i]? =some x)(d:P x)(b:∀(j:Nat)(y:Wt),j<i->l[j]? =some y->P y=false):l.findIdx? P=some i:=by rw[Ku];obtain⟨a,rfl⟩:=B6.1 e;exact⟨a,d,λj c=>by rw[b j _ c (A9 oG)];decide⟩
def AAy{P}{l:AA Wt}(a:∀(j:Nat)(y:Wt),l[j]? =some y->P y=false):l.findIdx? P=none:=by rw[Yp];intro x c;let⟨j,b⟩:=Yq c;exact a j x b
def AGr(I:AB)(a:SV)(m:Nat)(i:Nat):Hd where
 By:=[(1,.v (.func (.func 355) #[] #[])),(4,.v (.int .i64 0)),(7,a),(8,.v (.int .i64 (m:Int))),(9,.v (.int .i64 (i:Int)))]
 Bu:=[]
 J:=I
def AQV(I)(d:AA Wt)(a)(c:Nat)(f)(h:Lv I d a c f)(z:d.length<=1000000):Fn 193 [.v (.slice a d.length c),.v (.func (.func 355) #[] #[])] [] I (A1 (.v (.int .i64 (ixI (d.findIdx? λw=>w.put)))) I) none:=by
 refine fo func193 (BZ rfl) λA s w q=> ?_;refine gG<|loop (ι:=Nat) (λi=>i<=d.length/\∀(j:Nat)(y:Wt),j<i->d[j]? =some y->(λw=>w.put) y=false) (λi=>d.length-i) (AGr I (.v (.slice a d.length c)) d.length) 300 [] 0 ⟨BS _,λj y p=>absurd p oG⟩ kR kR ?_;rintro i ⟨v,o⟩ again T;by_cases l:i<d.length;have n:d[i]? =some d[i]:=A9 l;generalize d[i]=x at n;obtain⟨b,g,arr,e,u,t,rfl,q2,q3,q4,q5⟩:=h.cell Kt n;subst q3;refine gg [(10,hT ((i:Int)<(d.length:Int)) oG),(12,BM I Rm b g d.length c i l),(13,DR I ACh (g+i*7) (JU x) rfl q2 q5)]<|call (AVw I x) kR ?_;cases m:(λw=>w.put) x with
 |true=>
  rw[AAx n m o];rw[show(x.put)=true from m];exact gG<|fi
 |false=>
  rw[show(x.put)=false from m];exact gg [(18,hW ((i:Int)+1) ((i+1:Nat):Int) oG oG)]<|back [] (AGr I (.v (.slice (some ⟨b,g,none⟩) d.length c)) d.length (i+1)) 300 kR kR kR λr=>again (i+1) ⟨oG,λj y p k=>by by_cases e:j=i;subst e;rw[n]at k;cases k;exact m;exact o j y oG k⟩ oG r
 rw[AAy (P:=λw=>w.put) λj y k=>o j y (by have:=(B6.1 k).1;omega) k];exact gg [(10,hF ((i:Int)<(d.length:Int)) oG)]<|fi
def AGu(I:AB)(a:SV)(m:Nat)(i:Nat):Hd where
 By:=[(1,.v (.func (.func 356) #[] #[])),(4,.v (.int .i64 0)),(7,a),(8,.v (.int .i64 (m:Int))),(9,.v (.int .i64 (i:Int)))]
 Bu:=[]
 J:=I
def AQW(I)(d:AA Wt)(a)(c:Nat)(f)(h:Lv I d a c f)(z:d.length<=1000000):Fn 193 [.v (.slice a d.length c),.v (.func (.func 356) #[] #[])] [] I (A1 (.v (.int .i64 (ixI (d.findIdx? λw=> !w.put)))) I) none:=by
 refine fo func193 (BZ rfl) λA s w q=> ?_;refine gG<|loop (ι:=Nat) (λi=>i<=d.length/\∀(j:Nat)(y:Wt),j<i->d[j]? =some y->(λw=> !w.put) y=false) (λi=>d.length-i) (AGu I (.v (.slice a d.length c)) d.length) 300 [] 0 ⟨BS _,λj y p=>absurd p oG⟩ kR kR ?_;rintro i ⟨v,o⟩ again T;by_cases l:i<d.length;have n:d[i]? =some d[i]:=A9 l;generalize d[i]=x at n;obtain⟨b,g,arr,e,u,t,rfl,q2,q3,q4,q5⟩:=h.cell Kt n;subst q3;refine gg [(10,hT ((i:Int)<(d.length:Int)) oG),(12,BM I Rm b g d.length c i l),(13,DR I ACh (g+i*7) (JU x) rfl q2 q5)]<|call (AYB I x) kR ?_;cases m:(λw=> !w.put) x with
 |true=>
  rw[AAx n m o];rw[show(!x.put)=true from m];exact gG<|fi
 |false=>
  rw[show(!x.put)=false from m];exact gg [(18,hW ((i:Int)+1) ((i+1:Nat):Int) oG oG)]<|back [] (AGu I (.v (.slice (some ⟨b,g,none⟩) d.length c)) d.length (i+1)) 300 kR kR kR λr=>again (i+1) ⟨oG,λj y p k=>by by_cases e:j=i;subst e;rw[n]at k;cases k;exact m;exact o j y oG k⟩ oG r
 rw[AAy (P:=λw=> !w.put) λj y k=>o j y (by have:=(B6.1 k).1;omega) k];exact gg [(10,hF ((i:Int)<(d.length:Int)) oG)]<|fi
def AGk(I:AB)(n:Nm)(a:SV)(m:Nat)(i:Nat):Hd where
 By:=[(1,.fn (.func 194) [] [.p 2 0]),(4,.v (.int .i64 0)),(7,a),(8,.v (.int .i64 (m:Int))),(9,.v (.int .i64 (i:Int)))]
 Bu:=[(2,UC n)]
 J:=I
def AQU(I)(d:AA Wt)(a)(c:Nat)(f n)(z:Bg n)(hid:∀x∈d,Bg x.id)(h:Lv I d a c f)(E:d.length<=1000000):Fn 193 [.v (.slice a d.length c),.fn (.func 194) [] [.p 2 0]] [(2,UC n)] I (Nc I [(2,UC n)] (.v (.int .i64 (ixI (d.findIdx? λw=>w.id==n))))) none:=by
 refine fo func193 (VE (by intro k p;cases p) (by intro F s k p;rw[AP.1 s]at p;simp[AG.keys,Ax,SV.keys]at p) sP) λG A w u=> ?_;refine gG<|loop (ι:=Nat) (λi=>i<=d.length/\∀(j:Nat)(y:Wt),j<i->d[j]? =some y->(λw=>w.id==n) y=false) (λi=>d.length-i) (AGk I n (.v (.slice a d.length c)) d.length) 300 [] 0 ⟨BS _,λj y t=>absurd t oG⟩ kR kR ?_;rintro i ⟨D,r⟩ again T;by_cases m:i<d.length;have o:d[i]? =some d[i]:=A9 m;generalize d[i]=x at o;obtain⟨b,g,arr,e,C,B,rfl,q2,q3,q4,q5⟩:=h.cell Kt o;subst q3;refine gg [(10,hT ((i:Int)<(d.length:Int)) oG),(12,BM I Rm b g d.length c i m),(13,DR I ACh (g+i*7) (JU x) rfl q2 q5)]<|P7 (ARO I x n (hid x (Cv o)) z) [(2,2)] kR ?_;cases q:(λw=>w.id==n) x with
 |true=>
  rw[AAx o q r];rw[show(x.id==n)=true from q];exact gG<|dn [] rfl
 |false=>
  rw[show(x.id==n)=false from q];exact gg [(18,hW ((i:Int)+1) ((i+1:Nat):Int) oG oG)]<|back [] (AGk I n (.v (.slice (some ⟨b,g,none⟩) d.length c)) d.length (i+1)) 300 kR kR kR λv=>again (i+1) ⟨oG,λj y t l=>by by_cases e:j=i;subst e;rw[o]at l;cases l;exact q;exact r j y oG l⟩ oG v
 rw[AAy (P:=λw=>w.id==n) λj y l=>r j y (by have:=(B6.1 l).1;omega) l];exact gg [(10,hF ((i:Int)<(d.length:Int)) oG)]<|dn [] rfl
def Vi(I:AB)(b:AA AE)(a i d:Nat):Nat->AU->Prop:=λ_ h=>∃rest:AA AE,rest.length=b.length-(i+d)*7/\h= {r:=.s 1 0 (i+d) a,upd:=[(1,.Aa (b.take (i*7)++(b.drop ((i+1)*7)).take (d*7)++rest) 261)],J:=I}
def AZV{I j c i d}:CO (Vi I j c i d) [(1,.Aa j 261)] I:=by refine⟨?_⟩;rintro m h ⟨rest,_,rfl⟩;refine⟨⟨(λk a=>.inl (by simp[SV.keys]at a;simp[a])),λo e=> ?_,nA,sP,sP⟩,AB.le_refl _⟩;rw[AP.1 e];exact⟨sP,nA⟩
def APY(I e)(a i d:Nat)(m:e.length=a*7)(Q:∀v∈e.take ((i+1+d)*7),v.oneCell')(t:i+1+d<=a)(D:a<=maxLen):
 Fn 276 [.s 1 0 (i+1+d) a,.v (.int .i64 (Int.ofNat i)),.v (.int .i64 (Int.ofNat (i+1)))] [(1,.Aa e 261)] I (Vi I e a i d) none:=by
 unfold maxLen at D;refine fo func276 AZV λρ T w O=> ?_;have H:=ATf A6 (L:=lay) (t:=83) (a:=8) (b:=9) (b2:=10) (b3:=12) (k:=1) (n:=i+1+d) (c:=a) (i:=i) (j:=i+1) (m:=i+1+d) (e:=261) (ty:=⟨7,_,_⟩) (I:=I) rfl rfl oG oG t;have L:=AIg A6 (L:=lay) (t:=83) (a:=20) (b:=21) (k:=1) (n:=i+1+d) (c:=a) (i:=i) (e:=261) (ty:=⟨7,_,_⟩) (I:=I) rfl rfl oG;have B:=AId A6 (L:=lay) (t:=83) (a:=23) (b:=24) (k:=1) (n:=i+1+d) (c:=a) (i:=i+1) (e:=261) (ty:=⟨7,_,_⟩) (I:=I) rfl rfl oG;rw[show i+1+d-(i+1)=d by omega]at B;obtain⟨s,y⟩:∃s,s=if a=i+1 then 0 else(i+1)*7:=⟨_,rfl⟩;rw[<-y]at B;have C:(e.drop s).take (d*7)=(e.drop ((i+1)*7)).take (d*7):=by by_cases h:a=i+1;have:d=0:=oG;subst this;simp;rw[y,AN h]
 refine gg [(13,.hand _ _ [] I _ H),(16,hN (Int.ofNat i) (Int.ofNat (i+1)) sO),(22,.hand _ _ [] I _ L),(25,.hand _ _ [] I _ B)] ?_;refine act (need:=[(1,.Aa e 261)]) [1] kR (ANZ (I:=I) A6 (n:=i) (m:=d) (cap:=a) (k:=1) (vs:=e) (news:=(e.drop ((i+1)*7)).take (d*7)) (x:=.s 1 s d (a-(i+1))) Tc kR DX m (AWF DX C (by rw[CX,KF,m];omega) (λv P=>Q v (by rw[show d*7=(i+1+d)*7-(i+1)*7 by omega,<-ADq]at P;exact Kw P))) oG) (λN S M j=> ?_) ?_ ?_;subst S;rw[AP.1 j];exact AP.2 rfl;rintro h rfl;refine{r:=(λk x=>by simp[SV.keys]at x;simp[x]),u:=λM j=> ?_,n:=nA,l:=by simp,le:=AB.Fa _,d:=by simp};rw[AP.1 j];exact⟨AP.2 rfl,λb z=>by rw[(GY (AP.1 z)).2];rfl,nA⟩;rintro N rfl;have E:=ATe A6 (L:=lay) (t:=83) (a:=27) (b:=29) (b2:=30) (k:=1) (n:=i+d) (c:=a) (i:=i+d) (j:=i+1+d) (e:=261) (ty:=⟨7,_,_⟩) (I:=I) rfl rfl oG t;rw[AN oG,show i+1+d-(i+d)=1 by omega]at E;obtain⟨c,p⟩:∃c,c=e.take (i*7)++(e.drop ((i+1)*7)).take (d*7)++e.drop (i*7+d*7):=⟨_,rfl⟩;rw[<-p];have o:(e.take (i*7)++(e.drop ((i+1)*7)).take (d*7)).length=(i+d)*7:=by rw[Bc,CX,CX,KF,m];omega
 have G:c.length=e.length:=by rw[p,Bc,o,KF,m];omega
 refine gg [(31,.hand _ _ [] I _ E)] ?_;refine act (need:=[(1,.Aa c 261)]) [1] kR (AHS (I:=I) A6 (L:=lay) (t:=83) (k:=1) (off:=(i+d)*7) (n:=1) (c:=a-(i+d)) (x:=.tmp 31) (vs:=c) (e:=261) (e':=261) (ty:=⟨7,_,_⟩) kR kR rfl rfl (by decide+kernel) rfl dC (by rw[G,m];show(i+d)*7+1*7<=_;omega) (AP.2 rfl)) ?_ ?_ ?_;rintro h ⟨q,_,_,rfl⟩ M j;rw[AP.1 j];exact AP.2 rfl;rintro h ⟨q,_,_,rfl⟩;refine{r:=nA,u:=λM j=> ?_,n:=nA,l:=by simp,le:=AB.Fa _,d:=by simp};rw[AP.1 j];exact⟨AP.2 rfl,λb z=>by rw[(GY (AP.1 z)).2];rfl,nA⟩;rintro N ⟨q,K,_,rfl⟩;refine gG<|dn [] ⟨q++c.drop ((i+d)*7+q.length),?_,?_⟩ (h:={r:=.s 1 0 (i+d) a,upd:=[(1,.Aa (splice c ((i+d)*7) q) 261)],J:=I});have:q.length=1*7:=K;rw[Bc,KF,G,m,this];omega;have:splice c ((i+d)*7) q=e.take (i*7)++(e.drop ((i+1)*7)).take (d*7)++(q++c.drop ((i+d)*7+q.length)):=by unfold splice;rw[p,<-o,RA,Dk]
 rw[this]
def AFw(I)(ad)(n c)(xs)(hc:n<=16777216)(h:Ch I 7 (some ad) n xs):Fn 134 [.v (.slice (some ad) n c)] [] I (RS I 7 n 261 xs) none:=by refine Iv 8 Tryz.func134 Tryz.ntmps134 rfl rfl kR YZ λρ key w b=>gg [(4,.op I _ (.v (.bool false)) (Ka (a:=some ad) (n:=n) (c:=c) (.tmp 3) (.const (.slice none 0 0)) YP))]<|act (need:=[(124,.Aa [] 261)]) [124] kR (JC A6 (n:=0) (cap:=0) (vs:=[]) (olds:=[]) (x:=.v (.slice (some ad) n c)) Tc kR sP rfl rfl sP (h.reads (c:=c)) (AZ _) (by unfold maxLen;omega) oG) ?_ (Oa (.inr ⟨_,_,_,rfl,rfl⟩)) ?_;rintro h ⟨cap,AC,_,_,_,rfl⟩ kb a;rw[AP.1 a];exact AP.2 rfl;rintro h' ⟨cap,AC,h1,d,e,rfl⟩;refine gG ?_;exact dn [140] ⟨cap,AC,oG,d,by rw[e];simp,sP⟩ (h:={r:=.s (key+0) 0 (0+n) cap,nb:=[.Aa (xs++AC) 261],J:=I})
def AOs(I c):Fn 134 [.v (.slice none 0 c)] [] I (A1 (.v (.slice none 0 0)) I) none:=Iv 8 func134 ntmps134 rfl rfl kR (BZ rfl) λρ b w a=>gg [(4,.op I _ (.v (.bool true)) (Ka (a:=none) (n:=0) (c:=c) (.tmp 3) (.const (.slice none 0 0)) YP))]<|fi
structure Dp where
 a:AK Ac
 c:Nat
 l:AA AE
abbrev AEb(I:AB)(a:AA Wt)(n:Nat):Nat->AU->Prop:=Ft I (λq:Dp=>.v (.slice q.a n q.c)) (λJ q=>Lv J a q.a q.c q.l)
section
variable {F:FuncId} {g:Func} {n:Nat} {I:AB} {w:World} {ρ:Nat->Nat} {A:List Nat} {R:Dl} {f:BU}
def AOS{j b c i d a}(k)(h:Fn 276 a [(1,.Aa b 261)] j (Vi j b c i d) none)(e:Ci f n 276 [(1,k)] [(1,.Aa b 261)] [1]=some (Bz (AT [(1,k)]) a,[some ((AG.Aa b 261).Am (AT [(1,k)]))],j))
 (hnext:∀rest,rest.length=b.length-(i+d)*7->At F g n I w ρ A R (f.out (AT [(1,k)]) {r:=.s 1 0 (i+d) c,upd:=[(1,.Aa (b.take (i*7)++(b.drop ((i+1)*7)).take (d*7)++rest) 261)],J:=j})):At F g n I w ρ A R f:=
 Ag h [(1,k)] [1] e (λ_ h l p m=>by obtain⟨rest,_,rfl⟩:=l;rw[AP.1 m];exact AP.2 rfl) λh l=>by obtain⟨rest,o,rfl⟩:=l;exact hnext rest o
end
def ADZ(I)(l:AA Wt)(a)(c:Nat)(j)(i:Nat)(y:i<l.length)(N:l.length<=1000000)(h:Lv I l a c j):Fn 195 [.v (.slice a l.length c),.v (.int .i64 (i:Int))] [] I (AEb I (l.eraseIdx i) (l.length-1)) none:=by
 have G:l[i]? =some l[i]:=A9 y;obtain⟨b,t,arr,e,L,K,rfl,q2,q3,q4,q5⟩:=h.cell Kt G;obtain⟨d,x⟩:∃d,l.length=i+1+d:=⟨l.length-(i+1),oG⟩;have hlen:=h.rows.len Kt;refine fo func195 (EK λ_=>rfl) λρ H w z=>gG<|Nl (AFw I ⟨b,t,none⟩ l.length c j oG h.sl) kR λm k M u D=> ?_;have q:∀v∈(j++k).take (l.length*7),v.oneCell':=by rw[NZ hlen];exact Uf h.rows
 refine gg [(9,hW ((i:Int)+1) ((i+1:Nat):Int) oG oG)] ?_;have p:Fn 276 [.s 1 0 l.length m,.v (.int .i64 (Int.ofNat i)),.v (.int .i64 (Int.ofNat (i+1)))] [(1,.Aa (j++k) 261)] I (Vi I (j++k) m i d) none:=by rw[x];exact APY I (j++k) m i d (by rw[Bc,hlen,D];omega) (by rw[<-x];exact q) oG u
 refine AOS 116 p kR λrest O=>go func195 [] 2 kR ?_;have o:Rows VJ (l.eraseIdx i) (j.take (i*7)++(j.drop ((i+1)*7)).take (d*7)):=by rw[List.eraseIdx_eq_take_drop_succ];refine(h.rows.take Kt i).append ?_;have:=h.rows.drop Kt (i+1);rw[Lo (by rw[KF,hlen];omega)];exact this
 have B:(j++k).take (i*7)=j.take (i*7):=IJ oG;have C:((j++k).drop ((i+1)*7)).take (d*7)=(j.drop ((i+1)*7)).take (d*7):=by rw[S0 oG,IJ (by rw[KF];omega)]
 have s:(l.eraseIdx i).length=i+d:=by rw[Ys y];omega
 rw[B,C];refine BW 116 I (vs:=j.take (i*7)++(j.drop ((i+1)*7)).take (d*7)++rest) (e:=261) kR λb J hle _ E=>gG<|dn [] ⟨⟨some ⟨b,0,none⟩,m,_⟩,J,by rw[show l.length-1=i+d by omega],hle,Aj.JN E o Kt (Uf o) (by rw[s];show i+d<=m;omega) u⟩ (h:={r:=.v (.slice (some ⟨b,0,none⟩) (i+d) m),J:=J})
def AMQ(I l a c d x)(Q:l.length<=1000000)(h:Lv I l a c d):Fn 354 [.v (.slice a l.length c),Yf x] [] I (AEb I (l++[x]) (l.length+1)) none:=by
 have hlen:=h.rows.len Kt;have j:Rows VJ (l++[x]) (d++JU x):=h.rows.append (Rows.one rfl);have m:∀v∈JU x,v.oneCell':=by intro v C;simp[JU]at C;rcases C with rfl|rfl|rfl|rfl|rfl|rfl|rfl<;>rfl
 refine fo func354 (EK λ_=>rfl) λρ M w B=> ?_;cases a with
 |none=>
  have G:l.length=0:=h.sl.at_.elim id λ⟨b,N,arr,e,P,h,_⟩=>by cases h
  have s:l=[]:=Hm G;subst s;have u:d=[]:=h.rows;subst u;refine gG<|call (AOs I c) kR<|gG<|act (need:=[(140,.cells ((JU x).map .v) 261)]) [] kR (KU (I:=I) A6 (n:=0) (cap:=0) (m:=1) (a:=none) (l:=.v (.slice none 0 0)) (x:=.s 140 0 1 1) (olds:=[]) (news:=JU x) Tc kR rfl NG (D2 (e:=261) (AP.2 rfl) rfl m) (AZ _) oG (λ_=>rfl) oG) (λr y L o=> ?_) LD ?_;obtain⟨k,i,_,_,_,rfl⟩:=y;cases o;rintro r ⟨k,i,D,z,O,rfl⟩;exact go func354 [] 2 kR<|BW 148 I (vs:=[]++JU x++i) (e:=261) kR λb J hle _ t=>gG<|dn [] ⟨⟨some ⟨b,0,none⟩,k,_⟩,J,rfl,hle,Aj.JN t j Kt (Uf j) (by show 0+1<=k;omega) z⟩
 |some E=>
  refine gG<|Nl (AFw I E l.length c d oG h.sl) kR λk i s H K=>gG<|act (need:=[(124,.Aa (d++i) 261),(140,.cells ((JU x).map .v) 261)]) [124] kR (JC (I:=I) A6 (n:=l.length) (m:=1) (cap:=k) (k:=124) (vs:=d++i) (olds:=d) (news:=JU x) (x:=.s 140 0 1 1) Tc kR DX (by rw[Bc,hlen,K];omega) (NZ hlen) (Uf h.rows) (D2 (e:=261) sP rfl m) s H oG) (λr y L o=> ?_) (Oc rfl) ?_;obtain⟨k,i,_,_,_,rfl⟩:=y;rw[AP.1 o];exact AP.2 rfl;rintro r ⟨q,p,D,z,O,rfl⟩;exact go func354 [] 2 kR<|BW 148 I (vs:=d++JU x++p) (e:=261) kR λb J hle _ t=>gG<|dn [] ⟨⟨some ⟨b,0,none⟩,q,_⟩,J,rfl,hle,Aj.JN t j Kt (Uf j) (by rw[Bc];exact D) z⟩
def Ma(x:Vr)(q:Dp):SV:=.g [.v (.bool x.full),.v (.int .i64 x.v.kind),.v (.int .i64 x.v.n),.v (.string (AR x.v.name)),.v (.string (str x.v.l.1)),.v (.string (str x.v.l.2)),.v (.slice q.a x.q.length q.c)]
def Lu(I:AB)(x:Vr)(q:Dp):Prop:=Lv I x.q q.a q.c q.l
def Lu.up{I J x q}(h:Lu I x q)(hle:I.le J):Lu J x q:=Aj.up h hle λ_ _ h=>h
abbrev AEX(I:AB)(r:Vr×AK Val×Nm):Nat->AU->Prop:=Ft I (λq:Dp=>.t [Ma r.1 q,Cn (r.2.1.getD AO),.v (.bool r.2.1.isSome),.v (.string (AR r.2.2))]) (λJ q=>Lu J r.1 q)
def AZq{I r a}:CO (AEX I r) a I:=EK λ_=>rfl
def AX6(I)(x)(q)(id)(hl:x.q.length<=900000)(h:Lu I x q):Fn 309 [Ma x q,.v (.string (AR id))] [] I (AEX I (Gi x id)) none:=by
 let⟨full,v,ws⟩:=x;let⟨a,c,cells⟩:=q;have h:Lv I ws a c cells:=h;simp only at hl;have d:ws.length<=1000000:=oG;refine fo Tryz.func309 AZq λρ key w k=> ?_;cases full with
 |false=>
  have e:Gi ⟨false,v,ws⟩ id=(⟨false,v,ws++[⟨id,false,AO⟩]⟩,none,[]):=rfl;rw[e];refine gG<|CK (AMQ I ws a c cells ⟨id,false,AO⟩ d h) kR λq J hle g=>gG ?_;have el:(ws++[(⟨id,false,AO⟩:Wt)]).length=ws.length+1:=sP;refine dn [] ⟨q,J,by unfold Ma;simp only[el];rfl,hle,g⟩ (h:={r:=.t [.g [.v (.bool false),.v (.int .i64 v.kind),.v (.int .i64 v.n),.v (.string (AR v.name)),.v (.string (str v.l.1)),.v (.string (str v.l.2)),.v (.slice q.a (ws.length+1) q.c)],Cn AO,.v (.bool false),.v (.string (AR []))],J:=J})
 |true=>
  refine gG<|call (AQV I ws a c cells h d) kR ?_;cases f:ws.findIdx? (λw=>w.put)with
  |none=>
   have e:Gi ⟨true,v,ws⟩ id=(⟨false,AO,ws⟩,some v,[]):=by unfold Gi;simp only[ADk,Me,Gn];rw[show ws.findIdx? (·.put)=none from f]
   rw[e];refine gg [(27,hT ((-1:Int)<0) dC)]<|Iq (WH I a ws.length c cells oG h.sl) kR λn m J hle s1 s2 p=>gG<|dn [] ⟨⟨n,m,cells⟩,J,rfl,hle,⟨p,s1,s2,h.rows⟩⟩
  |some i=>
   have hi:i<ws.length:=(Ku.1 f).1;have e:Gi ⟨true,v,ws⟩ id=(⟨true,(ws.getD i Af).v,ws.eraseIdx i⟩,some v,(ws.getD i Af).id):=by unfold Gi;simp only[ADk,Me,Gn];rw[show ws.findIdx? (·.put)=some i from f]
   have l:ws[i]? =some (ws.getD i Af):=by rw[A9 hi,Cz,A9 hi];rfl
   rw[e];generalize ws.getD i Af=y at l;obtain⟨b,off,arr,el,fr,row,rfl,q2,q3,q4,q5⟩:=h.cell Kt l;subst q3;have o: ∀j u,(Au y.v)[j]? =some u->arr[off+i*7+2+j]? =some u:=λj u hj=>by have:=q5 (2+j) u (by rw[Nat.add_comm];exact hj);rw[<-Mj]at this;exact this
   have el:(ws.eraseIdx i).length=ws.length-1:=Ys hi;refine gg [(27,hF ((i:Int)<0) oG),(37,BM I Rm b off ws.length c i hi),(39,DR I MX (off+i*7+2) (Au y.v) rfl q2 o),(50,BM I Rm b off ws.length c i hi),(52,C9 I YQ rfl (off+i*7) _ q2 (q5 0 _ rfl))]<|CK (ADZ I ws (some ⟨b,off,none⟩) c cells i hi d h) kR λq J hle g=>gG ?_;refine dn [] ⟨q,J,by unfold Ma;simp only[el];rfl,hle,g⟩ (h:={r:=.t [.g [.v (.bool true),.v (.int .i64 y.v.kind),.v (.int .i64 y.v.n),.v (.string (AR y.v.name)),.v (.string (str y.v.l.1)),.v (.string (str y.v.l.2)),.v (.slice q.a (ws.length-1) q.c)],Cn v,.v (.bool true),.v (.string (AR y.id))],J:=J})
abbrev AET(I:AB)(r:Vr×Bool×Nm):Nat->AU->Prop:=Ft I (λq:Dp=>.t [Ma r.1 q,.v (.bool r.2.1),.v (.string (AR r.2.2))]) (λJ q=>Lu J r.1 q)
def AZi{I r a}:CO (AET I r) a I:=EK λ_=>rfl
def AVt(I x q f u)(t:x.q.length<=900000)(h:Lu I x q):Fn 311 [Ma x q,.v (.string (AR f)),Cn u] [] I (AET I (Hi x f u)) none:=by
 let⟨full,v,d⟩:=x;let⟨a,c,cells⟩:=q;have h:Lv I d a c cells:=h;simp only at t;have g:d.length<=1000000:=oG;refine fo func311 AZi λF z w o=> ?_;cases full with
 |true=>
  have e:Hi ⟨true,v,d⟩ f u=(⟨true,v,d++[⟨f,true,u⟩]⟩,false,[]):=rfl;rw[e];refine gG<|CK (AMQ I d a c cells ⟨f,true,u⟩ g h) kR λq J hle n=>gG ?_;have el:(d++[(⟨f,true,u⟩:Wt)]).length=d.length+1:=sP;refine dn [] ⟨q,J,by unfold Ma;simp[el],hle,n⟩ (h:={r:=.t [.g [.v (.bool true),.v (.int .i64 v.kind),.v (.int .i64 v.n),.v (.string (AR v.name)),.v (.string (str v.l.1)),.v (.string (str v.l.2)),.v (.slice q.a (d.length+1) q.c)],.v (.bool false),.v (.string (AR []))],J:=J})
 |false=>
  refine gG<|call (AQW I d a c cells h g) kR ?_;cases l:d.findIdx? (λw=> !w.put)with
  |none=>
   have e:Hi ⟨false,v,d⟩ f u=(⟨true,u,d⟩,true,[]):=by unfold Hi;simp[Me,Gn];rw[show d.findIdx? (λw=> !w.put)=none from l]
   rw[e];refine gg [(27,hT ((-1:Int)<0) dC)]<|Iq (WH I a d.length c cells oG h.sl) kR λs m J hle B C D=>gG<|dn [] ⟨⟨s,m,cells⟩,J,rfl,hle,⟨D,B,C,h.rows⟩⟩
  |some i=>
   have k:i<d.length:=(Ku.1 l).1;have e:Hi ⟨false,v,d⟩ f u=(⟨false,v,d.eraseIdx i⟩,true,(d.getD i Af).id):=by unfold Hi;simp[Me,Gn];rw[show d.findIdx? (λw=> !w.put)=some i from l]
   have p:d[i]? =some (d.getD i Af):=by rw[A9 k,Cz,A9 k];rfl
   rw[e];generalize d.getD i Af=y at p;obtain⟨b,j,arr,el,E,A,rfl,q2,q3,q4,q5⟩:=h.cell Kt p;subst q3;have el:(d.eraseIdx i).length=d.length-1:=Ys k;refine gg [(27,hF ((i:Int)<0) oG),(45,BM I Rm b j d.length c i k),(47,C9 I YQ rfl (j+i*7) _ q2 (q5 0 _ rfl))]<|CK (ADZ I d (some ⟨b,j,none⟩) c cells i k g h) kR λq J hle n=>gG ?_;refine dn [] ⟨q,J,by unfold Ma;simp[el],hle,n⟩ (h:={r:=.t [.g [.v (.bool false),.v (.int .i64 v.kind),.v (.int .i64 v.n),.v (.string (AR v.name)),.v (.string (str v.l.1)),.v (.string (str v.l.2)),.v (.slice q.a (d.length-1) q.c)],.v (.bool true),.v (.string (AR y.id))],J:=J})
abbrev AM6(I:AB)(r:Vr×Bool):Nat->AU->Prop:=Ft I (λq:Dp=>.t [Ma r.1 q,.v (.bool r.2)]) (λJ q=>Lu J r.1 q)
def AS8(I x q d)(o:Bg d)(hid:∀y∈x.q,Bg y.id)(n:x.q.length<=900000)(h:Lu I x q):Fn 144 [Ma x q,.v (.string (AR d))] [] I (AM6 I ((Jk x d).getD x,(Jk x d).isSome)) none:=by
 let⟨full,v,b⟩:=x;let⟨a,c,cells⟩:=q;have h:Lv I b a c cells:=h;simp only at n hid;have f:b.length<=1000000:=oG;refine fo func144 (EK λ_=>rfl) λA s w k=>gG<|Mp (AQU I b a c cells d o hid h f) rfl [(2,108)] kR ?_;cases g:b.findIdx? (λw=>w.id==d)with
 |none=>
  have e:Jk ⟨full,v,b⟩ d=none:=by unfold Jk;simp[g]
  rw[e];exact gg [(12,hT ((-1:Int)<0) dC)]<|Iq (WH I a b.length c cells oG h.sl) kR λl m J hle t u z=>gG<|dn [] ⟨⟨l,m,cells⟩,J,rfl,hle,⟨z,t,u,h.rows⟩⟩
 |some i=>
  have j:i<b.length:=(Ku.1 g).1;have e:Jk ⟨full,v,b⟩ d=some ⟨full,v,b.eraseIdx i⟩:=by unfold Jk;simp[g]
  have el:(b.eraseIdx i).length=b.length-1:=Ys j;rw[e];refine gg [(12,hF ((i:Int)<0) oG)]<|CK (ADZ I b a c cells i j f h) kR λq J hle p=>gG ?_;exact dn [] ⟨q,J,by unfold Ma;simp[Option.getD,Option.isSome,el],hle,p⟩ (h:={r:=.t [.g [.v (.bool full),.v (.int .i64 v.kind),.v (.int .i64 v.n),.v (.string (AR v.name)),.v (.string (str v.l.1)),.v (.string (str v.l.2)),.v (.slice q.a (b.length-1) q.c)],.v (.bool true)],J:=J})
def WE(p)(n)(hp:BY p=true):child p n=if BY (p++[n])then some (p++[n])else none:=by
 have e:BY (p++[n])=(decide (p.length<24)&&decide (n<=999)):=by simp only[BY,Bool.and_eq_true,decide_eq_true_eq]at hp;simp only[BY,List.length_append,List.length_singleton,List.all_append,List.all_cons,List.all_nil,Bool.and_true,hp.2,Bool.true_and];have h1:decide (0<p.length+1)=true:=sP;rw[h1,Bool.true_and];congr 1
 unfold child;rw[hp,Bool.true_and,e]
def Hg(t:AJ):AJ×Nm×Bool:=match FN t with|some (u,n)=>(u,n,true)|none=>(t,[],false)
def XV(I)(h:Pow I)(t a)(f:BY t.path)(j:t.made<=1000000)(k:t.room<=1000000):Fn 357 [.g (CG t a)] [] I (A1 (.t [.g (CG (Hg t).1 a),.v (.string (AR (Hg t).2.1)),.v (.bool (Hg t).2.2)]) I) none:=by
 have d:=AOg I h t.path t.made f;refine fo func357 (BZ (by simp[SV.keys,Ax,CG])) λl i w g=> ?_;by_cases b:t.room<1;have e:Hg t=(t,[],false):=by unfold Hg FN;rw[AW b]
 rw[e];exact gg [(7,hT ((t.room:Int)<1) oG)]<|fi;cases c:BY (t.path++[t.made])with
 |false=>
  have e:Hg t=(t,[],false):=by unfold Hg FN;rw[AN b,WE _ _ f,c];rfl
  rw[e];rw[c]at d;exact gg [(7,hF ((t.room:Int)<1) oG)]<|call d kR<|gG<|fi
 |true=>
  have e:Hg t=({t with made:=t.made+1,room:=t.room-1},t.path++[t.made],true):=by unfold Hg FN;rw[AN b,WE _ _ f,c];rfl
  rw[e];rw[c,show Ix (t.path++[t.made])=Cr (t.path++[t.made]) by unfold Ix;rw[AW c]]at d;exact gg [(7,hF ((t.room:Int)<1) oG)]<|call d kR<|gg [(22,hW ((t.made:Int)+1) ((t.made+1:Nat):Int) oG oG),(26,hW ((t.room:Int)-1) ((t.room-1:Nat):Int) oG oG)]<|fi
def AL6(I t a j m)(h:Co I t a):Fn 108 [.g (CG t a),.v (.slice j 0 m)] [] I (OW I (DC t [])) none:=by
 refine fo func108 (EK λ_=>by simp[SV.keys,Ax,CG]) λy x w i=> ?_;have g:=h.c.s.cap;refine gG<|call (AAN I a.p.sa t.c.stack.length a.p.sc g) kR<|gG<|act (need:=[]) [] kR (ANb (I:=I) A6 (n:=t.c.stack.length) (cap:=t.c.stack.length) (a:=a.p.sa) (x:=.v (.slice j 0 m)) Jf kR NG (AZ _)) (λo f v c=>by subst f;cases c) (λh f=>by subst f;exact{r:=nA,u:=nA,n:=nA,l:=by simp,le:=AB.Fa _,d:=by simp}) ?_;rintro o rfl;refine gG ?_;have e:DC t []= {t with status:=0,on:=[]}:=by simp[DC]
 rw[e];exact dn [] ⟨_,I,rfl,AB.le_refl _,⟨⟨h.c.f,⟨h.c.s.sl,AZ _,CB g h.c.s.max,h.c.s.rows⟩,h.c.t⟩,h.s⟩⟩ (h:={r:=.g (CG {t with status:=0,on:=[]} {a with p:={a.p with sc:=t.c.stack.length}}),J:=I})
def AZI(I t a c n o j)(y:0<c.length)(A:c.length<=1000000)(z:t.c.stack.length<=1000000)(i:EE I c n o j)(h:Co I t a):Fn 108 [.g (CG t a),.v (.slice n c.length o)] [] I (OW I (DC t c)) none:=by
 have u:=h.c.s.cap;have d:Rows Ey (t.c.stack++c) (a.p.sl++j):=h.c.s.rows.append i.rows;refine fo func108 (EK λ_=>by simp[SV.keys,Ax,CG]) λL B w q=>gG<|call (AAN I a.p.sa t.c.stack.length a.p.sc u) kR<|gG<|act (need:=[]) [] kR (KU (I:=I) A6 (n:=t.c.stack.length) (cap:=t.c.stack.length) (m:=c.length) (a:=a.p.sa) (l:=.v (.slice a.p.sa t.c.stack.length t.c.stack.length)) (x:=.v (.slice n c.length o)) Jf kR rfl h.c.s.sl.reads i.sl.reads (AZ _) oG (λe=> ?_) oG) (λk x H l=> ?_) LD ?_;rcases h.c.s.sl.at_ with h|⟨b,C,arr,F,G,k,_⟩;exact h;rw[e]at k;cases k;obtain⟨f,g,_,_,_,rfl⟩:=x;cases l;rintro k ⟨f,g,D,E,K,rfl⟩;refine go func108 [] 4 kR<|BW 188 I (vs:=a.p.sl++j++g) (e:=51) kR λb J hle _ s=>gG ?_;have el:(t.c.stack++c).length=t.c.stack.length+c.length:=sP;have m:Aj J Ey 5 (t.c.stack++c) (some ⟨b,0,none⟩) f (a.p.sl++j):=Aj.JN s d G6 (λv i=>N6 v (by rw[Rows.flat.1 d]at i;exact i)) (by rw[el];exact D) E
 refine dn [] ⟨{a with p:={a.p with sa:=some ⟨b,0,none⟩,sc:=f,sl:=a.p.sl++j}},J,?_,hle,⟨⟨(h.up hle).c.f,m,(h.up hle).c.t⟩,(h.up hle).s⟩⟩ (h:={r:=.g [.v (.string (AR t.id)),.v (.string (AR t.path)),.v (.string (str t.g.cur.1)),.v (.string (str t.g.cur.2)),.v (.string (str t.g.Al.1)),.v (.string (str t.g.Al.2)),.v (.slice a.p.fa t.c.AF.length a.p.fc),.v (.slice (some ⟨b,0,none⟩) (t.c.stack.length+c.length) f),.v (.slice a.p.ta t.c.tries.length a.p.tc),.v (.slice a.ca t.scopes.length a.cc),.v (.int .i64 t.made),.v (.int .i64 t.room),.v (.int .i64 (0:Nat)),.v (.string (AR [])),.v (.int .i64 t.v.kind),.v (.int .i64 t.v.n),.v (.string (AR t.v.name)),.v (.string (str t.v.l.1)),.v (.string (str t.v.l.2)),.v (.bool t.ex)],J:=J});simp[DC,CG,el]
def ixO(o:AK Nat):Int:=match o with|none=> -1|some i=>i
def AQN{P}{l:AA Cs}{i x}(e:l[i]? =some x)(d:P x)(b:∀(j:Nat)(y:Cs),j<i->l[j]? =some y->P y=false):l.findIdx? P=some i:=by rw[Ku];obtain⟨a,rfl⟩:=B6.1 e;exact⟨a,d,λj c=>by rw[b j _ c (A9 oG)];decide⟩
def AQO{P}{l:AA Cs}(a:∀(j:Nat)(y:Cs),l[j]? =some y->P y=false):l.findIdx? P=none:=by rw[Yp];intro x c;let⟨j,b⟩:=Yq c;exact a j x b
def AGN(I:AB)(a:AA SV)(now:Nat)(sl:SV)(m:Nat)(i:Nat):Hd where
 By:=[(1,.v (.int .i64 (now:Int))),(4,.v (.int .i64 0)),(8,sl),(9,.v (.int .i64 (m:Int))),(10,.v (.int .i64 (i:Int)))]
 Bu:=[]
 J:=I
def APk(I)(t:AJ)(a)(c:Nat)(D:t.scopes.length<=1000000)(h:Co I t a):Fn 98 [.g (LO t a),.v (.int .i64 (c:Int))] [] I (A1 (.v (.int .i64 (ixO (Np t c)))) I) none:=by
 have q:=h.s;let⟨E,u,k,A⟩:=a;simp only at q;unfold Np;refine fo func98 (BZ rfl) λF v w o=> ?_;refine gG<|loop (ι:=Nat) (λi=>i<=t.scopes.length/\∀(j:Nat)(y:Cs),j<i->t.scopes[j]? =some y->(λs:Cs=>decide (s.PV<=c)) y=false) (λi=>t.scopes.length-i) (AGN I [] c (.v (.slice u t.scopes.length k)) t.scopes.length) 300 [] 0 ⟨BS _,λj y n=>absurd n oG⟩ kR kR ?_;rintro i ⟨C,m⟩ again T;by_cases f:i<t.scopes.length;have l:t.scopes[i]? =some t.scopes[i]:=A9 f;generalize t.scopes[i]=x at l;obtain⟨b,d,arr,e,B,z,rfl,q2,q3,q4,q5⟩:=q.cell Ux l;subst q3;by_cases p:x.PV<=c;rw[AQN l (GL p) m];exact gg [(11,hT ((i:Int)<(t.scopes.length:Int)) oG),(13,BM I WY b d t.scopes.length k i f),(14,DR I ACf (d+i*14) (JQ x) rfl q2 q5),(18,hT ((x.PV:Int)<=(c:Int)) oG)]<|fi;exact gg [(11,hT ((i:Int)<(t.scopes.length:Int)) oG),(13,BM I WY b d t.scopes.length k i f),(14,DR I ACf (d+i*14) (JQ x) rfl q2 q5),(18,hF ((x.PV:Int)<=(c:Int)) oG),(20,hW ((i:Int)+1) ((i+1:Nat):Int) oG oG)]<|back [] (AGN I [] c (.v (.slice (some ⟨b,d,none⟩) t.scopes.length k)) t.scopes.length (i+1)) 300 kR kR kR λr=>again (i+1) ⟨oG,λj y n g=>by by_cases e:j=i;subst e;rw[l]at g;cases g;exact IL p;exact m j y oG g⟩ oG r
 rw[AQO (P:=λs:Cs=>decide (s.PV<=c)) λj y g=>m j y (by have:=(B6.1 g).1;omega) g];exact gg [(11,hF ((i:Int)<(t.scopes.length:Int)) oG)]<|fi
def ATh(I)(s)(x y z): ∀key tm (o:BP),o.op=.field 202 (.tmp s) 0->(∀p∈[(s,SV.g [.v x,.v y,.v z])],tm p.1=p.2)->LS Tryz.prog o tm key [] I (.g [.v x,.v y,.v z]) none:=by
 intro key tm o f b;have ha:=Cy b (s:=s) (x:=.g [.v x,.v y,.v z]) sP;intro ρ ac w he _ _ _ _;refine⟨w,?_,BB.refl w⟩;have c:=he (.tmp s) (by simp[f,Op.operands]);simp only[ev,ha,den,As]at c;have h1:Tryz.prog.underlying 202=some (.struct #[((Tryz.prog.fieldsOf 202)[0]?).getD Af]):=kR;have e:(((Tryz.prog.fieldsOf 202)[0]?).getD Af).type=200/\(((Tryz.prog.fieldsOf 202)[0]?).getD Af).offset=0:=⟨kR,kR⟩;have g:Tryz.prog.underlying 200=some ((Tryz.prog.underlying 200).getD Af):=kR;have h:((Tryz.prog.underlying 200).getD Af).isRow=true:=kR;obtain⟨i,hi,j⟩: ∃i,Tryz.prog.info? 200=some i/\i.size=3:=by rw[show Tryz.prog.info? 200=some ((Tryz.prog.info? 200).getD Af) by kernel_rfl];exact⟨_,rfl,kR⟩
 have a:(isAgg 200).run Tryz.prog w=.ok true w:=by simp only[isAgg,Sem.run_bind,run_underlying g,Result.andThen_ok];generalize(Tryz.prog.underlying 200).getD Af=d at h;cases d<;>simp_all[TypeDesc.isRow]
 simp[execOp,f,Instr.field,c,run_underlying h1,e.1,e.2,part,a,asAgg,sizeOf,typeInfo,hi,j,Result.andThen,den,As]
def AGO(I)(t:AJ)(a)(b:Nat)(d:t.scopes.length<=1000000)(h:Co I t a):Fn 39 [.g (CG t a),.v (.int .i64 (b:Int))] [] I (A1 (.v (.int .i64 (ixO (Np t b)))) I) none:=fo func39 (BZ rfl) λf e w c=>gG<|call (ACQ I t a) kR<|gg [(7,.hand (.field 202 (.tmp 6) 0) [(6,.g (LO t a))] [] I (.g (LO t a)) (ATh I 6 _ _ _))]<|call (APk I t a b d h) kR<|gG<|fi
def AKl{I i a c k f s}(h:Aj I LY 14 i a c f)(l:i[k]? =some s):
 ∃b d arr e g,a=some ⟨b,d,none⟩/\I b=some (.cells arr e g)/\k<i.length/\∀j v,(JQ s)[j]? =some v->arr[d+k*14+j]? =some v:=by
 let⟨b,d,arr,e,g,m,q1,q2,q3,q4,q5⟩:=h.cell Ux l;subst q3;exact⟨b,d,arr,e,g,q1,q2,q4,q5⟩
def AKk{ss:AA Cs}{k}(a:k<ss.length):ss[k]? =some (ss.getD k Af):=by rw[A9 a,Cz,A9 a];rfl
def AOG(I)(t:AJ)(a)(k:Nat)(C:t.scopes.length<=1000000)(x:Bo t.g.cur)(A:∀s∈t.scopes,Bo s.l)(h:Co I t a):Fn 146 [.g (CG t a),.v (.int .i64 (k:Int))] [] I (A1 (.t [Cn (brought t k).1,.v (.bool (brought t k).2)]) I) none:=by
 have m:=h.s;let⟨L,E,B,F⟩:=a;let⟨r,path,g,c,d,f,i,status,on,v,p⟩:=t;simp only at C x A m;refine fo func146 (BZ rfl) λM D w z=> ?_;by_cases u:status=2;by_cases y:k+1=d.length;have q:=AKk (ss:=d) (k:=k) oG;have e:brought ⟨r,path,g,c,d,f,i,status,on,v,p⟩ k=if !fl g.cur (d.getD k Af).l then(whole (-3),true)else(v,p):=by unfold brought;simp only;rw[AN (by rw[u,y];simp)]
 have n:=A _ (Cv q);rw[e];generalize d.getD k Af=s at q n;obtain⟨b,o,arr,G,H,rfl,q2,q4,q5⟩:=AKl m q;have K:(d.length:Int)-1=(k:Int):=oG;refine gg [(8,Ct (status:Int) 2 oG),(14,hW ((d.length:Int)-1) (k:Int) oG oG),(15,Ct (k:Int) (k:Int) rfl),(24,BM I WY b o d.length B k q4),(26,DR I SS (o+k*14+1) [.string (str s.l.1),.string (str s.l.2)] rfl q2 (λj v l=>by
  have:=q5 (1+j) v (by
   match j,l with
   |0,l=>exact l
   |1,l=>exact l)
  rw[<-Mj]at this;exact this))] ?_
 refine call (LL I g.cur s.l x n) kR ?_;cases J:fl g.cur s.l with
 |true=>
  exact gG<|fi
 |false=>
  exact gG<|fi
 have e:brought ⟨r,path,g,c,d,f,i,status,on,v,p⟩ k=(whole (-7),true):=by unfold brought;simp only;rw[AW (.inr y)]
 rw[e];exact gg [(8,Ct (status:Int) 2 oG),(14,hW ((d.length:Int)-1) ((d.length:Int)-1) rfl oG),(15,FJ (k:Int) ((d.length:Int)-1) oG)]<|fi;have e:brought ⟨r,path,g,c,d,f,i,status,on,v,p⟩ k=(whole (-7),true):=by unfold brought;simp only;rw[AW (.inl u)]
 rw[e];exact gg [(8,FJ (status:Int) 2 oG)]<|fi
def NQ:AJ:=⟨[],[],⟨EC,EC⟩,⟨[],[],[]⟩,[],0,0,0,[],AO,false⟩
def NR:CV:=⟨⟨none,0,[],none,0,[],none,0,[]⟩,none,0,[]⟩
def AaE{I}:Co I NQ NR:=⟨⟨Aj.empty,Aj.empty,Aj.empty⟩,Aj.empty⟩
def AW0{I d a c k b}(h:Aj I LY 14 d a c b)(e:k<=d.length):Aj I LY 14 (d.take k) a k (b.take (k*14)):=by have:=h.take Ux k;rwa [JX e]at this
def Dy(o:Ob)(q:Dp):AA SV:=[.v (.int .i64 o.kind),.v (.string (str o.l.1)),.v (.string (str o.l.2)),.v (.int .i64 o.v.kind),.v (.int .i64 o.v.n),.v (.string (AR o.v.name)),.v (.string (str o.v.l.1)),.v (.string (str o.v.l.2)),.v (.bool o.ex),.v (.bool o.done),
 .v (.bool o.var.full),.v (.int .i64 o.var.v.kind),.v (.int .i64 o.var.v.n),.v (.string (AR o.var.v.name)),.v (.string (str o.var.v.l.1)),.v (.string (str o.var.v.l.2)),.v (.slice q.a o.var.q.length q.c),.v (.int .i64 o.fn),.v (.int .u8 o.AL.toNat)]
def GI:Dp:=⟨none,0,[]⟩
abbrev AES(I:AB)(u:AJ)(n:Nm)(o:Ob):Nat->AU->Prop:=Ft I (λq:CV=>.t [.g (CG u q),.v (.string (AR n)),.g (Dy o GI)]) (λJ q=>Co J u q)
def AIK(t:AJ)(k:Nat)(s:Cs):AJ:=
 {t with scopes:=t.scopes.take k,g:=s.g,path:=s.path,made:=s.made,room:=s.room,c:=Ce (Eo t.c s.AF s.CF s.tries) (hand 3 s.name s.l),status:=0,on:=[],v:=AO,ex:=false}
abbrev AM5(I:AB)(t:AJ)(k:Nat):Nat->AU->Prop:=AES I (Ha t k) (t.scopes.getD k Af).name (GR t k)
def ATD(I)(t:AJ)(a)(k:Nat)(s:Cs)(u:t.scopes[k]? =some s)(hl:t.scopes.length<=900000)(A:t.c.stack.length<=900000)(y:Bo t.g.cur)(hs: ∀s∈t.scopes,Bo s.l)(h:Co I t a):Fn 100 [.g (CG t a),.v (.int .i64 (k:Int))] [] I (AES I (AIK t k s) s.name {Cb with kind:=3,l:=s.l,v:=(brought t k).1,ex:=(brought t k).2}) none:=by
 have hk:=(B6.1 u).1;have i:=AOG I t a k oG y hs h;refine fo Tryz.func100 (EK λ_=>by simp[SV.keys,Ax,CG,Dy]) λρ key w p=> ?_;have f:=h.s;have j:=h.s.cap;have hc:=h.c;let⟨B,ca,cc,cl⟩:=a;simp only at f j hc;obtain⟨b,off,arr,e',fr,rfl,q2,q4,q5⟩:=AKl f u;let⟨x,e,n⟩:=Wv;refine gg [(9,hF ((k:Int)<0) oG),(15,hF ((k:Int)≥(t.scopes.length:Int)) oG),(22,BM I WY b off t.scopes.length cc k q4),(23,DR I ACf (off+k*14) (JQ s) rfl q2 q5)]<|call i kR<|gg [(38,.op I _ _ (Uz (a:=some ⟨b,off,none⟩) (n:=t.scopes.length) (c:=cc) (m:=k) U9 e oG))]<|call (AFs I (some ⟨b,off,none⟩) k cc oG) kR<|gG<|CK (APU I t.c B s.AF s.CF s.tries hc) kR λq J c z=>gG<|CK (ACS J (Eo t.c s.AF s.CF s.tries) q (hand 3 s.name s.l) (by show(t.c.stack.take s.CF).length<=_;rw[CX];omega) z) kR λg o d m=> ?_;refine gG ?_;have el:(t.scopes.take k).length=k:=by rw[CX];omega
 refine dn [] ⟨⟨g,some ⟨b,off,none⟩,k,cl.take (k*14)⟩,o,?_,c.trans d,⟨m,(AW0 f oG).up (c.trans d) λ_ _ h=>h⟩⟩ (h:={r:=.t [.g [.v (.string (AR t.id)),.v (.string (AR s.path)),.v (.string (str s.g.cur.1)),.v (.string (str s.g.cur.2)),.v (.string (str s.g.Al.1)),.v (.string (str s.g.Al.2)),.v (.slice g.fa (Ce (Eo t.c s.AF s.CF s.tries) (hand 3 s.name s.l)).AF.length g.fc),.v (.slice g.sa (Ce (Eo t.c s.AF s.CF s.tries) (hand 3 s.name s.l)).stack.length g.sc),.v (.slice g.ta (Ce (Eo t.c s.AF s.CF s.tries) (hand 3 s.name s.l)).tries.length g.tc),.v (.slice (some ⟨b,off,none⟩) k k),.v (.int .i64 s.made),.v (.int .i64 s.room),.v (.int .i64 (0:Nat)),.v (.string (AR [])),.v (.int .i64 (0:Nat)),.v (.int .i64 0),.v (.string (AR [])),.v (.string (str [])),.v (.string (str [])),.v (.bool false)],.v (.string (AR s.name)),.g (Dy {Cb with kind:=3,l:=s.l,v:=(brought t k).1,ex:=(brought t k).2} GI)],J:=o});simp only[CG,AIK,el];rfl
def AIN(I)(t:AJ)(a)(k:Nat)(d:k<t.scopes.length)(e:t.scopes.length<=900000)(b:t.c.stack.length<=900000)(c:Bo t.g.cur)(f:∀s∈t.scopes,Bo s.l)(h:Co I t a):Fn 100 [.g (CG t a),.v (.int .i64 (k:Int))] [] I (AM5 I t k) none:=
 ATD I t a k _ (AKk d) e b c f h
abbrev E9(v:Val):AG:=.cells ((Au v).map .v) 51
def ATp(I){a k b n c}:∀e i (o:BP),o.op=.binOp .eql 29 (.tmp a) (.const (.slice none 0 0)) 29->(∀p∈[(a,SV.s k b n c)],i p.1=p.2)->LS prog o i e [] I (.v (.bool false)) none:=by intro e i o g h;have s:=Cy h (s:=a) (x:=.s k b n c) sP;intro ρ t w m _ _ _ _;refine⟨w,?_,BB.refl w⟩;have j:=m (.tmp a) xO;have l:=m (.const (.slice none 0 0)) xO;simp[ev,s,den]at j l;have q:(eqGuard .eql 29 (.tmp a) (.const (.slice none 0 0)) (.slice (some ⟨ρ k,b,none⟩) n c) (.slice none 0 0)).run prog w=.ok () w:=rfl;have r:(binOp .eql 29 (.slice (some ⟨ρ k,b,none⟩) n c) (.slice none 0 0)).run prog w=.ok (.bool false) w:=Lib.run_eql_slice_nil w 29 51 (some ⟨ρ k,b,none⟩) n c 0 0 Lf;simp[execOp,g,Sem.run_bind,j,l,q,Result.andThen_ok,r];rfl
def Za(I:AB)(g n:Nat)(e:Av)(j:AA AE)(b:AG):Nat->AU->Prop:=λi h=>∃a c,n<=a/\a<=maxLen/\c.length=(a-n)*g/\h= {r:=.s i 0 n a,upd:=[(1,b)],nb:=[.Aa (j++c) e],J:=I}
def AZg{I c n e p b}(m:b.keys=[]):CO (Za I c n e p b) [(1,b)] I:=by refine⟨?_⟩;rintro o h ⟨l,j,_,_,_,rfl⟩;refine⟨⟨λk a=>.inr ?_,(λr i=> ?_),(λq g k a=>by rw[AP.1 g]at a;cases a),sP,sP⟩,AB.le_refl _⟩;simp[SV.keys]at a;rw[a];exact MN _ _;rw[AP.1 i];exact⟨sP,λk a=>by rw[m]at a;cases a⟩
def Xh(v):∀x∈Au v,x.oneCell':=by intro x a;simp[Au]at a;rcases a with rfl|rfl|rfl|rfl|rfl<;>rfl
def AOu(I)(v):Fn 42 [.s 1 0 1 1] [(1,E9 v)] I (Za I 5 1 51 (Au v) (E9 v)) none:=by refine Iv 8 Tryz.func42 Tryz.ntmps42 rfl rfl kR (AZg rfl) λρ key w b=>gg [(4,.hand (.binOp .eql 29 (.tmp 3) (.const (.slice none 0 0)) 29) [(3,.s 1 0 1 1)] [] I (.v (.bool false)) (ATp I))]<|act (need:=[(124,.Aa [] 51),(1,E9 v)]) [124] kR (JC (I:=I) A6 (n:=0) (m:=1) (cap:=0) (k:=124) (vs:=[]) (olds:=[]) (news:=Au v) (x:=.s 1 0 1 1) Jf kR DX rfl rfl sP (D2 (e:=51) sP rfl (Xh v)) (AZ _) (by unfold maxLen;omega) oG) ?_ (Oc rfl) ?_;rintro h ⟨cap,AC,_,_,_,rfl⟩ kb a;rw[AP.1 a];exact AP.2 rfl;rintro h' ⟨cap,AC,h1,c,e,rfl⟩;exact gG<|dn [140] ⟨cap,AC,oG,c,by rw[e],sP⟩ (h:={r:=.s (key+0) 0 (0+1) cap,upd:=[(1,E9 v)],nb:=[.Aa ([]++Au v++AC) 51],J:=I})
section
variable {F:FuncId} {d:Func} {n:Nat} {I:AB} {w:World} {ρ:Nat->Nat} {A:List Nat} {R:Dl} {f:BU}
def AOW{g l G i m k e q b}(h:Fn G g [(1,b)] l (Za l i m e q b) none)(j:Ci f n G [(1,k)] [(1,b)] [1]=some (Bz (AT [(1,k)]) g,[some (b.Am (AT [(1,k)]))],l))(hnext:∀c a,m<=c->c<=maxLen->a.length=(c-m)*i->At F d n I w ρ A R (f.out (AT [(1,k)]) {r:=.s (Cw f) 0 m c,upd:=[(1,b)],nb:=[.Aa (q++a) e],J:=l})):At F d n I w ρ A R f:=
 Ag h [(1,k)] [1] j (λ_ h o v p=>by obtain⟨c,a,_,_,_,rfl⟩:=o;rw[AP.1 p];exact AP.2 rfl) λh o=>by obtain⟨c,a,s,t,u,rfl⟩:=o;exact hnext c a s t u
end
def ZK{a:Type}(I:AB)(b:AG)(S:a->SV)(R:AB->a->Prop):Nat->AU->Prop:=λ_ h=>∃x J,h= {r:=S x,upd:=[(1,b)],J:=J}/\I.le J/\R J x
def AMK{ι:Type}{I:AB}{b:AG}{S:ι->SV}{R:AB->ι->Prop}(hb:b.keys=[])(hk: ∀x,(S x).keys=[]):CO (ZK I b S R) [(1,b)] I:=by refine⟨?_⟩;rintro key h ⟨x,J,rfl,hle,_⟩;refine⟨⟨(λk a=>by rw[hk]at a;cases a),(λkb c=> ?_),(λb hb=>by cases hb),sP,sP⟩,hle⟩;rw[List.mem_singleton.1 c];exact⟨sP,λk hk=>by rw[hb]at hk;cases hk⟩
abbrev AEL(I:AB)(v:Val)(u:Ae):Nat->AU->Prop:=ZK I (E9 v) (λq:CN=>.t [.g (Cj u q),.v (.bool true)]) (λJ q=>CH J u q)
def AGV(I:AB)(v:Val)(c:Ae)(p:CN)(d m:Nat)(AL:AH)(x:RL):Hd where
 By:=[(1,.v (.int .i64 d)),(4,.v (.int .u8 AL.toNat)),(5,.p 100 0),(10,.p 108 0),(11,.v (.bool false)),(12,.s 116 0 (1+x.i) x.cap),(22,.v (.int .i64 (m:Nat))),(23,.v (.int .i64 x.i))]
 Bu:=[(1,E9 v),(100,.cells (Cj c p) 48),(108,.cells [.v (.slice none 0 0),.v (.slice none 0 0),.v (.slice none 0 0)] 48),(116,.Aa (Jm (Au v) x.i++x.AC) 51)]
 J:=I
def AP1(I)(c:Ae)(p)(d vars:Nat)(v)(a:AH)(g:16<=c.AF.length):Fn 140 [.g (Cj c p),.v (.int .i64 d),.v (.int .i64 vars),.s 1 0 1 1,.v (.int .u8 a.toNat)] [(1,E9 v)] I (A1 (.t [.g (Cj c p),.v (.bool false)]) I) none:=by refine Fn.same (need:=[(1,E9 v)]) ?_ rfl;exact fo func140 (ADX (m:=E9 v) (r:=.t [.g (Cj c p),.v (.bool false)]) rfl rfl) λρ e w b=>gg [(16,hT ((c.AF.length:Int)≥16) oG)]<|dn [] rfl
def AAp(I)(c:Ae)(p)(d vars:Nat)(v)(e:UInt8)(h:CH I c p)(Z:c.AF.length<16)(P:c.stack.length<=1000000):
 Fn 140 [.g (Cj c p),.v (.int .i64 d),.v (.int .i64 vars),.s 1 0 1 1,.v (.int .u8 e.toNat)] [(1,E9 v)] I (AEL I v {c with AF:=c.AF++[⟨d,0,c.stack.length,e,[v]++List.replicate (min vars 16) (whole 0)⟩]}) none:=by
 have u:Au v=([v]:List Val).flatMap Au:=sP;refine fo func140 (AMK rfl λ_=>rfl) λρ Q w H=>gg [(16,hF ((c.AF.length:Int)≥16) oG)]<|AOW (k:=1) (AOu I v) kR λj g z B N=>gg [(21,M1 I #[3,3] vars 0 vars oG),(22,ABL I #[3,3] vars 16 ((min vars 16:Nat):Int) oG)]<|loop (ι:=RL) (λx=>x.i<=min vars 16/\1+x.i<=x.cap/\x.cap<=maxLen/\x.AC.length=(x.cap-(1+x.i))*5) (λx=>min vars 16-x.i)
  (AGV I v c p d (min vars 16) e) 300 [(116,164)] ⟨0,j,g⟩ ⟨Nat.zero_le _,z,B,by simpa using N⟩ kR kR ?_
 rintro⟨i,j,g⟩ ⟨M,q1,q2,q3⟩ again T;simp only at M q1 q2 q3;have s:Jm (Au v) i=(Gw [v] i).flatMap Au:=by rw[u];exact SA [v] i
 by_cases O:i<min vars 16;refine gg [(24,hT ((i:Int)<((min vars 16:Nat):Int)) oG)]<|act (need:=[(116,.Aa (Jm (Au v) i++g) 51),(324,.cells ((Au (whole 0)).map .v) 51)]) [116] kR (JC (I:=I) A6 (n:=1+i) (m:=1) (cap:=j) (k:=116) (vs:=Jm (Au v) i++g) (olds:=Jm (Au v) i) (news:=Au (whole 0)) (x:=.s 324 0 1 1) Jf kR sP ?_ ?_ (λv y=>N6 v (by rw[s]at y;exact y)) (D2 (e:=51) sP rfl (Xh _)) q1 q2 oG) ?_ (Oc rfl) ?_;rw[List.length_append,s,R7,q3];simp[Gw,List.length_append,List.length_replicate,List.length_singleton];rw[<-Nat.add_mul];congr 1;omega;rw[List.take_left'];rw[s,R7];simp[Gw];omega;rintro h ⟨j,g,_,_,_,rfl⟩ kb D;rw[List.mem_singleton.1 D];exact List.mem_singleton.2 rfl;rintro Y ⟨o,l,r1,S,U,rfl⟩;refine gg [(29,hW ((i:Int)+1) ((i+1:Nat):Int) oG oG)] ?_;exact back [(116,332)] (AGV I v c p d (min vars 16) e ⟨i+1,o,l⟩) 300 kR kR kR λL=>again ⟨i+1,o,l⟩ ⟨by show i+1<=_;omega,by show 1+(i+1)<=o;omega,S,by show l.length=(o-(1+(i+1)))*5;rw[U];congr 1⟩ (by show min vars 16-(i+1)<min vars 16-i;omega) L;have C:i=min vars 16:=oG;subst C;refine go func140 [(24,hF ((((min vars 16:Nat)):Int)<((min vars 16:Nat):Int)) oG)] 8 kR<|BW 116 I (vs:=Jm (Au v) (min vars 16)++g) (e:=51) kR λb J hle _ G=> ?_;rw[s]at G;refine gG<|Iq (Vu J p.fa c.AF.length p.fc p.fl d 0 c.stack.length e.toNat (some ⟨b,0,none⟩) (1+min vars 16) j h.f.cap oG (h.f.sl.up hle)) kR λa m K k V W X=>gG ?_;have E:(Gw [v] (min vars 16)).length=1+min vars 16:=by simp[Gw];omega
 have t:EE K (Gw [v] (min vars 16)) (some ⟨b,0,none⟩) j ((Gw [v] (min vars 16)).flatMap Au):=Aj.JN (k _ _ G) (Rows.flat.2 rfl) G6 (λv y=>N6 v y) oG q2;have q:(c.AF++[(⟨d,0,c.stack.length,e,[v]++List.replicate (min vars 16) (whole 0)⟩:B7)]).length=c.AF.length+1:=sP;have hnew:CH K {c with AF:=c.AF++[⟨d,0,c.stack.length,e,[v]++List.replicate (min vars 16) (whole 0)⟩]} {p with fa:=a,fc:=m,fl:=p.fl++[.int .i64 d,.int .i64 0,.int .i64 c.stack.length,.int .u8 e.toNat,.slice (some ⟨b,0,none⟩) (1+min vars 16) j]}:=by refine⟨⟨by rw[q];exact X,by rw[q];exact V,W,?_⟩,(h.up (hle.trans k)).s,(h.up (hle.trans k)).t⟩;refine(h.f.rows.mono (MF (hle.trans k))).append (Rows.one ⟨some ⟨b,0,none⟩,j,_,?_,t⟩);show _=[_,_,_,_,Value.slice (some ⟨b,0,none⟩) (Gw [v] (min vars 16)).length j];rw[E];rfl
 refine dn [] ⟨_,K,?_,hle.trans k,hnew⟩ (h:={r:=.t [.g [.v (.slice a (c.AF.length+1) m),.v (.slice p.sa c.stack.length p.sc),.v (.slice p.ta c.tries.length p.tc)],.v (.bool true)],upd:=[(1,E9 v)],J:=K});simp[Cj]
section
variable {F:FuncId} {d:Func} {n:Nat} {I:AB} {w:World} {ρ:Nat->Nat} {A:List Nat} {R:Dl} {f:BU}
def AAH{a c v u}(k)(h:Fn 140 a [(1,E9 v)] c (AEL c v u) none)(b:Ci f n 140 [(1,k)] [(1,E9 v)] [1]=some (Bz (AT [(1,k)]) a,[some ((E9 v).Am (AT [(1,k)]))],c))(hnext:∀(q:CN)(J:AB),c.le J->CH J u q->At F d n I w ρ A R (f.out (AT [(1,k)]) {r:=.t [.g (Cj u q),.v (.bool true)],upd:=[(1,E9 v)],J:=J})):At F d n I w ρ A R f:=
 Ag h [(1,k)] [1] b (λ_ h e i g=>by obtain⟨x,J,rfl,_⟩:=e;rw[AP.1 g];exact AP.2 rfl) λh e=>by obtain⟨x,J,rfl,hle,q⟩:=e;exact hnext x J hle q
end
structure ZE(I:AB)(t:AJ)(a:CV)(l:AV):Prop where
 pow:Pow I
 AD:Co I t a
 path:BY t.path
 made:t.made<=1000000
 room:t.room<=1000000
 Uw:t.scopes.length<=900000
 len:Jd t.c
 CC:Bo l
 g:Kk t.g
abbrev AGY(t:AJ)(a:CV)(d vars:Nat)(arg:Val)(c:AH)(l:AV)(b e:Int)(g:Nat):AA SV:=[.g (CG t a),.v (.int .i64 d),.v (.int .i64 vars),Cn arg,.v (.int .u8 c.toNat),Cc l,.v (.int .i64 b),.v (.int .i64 e),.v (.int .i64 g)]
def AYH(I t a)(d vars:Nat)(arg h l)(b c:Int)(m:Nat)(e:Int)(S:ZE I t a l)(g:IP t d vars arg h l b c m=.inr e):Fn 317 (AGY t a d vars arg h l b c m) [] I (A1 (.t [.g (CG t a),.v (.int .i64 e)]) I) none:=by
 have i:=XV I S.pow t a S.path S.made S.room;have x:=OL I t.g l S.g S.CC;have C:=S.len.f;have D:=S.len.s;refine fo func317 (BZ (by simp[SV.keys,Ax,CG])) λρ y w v=> ?_;unfold IP at g;by_cases r:b<1\/1000<b;rw[AW r]at g;cases g;by_cases k:b<1;exact gg [(27,hT (b<1) k)]<|fi;exact gg [(27,hF (b<1) k),(30,hT (b>1000) oG)]<|fi;rw[AN r]at g;by_cases s:c<0\/999<c;rw[AW s]at g;cases g;by_cases k:c<0;exact gg [(27,hF (b<1) oG),(30,hF (b>1000) oG),(34,hT (c<0) k)]<|fi;exact gg [(27,hF (b<1) oG),(30,hF (b>1000) oG),(34,hF (c<0) k),(37,hT (c>999) oG)]<|fi;rw[AN s]at g;refine gg [(27,hF (b<1) oG),(30,hF (b>1000) oG),(34,hF (c<0) oG),(37,hF (c>999) oG)]<|call x kR ?_;by_cases p:Cu t.g l≠0;rw[AW p]at g;cases g;exact gg [(45,FJ (Cu t.g l) 0 p)]<|fi;rw[AN p]at g;refine gg [(45,Ct (Cu t.g l) 0 oG)] ?_;cases o:FN t with
 |none=>
  rw[o]at g;cases g;rw[show Hg t=(t,[],false) by unfold Hg;rw[o]]at i;refine call i kR ?_;by_cases j:(t.room:Int)<=c;exact gg [(57,hT ((t.room:Int)<=c) j)]<|fi;exact gg [(57,hF ((t.room:Int)<=c) j)]<|fi
 |some B=>
  let⟨u,z⟩:=B;rw[o]at g;rw[show Hg t=(u,z,true) by unfold Hg;rw[o]]at i;refine call i kR ?_;simp only at g;by_cases j:(t.room:Int)<=c;rw[AW j]at g;cases g;exact gg [(57,hT ((t.room:Int)<=c) j)]<|fi;rw[AN j]at g;refine gg [(57,hF ((t.room:Int)<=c) j)] ?_;unfold F5 at g;by_cases q:16<=t.c.AF.length;rw[AW q]at g;cases g;exact P7 (AP1 I t.c a.p d vars arg h q) [(1,476)] kR<|gG<|fi;rw[AN q]at g;cases g
def AGZ(t u:AJ)(h:Nm)(d vars:Nat)(arg:Val)(b:AH)(l:AV)(a room:Int)(e:Nat):AJ:=
 let s:Cs:=⟨h,Ap l,e+a.toNat,t.c.AF.length,t.c.stack.length,t.c.tries.length,t.g,t.path,u.made,u.room-room.toNat⟩
 {u with scopes:=t.scopes++[s],c:={t.c with AF:=t.c.AF++[⟨d,0,t.c.stack.length,b,[arg]++List.replicate (min vars 16) (whole 0)⟩]},g:=⟨u.g.cur,s.l⟩,path:=h,made:=0,room:=room.toNat}
def AP3{t o}{d vars:Nat}{arg c l}{a room:Int}{now:Nat}(h:IP t d vars arg c l a room now=.inl o):
 ¬(a<1\/1000<a)/\¬(room<0\/999<room)/\Cu t.g l=0/\¬(t.room:Int)<=room/\t.c.AF.length<16/\∃e,FN t=some ({t with made:=t.made+1,room:=t.room-1},e)/\o=AGZ t {t with made:=t.made+1,room:=t.room-1} e d vars arg c l a room now:=by
 unfold IP at h;by_cases g:a<1\/1000<a;rw[AW g]at h;cases h;rw[AN g]at h;by_cases i:room<0\/999<room;rw[AW i]at h;cases h;rw[AN i]at h;by_cases k:Cu t.g l≠0;rw[AW k]at h;cases h;rw[AN k]at h;cases b:FN t with
 |none=>rw[b]at h;cases h
 |some q=>
  let⟨u,e⟩:=q;rw[b]at h;simp only at h;by_cases j:(t.room:Int)<=room;rw[AW j]at h;cases h;rw[AN j]at h;unfold F5 at h;by_cases m:16<=t.c.AF.length;rw[AW m]at h;cases h;rw[AN m]at h;have p:u= {t with made:=t.made+1,room:=t.room-1}:=by unfold FN at b;split at b;cases b;split at b;cases b;rfl;cases b
  subst p;refine⟨g,i,oG,j,oG,e,rfl,?_⟩;cases h;rfl
def AYI(I t u a)(d vars:Nat)(arg j l)(i room:Int)(k:Nat)(S:ZE I t a l)(T:k<=1000000)(V:IP t d vars arg j l i room k=.inl u):Fn 317 (AGY t a d vars arg j l i room k) [] I (Ft I (λq:CV=>.t [.g (CG u q),.v (.int .i64 0)]) (λJ q=>Co J u q)) none:=by
 obtain⟨h1,h2,Y,Z,h5,M,hn,rfl⟩:=AP3 V;have L:=XV I S.pow t a S.path S.made S.room;rw[show Hg t=({t with made:=t.made+1,room:=t.room-1},M,true) by unfold Hg;rw[hn]]at L;have X:=OL I t.g l S.g S.CC;rw[Y]at X;have l1:=S.len.f;have l2:=S.len.s;have l3:=S.Uw;have l4:=S.made;have l5:=S.room;obtain⟨m,rfl⟩:∃m:Nat,room=(m:Int):=⟨room.toNat,oG⟩;obtain⟨B,rfl⟩:∃B:Nat,i=(B:Int):=⟨i.toNat,oG⟩;refine fo func317 (EK λ_=>by simp[SV.keys,Ax,CG]) λρ aa w H=>gg [(27,hF ((B:Int)<1) oG),(30,hF ((B:Int)>1000) oG),(34,hF ((m:Int)<0) oG),(37,hF ((m:Int)>999) oG)]<|call X kR<|gG<|call L kR<|gg [(57,hF ((t.room:Int)<=(m:Int)) Z)]<|AAH 476 (AAp I t.c a.p d vars arg j S.AD.c h5 oG) kR λq J hle U=>gg [(82,hW ((k:Int)+(B:Int)) ((k+B:Nat):Int) oG oG),(104,hW (((t.room-1:Nat):Int)-(m:Int)) ((t.room-1-m:Nat):Int) oG oG)]<|call (SG J l S.CC) kR<|gG ?_;have O:=S.AD.s.cap;refine call (AFs J a.ca t.scopes.length a.cc O) kR<|gG ?_;obtain⟨s,W⟩:∃s:Cs,s=⟨M,Ap l,k+B,t.c.AF.length,t.c.stack.length,t.c.tries.length,t.g,t.path,t.made+1,t.room-1-m⟩:=⟨_,rfl⟩;have z:∀v∈JQ s,v.oneCell':=by intro v x;simp[JQ]at x;rcases x with rfl|rfl|rfl|rfl|rfl|rfl|rfl|rfl|rfl|rfl|rfl|rfl|rfl|rfl<;>rfl
 have E:=S.AD.s.sl.up hle;refine act (need:=[(844,.cells ((JQ s).map .v) 114)]) [] (by subst W;kernel_rfl) (KU (I:=J) A6 (n:=t.scopes.length) (cap:=t.scopes.length) (m:=1) (a:=a.ca) (l:=.v (.slice a.ca t.scopes.length t.scopes.length)) (x:=.s 844 0 1 1) (olds:=a.cl) (news:=JQ s) AEs kR rfl E.reads (D2 (e:=114) (AP.2 rfl) rfl z) (AZ _) oG (λe=> ?_) oG) (λN hh kb P=> ?_) LD ?_;rcases E.at_ with h|⟨b,ab,arr,e',fr,N,_⟩;exact h;rw[e]at N;cases N;obtain⟨o,y,_,_,_,rfl⟩:=hh;cases P;rintro N ⟨o,y,r1,r2,r3,rfl⟩;refine go func317 [] 3 kR<|BW 852 J (vs:=a.cl++JQ s++y) (e:=114) kR λb K p _ hJ=>gG ?_;have D:Rows LY (t.scopes++[s]) (a.cl++JQ s):=S.AD.s.rows.append (Rows.one rfl);have el:(t.scopes++[s]).length=t.scopes.length+1:=sP;have Q:Aj K LY 14 (t.scopes++[s]) (some ⟨b,0,none⟩) o (a.cl++JQ s):=Aj.JN hJ D Ux (λv x=>by rcases BA.1 x with x|x;exact E.one v x;exact z v x) (by rw[el];exact r1) r2
 obtain⟨G,C⟩:∃G:Ae,G= {t.c with AF:=t.c.AF++[⟨d,0,t.c.stack.length,j,[arg]++List.replicate (min vars 16) (whole 0)⟩]}:=⟨_,rfl⟩;have e:AGZ t {t with made:=t.made+1,room:=t.room-1} M d vars arg j l B m k= {t with scopes:=t.scopes++[s],c:=G,g:=⟨t.g.cur,Ap l⟩,path:=M,made:=0,room:=m}:=by subst W C;rfl
 rw[e];rw[<-C]at U;refine done func317 H [] (h:={r:=.t [.g [.v (.string (AR t.id)),.v (.string (AR M)),.v (.string (str t.g.cur.1)),.v (.string (str t.g.cur.2)),.v (.string (str (Ap l).1)),.v (.string (str (Ap l).2)),.v (.slice q.fa G.AF.length q.fc),.v (.slice q.sa G.stack.length q.sc),.v (.slice q.ta G.tries.length q.tc),.v (.slice (some ⟨b,0,none⟩) (t.scopes.length+1) o),.v (.int .i64 (0:Nat)),.v (.int .i64 m),.v (.int .i64 t.status),.v (.string (AR t.on)),.v (.int .i64 t.v.kind),.v (.int .i64 t.v.n),.v (.string (AR t.v.name)),.v (.string (str t.v.l.1)),.v (.string (str t.v.l.2)),.v (.bool t.ex)],.v (.int .i64 0)],J:=K}) (by subst C;kernel_rfl) ⟨⟨q,some ⟨b,0,none⟩,o,a.cl++JQ s⟩,K,?_,hle.trans p,⟨U.up p,Q⟩⟩;simp[CG,el]
def EZ(I:AB)(o:Ob)(q:Dp):Prop:=Lu I o.var q
def EZ.up{I J o q}(h:EZ I o q)(hle:I.le J):EZ J o q:=Lu.up h hle
abbrev AM7(I:AB)(o:Ob):Nat->AU->Prop:=Ft I (λq:Dp=>.g (Dy o q)) (λJ q=>EZ J o q)
def WL(I o q)(i:o.var.q.length<=1000000)(h:EZ I o q):Fn 85 [.g (Dy o q)] [] I (AM7 I o) none:=by have b:Lv I o.var.q q.a q.c q.l:=h;exact fo func85 (EK λ_=>by simp[SV.keys,Ax,Dy]) λj d w a=>gG<|Iq (WH I q.a o.var.q.length q.c q.l oG b.sl) kR λc m J hle e f g=>gG<|dn [] ⟨⟨c,m,q.l⟩,J,rfl,hle,⟨g,e,f,b.rows⟩⟩
def ANB(I:AB):Nat->AU->Prop:=λa h=>h= {r:=.p (a+2) 0,nb:=[.DZ [] [],.DZ [] [],.cells [.m a,.m (a+1)] 178],J:=I}
def AUW(I):Fn 87 [] [] I (ANB I) none:=by
 refine fo func87 ?_ λm a w g=> ?_;refine⟨?_⟩;rintro a h rfl;have e:∀j,j<3->(Bf a [AG.DZ [] [],.DZ [] [],.cells [.m a,.m (a+1)] 178] (a+j)).isSome:=λj i=>by
  rw[Gx]
  match j,i with
  |0,_=>rfl
  |1,_=>rfl
  |2,_=>rfl
 refine⟨⟨λk c=>.inr ?_,nA,(λb f k c=> ?_),sP,sP⟩,AB.le_refl _⟩;simp[SV.keys]at c;subst c;exact e 2 oG;simp at f;rcases f with rfl|rfl;cases c;simp[AG.keys,Ax,SV.keys]at c;rcases c with rfl|rfl;exact .inr (e 0 oG);exact .inr (e 1 oG);exact gG<|dn [108,116,132] rfl
def FA(o:Ob)(q:Dp):AA AE:=[.int .i64 o.kind,.string (str o.l.1),.string (str o.l.2),.int .i64 o.v.kind,.int .i64 o.v.n,.string (AR o.v.name),.string (str o.v.l.1),.string (str o.v.l.2),.bool o.ex,.bool o.done,
 .bool o.var.full,.int .i64 o.var.v.kind,.int .i64 o.var.v.n,.string (AR o.var.v.name),.string (str o.var.v.l.1),.string (str o.var.v.l.2),.slice q.a o.var.q.length q.c,.int .i64 o.fn,.int .u8 o.AL.toNat]
def AJL(o q):Dy o q=(FA o q).map .v:=rfl
def Hv(I:AB)(e:Ah)(p:Nm×Ob):Prop:=e.key=.string (AR p.1)/\∃q,e.val=.agg (FA p.2 q).toArray/\EZ I p.2 q
def Hv.up{I J e p}(h:Hv I e p)(hle:I.le J):Hv J e p:=⟨h.1,h.2.imp λq ⟨a,b⟩=>⟨a,b.up hle⟩⟩
inductive DD{c β:Type}(R:c->β->Prop):AA c->AA β->Prop
 |nil:DD R [] []
 |cons {a b l m}:R a b->DD R l m->DD R (a::l) (b::m)
structure K0(es:AY Ah)(n:Nat):Prop where
 lt:∀x∈es.toList,x.born<n
 nd:(es.toList.map (·.born)).Nodup
theorem K0.nil(n):K0 #[] n:=⟨sP,sP⟩
def K0.push{es}{n}(h:K0 es n)(k v):K0 (es.push {key:=k,val:=v,born:=n}) (n+1):=by
 refine⟨λx c=> ?_,?_⟩;simp only[OM,BA,AP]at c;rcases c with c|rfl;have:=h.lt x c;omega;exact Y5 _;rw[OM,EL,Fz];refine⟨h.nd,sP,λa ha b hb=> ?_⟩;obtain⟨x,c,rfl⟩:=BG.1 ha;have hb:b=n:=by simpa using hb
 have:=h.lt x c;omega
def K0.modify{a n}(h:K0 a n)(j f)(d:∀e,(f e).born=e.born):K0 (a.modify j f) n:=by
 have c:∀(l:AA Ah)(j:Nat),(l.modify j f).map (·.born)=l.map (·.born):=by
  intro l;induction l with
  |nil=>intro j;simp
  |cons x l k=>intro j;cases j with
   |zero=>simp[d]
   |succ j=>simp[k]
 have b:(a.modify j f).toList.map (·.born)=a.toList.map (·.born):=by rw[ADg];exact c _ _
 refine⟨λx g=> ?_,by rw[b];exact h.nd⟩;have:x.born∈(a.modify j f).toList.map (·.born):=BG.2 ⟨x,g,rfl⟩;rw[b]at this;let⟨y,i,e⟩:=BG.1 this;rw[<-e];exact h.lt y i
structure DJ(I:AB)(s:Ao)(es:AY Ah)(ck:Nat):Prop where
 perm:∃l,l.Perm s/\DD (Hv I) es.toList l
 nd:(s.map (·.1)).Nodup
 nm:∀p∈s,Bg p.1
 bo:K0 es ck
def AQ6{l s}(h:l.Perm s)(a:(s.map (·.1)).Nodup)(n):Ai l n=Ai s n:=by
 induction h with
 |nil=>rfl
 |cons x h g=>
  simp[EM,Gl]at a;unfold Ai at g⊢;rw[Ll,Ll];split;rfl;exact g a.2
 |swap x y l=>
  simp[EM,Gl,BD,OS]at a;unfold Ai;rw[Ll,Ll,Ll,Ll];by_cases c:(x.1==n);by_cases b:(y.1==n);exact absurd ((eq_of_beq c).trans (eq_of_beq b).symm) (by intro e;exact a.1.1 e);simp[c,b];by_cases b:(y.1==n);simp[c,b];simp[c,b]
 |trans j i d f=>
  rw[d ((i.map _).nodup_iff.2 a),f a]
def AGo{I}{n}(d:Bg n): ∀ {es:List MapEntry} {l:Ao} (i:Nat),DD (Hv I) es l->(∀p∈l,Bg p.1)->
 (Ai l n=none->Instr.findNow .string (.string (AR n)) es i=some none)/\(∀o,Ai l n=some o->∃j q,Instr.findNow .string (.string (AR n)) es i=some (some (i+j,.agg (FA o q).toArray))/\EZ I o q/\es[j]?.map (·.key)=some (.string (AR n)))
 |_,_,i,.nil,_=>⟨λ_=>rfl,λo h=>by cases h⟩
 |_,_,i,.cons (a:=e) (b:=p) (l:=es) (m:=l) ⟨h1,q,g,k⟩ b,hm=>by
  have f:=AGo d (i+1) b λp hp=>hm p (List.mem_cons_of_mem _ hp);have hp:=hm p sP;have hs:Instr.sameNow .string (.string (AR n)) e.key=some (decide (n=p.1)):=by
   let⟨r,b,a⟩:=MapKept.sameNow_of_keys (d:=.string) (a:=.string (AR n)) (b:=e.key) trivial (by rw[h1];trivial);rw[b];congr 1;have:r=true↔n=p.1:=by rw[a,h1];constructor;intro h;simp[Value.string.injEq]at h;exact N3 d hp (str_inj.1 (congrArg ByteArray.toList h));rintro rfl;rfl
   by_cases h:n=p.1;rw[decide_eq_true h];exact this.2 h;rw[decide_eq_false h];exact Bool.eq_false_iff.2 λb=>h (this.1 b)
  unfold Instr.findNow;rw[hs];unfold Ai;rw[List.find?_cons];by_cases h:n=p.1;have hb:(p.1==n)=true:=by rw[h];simp
  rw[decide_eq_true h,hb];refine⟨λh=>(by simp at h),λo c=> ?_⟩;simp at c;subst c;exact⟨0,q,by rw[g];rfl,k,by simp[h1,h]⟩;have hb:(p.1==n)=false:=beq_eq_false_iff_ne.2 λe=>h e.symm;rw[decide_eq_false h,hb];refine⟨f.1,λo c=> ?_⟩;let⟨j,m,r1,r2,r3⟩:=f.2 o c;exact⟨j+1,m,by rw[show i+(j+1)=i+1+j by omega];exact r1,r2,by simpa using r3⟩
def DJ.find{I s a e}(h:DJ I s a e){n}(g:Bg n):
 (Ai s n=none->Instr.findNow .string (.string (AR n)) a.toList 0=some none)/\(∀o,Ai s n=some o->∃j q,Instr.findNow .string (.string (AR n)) a.toList 0=some (some (j,.agg (FA o q).toArray))/\EZ I o q/\a[j]?.map (·.key)=some (.string (AR n))):=by
 let⟨l,c,f⟩:=h.perm;have:=AGo (I:=I) g 0 f λp b=>h.nm p (c.mem_iff.1 b);rw[AQ6 c h.nd]at this;refine⟨this.1,λo i=> ?_⟩;let⟨j,q,d,k,m⟩:=this.2 o i;exact⟨j,q,by rw[D5]at d;exact d,k,by simpa using m⟩
def Pw{b:Type}(I:AB)(a:AA (Nat×AG))(S:b->SV)(R:AB->b->Prop):Nat->AU->Prop:=λ_ h=>∃x J,h= {r:=S x,upd:=a,J:=J}/\I.le J/\R J x
def AMI{ι:Type}{I:AB}{need:List (Nat×AG)}{S:ι->SV}{R:AB->ι->Prop}(hk: ∀x,(S x).keys=[])(d: ∀kb∈need,∀k∈kb.2.keys,k∈need.map (·.1))(hd:(need.map (·.1)).Nodup):CO (Pw I need S R) need I:=by refine⟨?_⟩;rintro key h ⟨x,J,rfl,hle,_⟩;exact⟨⟨(λk a=>by rw[hk]at a;cases a),(λkb c=>⟨List.mem_map.2 ⟨kb,c,rfl⟩,λk hk=>.inl (d kb c k hk)⟩),(λb hb=>by cases hb),sP,hd⟩,hle⟩
abbrev AXn:AG:=.cells [.m 2,.m 3] 178
abbrev GC(a b:AY Ah)(n m:Nat):AA (Nat×AG):=[(1,AXn),(2,.obj (.map a n)),(3,.obj (.map b m))]
def AXr{ι:Type}{I:AB}{es ns:Array MapEntry}{n m:Nat}{S:ι->SV}{R:AB->ι->Prop}(hk: ∀x,(S x).keys=[]):CO (Pw I (GC es ns n m) S R) (GC es ns n m) I:=
 AMI hk (by intro kb a k hk;simp only[List.mem_cons,List.not_mem_nil,_root_.or_false]at a;rcases a with rfl|rfl|rfl;simp[AG.keys,Ax,SV.keys]at hk;rcases hk with rfl|rfl<;>simp;cases hk;cases hk) sP
def ADf:∀w,(zeroValue 87).run prog w=.ok (.agg (FA Cb GI).toArray) w:=by have h:(prog.info? 87).map (λi=>i.zero)=some (some (.agg (FA Cb GI).toArray)):=kR;let⟨i,a,b⟩:=KM.1 h;intro w;simp[zeroValue,typeInfo,a,b,Result.andThen]
def Cm:prog.underlying 9=some .string:=kR
def Ow(s:Ao)(n:Nm):Ob×Bool:=match Ai s n with|some o=>(o,true)|none=>(Cb,false)
abbrev AM1(I:AB)(a:AA (Nat×AG))(r:Ob×Bool):Nat->AU->Prop:=Pw I a (λq:Dp=>.t [.g (Dy r.1 q),.v (.bool r.2)]) (λJ q=>EZ J r.1 q)
def Lg{I}:EZ I Cb GI:=⟨Ch.nil,AZ _,by show 0<=maxLen;unfold maxLen;omega,rfl⟩
def T9(I s b k n m a)(r:Bg a)(p:∀o,Ai s a=some o->o.var.q.length<=1000000)(h:DJ I s b n):Fn 31 [.p 1 0,.v (.string (AR a))] (GC b k n m) I (AM1 I (GC b k n m) (Ow s a)) none:=by
 have g:=h.find r;refine fo func31 (AXr λ_=>by simp[SV.keys,Ax,Dy]) λv t w i=> ?_;unfold Ow;cases d:Ai s a with
 |some o=>
  let⟨j,q,c,l,u⟩:=g.2 o d;exact gg [(14,.hand (.lookup 175 (.tmp 12) (.tmp 13) true) [(12,.m 2),(13,.v (.string (AR a)))] [(2,.obj (.map b n))] I (.t [.g ((FA o q).map .v),.v (.bool true)]) (O9 A6 (L:=lay) (t:=175) (a:=12) (b:=13) (km:=2) (n:=n) (kt:=9) (et:=87) (d1:=.string) (es:=b) (kv:=.string (AR a)) (j:=j) (xs:=FA o q) rfl Cm A0 c))]<|CK (WL I o q (p o d) l) kR λf J hle e=>gG<|dn [] ⟨f,J,rfl,hle,e⟩
 |none=>
  have c:=g.1 d;refine gg [(14,.hand (.lookup 175 (.tmp 12) (.tmp 13) true) [(12,.m 2),(13,.v (.string (AR a)))] [(2,.obj (.map b n))] I (.t [.g ((FA Cb GI).map .v),.v (.bool false)]) (SB A6 (L:=lay) (t:=175) (a:=12) (b:=13) (km:=2) (n:=n) (kt:=9) (et:=87) (d1:=.string) (es:=b) (kv:=.string (AR a)) (zs:=FA Cb GI) rfl Cm A0 ADf c))]<|CK (WL I Cb GI (by show 0<=_;omega) Lg) kR λf J hle e=> ?_;exact gG<|dn [] ⟨f,J,rfl,hle,e⟩
def AGW{I n}(b:Bg n):∀ {a:AA Ah} {l:Ao} {j:Nat},DD (Hv I) a l->(∀p∈l,Bg p.1)->a[j]?.map (·.key)=some (.string (AR n))->n∈l.map (·.1)
 |_,_,j,.nil,_,h=>by simp at h
 |_,_,0,.cons (a:=e) (b:=p) h1 hr,hm,h=>by simp at h;rw[h1.1]at h;simp[Value.string.injEq]at h;have:=N3 (hm p sP) b (str_inj.1 (El ByteArray.toList h));simp[this]
 |_,_,j+1,.cons h1 hr,hm,h=>by have:=AGW b hr (λp c=>hm p (DW _ c)) (by simpa using h);exact DW _ this
def DD.up{I J}(hle:I.le J):∀ {a:AA Ah} {l:Ao},DD (Hv I) a l->DD (Hv J) a l
 |_,_,.nil=>.nil
 |_,_,.cons h hr=>.cons (h.up hle) (hr.up hle)
def DJ.up{I J s c ck}(h:DJ I s c ck)(hle:I.le J):DJ J s c ck:=⟨h.perm.imp λ_ ⟨a,b⟩=>⟨a,b.up hle⟩,h.nd,h.nm,h.bo⟩
def ACT(n:Nm)(o:Ob)(q:Dp)(e:Ah):Ah:={e with key:=.string (AR n),val:=.agg (FA o q).toArray}
def Kn(n:Nm)(o:Ob)(x:Nm×Ob):Nm×Ob:=if x.1==n then(n,o)else x
def AEi{I J}{n}{o}{q}(hle:I.le J)(c:Bg n)(g:EZ J o q): ∀ {es:AA Ah} {l:Ao} {j:Nat},DD (Hv I) es l->(l.map (·.1)).Nodup->(∀p∈l,Bg p.1)->es[j]?.map (·.key)=some (.string (AR n))->DD (Hv J) (es.modify j (ACT n o q)) (l.map (Kn n o))
 |_,_,j,.nil,_,_,h=>by simp at h
 |_,_,0,.cons (a:=e) (b:=p) (l:=es) (m:=l) h1 hr,nd,hm,h=>by
  simp at h;rw[h1.1]at h;simp only[Value.string.injEq]at h;have f:=N3 (hm p sP) c (str_inj.1 (El ByteArray.toList h));simp only[EM,Gl]at nd;have i:l.map (Kn n o)=l:=by
   have: ∀x∈l,Kn n o x=x:=λx k=>by unfold Kn;rw[AN];intro hb;exact nd.1 (by rw[f,<-eq_of_beq hb];exact BG.2 ⟨x,k,rfl⟩)
   rw[Ih this];simp
  rw[EM,i];refine .cons ?_ (hr.up hle);have:Kn n o p=(n,o):=by unfold Kn;rw[AW (by rw[f];simp)]
  rw[this];exact⟨rfl,q,rfl,g⟩
 |_,_,j+1,.cons (a:=e) (b:=p) (l:=es) (m:=l) h1 hr,nd,hm,h=>by
  simp only[EM,Gl]at nd;have a: ∀p∈l,Bg p.1:=λp hp=>hm p (DW _ hp);have hk:es[j]?.map (·.key)=some (.string (AR n)):=by simpa using h
  have b:=AGW c hr a hk;have d:Kn n o p=p:=by unfold Kn;rw[AN];intro hb;exact nd.1 (by rw[eq_of_beq hb];exact b)
  rw[EM,d];exact .cons (h1.up hle) (AEi hle c g hr nd.2 a hk)
def AJs{n o}(x):(Kn n o x).1=x.1:=by unfold Kn;split;rename_i h;exact(eq_of_beq h).symm;rfl
theorem DJ.put{I J s b n o q j ck}(h:DJ I s b ck)(hle:I.le J)(i:Bg n)(k:EZ J o q)(f:b[j]?.map (·.key)=some (.string (AR n))):DJ J (s.map (Kn n o)) (b.modify j (ACT n o q)) ck:=by
 let⟨l,c,e⟩:=h.perm;have g:∀p∈l,Bg p.1:=λp a=>h.nm p (c.mem_iff.1 a);have r:(l.map (·.1)).Nodup:=(c.map _).nodup_iff.2 h.nd;have d:(s.map (Kn n o)).map (·.1)=s.map (·.1):=by rw[HA];exact Ih λx _=>AJs x
 refine⟨⟨l.map (Kn n o),c.map _,?_⟩,by rw[d];exact h.nd,λp a=> ?_,h.bo.modify _ _ λ_=>rfl⟩;rw[ADg];exact AEi hle i k e r g (by simpa using f);obtain⟨x,m,rfl⟩:=BG.1 a;rw[AJs];exact h.nm x m
def Nt(I:AB)(x y:Nat)(a b:AV)(r:Bool)(c:decide (a=b)=r)(d:Av:=42):Hint:=
 .hand (.binOp .neq 42 (.tmp x) (.tmp y) d) [(x,Cc a),(y,Cc b)] [] I (.v (.bool (!r))) (AIf dC λ_ w=>c▸eqL w)
def U8:prog.underlying 175=some (.map 9 87):=kR
def SZ(s:Ao)(n:Nm)(o:Ob):Nat:=match Ai s n with
 |none=>10
 |some w=>if w.kind≠o.kind\/w.l≠o.l then 11 else 0
def AEV(I:AB)(e:Ao)(d:AY Ah)(m a:Nat):Nat->AU->Prop:=λ_ h=>∃(b:AY Ah)(c:Nat)(J:AB),I.le J/\DJ J e b c/\h= {r:=.v (.int .i64 a),upd:=GC b d c m,J:=J}
def wf_set{I}{s l:Ao}{f e n m c}:CO (AEV I l e m c) (GC f e n m) I:=by refine⟨?_⟩;rintro j h ⟨g,p,J,hle,_,rfl⟩;refine⟨⟨nA,λo d=> ?_,nA,sP,sP⟩,hle⟩;simp[mS]at d;rcases d with rfl|rfl|rfl;exact⟨sP,λk a=>by simp[AG.keys,Ax,SV.keys]at a;rcases a with rfl|rfl<;>simp⟩;exact⟨sP,nA⟩;exact⟨sP,nA⟩
def AKq(I s c D n m e o q)(C:Bg e)(E:o.var.q.length<=1000000)(F:EZ I o q)(h:DJ I s c n):Fn 145 [.p 1 0,.v (.string (AR e)),.g (Dy o q)] (GC c D n m) I (AEV I (Cf s e o) D m (SZ s e o)) none:=by
 have z:=h.find C;refine fo func145 (wf_set (s:=s)) λL H w B=> ?_;unfold Cf SZ;cases A:Ai s e with
 |none=>
  have t:=z.1 A;exact gg [(15,.hand (.lookup 175 (.tmp 13) (.tmp 14) true) [(13,.m 2),(14,.v (.string (AR e)))] [(2,.obj (.map c n))] I (.t [.g ((FA Cb GI).map .v),.v (.bool false)]) (SB A6 (L:=lay) (t:=175) (a:=13) (b:=14) (km:=2) (n:=n) (kt:=9) (et:=87) (d1:=.string) (es:=c) (kv:=.string (AR e)) (zs:=FA Cb GI) rfl Cm A0 ADf t))]<|dn [] ⟨c,n,I,AB.le_refl _,h,rfl⟩
 |some u=>
  let⟨j,K,t,N,y⟩:=z.2 u A;simp only;have a:=O9 A6 (L:=lay) (t:=175) (a:=13) (b:=14) (km:=2) (n:=n) (kt:=9) (et:=87) (d1:=.string) (es:=c) (kv:=.string (AR e)) (j:=j) (xs:=FA u K) (I:=I) rfl Cm A0 t;by_cases g:u.kind=o.kind;by_cases f:u.l=o.l;rw[AN (by simp[g,f]),AN (by simp[g,f])];refine gg [(15,.hand _ [(13,.m 2),(14,.v (.string (AR e)))] [(2,.obj (.map c n))] I _ a),(24,Ct (u.kind:Int) (o.kind:Int) oG),(30,Nt I 27 29 u.l o.l true (GL f))]<|CK (WL I o q E F) kR λv J hle x=>gG<|act (need:=[(2,.obj (.map c n))]) [2] kR (ARZ (I:=J) (km:=2) (n:=n) (n':=n) (kv:=.string (AR e)) (v:=.agg (FA o v).toArray) (sx:=.g (Dy o v)) (es:=c) (es':=c.modify j (ACT e o v)) (t:=175) (m:=.tmp 35) (k:=.tmp 36) (x:=.tmp 38) kR kR kR kR (λL=>by rw[AJL];simp[den];rw[Fu]) (AP.2 rfl) (λw r p=>AIz (kv:=.string (AR e)) (v:=.agg (FA o v).toArray) U8 Cm A0 t y w r p)) ?_ ?_ ?_;rintro h rfl G i;rw[AP.1 i];exact AP.2 rfl;rintro h rfl;refine{r:=nA,u:=λG i=> ?_,n:=nA,l:=by simp,le:=AB.Fa _,d:=by simp};rw[AP.1 i];exact⟨AP.2 rfl,λb p=>by rw[(GY (AP.1 p)).2];rfl,nA⟩;rintro M rfl;exact gG<|dn [] ⟨_,n,J,hle,h.put hle C x y,rfl⟩;rw[AW (.inr f),AW (.inr f)];exact gg [(15,.hand _ [(13,.m 2),(14,.v (.string (AR e)))] [(2,.obj (.map c n))] I _ a),(24,Ct (u.kind:Int) (o.kind:Int) oG),(30,Nt I 27 29 u.l o.l false (IL f))]<|dn [] ⟨c,n,I,AB.le_refl _,h,rfl⟩;rw[AW (.inl g),AW (.inl g)]
  exact gg [(15,.hand _ [(13,.m 2),(14,.v (.string (AR e)))] [(2,.obj (.map c n))] I _ a),(24,FJ (u.kind:Int) (o.kind:Int) oG)]<|dn [] ⟨c,n,I,AB.le_refl _,h,rfl⟩
section
variable {F:FuncId} {a:Func} {n:Nat} {I:AB} {w:World} {ρ:Nat->Nat} {A:List Nat} {f:BU}
theorem JD{d g b q t j G s}(h:Fn G g b q j (some s))(k i)(l:Ci f n G k b i=some (Bz (AT k) g,b.map (λp=>some (p.2.Am (AT k))),q))
 (m:∀d h,j d h->∀p∈h.upd,p.1∈i)
 (hend:∀h,j (Cw f) h->∃u,IF (f.σ.Dd none (Cw f) (h.rn (AT k))) A=some u/\Ew (Gy u) A/\t d {r:=.v undef,upd:=u,J:=(f.σ.Dd none (Cw f) (h.rn (AT k))).im}):At F a n I w ρ A (Ends I ρ d w t (some s)) f:=
 ⟨λ_=>by
   rw[<-TW];exact AFk (c:=ctx prog F a n I w ρ A) h.out h.JF k i l m (λe=>by cases e) (λc e h o=>by cases e;let⟨u,v,x,y⟩:=hend h o;exact AVI v rfl x y)⟩
end
def Fv(n:Int):AA PanicEntry:=[{v:=.iface 295 (.agg #[.int .i64 n]),recovered:=false}]
theorem AQH(n:Int)(w):Calls prog 312 #[.int .i64 n] w λe b=>e=.panicked (Fv n)/\w=b:=by
 go_enter func312,ntmps312
 go_wp2
 first|exact⟨rfl,rfl,rfl⟩|exact⟨rfl,⟨rfl,rfl⟩⟩|(simp[bodyPost,Fv];done)
def Zk(I:AB)(b:AA (Nat×AG)):Nat->AU->Prop:=λ_ h=>h= {r:=.v undef,upd:=b,J:=I}
theorem AML{I}:CO (Zk I []) [] I:=by refine⟨?_⟩;rintro g h rfl;exact⟨⟨nA,nA,nA,sP,sP⟩,AB.le_refl _⟩
theorem Rq(I)(n:Int):Fn 312 [.v (.int .i64 n)] [] I (Zk I []) (some (Fv n)):=by refine⟨⟨AML.Cg.out,λρ m w g hN h _ _=> ?_⟩,AX.Hw func312 kR kR⟩;refine(AQH n w).mono ?_;rintro e q ⟨rfl,rfl⟩;exact⟨_,λ_=>0,rfl,⟨rfl,rfl,rfl,AZ _,λb c _ _=>rfl,nA,(λj b l=>by simp at l),(λi j k=>by simp at k),h,λb o c=>.inl c,λb o c=>Gg c⟩,rfl⟩
theorem SC(I):Fn 299 [.v (.int .i64 0)] [] I (A1 (.t []) I) none:=fo func299 (BZ rfl) λρ c w b=>gg [(3,Ct 0 0 rfl)]<|fi
theorem XP(I)(n:Int)(e:n≠0):Fn 299 [.v (.int .i64 n)] [] I (Zk I []) (some (Fv n)):=by
 exact fo func299 AML λρ g w d=>gg [(3,FJ n 0 e)]<|JD (Rq I n) [] [] kR (λ_ h c i b=>by rw[show h=_ from c]at b;cases b) λh c=>by rw[show h=_ from c];exact⟨[],kR,kR,rfl⟩
def ANc:AA AE:=[.int .i64 25,.int .i64 26,.int .i64 27,.int .i64 28,.int .i64 29,.int .i64 30,.int .i64 32,.int .i64 33,.int .i64 34,.int .i64 35,.int .i64 36,.int .i64 37,.int .i64 38,.int .i64 39,.int .i64 40,.int .i64 41,.int .i64 42,.int .i64 43,.int .i64 45,.int .i64 46]
def AEv:AA SV:=[.v (.func (.func 226) #[] #[]),.v (.func (.func 227) #[] #[]),.v (.func (.func 228) #[] #[]),.v (.func (.func 229) #[] #[]),.v (.func (.func 230) #[] #[]),.v (.func (.func 231) #[] #[]),.v (.func (.func 232) #[] #[]),.v (.func (.func 233) #[] #[]),.v (.func (.func 234) #[] #[]),.v (.func (.func 235) #[] #[]),.v (.func (.func 236) #[] #[]),.v (.func (.func 237) #[] #[]),.v (.func (.func 238) #[] #[]),.v (.func (.func 239) #[] #[]),.v (.func (.func 240) #[] #[]),.v (.func (.func 241) #[] #[]),.v (.func (.func 242) #[] #[]),.v (.func (.func 243) #[] #[]),.v (.func (.func 244) #[] #[]),.v (.func (.func 245) #[] #[])]
def AEF(I:AB):Nat->AU->Prop:=λa h=>h= {r:=.m a,nb:=[.DZ ANc AEv],J:=I}
def AZO{I}:CO (AEF I) [] I:=by refine⟨?_⟩;rintro e h rfl;refine⟨⟨(λk a=>.inr ?_),nA,(λb d k a=> ?_),sP,sP⟩,AB.le_refl _⟩;simp[SV.keys]at a;rw[a];exact MN _ _;rw[AP.1 d]at a;simp[AG.keys,AEv,Ax,SV.keys]at a
def ANh(I):Fn 158 [] [] I (AEF I) none:=fo func158 AZO λc b w a=>gG<|dn [108] rfl
structure Aq where
 a:AK Ac
 n:Nat
 c:Nat
def Aq.sv(s:Aq):SV:=.v (.slice s.a s.n s.c)
structure Cl where
 im:Ak
 ip:CY
 now:Nat
 t:AJ
 a:CV
 tries:Nat
 fork:Aq
 out:Aq
 log:Aq
 woken:Aq
 done:Bool
 o:Lz.Op
 args:Aq
 AL:AH
def Cl.row(c:Cl)(a:SV):AA SV:=De c.im c.ip++a::.v (.int .i64 c.now)::(CG c.t c.a++[.v (.int .i64 c.tries),c.fork.sv,c.out.sv,c.log.sv,c.woken.sv,.v (.bool c.done),.v (.int .i64 c.o.code),.v (.int .i64 c.o.a),c.args.sv,.v (.int .u8 c.AL.toNat)])
def Cl.blk(c:Cl):AG:=.cells (c.row (.p 2 0)) 218
abbrev Qu:AG:=.cells [.m 3,.m 4] 178
structure Sm where
 es:AY Ah
 n:Nat
 ns:AY Ah
 m:Nat
def C3(c:Cl)(s:Sm):AA (Nat×AG):=[(1,c.blk),(2,Qu),(3,.obj (.map s.es s.n)),(4,.obj (.map s.ns s.m))]
def Vh{a:Type}(I:AB)(s:Sm)(S:a->Cl)(R:AB->a->Prop):Nat->AU->Prop:=λ_ h=>∃x J,h= {r:=.t [],upd:=C3 (S x) s,J:=J}/\I.le J/\R J x
def VD{ι:Type}{I:AB}{s:Sm}{S:ι->Cl}{R:AB->ι->Prop}{c:Cl}:CO (Vh I s S R) (C3 c s) I:=by refine⟨?_⟩;rintro key h ⟨x,J,rfl,hle,_⟩;refine⟨⟨(λk hk=>by cases hk),λkb a=> ?_,(λb hb=>by cases hb),sP,by simp[C3]⟩,hle⟩;simp only[C3,List.mem_cons,List.not_mem_nil,_root_.or_false]at a;rcases a with rfl|rfl|rfl|rfl;refine⟨by simp[C3],λk hk=> ?_⟩;simp[Cl.blk,Cl.row,De,CG,Aq.sv,AG.keys,Ax,SV.keys]at hk;subst hk;exact .inl (by simp[C3]);exact⟨by simp[C3],λk hk=>by simp[AG.keys,Ax,SV.keys]at hk;rcases hk with rfl|rfl<;>exact .inl (by simp[C3])⟩;exact⟨by simp[C3],λk hk=>by cases hk⟩;exact⟨by simp[C3],λk hk=>by cases hk⟩
abbrev Vl(I:AB)(s:Sm)(c:Cl)(x:Val):Nat->AU->Prop:=Vh I s (λq:CN=>{c with t:={c.t with c:=Ce c.t.c x},a:={c.a with p:=q}}) (λJ q=>CH J (Ce c.t.c x) q)
def AK6(I s c x)(b:c.t.c.stack.length<=1000000)(h:CH I c.t.c c.a.p):Fn 304 [.p 1 0,Cn x] (C3 c s) I (Vl I s c x) none:=fo func304 VD λρ g w a=>gG<|CK (ACS I c.t.c c.a.p x b h) kR λq J hle e=>gG<|dn [] ⟨q,J,rfl,hle,e⟩
section
variable {F:FuncId} {d:Func} {n:Nat} {I:AB} {w:World} {ρ:Nat->Nat} {A:List Nat} {R:Dl} {f:BU}
def AAG{ι:Type}{args:List SV}{I':AB}{G:FuncId}{s:Sm}{c:Cl}{S:ι->Cl}{Q:AB->ι->Prop}(h:Fn G args (C3 c s) I' (Vh I' s S Q) none)(b:Ci f n G [] (C3 c s) [1,2,3,4]=some (Bz (AT []) args,(C3 c s).map (λkb=>some (kb.2.Am (AT []))),I'))(hnext: ∀x J,I'.le J->Q J x->At F d n I w ρ A R (f.out (AT []) {r:=.t [],upd:=C3 (S x) s,J:=J})):At F d n I w ρ A R f:=
 Ag h [] [1,2,3,4] b (λ_ h e kb a=>by obtain⟨x,J,rfl,_⟩:=e;simp only[C3,List.mem_cons,List.not_mem_nil,_root_.or_false]at a;rcases a with rfl|rfl|rfl|rfl<;>simp) λh e=>by obtain⟨x,J,rfl,hle,q⟩:=e;exact hnext x J hle q
end
def AKy(I s c l)(b:c.t.c.stack.length<=1000000)(h:CH I c.t.c c.a.p):Fn 295 [.p 1 0,Cc l] (C3 c s) I (Vl I s c (Cx l)) none:=fo func295 VD λρ g w a=>gG<|AAG (AK6 I s c (Cx l) b h) kR λq J hle e=>gG<|dn [] ⟨q,J,rfl,hle,e⟩
def AW1(I s c)(b:c.t.c.stack.length<=1000000)(h:CH I c.t.c c.a.p):Fn 226 [.p 1 0] (C3 c s) I (Vl I s c (Cx c.t.g.cur)) none:=fo func226 VD λρ g w a=>gG<|AAG (AKy I s c c.t.g.cur b h) kR λq J hle e=>gG<|dn [] ⟨q,J,rfl,hle,e⟩
def AWw(I s c)(b:c.t.c.stack.length<=1000000)(h:CH I c.t.c c.a.p):Fn 227 [.p 1 0] (C3 c s) I (Vl I s c (Cx c.t.g.Al)) none:=fo func227 VD λρ g w a=>gG<|AAG (AKy I s c c.t.g.Al b h) kR λq J hle e=>gG<|dn [] ⟨q,J,rfl,hle,e⟩
def AEc(I:AB)(s:Sm)(c:Cl):Nat->AU->Prop:=λ_ h=>h= {r:=.v undef,upd:=C3 c s,J:=I}
def AZy{I s c}:CO (AEc I s c) (C3 c s) I:=by refine⟨?_⟩;rintro f h rfl;refine⟨⟨nA,λg d=> ?_,nA,sP,by simp[C3]⟩,AB.le_refl _⟩;simp[C3,mS]at d;rcases d with rfl|rfl|rfl|rfl;refine⟨by simp[C3],λk a=> ?_⟩;simp[Cl.blk,Cl.row,De,CG,Aq.sv,AG.keys,Ax,SV.keys]at a;subst a;exact .inl (by simp[C3]);exact⟨by simp[C3],λk a=>by simp[AG.keys,Ax,SV.keys]at a;rcases a with rfl|rfl<;>exact .inl (by simp[C3])⟩;exact⟨by simp[C3],nA⟩;exact⟨by simp[C3],nA⟩
def AXh(I s c l)(f:Kk c.t.g)(e:Bo l)(d:(EB c.t.g l).2=0):Fn 297 [.p 1 0,Cc l] (C3 c s) I (Vh I s (λ_:Unit=>{c with t:={c.t with g:=(EB c.t.g l).1}}) (λ_ _=>True)) none:=by have a:=ALE I c.t.g l f e;rw[d]at a;generalize(EB c.t.g l).1=g at a;exact fo func297 VD λi h w b=>gG<|call a kR<|gG<|call (SC I) kR<|gG<|dn [] ⟨(),I,rfl,AB.le_refl _,A0⟩
def AXi(I s c l)(k:Kk c.t.g)(j:Bo l)(f:(EB c.t.g l).2≠0):Fn 297 [.p 1 0,Cc l] (C3 c s) I (AEc I s c) (some (Fv (EB c.t.g l).2)):=by
 have d:=ALE I c.t.g l k j;generalize(EB c.t.g l).2=e at d f;generalize(EB c.t.g l).1=g at d;exact fo func297 AZy λo m w i=>gG<|call d kR<|gG<|JD (XP I e f) [] [] kR (λ_ h b n a=>by rw[show h=_ from b]at a;cases a) λh b=>by rw[show h=_ from b];exact⟨C3 c s,kR,kR,rfl⟩
end
section
open Go.AX Go.Maps Go.RowKit Go.Shelf Go.Sort Lz
def lB{F B}(h:(prog.funcs[F]?)=some {B with name:=((prog.funcs[F]?).getD Af).name}:=by kernel_rfl)(a:(((prog.funcs[F]?).getD Af).name== "runtime.NumGoroutine")=false:=by decide+kernel):Bears prog F B:=⟨_,a,h⟩
def AMe:Ren where
 f:=λx=>match x with|7=>272|10=>344|n=>n
 t:=λx=>match x with|23=>378|26=>3|3=>4|28=>366|0=>0|27=>365|33=>419|4=>4|n=>n
 g:=λx=>have n:=x;n
def AZ8:SlLaysZI.n7 prog AMe:=by constructor<;>first|exact lB|(intros;kernel_rfl)
def AMg:Ren where
 f:=λx=>match x with|6=>271|8=>342|9=>343|11=>374|13=>376|12=>375|23=>408|24=>328|14=>399|15=>400|16=>401|17=>402|18=>403|19=>404|20=>405|21=>406|22=>407|25=>415|26=>416|27=>417|28=>418|29=>419|30=>324|31=>421|n=>n
 t:=λx=>match x with|26=>3|28=>366|24=>100|0=>0|3=>3|37=>302|48=>423|50=>227|4=>4|40=>478|39=>477|45=>221|5=>5|9=>9|51=>491|55=>495|57=>500|58=>208|33=>419|n=>n
 g:=λx=>have n:=x;n
def AaB:SlLaysZI.n6 prog AMg:=by constructor<;>first|exact lB|(intros;kernel_rfl)
def AaA:Ren where
 f:=λx=>match x with|5=>343|8=>376|7=>375|19=>408|20=>328|10=>399|11=>400|12=>401|13=>402|14=>403|15=>404|16=>405|17=>406|18=>407|30=>415|31=>416|32=>417|33=>418|34=>419|35=>324|40=>421|n=>n
 t:=λx=>match x with|23=>100|25=>3|3=>3|32=>302|22=>100|0=>0|44=>423|46=>227|4=>4|36=>478|35=>477|41=>221|5=>5|9=>9|53=>491|57=>495|63=>500|64=>208|n=>n
 g:=λx=>have n:=x;n
def AMf:SlLaysM.n5 prog AaA:=by constructor<;>first|exact lB|(intros;kernel_rfl)
def AaD(m):AnyZI.SortsIn prog AMg Fence.wide m:=
 ⟨λblk c a e W d hblk b=>callsIn_wide.2 (AnyM.slices_Sort_int AMf blk c a e W d hblk b),
  λp a W=>callsIn_wide.2 (AnyM.slices_Sort_int_none AMf p a W)⟩
def AaC(B b j:Nat)(c:DataW Nat)(R:Value->Option (DataW Nat×List MemPlace))(w:World)(m:B<w.heap.size)(d:w.cell? ⟨B,0,none⟩=some (.map (some b)))(h:w.ownsMap prog 3 R b j c)(g:Maps.size c<=maxLen)(a:Maps.size c*8<=140737488355328):
 Calls prog 271 #[.func (.func 344) #[] #[.pointer (some ⟨B,0,none⟩)]] w λe k=>∃(v:Value)(f:List Int),e=.returned v/\f.Perm (intKeys c)/\
  k.ownsRow w.heap.size 3 1 v f.length ((f.mergeSort (λx y=>decide (x<=y))).map encZ)/\(v=.slice none 0 0↔f=[])/\Below w.heap.size w k:=by
 refine(callsIn_wide (n:=6)).1 ?_;have i:SeqGives Fence.wide 3 prog 344 #[.pointer (some ⟨B,0,none⟩)] encZ (λf=>f.Perm (intKeys c)) (Maps.size c) w:=
  AnyZI.keys_gives (ρ:=AMe) {AZ8 with} Fence.wide _ trivial rfl oG B b j c _ m d h
 have l:=AnyZI.sorted_in AaB Fence.wide 6 trivial trivial trivial trivial rfl oG (AaD _) (Hw func343 kR kR) 344 #[.pointer (some ⟨B,0,none⟩)] trivial (Hw func344 kR kR) _ _ g a _ i;exact l
end
section
open Go.AX Go.Maps Go.RowKit Go.Shelf Lz
def lB2{F B}(h:(prog.funcs[F]?)=some {B with name:=((prog.funcs[F]?).getD Af).name}:=by kernel_rfl)(a:(((prog.funcs[F]?).getD Af).name== "runtime.NumGoroutine")=false:=by decide+kernel):Bears prog F B:=⟨_,a,h⟩
def AOn:Ren where
 f:=λx=>match x with|5=>116|7=>171|n=>n
 t:=λx=>match x with|23=>175|25=>9|3=>87|4=>4|20=>20|n=>n
 g:=λx=>have n:=x;n
def AOl:SlLaysW.n5 prog AOn:=by constructor<;>first|exact lB2|(intros;kernel_rfl)
def AOq:Ren where
 f:=λx=>match x with|5=>117|7=>171|n=>n
 t:=λx=>match x with|23=>176|25=>42|3=>38|4=>4|20=>20|n=>n
 g:=λx=>have n:=x;n
def AOo:SlLaysW.n5 prog AOq:=by constructor<;>first|exact lB2|(intros;kernel_rfl)
def AFy{F I l}{w:AI}{a r c n}{need:AA (Nat×AG)}(u:Holds w I)(t:Calls prog F #[.map (some r)] w λe k=>e=.returned (.map (some w.heap.size))/\k=w.alloc (.map c n)):
 Calls prog F #[.map (some r)] w λe k=>∃h q,h= {r:=.m a,nb:=[.obj (.map c n)],J:=I}/\After I l w k a q h/\e=.returned (den (h.Am l a q) h.r):=by
 refine t.mono ?_
 rintro e k ⟨rfl,rfl⟩
 have d:BB w (w.alloc (.map c n)):=⟨rfl,rfl,rfl,by show _<=(w.heap.push _).size;rw[Lj];exact B9 _,λx s=>(MapKept.heap_alloc w _).2 x s⟩
 have f:AU.Am {r:=.m a,nb:=[.obj (.map c n)],J:=I} l a (λ_=>w.heap.size) a=w.heap.size:=by
  have:=Kp (h:={r:=.m a,nb:=[.obj (.map c n)],J:=I}) (ρ:=l) (key:=a) (j:=0) (q:=λ_=>w.heap.size) (b:=.obj (.map c n)) rfl
  rw[FD]at this
  exact this
 refine⟨{r:=.m a,nb:=[.obj (.map c n)],J:=I},λ_=>w.heap.size,rfl,⟨d.os,d.tape,d.output,d.size,λx s _ _=>d.block x s,nA,λj y g=> ?_,λi j v g _=>by simp at v g;omega,d.holds u,λb o m=>.inl m,λb o m=>Gg m⟩,?_⟩
 .cases j with
  |zero=>cases g;exact⟨(MapKept.heap_alloc w _).1,rfl,.inl (AZ _)⟩
  |succ j=>simp at g
 .simp[den,f]
def ZL(I:AB)(b:AY Ah)(n:Nat):Nat->AU->Prop:=λa h=>h= {r:=.m a,nb:=[.obj (.map b n)],J:=I}
def AMA{I f n c}:∀a h,ZL I f n a h->h.OJ a c/\I.Cd h.J:=by rintro a h rfl;refine⟨⟨λk d=> ?_,nA,λb g k d=> ?_,sP,sP⟩,AB.Fa _⟩;simp[SV.keys]at d;subst d;right;show(Bf k [AG.obj (Obj.map f n)] (k+0)).isSome;rw[Gx];rfl;simp at g;subst g;cases d
def AOm(I a n):Fn 116 [.m 1] [(1,.obj (.map a n))] I (ZL I a n) none:=by refine⟨⟨AMA,λf e w b hN c _ _=> ?_⟩,Hw func116 kR kR⟩;have d:=hN (1,.obj (.map a n)) sP _ rfl;exact AFy (need:=[]) c (AnyW.maps_Clone AOl (f 1) a n w d)
def AOp(I b a n)(e:I b=some (.map a n)):Fn 117 [.v (.map (some b))] [] I (ZL I a n) none:=by refine⟨⟨AMA,λg f w d hN c _ _=> ?_⟩,Hw func117 kR kR⟩;exact AFy (need:=[]) c (AnyW.maps_Clone AOo b a n w (c.1 b _ e))
end
end Go.Proofs.YtomehhepbeiinaaGreatDoor
namespace Go.AX
def AB.SY(I:AB)(b:Nat)(o:Obj):Prop:=I b=some o\/I.has b o
def AB.SY.B0{I:AB}{b o}(h:I.SY b o):I.B0 b=some o:=h.elim AB.N9 AB.has.B0
def AB.SY.up{I J:AB}{b o}(h:I.SY b o)(k:I.le J):J.SY b o:=h.imp (k b o) (k.own b o)
end Go.AX
namespace Go.Proofs.YtomehhepbeiinaaGreatDoor
open Tryz
open Go.AX Lz
def A5(n:Nm):AE:=.string (AR n)
structure NsI(I:AB)(ns:AA Nm)(a:AK Ac)(c:Nat):Prop where
 cap:ns.length<=c
 max:c<=maxLen
 at_:0<ns.length->∃b AC,a=some ⟨b,0,none⟩/\I.SY b (.cells (ns.map A5++AC).toArray 9 (0,0))
def AF1:∀a b:Nm,FG a b<0↔DL a b
 |[],[]=>by simp[FG,DL]
 |[],_::_=>by simp[FG,DL]
 |_::_,[]=>by simp[FG,DL]
 |x::a,y::b=>by simp[FG,DL];by_cases h:x<y;simp[h];by_cases c:y<x;simp[h,c,show¬x=y by omega];have:x=y:=oG;subst this;simp[AF1 a b]
def AAT:∀a b:Nm,FG a b=0↔a=b
 |[],[]=>by simp[FG]
 |[],_::_=>by simp[FG]
 |_::_,[]=>by simp[FG]
 |x::a,y::b=>by simp[FG];by_cases h:x<y;simp[h,show¬x=y by omega];by_cases c:y<x;simp[h,c,show¬x=y by omega];have:x=y:=oG;subst this;simp[AAT a b]
abbrev OY(l:AA Nm):Prop:=l.Pairwise λa b=>DL a b
def Km(l:AA Nm)(k:Nm):Nat:=(l.takeWhile λx=>DL x k).length
def AVm{l k i}(a:i<=l.length)(c:∀j x,j<i->l[j]? =some x->DL x k)(d:∀x,l[i]? =some x->DL x k=false):Km l k=i:=by
 induction l generalizing i with
 |nil=>simp at a;subst a;rfl
 |cons y l e=>
  unfold Km;cases i with
  |zero=>rw[Po,d y rfl];rfl
  |succ i=>
   rw[Po,c 0 y oG rfl];simp[Lq,EW];have:=e (i:=i) (by simpa using a) (λj x f b=>c (j+1) x oG (by simpa using b)) (λx b=>d x (by simpa using b));unfold Km at this;rw[this]
def AYt{n:Nat}(h:n<=1000000000):IntKind.u64.wrap (n:Int)=(n:Int):=by show(n:Int)%2^64=_;omega
def AXH{I}{n:Nat}(x y):∀w,Db w I->∃a,((do eqGuard .shr 302 x y (.int .u64 (n:Int)) (.int .u64 1);binOp .shr 302 (.int .u64 (n:Int)) (.int .u64 1):Sem AE)).run prog w=.ok (den id (.v (.int .u64 ((n/2:Nat):Int)))) a/\BB w a:=λw _=>
 ⟨w,by
   have b:(eqGuard .shr 302 x y (.int .u64 (n:Int)) (.int .u64 1)).run prog w=.ok () w:=rfl;simp[Sem.run_bind,b,Result.andThen_ok];have c:(binOp .shr 302 (.int .u64 (n:Int)) (.int .u64 1))=Op.shift .shr .u64 (n:Int) .u64 1:=rfl;rw[c,shift_shr _ _ _ _ dC dC];simp[den],BB.refl w⟩
def AAC(I:AB)(a:AK Ac)(n c:Nat)(key:Nm)(i j:Nat):Hd where
 By:=[(0,.v (.slice a n c)),(1,.v (.string (AR key))),(2,.v (.func (.func 106) #[] #[])),(8,.v (.int .i64 (n:Int))),(9,.v (.int .i64 (i:Int))),(10,.v (.int .i64 (j:Int)))]
 Bu:=[]
 J:=I
abbrev AMz(I:AB)(b:AA Nm)(a:Nm):Nat->AU->Prop:=Ft I (λp:Nat×Bool=>.t [.v (.int .i64 (p.1:Int)),.v (.bool p.2)]) (λ_ p=>p.1<=b.length/\(OY b->p=(Km b a,decide (b[Km b a]? =some a))))
structure BsP(I:AB)(ns:AA Nm)(key:Nm)(x:AB×Nat×Nat):Prop where
 le:I.le x.1
 ij:x.2.1<=x.2.2
 jn:x.2.2<=ns.length
 lo:OY ns->∀q y,q<x.2.1->ns[q]? =some y->DL y key
 hi:OY ns->∀q y,x.2.2<=q->ns[q]? =some y->DL y key=false
def AGn(I)(S:Pow I)(d:AA Nm)(a c key)(X:NsI I d a c)(W:∀n∈d,BY n)(U:BY key)(hl:d.length<=1000000):Fn 105 [.v (.slice a d.length c),.v (.string (AR key)),.v (.func (.func 106) #[] #[])] [] I (AMz I d key) none:=by
 refine fo func105 (EK λ_=>rfl) λρ V w k=> ?_;refine gG ?_;refine loop (ι:=AB×Nat×Nat) (BsP I d key) (λx=>x.2.2-x.2.1) (λx=>AAC x.1 a d.length c key x.2.1 x.2.2) 300 [] (I,0,d.length) ⟨AB.le_refl _,BS _,AZ _,λ_ q y h=>absurd h (Nat.not_lt_zero _),λ_ q y h s=>by have:=(B6.1 s).1;have:d.length<=q:=h;omega⟩ kR kR ?_;rintro⟨J,i,j⟩ ⟨hle,P,m,G,F⟩ again T;simp only at hle P m G F again⊢;by_cases aa:i<j;have N:(i+j)/2<d.length:=oG;have u:d[(i+j)/2]? =some d[(i+j)/2]:=A9 N;obtain⟨b,A,rfl,R⟩:=X.at_ oG;have H:=(R.up hle).B0;have f:((d.map A5++A).toArray)[0+(i+j)/2*1]? =some (A5 d[(i+j)/2]):=by rw[Lm,D5,RF,FT (by simpa using N),E0,u];rfl
 have v:=W _ (DF N);generalize ab:d[(i+j)/2]=x at u f v;refine gg [(17,hT ((i:Int)<(j:Int)) oG),(20,hW ((i:Int)+(j:Int)) ((i+j:Nat):Int) oG oG),(21,.eq (Value.int .u64 (IntKind.u64.wrap ((i+j:Nat):Int))) (.int .u64 ((i+j:Nat):Int)) (by rw[AYt oG])),(22,.op J _ _ (AXH (n:=i+j) (.tmp 21) (.const (.int .u64 1)))),(23,hW (((i+j)/2:Nat):Int) (((i+j)/2:Nat):Int) rfl oG),(27,BM J HV b 0 d.length c ((i+j)/2) N),(28,.Jq J _ _ (G5 (I:=J.B0) Cm rfl H f))]<|CK (AJY J (S.up hle) x key v U) kR λ_ B g _=> ?_;have K:=AF1 x key;have M:OY d->∀p q y z,p<q->d[p]? =some y->d[q]? =some z->DL y z:=λl p q y z Q hp E=>by obtain⟨Y,rfl⟩:=B6.1 hp;obtain⟨Z,rfl⟩:=B6.1 E;exact Mh.1 l p q Y Z Q
 by_cases C:FG x key<0;refine gg [(31,hT (FG x key<0) C),(33,hW ((((i+j)/2:Nat):Int)+1) (((i+j)/2+1:Nat):Int) oG oG)]<|back [] (AAC B (some ⟨b,0,none⟩) d.length c key ((i+j)/2+1) j) 300 kR kR kR λO=>again (B,(i+j)/2+1,j) ⟨hle.trans g,(by show(i+j)/2+1<=j;omega),m,λl q y E s=> ?_,F⟩ (by show j-((i+j)/2+1)<j-i;omega) O;have E:q<(i+j)/2+1:=E;have o:=K.1 C;rcases Lp q ((i+j)/2)with h|h;exact UP (M l q _ y x h s u) o;have:q=(i+j)/2:=oG;rw[this,u]at s;cases s;exact o;refine gg [(31,hF (FG x key<0) C)]<|back [] (AAC B (some ⟨b,0,none⟩) d.length c key i ((i+j)/2)) 300 kR kR kR λO=>again (B,i,(i+j)/2) ⟨hle.trans g,(by show i<=(i+j)/2;omega),(by show(i+j)/2<=d.length;omega),G,λl q y E s=> ?_⟩ (by show(i+j)/2-i<j-i;omega) O;have E:(i+j)/2<=q:=E;have o:DL x key=false:=by
  cases e:DL x key with
  |false=>rfl
  |true=>exact(C (K.2 e)).elim
 rcases Lp ((i+j)/2) q with h|h;cases e:DL y key with
 |false=>rfl
 |true=>have:=UP (M l _ q x y h u s) e;rw[this]at o;cases o
 have:q=(i+j)/2:=oG;rw[this,u]at s;cases s;exact o
 .have L:i=j:=oG;subst L;have t:OY d->Km d key=i:=λl=>AVm m (λq y E s=>G l q y E s) (λy s=>F l i y (AZ _) s);by_cases D:i<d.length
  .have u:d[i]? =some d[i]:=A9 D;obtain⟨b,A,rfl,R⟩:=X.at_ oG;have H:=(R.up hle).B0;have f:((d.map A5++A).toArray)[0+i*1]? =some (A5 d[i]):=by rw[Lm,D5,RF,FT (by simpa using D),E0,u];rfl
   have v:=W _ (DF D);generalize d[i]=x at u f v;refine gg [(17,hF ((i:Int)<(i:Int)) oG),(38,hT ((i:Int)<(d.length:Int)) oG),(43,BM J HV b 0 d.length c i D),(44,.Jq J _ _ (G5 (I:=J.B0) Cm rfl H f))]<|CK (AJY J (S.up hle) x key v U) kR λ_ B g _=> ?_;by_cases C:FG x key=0
   .refine gg [(47,hE (FG x key) 0 C)] ?_;exact done func105 k [] (h:={r:=.t [.v (.int .i64 (i:Int)),.v (.bool true)],J:=B}) kR ⟨(i,true),B,rfl,hle.trans g,m,λl=>by rw[t l,u,(AAT x key).1 C];simp⟩
   .exact gg [(47,hN (FG x key) 0 C)]<|done func105 k [] (h:={r:=.t [.v (.int .i64 (i:Int)),.v (.bool false)],J:=B}) kR ⟨(i,false),B,rfl,hle.trans g,m,λl=>by rw[t l,u];have: ¬x=key:=λe=>C ((AAT x key).2 e);simp[this]⟩
  .exact gg [(17,hF ((i:Int)<(i:Int)) oG),(38,hF ((i:Int)<(d.length:Int)) oG)]<|done func105 k [] (h:={r:=.t [.v (.int .i64 (i:Int)),.v (.bool false)],J:=J}) kR ⟨(i,false),J,rfl,hle,m,λl=>by rw[t l,I7 oG];simp⟩
end Go.Proofs.YtomehhepbeiinaaGreatDoor
namespace Go.AX
def TZ{I ρ w d key b r o}(hH:Holds w I)(k:d.os=w.os)(ht:d.tape=w.tape)(g:d.output=w.output)(l:w.heap.size<=d.heap.size)(hb:d.heap[b]? =some o)(f:I b=none)(hnew:(I.own b).isSome\/w.heap.size<=b)(a:∀x,x<w.heap.size->x≠b->d.heap[x]? =w.heap[x]?):
 After I ρ w d key (λ_=>0) {r:=r,J:=I.plus b o} where
 os:=k
 tape:=ht
 output:=g
 size:=l
 keep x c _ hO:=a x c λe=>by subst e;rcases hnew with h|h;rw[hO]at h;cases h;omega
 upd kb hkb:=by cases hkb
 nb j x hj:=by simp at hj
 qi i j hi:=by simp at hi
 Gu:=by refine⟨λx y c=> ?_,λx y c=> ?_⟩;have h0:=hH.1 x y c;rw[a x (Dh h0) (λe=>by rw[e]at c;rw[show I b=some y from c]at f;cases f)];exact h0;by_cases e:x=b;subst e;rw[Xs]at c;cases c;exact hb;rw[PO _ _ e]at c;have h0:=hH.2 x y c;rw[a x (Dh h0) e];exact h0
 fresh x y c:=.inl c
 Gz x y c:=by by_cases e:x=b;rcases hnew with h|h;left;rw[e];exact h;right;exact⟨by rw[e];exact h,λj hj=>by simp at hj⟩;rw[PO _ _ e]at c;left;rw[c];rfl
def MS{I:AB}{b o}(h:I b=none):(I.plus b o).has b o:=⟨Xs _ _ _,h⟩
def MU{I:AB}{b x o y}(h:I.has x y)(a:x≠b):(I.plus b o).has x y:=⟨by rw[PO _ _ a];exact h.own,h.at_⟩
def Ns{w I}(h:Holds w I){b}(a:w.heap.size<=b):I.free b:=by
 constructor;cases e:I b with
 |none=>rfl
 |some o=>have:=Dh (h.1 b o e);omega
 cases e:I.own b with
 |none=>rfl
 |some o=>have:=Dh (h.2 b o e);omega
def Uy(P:BX){w:AI}{g o e}{cur a:AA AE}(b:w.heap[g]? =some (.cells cur.toArray e (0,0)))(h:o+a.length<=cur.length)(c:∀v∈a,v.oneCell'):w.setCells g o a=w.setRow g (splice cur o a).toArray:=by
 have c1:∀j,j<a.length->(w.cell? ⟨g,o+0+j,none⟩).isSome:=λj f=>by have:o+j<cur.length:=oG;simp[World.cell?,b,this]
 have c2:∀j,j<a.length->w.frozen? ⟨g,o+0+j,none⟩=false:=λj f=>by simp[World.frozen?,b]
 have i:=run_storeCells_cells (P:=P) g o a 0 w c1 c2 c;have d:=run_storeCells_at P g o e a 0 cur.toArray w b (by simpa using h) c;rw[i]at d;have:=(Result.ok.inj d).2;rw[FD]at this;rw[this];rfl
end Go.AX
namespace Go.Proofs.YtomehhepbeiinaaGreatDoor
open Tryz
open Go.AX Lz Go.Shelf Go.RowKit
def ABZ:Ren where
 f:=λx=>match x with|22=>107|29=>163|30=>164|36=>251|17=>326|n=>n
 t:=λx=>match x with|24=>38|9=>9|3=>3|4=>4|0=>0|n=>n
 g:=λx=>have n:=x;n
def Wy:Lays2.n22 prog ABZ:=by constructor<;>first|(intros;kernel_rfl)|(constructor<;>first|(intros;kernel_rfl)|(constructor<;>intros<;>kernel_rfl))
structure OX(I:AB)(ns:AA Nm)(a:AK Ac)(c:Nat):Prop where
 at_:(ns=[]/\a=none/\c=0)\/∃b AC,a=some ⟨b,0,none⟩/\I.has b (.cells (ns.map A5++AC).toArray 9 (0,0))/\ns.length+AC.length=c/\c<=maxLen
def OX.ns{I e a c}(h:OX I e a c):NsI I e a c:=by rcases h.at_ with⟨rfl,rfl,rfl⟩|⟨b,d,rfl,f,i,g⟩;exact⟨AZ _,by unfold maxLen;omega,λh=>by simp at h⟩;exact⟨oG,g,λ_=>⟨b,d,rfl,.inr f⟩⟩
def OX.up{I J e a c}(h:OX I e a c)(hle:I.le J):OX J e a c:=by rcases h.at_ with h|⟨b,d,rfl,f,g⟩;exact⟨.inl h⟩;exact⟨.inr ⟨b,d,rfl,hle.own _ _ f,g⟩⟩
def Gh(b:AA Nm)(a:AA AE):Obj:=.cells (b.map A5++a).toArray 9 (0,0)
def A7:AK Ac->AK Nat
 |some x=>some x.block
 |none=>none
def Zf(I:AB)(old:AK Ac)(d:AA Nm):Nat->AU->Prop:=λ_ h=>∃b c a,h= {r:=.v (.slice (some ⟨b,0,none⟩) d.length c),J:=I.plus b (Gh d a)}/\d.length+a.length=c/\c<=maxLen/\I b=none/\(A7 old=some b\/I.free b)
def AZl{I old j a}:E3 (Zf I old j) a I:=by refine⟨?_⟩;rintro i h ⟨b,c,e,rfl,_⟩;exact⟨⟨nA,nA,nA,sP,sP⟩,λ_ _ h=>h⟩
def Sg{l:AA Nm}:∀v∈l.map A5,v.oneCell':=by intro v a;obtain⟨n,_,rfl⟩:=BG.1 a;rfl
def AK4{A J:AA AE}{v o}(a:o=A.length):splice (A++J) o [v]=A++v::J.drop 1:=by subst a;unfold splice;rw[RA,NU,Q5];simp
def AXV{N J:AA AE}{v i o}(e:i<N.length)(g:o=i):splice (splice (N++J) (o+1) (N.drop i)) o [v]=N.take i++v::N.drop i++J.drop 1:=by
 subst g;have a:splice (N++J) (o+1) (N.drop o)=N.take (o+1)++(N.drop o++J.drop 1):=by unfold splice;rw[IJ oG,show o+1+(N.drop o).length=N.length+1 by simp;omega,Q5];simp
 rw[a];have b:N.take (o+1)=N.take o++[N[o]]:=Mi e;rw[b,Dk];unfold splice;have f:(N.take o).length=o:=sO
 have c:(N.take o++([N[o]]++(N.drop o++J.drop 1))).take o=N.take o:=by rw[IJ oG,Lo oG]
 have d:(N.take o++([N[o]]++(N.drop o++J.drop 1))).drop (o+[v].length)=N.drop o++J.drop 1:=by have:=Q5 (l₁:=N.take o) (l₂:=[N[o]]++(N.drop o++J.drop 1)) (i:=1);rw[f]at this;rw[NU,this];rfl
 rw[c,d];simp
def AXU{A a b D:AA AE}{v o p}(d:o=A.length)(f:p=A.length+1)(g:a.length=1+D.length):splice (splice (A++a++b) o [v]) p D=A++v::D++b:=by subst d f;rw[Dk,AK4 rfl];have e:A++v::(a++b).drop 1=(A++[v])++(a++b).drop 1:=sP;rw[e];unfold splice;have c:(A++[v]).length=A.length+1:=sP;rw[<-c,RA,Q5,ADo,show 1+D.length=a.length+0 by omega,Q5];simp
def AHf(I)(ns:List Nm)(a)(c i:Nat)(x)(Z:OX I ns a c)(hi:i<=ns.length)(hl:ns.length<=1000000):
 Fn 107 [.v (.slice a ns.length c),.v (.int .i64 (i:Int)),.s 2 0 1 1] [(2,.cells [.v (A5 x)] 9)] I (Zf I a (ns.take i++x::ns.drop i)) none:=by
 refine⟨⟨AZl.out,λρ key w W hN p O V=> ?_⟩,AX.Hw Tryz.func107 kR kR⟩;have hlen:(ns.take i++x::ns.drop i).length=ns.length+1:=by simp;omega
 have G:=hN (2,.cells [.v (A5 x)] 9) (List.mem_singleton.2 rfl) _ rfl;have G:w.heap[ρ 2]? =some (.cells [A5 x].toArray 9 (0,0)):=G;have t:=O (2,.cells [.v (A5 x)] 9) (List.mem_singleton.2 rfl);simp only at t;have B: ∀j v,[A5 x][j]? =some v->w.cell? ⟨ρ 2,0+j,none⟩=some v:=λj v hj=>by rw[Nat.zero_add];simpa[World.cell?,G]using hj
 have g: ∀v∈[A5 x],v.oneCell'=true:=λv u=>by rw[List.mem_singleton.1 u];rfl
 have m:(ns.take i++x::ns.drop i).map A5=(ns.map A5).take i++A5 x::(ns.map A5).drop i:=sP;have aa:=A7;have f: ∀(base:Option Addr),i=ns.length->c<ns.length+1->ns.length<=c->(base=none->ns.length=0)->(∀ad,base=some ad->∀j v,(ns.map A5)[j]? =some v->w.cell? (ad.add j)=some v)->a=base->
  Calls Tryz.prog 107 #[.slice a ns.length c,.int .i64 (i:Int),.slice (some ⟨ρ 2,0,none⟩) 1 1] w λe N=>∃h q,Zf I a (ns.take i++x::ns.drop i) key h/\After I ρ w N key q h/\e=.returned (den (h.Am ρ key q) h.r):=by
  rintro base rfl hc S K s rfl;have:=Any2.slices_Insert_string_end_grow Wy a ns.length c (ρ 2) 0 1 1 (ns.map A5) [A5 x] w dC S hc oG sP rfl K s B g;refine this.mono ?_;rintro e N ⟨rfl,rfl⟩;have F:(w.drew.alloc (.cells ((ns.map A5++[A5 x]).toArray++Builtin.zeroCells (Value.string ⟨#[]⟩).cells (grownCap w (ns.length+1) c 9-(ns.length+1))) 9)).heap.size=w.heap.size+1:=sP;have r:=grownCap_le_maxLen w (ns.length+1) c 9 (by unfold maxLen;omega);have P:=grownCap_ge w (ns.length+1) c 9;refine⟨_,λ_=>0,⟨w.heap.size,grownCap w (ns.length+1) c 9,(Builtin.zeroCells (Value.string ⟨#[]⟩).cells (grownCap w (ns.length+1) c 9-(ns.length+1))).toList,rfl,?_,r,(Ns p (Nat.le_refl _)).1,.inr (Ns p (Nat.le_refl _))⟩,TZ p rfl rfl rfl (by rw[show(ABZ.t 9)=9 from rfl,F];omega) ?_ (Ns p (Nat.le_refl _)).1 (.inr (Nat.le_refl _)) (λy M _=> ?_),?_⟩
  .rw[hlen,Yh];show _+(_*1)=_;omega
  .have:=Qn w.drew (.cells ((ns.map A5++[A5 x]).toArray++Builtin.zeroCells (Value.string ⟨#[]⟩).cells (grownCap w (ns.length+1) c 9-(ns.length+1))) 9);refine this.trans ?_;unfold Gh;rw[m,List.take_of_length_le sP,List.drop_of_length_le sP];congr 2;apply Array.toList_inj.1;simp
  .exact(ABG w.drew _).block y M
  .rw[hlen];rfl
 rcases Z.at_ with⟨rfl,rfl,rfl⟩|⟨b,AC,rfl,hb,R,A⟩
 .have X:i=0:=by simpa using hi
  exact f none X sP sP (λ_=>rfl) (λad e=>by cases e) rfl
 .have d:=p.2 b _ hb.own;have T:ρ 2≠b:=λe=>by have:=t.2;rw[e,hb.own]at this;cases this
  have s: ∀j v,(ns.map A5)[j]? =some v->w.cell? ⟨b,0+j,none⟩=some v:=λj v hj=>by have Q:=(List.getElem?_eq_some_iff.1 hj).1;rw[Nat.zero_add];simp only[World.cell?,d];rw[List.getElem?_toArray,List.getElem?_append_left Q];exact hj
  by_cases hend:i=ns.length
  .by_cases k:c<ns.length+1
   .exact f (some ⟨b,0,none⟩) hend k oG (λe=>by cases e) (λad e j v hj=>by cases e;have:=s j v hj;rwa [Addr.add_mid]) rfl
   .subst hend;have:=Any2.slices_Insert_string_end_room Wy b 0 ns.length c (ρ 2) 0 1 1 [A5 x] w dC oG (by unfold maxLen at A;omega) rfl (λj hj=> ?_) (λj hj=> ?_) B g
    .refine this.mono ?_;rintro e N ⟨rfl,rfl⟩;rw[Uy Tryz.prog d (by simp;omega) g];refine⟨_,λ_=>0,⟨b,c,AC.drop 1,rfl,?_,A,hb.at_,.inl rfl⟩,TZ p rfl rfl rfl (by rw[BB.setRow];exact Nat.le_refl _) ?_ hb.at_ (.inl (by rw[hb.own];rfl)) (λy M C=>G4 (λe=>C e.symm)),?_⟩
     .rw[hlen,List.length_drop];omega
     .rw[Js d];unfold Gh;congr 3;rw[m,List.take_of_length_le sP,List.drop_of_length_le sP,AK4 sP];simp
     .rw[hlen];rfl
    .have:j=0:=oG;subst this;simp only[World.cell?,d,Nat.add_zero,Nat.zero_add];rw[List.getElem?_toArray,List.getElem?_append_right sP];simp only[List.length_map,Nat.sub_self];cases AC with
     |nil=>simp at R;omega
     |cons v l=>rfl
    .simp[World.frozen?,d]
  .have E:i<ns.length:=oG;by_cases k:c<ns.length+1
   .have:=Any2.slices_Insert_string_grow Wy b 0 ns.length c i (ρ 2) 0 1 1 (ns.map A5) [A5 x] w E dC oG k oG sP rfl s B Sg g;refine this.mono ?_;rintro e N ⟨rfl,rfl⟩;have r:=grownCap_le_maxLen w (ns.length+1) c 9 (by unfold maxLen;omega);have P:=grownCap_ge w (ns.length+1) c 9;have Y:((ns.map A5).take i).toArray++Builtin.zeroCells (Value.string ⟨#[]⟩).cells (ns.length+1-i)++Builtin.zeroCells (Value.string ⟨#[]⟩).cells (grownCap w (ns.length+1) c 9-(ns.length+1))=((ns.map A5).take i++(Builtin.zeroCells (Value.string ⟨#[]⟩).cells (ns.length+1-i)).toList++(Builtin.zeroCells (Value.string ⟨#[]⟩).cells (grownCap w (ns.length+1) c 9-(ns.length+1))).toList).toArray:=by apply Array.toList_inj.1;simp
    have z1:(Builtin.zeroCells (Value.string ⟨#[]⟩).cells (ns.length+1-i)).toList.length=ns.length+1-i:=by rw[Yh];show _*1=_;omega
    have z2:(Builtin.zeroCells (Value.string ⟨#[]⟩).cells (grownCap w (ns.length+1) c 9-(ns.length+1))).toList.length=grownCap w (ns.length+1) c 9-(ns.length+1):=by rw[Yh];show _*1=_;omega
    rw[show ABZ.t 9=9 from rfl,Y];generalize(Builtin.zeroCells (Value.string ⟨#[]⟩).cells (ns.length+1-i)).toList=o at z1⊢;generalize(Builtin.zeroCells (Value.string ⟨#[]⟩).cells (grownCap w (ns.length+1) c 9-(ns.length+1))).toList=n at z2⊢;have U:=Qn w (.cells ((ns.map A5).take i++o++n).toArray 9);have L:(w.alloc (.cells ((ns.map A5).take i++o++n).toArray 9)).drew.heap[w.heap.size]? =some (.cells ((ns.map A5).take i++o++n).toArray 9 (0,0)):=U;rw[Uy Tryz.prog L (by simp;omega) g];have z:=Js (cells:=(splice ((ns.map A5).take i++o++n) i [A5 x]).toArray) L;have H:((w.alloc (.cells ((ns.map A5).take i++o++n).toArray 9)).drew.setRow w.heap.size (splice ((ns.map A5).take i++o++n) i [A5 x]).toArray).drew.heap[w.heap.size]? =some (.cells (splice ((ns.map A5).take i++o++n) i [A5 x]).toArray 9 (0,0)):=z;rw[Uy Tryz.prog H (by rw[YA (by simp;omega)];simp;omega) (λv u=>Sg v (List.mem_of_mem_drop u))];have F:(((w.alloc (.cells ((ns.map A5).take i++o++n).toArray 9)).drew.setRow w.heap.size (splice ((ns.map A5).take i++o++n) i [A5 x]).toArray).drew.setRow w.heap.size (splice (splice ((ns.map A5).take i++o++n) i [A5 x]) (i+1) ((ns.map A5).drop i)).toArray).heap.size=w.heap.size+1:=by rw[BB.setRow];show((w.alloc (.cells ((ns.map A5).take i++o++n).toArray 9)).drew.setRow w.heap.size _).heap.size=_;rw[BB.setRow];simp
    refine⟨_,λ_=>0,⟨w.heap.size,grownCap w (ns.length+1) c 9,n,rfl,by rw[hlen];omega,r,(Ns p (Nat.le_refl _)).1,.inr (Ns p (Nat.le_refl _))⟩,TZ p rfl rfl rfl (by rw[F];omega) ?_ (Ns p (Nat.le_refl _)).1 (.inr (Nat.le_refl _)) (λy M _=> ?_),?_⟩
    .rw[Js H];unfold Gh;congr 3;rw[m,AXU (by simp;omega) (by simp;omega) (by simp;omega)]
    .have D:w.heap.size≠y:=oG;rw[G4 D];show((w.alloc (.cells ((ns.map A5).take i++o++n).toArray 9)).drew.setRow w.heap.size _).heap[y]? =_;rw[G4 D];exact(ABG w _).block y M
    .rw[hlen];rfl
   .have:=Any2.slices_Insert_string_shift Wy b 0 ns.length c i (ρ 2) 0 1 1 (ns.map A5) [A5 x] w E dC oG (by unfold maxLen at A;omega) T sP rfl s (λj hj=> ?_) (λj hj=> ?_) B Sg g 9 9 1 c (by simp[World.shape?,G]) (by simp[World.shape?,d];omega) oG (by simp[World.frozen?,G]) (by simp[World.frozen?,G])
    .refine this.mono ?_;rintro e N ⟨rfl,rfl⟩;have J:w.drew.heap[b]? =some (.cells (ns.map A5++AC).toArray 9 (0,0)):=d;rw[Uy Tryz.prog J (by simp;omega) (λv u=>Sg v (List.mem_of_mem_drop u))];have z:=Js (cells:=(splice (ns.map A5++AC) (0+(i+1)) ((ns.map A5).drop i)).toArray) J;rw[Uy Tryz.prog z (by rw[YA (by simp;omega)];simp;omega) g];refine⟨_,λ_=>0,⟨b,c,AC.drop 1,rfl,?_,A,hb.at_,.inl rfl⟩,TZ p rfl rfl rfl (by rw[BB.setRow,BB.setRow];exact Nat.le_refl _) ?_ hb.at_ (.inl (by rw[hb.own];rfl)) (λy M C=>(G4 (λe=>C e.symm)).trans (G4 (λe=>C e.symm))),?_⟩
     .rw[hlen,List.length_drop];omega
     .rw[Js z];unfold Gh;congr 3;rw[m,Nat.zero_add,Nat.zero_add,AXV (by simpa using E) rfl]
     .rw[hlen];rfl
    .simp only[World.cell?,d,Nat.zero_add];rw[List.getElem?_toArray,List.getElem?_eq_getElem (by simp;omega)];rfl
    .simp[World.frozen?,d]
end Go.Proofs.YtomehhepbeiinaaGreatDoor
