/- Part 1 of the proof of TopLeaks. No conditions. -/
import Derived.Test.YtomehhepbeiinaaGreatDoorQA0
import Derived.Test.YtomehhepbeiinaaGreatDoorQZ
import Derived.Calls
import Derived.Orders
import Derived.RowKit
import Derived.Laws.Tables
import Derived.Laws.CopyRow
import Derived.Great.BuildSlice
import Derived.Deep.MidRow
import Derived.MapKept
import Derived.Laws.AppendOwn
import Derived.WalkSpells
set_option maxRecDepth 100000
set_option maxHeartbeats 4000000
set_option linter.all false
namespace Go.AX
inductive SV where
 |v (x:Value)
 |p (k off:Nat)
 |s (k off len cap:Nat)
 |m (k:Nat)
 |g (l:List SV)
 |t (l:List SV)
 |fn (f:Fn) (a b:List SV)
mutual
def den(ρ:Nat->Nat):SV->AE
 | .v x=>x
 | .p k o=>.pointer (some ⟨ρ k,o,none⟩)
 | .s k o n c=>.slice (some ⟨ρ k,o,none⟩) n c
 | .m k=>.map (some (ρ k))
 | .g l=>.agg (As ρ l).toArray
 | .t l=>.tuple (As ρ l).toArray
 | .fn f a b=>.func f (As ρ a).toArray (As ρ b).toArray
def As(a:Nat->Nat):AA SV->AA AE
 |[]=>[]
 |x::l=>den a x::As a l
end
mutual
def SV.keys:SV->AA Nat
 | .v _=>[]
 | .p k _=>[k]
 | .s k _ _ _=>[k]
 | .m k=>[k]
 | .g l=>Ax l
 | .t l=>Ax l
 | .fn _ a b=>Ax a++Ax b
def Ax:AA SV->AA Nat
 |[]=>[]
 |x::l=>x.keys++Ax l
end
theorem Gc(ρ l):As ρ l=l.map (den ρ):=by
 induction l with
 |nil=>rfl
 |cons x l a=>simp[As,a]
theorem Jn{l k}:k∈Ax l↔∃x∈l,k∈x.keys:=by
 induction l with
 |nil=>simp[Ax]
 |cons x l a=>simp[Ax,a]
mutual
theorem JE{ρ d}:∀x,(∀k∈x.keys,ρ k=d k)->den ρ x=den d x
 | .v _,_=>rfl
 | .p k o,h=>by simp[den,h k (by simp[SV.keys])]
 | .s k o n c,h=>by simp[den,h k (by simp[SV.keys])]
 | .m k,h=>by simp[den,h k (by simp[SV.keys])]
 | .g l,h=>by simp only[den];rw[Oh l h]
 | .t l,h=>by simp only[den];rw[Oh l h]
 | .fn f a b,h=>by simp only[den];rw[Oh a λk hk=>h k (E2 _ hk),Oh b λk hk=>h k (GJ _ hk)]
theorem Oh{ρ a:Nat->Nat}:∀l:List SV,(∀k∈Ax l,ρ k=a k)->As ρ l=As a l
 |[],_=>rfl
 |x::l,h=>by simp only[As];rw[JE x λk hk=>h k (List.mem_append_left _ hk),Oh l λk hk=>h k (List.mem_append_right _ hk)]
end
def upd{a:Type}(f:Nat->a)(k:Nat)(x:a):Nat->a:=λn=>match Nat.beq n k with|true=>x|false=>f n
theorem upd_same{a:Type}(f:Nat->a)(k:Nat)(x:a):upd f k x k=x:=by simp[upd]
theorem upd_ne{a:Type}(f:Nat->a){k n}(x:a)(h:n≠k):upd f k x n=f n:=by
 have:Nat.beq n k=false:=by rw[Bool.eq_false_iff];intro e;exact h (Nat.eq_of_beq_eq_true e)
 simp[upd,this]
theorem ADM{c:Type}(f:Nat->c){j k:Nat}(x y:c)(h:j≠k):upd (upd f j x) k y=upd (upd f k y) j x:=by funext n;by_cases a:n=j;subst a;rw[upd_ne _ _ h,upd_same,upd_same];by_cases b:n=k;subst b;rw[upd_same,upd_ne _ _ a,upd_same];rw[upd_ne _ _ b,upd_ne _ _ a,upd_ne _ _ a,upd_ne _ _ b]
mutual
def SV.Am(d:Nat->Nat):SV->SV
 | .v x=>.v x
 | .p k o=>.p (d k) o
 | .s k o n c=>.s (d k) o n c
 | .m k=>.m (d k)
 | .g l=>.g (Bz d l)
 | .t l=>.t (Bz d l)
 | .fn f a b=>.fn f (Bz d a) (Bz d b)
def Bz(a:Nat->Nat):AA SV->AA SV
 |[]=>[]
 |x::l=>x.Am a::Bz a l
end
mutual
theorem Nn(ρ c):∀x,den ρ (x.Am c)=den (λk=>ρ (c k)) x
 | .v _=>rfl
 | .p _ _=>rfl
 | .s _ _ _ _=>rfl
 | .m _=>rfl
 | .g l=>by simp only[SV.Am,den];rw[Oi ρ c l]
 | .t l=>by simp only[SV.Am,den];rw[Oi ρ c l]
 | .fn f a b=>by simp only[SV.Am,den];rw[Oi ρ c a,Oi ρ c b]
theorem Oi(ρ a:Nat->Nat):∀l:List SV,As ρ (Bz a l)=As (λk=>ρ (a k)) l
 |[]=>rfl
 |x::l=>by simp only[Bz,As];rw[Nn ρ a x,Oi ρ a l]
end
mutual
theorem UJ(c:Nat->Nat):∀x:SV,(x.Am c).keys=x.keys.map c
 | .v _=>rfl
 | .p _ _=>rfl
 | .s _ _ _ _=>rfl
 | .m _=>rfl
 | .g l=>by simp only[SV.Am,SV.keys];rw[Qa c l]
 | .t l=>by simp only[SV.Am,SV.keys];rw[Qa c l]
 | .fn f a b=>by simp only[SV.Am,SV.keys,List.map_append];rw[Qa c a,Qa c b]
theorem Qa(a:Nat->Nat):∀l:List SV,Ax (Bz a l)=(Ax l).map a
 |[]=>rfl
 |x::l=>by simp only[Bz,Ax,List.map_append];rw[UJ a x,Qa a l]
end
inductive AG where
 |cells (l:AA SV) (e:Av)
 |Aa (l:AA AE) (e:Av)
 |obj (o:Obj)
 |DZ (ks:AA AE) (vs:AA SV)
 |gone
def Kh:AA AE->AA AE->Nat->AA Ah
 |k::ks,v::vs,i=>{key:=k,val:=v,born:=i}::Kh ks vs (i+1)
 |_,_,_=>[]
def AG.den(b:Nat->Nat):AG->AK Obj
 | .cells l e=>some (.cells (As b l).toArray e (0,0))
 | .Aa l e=>some (.cells l.toArray e (0,0))
 | .obj o=>some o
 | .DZ a c=>some (.map (Kh a (As b c) 0).toArray a.length)
 | .gone=>none
def AG.keys:AG->AA Nat
 | .cells l _=>Ax l
 | .Aa _ _=>[]
 | .obj _=>[]
 | .DZ _ a=>Ax a
 | .gone=>[]
def AG.live:AG->Bool
 | .gone=>false
 |_=>true
theorem AG.JE{c a}(b:AG)(h:∀k∈b.keys,c k=a k):b.den c=b.den a:=by
 cases b with
 |cells l e=>simp[AG.den];rw[Oh l h]
 |Aa l e=>rfl
 |obj o=>rfl
 |DZ f d=>simp[AG.den];rw[Oh d h]
 |gone=>rfl
def AG.Am(a:Nat->Nat):AG->AG
 | .cells l e=>.cells (Bz a l) e
 | .Aa l e=>.Aa l e
 | .obj o=>.obj o
 | .DZ b c=>.DZ b (Bz a c)
 | .gone=>.gone
theorem AG.Nn(c a)(b:AG):(b.Am a).den c=b.den (λk=>c (a k)):=by
 cases b with
 |cells l e=>simp[AG.Am,AG.den];rw[Oi]
 |Aa l e=>rfl
 |obj o=>rfl
 |DZ d f=>simp[AG.Am,AG.den];rw[Oi]
 |gone=>rfl
theorem AG.UJ(a)(b:AG):(b.Am a).keys=b.keys.map a:=by
 cases b with
 |cells l e=>simp[AG.Am,AG.keys];rw[Qa]
 |Aa l e=>rfl
 |obj o=>rfl
 |DZ c d=>simp[AG.Am,AG.keys];rw[Qa]
 |gone=>rfl
theorem AG.R9(a)(b:AG):(b.Am a).live=b.live:=by cases b<;>rfl
theorem AG.R8{b:AG}(h:b.live)(a):∃o,b.den a=some o:=by
 cases b with
 |cells l e=>exact⟨_,rfl⟩
 |Aa l e=>exact⟨_,rfl⟩
 |obj o=>exact⟨_,rfl⟩
 |DZ c d=>exact⟨_,rfl⟩
 |gone=>cases h
structure AB where
 at_:Nat->AK Obj
 own:Nat->AK Obj
instance:CoeFun AB (λ_=>Nat->AK Obj):=⟨AB.at_⟩
structure AB.has(I:AB)(b:Nat)(o:Obj):Prop where
 own:I.own b=some o
 at_:I b=none
structure AB.le(I J:AB):Prop where
 at_:∀b o,I b=some o->J b=some o
 own:∀b o,I.has b o->J.has b o
instance {I J:AB}:CoeFun (AB.le I J) (λ_=>∀b o,I b=some o->J b=some o):=⟨AB.le.at_⟩
def AB.Cd(I J:AB):Prop:=∀b o,I b=some o->J b=some o
theorem AB.le.Cg{I J:AB}(h:I.le J):I.Cd J:=h.at_
theorem AB.le_refl(I:AB):I.le I:=⟨λ_ _ h=>h,λ_ _ h=>h⟩
theorem AB.Fa(I:AB):I.Cd I:=λ_ _ h=>h
theorem AB.le.trans{I J K:AB}(h:I.le J)(k:J.le K):I.le K:=⟨λb o x=>k.at_ b o (h.at_ b o x),λb o x=>k.own b o (h.own b o x)⟩
theorem AB.Cd.trans{I J K:AB}(h:I.Cd J)(k:J.Cd K):I.Cd K:=λb o x=>k b o (h b o x)
def Db(w:AI)(I:AB):Prop:=∀b o,I b=some o->w.heap[b]? =some o
def Holds(w:AI)(I:AB):Prop:=Db w I/\∀b o,I.own b=some o->w.heap[b]? =some o
theorem Db.of_le{w I J}(h:Db w J)(k:I.Cd J):Db w I:=λb o x=>h b o (k b o x)
def AB.B0(I:AB):AB:=⟨λb=>match I b with|some o=>some o|none=>I.own b,λ_=>none⟩
theorem AB.N9{I:AB}{b o}(h:I b=some o):I.B0 b=some o:=by show(match I b with|some o=>some o|none=>I.own b)=some o;rw[h]
theorem AB.has.B0{I:AB}{b o}(h:I.has b o):I.B0 b=some o:=by show(match I b with|some o=>some o|none=>I.own b)=some o;rw[h.at_];exact h.own
theorem Holds.B0{w I}(h:Holds w I):Db w I.B0:=by
 intro b o a;have a:(match I b with|some o=>some o|none=>I.own b)=some o:=a;cases e:I b with
 |some c=>rw[e]at a;cases a;exact h.1 b o e
 |none=>rw[e]at a;exact h.2 b o a
def AB.free(I:AB)(b:Nat):Prop:=I b=none/\I.own b=none
structure St where
 tm:Nat->SV
 hp:Nat->AK AG
 im:AB
def Fc(a:Nat->AK AG)(k:Nat):Prop:=∃b,a k=some b/\b.live
structure BB(w a:AI):Prop where
 os:a.os=w.os
 tape:a.tape=w.tape
 output:a.output=w.output
 size:w.heap.size<=a.heap.size
 block:∀b,b<w.heap.size->a.heap[b]? =w.heap[b]?
theorem BB.refl(w):BB w w:=⟨rfl,rfl,rfl,AZ _,λ_ _=>rfl⟩
theorem BB.at{w d:World}(h:BB w d){b:Nat}{o:Obj}(c:w.heap[b]? =some o):d.heap[b]? =some o:=by rw[h.block b,c];rcases Nat.lt_or_ge b w.heap.size with a|a;exact a;rw[Array.getElem?_eq_none a]at c;cases c
theorem BB.ARP{w a}(h:BB w a){I}(c:Db w I):Db a I:=λb o x=>h.at (c b o x)
theorem BB.holds{w c}(h:BB w c){I}(a:Holds w I):Holds c I:=⟨h.ARP a.1,λb o x=>h.at (a.2 b o x)⟩
theorem BB.drew(w):BB w {w with drawn:=w.drawn+1}:=⟨rfl,rfl,rfl,AZ _,λ_ _=>rfl⟩
theorem Dh{w:AI}{b o}(h:w.heap[b]? =some o):b<w.heap.size:=by rcases Lp b w.heap.size with a|a;exact a;rw[VK a]at h;cases h
theorem Holds.keep{w g:AI}{I:AB}{p}(h:Holds w I)(d:I.free p)(f:∀b,b<w.heap.size->p≠b->g.heap[b]? =w.heap[b]?):Holds g I:=by constructor;intro b o a;have c:=h.1 b o a;rw[f b (Dh c) (λe=>by rw[<-e,d.1]at a;cases a)];exact c;intro b o a;have c:=h.2 b o a;rw[f b (Dh c) (λe=>by rw[<-e,d.2]at a;cases a)];exact c
theorem Gg{I:AB}{b o}{p:Prop}(h:I.own b=some o):(I.own b).isSome\/p:=.inl (by rw[h];rfl)
structure Ctx where
 P:BX
 f:Ay
 fn:Func
 I0:AB
 n:Nat
 w0:AI
 ρ0:Nat->Nat
 A:AA Nat
 QG:AA Deferred
structure Ik(c:Ctx)(σ:St)(ρ:Nat->Nat)(w:AI):Prop where
 hp:∀k b o,σ.hp k=some b->b.den ρ=some o->w.heap[ρ k]? =some o
 inj:∀j k,Fc σ.hp j->Fc σ.hp k->ρ j=ρ k->j=k
 kb:∀k b k',σ.hp k=some b->k'∈b.keys->(σ.hp k').isSome
 im:Holds w σ.im
 fs:∀b o,σ.im b=some o->c.I0 b=some o\/c.w0.heap.size<=b
 Es:∀b o,σ.im.own b=some o->(c.I0.own b).isSome\/c.w0.heap.size<=b
 dj:∀k,Fc σ.hp k->σ.im.free (ρ k)
 ad:∀k∈c.A,ρ k=c.ρ0 k
 nw:∀k,Fc σ.hp k->c.w0.heap.size<=ρ k\/∃k'∈c.A,ρ k=c.ρ0 k'
 fr:∀b,b<c.w0.heap.size->(∀k∈c.A,c.ρ0 k≠b)->c.I0.own b=none->w.heap[b]? =c.w0.heap[b]?
 sz:c.w0.heap.size<=w.heap.size
 os:w.os=c.w0.os
 tape:w.tape=c.w0.tape
 output:w.output=c.w0.output
structure Rel(c:Ctx)(σ:St)(ρ:Nat->Nat)(a:Act)(w:AI):Prop extends Ik c σ ρ w where
 size:a.tmps.size=c.n
 nd:a.defers=c.QG
 tm:∀s,a.tmps.getD s undef=den ρ (σ.tm s)
 kd:∀s k,k∈(σ.tm s).keys->(σ.hp k).isSome=true
def ev(tm:Nat->SV):Operand->SV
 | .tmp t=>tm t
 | .const x=>.v x
 | .global g=>.v (.pointer (some ⟨g,0,none⟩))
 | .func f=>.v (.func (.func f) #[] #[])
theorem Rel.ev{c σ ρ a w}(h:Rel c σ ρ a w)(x):a.eval x=den ρ (AX.ev σ.tm x):=by
 cases x with
 |tmp t=>exact h.tm t
 |const x=>rfl
 |global g=>rfl
 |func f=>rfl
def St.put(a:St)(d:AK Tmp)(x:SV):St:=
 match d with
 |some d=>{a with tm:=upd a.tm d x}
 |none=>a
def St.blk(a:St)(k:Nat)(b:AK AG):St:=
 match b with
 |some b=>{a with hp:=upd a.hp k (some b)}
 |none=>a
theorem Jr(σ:St)(d x):(σ.put d x).hp=σ.hp:=by cases d<;>rfl
theorem ACV(σ:St)(d x):(σ.put d x).im=σ.im:=by cases d<;>rfl
theorem V0(a:St)(k b):(a.blk k b).tm=a.tm:=by cases b<;>rfl
theorem AFK(a:St)(k b):(a.blk k b).im=a.im:=by cases b<;>rfl
theorem ACW{σ:St}{d x s}(h:d≠some s):(σ.put d x).tm s=σ.tm s:=by
 cases d with
 |none=>rfl
 |some d=>exact upd_ne _ _ λe=>h (by rw[e])
theorem ANF(a:Act)(d x)(h:d<a.tmps.size)(s):(a.put (some d) x).tmps.getD s undef=if s=d then x else a.tmps.getD s undef:=by simp[Act.put,Sv,AMh];by_cases b:s=d;subst b;simp[h];rw[AN (λe=>b e.symm),AN b]
def Rl(n:Nat):AK Tmp->Bool
 |some d=>Nat.blt d n
 |none=>true
theorem Rel.put{c σ ρ a w}(h:Rel c σ ρ a w){d}(hd:Rl c.n d){x}(hk:∀k∈x.keys,(σ.hp k).isSome):
 Rel c (σ.put d x) ρ (a.put d (den ρ x)) w:=by
 cases d with
 |none=>exact h
 |some d=>
  have e:d<a.tmps.size:=by rw[h.size];simpa[Rl,RB]using hd
  refine{hp:=h.hp,inj:=h.inj,kb:=h.kb,im:=h.im,fs:=h.fs,Es:=h.Es,dj:=h.dj,ad:=h.ad,nw:=h.nw,fr:=h.fr,sz:=h.sz,os:=h.os,tape:=h.tape,output:=h.output,size:= ?_,nd:=h.nd,tm:= ?_,kd:= ?_};simp[Act.put,h.size];intro s;rw[ANF a d _ e];by_cases hs:s=d;subst hs;simp[St.put,upd_same];rw[AN hs];simp only[St.put];rw[upd_ne _ _ hs];exact h.tm s;intro s k b;simp only[St.put]at b;by_cases hs:s=d;subst hs;rw[upd_same]at b;exact hk k b;rw[upd_ne _ _ hs]at b;exact h.kd s k b
theorem Ik.grow{c σ ρ w d}(h:Ik c σ ρ w)(a:BB w d):Ik c σ ρ d where
 hp k b o hb ho:=a.at (h.hp k b o hb ho)
 inj:=h.inj
 kb:=h.kb
 im:=a.holds h.im
 fs:=h.fs
 Es:=h.Es
 dj:=h.dj
 ad:=h.ad
 nw:=h.nw
 fr b hb hA hO:=(a.block b (OP hb h.sz)).trans (h.fr b hb hA hO)
 sz:=CB h.sz a.size
 os:=a.os.trans h.os
 tape:=a.tape.trans h.tape
 output:=a.output.trans h.output
theorem Rel.grow{c σ ρ a w b}(h:Rel c σ ρ a w)(d:BB w b):Rel c σ ρ a b:=
 {h.toIk.grow d with size:=h.size,nd:=h.nd,tm:=h.tm,kd:=h.kd}
theorem Ik.ACA{c:Ctx}{l:St}{ρ}{w C:AI}(h:Ik c l ρ w)(F:BB w C){key q}{b:AG}(s:l.hp key=none)(D:key∉c.A)(G:w.heap.size<=q)
 (E:C.heap[q]? =b.den (upd ρ key q)) (y:∀k∈b.keys,k≠key->(l.hp k).isSome):Ik c (l.blk key (some b)) (upd ρ key q) C:=by
 have B:∀k f,l.hp k=some f->k≠key:=λk f e x=>by rw[x,s]at e;cases e
 have t:∀k,Fc l.hp k->ρ k<w.heap.size:=λk a=>by obtain⟨f,e,A⟩:=a;obtain⟨o,u⟩:=AG.R8 A ρ;exact Dh (h.hp k f o e u)
 have r:∀k f,l.hp k=some f->f.den (upd ρ key q)=f.den ρ:=λk f e=>AG.JE _ λp m=>by have:=h.kb k f p e m;obtain⟨v,x⟩:=Ky.1 this;exact upd_ne _ _ (B p v x)
 have i:∀k,k≠key->Fc (upd l.hp key (some b)) k->Fc l.hp k:=λk a ⟨f,e,A⟩=>⟨f,by rwa [upd_ne _ _ a]at e,A⟩;have g:=h.grow F;refine{hp:= ?_,inj:= ?_,kb:= ?_,im:= ?_,fs:=g.fs,Es:=g.Es,dj:= ?_,ad:= ?_,nw:= ?_,fr:=g.fr,sz:=g.sz,os:=g.os,tape:=g.tape,output:=g.output};intro k f o e u;simp only[St.blk]at e;by_cases a:k=key;subst a;rw[upd_same]at e;cases e;rw[upd_same,E];exact u;rw[upd_ne _ _ a]at e;rw[upd_ne _ _ a];rw[r k f e]at u;exact g.hp k f o e u;intro j k z a e;simp only[St.blk]at z a;by_cases d:j=key;by_cases n:k=key;rw[d,n];rw[d,upd_same,upd_ne _ _ n]at e;have:=t k (i k n a);omega;by_cases n:k=key;rw[n,upd_same,upd_ne _ _ d]at e;have:=t j (i j d z);omega;rw[upd_ne _ _ d,upd_ne _ _ n]at e;exact h.inj j k (i j d z) (i k n a) e;intro k f p e m;simp only[St.blk]at e⊢;by_cases d:p=key;rw[d,upd_same];rfl;rw[upd_ne _ _ d];by_cases a:k=key;rw[a,upd_same]at e;cases e;exact y p m d;rw[upd_ne _ _ a]at e;exact h.kb k f p e m;simp only[St.blk];exact g.im;intro k a;simp only[St.blk]at a⊢;by_cases d:k=key;rw[d,upd_same];constructor;cases e:l.im q with
 |none=>rfl
 |some o=>have:=Dh (h.im.1 q o e);omega
 cases e:l.im.own q with
 |none=>rfl
 |some o=>have:=Dh (h.im.2 q o e);omega
 rw[upd_ne _ _ d];exact h.dj k (i k d a);intro k a;rw[upd_ne _ _ (λe=>D (by rw[<-e];exact a))];exact h.ad k a;intro k a;simp only[St.blk]at a;by_cases d:k=key;left;rw[d,upd_same];exact CB h.sz G;rw[upd_ne _ _ d];exact h.nw k (i k d a)
theorem Rel.ACA{c:Ctx}{σ:St}{ρ:Nat->Nat}{a:Act}{w g:World}(h:Rel c σ ρ a w)(i:BB w g){key q:Nat}{b:AG}(d:σ.hp key=none)(hA:key∉c.A)(j:w.heap.size<=q)
 (hb:g.heap[q]? =b.den (upd ρ key q)) (f:∀k∈b.keys,k≠key->(σ.hp k).isSome=true):Rel c (σ.blk key (some b)) (upd ρ key q) a g where
 toIk:=h.toIk.ACA i d hA j hb f
 size:=h.size
 nd:=h.nd
 tm s:=by rw[h.tm s,V0];refine JE _ λk hk=> ?_;have:=h.kd s k hk;rw[upd_ne];intro e;rw[e,d]at this;cases this
 kd s k hk:=by
  rw[V0]at hk;have:=h.kd s k hk;simp only[St.blk];by_cases h1:k=key
  ·rw[h1,upd_same];rfl
  ·rw[upd_ne _ _ h1];exact this
def Has(w:AI)(b:Nat->Nat)(l:AA (Nat×AG)):Prop:=∀a∈l,∀o,a.2.den b=some o->w.heap[b a.1]? =some o
def LS(P:BX)(o:BP)(h:Nat->SV)(c:Nat)(g:AA (Nat×AG))(I:AB)(r:SV)(i:AK AG):Prop:=
 ∀(e:Nat->Nat)(a:Act)(w:AI),(∀x∈o.op.operands,a.eval x=den e (ev h x))->Has w e g->Db w I->(∀x∈o.op.operands,c∉(ev h x).keys)->(∀f∈g,c∉f.2.keys/\c≠f.1)->
  match i with
  |none=>∃d,(execOp a.eval o).run P w=.ok (.value (den e r)) d/\BB w d
  |some b=>∃d q,(execOp a.eval o).run P w=.ok (.value (den (upd e c q) r)) d/\BB w d/\w.heap.size<=q/\d.heap[q]? =b.den (upd e c q)
def OV(P:BX)(o:BP)(h:Nat->SV)(c:Nat)(g:AA (Nat×AG))(I:AB)(r:SV)(i:AK AG):Prop:=
 ∀(e:Nat->Nat)(a:Act)(w:AI),(∀x∈o.op.operands,a.eval x=den e (ev h x))->Has w e g->Holds w I->(∀x∈o.op.operands,c∉(ev h x).keys)->(∀f∈g,c∉f.2.keys/\c≠f.1)->
  match i with
  |none=>∃d,(execOp a.eval o).run P w=.ok (.value (den e r)) d/\BB w d
  |some b=>∃d q,(execOp a.eval o).run P w=.ok (.value (den (upd e c q) r)) d/\BB w d/\w.heap.size<=q/\d.heap[q]? =b.den (upd e c q)
def Lt(d:Bool)(P:BX)(o:BP)(e:Nat->SV)(a:Nat)(c:AA (Nat×AG))(I:AB)(r:SV)(b:AK AG):Prop:=match d with
 |true=>LS P o e a c I r b
 |false=>OV P o e a c I r b
theorem OV.APJ{P o e c b d I r nb}(h:OV P o e b d I r nb)(n:∀x∈o.op.operands,ev c x=ev e x):OV P o c b d I r nb:=by intro k a w l f g m i;exact h k a w (λx j=>by grind) f g (λx j=>by grind) i
def Lt.o{d:Bool}{P o e b c I r nb}(h:Lt d P o e b c I r nb):OV P o e b c I r nb:=by
 cases d with
 |false=>exact h
 |true=>exact λj a w f g i=>h j a w f g i.1
def LS.d{d:Bool}{P o e b c I r nb}(h:LS P o e b c I r nb):Lt d P o e b c I r nb:=by
 cases d with
 |true=>exact h
 |false=>exact λj a w f g i=>h j a w f g i.1
structure AU where
 r:SV
 upd:AA (Nat×AG):=[]
 nb:AA AG:=[]
 J:AB
def Dx(a k:Nat):Prop:=a<=k/\k<a+8
def Bf(a:Nat)(b:AA AG)(k:Nat):AK AG:=match Nat.ble a k with|true=>b[k-a]? |false=>none
theorem PE{key nb k}(hl:nb.length<=8)(h: ¬Dx key k):Bf key nb k=none:=by grind[Bf,Dx,Nat.le_of_ble_eq_true,List.getElem?_eq_none]
theorem UU{a c k b}(h:Bf a c k=some b):∃j,k=a+j/\c[j]? =some b:=by
 unfold Bf at h;cases e:Nat.ble a k with
 |false=>rw[e]at h;cases h
 |true=>rw[e]at h;exact⟨k-a,by simp_all,h⟩
theorem Gx{key nb j}:Bf key nb (key+j)=nb[j]? :=by simp_all[Bf,AMo,oG]
def AU.hp(h:AU)(a:Nat)(d:Nat->AK AG):Nat->AK AG:=λk=>
 match Bf a h.nb k with
 |some b=>some b
 |none=>h.upd.foldl (λf c=>AX.upd f c.1 (some c.2)) d k
def St.Dd(b:St)(d:AK Tmp)(a:Nat)(h:AU):St:=St.put {tm:=b.tm,hp:=h.hp a b.hp,im:=h.J} d h.r
def AU.Am(h:AU)(b:Nat->Nat)(a:Nat)(q:Nat->Nat):Nat->Nat:=λk=>match Bf a h.nb k with|some _=>q (k-a)|none=>b k
structure After(I:AB)(ρ:Nat->Nat)(w a:AI)(key:Nat)(q:Nat->Nat)(h:AU):Prop where
 os:a.os=w.os
 tape:a.tape=w.tape
 output:a.output=w.output
 size:w.heap.size<=a.heap.size
 keep:∀b,b<w.heap.size->(∀kb∈h.upd,ρ kb.1≠b)->I.own b=none->a.heap[b]? =w.heap[b]?
 upd:Has a (h.Am ρ key q) h.upd
 nb:∀j b,h.nb[j]? =some b->a.heap[q j]? =b.den (h.Am ρ key q)/\b.live/\(w.heap.size<=q j\/∃kb∈h.upd,kb.2=.gone/\q j=ρ kb.1)
 qi:∀i j,i<h.nb.length->j<h.nb.length->q i=q j->i=j
 Gu:Holds a h.J
 fresh:∀b o,h.J b=some o->I b=some o\/(w.heap.size<=b/\∀j,j<h.nb.length->b≠q j)
 Gz:∀b o,h.J.own b=some o->(I.own b).isSome\/(w.heap.size<=b/\∀j,j<h.nb.length->b≠q j)
structure HS(P:BX)(o:BP)(tm:Nat->SV)(key:Nat)(need:AA (Nat×AG))(I:AB)(d:AU->Prop)(b:AK (AA PanicEntry)):Prop where
 out:∀(ρ:Nat->Nat)(a:Act)(w:AI),(∀x∈o.op.operands,a.eval x=den ρ (ev tm x))->Has w ρ need->Holds w I->
  (∀kb∈need,kb.2.live->I.free (ρ kb.1))->(∀x∈need,∀y∈need,x.2.live->y.2.live->ρ x.1=ρ y.1->x.1=y.1)->(∀x∈o.op.operands,∀k∈(ev tm x).keys,¬Dx key k)->(∀kb∈need,(∀k∈kb.2.keys,¬Dx key k)/\¬Dx key kb.1)->
  ∀(next:Act->AI->Prop)(Q:Exit->Act->AI->Prop),
   (b=none->∀h c q,d h->After I ρ w c key q h->next (a.put o.dst (den (h.Am ρ key q) h.r)) c)->
   (∀ch,b=some ch->∀h c q,d h->After I ρ w c key q h->Q (.panic ch) a c)->o.wp P a w next Q
structure AU.wf(h:AU)(I:AB)(key:Nat)(need:AA (Nat×AG))(mk:AA Nat):Prop where
 r:∀k∈h.r.keys,k∈need.map (·.1)++mk\/(Bf key h.nb k).isSome
 u:∀kb∈h.upd,kb.1∈need.map (·.1)/\(∀b,(kb.1,b)∈need->b.live)/\∀k∈kb.2.keys,k∈need.map (·.1)++mk\/(Bf key h.nb k).isSome
 n:∀b∈h.nb,∀k∈b.keys,k∈need.map (·.1)++mk\/(Bf key h.nb k).isSome
 l:h.nb.length<=8
 le:I.Cd h.J
 d:(h.upd.map (·.1)).Nodup
def Jh:Op->Bool
 | .move _| .assign _| .pick _ _ _| .alloc _| .box _ _| .build _ _| .buildSlice _ _ _| .load _ _| .nilCheck _| .binOp _ _ _ _ _| .unOp _ _ _| .convert _ _ _| .makeInterface _ _| .makeFunc _ _ _| .makeMap _ _
 | .slice _ _ _ _ _| .fieldAddr _ _ _| .field _ _ _| .indexAddr _ _ _| .index _ _ _| .lookup _ _ _ _| .extract _ _=>false
 | .call c=>match c.callee with| .builtin .len| .builtin .cap| .builtin .min| .builtin .max=>false|_=>true
 |_=>true
def No(ops:AY BP):Nat->Nat->Nat->Bool
 |0,_,_=>false
 |n+1,j,i=>match ops[j]? with
  |none=>false
  |some o=>o.after.any λe=>Region.binds .any e&&(Nat.beq e.on i||No ops n e.on i)
def want(ops:AY BP)(a:Nat->SV)(o:BP):AK Bool:=
 match o.guard with
 |none=>some true
 |some (j,b)=>match(ops[j]?).bind (·.dst)with
  |none=>some false
  |some d=>match a d with
   | .v (.bool x)=>some (match x,b with|true,true=>true|false,false=>true|_,_=>false)
   | .v (.tuple _)=>some false
   |_=>none
structure Dc where
 ops:AY BP
 base:Nat
 drawn:Bool
def Dc.key(g:Dc)(i:Nat):Nat:=g.base+8*i
def Dc.Tv(g:Dc)(j i:Nat):Prop:=No g.ops (g.ops.size+1) j i
def Dc.strict(g:Dc):Bool:=g.drawn&&g.ops.any λo=>Jh o.op
theorem Dc.AXv{g:Dc}(a:g.drawn){j:Nat}{o:Oper}(h:g.ops[j]? =some o)(b:Jh o.op):g.strict:=by grind[Dc.strict]
def Dc.W7(g:Dc)(i:Nat)(b:AA Nat):Prop:=g.drawn->∀k∈b,∀a,Dx (g.key a) k->a=i\/g.Tv i a
def UV:AK AG->AA Nat
 |some b=>b.keys
 |none=>[]
structure AMv(c:Ctx)(g:Dc)(i:Nat)(o:BP)(σ:St)(r:SV)(nb:AK AG)(rd:AA (Nat×AG)):Prop where
 is:(want g.ops σ.tm o=some false/\r=.v undef/\nb=none/\rd=[])\/(want g.ops σ.tm o=some true/\Jh o.op=false/\Lt g.strict c.P o σ.tm (g.key i) rd σ.im r nb)
 at_:∀kb∈rd,σ.hp kb.1=some kb.2
 key:g.W7 i (rd.map (·.1)++r.keys++UV nb)
 r:∀k∈r.keys,(σ.hp k).isSome\/(k=g.key i/\nb.isSome)
 n:∀b,nb=some b->∀k∈b.keys,(σ.hp k).isSome\/k=g.key i
structure AMt(c:Ctx)(g:Dc)(i:Nat)(o:BP)(Bj:AA (Nat×Nat))(σ:St)(need:AA (Nat×AG))(mk:AA Nat)(b:AU->Prop)(a:AK (AA PanicEntry)):Prop where
 w:want g.ops σ.tm o=some true
 h:Jh o.op
 hs:HS c.P o σ.tm (g.key i) need σ.im b a
 at_:∀kb∈need,σ.hp kb.1=some kb.2
 SD:∀k∈mk,(σ.hp k).isSome
 key:g.W7 i (need.map (·.1)++mk)
 Bj:g.drawn->∀d∈Bj,∀h,b h->d.2∈h.upd.map (·.1)->g.Tv i d.1
 wf:∀h,b h->h.wf σ.im (g.key i) need mk
def KS(c:Ctx)(g:Dc)(n:AA PanicEntry->St->Prop)(i:Nat)(K:AA (Nat×Nat)->St->Prop)(b:AA (Nat×Nat))(d:St):Prop:=
 ∃o,g.ops[i]? =some o/\Rl c.n o.dst/\(∀k,Dx (g.key i) k->d.hp k=none/\k∉c.A)/\
  (
   (∃r l m,AMv c g i o d r l m/\K (m.map (λp=>(i,p.1))++b) ((d.blk (g.key i) l).put o.dst r))\/
   (∃e q f a,AMt c g i o b d e q f a/\(a=none->∀h,f h->K b (d.Dd o.dst (g.key i) h))/\(∀j,a=some j->∀h,f h->n j (d.Dd none (g.key i) h))))
def JB(c:Ctx)(g:Dc)(a:AA PanicEntry->St->Prop)(K:St->Prop):AA Nat->AA (Nat×Nat)->St->Prop
 |[],_,σ=>K σ
 |i::is,Bj,σ=>KS c g a i (JB c g a K is) Bj σ
def KS.mono{c g m i K l Bj b σ}(h:KS c g m i K Bj σ)(s:∀x∈b,x∈Bj)
 (z:∀a n σ,(∀x∈n,x∈a)->K a σ->l n σ):KS c g m i l b σ:=by
 let⟨o,u,v,w,y⟩:=h;refine⟨o,u,v,w,?_⟩;rcases y with⟨r,F,G,E,q⟩|⟨d,C,D,k,p,q,B⟩
 grind
 exact .inr ⟨d,C,D,k,{p with Bj:=λA t e=>p.Bj A t (s t e)},λf h j=>z _ _ _ s (q f h j),B⟩
def JB.mono{c g d K}:∀(is:AA Nat) {b a:AA (Nat×Nat)} {e:St},JB c g d K is b e->(∀x∈a,x∈b)->JB c g d K is a e
 |[],_,_,_,h,_=>h
 |i::is,_,_,_,h,hr=>KS.mono h hr λ_ _ _ j f=>JB.mono is f j
def AAu{ops}{o:BP}{b a}(h:∀s∈o.looksAt ops,a s=b s):∀x∈o.op.operands,ev a x=ev b x:=by
 intro x c;cases x with
 |tmp t=>
  refine h t ?_;unfold Oper.looksAt;exact E2 _ (List.mem_filterMap.2 ⟨.tmp t,by simpa using c,rfl⟩)
 |const x=>rfl
 |global g=>rfl
 |func f=>rfl
theorem Q2{ops o c a}(h:∀s∈o.looksAt ops,a s=c s):want ops a o=want ops c o:=by
 unfold want;cases f:o.guard with
 |none=>rfl
 |some g=>
  let⟨j,b⟩:=g;simp only;cases e:(ops[j]?).bind (·.dst)with
  |none=>rfl
  |some d=>
   simp only;rw[h d (by unfold Oper.looksAt;rw[f];simp[e])]
theorem LS.congr{P ops}{o:BP}{e c b d}{I J:AB}{r nb}(h:LS P o e b d I r nb)(k:∀s∈o.looksAt ops,c s=e s)(j:I.Cd J):LS P o c b d J r nb:=by intro m a w n f g p i;have q:=AAu k;exact h m a w (λx l=>by grind) f (g.of_le j) (λx l=>by grind) i
def Lt.congr{d:Bool}{P ops o e b a c I r nb}(h:Lt d P o e a c I r nb)(f:∀s∈o.looksAt ops,b s=e s):Lt d P o b a c I r nb:=by
 cases d with
 |true=>exact LS.congr (ops:=ops) (show LS P o e a c I r nb from h) f (AB.Fa _)
 |false=>exact OV.APJ (show OV P o e a c I r nb from h) (AAu f)
theorem HS.congr{P ops}{o:BP}{f e c b I g d}(h:HS P o f c b I g d)(n:∀s∈o.looksAt ops,e s=f s):HS P o e c b I g d:=by refine⟨?_⟩;intro q a w r i j k l t m;have u:=AAu n;exact h.out q a w (λx p=>by grind) i j k l (λx p=>by grind) m
theorem T5{l:AA (Nat×AG)}{f k}(h:k∉l.map (·.1)):l.foldl (λf a=>AX.upd f a.1 (some a.2)) f k=f k:=by
 induction l generalizing f with
 |nil=>rfl
 |cons x l b=>
  simp_all[upd_ne]
def AG4{l:AA (Nat×AG)}{f k x}(h:k∉l.map (·.1)):l.foldl (λf a=>AX.upd f a.1 (some a.2)) (AX.upd f k x)=AX.upd (l.foldl (λf a=>AX.upd f a.1 (some a.2)) f) k x:=by
 induction l generalizing f with
 |nil=>rfl
 |cons y l b=>
  grind[ADM]
theorem ABQ{h:AU}{a k f x}(d:h.nb.length<=8)(c: ¬Dx a k)(e:k∉h.upd.map (·.1)):h.hp a (AX.upd f k x)=AX.upd (h.hp a f) k x:=by funext n;unfold AU.hp;by_cases b:n=k;subst b;refine Eq.trans ?_ (upd_same _ _ _).symm;simp_all[PE,AG4,upd_same];refine Eq.trans ?_ (upd_ne _ _ b).symm;simp_all[AG4,upd_ne]
theorem Wr{h:AU}{a k f}(c:h.nb.length<=8)(b: ¬Dx a k)(d:k∉h.upd.map (·.1)):h.hp a f k=f k:=by grind[AU.hp,PE,T5]
def put_comm{a:St}{d e x y}(h:∀t,d=some t->e≠some t):(a.put d x).put e y=(a.put e y).put d x:=by
 cases d with
 |none=>rfl
 |some d=>
  cases e with
  |none=>rfl
  |some e=>
   grind[St.put,ADM]
def ACU{a:St}{d x k b}:(a.put d x).blk k b=(a.blk k b).put d x:=by cases d<;>cases b<;>rfl
def AN9{c:St}{j k a b}(h:j≠k):(c.blk j a).blk k b=(c.blk k b).blk j a:=by
 cases a with
 |none=>rfl
 |some a=>
  cases b with
  |none=>rfl
  |some b=>grind[St.blk,ADM]
def Z7{a:St}{k n b}(h:n≠k):(a.blk k b).hp n=a.hp n:=by
 cases b with
 |none=>rfl
 |some b=>exact upd_ne _ _ h
def ARW{i:St}{d e x a k b}{h:AU}(j:∀t,d=some t->e≠some t)(n:h.nb.length<=8)(m: ¬Dx a k)(o:k∉h.upd.map (·.1)):
 ((i.blk k b).put d x).Dd e a h=((i.Dd e a h).blk k b).put d x:=by
 have g:∀f:St,f.Dd e a h=St.put {tm:=f.tm,hp:=h.hp a f.hp,im:=h.J} e h.r:=λ_=>rfl;rw[g,g,Jr,ACU,put_comm (d:=e) (e:=d) (λt l c=>j t c l)];congr 1;cases b with
 |none=>cases d<;>rfl
 |some b=>
  cases d with
  |none=>grind[St.put,St.blk,ABQ]
  |some d=>grind[St.put,St.blk,ABQ]
def swap{c:Ctx}{g:Dc}{X i j K Bj}{σ:St}(hK:∀a a' σ,(∀x∈a',x∈a)->K a σ->K a' σ)(ad:∀Z σ W,(∀k∈c.A,σ.hp k=W.hp k)->σ.im=W.im->X Z σ->X Z W)(hg:g.drawn)(ah:i≠j)
 (R: ¬g.Tv j i) (hl:∀v,g.ops[i]? =some v->Jh v.op=false) (ae:∀v B,g.ops[i]? =some v->g.ops[j]? =some B->v.apart g.ops B)
 (h:KS c g X i (KS c g X j K) Bj σ):KS c g X j (KS c g X i K) Bj σ:=by
 let⟨v,i1,i2,i3,i5⟩:=h;have hb:∀k,Dx (g.key i) k->¬Dx (g.key j) k:=by grind[Dx,Dc.key]
 have z:Dx (g.key i) (g.key i):=⟨AZ _,oG⟩;have aa:Dx (g.key j) (g.key j):=⟨AZ _,oG⟩;have af:g.key i≠g.key j:=by unfold Dc.key;omega
 rcases i5 with⟨L,u,U,J,B,j1,j2,j3,j5⟩|⟨_,_,_,_,y,_⟩
 case inr=>have:=y.h;grind
 let⟨a1,a2,a3⟩:=Oper.apart_spec (ae v B i1 j1);have V:∀s∈B.looksAt g.ops,σ.tm s=((σ.blk (g.key i) u).put v.dst L).tm s:=by grind[ACW,V0]
 have O:∀k,k≠g.key i->((σ.blk (g.key i) u).put v.dst L).hp k=σ.hp k:=λk E=>by rw[Jr,Z7 E]
 have Q:((σ.blk (g.key i) u).put v.dst L).im=σ.im:=by rw[ACV,AFK]
 have nk:∀ {ks:AA Nat},g.W7 j ks->∀k∈ks,¬Dx (g.key i) k:=λE k d e=>by rcases E hg k d i e with e'|e';exact ah e';exact R e'
 have C:∀k,Dx (g.key j) k->σ.hp k=none/\k∉c.A:=by grind
 refine⟨B,j1,j2,C,?_⟩;rcases j5 with⟨rj,H,an,Y,E⟩|⟨ac,mk,Φ,am,y,E,hp⟩;left;have G:=nk Y.key;refine⟨rj,H,an,?_,v,i1,i2,?_,.inl ⟨L,u,U,?_,?_⟩⟩;refine{is:= ?_,at_:= ?_,key:=Y.key,r:= ?_,n:= ?_};rcases Y.is with⟨q1,q2⟩|⟨q1,q2,q3⟩
 grind[Q2]
 exact .inr ⟨by grind[Q2],q2,Lt.congr (Q▸q3) V⟩;intro p o;rw[<-O p.1 (λe=>G p.1 (by simp only[BA,BG];exact .inl (.inl ⟨p,o,rfl⟩)) (by rw[e];exact z))];exact Y.at_ p o;intro k d;have N:k≠g.key i:=by grind
 rcases Y.r k d with q|q
 grind
 exact .inr q;intro b F k d;have N:k≠g.key i:=λe=>G k (by rw[F];exact GJ _ d) (by rw[e];exact z);rcases Y.n b F k d with q|q;rw[O k N]at q;exact .inl q;exact .inr q;intro k A;exact⟨by rw[Jr,Z7 (λe=>hb k A (by rw[e];exact aa))];exact(i3 k A).1,(i3 k A).2⟩;have D:∀s∈v.looksAt g.ops,((σ.blk (g.key j) H).put B.dst rj).tm s=σ.tm s:=λs hs=>by rw[ACW (λe=>a3 s e hs),V0]
 have lk:∀k,(σ.hp k).isSome->((σ.blk (g.key j) H).put B.dst rj).hp k=σ.hp k:=λk d=>by rw[Jr,Z7];intro e;rw[e,(C _ aa).1]at d;cases d
 refine{is:= ?_,at_:= ?_,key:=J.key,r:= ?_,n:= ?_};rcases J.is with⟨q1,q2⟩|⟨q1,q2,q3⟩;exact .inl ⟨by rw[Q2 D];exact q1,q2⟩;exact .inr ⟨by rw[Q2 D];exact q1,q2,by rw[ACV,AFK];exact Lt.congr q3 D⟩;intro p o;have:=J.at_ p o;rw[lk p.1 (by rw[this];rfl)];exact this;intro k d;rcases J.r k d with q|q;rw[<-lk k q]at q;exact .inl q;exact .inr q;intro b F k d;rcases J.n b F k d with q|q;rw[<-lk k q]at q;exact .inl q;exact .inr q;have e:(((σ.blk (g.key j) H).put B.dst rj).blk (g.key i) u).put v.dst L=((((σ.blk (g.key i) u).put v.dst L).blk (g.key j) H).put B.dst rj):=by rw[ACU,ACU,put_comm (d:=B.dst) (e:=v.dst) (λt ht hd=>a2 t hd ht),AN9 (λe=>af e.symm)]
 rw[e];refine hK _ _ _ (λx P=> ?_) E;rcases BA.1 P with P|P;exact GJ _ (E2 _ P);rcases BA.1 P with P|P;exact E2 _ P;exact GJ _ (GJ _ P);right;have G:=nk y.key;have ab:∀h,Φ h->∀k,Dx (g.key i) k->k∉h.upd.map (·.1):=λh m k A hm=>by let⟨p,o,e⟩:=BG.1 hm;exact G p.1 (E2 _ ((y.wf h m).u p o).1) (by rw[e];exact A)
 have hu:∀h,Φ h->g.key i∉h.upd.map (·.1):=λh m=>ab h m _ z;have al:∀h,Φ h->∀p∈U,p.1∉h.upd.map (·.1):=λh m p o hm=>R (y.Bj hg (i,p.1) (E2 _ (BG.2 ⟨p,o,rfl⟩)) h m hm);have some_:∀(l:AA (Nat×AG))(f:Nat->AK AG) k,(f k).isSome->((l.foldl (λf p=>AX.upd f p.1 (some p.2)) f) k).isSome:=by
  intro l;induction l with
  |nil=>exact λf k h=>h
  |cons x l ih=>
   intro f k E;refine ih _ k ?_;show(AX.upd f x.1 (some x.2) k).isSome;by_cases e:k=x.1;rw[e,upd_same];rfl;rw[upd_ne _ _ e];exact E
 have I:∀(h:AU)(k:Nat),(σ.hp k).isSome->(h.hp (g.key j) σ.hp k).isSome:=λh k d=>by
  unfold AU.hp;cases Bf (g.key j) h.nb k with
  |some b=>rfl
  |none=>exact some_ _ _ _ d
 refine⟨ac,mk,Φ,am,?_,?_,?_⟩;refine{w:= ?_,h:=y.h,hs:= ?_,at_:= ?_,SD:=λk E=>by rw[<-O k (λe=>G k (GJ _ E) (by rw[e];exact z))];exact y.SD k E,key:=y.key,Bj:= ?_,wf:= ?_};rw[Q2 V];exact y.w;exact(Q▸y.hs).congr V;intro p o;rw[<-O p.1 (λe=>G p.1 (E2 _ (BG.2 ⟨p,o,rfl⟩)) (by rw[e];exact z))];exact y.at_ p o;exact λhd ik ai=>y.Bj hd ik (GJ _ ai);intro h m;have:=y.wf h m;rwa [Q]at this;intro ak h m;have A:=E ak h m;have T:=(y.wf h m).l;have e:((σ.blk (g.key i) u).put v.dst L).Dd B.dst (g.key j) h=((σ.Dd B.dst (g.key j) h).blk (g.key i) u).put v.dst L:=ARW (λt ht=>a2 t ht) T (hb _ z) (hu h m);rw[e]at A;refine⟨v,i1,i2,?_,.inl ⟨L,u,U,?_,A⟩⟩;intro k M;refine⟨?_,(i3 k M).2⟩;show(St.put _ _ _).hp _=none;rw[Jr];show h.hp (g.key j) σ.hp k=none;rw[Wr T (hb k M) (ab h m k M)];exact(i3 k M).1;have D:∀s∈v.looksAt g.ops,(σ.Dd B.dst (g.key j) h).tm s=σ.tm s:=λs hs=>by show(St.put _ _ _).tm s=_;rw[ACW (λe=>a3 s e hs)]
 have aj:(σ.Dd B.dst (g.key j) h).im=h.J:=by show(St.put _ _ _).im=_;rw[ACV]
 have S:(σ.Dd B.dst (g.key j) h).hp=h.hp (g.key j) σ.hp:=by show(St.put _ _ _).hp=_;rw[Jr]
 have wf:=y.wf h m;rw[Q]at wf;refine{is:= ?_,at_:= ?_,key:=J.key,r:= ?_,n:= ?_};rcases J.is with⟨q1,q2⟩|⟨q1,q2,q3⟩;exact .inl ⟨by rw[Q2 D];exact q1,q2⟩;exact .inr ⟨by rw[Q2 D];exact q1,q2,by rw[aj];exact(LS.congr (show LS _ _ _ _ _ _ _ _ from(Dc.AXv hg j1 y.h▸q3:Lt true _ _ _ _ _ _ _ _)) D wf.le).d⟩;intro p o;have:=J.at_ p o;rw[S,Wr T _ (al h m p o)];exact this;intro e;rw[(C _ e).1]at this;cases this;intro k d;rcases J.r k d with q|q;rw[S];exact .inl (I h k q);exact .inr q;intro b F k d;rcases J.n b F k d with q|q;rw[S];exact .inl (I h k q);exact .inr q;intro Z ag h m;refine ad Z _ _ (λk E=> ?_) ?_ (hp Z ag h m);have N:k≠g.key i:=λe=>(i3 _ z).2 (by rw[<-e];exact E);show(h.hp (g.key j) ((σ.blk (g.key i) u).put v.dst L).hp) k=(h.hp (g.key j) σ.hp) k;rw[Jr];cases u with
 |none=>rfl
 |some b=>show h.hp (g.key j) (AX.upd σ.hp (g.key i) (some b)) k=_;rw[ABQ (y.wf h m).l (hb _ z) (hu h m),upd_ne _ _ N]
 rfl
def WQ(ops:AY BP):Nat->Nat->Nat->Bool
 |0,_,_=>false
 |n+1,j,i=>match ops[j]? with
  |none=>false
  |some o=>(o.after.any λe=>Region.binds .any e&&Nat.beq e.on i)||o.after.any λe=>Region.binds .any e&&WQ ops n e.on i
def AAe{ops}:∀ {n j i:Nat},WQ ops n j i->No ops n j i
 |0,_,_,h=>by cases h
 |n+1,j,i,h=>by unfold WQ at h;unfold No;split at h;cases h;rename_i o d;simp[Ig,Array.any_eq_true,Bt]at h⊢;rcases h with⟨x,c,a,b⟩|⟨x,c,a,b⟩;exact⟨x,c,a,.inl b⟩;exact⟨x,c,a,.inr (AAe b)⟩
def PK(ops:AY BP)(i j:Nat):Bool:=
 match ops[i]?,ops[j]? with
 |some oi,some oj=> !(oi.after.any λe=>Region.binds .any e&&Nat.beq e.on j)&&((!Jh oi.op&&oi.apart ops oj)||WQ ops (ops.size+1) j i)
 |_,_=>false
def Xq(ops:AY BP):AA Nat->Bool
 |[]=>true
 |i::l=> !Nat.beq i ops.size&&l.all (λj=>PK ops i j&& !Nat.beq i j)&&Xq ops l
def Closed(ops:AY BP)(listed:AY Bool):Prop:=∀j o,ops[j]? =some o->listed.getD j false->∀e∈o.after,Region.binds .any e->listed.getD e.on false
def AGD{ops listed}(d:Closed ops listed):∀(n j i:Nat)(o:BP),ops[j]? =some o->(∀e∈o.after,Region.binds .any e->listed.getD e.on false)->No ops n j i->listed.getD i false
 |0,_,_,_,_,_,h=>by cases h
 |n+1,j,i,o,ho,hl,h=>by
  unfold No at h;rw[ho]at h;simp only[Array.any_eq_true']at h;let⟨e,m,h⟩:=h;simp only[Bt,Ig]at h;let⟨k,b⟩:=h;have hle:=hl e m k;rcases b with b|b;rw[<-Fp b];exact hle;cases a:ops[e.on]? with
  |none=>cases n<;>simp[No,a]at b
  |some f=>exact AGD d n e.on i f a (λg c l=>d e.on f a hle g c l) b
def AFX{c g f K}(n:∀w σ m,(∀k∈c.A,σ.hp k=m.hp k)->σ.im=m.im->f w σ->f w m)(x:g.drawn){j p}:∀l e σ,(∀i∈l,PK g.ops i j/\i≠j/\¬g.Tv j i)->JB c g f K (l++j::p) e σ->JB c g f K (j::(l++p)) e σ
 |[],_,_,_,h=>h
 |i::l,e,σ,hp,h=>by
  have o:=hp i sP;have y:KS c g f i (JB c g f K (j::(l++p))) e σ:=KS.mono h (λ_ h=>h) λa v C r t=>AFX n x l v C (λz s=>hp z (by simp[s])) (JB.mono _ t r);have b:=o.1;unfold PK at b;refine swap (K:=JB c g f K (l++p)) (λa v σ r t=>JB.mono _ t r) n x o.2.1 o.2.2 ?_ ?_ y;intro A u;rw[u]at b;cases d:g.ops[j]? with
  |none=>rw[d]at b;cases b
  |some B=>
   rw[d]at b;simp[Bt,Ig]at b;rcases b.2 with q|q;simpa using q.1;exact(o.2.2 (AAe q)).elim
  intro A B u d;rw[u,d]at b;simp[Bt,Ig]at b;rcases b.2 with q|q;exact q.2;exact(o.2.2 (AAe q)).elim
theorem AQo{l:AA (Nat×AG)}{f k}(h:(f k).isSome):(l.foldl (λf a=>AX.upd f a.1 (some a.2)) f k).isSome:=by
 induction l generalizing f with
 |nil=>exact h
 |cons x l b=>
  refine b ?_
  grind[AX.upd]
def T4{l:List (Nat×AG)}{f}{kb:Nat×AG}(h:kb∈l)(hd:(l.map (·.1)).Nodup):l.foldl (λf kb=>AX.upd f kb.1 (some kb.2)) f kb.1=some kb.2:=by
 induction l generalizing f with
 |nil=>cases h
 |cons x l a=>
  simp only[List.map_cons,List.nodup_cons]at hd;simp only[List.foldl_cons]
  grind[T5,upd_same]
theorem MG{h:AU}{a k f}(b:(f k).isSome):(h.hp a f k).isSome:=by grind[AU.hp,Bf,AQo]
theorem O2{h:AU}{a k f b}(c:Bf a h.nb k=some b):h.hp a f k=some b:=by unfold AU.hp;rw[c]
def ABR{h:AU}{a k f}(c:Bf a h.nb k=none):h.hp a f k=h.upd.foldl (λf b=>AX.upd f b.1 (some b.2)) f k:=by unfold AU.hp;rw[c]
theorem Ej{h:AU}{b a k q}(c:Bf a h.nb k=none):h.Am b a q k=b k:=by unfold AU.Am;rw[c]
theorem Kp{h:AU}{ρ key j q b}(a:h.nb[j]? =some b):h.Am ρ key q (key+j)=q j:=by grind[AU.Am,Gx]
def Ik.after{c:Ctx}{σ:St}{ρ w Q key q}{h:AU}{need mk}(R:Ik c σ ρ w)(v:∀k,Dx key k->σ.hp k=none/\k∉c.A)(V:∀kb∈need,σ.hp kb.1=some kb.2)(U:∀k∈mk,(σ.hp k).isSome=true)(wf:h.wf σ.im key need mk)
 (A:After σ.im ρ w Q key q h):Ik c {tm:=σ.tm,hp:=h.hp key σ.hp,im:=h.J} (h.Am ρ key q) Q:=by
 have F:∀k,Fc σ.hp k->ρ k<w.heap.size:=λk ⟨b',e,hl⟩=>by obtain⟨o,s⟩:=AG.R8 hl ρ;exact Dh (R.hp k b' o e s)
 have K:∀k∈need.map (·.1)++mk,(σ.hp k).isSome=true:=by grind
 have J:∀k,(σ.hp k).isSome=true->Bf key h.nb k=none:=λk hk=>PE wf.l (λe=>by grind);have d:∀kb∈h.upd,Fc σ.hp kb.1:=λkb a=>by obtain⟨u1,u2,_⟩:=wf.u kb a;obtain⟨x,N,e⟩:=List.mem_map.1 u1;exact⟨x.2,by rw[<-e];exact V x N,u2 x.2 (by rw[<-e];exact N)⟩
 have src:∀k b,Bf key h.nb k=none->h.hp key σ.hp k=some b->(∃kb∈h.upd,kb.1=k/\kb.2=b)\/(k∉h.upd.map (·.1)/\σ.hp k=some b):=λk b hk e=>by
  rw[ABR hk]at e;by_cases hm:k∈h.upd.map (·.1);obtain⟨kb,a,rfl⟩:=List.mem_map.1 hm;rw[T4 a wf.d]at e
  grind
  grind[T5]
 have lv:∀k,Bf key h.nb k=none->Fc (h.hp key σ.hp) k->Fc σ.hp k:=λk hk ⟨b,e,hl⟩=>by rcases src k b hk e with⟨kb,a,rfl,_⟩|⟨_,e'⟩;exact d kb a;exact⟨b,e',hl⟩
 have B:∀b:AG,(∀k∈b.keys,(σ.hp k).isSome=true)->b.den (h.Am ρ key q)=b.den ρ:=by grind[AG.JE,Ej]
 have g:∀k,Bf key h.nb k=none\/∃j b,k=key+j/\h.nb[j]? =some b/\j<h.nb.length:=by grind[Bf,UU,Nat.lt_or_ge,List.getElem?_eq_none]
 have Z:∀j b k,h.nb[j]? =some b->Bf key h.nb k=none->Fc (h.hp key σ.hp) k->q j≠ρ k:=λj b k G hk hl e=>by
  have hold:=lv k hk hl;rcases(A.nb j b G).2.2 with l|⟨kb,a,n,l⟩
  grind
  have y:kb.1=k:=R.inj _ _ (d kb a) hold (by rw[<-l,e]);obtain⟨b',e',z⟩:=hl;rcases src k b' hk e' with⟨I,u,M,S⟩|⟨hm,_⟩;have:I=kb:=by have h1:=T4 (f:=σ.hp) u wf.d;have t:=T4 (f:=σ.hp) a wf.d;rw[M,<-y,t]at h1;exact Prod.ext (by rw[M,y]) (Option.some.inj h1).symm
  rw[<-S,this,n]at z;cases z
  grind
 refine{hp:= ?_,inj:= ?_,kb:= ?_,im:=A.Gu,fs:= ?_,Es:= ?_,dj:= ?_,ad:= ?_,nw:= ?_,fr:= ?_,sz:=Nat.le_trans R.sz A.size,os:=A.os.trans R.os,tape:=A.tape.trans R.tape,output:=A.output.trans R.output};intro k b o e s;have e:h.hp key σ.hp k=some b:=e;rcases g k with hk|⟨j,b',rfl,hj,_⟩;rcases src k b hk e with⟨kb,a,rfl,rfl⟩|⟨hm,e'⟩;exact A.upd kb a o s;rw[Ej hk];rw[B b (λk' i=>R.kb k b k' e' i)]at s;have hl:Fc σ.hp k:=⟨b,e',by cases b with|gone=>cases s|_=>rfl⟩;rw[A.keep (ρ k) (F k hl) (λkb a T=>hm (List.mem_map.2 ⟨kb,a,R.inj _ _ (d kb a) hl T⟩)) (R.dj k hl).2];exact R.hp k b o e' s;rw[O2 (by rw[Gx];exact hj)]at e;cases e;rw[Kp hj,(A.nb j _ hj).1];exact s;intro j k hj hk e;rcases g j with h1|⟨W,b1,rfl,Y,X⟩;rcases g k with t|⟨i2,b2,rfl,P,O⟩;rw[Ej h1,Ej t]at e;exact R.inj j k (lv j h1 hj) (lv k t hk) e
 grind[Kp,Ej]
 rcases g k with t|⟨i2,b2,rfl,P,O⟩
 grind[Kp,Ej]
 rw[Kp Y,Kp P]at e;rw[A.qi W i2 X O e];intro k b k' e i;have e:h.hp key σ.hp k=some b:=e;have fin:(k'∈need.map (·.1)++mk\/(Bf key h.nb k').isSome=true)->(h.hp key σ.hp k').isSome=true:=by grind[MG,Option.isSome_iff_exists,O2]
 rcases g k with hk|⟨j,b',rfl,hj,_⟩;rcases src k b hk e with⟨kb,a,rfl,rfl⟩|⟨hm,e'⟩;exact fin ((wf.u kb a).2.2 k' i);exact MG (R.kb k b k' e' i);rw[O2 (by rw[Gx];exact hj)]at e;cases e;exact fin (wf.n b (List.mem_of_getElem? hj) k' i);intro b o hb;rcases A.fresh b o hb with f|⟨m,_⟩;exact R.fs b o f;exact .inr (Nat.le_trans R.sz m);intro b o hb;rcases A.Gz b o hb with f|⟨m,_⟩;obtain⟨o',H⟩:=Option.isSome_iff_exists.1 f;exact R.Es b o' H;exact .inr (Nat.le_trans R.sz m);intro k hk;show h.J _=none/\h.J.own _=none;constructor;cases p:h.J (h.Am ρ key q k)with
 |none=>rfl
 |some o=>
  exfalso;rcases g k with h1|⟨j,b,rfl,hj,C⟩;rw[Ej h1]at p;have hold:=lv k h1 hk;rcases A.fresh (ρ k) o p with f|⟨m,_⟩;rw[(R.dj k hold).1]at f;cases f
  grind
  rw[Kp hj]at p;rcases A.fresh (q j) o p with f|⟨_,r⟩;rcases(A.nb j b hj).2.2 with l|⟨kb,a,_,l⟩;have:=Dh (R.im.1 (q j) o f);omega;rw[l,(R.dj _ (d kb a)).1]at f;cases f;exact r j C rfl
 cases p:h.J.own (h.Am ρ key q k)with
 |none=>rfl
 |some o=>
  exfalso;rcases g k with h1|⟨j,b,rfl,hj,C⟩;rw[Ej h1]at p;have hold:=lv k h1 hk;rcases A.Gz (ρ k) o p with f|⟨m,_⟩;rw[(R.dj k hold).2]at f;cases f
  grind
  rw[Kp hj]at p;rcases A.Gz (q j) o p with f|⟨_,r⟩;obtain⟨o',f⟩:=Option.isSome_iff_exists.1 f;rcases(A.nb j b hj).2.2 with l|⟨kb,a,_,l⟩;have:=Dh (R.im.2 (q j) o' f);omega;rw[l,(R.dj _ (d kb a)).2]at f;cases f;exact r j C rfl
 intro k hk;rw[Ej (PE wf.l (λe=>(v k e).2 hk))];exact R.ad k hk;intro k hk;rcases g k with h1|⟨j,b,rfl,hj,C⟩;rw[Ej h1];exact R.nw k (lv k h1 hk);rw[Kp hj];rcases(A.nb j b hj).2.2 with l|⟨kb,a,n,l⟩;exact .inl (Nat.le_trans R.sz l);rw[l];exact R.nw kb.1 (d kb a);intro b hb D hO;have E:σ.im.own b=none:=by
  cases e:σ.im.own b with
  |none=>rfl
  |some o=>
   rcases R.Es b o e with L|L
   grind
   omega
 rw[A.keep b (Nat.lt_of_lt_of_le hb R.sz) (λkb a e=> ?_) E];exact R.fr b hb D hO;rcases R.nw kb.1 (d kb a)with L|⟨k',i,L⟩;omega
 grind
def ADU{c k s a w}(R:Rel c k s a w){ops o}{b:Bool}(h:want ops k.tm o=some b):Region.wanted o (yielded ops a.tmps)=b:=by
 unfold want at h;unfold Region.wanted;cases n:o.guard with
 |none=>grind
 |some r=>
  let⟨j,l⟩:=r;rw[n]at h;simp only at h⊢;unfold yielded;cases m:(ops[j]?).bind (·.dst)with
  |none=>grind
  |some d=>
   rw[m]at h;have e:=R.tm d;simp only at h;have f:∀x,a.tmps.getD d undef=x->x≠undef->a.tmps[d]? =some x:=λx g p=>by
    rw[Sv]at g
    grind
   split at h;rename_i x g;rw[g]at e;have:=f _ e (by simp[den,undef]);simp[AD4,this,den];cases x<;>cases l<;>(cases h;rfl);rename_i i g;rw[g]at e;cases h;have:(a.tmps[d]?)=none\/∃i,a.tmps[d]? =some (.tuple i):=by
    rw[Sv]at e;cases q:a.tmps[d]? with
    |none=>exact .inl rfl
    |some y=>rw[q]at e;exact .inr ⟨i,El some (show y=.tuple i from e)⟩
   grind
   cases h
def AJ3{c:Ctx}{g:Dc}{KP i K Bj σ ρ a w Q next}
 (R:Rel c σ ρ a w) (h:KS c g KP i K Bj σ) (E:∀rds' m z O n,K rds' m->Rel c m z O n->next O n) (V:∀ch m z n,KP ch m->Ik c m z n->Q (.panic ch) a n):wpOp c.P g.ops Q i next a w:=by
 obtain⟨o,h1,C,D,U⟩:=h;have kk:Dx (g.key i) (g.key i):=⟨Nat.le_refl _,oG⟩;unfold wpOp;rw[h1];dsimp only;have Rr:∀x∈o.op.operands,∀k∈(ev σ.tm x).keys,¬Dx (g.key i) k:=λx _ k p hk=>by
  cases x with
  |tmp t=>have:=R.kd t _ p;grind
  |const x=>cases p
  |global x=>cases p
  |func x=>cases p
 have B:∀x∈o.op.operands,a.eval x=den ρ (ev σ.tm x):=λx _=>R.ev x;rcases U with⟨r,nb,rd,hl,hk⟩|⟨need,mk,Φ,aa,j,hk,hp⟩;rcases hl.is with⟨q1,rfl,rfl,rfl⟩|⟨q1,_,q3⟩;rw[ADU R q1,if_neg sP];exact E _ _ ρ _ _ hk (R.put C (x:=.v undef) (λk H=>by cases H));rw[ADU R q1,if_pos rfl];left;have M:Has w ρ rd:=λkb d o' v=>R.hp kb.1 kb.2 o' (hl.at_ kb d) v;have N:∀kb∈rd,g.key i∉kb.2.keys/\g.key i≠kb.1:=λkb d=>by
  refine⟨λhm=> ?_,λe=> ?_⟩;have:=R.kb kb.1 kb.2 _ (hl.at_ kb d) hm;grind
  have:=hl.at_ kb d;grind
 have:=q3.o ρ a w B M R.im (λx p hm=>Rr x p _ hm kk) N;unfold Oper.wp;cases nb with
 |none=>
  obtain⟨n,e,G⟩:=this;rw[e,Oper.upon_value];refine E _ _ ρ _ _ hk ((R.grow G).put C λk f=> ?_);rcases hl.r k f with q|⟨_,q⟩;exact q;cases q
 |some b=>
  obtain⟨n,q,e,G,X,hb⟩:=this;rw[e,Oper.upon_value];have S:=R.ACA G (key:=g.key i) (q:=q) (b:=b) (D _ kk).1 (D _ kk).2 X hb (λk f I=>(hl.n b rfl k f).resolve_right I);refine E _ _ _ _ _ hk (S.put C λk f=> ?_);simp only[St.blk];rcases hl.r k f with P|⟨P,_⟩
  grind[upd_ne]
  rw[P,upd_same];rfl
 rw[ADU R j.w,if_pos rfl];left;have u:Has w ρ need:=λkb d o' v=>R.hp kb.1 kb.2 o' (j.at_ kb d) v;have J:∀kb∈need,(∀k∈kb.2.keys,¬Dx (g.key i) k)/\¬Dx (g.key i) kb.1:=λkb d=>by
  refine⟨λk hm hk=> ?_,λe=> ?_⟩;have:=R.kb kb.1 kb.2 _ (j.at_ kb d) hm;grind
  have:=j.at_ kb d;grind
 refine j.hs.out ρ a w B u R.im (λkb d hl=>R.dj _ ⟨kb.2,j.at_ kb d,hl⟩) (λx p y Y Z ly e=>R.inj _ _ ⟨x.2,j.at_ x p,Z⟩ ⟨y.2,j.at_ y Y,ly⟩ e) Rr J next Q ?_ ?_;intro L h n q l A;have W:=R.toIk.after D j.at_ j.SD (j.wf h l) A;refine E Bj _ (h.Am ρ (g.key i) q) _ _ (hk L h l) ?_;have T:Rel c {tm:=σ.tm,hp:=h.hp (g.key i) σ.hp,im:=h.J} (h.Am ρ (g.key i) q) a n:=
  {
   W with
   size:=R.size
   nd:=R.nd
   tm:=λs=>by rw[R.tm s];refine JE _ λk f=>(Ej (PE (j.wf h l).l ?_)).symm;intro e;have:=R.kd s k f;grind
   kd:=λs k f=>MG (R.kd s k f)}
 refine T.put C λk f=> ?_;rcases(j.wf h l).r k f with hm|hn;rcases List.mem_append.1 hm with hm|hm;obtain⟨kb,d,rfl⟩:=List.mem_map.1 hm;exact MG (by rw[j.at_ kb d];rfl);exact MG (j.SD k hm)
 grind[Option.isSome_iff_exists,O2]
 intro ch F h n q l A;exact V ch _ _ _ (hp ch F h l) (R.toIk.after D j.at_ j.SD (j.wf h l) A)
def AHC{l:AY Bool}{i j}(d:Bool)(h:i<l.size):(l.setIfInBounds i true).getD j d=if j=i then true else l.getD j d:=by
 simp only[Sv,AMh]
 grind
theorem AB1{ops listed i}:i∈Region.ready .any ops listed↔i<ops.size/\listed.getD i true=false/\∃o,ops[i]? =some o/\∀e∈o.after,Region.binds .any e->listed.getD e.on false:=by
 unfold Region.ready
 grind[Array.all_eq_true']
def AJc{ops}:∀ {l:AA Nat},Xq ops l->l.Pairwise (λi j=>PK ops i j/\i≠j)
 |[],_=>.nil
 |i::l,h=>by simp only[Xq,Bt,Df]at h;refine .cons (λj a=> ?_) (AJc h.2);have:=h.1.2 j a;simp only[KD]at this;exact⟨this.1,λe=>by simp_all⟩
def ANU{c g KP K Q}(I:∀s f b,(∀k∈c.A,f.hp k=b.hp k)->f.im=b.im->KP s f->KP s b)(hg:g.drawn)
 (V:∀f v a w,K f->Rel c f v a w->Q .normal a w) (hP:∀s b m a x,KP s b->Ik c b m x->a.defers=c.QG->Q (.panic s) a x):
 ∀(fuel:Nat)(listed:AY Bool)(rem:AA Nat)(n:AA (Nat×Nat))(f:St)(v:Nat->Nat)(a:Act)(w:AI),
  listed.size=g.ops.size->rem.length<=fuel->(∀i,i∈rem↔i<g.ops.size/\listed.getD i true=false)->rem.Pairwise (λi j=>PK g.ops i j/\i≠j)->(∀i∈rem,∀o,g.ops[i]? =some o->∀e∈o.after,Region.binds .any e->e.on<g.ops.size/\e.on≠i)->
  Closed g.ops listed->Rel c f v a w->JB c g KP K rem n f->wpAny c.P .any g.ops Q fuel listed a w:=by
 have first:∀(listed:AY Bool)(i:Nat)(l:AA Nat),listed.size=g.ops.size->(∀j,j∈i::l↔j<g.ops.size/\listed.getD j true=false)->(i::l).Pairwise (λi j=>PK g.ops i j/\i≠j)->
  (∀o,g.ops[i]? =some o->∀e∈o.after,Region.binds .any e->e.on<g.ops.size/\e.on≠i)->i∈Region.ready .any g.ops listed:=by
  intro listed i l H r B d;let⟨p,Y⟩:=(r i).1 sP;refine AB1.2 ⟨p,Y,g.ops[i],by simp[p],λe G F=> ?_⟩;let⟨u,P⟩:=d _ (by simp[p]) e G F;cases hq:listed.getD e.on true with
  |true=>
   grind
  |false=>
   have A:=(r e.on).2 ⟨u,hq⟩;rcases BD.1 A with q|q;exact(P q).elim;have:=(List.rel_of_pairwise_cons B q).1;unfold PK at this;have h1:g.ops[i]? =some g.ops[i]:=by simp[p]
   have h2:g.ops[e.on]? =some g.ops[e.on]:=by simp[u]
   rw[h1,h2]at this;simp only[Bt,KD]at this;have U:=this.1;rw[Array.any_eq_false']at U;have h4:=U e G;simp[F]at h4
 intro fuel;induction fuel with
 |zero=>
  intro listed rem n f v a w H X r B d L R h;have:rem=[]:=Hm oG;subst this;refine⟨?_,V f v a w h R⟩;apply List.eq_nil_iff_forall_not_mem.2
  grind[AB1]
 |succ fuel ih=>
  intro listed rem n f v a w H X r B d L R h;refine⟨λh0=> ?_,λj hj=> ?_⟩;cases rem with
  |nil=>exact V f v a w h R
  |cons i l=>
   have:=first listed i l H r B (d i sP)
   grind
  let⟨j1,j2,oj,j3,j4⟩:=AB1.1 hj;have M:=(r j).2 ⟨j1,j2⟩;obtain⟨T,Z,rfl⟩:=List.append_of_mem M;have D:=Y0.1 B;have aa:=JV.1 D.2.1;have F:=AFX I hg T n f (λi p=>by
   have C:=D.2.2 i p j sP;refine⟨C.1,C.2,λhd=> ?_⟩;have Y:=((r i).1 (by simp[p])).2;have u:=((r i).1 (by simp[p])).1;have:=AGD L _ j i oj j3 j4 hd
   grind) h
  have z:j<listed.size:=oG;have nj:j∉T++Z:=by grind
  refine AJ3 R F (λE b m a' x N R'=> ?_) (λs b m x N W=>hP s b m a x N W R.nd);refine ih (listed.setIfInBounds j true) (T++Z) E b m a' x (by simpa using H) (by simp at X⊢;omega) (λi=> ?_) ?_ (gR) ?_ R' N;rw[AHC true z]
  grind
  grind
  intro k ok S t e G J;rw[AHC false z]at t⊢;by_cases y:e.on=j;rw[AW y];rw[AN y];by_cases O:k=j
  grind
  rw[AN O]at t;exact L k ok S t e G J
inductive TK where
 |struct (l:AA (Nat×Nat))
 |array (n e:Nat)
 |slice (e:Nat)
 |map (k e:Nat)
 |string
 |int (k:IntKind)
 |other
structure Ty where
 n:Nat
 zero:AA AE
 k:TK
def fieldsOf(P:BX)(a:AA Field):AK (AA (Nat×Nat)):=a.mapM (λf=>(P.info? f.type).map λi=>(f.offset,i.size))
def Ia(P:BX):TypeDesc->AK TK
 | .struct a=>(fieldsOf P a.toList).map .struct
 | .array n e=>some (.array n e)
 | .slice e=>some (.slice e)
 | .map k e=>some (.map k e)
 | .string=>some .string
 | .int k=>some (.int k)
 |_=>some .other
def TK.agg:TK->Bool
 | .struct _| .array _ _=>true
 |_=>false
def AJn:AE->Bool
 | .agg _| .tuple _=>false
 |_=>true
def Sn(P:BX)(t:Av):AK Ty:=
 match P.info? t,P.underlying t with
 |some i,some d=>match i.zero,Ia P d with
  |some z,some k=>match k.agg||AJn z with
   |true=>some ⟨i.size,z.cells.toList,k⟩
   |false=>none
  |_,_=>none
 |_,_=>none
abbrev Lay:=AA (Nat×Ty)
def Lay.get(L:Lay)(t:Nat):AK Ty:=match L with
 |[]=>none
 |(u,x)::l=>match Nat.beq t u with|true=>some x|false=>Lay.get l t
def Dg(P:BX)(L:Lay):Prop:=L.map (λe=>Sn P e.1)=L.map (λe=>some e.2)
def Dg.get{P}:∀ {L:Lay},Dg P L->∀ {t:Nat} {x:Ty},L.get t=some x->Sn P t=some x
 |[],_,_,_,h=>by cases h
 |(u,y)::l,hL,t,x,h=>by
  simp only[Dg,EM,ON]at hL;unfold Lay.get at h;cases a:Nat.beq t u with
  |true=>rw[a]at h;cases h;rw[Fp a];exact hL.1
  |false=>rw[a]at h;exact Dg.get (L:=l) hL.2 h
def Ca{P t x}(h:Sn P t=some x):∃i d z,P.info? t=some i/\P.underlying t=some d/\i.zero=some z/\Ia P d=some x.k/\x.n=i.size/\x.zero=z.cells.toList:=by
 unfold Sn at h;cases b:P.info? t with
 |none=>rw[b]at h;cases h
 |some i=>
  cases e:P.underlying t with
  |none=>rw[b,e]at h;cases h
  |some d=>
   rw[b,e]at h;simp only at h;cases a:i.zero with
   |none=>rw[a]at h;cases h
   |some z=>
    cases c:Ia P d with
    |none=>rw[a,c]at h;cases h
    |some k=>
     rw[a,c]at h;simp only at h;split at h;cases h;exact⟨i,d,z,rfl,rfl,a,c,rfl,rfl⟩;cases h
def AYs{P t x}(h:Sn P t=some x)(e:x.k.agg=false):∃i z,P.info? t=some i/\i.zero=some z/\x.zero=[z]/\AJn z:=by
 unfold Sn at h;cases b:P.info? t with
 |none=>rw[b]at h;cases h
 |some i=>
  cases f:P.underlying t with
  |none=>rw[b,f]at h;cases h
  |some d=>
   rw[b,f]at h;simp only at h;cases a:i.zero with
   |none=>rw[a]at h;cases h
   |some z=>
    cases g:Ia P d with
    |none=>rw[a,g]at h;cases h
    |some k=>
     rw[a,g]at h;simp only at h;split at h;rename_i c;cases h;simp only at e;rw[e,ADj]at c;exact⟨i,z,rfl,a,(by cases z<;>first|rfl|cases c),c⟩;cases h
def PY{P d k}(h:Ia P d=some k):(match d with| .struct _| .array _ _=>true|_=>false)=k.agg:=by cases d<;>simp[Ia]at h<;>first|(subst h;rfl)|(obtain⟨_,_,rfl⟩:=h;rfl)
def ALZ{P d l}(h:Ia P d=some (.struct l)):∃a,d=.struct a/\fieldsOf P a.toList=some l:=by cases d<;>simp[Ia]at h;exact⟨_,rfl,h⟩
def Ib{P d e}(h:Ia P d=some (.slice e)):d=.slice e:=by cases d<;>simp[Ia]at h;rw[h]
def U5{P d k e}(h:Ia P d=some (.map k e)):d=.map k e:=by cases d<;>simp[Ia]at h;rw[h.1,h.2]
def ALY{P d}(h:Ia P d=some .string):d=.string:=by cases d<;>simp[Ia]at h;rfl
def ADA{P d k}(h:Ia P d=some (.int k)):d=.int k:=by cases d<;>simp[Ia]at h;rw[h]
def SV.cs:SV->AK (AA SV)
 | .g l=>some l
 | .t _=>none
 | .v (.agg _)=>none
 | .v (.tuple _)=>none
 |x=>some [x]
def SV.Rh{x l}(h:x.cs=some l)(a):(den a x).cells=(As a l).toArray:=by
 unfold SV.cs at h;split at h;cases h;rfl;cases h;cases h;cases h;cases h;rename_i b c d e;cases x with
 |v x=>cases x<;>first|rfl|exact(d _ rfl).elim|exact(e _ rfl).elim
 |g l=>exact(b _ rfl).elim
 |t l=>exact(c _ rfl).elim
 |_=>rfl
def SV.AAY{x:SV}{l}(h:x.cs=some l):∀k∈Ax l,k∈x.keys:=by unfold SV.cs at h;split at h;cases h;exact λk a=>a;cases h;cases h;cases h;cases h;intro k a;simpa[Ax]using a
theorem QE(c a b):As c (a++b)=As c a++As c b:=by simp[Gc]
theorem IM(a l):(As a l).length=l.length:=by simp[Gc]
def Rj(a l n):As a (l.take n)=(As a l).take n:=by simp[Gc]
def Ri(a l n):As a (l.drop n)=(As a l).drop n:=by simp[Gc]
theorem Fu(a l):As a (l.map .v)=l:=by rw[Gc,HA];exact List.map_id'' (λ_=>rfl) l
def Nx(l:AA AE):Ax (l.map .v)=[]:=by
 induction l with
 |nil=>rfl
 |cons x l a=>simp[Ax,SV.keys,a]
def ASa(a b):Ax (a++b)=Ax a++Ax b:=by
 induction a with
 |nil=>rfl
 |cons x l c=>simp[Ax,c]
def ASb{a b}(h:∀x∈a,x∈b):∀k∈Ax a,k∈Ax b:=λk c=>by let⟨x,d,c⟩:=Jn.1 c;exact Jn.2 ⟨x,h x d,c⟩
def splice{b:Type}(l:AA b)(a:Nat)(c:AA b):AA b:=l.take a++c++l.drop (a+c.length)
def AG3:∀(d:List Value)(A:Array Value)(b j:Nat),b+j+d.length<=A.size->
 (d.zipIdx j).foldl (λa (cj:Value×Nat)=>a.setIfInBounds (b+cj.2) cj.1) A=(splice A.toList (b+j) d).toArray
 |[],A,b,j,_=>by simp[splice,List.take_append_drop]
 |c::d,A,b,j,h=>by simp only[List.zipIdx_cons,List.foldl_cons];rw[AG3 d _ b (j+1) (by simp at h⊢;omega)];congr 1;simp only[splice,Array.toList_setIfInBounds];apply List.ext_getElem?;intro n;simp only[List.length_cons]at h;have m:A.toList.length=A.size:=sP;simp only[List.getElem?_append,List.length_take,List.length_set,List.length_append,List.getElem?_take,List.getElem?_drop,List.getElem?_set,m,List.length_cons,List.getElem?_cons];by_cases g:n<b+j;have e:n<b+(j+1):=oG;simp[g,e,show min (b+j) A.size=b+j by omega,show min (b+(j+1)) A.size=b+(j+1) by omega,show¬b+j=n by omega,show n<b+j+(d.length+1) by omega,show n<b+(j+1)+d.length by omega];by_cases l:n=b+j;subst l;simp[show min (b+j) A.size=b+j by omega,show min (b+(j+1)) A.size=b+(j+1) by omega,show b+j<b+(j+1) by omega,show b+j<A.size by omega,show b+j<b+(j+1)+d.length by omega];have e: ¬n<b+(j+1):=oG;simp only[g,e,show min (b+j) A.size=b+j by omega,show min (b+(j+1)) A.size=b+(j+1) by omega,if_false];by_cases i:n<b+j+(d.length+1);have f:n<b+(j+1)+d.length:=oG;have k: ¬n-(b+j)=0:=oG;simp[i,f,k,show n-(b+j)-1=n-(b+(j+1)) by omega];have f: ¬n<b+(j+1)+d.length:=oG;simp only[i,f,if_false];rw[if_neg oG];congr 1;omega
def QO(place:Nat->AK (Nat×Nat))(a:AA SV):AA (Nat×SV)->AK (AA SV)
 |[]=>some a
 |(i,x)::rest=>
  match place i,x.cs with
  |some (off,size),some cs=>match Nat.beq cs.length size,Nat.ble (off+size) a.length with
   |true,true=>QO place (splice a off cs) rest
   |_,_=>none
  |_,_=>none
def AAv{place ρ}:∀ {parts:AA (Nat×SV)} {a r:AA SV},QO place a parts=some r->Instr.fill place (As ρ a).toArray (parts.map λp=>(p.1,den ρ p.2))=some (As ρ r).toArray
 |[],a,r,h=>by cases h;rfl
 |(i,x)::rest,a,r,h=>by
  unfold QO at h;cases d:place i with
  |none=>rw[d]at h;cases h
  |some m=>
   let⟨b,size⟩:=m;cases e:x.cs with
   |none=>rw[d,e]at h;cases h
   |some c=>
    rw[d,e]at h;simp only at h;split at h;rename_i k l;have f:c.length=size:=Fp k;have n:b+size<=a.length:=KL l;simp only[EM,Instr.fill,d,SV.Rh e];have o:(As ρ c).toArray.size=size:=by simp[IM,f]
    rw[AN (by simp[IM,f];omega)];have:=AG3 (As ρ c) (As ρ a).toArray b 0 (by simp[IM];omega);simp only[FD]at this;have g:(As ρ c).toArray.zipIdx.foldl (λc (x:AE×Nat)=>c.setIfInBounds (b+x.2) x.1) (As ρ a).toArray=(splice (As ρ a) b (As ρ c)).toArray:=by rw[<-Array.foldl_toList];simpa using this
    rw[g];have j:splice (As ρ a) b (As ρ c)=As ρ (splice a b c):=by simp[splice,QE,Rj,Ri,IM]
    rw[j];exact AAv h;cases h
def AIw{b:Type}{l cs:List b}{a:Nat}{x:b}(h:x∈splice l a cs):x∈l\/x∈cs:=by unfold splice at h;rcases List.mem_append.1 h with h|h;rcases List.mem_append.1 h with h|h;exact .inl (List.mem_of_mem_take h);exact .inr h;exact .inl (List.mem_of_mem_drop h)
def AAw{place}:∀ {parts:List (Nat×SV)} {a r:List SV},QO place a parts=some r->∀k∈Ax r,k∈Ax a\/∃p∈parts,k∈p.2.keys
 |[],a,r,h=>by cases h;exact λk e=>.inl e
 |(i,x)::rest,a,r,h=>by
  unfold QO at h;cases f:place i with
  |none=>rw[f]at h;cases h
  |some m=>
   obtain⟨l,j⟩:=m;cases d:x.cs with
   |none=>rw[f,d]at h;cases h
   |some n=>
    rw[f,d]at h;simp only at h;split at h;intro k e;rcases AAw h k e with q|⟨p,g,q⟩;obtain⟨y,c,b⟩:=Jn.1 q;rcases AIw c with c|c;exact .inl (Jn.2 ⟨y,c,b⟩);exact .inr ⟨(i,x),sP,SV.AAY d k (Jn.2 ⟨y,c,b⟩)⟩;exact .inr ⟨p,List.mem_cons_of_mem _ g,q⟩;cases h
def bin(c:BinOp):SV->SV->AK AE
 | .v (.int k a),.v (.int k' b)=>match decide (k=k')with
   |false=>none
   |true=>match c with
    | .add=>some (.int k (k.wrap (a+b)))
    | .sub=>some (.int k (k.wrap (a-b)))
    | .mul=>some (.int k (k.wrap (a*b)))
    | .eql=>some (.bool (a==b))
    | .neq=>some (.bool (a !=b))
    | .lss=>some (.bool (a<b))
    | .leq=>some (.bool (a<=b))
    | .gtr=>some (.bool (a>b))
    | .geq=>some (.bool (a≥b))
    |_=>none
 | .v (.string a),.v (.string b)=>match c with
   | .eql=>some (.bool (a.toList==b.toList))
   | .neq=>some (.bool (!(a.toList==b.toList)))
   |_=>none
 |_,_=>none
def LK(a:Nat->SV):AA Operand->AA SV
 |[]=>[]
 |x::l=>ev a x::LK a l
def QM(a:Nat->SV):AA (Nat×Operand)->AA (Nat×SV)
 |[]=>[]
 |(i,x)::l=>(i,ev a x)::QM a l
def Wd(a l):LK a l=l.map (ev a):=by
 induction l with
 |nil=>rfl
 |cons x l b=>simp[LK,b]
def Wc(a l):QM a l=l.map λp=>(p.1,ev a p.2):=by
 induction l with
 |nil=>rfl
 |cons x l b=>let⟨i,x⟩:=x;simp[QM,b]
def Tx:AE->AE->AK Bool
 | .int k a,.int k' b=>match decide (k=k')with
   |true=>some (a==b)
   |false=>none
 | .string a,.string b=>some (a==b)
 |_,_=>none
def UH:TK->AE->Bool
 | .int k,.int k' _=>decide (k'=k)
 | .string,.string _=>true
 |_,_=>false
def SH(a:Bool)(v:SV)(b:Bool):SV:=match a with
 |true=>.t [v,.v (.bool b)]
 |false=>v
def Mu(a:AE):AA AE->AA SV->AK (AK SV)
 |[],[]=>some none
 |k::ks,v::vs=>match Tx a k with
  |some true=>some (some v)
  |some false=>Mu a ks vs
  |none=>none
 |_,_=>none
def AHt{P d k a}(c:Ia P d=some k)(h:UH k a):MapKept.IsKey d a/\∀x r,Tx a x=some r->Instr.sameNow d a x=some r:=by unfold UH at h;split at h;have:=ADA c;subst this;have h:=JY h;refine⟨h,λx r b=> ?_⟩;cases x<;>simp[Tx]at b;split at b;rename_i e;simp at b;simp only[Instr.sameNow];rw[AW (JY e)];simpa using b;cases b;have:=ALY c;subst this;refine⟨A0,λx r b=> ?_⟩;cases x<;>simp[Tx]at b;simpa[Instr.sameNow]using b;cases h
def AAf{d b}(l:∀x r,Tx b x=some r->Instr.sameNow d b x=some r)(g):∀(c:AA AE)(f:AA SV)(n i:Nat)(a:AK SV),Mu b c f=some a->
 (
  match a with
  |some v=>∃j,Instr.findNow d b (Kh c (As g f) n) i=some (some (j,den g v))
  |none=>Instr.findNow d b (Kh c (As g f) n) i=some none)
 |[],[],n,i,a,h=>by cases h;rfl
 |k::c,v::f,n,i,a,h=>by simp[Mu]at h;split at h;rename_i e;cases h;exact⟨i,by simp[As,Kh,Instr.findNow,l _ _ e]⟩;rename_i e;have m:=AAf l g c f (n+1) (i+1) a h;simp[As,Kh,Instr.findNow,l _ _ e];exact m;cases h
 |[],_::_,_,_,_,h=>by cases h
 |_::_,[],_,_,_,h=>by cases h
def AGE{c}:∀d b v,Mu c d b=some (some v)->∀k∈v.keys,k∈Ax b
 |[],[],_,h=>by cases h
 |k::d,v::b,x,h=>by simp[Mu]at h;intro e a;simp[Ax,BA];split at h;cases h;exact .inl a;exact .inr (AGE d b x h e a);cases h
 |[],_::_,_,h=>by cases h
 |_::_,[],_,h=>by cases h
def AIy:∀(c d:AA AE)(n:Nat)(k v:AE),c.length=d.length->Kh (c++[k]) (d++[v]) n=Kh c d n++[{key:=k,val:=v,born:=n+c.length}]
 |[],[],n,k,v,_=>rfl
 |a::c,b::d,n,k,v,h=>by simp[Fj,Kh,EW];rw[AIy c d (n+1) k v (by simpa using h),show n+1+c.length=n+(c.length+1) by omega]
def AGF{c}:∀a b,Mu c a b=some none->a.length=b.length
 |[],[],_=>rfl
 |k::a,v::b,h=>by simp[Mu]at h;split at h;cases h;simp[EW];rw[AGF a b h];cases h
 |[],_::_,h=>by cases h
 |_::_,[],h=>by cases h
def XH(L:Lay)(o:Op)(g:Nat->SV)(m:Nat->AK AG)(h:Nat):AK (SV×AK AG×AA (Nat×AG)):=
 match o with
 | .move x| .assign x=>some (ev g x,none,[])
 | .pick c a b=>match ev g c with
   | .v (.bool true)=>some (ev g a,none,[])
   | .v (.bool false)=>some (ev g b,none,[])
   |_=>none
 | .alloc e=>match L.get e with
   |some j=>some (.p h 0,some (.cells (j.zero.map .v) e),[])
   |none=>none
 | .box e x=>match(ev g x).cs with
   |some q=>some (.p h 0,some (.cells q e),[])
   |none=>none
 | .build t parts=>match L.get t with
   |some ⟨_,zero,.struct l⟩=>match QO (l.toArray[·]?) (zero.map .v) (QM g parts.toList)with
    |some r=>some (.g r,none,[])
    |none=>none
   |_=>none
 | .buildSlice t 0 parts=>match L.get t,parts.toList with
   |some ⟨_,_,.slice e⟩,[]=>match L.get e with
    |some _=>some (.s h 0 0 0,some (.Aa [] e),[])
    |none=>none
   |_,_=>none
 | .buildSlice t len parts=>match L.get t with
   |some ⟨_,_,.slice e⟩=>match L.get e with
    |some ⟨n,zero,_⟩=>match Nat.ble (len*n) (2^24),Nat.beq (len*n) 0 with
     |true,false=>match QO (λi=>some (i*n,n)) (((Array.range (len*n)).map (zero.toArray[· %zero.toArray.size]!)).toList.map SV.v) (QM g parts.toList)with
      |some r=>some (.s h 0 len len,some (.cells r e),[])
      |none=>none
     |_,_=>none
    |none=>none
   |_=>none
 | .load t x=>match ev g x with
   | .p k d=>match m k with
     |some (.cells l e)=>match L.get t with
      |some j=>match j.k.agg,Nat.ble (d+j.n) l.length with
       |true,true=>some (.g ((l.drop d).take j.n),none,[(k,.cells l e)])
       |false,true=>match l[d]? with
        |some y=>some (y,none,[(k,.cells l e)])
        |none=>none
       |_,_=>none
      |none=>none
     |_=>none
   |_=>none
 | .nilCheck x=>match ev g x with
   | .p k d=>some (.p k d,none,[])
   | .v (.pointer (some a))=>some (.v (.pointer (some a)),none,[])
   | .fn (.func f) a b=>some (.fn (.func f) a b,none,[])
   |_=>none
 | .fieldAddr s x f=>match L.get s with
   |some ⟨_,_,.struct l⟩=>match l[f]?,ev g x with
    |some (d,size),.p k o=>match Nat.beq size 0 with
     |false=>some (.p k (o+d),none,[])
     |true=>none
    |some (d,size),.v (.pointer (some a))=>match Nat.beq size 0 with
     |false=>some (.v (.pointer (some (a.add d))),none,[])
     |true=>none
    |_,_=>none
   |_=>none
 | .field t x f=>match L.get t with
   |some ⟨_,_,.struct l⟩=>none
   |_=>none
 | .extract x i=>match ev g x with
   | .t l=>match l[i]? with
     |some y=>some (y,none,[])
     |none=>none
   |_=>none
 | .makeFunc f a b=>some (.fn f (LK g a.toList) (LK g b.toList),none,[])
 | .makeMap _ none=>some (.m h,some (.DZ [] []),[])
 | .lookup t x ix p=>match L.get t,ev g x,ev g ix with
   |some ⟨_,_,.map kt et⟩,.m km,.v h=>match m km,L.get kt,L.get et with
    |some (.DZ ks vs),some tk,some te=>match UH tk.k h,Mu h ks vs with
     |true,some (some r)=>some (SH p r true,none,[(km,.DZ ks vs)])
     |true,some none=>match te.k.agg,te.zero with
      |false,[z]=>some (SH p (.v z) false,none,[(km,.DZ ks vs)])
      |_,_=>none
     |_,_=>none
    |_,_,_=>none
   |_,_,_=>none
 | .binOp u _ x y _=>match bin u (ev g x) (ev g y)with
   |some r=>some (.v r,none,[])
   |none=>none
 | .unOp .not _ x=>match ev g x with
   | .v (.bool b)=>some (.v (.bool (!b)),none,[])
   |_=>none
 | .call {callee:=.builtin .len,args:=args,argTypes:=ts}=>match args.toList,ts.toList with
   |[x],[t]=>match L.get t,ev g x with
    |some ⟨_,_,.slice _⟩,.v (.slice _ n _)=>some (.v (.int .i64 n),none,[])
    |some ⟨_,_,.slice _⟩,.s _ _ n _=>some (.v (.int .i64 n),none,[])
    |some ⟨_,_,.string⟩,.v (.string s)=>some (.v (.int .i64 s.size),none,[])
    |_,_=>none
   |_,_=>none
 | .indexAddr t x ix=>match L.get t with
   |some ⟨_,_,.slice e⟩=>match L.get e,ev g x,ev g ix with
    |some j,.s k d n _,.v (.int _ (.ofNat i))=>match Nat.blt i n with
     |true=>some (.p k (d+i*j.n),none,[])
     |false=>none
    |_,_,_=>none
   |_=>none
 | .convert s t x=>match L.get s,L.get t,ev g x with
   |some ⟨_,_,.int _⟩,some ⟨_,_,.int k⟩,.v (.int _ n)=>some (.v (.int k (k.wrap n)),none,[])
   |_,_,_=>none
 |_=>none
def KeysOf(o:BP)(f:Nat->SV)(a:Nat)(e:AA (Nat×AG))(d:AK AG)(c:AA Nat):Prop:=
 ∀k∈c,(∃x∈o.op.operands,k∈(ev f x).keys)\/(∃b∈e,k∈b.2.keys)\/(k=a/\d.isSome)
structure RO(P:BX)(o:BP)(tm:Nat->SV)(hp:Nat->AK AG)(key:Nat)(I:AB)(r:SV)(nb:AK AG)(rd:AA (Nat×AG)):Prop where
 ls:LS P o tm key rd I r nb
 at_:∀kb∈rd,hp kb.1=some kb.2
 kr:KeysOf o tm key rd nb r.keys
 kn:KeysOf o tm key rd nb (UV nb)
 h:Jh o.op=false
def KeysOf.operand{o b a f e x}(d:x∈o.op.operands):KeysOf o b a f e (ev b x).keys:=λ_ c=>.inl ⟨x,d,c⟩
theorem KeysOf.nil{o e a d c}:KeysOf o e a d c []:=λ_ b=>by cases b
def Vx(P w b):(newObj b).run P w=.ok w.heap.size {w with heap:=w.heap.push b}:=rfl
def ABG(w b):BB w {w with heap:=w.heap.push b}:=
 ⟨rfl,rfl,rfl,sP,λk a=>by show(w.heap.push b)[k]? =_;rw[Sw,AN oG]⟩
def Qn(w:AI)(b):({w with heap:=w.heap.push b}:AI).heap[w.heap.size]? =some b:=sP
def RO.pure{P o e h b I r}(g:Jh o.op=false)
 (i:∀(c:Nat->Nat)(a:Act)(w:AI),(∀x∈o.op.operands,a.eval x=den c (ev e x))->(execOp a.eval o).run P w=.ok (.value (den c r)) w) (d:KeysOf o e b [] none r.keys):RO P o e h b I r none []:=
 ⟨λc a w f _ _ _ _=>⟨w,i c a w f,BB.refl w⟩,nA,d,KeysOf.nil,g⟩
def RO.new{P o tm hp key I r b}(g:Jh o.op=false)
 (i:∀(ρ:Nat->Nat)(a:Act)(w:AI),(∀x∈o.op.operands,a.eval x=den (upd ρ key w.heap.size) (ev tm x))->∃ob,b.den (upd ρ key w.heap.size)=some ob/\(execOp a.eval o).run P w=.ok (.value (den (upd ρ key w.heap.size) r)) {w with heap:=w.heap.push ob})
 (hk:r.keys=[key]) (hb:∀k∈b.keys,∃x∈o.op.operands,k∈(ev tm x).keys):RO P o tm hp key I r (some b) [] where
 ls ρ a w he _ _ hf _:=by
  let⟨ob,h1,f⟩:=i ρ a w (λx d=>by rw[he x d];exact JE _ λk c=>(upd_ne _ _ (λe=>hf x d (by rw[<-e];exact c))).symm)
  exact⟨_,w.heap.size,f,ABG w ob,AZ _,by rw[h1];exact Qn w ob⟩
 at_ _ hk:=by cases hk
 kr k c:=by rw[hk]at c;exact .inr (.inr ⟨AP.1 c,rfl⟩)
 kn k c:=.inl (hb k c)
 h:=g
def ABp{P L}(T:Dg P L){o tm O ac I r nb rd}
 (h:XH L o.op tm O ac=some (r,nb,rd)):RO P o tm O ac I r nb rd:=by
 unfold XH at h;split at h;rename_i x u;cases h;have D:x∈o.op.operands:=xO
 exact .pure (by rw[u];rfl) (λC a w B=>by simp[execOp,u,B x D]) (KeysOf.operand D);rename_i x u;cases h;have D:x∈o.op.operands:=xO
 exact .pure (by rw[u];rfl) (λC a w B=>by simp[execOp,u,B x D]) (KeysOf.operand D);rename_i c x y u;have a1:c∈o.op.operands:=xO
 have D:x∈o.op.operands:=xO
 have X:y∈o.op.operands:=xO
 split at h;rename_i hc;cases h;exact .pure (by rw[u];rfl) (λC a w B=>by have K:=B c a1;rw[hc]at K;simp[execOp,u,K,den,asBool,B x D]) (KeysOf.operand D)
 rename_i hc;cases h;exact .pure (by rw[u];rfl) (λC a w B=>by have K:=B c a1;rw[hc]at K;simp[execOp,u,K,den,asBool,B y X]) (KeysOf.operand X)
 cases h;rename_i e u;split at h;rename_i ty E;cases h;let⟨i,d,z,U,S,Y,F,hn,hzero⟩:=Ca (T.get E);refine .new (by rw[u];rfl) (λC a w B=>⟨.cells z.cells e (0,0),by simp[AG.den,Fu,hzero],?_⟩) rfl (λk F=>by simp[AG.keys,Nx]at F);simp[execOp,u,Instr.alloc,zeroValue,typeInfo,U,Y,newVar,newRow,Vx,den,upd_same];cases h;rename_i e x u;have D:x∈o.op.operands:=xO
 split at h;rename_i cs a2;cases h;refine .new (by rw[u];rfl) (λC a w B=>⟨.cells (As (upd C ac w.heap.size) cs).toArray e (0,0),rfl,?_⟩) rfl (λk F=>⟨x,D,SV.AAY a2 k F⟩);simp[execOp,u,Instr.box,newVar,newRow,Vx,den,upd_same,B x D,SV.Rh a2];cases h;rename_i t parts u;split at h;rename_i n zero l E;split at h;rename_i r' hr;cases h;let⟨i,d,z,U,S,Y,F,hn,hzero⟩:=Ca (T.get E);obtain⟨fs,rfl,au⟩:=ALZ F;have ai:∀p∈parts.toList,p.2∈o.op.operands:=λp O=>by simp[u,Op.operands];exact⟨p.1,by simpa using O⟩
 refine .pure (by rw[u];rfl) (λC a w B=> ?_) (λk F=> ?_);have V:=AAv (ρ:=C) hr;rw[Fu]at V;have e1:(QM tm parts.toList).map (λp=>(p.1,den C p.2))=(parts.map λx=>(x.1,a.eval x.2)).toList:=by rw[Wc,HA,Sy];exact Ih λp O=>by simp[B p.2 (ai p O)]
 rw[e1]at V;have W:P.built t (parts.map λx=>(x.1,a.eval x.2)).toList=some (As C r').toArray:=by unfold Program.built;rw[U,S];simp only[Y];have:fs.toList.mapM (λf=>(P.info? f.type).map λi=>(f.offset,i.size))=some l:=au;rw[this];simp only;simp only at hzero;rw[<-V,hzero]
 have:=run_build (P:=P) w t _ _ W;simp only[execOp,u,Sem.run_bind,den];rw[show(parts.map λx=>match x with|(i,x)=>(i,a.eval x))=parts.map λx=>(x.1,a.eval x.2)from rfl,this];rfl;rcases AAw hr k F with q|⟨p,O,q⟩;simp[Nx]at q;rw[Wc]at O;obtain⟨p',aw,rfl⟩:=BG.1 O;exact .inl ⟨p'.2,ai p' aw,q⟩;cases h;cases h;rename_i t parts u;split at h;rename_i n0 J e E bu;split at h;rename_i ty ak;cases h;let⟨i,d,z,U,S,Y,F,hn,hzero⟩:=Ca (T.get E);let⟨ie,de,ze,ag,a4,ay,a8,aa,Q⟩:=Ca (T.get ak);have M:=Ib F;subst M;have bt:parts=#[]:=KC.1 bu;refine .new (by rw[u];rfl) (λC a w B=>⟨_,rfl,?_⟩) rfl nA;have bv:Array.range 0=#[]:=rfl;simp[execOp,u,Instr.buildSlice,run_underlying S,sizeOf,typeInfo,ag,bt,Instr.fill,newRow,Vx,den,upd_same,As,bv];cases h;cases h;rename_i t len parts hlen u;split at h;rename_i n0 J e E;split at h;rename_i n zero k0 ak;split at h;rename_i bj a0;split at h;rename_i r' hr;cases h;let⟨i,d,z,U,S,Y,F,hn,hzero⟩:=Ca (T.get E);let⟨ie,de,ze,ag,a4,ay,a8,aa,Q⟩:=Ca (T.get ak);have M:=Ib F;subst M;have ai:∀p∈parts.toList,p.2∈o.op.operands:=λp O=>by simp[u,Op.operands];exact⟨p.1,by simpa using O⟩
 refine .new (by rw[u];rfl) (λC a w B=>⟨_,rfl,?_⟩) rfl (λk F=> ?_);have V:=AAv (ρ:=upd C ac w.heap.size) hr;rw[Fu]at V;have e1:(QM tm parts.toList).map (λp=>(p.1,den (upd C ac w.heap.size) p.2))=(parts.map λx=>(x.1,a.eval x.2)).toList:=by rw[Wc,HA,Sy];exact Ih λp O=>by simp[B p.2 (ai p O)]
 simp only at aa Q;rw[e1,Array.toArray_toList,Q,Array.toArray_toList,aa]at V;have K: ¬len*ie.size>2^24:=by have:=KL bj;rw[aa]at this;omega
 have Z: ¬len*ie.size=0:=by intro e0;rw[aa,e0]at a0;simp at a0
 have:=run_buildSlice (P:=P) w t e len _ _ ie ze S ag ay K Z V;simp only[execOp,u,Sem.run_bind,den,upd_same];rw[show(parts.map λx=>match x with|(i,x)=>(i,a.eval x))=parts.map λx=>(x.1,a.eval x.2)from rfl,this];rfl;rcases AAw hr k F with q|⟨p,O,q⟩;rw[Nx]at q;cases q;rw[Wc]at O;obtain⟨p',aw,rfl⟩:=BG.1 O;exact⟨p'.2,ai p' aw,q⟩;cases h;cases h;cases h;cases h;rename_i t x u;have D:x∈o.op.operands:=xO
 split at h;rename_i k H A;split at h;rename_i l e am;split at h;rename_i ty E;let⟨i,d,z,U,S,Y,F,hn,hzero⟩:=Ca (T.get E);have cellAt:∀(C:Nat->Nat)(w:AI),Has w C [(k,.cells l e)]->∀j,w.cell? ⟨C k,j,none⟩=(As C l)[j]? :=λC w hh j=>by have:=hh (k,.cells l e) sP _ rfl;simp only at this;simp[World.cell?,this]
 split at h;rename_i ae hle;cases h;refine⟨λC a w B hh _ _ _=>⟨w,?_,BB.refl w⟩,λkb R=> ?_,λk' N=> ?_,KeysOf.nil,by rw[u];rfl⟩;have hc:w.rangeAt (C k) H ((As C l).drop H |>.take ty.n):=λj v hv=>by rw[cellAt C w hh];rw[GX]at hv;split at hv;rw[II]at hv;exact hv;cases hv
 have M:d.isRow:=by rw[<-PY F]at ae;cases d<;>simp_all[TypeDesc.isRow]
 have bx:=KL hle;have:=run_loadVar_mid (P:=P) w (C k) H t _ d hc S M (by rw[U];simp[IM,hn];rw[<-hn];omega);simp only[execOp,u,Sem.run_bind,B x D,A,den,Instr.loadAt,Instr.sureAddr,Sem.run_pure,Result.andThen_ok,this];simp[Rj,Ri];simp at R;subst R;exact am;exact .inr (.inl ⟨(k,.cells l e),sP,ASb (λy X=>Kw (Fl X)) k' N⟩);rename_i ae hle;split at h;rename_i y X;cases h;refine⟨λC a w B hh _ _ _=>⟨w,?_,BB.refl w⟩,λkb R=> ?_,λk' N=> ?_,KeysOf.nil,by rw[u];rfl⟩;have bi:(isAgg t).run P w=.ok false w:=by have K:=PY F;rw[ae]at K;simp only[isAgg,Sem.run_bind,run_underlying S,Result.andThen_ok];cases d<;>simp_all
 have aq:w.cell? ⟨C k,H,none⟩=some (den C r):=by rw[cellAt C w hh,Gc,E0,X];rfl
 simp only[execOp,u,Sem.run_bind,B x D,A,den,Instr.loadAt,Instr.sureAddr,Sem.run_pure,Result.andThen_ok,loadVar,bi];simp[load,Sem.run,aq];simp at R;subst R;exact am;exact .inr (.inl ⟨(k,.cells l e),sP,Jn.2 ⟨r,Cv X,N⟩⟩);cases h;cases h;cases h;cases h;cases h;rename_i x u;have D:x∈o.op.operands:=xO
 split at h;rename_i A;cases h;exact .pure (by rw[u];rfl) (λC a w B=>by simp[execOp,u,B x D,A,den]) (by rw[<-A];exact KeysOf.operand D);rename_i A;cases h;exact .pure (by rw[u];rfl) (λC a w B=>by simp[execOp,u,B x D,A,den]) (by rw[<-A];exact KeysOf.operand D);rename_i A;cases h;exact .pure (by rw[u];rfl) (λC a w B=>by simp[execOp,u,B x D,A,den]) (by rw[<-A];exact KeysOf.operand D);cases h;rename_i s x f u;have D:x∈o.op.operands:=xO
 split at h;rename_i n0 J l E;let⟨i,d,z,U,S,Y,F,hn,hzero⟩:=Ca (T.get E);obtain⟨fs,rfl,au⟩:=ALZ F;have az:∀H G,l[f]? =some (H,G)->G≠0->∃fd,fs[f]? =some fd/\fd.offset=H/\∀w,(sizeOf fd.type).run P w=.ok G w:=by
  intro H G V _;have aux:∀(gs:AA Field)(l:AA (Nat×Nat))(n:Nat),fieldsOf P gs=some l->l[n]? =some (H,G)->∃fd,gs[n]? =some fd/\fd.offset=H/\∀w,(sizeOf fd.type).run P w=.ok G w:=by
   intro gs;induction gs with
   |nil=>intro l n K Z;simp[fieldsOf]at K;subst K;simp at Z
   |cons g gs ih=>
    intro l n K Z;simp only[fieldsOf,List.mapM_cons,Option.bind_eq_bind,Option.pure_def]at K;cases U:P.info? g.type with
    |none=>simp[U]at K
    |some i=>
     cases hr:gs.mapM (λf=>(P.info? f.type).map λi=>(f.offset,i.size))with
     |none=>simp[U,hr]at K
     |some rest=>
      simp[U,hr]at K;subst K;cases n with
      |zero=>simp at Z;exact⟨g,rfl,Z.1,λw=>by simp[sizeOf,typeInfo,U,Z.2]⟩
      |succ n=>simp at Z;simpa using ih rest n hr Z
  let⟨fd,K,Z⟩:=aux fs.toList l f au V;exact⟨fd,by simpa using K,Z⟩
 split at h;rename_i H G k o' V A;split at h;rename_i hs;cases h;have aj:G≠0:=λe=>by rw[e]at hs;simp at hs
 let⟨fd,K,Z,h3⟩:=az H G V aj;refine .pure (by rw[u];rfl) (λC a w B=> ?_) (λk' N=>.inl ⟨x,D,by rw[A];exact N⟩);simp only[execOp,u,Sem.run_bind,Instr.fieldAt,run_underlying S,Result.andThen_ok,K,B x D,A,den,Instr.sureAddr,Sem.run_pure,fieldPlace,h3,aj,Gn,Z,Addr.add_mid];cases h;rename_i H G ad V A;split at h;rename_i hs;cases h;have aj:G≠0:=λe=>by rw[e]at hs;simp at hs
 let⟨fd,K,Z,h3⟩:=az H G V aj;refine .pure (by rw[u];rfl) (λC a w B=> ?_) KeysOf.nil;simp only[execOp,u,Sem.run_bind,Instr.fieldAt,run_underlying S,Result.andThen_ok,K,B x D,A,den,Instr.sureAddr,Sem.run_pure,fieldPlace,h3,aj,Gn,Z];cases h;cases h;cases h;split at h<;>cases h;rename_i x i u;have D:x∈o.op.operands:=xO
 split at h;rename_i l A;split at h;rename_i y X;cases h;refine .pure (by rw[u];rfl) (λC a w B=> ?_) (λk' N=>.inl ⟨x,D,by rw[A];exact Jn.2 ⟨r,Cv X,N⟩⟩);simp[execOp,u,B x D,A,den,Instr.extract,Gc,X];cases h;cases h;rename_i f xs ys u;cases h;refine .pure (by rw[u];rfl) (λC a w B=> ?_) (λk' N=> ?_);have e1:xs.map a.eval=(As C (LK tm xs.toList)).toArray:=by apply KC.1;rw[Sy,Gc,Wd,HA];exact Ih λp O=>B p (by simp[u,Op.operands];exact .inl (by simpa using O))
 have e2:ys.map a.eval=(As C (LK tm ys.toList)).toArray:=by apply KC.1;rw[Sy,Gc,Wd,HA];exact Ih λp O=>B p (by simp[u,Op.operands];exact .inr (by simpa using O))
 simp[execOp,u,Instr.makeFunc,den,e1,e2];simp only[SV.keys,BA]at N;rcases N with q|q<;>(let⟨y,X,ba⟩:=Jn.1 q;rw[Wd]at X;obtain⟨p,O,rfl⟩:=BG.1 X);exact .inl ⟨p,by simp[u,Op.operands];exact .inl (by simpa using O),ba⟩;exact .inl ⟨p,by simp[u,Op.operands];exact .inr (by simpa using O),ba⟩;rename_i t u;cases h;refine .new (by rw[u];rfl) (λC a w B=>⟨_,rfl,?_⟩) rfl nA;simp[execOp,u,Instr.makeMap,Vx,den,upd_same];rfl;rename_i t x ix ok u;have D:x∈o.op.operands:=xO
 have av:ix∈o.op.operands:=xO
 split at h;rename_i n0 z0 kt et km kv E A a6;split at h;rename_i ks vs tk te am br bm;let⟨i0,d0,b6,bz,a3,b4,bn,b1,bf⟩:=Ca (T.get E);let⟨i1,d1,b7,b0,al,b5,bo,b2,bg⟩:=Ca (T.get br);have:=U5 bn;subst this;have core:∀(v:SV)(b:Bool)(a:AK SV),UH tk.k kv->Mu kv ks vs=some a->(match a with|some x=>v=x/\b=true|none=>b=false/\v.keys=[]/\∃z,(∀w,(zeroValue et).run P w=.ok z w)/\v=.v z)->
  RO P o tm O ac I (SH ok v b) none [(km,.DZ ks vs)]:=by
  intro v b a R ab hr;let⟨ao,ax⟩:=AHt bo R;have ah:∀k∈v.keys,k∈Ax vs:=by
   cases a with
   |some x=>obtain⟨rfl,_⟩:=hr;exact AGE ks vs v ab
   |none=>rw[hr.2.1];intro k F;cases F
  refine⟨λC a' w B hh _ _ _=>⟨w,?_,BB.refl w⟩,λkb an=>by simp at an;subst an;exact am,λk F=>.inr (.inl ⟨_,AP.2 rfl,?_⟩),KeysOf.nil,by rw[u];rfl⟩;have W:=hh (km,.DZ ks vs) sP _ rfl;have e1:=B x D;have e2:=B ix av;rw[A]at e1;rw[a6]at e2;simp only[den]at e1 e2;have af:=AAf ax C ks vs 0 0 a ab;cases a with
  |some y=>
   obtain⟨rfl,rfl⟩:=hr;let⟨j,hj⟩:=af;have V:=MapKept.run_findKey (P:=P) (w:=w) al hj;cases ok<;>simp[execOp,u,e1,e2,Instr.lookup,run_underlying a3,MapKept.run_getObj_map W,MapKept.run_checkKey al ao,V,Result.andThen,den,As,SH]
  |none=>
   obtain⟨rfl,_,z,Y,rfl⟩:=hr;have V:=MapKept.run_findKey (P:=P) (w:=w) al af;cases ok<;>simp[execOp,u,e1,e2,Instr.lookup,run_underlying a3,MapKept.run_getObj_map W,MapKept.run_checkKey al ao,V,Y,Result.andThen,den,As,SH]
  show k∈Ax vs;cases ok with
  |true=>
   simp only[SH,SV.keys,Ax,G9]at F;exact ah k F
  |false=>exact ah k F
 split at h;rename_i r R ab;cases h;exact core r true (some r) R ab ⟨rfl,rfl⟩;rename_i R ab;split at h;rename_i z ha Y;cases h;let⟨i2,z2,a7,be,a5,_⟩:=AYs (T.get bm) ha;have:z=z2:=by rw[Y]at a5;simpa using a5
 subst this;have:=core (.v z) false none R ab ⟨rfl,rfl,z,λw=>by simp[zeroValue,typeInfo,a7,be,Result.andThen],rfl⟩;exact this;cases h;cases h;cases h;cases h
 .rename_i op t x y t' u;have D:x∈o.op.operands:=xO
  have X:y∈o.op.operands:=xO
  split at h
  .rename_i v W;cases h;refine .pure (by rw[u];rfl) (λC a w B=> ?_) KeysOf.nil;unfold bin at W;split at W
   .rename_i k m k' m' hex ar;split at W;cases W
    .rename_i bq;have a9:k=k':=by simpa using bq
     subst a9;have K:(eqGuard op t x y (.int k m) (.int k m')).run P w=.ok () w:=by cases op<;>rfl
     simp only[execOp,u,Sem.run_bind,B x D,B y X,hex,ar,den,K,Result.andThen_ok];split at W<;>first|(cases W;done)|(cases W;simp[binOp,Op.intArith,Op.intCmp];done)
   .rename_i m m' hex ar;have K:(eqGuard op t x y (.string m) (.string m')).run P w=.ok () w:=by cases op<;>rfl
    simp only[execOp,u,Sem.run_bind,B x D,B y X,hex,ar,den,K,Result.andThen_ok];split at W<;>first|(cases W;done)|(cases W;simp[binOp,Op.stringOp];done)
   cases W
  cases h
 rename_i t x u;have D:x∈o.op.operands:=xO
 split at h;rename_i b A;cases h;exact .pure (by rw[u];rfl) (λC a w B=>by simp[execOp,u,B x D,A,den,Op.unary]) KeysOf.nil;cases h;rename_i args ts u;split at h;rename_i x t bd bw;have D:x∈o.op.operands:=by
  have:x∈args:=by rw[<-Sx,bd];simp
  simp[u,Op.operands,Call.operands,this]
 have ap:args=#[x]:=KC.1 (by rw[bd]);have bc:ts=#[t]:=KC.1 (by rw[bw]);have run:∀(a:Act)(w:AI)(v:AE),(Builtin.len_ #[t] o.type #[a.eval x]).run P w=.ok v w->(execOp a.eval o).run P w=.ok (.value v) w:=λa w v hv=>by simp only[execOp,u,resolve,ap,bc,Sem.run_bind,Sem.run_pure,Result.andThen_ok,invoke,builtin];simp[hv]
 split at h;rename_i n0 J e a' n' c' E A;cases h;let⟨i,d,z,U,S,Y,F,hn,hzero⟩:=Ca (T.get E);have M:=Ib F;subst M;refine .pure (by rw[u];rfl) (λC a w B=>run a w _ ?_) KeysOf.nil;simp[Builtin.len_,run_underlying S,B x D,A,den,goInt];rename_i n0 J e a' o' n' c' E A;cases h;let⟨i,d,z,U,S,Y,F,hn,hzero⟩:=Ca (T.get E);have M:=Ib F;subst M;refine .pure (by rw[u];rfl) (λC a w B=>run a w _ ?_) KeysOf.nil;simp[Builtin.len_,run_underlying S,B x D,A,den,goInt];rename_i n0 J s E A;cases h;let⟨i,d,z,U,S,Y,F,hn,hzero⟩:=Ca (T.get E);have M:=ALY F;subst M;refine .pure (by rw[u];rfl) (λC a w B=>run a w _ ?_) KeysOf.nil;simp[Builtin.len_,run_underlying S,B x D,A,den,goInt];cases h;cases h;rename_i t x ix u;have D:x∈o.op.operands:=xO
 have av:ix∈o.op.operands:=xO
 split at h;rename_i n0 J e E;split at h;rename_i ty k H n c kk i' ak A bl;split at h;rename_i bs;cases h;let⟨i,d,z,U,S,Y,F,hn,hzero⟩:=Ca (T.get E);let⟨ie,de,ze,ag,a4,ay,a8,aa,Q⟩:=Ca (T.get ak);have M:=Ib F;subst M;have bb:i'<n:=by simpa[RB]using bs
 refine .pure (by rw[u];rfl) (λC a w B=> ?_) (λk' N=>.inl ⟨x,D,by rw[A];exact N⟩);have:(0:Int)<=(i':Int)/\(i':Int)<(n:Int):=oG;simp[execOp,u,Instr.indexAt,B x D,B ix av,A,bl,den,asIntOf,run_underlying S,bb,sizeOf,typeInfo,ag,aa,Addr.add_mid];cases h;cases h;cases h;rename_i s t x u;have D:x∈o.op.operands:=xO
 split at h;rename_i n0 J k0 n1 AMc k k2 n hs ht A;cases h;let⟨i,d,z,U,S,Y,F,hn,hzero⟩:=Ca (T.get hs);let⟨i2,d2,z2,a7,bk,be,bp,b3,bh⟩:=Ca (T.get ht);have e1:=ADA F;have e2:=ADA bp;subst e1 e2;refine .pure (by rw[u];rfl) (λC a w B=> ?_) KeysOf.nil;simp[execOp,u,convert,run_underlying S,run_underlying bk,B x D,A,den,Conv.intToInt];cases h;cases h
def LF(c:Ctx):Frame:={(Af:Frame)with fn:=c.f,kind:=.normal}
def LA(c:Ctx)(R:Ez->AI->Prop)(b:AA Item)(a:Act)(w:AI):Prop:=
 ∀g:AA Frame,∃e f d,R e f/\Comes c.P (lone ((LF c).at a b) g w) (lone d g f) e/\d.fn=c.f/\d.leaving c.P f e
def LA.steps{c R d b a g w i}(h:∀f,Steps c.P (lone ((LF c).at a d) f w) (lone ((LF c).at g b) f i))(k:LA c R b g i):LA c R d a w:=λf=>
 let⟨e,p,j,n,o,l,m⟩:=k f
 ⟨e,p,j,n,o.of_steps (h f),l,m⟩
def Qk(c:Ctx)(R:Ez->AI->Prop)(k:AA Item):Exit->Act->AI->Prop
 | .normal,a,w=>LA c R k a w
 | .panic ch,a,w=>a.defers=[]/\R (.panicked ch) w
 | .outgrown,_,w=>R .outgrown w
 |_,_,_=>False
def ABF{c}(s:c.P.funcs[c.f]? =some c.fn){R f k a w}(h:f.wp c.P (Qk c R k) a w):LA c R (.code f::k) a w:=by
 intro g;let⟨e,v,j,d,b⟩:=h (LF c) k g;cases e with
 |normal=>
  let⟨e,u,n,q,r,o,p⟩:=d g;exact⟨e,u,n,q,r.of_steps b,o,p⟩
 |panic m=>
  let⟨i,t⟩:=b;exact⟨.panicked m,j,_,d.2,t,rfl,rfl,d.1,c.fn,s⟩
 |outgrown=>exact⟨.outgrown,j,LF c,d,b.resolve_left (by simp[LF]),rfl,A0⟩
 |exit x=>exact d.elim
 |goto l=>exact d.elim
 |ret=>exact d.elim
def G(c:Ctx)(R:Ez->AI->Prop)(b:AA Item)(e:St):Prop:=∀d a w,Rel c e d a w->LA c R b a w
structure RelA(c:Ctx)(σ:St)(ρ:Nat->Nat)(w:AI):Prop where
 hp:∀k∈c.A,∀b o,σ.hp k=some b->b.den ρ=some o->w.heap[ρ k]? =some o
 im:Holds w σ.im
 fs:∀b o,σ.im b=some o->c.I0 b=some o\/c.w0.heap.size<=b
 Es:∀b o,σ.im.own b=some o->(c.I0.own b).isSome\/c.w0.heap.size<=b
 ad:∀k∈c.A,ρ k=c.ρ0 k
 fr:∀b,b<c.w0.heap.size->(∀k∈c.A,c.ρ0 k≠b)->c.I0.own b=none->w.heap[b]? =c.w0.heap[b]?
 sz:c.w0.heap.size<=w.heap.size
 os:w.os=c.w0.os
 tape:w.tape=c.w0.tape
 output:w.output=c.w0.output
def Ik.toA{c d a w}(h:Ik c d a w):RelA c d a w:=
 ⟨λk _ b o=>h.hp k b o,h.im,h.fs,h.Es,h.ad,h.fr,h.sz,h.os,h.tape,h.output⟩
def LB(c:Ctx)(R:Ez->AI->Prop):AA PanicEntry->St->Prop:=λa d=>c.QG=[]/\∀b w,RelA c d b w->R (.panicked a) w
def LB.congr{c R}:∀g f a,(∀k∈c.A,f.hp k=a.hp k)->f.im=a.im->LB c R g f->LB c R g a:=λ_ _ _ j d h=>⟨h.1,λl w A=>
 h.2 l w ⟨λk i b o e=>A.hp k i b o (by rw[<-j k i];exact e),d▸A.im,d▸A.fs,d▸A.Es,A.ad,A.fr,A.sz,A.os,A.tape,A.output⟩⟩
def WF(a:St):Prop:=(∀s k,k∈(a.tm s).keys->(a.hp k).isSome)/\(∀k b c,a.hp k=some b->c∈b.keys->(a.hp c).isSome)
def Rel.wf{c σ b a w}(h:Rel c σ b a w):WF σ:=⟨h.kd,h.kb⟩
def AKo{c g KP K Q}
 (q:∀e j a w,K e->Rel c e j a w->Q .normal a w) (p:∀n b d a f,KP n b->Ik c b d f->a.defers=c.QG->Q (.panic n) a f):∀l k e j a w,Rel c e j a w->JB c g KP K l k e->wpOps c.P g.ops Q l a w
 |[],_,e,j,a,w,R,h=>q e j a w h R
 |i::l,k,e,j,a,w,R,h=>by rw[wpOps_cons];exact AJ3 R h (λm b d s f o r=>AKo q p l m b d s f r o) (λn b d f o W=>p n b d a f o W R.nd)
structure RG where
 g:Dc
 rem:AA Nat
 Bj:AA (Nat×Nat)
structure BU where
 σ:St
 todo:AA Item
 rg:AK RG
 cnt:Nat
def Bd(c:Ctx)(cnt:Nat)(a:St):Prop:=(∀k,cnt<=k->a.hp k=none)/\∀k∈c.A,k<cnt
structure Fr(c:Ctx)(r:RG)(σ:St):Prop where
 own:∀i∈r.rem,∀k,Dx (r.g.key i) k->σ.hp k=none
 above:∀k,r.g.base+8*r.g.ops.size<=k->σ.hp k=none
 nd:r.rem.Nodup
 lt:∀i∈r.rem,i<r.g.ops.size
 A:∀k∈c.A,k<r.g.base
def GG(c:Ctx)(R:Ez->AI->Prop)(f:BU):Prop:=
 match f.rg with
 |none=>Bd c f.cnt f.σ->G c R f.todo f.σ
 |some r=>Fr c r f.σ->WF f.σ->JB c r.g (LB c R) (G c R f.todo) r.rem r.Bj f.σ
inductive Ck where
 |v (x:AE)
 |s (x:Sem AE)
 |i (x:AB)
 |o (x:Op)
 |b (x:AK AG)
 |sv (x:SV)
inductive It(P:BX) where
 |eq (x y:AE) (h:x=y)
 |op (I:AB) (s:Sem AE) (r:SV) (h:∀w,Db w I->∃a,s.run P w=.ok (den id r) a/\BB w a)
 |Jq (I:AB) (s:Sem AE) (r:SV) (h:∀w,Db w I.B0->∃a,s.run P w=.ok (den id r) a/\BB w a)
 |hand (op:Op) (b:AA (Nat×SV)) (rd:AA (Nat×AG)) (I:AB) (r:SV) (h:∀key tm (o:BP),o.op=op->(∀p∈b,tm p.1=p.2)->LS P o tm key rd I r none)
abbrev F1(P:BX):=AA (Nat×It P)
def F1.at{P:BX}:F1 P->AK Tmp->AK (It P)
 |_,none=>none
 |[],some _=>none
 |(d,x)::l,some t=>match Nat.beq d t with|true=>some x|false=>F1.at l (some t)
def SV.val:SV->AK AE
 | .v x=>some x
 |_=>none
def Uk(a:Nat->SV):AK Operand->AK (AK AE)
 |none=>some none
 |some x=>match(ev a x).val with
  |some v=>some (some v)
  |none=>none
def ACP{a x v}(h:Uk a x=some v){e}(b:∀y,x=some y->∀z,(ev a y).val=some z->e y=z):x.map e=v:=by
 cases x with
 |none=>cases h;rfl
 |some y=>
  simp[Uk]at h;split at h;rename_i z c;cases h;simp[b y rfl z c];cases h
def Xk(c:Nat->SV)(o:BP):AK (Sem AE):=
 match o.op with
 | .load t x=>(ev c x).val.map λa=>Instr.loadAt t a
 | .indexAddr t x i=>match(ev c x).val,(ev c i).val with|some a,some b=>some (Instr.indexAt t a b)|_,_=>none
 | .index t x i=>match(ev c x).val,(ev c i).val with|some a,some b=>some (Instr.index t a b)|_,_=>none
 | .lookup t x i j=>match(ev c x).val,(ev c i).val with|some a,some b=>some (Instr.lookup t a b j)|_,_=>none
 | .slice t x f e g=>match(ev c x).val,Uk c f,Uk c e,Uk c g with
   |some a,some l,some h,some m=>some (Instr.sliceAt t a l h m)
   |_,_,_,_=>none
 | .convert s t x=>(ev c x).val.map λa=>convert s t a
 | .binOp d t x y _=>match(ev c x).val,(ev c y).val with|some a,some b=>some (do eqGuard d t x y a b;binOp d t a b)|_,_=>none
 | .unOp d _ x=>(ev c x).val.map λa=>Op.unary d a
 | .makeInterface t x=>(ev c x).val.map λa=>Instr.makeInterface t a
 | .call {callee:=.builtin b,args:=args,argTypes:=ts}=>match b,args.toList with
   | .cap,[x]=>(ev c x).val.map λa=>Builtin.cap_ ts o.type #[a]
   | .min,[x,y]=>match(ev c x).val,(ev c y).val with|some a,some b=>some (Builtin.min_ ts o.type #[a,b])|_,_=>none
   | .max,[x,y]=>match(ev c x).val,(ev c y).val with|some a,some b=>some (Builtin.max_ ts o.type #[a,b])|_,_=>none
   |_,_=>none
 |_=>none
def SV.AY4{x a}(h:x.val=some a)(b):den b x=a:=by cases x<;>simp[SV.val]at h;subst h;rfl
def AJS{P n}{o:BP}{s:Sem AE}(h:Xk n o=some s){ρ}{a:Act}(G:∀x∈o.op.operands,a.eval x=den ρ (ev n x)){w B v}(k:s.run P w=.ok v B):
 (execOp a.eval o).run P w=.ok (.value v) B:=by
 have c:∀x∈o.op.operands,∀y,(ev n x).val=some y->a.eval x=y:=λx g y r=>by rw[G x g];exact SV.AY4 r ρ
 unfold Xk at h;split at h;rename_i t x e;rw[e]at c;cases d:(ev n x).val with
 |none=>rw[d]at h;cases h
 |some y=>
  rw[d]at h;cases h;simp[execOp,e,c x xO y d,k]
 rename_i t x i e;rw[e]at c;split at h;rename_i y z d j;cases h;simp[execOp,e,c x xO y d,c i xO z j,k];cases h;rename_i t x i e;rw[e]at c;split at h;rename_i y z d j;cases h;simp[execOp,e,c x xO y d,c i xO z j,k];cases h;rename_i t x i N e;rw[e]at c;split at h;rename_i y z d j;cases h;simp[execOp,e,c x xO y d,c i xO z j,k];cases h;rename_i t x L K M e;rw[e]at c;split at h;rename_i y l J m d j E F;cases h;have q:=ACP j (e:=a.eval) λy r z A=>c y (by subst r;simp[Op.operands]) z A;have C:=ACP E (e:=a.eval) λy r z A=>c y (by subst r;simp[Op.operands]) z A;have D:=ACP F (e:=a.eval) λy r z A=>c y (by subst r;simp[Op.operands]) z A;simp[execOp,e,c x xO y d,q,C,D,k];cases h;rename_i O t x e;rw[e]at c;cases d:(ev n x).val with
 |none=>rw[d]at h;cases h
 |some y=>
  rw[d]at h;cases h;simp[execOp,e,c x xO y d,k]
 rename_i H t x y Q e;rw[e]at c;split at h;rename_i u z d j;cases h;have p:=c x xO u d;have q:=c y xO z j;simp only[execOp,e,p,q];simp only[Sem.run_bind]at k⊢;rw[k];rfl;cases h;rename_i H t x e;rw[e]at c;cases d:(ev n x).val with
 |none=>rw[d]at h;cases h
 |some y=>
  rw[d]at h;cases h;simp[execOp,e,c x xO y d,k]
 rename_i t x e;rw[e]at c;cases d:(ev n x).val with
 |none=>rw[d]at h;cases h
 |some y=>
  rw[d]at h;cases h;simp[execOp,e,c x xO y d,k]
 rename_i b args I e;rw[e]at c;have mem:∀x∈args.toList,x∈(Op.call {callee:=.builtin b,args:=args,argTypes:=I}).operands:=λx g=>by simp[Op.operands,Call.operands];simpa using g
 split at h;rename_i x g;have f:args=#[x]:=KC.1 (by rw[g]);cases d:(ev n x).val with
 |none=>rw[d]at h;cases h
 |some y=>
  rw[d]at h;cases h;have p:=c x (mem x (by rw[g];simp)) y d;simp[execOp,e,resolve,invoke,builtin,f,p,k]
 rename_i x y g;have f:args=#[x,y]:=KC.1 (by rw[g]);split at h;rename_i u z d j;cases h;have p:=c x (mem x (by rw[g];simp)) u d;have q:=c y (mem y (by rw[g];simp)) z j;simp[execOp,e,resolve,invoke,builtin,f,p,q,k];cases h;rename_i x y g;have f:args=#[x,y]:=KC.1 (by rw[g]);split at h;rename_i u z d j;cases h;have p:=c x (mem x (by rw[g];simp)) u d;have q:=c y (mem y (by rw[g];simp)) z j;simp[execOp,e,resolve,invoke,builtin,f,p,q,k];cases h;cases h;cases h
def BB.setRow{w:AI}{g a}:(w.setRow g a).heap.size=w.heap.size:=by simp[World.setRow]
def Xf:SV->Bool
 | .v (.agg _)| .v (.tuple _)| .g _| .t _=>false
 |_=>true
def AJQ{x}(h:Xf x)(a):(den a x).oneCell':=by
 cases x with
 |v x=>cases x<;>first|rfl|cases h
 |g l=>cases h
 |t l=>cases h
 |_=>rfl
def ACy(L:Lay)(o:Op)(b:Nat->SV)(c:Nat->AK AG):AK (Nat×AG×AG):=
 match o with
 | .insert t m x v=>match L.get t,ev b m,ev b x with
   |some ⟨_,_,.map kt _⟩,.m km,.v kv=>match c km,L.get kt with
    |some (.DZ ks vs),some tk=>match UH tk.k kv,Mu kv ks vs with
     |true,some none=>some (km,.DZ ks vs,.DZ (ks++[kv]) (vs++[ev b v]))
     |_,_=>none
    |_,_=>none
   |_,_,_=>none
 | .store t a x=>match ev b a,(ev b x).cs,L.get t with
   | .p k off,some cs,some ty=>match c k with
     |some (.cells l e)=>match Nat.beq cs.length ty.n,Nat.ble (off+cs.length) l.length,cs.all Xf with
      |true,true,true=>some (k,.cells l e,.cells (splice l off cs) e)
      |_,_,_=>none
     |_=>none
   |_,_,_=>none
 |_=>none
def Js{w:AI}{g cur cells e a}(h:w.heap[g]? =some (.cells cur e a)):(w.setRow g cells).heap[g]? =some (.cells cells e a):=by have:=Dh h;simp[World.setRow,Yj,Lq,h,Kz]
def G4{w:AI}{g b a}(h:g≠b):(w.setRow g a).heap[b]? =w.heap[b]? :=by simp[World.setRow,Yj,AN h]
def nodupB:AA Nat->Bool
 |[]=>true
 |x::l=>l.all (λy=> !Nat.beq x y)&&nodupB l
def AXs{P L}(hL:Dg P L){o:Oper}{D hp key k I}{b b':AG}(h:ACy L o.op D hp=some (k,b,b')):
 hp k=some b/\HS P o D key [(k,b)] I (λh=>h= {r:=.v undef,upd:=[(k,b')],J:=I}) none/\(∀W∈b'.keys,W∈b.keys\/∃x∈o.op.operands,W∈(ev D x).keys)/\Jh o.op/\b.live:=by
 unfold ACy at h;split at h;rename_i t m x v C;split at h;rename_i n0 z0 kt et km U S N aa;split at h;rename_i s H tk O ao;split at h;rename_i p X;cases h;let⟨i0,d0,a1,au,ak,az,am,ax,ah⟩:=Ca (hL.get S);let⟨i1,d1,a2,av,Z,a0,an,ay,ai⟩:=Ca (hL.get ao);have:=U5 am;subst this;let⟨ac,R⟩:=AHt an p;have hm:m∈o.op.operands:=xO
 have hx:x∈o.op.operands:=xO
 have hv:v∈o.op.operands:=xO
 have hlen:=AGF s H X;refine⟨O,?_,?_,by rw[C];rfl,rfl⟩;refine⟨?_⟩;intro ρ a w V hh hI M ab al ap next Q hnext _;have E:=hh (k,.DZ s H) sP _ rfl;simp only at E;have e1:=V m hm;have e2:=V x hx;rw[N]at e1;rw[aa]at e2;simp only[den]at e1 e2;have hf:=MapKept.run_findKey (P:=P) (w:=w) Z (AAf R ρ s H 0 0 none X);have aw:=Dh E;have hnew:(Kh (s++[U]) (As ρ (H++[ev D v])) 0)=Kh s (As ρ H) 0++[{key:=U,val:=den ρ (ev D v),born:=s.length}]:=by rw[QE];simp only[As];rw[AIy _ _ _ _ _ (by rw[IM];exact hlen),Nat.zero_add]
 have hex:(execOp a.eval o).run P w=.ok .skip {w with heap:=w.heap.setIfInBounds (ρ k) (.map (Kh (s++[U]) (As ρ (H++[ev D v])) 0).toArray (s++[U]).length)}:=by rw[hnew];simp[execOp,C,e1,e2,V v hv,Instr.mapUpdate,run_underlying ak,MapKept.run_getObj_map E,MapKept.run_checkKey Z ac,hf,MapKept.run_setObj_map _ E,Result.andThen]
 unfold Oper.wp;rw[hex,Oper.upon_skip];have B:=MapKept.heap_set (o':=.map (Kh (s++[U]) (As ρ (H++[ev D v])) 0).toArray (s++[U]).length) E;refine hnext rfl _ _ (λ_=>0) rfl ⟨rfl,rfl,rfl,sP,λb f u _=>B.2 b (λe=>u (k,_) (List.mem_singleton.2 rfl) e.symm),?_,λj b hj=>by simp at hj,λi j hi=>by simp at hi,?_,λb o' f=>.inl f,λb o' f=>Gg f⟩;intro kb p o' A;simp at p;subst p;have e0:AU.Am {r:=.v undef,upd:=[(k,AG.DZ (s++[U]) (H++[ev D v]))],J:=I} ρ key (λ_=>0)=ρ:=by funext n;exact Ej (by unfold Bf;split<;>rfl)
 rw[e0]at A⊢;cases A;exact B.1;exact hI.keep (M (k,.DZ s H) sP rfl) λb _ K=>B.2 b (λe=>K e.symm);intro W G;simp only[AG.keys,ASa,Ax,List.append_nil,List.mem_append]at G⊢;exact G.imp id λq=>⟨v,hv,q⟩;cases h;cases h;cases h;rename_i t ad x C;split at h;rename_i W c g ty N Y S;split at h;rename_i l e O;split at h;rename_i b1 b2 b3;cases h;let⟨i,d,z,hi,hd,hz,hk,hn,hzero⟩:=Ca (hL.get S);have aj:ad∈o.op.operands:=xO
 have hx:x∈o.op.operands:=xO
 refine⟨O,?_,?_,by rw[C];rfl,rfl⟩;refine⟨?_⟩;intro ρ a w V hh hI M ab al ap next Q hnext _;have E:=hh (k,.cells l e) sP _ rfl;simp only at E;have s1:(As ρ g).length=g.length:=IM ρ g;have e1:g.length=ty.n:=Nat.eq_of_beq_eq_true b1;have e2:c+g.length<=l.length:=Nat.le_of_ble_eq_true b2;have af:∀v∈As ρ g,v.oneCell':=λv hv=>by rw[Gc]at hv;obtain⟨y,T,rfl⟩:=List.mem_map.1 hv;exact AJQ (List.all_eq_true.1 b3 y T) ρ
 have ag:=run_storeCells_at P (ρ k) c e (As ρ g) 0 (As ρ l).toArray w E (by simp[IM];omega) af;have F:(den ρ (ev D x)).cells=(As ρ g).toArray:=SV.Rh Y ρ;have e3:(w.setRow (ρ k) ((As ρ l).take (c+0)++As ρ g++(As ρ l).drop (c+0+(As ρ g).length)).toArray)=w.setRow (ρ k) (As ρ (splice l c g)).toArray:=by rw[Nat.add_zero,s1];unfold splice;rw[QE,QE,Rj,Ri]
 have aq:(storeVar t ⟨ρ k,c,none⟩ (den ρ (ev D x))).run P w=.ok () (w.setRow (ρ k) (As ρ (splice l c g)).toArray):=by
  rw[<-e3];unfold storeVar;rw[F];have ar:(sizeOf t).run P w=.ok i.size w:=by simp[sizeOf,typeInfo,hi]
  have u: ¬(As ρ g).toArray.size≠i.size:=by simp[IM];omega
  simp only[Sem.run_bind,ar,Result.andThen_ok,u,if_false];exact ag
 have hex:(execOp a.eval o).run P w=.ok .skip (w.setRow (ρ k) (As ρ (splice l c g)).toArray):=by have h1:=V ad aj;rw[N]at h1;simp only[den]at h1;simp[execOp,C,Instr.storeAt,h1,V x hx,Instr.sureAddr,aq]
 unfold Oper.wp;rw[hex,Oper.upon_skip];refine hnext rfl _ _ (λ_=>0) rfl ⟨rfl,rfl,rfl,by rw[BB.setRow];exact Nat.le_refl _,λb f u _=>G4 (u (k,.cells (splice l c g) e) sP),?_,λj b hj=>by simp at hj,λi j hi=>by simp at hi,?_,λb o' f=>.inl f,λb o' f=>Gg f⟩;intro kb p o' A;simp at p;subst p;have e0:AU.Am {r:=.v undef,upd:=[(k,AG.cells (splice l c g) e)],J:=I} ρ key (λ_=>0)=ρ:=by funext n;exact Ej (by unfold Bf;split<;>rfl)
 rw[e0]at A⊢;cases A;exact Js E;exact hI.keep (M (k,.cells l e) sP rfl) λb _ K=>G4 K;intro W G;let⟨y,T,ae⟩:=Jn.1 G;rcases AIw T with T|T;exact .inl (Jn.2 ⟨y,T,ae⟩);exact .inr ⟨x,hx,SV.AAY Y W (Jn.2 ⟨y,T,ae⟩)⟩;cases h;cases h;cases h;cases h
def M4(g:Dc)(i:Nat):AA Nat->Bool
 |[]=>true
 |k::ks=>(match g.drawn with
  |false=>true
  |true=>Nat.blt k g.base||(let a:=(k-g.base)/8;Nat.beq a i||No g.ops (g.ops.size+1) i a))&&M4 g i ks
def UI{g i}:∀ {c:AA Nat},M4 g i c->g.W7 i c
 |[],_=>λ_ _ l=>by cases l
 |k::c,h=>by simp only[M4,Bt]at h;intro d m b f a;rcases BD.1 b with e|b;rw[d]at h;simp only[Ig,RB]at h;rw[e]at a;unfold Dx Dc.key at a;rcases h.1 with q|q;omega;have j:(k-g.base)/8=f:=oG;rw[j]at q;rcases q with q|q;exact .inl (Fp q);exact .inr q;exact UI h.2 d m b f a
def PR(g:Dc)(i k:Nat):AA (Nat×Nat)->Bool
 |[]=>true
 |(j,k')::l=>(!Nat.beq k' k||No g.ops (g.ops.size+1) i j)&&PR g i k l
theorem Xv{g i k}:∀ {l:AA (Nat×Nat)},PR g i k l->∀a∈l,a.2=k->g.Tv i a.1
 |[],_=>λ_ h=>by cases h
 |(j,k')::l,h=>by simp[PR,Bt,Ig,KD]at h;intro a b e;rcases BD.1 b with q|q;subst q;rcases h.1 with q|q;simp only at e;rw[e]at q;simp at q;exact q;exact Xv h.2 a q e
def XZ{a:Type}:AA a->Bool
 |[]=>true
 |_=>false
def AJ2(ops:AY BP)(rem:AA Nat)(i:Nat):Bool:=
 match ops[i]? with
 |none=>false
 |some o=>o.after.all λe=> !Region.binds .any e|| !(rem.any (Nat.beq e.on))
def ASC(ops:AY BP)(i:Nat):Bool:=match ops[i]? with|none=>false|some o=> !Jh o.op
def AA2(p:Nat->Bool):AA Nat->AK Nat
 |[]=>none
 |x::l=>match p x with|true=>some x|false=>AA2 p l
def ACY(i:Nat):AA Nat->AA Nat
 |[]=>[]
 |x::l=>match Nat.beq x i with|true=>l|false=>x::ACY i l
def eager(ops:AY BP):Nat->AA Nat->AA Nat
 |0,_=>[]
 |n+1,rem=>
  match AA2 (λi=>ASC ops i&&AJ2 ops rem i) rem with
  |some i=>i::eager ops n (ACY i rem)
  |none=>match AA2 (AJ2 ops rem) rem with
   |some i=>i::eager ops n (ACY i rem)
   |none=>[]
def ACN(ops:AY BP)(a:AA Nat):Bool:=
 Nat.ble a.length ops.size&&Xq ops a&&(List.range ops.size).all (λi=>a.any (Nat.beq i))&&a.all (λi=>Nat.blt i ops.size&&(match ops[i]? with|none=>false|some o=>o.after.all λe=> !Region.binds .any e||(Nat.blt e.on ops.size&& !Nat.beq e.on i)))
inductive Res where
 |go (f:BU) (ck:AA (Ck×Ck))
 |stop
 |bad
def XQ(k:Nat):AA Nat->Bool
 |[]=>false
 |x::l=>Nat.beq k x||XQ k l
def AIu{k}:∀ {l:AA Nat},XQ k l->k∈l
 |[],h=>by cases h
 |x::l,h=>by simp only[XQ,Ig]at h;rcases h with h|h;rw[Fp h];simp;exact DW _ (AIu h)
def ACx(P:BX)(L:Lay)(f:F1 P)(n:Nat)(A:AA Nat)(c:St)(a:AA Item)(cnt:Nat)(g:Dc)(i:Nat)(is:AA Nat)(d:AA (Nat×Nat)):Res:=
 match g.ops[i]? with
 |none=>.bad
 |some o=>match Rl n o.dst,want g.ops c.tm o with
  |true,some false=>.go ⟨c.put o.dst (.v undef),a,some ⟨g,is,d⟩,cnt⟩ []
  |true,some true=>match Jh o.op with
   |true=>match ACy L o.op c.tm c.hp with
    |none=>.stop
    |some (k,b,b')=>match M4 g i (k::b'.keys),(match g.drawn with|true=>PR g i k d|false=>true)with
     |true,true=>.go ⟨St.put ⟨c.tm,upd c.hp k (some b'),c.im⟩ o.dst (.v undef),a,some ⟨g,is,d⟩,cnt⟩ []
     |_,_=>.bad
   |false=>match f.at o.dst with
    |some (.op I s r _)=>match Xk c.tm o,XZ r.keys with
     |some s',true=>.go ⟨c.put o.dst r,a,some ⟨g,is,d⟩,cnt⟩ [(.i I,.i c.im),(.s s,.s s')]
     |_,_=>.bad
    |some (.Jq I s r _)=>match Xk c.tm o,XZ r.keys&& !g.strict with
     |some s',true=>.go ⟨c.put o.dst r,a,some ⟨g,is,d⟩,cnt⟩ [(.i I,.i c.im),(.s s,.s s')]
     |_,_=>.bad
    |some (.hand op tmv rd I r _)=>match M4 g i (rd.map (·.1)++r.keys++UV none)&&r.keys.all (λk=>XQ k (tmv.flatMap (λp=>p.2.keys)++rd.map (·.1)))with
     |true=>.go ⟨c.put o.dst r,a,some ⟨g,is,rd.map (λe=>(i,e.1))++d⟩,cnt⟩ ((.i I,.i c.im)::(.o op,.o o.op)::(tmv.map (λp=>(Ck.sv p.2,Ck.sv (c.tm p.1)))++rd.map (λe=>(Ck.b (some e.2),Ck.b (c.hp e.1)))))
     |false=>.bad
    |some (.eq x y _)=>match XH L o.op c.tm c.hp (g.key i)with
     |some (.v x',none,[])=>.go ⟨c.put o.dst (.v y),a,some ⟨g,is,d⟩,cnt⟩ [(.v x,.v x')]
     |some (.v x',none,[(k,b)])=>match M4 g i [k]with
      |true=>.go ⟨c.put o.dst (.v y),a,some ⟨g,is,(i,k)::d⟩,cnt⟩ [(.v x,.v x')]
      |false=>.bad
     |_=>.bad
    |none=>match XH L o.op c.tm c.hp (g.key i)with
     |some (r,nb,rd)=>match M4 g i (rd.map (·.1)++r.keys++UV nb)with
      |true=>.go ⟨(c.blk (g.key i) nb).put o.dst r,a,some ⟨g,is,rd.map (λe=>(i,e.1))++d⟩,cnt⟩ []
      |false=>.bad
     |none=>.stop
  |_,_=>.bad
def step1(P:BX)(L:Lay)(l:F1 P)(n:Nat)(A:AA Nat)(f:BU):Res:=
 match f with
 |⟨d,e,some ⟨g,[],_⟩,_⟩=>.go ⟨d,e,none,g.base+8*g.ops.size⟩ []
 |⟨d,e,some ⟨g,i::is,h⟩,cnt⟩=>ACx P L l n A d e cnt g i is h
 |⟨d,.code .skip::k,none,cnt⟩|⟨d,.code (.label _)::k,none,cnt⟩|⟨d,.inBlock _::k,none,cnt⟩=>.go ⟨d,k,none,cnt⟩ []
 |⟨d,.code (.seq a b)::k,none,cnt⟩=>.go ⟨d,.code a::.code b::k,none,cnt⟩ []
 |⟨d,.code (.cond c a b)::k,none,cnt⟩=>match ev d.tm c with
  | .v (.bool true)=>.go ⟨d,.code a::k,none,cnt⟩ []
  | .v (.bool false)=>.go ⟨d,.code b::k,none,cnt⟩ []
  |_=>.bad
 |⟨d,.code (.block id b)::k,none,cnt⟩=>.go ⟨d,.code b::.inBlock id::k,none,cnt⟩ []
 |⟨d,.code (.exit id)::k,none,cnt⟩=>match exitTo id k with
  |some j=>.go ⟨d,j,none,cnt⟩ []
  |none=>.bad
 |⟨d,.code (.region _ ops false)::k,none,cnt⟩=>.go ⟨d,k,some ⟨⟨ops,cnt,false⟩,List.range ops.size,[]⟩,cnt⟩ []
 |⟨d,.code (.region _ ops true)::k,none,cnt⟩=>match ACN ops (eager ops (ops.size+1) (List.range ops.size))with
  |true=>.go ⟨d,k,some ⟨⟨ops,cnt,true⟩,eager ops (ops.size+1) (List.range ops.size),[]⟩,cnt⟩ []
  |false=>.bad
 |_=>.stop
structure Out where
 f:BU
 cl:AA Ck
 ac:AA Ck
def CS(P:BX)(L:Lay)(b:F1 P)(n:Nat)(A:AA Nat):Nat->BU->Out
 |0,f=>⟨f,[],[]⟩
 |m+1,f=>match step1 P L b n A f with
  | .stop=>⟨f,[],[]⟩
  | .bad=>⟨f,[.v undef],[]⟩
  | .go c a=>let o:=CS P L b n A m c;⟨o.f,a.map (·.1)++o.cl,a.map (·.2)++o.ac⟩
def Fr.tail{c g i is Bj rds' σ a}(h:Fr c ⟨g,i::is,Bj⟩ σ)(hs:∀k,a.hp k=σ.hp k\/Dx (g.key i) k\/(σ.hp k).isSome):Fr c ⟨g,is,rds'⟩ a where
 own j hj k hk:=by
  have d:i≠j:=λe=>(Gl.1 h.nd).1 (by rw[e];exact hj);have h0:=h.own j (DW _ hj) k hk
  grind[Dx,Dc.key]
 above k hk:=by
  have b:=h.lt i sP;have h0:=h.above k hk
  grind[Dx,Dc.key]
 nd:=(Gl.1 h.nd).2
 lt j hj:=h.lt j (DW _ hj)
 A:=h.A
def Fr.Rr{c g i is a b}(h:Fr c ⟨g,i::is,a⟩ b):∀k,Dx (g.key i) k->b.hp k=none/\k∉c.A:=λk e=>
 ⟨h.own i sP k e,λd=>by have:=h.A k d;grind[Dx,Dc.key]⟩
theorem WF.put{c}(h:WF c){d x}(i:∀k∈x.keys,(c.hp k).isSome):WF (c.put d x):=by
 refine⟨λs k a=> ?_,λk b g f a=> ?_⟩;rw[Jr];cases d with
 |none=>exact h.1 s k a
 |some d=>
  simp[St.put]at a;by_cases e:s=d
  grind[upd_same]
  rw[upd_ne _ _ e]at a;exact h.1 s k a
 rw[Jr]at f⊢;exact h.2 k b g f a
theorem WF.blk{c}(h:WF c){a b}(f:c.hp a=none)(m:∀k∈b.keys,(c.hp k).isSome\/k=a):WF (c.blk a (some b)):=by
 have g:∀k,(c.hp k).isSome->(upd c.hp a (some b) k).isSome:=by grind[upd_ne]
 refine⟨λs k d=>g k (h.1 s k d),λk j i e d=> ?_⟩;simp[St.blk]at e⊢;by_cases l:k=a
 grind[upd_same]
 rw[upd_ne _ _ l]at e;exact g i (h.2 k j i e d)
def WF.operand{b}(h:WF b){x k}(a:k∈(ev b.tm x).keys):(b.hp k).isSome:=by
 cases x with
 |tmp t=>exact h.1 t k a
 |const x=>cases a
 |global x=>cases a
 |func x=>cases a
def KeysOf.some_{c}(h:WF c){o b j i g}(l:KeysOf o c.tm b j i g)(f:∀a∈j,c.hp a.1=some a.2):∀k∈g,(c.hp k).isSome\/(k=b/\i.isSome):=by intro k e;rcases l k e with⟨x,_,q⟩|⟨a,d,q⟩|q;exact .inl (h.operand q);exact .inl (h.2 a.1 a.2 k (f a d) q);exact .inr q
def ACE{a:Type}{l:AA a}(h:XZ l):l=[]:=by
 cases l with
 |nil=>rfl
 |cons x l=>cases h
theorem ARV{h:AU}{a hp}(c:h.nb=[]):h.hp a hp=h.upd.foldl (λf b=>AX.upd f b.1 (some b.2)) hp:=by grind[AU.hp,Bf]
def AXk{c R L}(Y:Dg c.P L){sc σ todo cnt g i is Bj f' ck}
 (h:ACx c.P L sc c.n c.A σ todo cnt g i is Bj=.go f' ck) (j:ck.map (·.1)=ck.map (·.2)) (F:GG c R f'):GG c R ⟨σ,todo,some ⟨g,i::is,Bj⟩,cnt⟩:=by
 intro A hwf;simp only at A hwf;unfold ACx at h;split at h;cases h;rename_i o ho;have t:=A.Rr;have kk:Dx (g.key i) (g.key i):=⟨Nat.le_refl _,oG⟩;split at h;rename_i hd hw;cases h;have hnext:=F (A.tail (λk=>.inl (by rw[Jr]))) (hwf.put λk hk=>by cases hk);exact⟨o,ho,hd,t,.inl ⟨.v undef,none,[],⟨.inl ⟨hw,rfl,rfl,rfl⟩,(λ_ hk=>by cases hk),(λ_ _ hk=>by cases hk),(λ_ hk=>by cases hk),(λ_ hb=>by cases hb)⟩,hnext⟩⟩;rename_i hd hw;split at h;rename_i v;split at h;cases h;rename_i k b1 b2 af;let⟨s1,s2,s3,s4,s5⟩:=AXs (P:=c.P) Y (key:=g.key i) (I:=σ.im) af;split at h;rename_i ac al;cases h;have ad:∀k'∈b2.keys,(σ.hp k').isSome:=λk' ab=>by rcases s3 k' ab with q|⟨x,_,q⟩;exact hwf.2 k _ k' s1 q;exact hwf.operand q
 refine⟨o,ho,hd,t,.inr ⟨[(k,b1)],b2.keys,(λh=>h= {r:=.v undef,upd:=[(k,b2)],J:=σ.im}),none,?_,λ_ h Z=> ?_,λ_ e=>by cases e⟩⟩;refine{w:=hw,h:=v,hs:=s2,at_:=by grind,SD:=ad,key:=UI ac,Bj:= ?_,wf:= ?_};intro aj ik ak h Z hm
 grind[Xv]
 intro h Z;subst Z;refine{r:=λk hk=>(by cases hk),u:=λkb m=> ?_,n:=λb hb=>(by cases hb),l:=by simp,le:=AB.Fa _,d:=by simp}
 grind
 subst Z;have e1:σ.Dd o.dst (g.key i) {r:=.v undef,upd:=[(k,b2)],J:=σ.im}=St.put ⟨σ.tm,upd σ.hp k (some b2),σ.im⟩ o.dst (.v undef):=by show St.put ⟨σ.tm,AU.hp {r:=.v undef,upd:=[(k,b2)],J:=σ.im} (g.key i) σ.hp,σ.im⟩ o.dst (.v undef)=_;rw[ARV rfl];rfl
 rw[e1];have hs:∀n,(σ.hp n).isSome->(upd σ.hp k (some b2) n).isSome:=by grind[upd_same,upd_ne]
 have ai:WF ⟨σ.tm,upd σ.hp k (some b2),σ.im⟩:=by
  refine⟨λs n H=>hs n (hwf.1 s n H),λn b n' hb H=> ?_⟩;by_cases e':n=k
  grind[upd_same]
  simp only at hb;rw[upd_ne _ _ e']at hb;exact hs n' (hwf.2 n b n' hb H)
 refine F (A.tail λn=> ?_) (ai.put λn H=>by cases H);rw[Jr]
 grind[upd_ne]
 cases h;rename_i v;have f:∀ {r:SV} {nb:Option AG} {rd:List (Nat×AG)} {rds':List (Nat×Nat)},Lt g.strict c.P o σ.tm (g.key i) rd σ.im r nb->(∀kb∈rd,σ.hp kb.1=some kb.2)->M4 g i (rd.map (·.1)++r.keys++UV nb)->
  (∀k∈r.keys,(σ.hp k).isSome\/(k=g.key i/\nb.isSome))->(∀b,nb=some b->∀k∈b.keys,(σ.hp k).isSome\/k=g.key i)->rds'=rd.map (λkb=>(i,kb.1))++Bj->
  GG c R ⟨(σ.blk (g.key i) nb).put o.dst r,todo,some ⟨g,is,rds'⟩,cnt⟩->KS c g (LB c R) i (JB c g (LB c R) (G c R todo) is) Bj σ:=by
  intro r nb rd rds' E M m hr H W aa;subst W;refine⟨o,ho,hd,t,.inl ⟨r,nb,rd,⟨.inr ⟨hw,v,E⟩,M,?_,hr,H⟩,?_⟩⟩;exact UI m;refine aa (A.tail λn=> ?_) (WF.put ?_ ?_);rw[Jr];cases nb with
  |none=>exact .inl rfl
  |some b=>
   by_cases e:n=g.key i
   grind
   exact .inl (upd_ne _ _ e)
  cases nb with
  |none=>exact hwf
  |some b=>exact hwf.blk (t _ kk).1 (H b rfl)
  intro k hk;rcases hr k hk with q|⟨q,q2⟩;cases nb with
  |none=>exact q
  |some b=>
   simp only[St.blk]
   grind[upd_ne]
  cases nb with
  |none=>cases q2
  |some b=>simp_all[St.blk,upd_same]
 split at h;rename_i I s r D S;split at h;rename_i s' Q V;cases h;simp only[List.map_cons,List.map_nil,List.cons.injEq,Ck.i.injEq,Ck.s.injEq,and_true]at j;let⟨U,T⟩:=j;have P:r.keys=[]:=ACE V;refine f (r:=r) (nb:=none) (rd:=[]) (rds':=Bj) ?_ (λ_ hk=>by cases hk) ?_ (λk hk=>by grind) (λ_ hb=>by cases hb) rfl F;refine LS.d ?_;intro ρ a w he _ K _ _;let⟨w',C,N⟩:=D w (by rw[U];exact K);refine⟨w',?_,N⟩;have:=AJS (P:=c.P) Q (ρ:=ρ) (a:=a) he (by rw[<-T];exact C)
 grind[JE]
 simp only[List.map_nil,List.nil_append,P];rfl;cases h;rename_i I s r D S;split at h;rename_i s' Q z;cases h;simp only[List.map_cons,List.map_nil,List.cons.injEq,Ck.i.injEq,Ck.s.injEq,and_true]at j;let⟨U,T⟩:=j;simp only[Bool.and_eq_true,Bool.not_eq_true']at z;have P:r.keys=[]:=ACE z.1;refine f (r:=r) (nb:=none) (rd:=[]) (rds':=Bj) ?_ (λ_ hk=>by cases hk) ?_ (λk hk=>by grind) (λ_ hb=>by cases hb) rfl F;rw[z.2];show OV c.P o σ.tm (g.key i) [] σ.im r none;intro ρ a w he _ K _ _;let⟨w',C,N⟩:=D w (by rw[U];exact K.B0);refine⟨w',?_,N⟩;have:=AJS (P:=c.P) Q (ρ:=ρ) (a:=a) he (by rw[<-T];exact C)
 grind[JE]
 simp only[List.map_nil,List.nil_append,P];rfl;cases h;rename_i op ah rd I r D S;split at h;rename_i m;cases h;simp only[Bool.and_eq_true,List.all_eq_true]at m;simp only[List.map_cons,List.map_append,List.map_map,List.cons.injEq,Ck.i.injEq,Ck.o.injEq]at j;let⟨U,ae,O⟩:=j;let⟨h1,h2⟩:=List.append_inj O sP;have ag:∀p∈ah,σ.tm p.1=p.2:=by grind[List.map_inj_left]
 have M:∀kb∈rd,σ.hp kb.1=some kb.2:=by grind[List.map_inj_left]
 have E:=D (g.key i) σ.tm o ae.symm ag;rw[U]at E;refine f (r:=r) (nb:=none) (rd:=rd) E.d M m.1 (λk hk=>.inl ?_) (λ_ hb=>by cases hb) rfl F;have:=AIu (m.2 k hk);rcases List.mem_append.1 this with q|q;let⟨p,hp,am⟩:=List.mem_flatMap.1 q;exact hwf.1 p.1 k (by grind)
 grind
 cases h;rename_i x y X S;split at h;rename_i x' B;cases h;simp only[List.map_cons,List.map_nil,List.cons.injEq,Ck.v.injEq,and_true]at j;have sp:=ABp (P:=c.P) Y (I:=σ.im) B;refine f (r:=.v y) (nb:=none) (rd:=[]) (rds':=Bj) ?_ (λ_ hk=>by cases hk) rfl (λk hk=>by cases hk) (λ_ hb=>by cases hb) rfl F;rw[<-X,j];exact sp.ls.d;rename_i x' k b B;split at h;rename_i m;cases h;simp only[List.map_cons,List.map_nil,List.cons.injEq,Ck.v.injEq,and_true]at j;have sp:=ABp (P:=c.P) Y (I:=σ.im) B;refine f (r:=.v y) (nb:=none) (rd:=[(k,b)]) (rds':=(i,k)::Bj) ?_ sp.at_ ?_ (λk hk=>by cases hk) (λ_ hb=>by cases hb) rfl F;rw[<-X,j];exact sp.ls.d;exact m;cases h;cases h;split at h;rename_i r nb rd B;split at h;rename_i m;cases h;have sp:=ABp (P:=c.P) Y (I:=σ.im) B;refine f sp.ls.d sp.at_ m (sp.kr.some_ hwf sp.at_) (λb hb k hk=> ?_) rfl F;subst hb;exact(sp.kn.some_ hwf sp.at_ k hk).imp id (λq=>q.1);cases h;cases h;cases h
def AVA{ops a}(h:ACN ops a):a.length<=ops.size/\a.Pairwise (λi j=>PK ops i j/\i≠j)/\(∀i,i∈a↔i<ops.size)/\
 (∀i∈a,∀o,ops[i]? =some o->∀e∈o.after,Region.binds .any e->e.on<ops.size/\e.on≠i):=by
 simp only[ACN,Bt,Df,NV,List.any_eq_true]at h;let⟨⟨⟨d,f⟩,h2⟩,h3⟩:=h;refine⟨KL d,AJc f,λi=>⟨λb=>by simpa[RB]using(h3 i b).1,λb=> ?_⟩,λi b o l e k g=> ?_⟩;let⟨x,m,e⟩:=h2 i b;rw[Fp e];exact m;have:=(h3 i b).2;rw[l]at this;simp only[Array.all_eq_true']at this;have c:=this e k;simp only[g,ADk,ADj,Bt,RB,KD]at c;exact⟨c.1,λn=>by simp_all⟩
def AXj{c}(P:c.P.funcs[c.f]? =some c.fn)(v:c.P.follows .mixedOrders){R L}(T:Dg c.P L){sc f O D}
 (h:step1 c.P L sc c.n c.A f=.go O D) (H:D.map (·.1)=D.map (·.2)) (l:GG c R O):GG c R f:=by
 have one:∀ {d:St} {t Q:AA Item} {cnt:Nat},(∀(a:Act)(w:AI)(s:AA Frame),step c.P (lone ((LF c).at a t) s w)=.next (lone ((LF c).at a Q) s w))->GG c R ⟨d,Q,none,cnt⟩->GG c R ⟨d,t,none,cnt⟩:=
  λX l e b a w r=>LA.steps (λs=>.one (X a w s)) (l e b a w r)
 have hP:∀C (q:St) p (a:Act) B,LB c R C q->Ik c q p B->a.defers=c.QG->∀k,Qk c R k (.panic C) a B:=λC q p a B A W U k=>⟨U.trans A.1,A.2 p B W.toA⟩;unfold step1 at h;split at h;rename_i d S g aa cnt;cases h;intro u hwf;exact l ⟨u.above,λk A=>by have:=u.A k A;grind⟩;exact AXk T h H l
 grind[step_skip]
 grind[step_label]
 grind[step_inBlock]
 grind[step_seq]
 rename_i d N x y k cnt;split at h;rename_i F;cases h;intro e b a w r;have I:a.eval N=.bool true:=by rw[r.ev,F];rfl
 exact LA.steps (λs=>.one (by rw[step_cond I];rfl)) (l e b a w r);rename_i F;cases h;intro e b a w r;have I:a.eval N=.bool false:=by rw[r.ev,F];rfl
 exact LA.steps (λs=>.one (by rw[step_cond I];rfl)) (l e b a w r);cases h
 grind[step_block]
 grind[step_exit]
 rename_i d Y ops k cnt;cases h;intro e b a w r;have m:∀k,cnt<=k->d.hp k=none:=e.1;refine ABF P (wp_region ?_);refine AKo (c:=c) (g:=⟨ops,cnt,false⟩) (KP:=LB c R) (K:=G c R k) (λd b a w E r=>E b a w r) (gR) _ [] d b a w r (l ?_ r.wf);exact⟨(by grind[Dx,Dc.key]),λn V=>m n gR,List.nodup_range,λi J=>by simpa using J,e.2⟩;rename_i d Y ops k cnt;split at h;rename_i z;cases h;let⟨Z,o1,o2,o3⟩:=AVA z;intro e b a w r;have m:∀k,cnt<=k->d.hp k=none:=e.1;refine ABF P (wp_region_any v ?_);have r':Rel c d b a {w with drawn:=w.drawn+1}:=r.grow (BB.drew w);have M:(eager ops (ops.size+1) (List.range ops.size)).Nodup:=o1.imp λh=>h.2;refine ANU (c:=c) (g:=⟨ops,cnt,true⟩) (KP:=LB c R) (K:=G c R k) LB.congr rfl (λd b a w E r=>E b a w r) (gR) ops.size (Array.replicate ops.size false) _ [] d b a _ sP ?_ ?_ o1 o3 ?_ r' (l ?_ r.wf);exact Z;simp_all;intro j o ho K;exfalso;rw[Sv]at K
 grind
 exact⟨(by grind[Dx,Dc.key]),λn V=>m n gR,M,λi J=>(o2 i).1 J,e.2⟩;cases h;cases h
def ACm{c}(g:c.P.funcs[c.f]? =some c.fn)(a:c.P.follows .mixedOrders){R L}(e:Dg c.P L){b}:
 ∀(m:Nat) {f:BU},(CS c.P L b c.n c.A m f).cl=(CS c.P L b c.n c.A m f).ac->GG c R (CS c.P L b c.n c.A m f).f->GG c R f
 |0,_,_,hg=>hg
 |m+1,f,hck,hg=>by
  unfold CS at hck hg;split at hck
  grind
  cases hck;rename_i k d h;rw[h]at hg;simp only at hck hg;have hlen:(d.map (·.1)).length=(d.map (·.2)).length:=sP;let⟨i,j⟩:=List.append_inj hck hlen;exact AXj g a e h i (ACm g a e m j hg)
structure AU.OJ(h:AU)(key:Nat)(need:AA (Nat×AG)):Prop where
 r:∀k∈h.r.keys,k∈need.map (·.1)\/(Bf key h.nb k).isSome
 u:∀kb∈h.upd,kb.1∈need.map (·.1)/\∀k∈kb.2.keys,k∈need.map (·.1)\/(Bf key h.nb k).isSome
 n:∀b∈h.nb,∀k∈b.keys,k∈need.map (·.1)\/(Bf key h.nb k).isSome
 l:h.nb.length<=8
 d:(h.upd.map (·.1)).Nodup
def FC(P:BX)(F:Ay)(d:AA SV)(a:AA (Nat×AG))(I:AB)(g:Nat->AU->Prop)(f:AK (AA PanicEntry)):Prop:=
 (∀b h,g b h->h.OJ b a/\I.Cd h.J)/\
 ∀(c:Nat->Nat)(b:Nat)(w:AI),100<=b->Has w c a->Holds w I->(∀j∈a,I.free (c j.1))->(∀x∈a,∀y∈a,c x.1=c y.1->x.1=y.1)->
  Calls P F (As c d).toArray w λe k=>∃h q,g b h/\After I c w k b q h/\e=(match f with|none=>.returned (den (h.Am c b q) h.r)|some i=>.panicked i)
def PZ:Nat->AA SV->Nat->SV
 |_,[]=>λ_=>.v undef
 |i,x::l=>upd (PZ (i+1) l) i x
def H4:AA (Nat×AG)->Nat->AK AG
 |[]=>λ_=>none
 |(k,b)::l=>upd (H4 l) k (some b)
def JL(n:Nat):AA Nat->Bool
 |[]=>true
 |k::l=>Nat.blt k n&&JL n l
def R5{n}:∀ {l:AA Nat},JL n l->∀k∈l,k<n
 |[],_,_,h=>by cases h
 |x::l,h,k,hk=>by simp[JL,Bt,RB]at h;rcases BD.1 hk with e|e;rw[e];exact h.1;exact R5 h.2 k e
def ADB:∀(l:AA SV)(i s:Nat),PZ i l s=if i<=s then(l[s-i]?).getD (.v undef)else .v undef
 |[],i,s=>by simp[PZ]
 |x::l,i,s=>by
  simp[PZ];by_cases e:s=i
  grind[upd_same]
  rw[upd_ne _ _ e,ADB l (i+1) s]
  grind
def O1:∀ {l:AA (Nat×AG)} {k:Nat} {b:AG},H4 l k=some b->(k,b)∈l
 |[],_,_,h=>by cases h
 |(k',b')::l,k,b,h=>by
  simp[H4]at h;by_cases e:k=k'
  grind[upd_same]
  rw[upd_ne _ _ e]at h;exact DW _ (O1 h)
def ABP:∀ {l:AA (Nat×AG)} {k:Nat},k∈l.map (·.1)->(H4 l k).isSome
 |[],_,h=>by cases h
 |(k',b')::l,k,h=>by simp only[H4];by_cases e:k=k';rw[e,upd_same];rfl;rw[upd_ne _ _ e];simp only[EM,BD]at h;exact ABP (h.resolve_left e)
def M8(k:Nat):AA Nat->Bool
 |[]=>false
 |x::l=>Nat.beq k x||M8 k l
def US{k}:∀ {l:AA Nat},M8 k l->k∈l
 |[],h=>by cases h
 |x::l,h=>by simp only[M8,Ig]at h;rcases h with h|h;simp_all;exact DW _ (US h)
def UR{k}:∀ {l:AA Nat},k∈l->M8 k l
 |x::l,h=>by simp only[M8,Ig];rcases BD.1 h with h|h;simp_all;exact .inr (UR h)
def Ew(a b:AA Nat):Bool:=a.all (λk=>M8 k b)
def Gy:AA (Nat×AG)->AA Nat
 |[]=>[]
 |(_,b)::l=>b.keys++Gy l
def UW:∀ {l:AA (Nat×AG)} {a:Nat×AG} {k:Nat},a∈l->k∈a.2.keys->k∈Gy l
 |[],_,_,h,_=>by cases h
 |(k',b')::l,a,k,h,hk=>by
  simp[Gy,BA];rcases BD.1 h with e|e
  grind
  exact .inr (UW e hk)
def Qd(l:AA (Nat×AG)):Bool:=l.all (λa=>a.2.live)
def QL(b:AA SV)(a:AA (Nat×AG))(n:Nat):Bool:=
 Nat.ble b.length n&&JL 100 (a.map (·.1))&&Ew (Ax b) (a.map (·.1))&&Ew (Gy a) (a.map (·.1))&&Qd a
def ACZ(L:Lay)(b:St):ResultVar->AK SV
 | .tmp t=>some (b.tm t)
 | .cell a t=>match b.tm a,L.get t with
   | .p k off,some ty=>match b.hp k with
     |some (.cells l _)=>match ty.k.agg,Nat.ble (off+ty.n) l.length with
      |true,true=>some (.g ((l.drop off).take ty.n))
      |false,true=>l[off]?
      |_,_=>none
     |_=>none
   |_,_=>none
def Uo(L:Lay)(a:St):AA ResultVar->AK (AA SV)
 |[]=>some []
 |x::l=>match ACZ L a x,Uo L a l with
  |some y,some r=>some (y::r)
  |_,_=>none
def Xx(L:Lay)(a:St)(l:AA ResultVar):AK SV:=
 match Uo L a l with
 |some [x]=>some x
 |some r=>some (.t r)
 |none=>none
def SR(tmps:AY AE):ResultVar->Sem AE
 | .tmp t=>pure (tmps.getD t undef)
 | .cell b t=>do loadVar t (<-asAddr (tmps.getD b undef))
def AWK(a tmps):results a tmps=(do let vs<-a.results.mapM (SR tmps);pure (if h:vs.size=1 then vs[0]else .tuple vs)):=rfl
def AWJ{P L}(F:Dg P L){c D m a w}(R:Rel c D m a w){x y}(h:ACZ L D x=some y):
 (SR a.tmps x).run P w=.ok (den m y) w:=by
 cases x with
 |tmp t=>cases h;simp[SR,R.tm t]
 |cell b t=>
  simp only[ACZ]at h;split at h;rename_i k g J I A;let⟨i,d,z,K,B,N,n,M,hzero⟩:=Ca (F.get A);split at h;rename_i l e s;have G:=R.hp k _ _ s rfl;have cellAt:∀j,w.cell? ⟨m k,j,none⟩=(As m l)[j]? :=λj=>by simp[World.cell?,G]
  have u:=R.tm b;rw[I]at u;split at h;rename_i f hle;cases h;have H:w.rangeAt (m k) g ((As m l).drop g |>.take J.n):=λj v o=>by rw[cellAt];rw[GX]at o;split at o;rw[II]at o;exact o;cases o
  have r:d.isRow:=by rw[<-PY n]at f;grind
  have C:=KL hle;have:=run_loadVar_mid (P:=P) w (m k) g t _ d H B r (by grind[IM]);simp only[SR,u,den,asAddr,Sem.run_bind,Sem.run_pure,Result.andThen_ok,this];simp[Rj,Ri];rename_i f hle;have p:(isAgg t).run P w=.ok false w:=by have E:=PY n;rw[f]at E;simp only[isAgg,Sem.run_bind,run_underlying B,Result.andThen_ok];cases d<;>simp_all
  have q:w.cell? ⟨m k,g,none⟩=some (den m y):=by rw[cellAt,Gc,E0,h];rfl
  simp only[SR,u,den,asAddr,Sem.run_bind,Sem.run_pure,Result.andThen_ok,loadVar,p];simp_all;cases h;cases h;cases h
def AJ6{P L}(b:Dg P L){c e d a w}(R:Rel c e d a w):∀ {l:AA ResultVar} {r:AA SV},Uo L e l=some r->
 (l.mapM (SR a.tmps)).run P w=.ok (As d r) w
 |[],r,h=>by cases h;rfl
 |x::l,r,h=>by simp[Uo]at h;split at h;rename_i y k f g;cases h;have i:=AWJ b R f;have j:=AJ6 b R g;simp_all[As];cases h
def AWI{P L}(k:Dg P L){c i d a w}(R:Rel c i d a w){f r}(h:Xx L i f.results.toList=some r):(results f a.tmps).run P w=.ok (den d r) w:=by
 unfold Xx at h;have b:∀l,Uo L i f.results.toList=some l->(results f a.tmps).run P w=.ok (if h:(As d l).toArray.size=1 then(As d l).toArray[0]else .tuple (As d l).toArray) w:=λl g=>by have:=AJ6 k R g;simp_all[AWK,Array.mapM_eq_mapM_toList]
 split at h;rename_i x n;cases h;rw[b _ n];rfl;rename_i l m g;cases h;have j:∀x,l≠[x]:=by assumption
 rw[b _ g];rw[dif_neg];rfl;simp[Hn,IM];intro e;cases l with
 |nil=>cases e
 |cons x l=>grind
 cases h
def Rf(P:BX)(I:AB)(c:Nat->Nat)(a:Nat)(w:AI)(g:Nat->AU->Prop)(b:AK (AA PanicEntry)):Ez->AI->Prop:=λe f=>
 ∃h q,g a h/\After I c w f a q h/\e=(match b with|none=>.returned (den (h.Am c a q) h.r)|some d=>.panicked d)
def ctx(P:BX)(F:Ay)(a:Func)(n:Nat)(I:AB)(w:AI)(b:Nat->Nat)(A:AA Nat):Ctx:=⟨P,F,a,I,n,w,b,A,[]⟩
def init(a:AA SV)(b:AA (Nat×AG))(I:AB)(c:Code):BU:=⟨⟨PZ 0 a,H4 b,I⟩,[.code c],none,100⟩
def Io(a:Func):Code:=match a.body with|some c=>c|none=>.skip
def FC.mk{P F i a need I B r n}(V:P.funcs[F]? =some i)(t:i.body.isSome)(hn:i.ntmps=n)(hE:QL a need n)
 (hwf:∀g h,B g h->h.OJ g need/\I.Cd h.J) (H:∀d g w,100<=g->GG (ctx P F i n I w d (need.map (·.1))) (Rf P I d g w B r) (init a need I (Io i))):FC P F a need I B r:=by
 let⟨C,G⟩:=Ky.1 t;have u:Io i=C:=by unfold Io;rw[G]
 rw[u]at H;refine⟨hwf,λd g w q hN S v J=> ?_⟩;simp only[QL,Bt]at hE;let⟨⟨⟨⟨M,N⟩,e3⟩,O⟩,e5⟩:=hE;have hlen:=KL M;have m:=R5 N;have Q:=H d g w q ⟨λk f=>by
  show H4 need k=none;cases e:H4 need k with
  |none=>rfl
  |some b=>have:=m k (BG.2 ⟨_,O1 e,rfl⟩);have:(100:Nat)<=k:=f;omega,λk f=>m k f⟩
 have p:∀ {K:AA Nat},Ew K (need.map (·.1))->∀k∈K,(H4 need k).isSome:=λX k f=>ABP (US (Df.1 X k f));have A:∀kb∈need,kb.2.live:=λkb z=>Df.1 e5 kb z;have c:∀ {k b},H4 need k=some b->(k,b)∈need:=λh=>O1 h;intro L;have R:Rel (ctx P F i n I w d (need.map (·.1))) ⟨PZ 0 a,H4 need,I⟩ d {tmps:=(As d a).toArray++Array.replicate (i.ntmps-(As d a).toArray.size) undef,defers:=[]} w:=by
  refine{hp:=λk b o f W=>hN (k,b) (c f) o W,inj:= ?_,kb:= ?_,im:=S,fs:=λb o h=>.inl h,Es:=λb o h=>Gg h,dj:= ?_,ad:=λk _=>rfl,nw:= ?_,fr:=λ_ _ _ _=>rfl,sz:=AZ _,os:=rfl,tape:=rfl,output:=rfl,size:= ?_,nd:=rfl,tm:= ?_,kd:= ?_};rintro j k ⟨b1,D,_⟩ ⟨b2,E,_⟩ e
  grind
  intro k b Y f y;exact p O Y (UW (c f) y);rintro k ⟨b,h,_⟩;exact v _ (c h);rintro k ⟨b,h,_⟩;exact .inr ⟨k,BG.2 ⟨_,c h,rfl⟩,rfl⟩;show((As d a).toArray++Array.replicate (i.ntmps-(As d a).toArray.size) undef).size=n;simp[IM];omega;intro s;show((As d a).toArray++Array.replicate (i.ntmps-(As d a).toArray.size) undef).getD s undef=den d (PZ 0 a s);rw[ADB,AW (BS _),Sv,Array.getElem?_append];simp only[Hn,IM,Lm,Nat.sub_zero];by_cases h:s<a.length
  grind[Gc]
  rw[AN h,I7 oG];simp only[Array.getElem?_replicate,Option.getD_none];split<;>rfl;intro s k f;have f:k∈(PZ 0 a s).keys:=f;rw[ADB,AW (BS _)]at f;refine p e3 k ?_;cases h:a[s-0]? with
  |none=>rw[h]at f;cases f
  |some x=>grind[Jn]
 have l:Frame.enter P F (As d a).toArray .normal=(LF (ctx P F i n I w d (need.map (·.1)))).at {tmps:=(As d a).toArray++Array.replicate (i.ntmps-(As d a).toArray.size) undef,defers:=[]} [.code C]:=by simp[Frame.enter,Frame.at,V,G,LF,ctx]
 let⟨e,Z,fr,T,U,D,E⟩:=Q d _ w R L;rw[l];exact⟨e,Z,fr,T,U,D,E⟩
def AAo:AA Item->Bool
 |[]=>true
 | .code .ret::_=>true
 |_=>false
def IF(a:St):AA Nat->AK (AA (Nat×AG))
 |[]=>some []
 |k::l=>match a.hp k,IF a l with
  |some b,some r=>some ((k,b)::r)
  |_,_=>none
def ADL{c}:∀ {l:AA Nat} {r:AA (Nat×AG)},IF c l=some r->(∀a∈r,a.1∈l/\c.hp a.1=some a.2)/\(∀k∈l,∃b,(k,b)∈r)
 |[],r,h=>by cases h;simp
 |k::l,r,h=>by
  simp[IF]at h;split at h;rename_i b i e d;cases h;let⟨f,g⟩:=ADL d
  grind
  cases h
def idxOf:Nat->AA Nat->AK Nat
 |_,[]=>none
 |k,x::l=>match Nat.beq k x with|true=>some 0|false=>(idxOf k l).map (· +1)
def Ws:∀ {l:List Nat} {k j:Nat},idxOf k l=some j->l[j]? =some k
 |[],_,_,h=>by cases h
 |x::l,k,j,h=>by
  simp only[idxOf]at h;split at h
  grind[Nat.eq_of_beq_eq_true]
  cases e:idxOf k l with
  |none=>rw[e]at h;cases h
  |some i=>rw[e]at h;cases h;simpa using Ws e
def AHW:∀ {l:AA Nat} {k:Nat},k∈l->∃j,idxOf k l=some j
 |x::l,k,h=>by
  simp[idxOf];cases e:Nat.beq k x with
  |true=>exact⟨0,rfl⟩
  |false=>
   rcases BD.1 h with h|h;simp_all;let⟨j,a⟩:=AHW h
   grind
def Ex(a:Nat)(b:AA Nat)(k:Nat):Nat:=match idxOf k b with|some j=>a+j|none=>k
def RZ(a:St):AA Nat->AK (AA AG)
 |[]=>some []
 |k::l=>match a.hp k,RZ a l with
  |some b,some r=>some (b::r)
  |_,_=>none
def AFL{a}:∀ {l:AA Nat} {r:AA AG},RZ a l=some r->r.length=l.length/\∀(j:Nat)(b:AG),r[j]? =some b->∃k,l[j]? =some k/\a.hp k=some b
 |[],r,h=>by cases h;simp
 |k::l,r,h=>by
  simp[RZ]at h;split at h;rename_i b g d c;cases h;let⟨e,f⟩:=AFL c
  grind
  cases h
def I3(L:Lay)(d:AA ResultVar)(A a:AA Nat)(b:Nat)(f:BU):AK AU:=
 match f.rg.isNone&&AAo f.todo,Xx L f.σ d,IF f.σ A,RZ f.σ a with
 |true,some r,some u,some nb=>
  match Ew r.keys (A++a)&&Ew (Gy u) (A++a)&&Ew (nb.flatMap AG.keys) (A++a)&&nb.all AG.live&&nodupB a&&a.all (λk=> !M8 k A)&&JL 100 A&&Nat.ble a.length 8 with
  |true=>some {r:=r.Am (Ex b a),upd:=u.map (λc=>(c.1,c.2.Am (Ex b a))),nb:=nb.map (AG.Am (Ex b a)),J:=f.σ.im}
  |false=>none
 |_,_,_,_=>none
def Ub:∀ {l:AA Nat},nodupB l->l.Nodup
 |[],_=>.nil
 |x::l,h=>by simp[nodupB,Bt,Df,KD]at h;refine Gl.2 ⟨λa=> ?_,Ub h.2⟩;have:=h.1 x a;simp at this
theorem Uc:∀ {l:AA Nat},l.Nodup->∀ {i j:Nat} (a:i<l.length) (b:j<l.length),l[i]=l[j]->i=j
 |x::l,h,i,j,a,b,e=>by
  let⟨d,c⟩:=Gl.1 h;cases i with
  |zero=>
   grind
  |succ i=>
   cases j with
   |zero=>grind
   |succ j=>
    have:=Uc (i:=i) (j:=j) c (by simpa using a) (by simpa using b) (by simpa using e);rw[this]
def Jg(P:BX)(F:Ay)(b:Func)(n:Nat)(I:AB)(w:AI)(c:Nat->Nat)(A:AA Nat)(a:AA Deferred):Ctx:=⟨P,F,b,I,n,w,c,A,a⟩
def AKC{P F fn n I w ρ A c Φ L}(hL:Dg P L){f}(ks){h ds}
 (hend:I3 L fn.results.toList A ks c f=some h) (al:100<=c) (ak:Φ c h):∀d a Z,Rel (Jg P F fn n I w ρ A ds) f.σ d a Z->AAo f.todo/\f.rg=none/\∃v,(results fn a.tmps).run P Z=.ok v Z/\Rf P I ρ c w Φ none (.returned v) Z:=by
 let⟨σ,am,rg,cnt⟩:=f;unfold I3 at hend;split at hend
 case h_2=>cases hend
 rename_i r u nb aa h3 h4 h5;split at hend
 case h_2=>cases hend
 rename_i U;cases hend;simp only[Bt,Ml]at aa U;let⟨⟨⟨⟨⟨⟨⟨c1,c2⟩,c3⟩,c4⟩,c5⟩,c6⟩,c7⟩,c8⟩:=U;let⟨h1,h2⟩:=aa;subst h1;intro d a Z R;have R:Rel (Jg P F fn n I w ρ A ds) σ d a Z:=R;let⟨u1,u2⟩:=ADL h4;let⟨n1,n2⟩:=AFL h5;have ai:=Ub c5;have ad:=R5 c7;have m:∀k∈ks,k∉A:=λk G W=>by have:=Df.1 c6 k G;simp only[KD]at this;have h2:M8 k A:=UR W;rw[h2]at this;cases this
 have ae:=AWI hL R h3;let q:Nat->Nat:=λj=>match ks[j]? with|some k=>d k|none=>0
 have H:∀k∈A++ks,AU.Am {r:=r.Am (Ex c ks),upd:=u.map (λT=>(T.1,T.2.Am (Ex c ks))),nb:=nb.map (AG.Am (Ex c ks)),J:=σ.im} ρ c q (Ex c ks k)=d k:=by
  intro k G;by_cases Y:k∈ks;let⟨j,p⟩:=AHW Y;have X:=Ws p;have:Ex c ks k=c+j:=by unfold Ex;rw[p]
  rw[this];have ah:j<nb.length:=by rw[n1];rcases Lp j ks.length with l|l;exact l;rw[I7 l]at X;cases X
  rw[Kp (b:=(nb[j]).Am (Ex c ks)) (by simp[ah])];show(match ks[j]? with|some k=>d k|none=>0)=d k;rw[X];have W:=(BA.1 G).resolve_right Y;have:Ex c ks k=k:=by
   unfold Ex;cases e:idxOf k ks with
   |none=>rfl
   |some j=>exact(Y (Cv (Ws e))).elim
  rw[this,Ej];exact(R.ad k W).symm;unfold Bf;have:Nat.ble c k=false:=by
   have:=ad k W;cases e:Nat.ble c k with
   |false=>rfl
   |true=>have:=KL e;omega
  rw[this]
 have K:∀ {l:AA Nat},Ew l (A++ks)->∀k∈l,k∈A++ks:=λhs k G=>US (Df.1 hs k G);have ab:∀x:SV,(∀k∈x.keys,k∈A++ks)->den (AU.Am {r:=r.Am (Ex c ks),upd:=u.map (λT=>(T.1,T.2.Am (Ex c ks))),nb:=nb.map (AG.Am (Ex c ks)),J:=σ.im} ρ c q) (x.Am (Ex c ks))=den d x:=λx hx=>by rw[Nn];exact JE x λk G=>H k (hx k G)
 have E:∀b:AG,(∀k∈b.keys,k∈A++ks)->(b.Am (Ex c ks)).den (AU.Am {r:=r.Am (Ex c ks),upd:=u.map (λT=>(T.1,T.2.Am (Ex c ks))),nb:=nb.map (AG.Am (Ex c ks)),J:=σ.im} ρ c q)=b.den d:=λb O=>by rw[AG.Nn];exact AG.JE b λk G=>H k (O k G)
 have live:∀(j:Nat)(b:AG),nb[j]? =some b->b.live:=λj b p=>Df.1 c4 b (Cv p);have fin:Rf P I ρ c w Φ none (.returned (den d r)) Z:=by
  refine⟨_,q,ak,⟨R.os,R.tape,R.output,R.sz,?_,?_,?_,?_,R.im,?_,?_⟩,by rw[<-ab r (K c1)]⟩;intro b O aj hO;refine R.fr b O (λk af=> ?_) hO;let⟨bk,Q⟩:=u2 k af;exact aj (k,bk.Am (Ex c ks)) (BG.2 ⟨(k,bk),Q,rfl⟩);intro T ag o ho;obtain⟨B,V,rfl⟩:=BG.1 ag;let⟨W,hp⟩:=u1 B V;simp only at ho⊢;rw[E B.2 (λk G=>K c2 k (UW V G))]at ho;have e1:=H B.1 (E2 _ W);have e2:Ex c ks B.1=B.1:=by
   unfold Ex;cases e:idxOf B.1 ks with
   |none=>rfl
   |some j=>exact(m _ (Cv (Ws e)) W).elim
  rw[e2]at e1;rw[e1];exact R.hp B.1 B.2 o hp ho;intro j b p;simp only[E0,KM]at p;obtain⟨M,t,rfl⟩:=p;let⟨k,y,g⟩:=n2 j M t;have z:k∈ks:=Cv y;have N:=live j M t;have qj:q j=d k:=by show(match ks[j]? with|some k=>d k|none=>0)=d k;rw[y]
  let⟨o,ho⟩:=AG.R8 N d;refine⟨?_,by rw[AG.R9];exact N,?_⟩;rw[E M (λD s=>K c3 D (KG.2 ⟨M,Cv t,s⟩)),ho,qj];exact R.hp k M o g ho;rw[qj];rcases R.nw k ⟨M,g,N⟩with C|⟨D,s,C⟩;exact .inl C;right;let⟨bk,Q⟩:=u2 D s;refine⟨(D,bk.Am (Ex c ks)),BG.2 ⟨(D,bk),Q,rfl⟩,?_,C⟩;let⟨_,hp⟩:=u1 _ Q;cases bk with
  |gone=>rfl
  |cells l e=>
   have:=R.inj k D ⟨M,g,N⟩ ⟨_,hp,rfl⟩ (by rw[C,<-R.ad D s]);rw[this]at z;exact(m _ z s).elim
  |Aa l e=>
   have:=R.inj k D ⟨M,g,N⟩ ⟨_,hp,rfl⟩ (by rw[C,<-R.ad D s]);rw[this]at z;exact(m _ z s).elim
  |DZ l e=>
   have:=R.inj k D ⟨M,g,N⟩ ⟨_,hp,rfl⟩ (by rw[C,<-R.ad D s]);rw[this]at z;exact(m _ z s).elim
  |obj o=>
   have:=R.inj k D ⟨M,g,N⟩ ⟨_,hp,rfl⟩ (by rw[C,<-R.ad D s]);rw[this]at z;exact(m _ z s).elim
  intro i j S p e;simp only[C6]at S p;rw[n1]at S p;have ei:q i=d ks[i]:=by show(match ks[i]? with|some k=>d k|none=>0)=_;rw[A9 S]
  have ej:q j=d ks[j]:=by show(match ks[j]? with|some k=>d k|none=>0)=_;rw[A9 p]
  have N:∀i (S:i<ks.length),Fc σ.hp ks[i]:=λi S=>by
   have ac:i<nb.length:=by rw[n1];exact S
   let⟨k,y,g⟩:=n2 i nb[i] (A9 ac);rw[A9 S]at y;cases y;exact⟨_,g,live i _ (A9 ac)⟩
  have:=R.inj _ _ (N i S) (N j p) (by rw[<-ei,<-ej];exact e);exact Uc ai S p this;intro b o O;rcases R.fs b o O with C|C;exact .inl C;by_cases hex:∃j,j<nb.length/\b=q j;let⟨j,p,e⟩:=hex;exfalso;let⟨k,y,g⟩:=n2 j nb[j] (A9 p);have qj:q j=d k:=by show(match ks[j]? with|some k=>d k|none=>0)=d k;rw[y]
  have:=R.dj k ⟨_,g,live j _ (A9 p)⟩;rw[<-qj,<-e]at this;have t:σ.im b=some o:=O;rw[this.1]at t;cases t;exact .inr ⟨C,λj p e=>hex ⟨j,by simpa using p,e⟩⟩;intro b o O;rcases R.Es b o O with C|C;exact .inl C;by_cases hex:∃j,j<nb.length/\b=q j;let⟨j,p,e⟩:=hex;exfalso;let⟨k,y,g⟩:=n2 j nb[j] (A9 p);have qj:q j=d k:=by show(match ks[j]? with|some k=>d k|none=>0)=d k;rw[y]
  have:=R.dj k ⟨_,g,live j _ (A9 p)⟩;rw[<-qj,<-e]at this;have t:σ.im.own b=some o:=O;rw[this.2]at t;cases t;exact .inr ⟨C,λj p e=>hex ⟨j,by simpa using p,e⟩⟩
 exact⟨h2,rfl,_,ae,fin⟩
def AKD{P F fn n I w i A b q L}(s:Dg P L)(t:P.funcs[F]? =some fn){f}(p){h}
 (hend:I3 L fn.results.toList A p b f=some h) (e:100<=b) (j:q b h):GG (ctx P F fn n I w i A) (Rf P I i b w q none) f:=by
 have u:=AKC (F:=F) (n:=n) (w:=w) (ρ:=i) (I:=I) (ds:=[]) s p hend e j;let⟨B,g,y,cnt⟩:=f;obtain rfl:y=none:=by unfold I3 at hend;ext;grind
 intro _ m a k R z;let⟨o,_,v,c,fin⟩:=u m a k R;have d:(ctx P F fn n I w i A).P.funcs[(ctx P F fn n I w i A).f]? =some fn:=t;cases g with
 |nil=>exact⟨_,k,_,fin,.one step_end,rfl,rfl,R.nd,rfl,fn,d,c⟩
 |cons x l=>
  cases x with
  |code r=>
   cases r with
   |ret=>exact⟨_,k,_,fin,.one step_ret,rfl,rfl,R.nd,rfl,fn,d,c⟩
   |_=>cases o
  |_=>cases o
def AT:AA (Nat×Nat)->Nat->Nat
 |[],k=>k
 |(a,b)::l,k=>match Nat.beq k a with|true=>b|false=>AT l k
def AC3:∀ {c:AA (Nat×Nat)},JL 100 (c.map (·.1))->∀k,100<=k->AT c k=k
 |[],_,_,_=>rfl
 |(a,b)::l,h,k,hk=>by
  simp[EM,JL,Bt,RB]at h;simp[AT];have:Nat.beq k a=false:=by
   cases e:Nat.beq k a with
   |false=>rfl
   |true=>have:=Fp e;omega
  rw[this];exact AC3 h.2 k hk
def AU.rn(a:Nat->Nat)(h:AU):AU:={r:=h.r.Am a,upd:=h.upd.map (λb=>(a b.1,b.2.Am a)),nb:=h.nb.map (AG.Am a),J:=h.J}
def H7(c:Nat->Nat)(a:AA (Nat×AG)):AA (Nat×AG):=a.map λb=>(c b.1,b.2.Am c)
def ACD{b:Type}(a:AY b):Bool:=XZ a.toList
def V7(c:Nat->SV)(o:Op):AK (Ay×AA SV):=
 match o with
 | .call {callee:=.value f,args:=args,..}=>match ev c f with
   | .v (.func (.func F) a b)=>match ACD a&&ACD b with
     |true=>some (F,LK c args.toList)
     |false=>none
   | .fn (.func F) a b=>some (F,a++LK c args.toList++b)
   |_=>none
 |_=>none
def Enters(P:BX)(F:Ay):Prop:=∀a w,(callFunc F a).run P w=.ok (.enter F a) w
def Hw{P F a}(g:P.funcs[F]? =some a)(c:a.body.isSome)(h:(a.name== "runtime.NumGoroutine")=false):Enters P F:=by
 intro b w;have d: ¬a.name= "runtime.NumGoroutine" :=by simpa using h
 have f: ¬a.body=none:=by intro e;rw[e]at c;cases c
 simp[callFunc,program,Sem.run,g,d,f]
def AI8{b:Type}{a:Array b}(h:ACD a):a=#[]:=Array.toList_inj.1 (ACE h)
def AOT{P}{o:Oper}{e F c}(h:V7 e o.op=some (F,c))(hE:Enters P F){g}{a:Act}(k:∀x∈o.op.operands,a.eval x=den g (ev e x))(w):
 (execOp a.eval o).run P w=.ok (.enter F (As g c).toArray) w:=by
 unfold V7 at h;split at h;rename_i f j s i;have l:f∈o.op.operands:=by simp[i,Op.operands,Call.operands]
 have has:(j.map a.eval)=(As g (LK e j.toList)).toArray:=by apply Array.toList_inj.1;rw[Array.toList_map,Gc,Wd,List.map_map];exact List.map_congr_left λp r=>k p (by simp[i,Op.operands,Call.operands];grind)
 split at h;rename_i m x y d;split at h;rename_i b;cases h;simp only[Bool.and_eq_true]at b;have n:=AI8 b.1;have q:=AI8 b.2;subst n q;simp only[execOp,i,resolve,k f l,d,den,Deferred.ofValue,has,Sem.run_bind,Sem.run_pure,Result.andThen_ok,invoke];simpa using hE (As g (LK e j.toList)).toArray w;cases h;rename_i m x y d;cases h;simp only[execOp,i,resolve,k f l,d,den,Deferred.ofValue,has,Sem.run_bind,Sem.run_pure,Result.andThen_ok,invoke];have:=hE (As g (x++LK e j.toList++y)).toArray w
 grind[QE]
 cases h;cases h
theorem AI2{a b f k}:Bf a (b.map f) k=(Bf a b k).map f:=by grind[Bf]
def AOa{P}{o:BP}{tm F n}{need:AA (Nat×AG)}{I Φ C}{d:AA (Nat×Nat)}{c}(t:V7 tm o.op=some (F,Bz (AT d) n))(hE:Enters P F)(D:FC P F n need I Φ C)
 (H:100<=c) (U:JL 100 (d.map (·.1))) (z:JL 100 (need.map (·.1))) (v:Qd need) (S:nodupB ((H7 (AT d) need).map (·.1))):
 HS P o tm c (H7 (AT d) need) I (λh'=>∃h,Φ c h/\h'=h.rn (AT d)) C:=by
 refine⟨?_⟩;intro s a w he hN hI ac Z ad af next Q hnext aa;have ab:=AC3 U;have ae:=R5 z;have O:=Ub S;have lv:∀g∈need,g.2.live:=λg f=>Df.1 v g f;have K:∀g∈need,(AT d g.1,g.2.Am (AT d))∈H7 (AT d) need:=λg f=>BG.2 ⟨g,f,rfl⟩;have X:∀x∈need,∀y∈need,AT d x.1=AT d y.1->x.1=y.1:=by
  have:(need.map λg=>AT d g.1).Nodup:=by
   have e:(H7 (AT d) need).map (·.1)=need.map λg=>AT d g.1:=by simp[H7,HA,Function.comp_def]
   rwa [e]at O
  intro x hx y hy e;obtain⟨i,Y,rfl⟩:=Pn hx;obtain⟨j,E,rfl⟩:=Pn hy;have:=Uc this (i:=i) (j:=j) (by simpa using Y) (by simpa using E) (by simpa using e);subst this;rfl
 have hc:=D.2 (λk=>s (AT d k)) c w H (λg f B m=>hN _ (K g f) B (by grind[AG.Nn])) hI ((by grind[AG.R9]))
  ((by grind[AG.R9]))
 have r:=AOT (P:=P) t hE he w;rw[Oi]at r;have L:∀k∈need.map (·.1),¬Dx c (AT d k):=by grind
 unfold Oper.wp;rw[r,Oper.upon_enter];refine hc.mono λe w' R=> ?_;obtain⟨h,q,J,A,rfl⟩:=R;let⟨M,hle⟩:=D.1 c h J;have hR:∀k,(k∈need.map (·.1)\/(Bf c h.nb k).isSome)->(h.rn (AT d)).Am s c q (AT d k)=h.Am (λk=>s (AT d k)) c q k:=by
  intro k N;unfold AU.Am AU.rn;simp[AI2];rcases N with N|N;have h1:Bf c h.nb k=none:=PE M.l (by grind[Dx]);have h2:Bf c h.nb (AT d k)=none:=PE M.l (L k N);rw[h1,h2];rfl
  grind[UU]
 have u:∀x:SV,(∀k∈x.keys,k∈need.map (·.1)\/(Bf c h.nb k).isSome)->den ((h.rn (AT d)).Am s c q) (x.Am (AT d))=den (h.Am (λk=>s (AT d k)) c q) x:=by grind[Nn,JE]
 have l:∀b:AG,(∀k∈b.keys,k∈need.map (·.1)\/(Bf c h.nb k).isSome)->(b.Am (AT d)).den ((h.rn (AT d)).Am s c q)=b.den (h.Am (λk=>s (AT d k)) c q):=by grind[AG.Nn,AG.JE]
 have A':After I s w w' c q (h.rn (AT d)):=by
  refine⟨A.os,A.tape,A.output,A.size,λb p T hO=>A.keep b p (λg f=>T _ (BG.2 ⟨g,f,rfl⟩)) hO,?_,?_,?_,A.Gu,?_,?_⟩;intro ag G B m;obtain⟨g,f,rfl⟩:=BG.1 G;let⟨u1,u2⟩:=M.u g f;simp only at m⊢;rw[l g.2 u2]at m;rw[hR g.1 (.inl u1)];exact A.upd g f B m;intro j b' E;simp[AU.rn,E0,KM]at E;obtain⟨b,p,rfl⟩:=E;let⟨n1,n2,V⟩:=A.nb j b p;refine⟨by rw[l b (M.n b (Cv p))];exact n1,by rw[AG.R9];exact n2,?_⟩;rcases V with V|⟨g,f,e1,e2⟩;exact .inl V;exact .inr ⟨_,BG.2 ⟨g,f,rfl⟩,by simp[e1,AG.Am],e2⟩;intro i j Y E e;exact A.qi i j (by grind[AU.rn]) (by grind[AU.rn]) e;intro b B p;rcases A.fresh b B p with W|⟨q1,q2⟩;exact .inl W
  grind[AU.rn]
  intro b B p;rcases A.Gz b B p with W|⟨q1,q2⟩;exact .inl W
  grind[AU.rn]
 cases C with
 |none=>
  simp only;rw[<-u h.r M.r];exact hnext rfl (h.rn (AT d)) w' q ⟨h,J,rfl⟩ A'
 |some ch=>
  grind
def AKL{h:AU}{key need}{I:AB}{th:List (Nat×Nat)}(wf:h.OJ key need)(hle:I.Cd h.J)(t:100<=key)(q:JL 100 (th.map (·.1))=true)(a:Qd need=true)(p:nodupB ((H7 (AT th) need).map (·.1))=true):
 (h.rn (AT th)).wf I key (H7 (AT th) need) []:=by
 have g:=AC3 q;have v:=Ub p;have C:(H7 (AT th) need).map (·.1)=need.map λkb=>AT th kb.1:=by simp[H7,List.map_map,Function.comp_def]
 have f:∀k,k∈need.map (·.1)->AT th k∈(H7 (AT th) need).map (·.1):=by grind
 have tr:∀k,(k∈need.map (·.1)\/(Bf key h.nb k).isSome=true)->AT th k∈(H7 (AT th) need).map (·.1)++[]\/(Bf key (h.rn (AT th)).nb (AT th k)).isSome=true:=λk hk=>by
  rcases hk with hk|hk
  grind
  right;obtain⟨b,hb⟩:=Option.isSome_iff_exists.1 hk;obtain⟨j,e,_⟩:=UU hb;rw[g k oG];show(Bf key (h.nb.map (AG.Am (AT th))) k).isSome=true;rw[AI2,hb];rfl
 have i:∀ {ks:List Nat},(∀k∈ks,k∈need.map (·.1)\/(Bf key h.nb k).isSome=true)->∀k∈ks.map (AT th),k∈(H7 (AT th) need).map (·.1)++[]\/(Bf key (h.rn (AT th)).nb k).isSome=true:=by grind
 refine{r:= ?_,u:= ?_,n:= ?_,l:=by simpa[AU.rn]using wf.l,le:=hle,d:= ?_};intro k hk;rw[show(h.rn (AT th)).r=h.r.Am (AT th)from rfl,UJ]at hk;exact i wf.r k hk;intro A c;obtain⟨kb,o,rfl⟩:=List.mem_map.1 c;obtain⟨B,E⟩:=wf.u kb o;refine⟨f _ B,λb hb=> ?_,λk hk=> ?_⟩;obtain⟨x,s,e⟩:=List.mem_map.1 hb;have:b=x.2.Am (AT th):=(Prod.mk.inj e).2.symm;rw[this,AG.R9];exact List.all_eq_true.1 a x s
 grind[AG.UJ]
 intro b' m k hk;obtain⟨b,hb,rfl⟩:=List.mem_map.1 m;rw[AG.UJ]at hk;exact i (wf.n b hb) k hk;show((h.upd.map (λkb=>(AT th kb.1,kb.2.Am (AT th)))).map (·.1)).Nodup;rw[List.map_map];show(h.upd.map (λkb=>AT th kb.1)).Nodup;have hd:=wf.d;rw[List.nodup_iff_pairwise_ne]at hd⊢;rw[List.pairwise_map]at hd⊢;refine hd.imp_of_mem λ{x y} s hy hne e=>hne ?_;obtain⟨x',w,ex⟩:=List.mem_map.1 (wf.u x s).1;obtain⟨F,z,D⟩:=List.mem_map.1 (wf.u y hy).1
 grind[List.getElem_of_mem,Uc]
def Ci(f:BU)(n F:Nat)(b:AA (Nat×Nat))(a:AA (Nat×AG))(d:AA Nat):AK (AA SV×AA (AK AG)×AB):=
 match f.rg with
 |some ⟨g,i::_,c⟩=>match g.ops[i]? with
  |some o=>match want g.ops f.σ.tm o,V7 f.σ.tm o.op with
   |some true,some (F',args)=>match Nat.beq F F'&&Jh o.op&&Rl n o.dst&&M4 g i ((H7 (AT b) a).map (·.1))&&(!g.drawn||d.all (λk=>PR g i (AT b k) c))&&nodupB ((H7 (AT b) a).map (·.1))&&Qd a&&JL 100 (a.map (·.1))&&JL 100 (b.map (·.1))&&Nat.ble 100 g.base with
    |true=>some (args,a.map (λe=>f.σ.hp (AT b e.1)),f.σ.im)
    |false=>none
   |_,_=>none
  |none=>none
 |_=>none
def Cw(f:BU):Nat:=match f.rg with
 |some ⟨g,i::_,_⟩=>g.key i
 |_=>0
def BU.out(f:BU)(b:Nat->Nat)(h:AU):BU:=match f.rg with
 |some ⟨g,i::is,a⟩=>match g.ops[i]? with
  |some o=>⟨f.σ.Dd o.dst (g.key i) (h.rn b),f.todo,some ⟨g,is,a⟩,f.cnt⟩
  |none=>f
 |_=>f
def AFk{c:Ctx}{R}{f:BU}{F x}{d:AA (Nat×AG)}{I O v}(z:FC c.P F x d I O v)(hE:Enters c.P F)(m D)
 (a:Ci f c.n F m d D=some (Bz (AT m) x,d.map (λq=>some (q.2.Am (AT m))),I)) (L:∀Y h,O Y h->∀q∈h.upd,q.1∈D)
 (hnext:v=none->∀h,O (Cw f) h->GG c R (f.out (AT m) h)) (H:∀N,v=some N->∀h,O (Cw f) h->LB c R N (f.σ.Dd none (Cw f) (h.rn (AT m)))):GG c R f:=by
 let⟨w,ab,rg,cnt⟩:=f;unfold Ci at a;split at a
 case h_2=>cases a
 rename_i g i is Z J;simp only at J;subst J;split at a
 case h_2=>cases a
 rename_i o ho;split at a
 case h_2=>cases a
 rename_i F' P hw A;split at a
 case h_2=>cases a
 rename_i y;simp only[Pq,OQ]at a;let⟨e1,e2,e3⟩:=a;simp only[Bt]at y;let⟨⟨⟨⟨⟨⟨⟨⟨⟨c1,c2⟩,c3⟩,c4⟩,c5⟩,c6⟩,c7⟩,c8⟩,c9⟩,c10⟩:=y;have eF:=Fp c1;subst eF e1 e3;have S:=KL c10;have u:100<=g.key i:=by unfold Dc.key;omega
 intro B hwf;simp only at B hwf;have E:∀q∈H7 (AT m) d,w.hp q.1=some q.2:=λX t=>by obtain⟨q,l,rfl⟩:=BG.1 t;exact(S6.1 e2) q l
 refine⟨o,ho,c3,B.Rr,.inr ⟨H7 (AT m) d,[],_,v,⟨hw,c2,AOa A hE z u c9 c8 c7 c6,E,nA,?_,?_,?_⟩,?_,?_⟩⟩;rw[G9];exact UI c4;rintro hd ik U Q ⟨h,p,rfl⟩ hm;let⟨X,t,e⟩:=BG.1 hm;obtain⟨q,l,rfl⟩:=BG.1 t;have h5:D.all (λk=>PR g i (AT m k) Z):=by rw[hd]at c5;simpa using c5
 exact Xv (Df.1 h5 q.1 (L _ h p q l)) ik U e.symm;rintro Q ⟨h,p,rfl⟩;let⟨wf,hle⟩:=z.1 _ h p;exact AKL wf hle u c9 c7 c6;rintro hp Q ⟨h,p,rfl⟩;have hG:=hnext hp h p;simp only[BU.out,ho]at hG;let⟨wf,hle⟩:=z.1 _ h p;have W:=AKL (I:=w.im) wf hle u c9 c7 c6;have hs:∀k∈(H7 (AT m) d).map (·.1),(w.hp k).isSome:=λk n=>by obtain⟨q,l,rfl⟩:=BG.1 n;rw[E q l];rfl
 have C:∀k,(k∈(H7 (AT m) d).map (·.1)++[]\/(Bf (g.key i) (h.rn (AT m)).nb k).isSome)->((h.rn (AT m)).hp (g.key i) w.hp k).isSome:=λk n=>by rcases n with n|n;rw[G9]at n;exact MG (hs k n);let⟨b,r⟩:=Ky.1 n;rw[O2 r];rfl
 have aa:WF ⟨w.tm,(h.rn (AT m)).hp (g.key i) w.hp,(h.rn (AT m)).J⟩:=by
  refine⟨λs k n=>MG (hwf.1 s k n),λk b M r n=> ?_⟩;have r:(h.rn (AT m)).hp (g.key i) w.hp k=some b:=r;cases V:Bf (g.key i) (h.rn (AT m)).nb k with
  |some b'=>
   rw[O2 V]at r;cases r;let⟨j,_,hj⟩:=UU V;exact C M (W.n b (Cv hj) M n)
  |none=>
   rw[ABR V]at r;by_cases K:k∈(h.rn (AT m)).upd.map (·.1);obtain⟨q,l,rfl⟩:=BG.1 K;rw[T4 l W.d]at r;cases r;exact C M ((W.u q l).2.2 M n);rw[T5 K]at r;exact MG (hwf.2 k b M r n)
 refine hG (B.tail λk=> ?_) (aa.put λk n=>C k (W.r k n));show(St.put _ _ _).hp k=_\/_;rw[Jr];show(h.rn (AT m)).hp (g.key i) w.hp k=w.hp k\/_;by_cases G:Dx (g.key i) k;exact .inr (.inl G);by_cases K:k∈(h.rn (AT m)).upd.map (·.1);obtain⟨q,l,rfl⟩:=BG.1 K;exact .inr (.inr (hs _ (W.u q l).1));exact .inl (Wr W.l G K);rintro N T Q ⟨h,p,rfl⟩;exact H N T h p
def Lc(f:BU):BP:=match f.rg with
 |some ⟨g,i::_,_⟩=>(g.ops[i]?).getD Af
 |_=>Af
def Lw(f:BU)(n:Nat)(a:AA (Nat×AG))(c:AA Nat):AK (AA (AK AG)×AB):=
 match f.rg with
 |some ⟨g,i::_,b⟩=>match g.ops[i]? with
  |some o=>match want g.ops f.σ.tm o with
   |some true=>match Jh o.op&&Rl n o.dst&&M4 g i (a.map (·.1))&&(!g.drawn||c.all (λk=>PR g i k b))&&Nat.ble 100 g.base with
    |true=>some (a.map (λd=>f.σ.hp d.1),f.σ.im)
    |false=>none
   |_=>none
  |none=>none
 |_=>none
def BU.act(f:BU)(h:AU):BU:=match f.rg with
 |some ⟨g,i::is,a⟩=>match g.ops[i]? with
  |some o=>⟨f.σ.Dd o.dst (g.key i) h,f.todo,some ⟨g,is,a⟩,f.cnt⟩
  |none=>f
 |_=>f
def AJO(w:AI)(o i)(h:i<w.heap.size):(w.alloc o).heap[i]? =w.heap[i]? :=by
 show(w.heap.push o)[i]? =_
 grind
def ANG{c R f need I z}(t)(a:Lw f c.n need t=some (need.map (λkb=>some kb.2),I))(u:HS c.P (Lc f) f.σ.tm (Cw f) need I z none)
 (y:∀h,z h->∀kb∈h.upd,kb.1∈t) (hwf:∀h,z h->h.wf I (Cw f) need []) (hnext:∀h,z h->GG c R (f.act h)):GG c R f:=by
 let⟨σ,todo,rg,cnt⟩:=f;unfold Lw at a;split at a
 case h_2=>cases a
 rename_i g i is Bj x;simp only at x;subst x;split at a
 case h_2=>cases a
 rename_i o C;split at a
 case h_2=>cases a
 rename_i hw;split at a
 case h_2=>cases a
 rename_i p;simp only[Pq,OQ]at a;let⟨F,G⟩:=a;simp only[Bt]at p;let⟨⟨⟨⟨c2,c3⟩,c4⟩,c5⟩,c10⟩:=p;subst G;have m:Lc ⟨σ,todo,some ⟨g,i::is,Bj⟩,cnt⟩=o:=by simp[Lc,C]
 rw[m]at u;intro q l;simp only at q l;have v:∀kb∈need,σ.hp kb.1=some kb.2:=λkb d=>(S6.1 F) kb d;refine⟨o,C,c3,q.Rr,.inr ⟨need,[],z,none,⟨hw,c2,u,v,(λk hk=>by cases hk),?_,?_,hwf⟩,?_,(λ_ e=>by cases e)⟩⟩;rw[G9];exact UI c4;intro hd J A h n hm;let⟨kb,d,e⟩:=BG.1 hm;have H:t.all (λk=>PR g i k Bj):=by rw[hd]at c5;simpa using c5
 exact Xv (Df.1 H kb.1 (y h n kb d)) J A e.symm;intro _ h n;have E:=hnext h n;simp only[BU.act,C]at E;have W:=hwf h n;have hs:∀k∈need.map (·.1),(σ.hp k).isSome:=λk hk=>by obtain⟨kb,d,rfl⟩:=BG.1 hk;rw[v kb d];rfl
 have r:∀k,(k∈need.map (·.1)++[]\/(Bf (g.key i) h.nb k).isSome)->(h.hp (g.key i) σ.hp k).isSome:=λk hk=>by rcases hk with hk|hk;rw[G9]at hk;exact MG (hs k hk);let⟨b,hb⟩:=Ky.1 hk;rw[O2 hb];rfl
 have D:WF ⟨σ.tm,h.hp (g.key i) σ.hp,h.J⟩:=by
  refine⟨λs k hk=>MG (l.1 s k hk),λk b k' hb hk=> ?_⟩;have hb:h.hp (g.key i) σ.hp k=some b:=hb;cases B:Bf (g.key i) h.nb k with
  |some b'=>
   rw[O2 B]at hb;cases hb;let⟨j,_,hj⟩:=UU B;exact r k' (W.n b (Cv hj) k' hk)
  |none=>
   rw[ABR B]at hb;by_cases hu:k∈h.upd.map (·.1);obtain⟨kb,d,rfl⟩:=BG.1 hu;rw[T4 d W.d]at hb;cases hb;exact r k' ((W.u kb d).2.2 k' hk);rw[T5 hu]at hb;exact MG (l.2 k b k' hb hk)
 refine E (q.tail λk=> ?_) (D.put λk hk=>r k (W.r k hk));show(St.put _ _ _).hp k=_\/_;rw[Jr];show h.hp (g.key i) σ.hp k=σ.hp k\/_;by_cases w:Dx (g.key i) k;exact .inr (.inl w);by_cases hu:k∈h.upd.map (·.1);obtain⟨kb,d,rfl⟩:=BG.1 hu;exact .inr (.inr (hs _ (W.u kb d).1));exact .inl (Wr W.l w hu)
structure Reads(I:AB)(need:AA (Nat×AG))(x:SV)(size m:Nat)(xs:AA AE):Prop where
 len:xs.length=m*size
 one:∀v∈xs,v.oneCell'
 at_:∀(ρ:Nat->Nat)(w:AI),Has w ρ need->Holds w I->(∃c,den ρ x=.slice none 0 c/\m=0)\/(∃ad c,den ρ x=.slice (some ad) m c/\∀j u,xs[j]? =some u->w.cell? (ad.add j)=some u)
def Re{w:AI}{b off}{arr:AY AE}{e c n}(h:w.heap[b]? =some (.cells arr e c)):∀j u,((arr.toList.drop off).take n)[j]? =some u->w.cell? ((⟨b,off,none⟩:Ac).add j)=some u:=λj u a=>by rw[Addr.add_mid];rw[GX]at a;split at a;rw[II]at a;simpa[World.cell?,h]using a;cases a
def AWE{I d a m c b f arr e g xs}(h:I b=some (.cells arr e g))(l:(arr.toList.drop f).take (m*a)=xs)(k:xs.length=m*a)(i:∀v∈xs,v.oneCell'):
 Reads I d (.v (.slice (some ⟨b,f,none⟩) m c)) a m xs:=
 ⟨k,i,λn w _ j=>.inr ⟨_,c,rfl,by rw[<-l];exact Re (j.1 b _ h)⟩⟩
def AWG{I d a m c b f arr e g xs}(h:I.B0 b=some (.cells arr e g))(l:(arr.toList.drop f).take (m*a)=xs)(k:xs.length=m*a)(i:∀v∈xs,v.oneCell'):
 Reads I d (.v (.slice (some ⟨b,f,none⟩) m c)) a m xs:=
 ⟨k,i,λn w _ j=>.inr ⟨_,c,rfl,by rw[<-l];exact Re (j.B0 b _ h)⟩⟩
def NG{I b d c a}:Reads I b (.v (.slice a 0 c)) d 0 []:=
 ⟨sP,nA,λg w _ _=>by
   cases a with
   |none=>exact .inl ⟨c,rfl,rfl⟩
   |some a=>exact .inr ⟨a,c,rfl,λj u e=>by simp at e⟩⟩
def D2{I b a m c k e}{xs:AA AE}(h:(k,AG.cells (xs.map .v) e)∈b)(f:xs.length=m*a)(d:∀v∈xs,v.oneCell'):Reads I b (.s k 0 m c) a m xs:=
 ⟨f,d,λg w hN _=>.inr ⟨_,c,rfl,by
   have:=Re (off:=0) (n:=m*a) (hN _ h _ rfl)
   grind[Fu]⟩⟩
def Nj(a:Nat->SV)(o:Op):AK (Av×SV×SV):=
 match o with
 | .call {callee:=.builtin .append,args:=args,argTypes:=ts}=>match args.toList,ts.toList with
   |[l,x],[t,t']=>match Nat.beq t t' with
    |true=>some (t,ev a l,ev a x)
    |false=>none
   |_,_=>none
 |_=>none
def Td{P}{o:BP}{k t l x}(h:Nj k o.op=some (t,l,x)){g}{a:Act}(i:∀x∈o.op.operands,a.eval x=den g (ev k x)){w m v}(s:(Builtin.append_ #[t,t] o.type #[den g l,den g x]).run P w=.ok v m):
 (execOp a.eval o).run P w=.ok (.value v) m:=by
 unfold Nj at h;split at h;rename_i c A e;split at h;rename_i j n B z b f;split at h;rename_i r;cases h;have d:c=#[j,n]:=KC.1 (by rw[b]);have p:A=#[t,z]:=KC.1 (by rw[f]);have q:=Fp r;have u:=i j (by simp[e,Op.operands,Call.operands,d]);have y:=i n (by simp[e,Op.operands,Call.operands,d]);simp[execOp,e,resolve,invoke,builtin,d,p,<-q,u,y,s];cases h;cases h;cases h
def V6(P:BX)(e:Av):Bool:=match P.info? e with|some i=>Nat.ble i.bytes 1024&&Nat.blt 0 i.size|none=>false
def TC(I:AB)(d n c:Nat)(e:Av)(upd:AA (Nat×AG))(f:AA AE):AU->Prop:=λh=>
 ∃a b,n<=a/\a<=maxLen/\b.length=(a-n)*c/\h= {r:=.s d 0 n a,upd:=upd,nb:=[.Aa (f++b) e],J:=I}
structure FE(P:BX)(L:Lay)(t e size:Nat):Prop where
 ty:∃z,L.get t=some ⟨1,z,.slice e⟩
 el:∃z k,L.get e=some ⟨size,z,k⟩/\z.length=size
 b:V6 P e
def KU{P L}(hL:Dg P L){o:Oper}{tm key need I t e size l x n m cap a olds news}(hT:FE P L t e size)(G:Nj tm o.op=some (t,l,x))
 (hl:l=.v (.slice a n cap)) (ho:Reads I need l size n olds) (hx:Reads I need x size m news) (ao:n<=cap) (u:cap<n+m) (aa:a=none->cap=0) (hB:n+m<=16777216):HS P o tm key need I (TC I key (n+m) size e [] (olds++news)) none:=by
 refine⟨?_⟩;intro C ac w he hN D aj ah ak ap next Q hnext _;let⟨⟨z0,af⟩,⟨ze,ke,Y,ag⟩,g⟩:=hT;let⟨i,d,z,hi,hd,hz,hk,ae,hzero⟩:=Ca (hL.get af);let⟨O,de,y,B,ai,N,am,q,s⟩:=Ca (hL.get Y);have X:=Ib hk;subst X;simp only at q;subst q;unfold V6 at g;rw[B]at g;simp only[Bool.and_eq_true]at g;have V:=Nat.le_of_ble_eq_true g.1;have an:0<n+m:=oG;have fits:(n+m)*O.bytes<=140737488355328:=by have:=Nat.mul_le_mul hB V;omega
 have cm:∀w:World,grownCap w (n+m) cap e<=maxLen:=λw=>grownCap_le_maxLen w (n+m) cap e lO;have fin:∀(v:World)(f:Nat),n+m<=f->f<=maxLen->v=(w.drew.alloc (.cells (olds.toArray++news.toArray++Builtin.zeroCells y.cells (f-(n+m))) e))->(Builtin.append_ #[t,t] o.type #[den C l,den C x]).run P w=.ok (.slice (some ⟨w.heap.size,0,none⟩) (n+m) f) v->o.wp P ac w next Q:=by
  intro v f h1 h2 k M;have hex:=Td (P:=P) G he M;unfold Oper.wp;rw[hex,Oper.upon_value];have F:y.cells.size=O.size:=by rw[<-Array.length_toList,<-s];exact ag
  have Z:(Builtin.zeroCells y.cells (f-(n+m))).toList.length=(f-(n+m))*O.size:=by rw[Array.length_toList,size_zeroCells,F]
  have hq:v.heap[w.heap.size]? =some (.cells (olds.toArray++news.toArray++Builtin.zeroCells y.cells (f-(n+m))) e (0,0)):=by rw[k];exact Qn w.drew _
  have ae:v.heap.size=w.heap.size+1:=by rw[k];show(w.heap.push _).size=_;rw[Array.size_push]
  have hold:∀b,b<w.heap.size->v.heap[b]? =w.heap[b]? :=λb g=>by rw[k];exact AJO w.drew _ b g
  obtain⟨H,R⟩:∃H:AU,H= {r:=.s key 0 (n+m) f,upd:=[],nb:=[.Aa ((olds++news)++(Builtin.zeroCells y.cells (f-(n+m))).toList) e],J:=I}:=⟨_,rfl⟩;have K:H.nb=[.Aa ((olds++news)++(Builtin.zeroCells y.cells (f-(n+m))).toList) e]:=by rw[R]
  have hA:After I C w v key (λ_=>w.heap.size) H:=by
   refine⟨by rw[k];rfl,by rw[k];rfl,by rw[k];rfl,oG,λb g _ _=>hold b g,(λkb al=>by grind),?_,(gR),?_,gR,λb E g=>by grind⟩;intro j b S;rw[K]at S;cases j with
   |zero=>
    simp at S;subst S;refine⟨?_,rfl,.inl (Nat.le_refl _)⟩;simp_all[AG.den]
   |succ j=>simp at S
   rw[R];exact⟨λb E g=>by rw[hold b (Dh (D.1 b E g))];exact D.1 b E g,λb E g=>by rw[hold b (Dh (D.2 b E g))];exact D.2 b E g⟩
  have A:den (H.Am C key (λ_=>w.heap.size)) H.r=.slice (some ⟨w.heap.size,0,none⟩) (n+m) f:=by have:=Kp (h:=H) (ρ:=C) (key:=key) (j:=0) (q:=λ_=>w.heap.size) (by rw[K];rfl);rw[show H.r=.s key 0 (n+m) f by rw[R]];simp only[den];simp only[Nat.add_zero]at this;rw[this]
  have h:=hnext rfl H v (λ_=>w.heap.size) ⟨f,_,h1,h2,Z,R⟩ hA;rw[A]at h;exact h
 subst hl;rcases hx.at_ C w hN D with⟨c,F,rfl⟩|⟨ad,c,F,p⟩;omega;rcases ho.at_ C w hN D with⟨c',A,U⟩|⟨T,c',A,holds⟩;simp only[den,Value.slice.injEq]at A;obtain⟨rfl,rfl,rfl⟩:=A;have W:=aa rfl;subst W;have ab:olds=[]:=List.eq_nil_of_length_eq_zero (by rw[ho.len,U];simp);subst ab;have hr:=run_append_nil (P:=P) w t o.type e O y hd B N ad m c news hx.len p oG oG gR;refine fin _ (grownCap w m 0 e) (by grind[grownCap_ge]) gR ?_ (by rw[F];simp only[den];rw[U];simpa using hr);rw[U];simp;simp only[den,Value.slice.injEq]at A;obtain⟨rfl,-,rfl⟩:=A;have hr:=run_append_grow (P:=P) w t o.type e O y hd B N T n cap olds ho.len holds ad m c news hx.len p u oG (growslice_fits u fits);exact fin _ (grownCap w (n+m) cap e) (grownCap_ge w _ _ e) (cm w) rfl (by rw[F];exact hr)
def JC{P L}(hL:Dg P L){o tm p k D I t e g x n m cap vs olds news}(hT:FE P L t e g)(W:Nj tm o.op=some (t,.s k 0 n cap,x))
 (hk:(k,.Aa vs e)∈D) (R:vs.length=cap*g) (ho:vs.take (n*g)=olds) (az:∀v∈olds,v.oneCell') (S:Reads I D x g m news) (O:n<=cap) (X:cap<=maxLen) (hB:n+m<=16777216):HS P o tm p D I (TC I p (n+m) g e [(k,.gone)] (olds++news)) none:=by
 refine⟨?_⟩;intro y ac w he hN hI ah ar av ay next Q hnext _;let⟨⟨z0,an⟩,⟨ze,ke,ai,aq⟩,K⟩:=hT;let⟨i,d,z,hi,hd,hz,aj,a0,hzero⟩:=Ca (hL.get an);let⟨s,de,z',F,au,ap,aw,C,G⟩:=Ca (hL.get ai);have ag:=Ib aj;subst ag;simp only at C;subst C;unfold V6 at K;rw[F]at K;simp only[Bool.and_eq_true]at K;have af:=Nat.le_of_ble_eq_true K.1;have fits:(n+m)*s.bytes<=140737488355328:=by have:=Nat.mul_le_mul hB af;omega
 have cm:∀w:World,grownCap w (n+m) cap e<=maxLen:=λw=>grownCap_le_maxLen w (n+m) cap e lO;have A:=hN _ hk _ rfl;simp only at A;have ab:olds.length=n*s.size:=by rw[<-ho,List.length_take,R];have:=Nat.mul_le_mul_right s.size O;omega
 have fin:∀(E:World)(a q:Nat)(f:List Value),n+m<=a->a<=maxLen->f.length=(a-(n+m))*s.size->E.os=w.os->E.tape=w.tape->E.output=w.output->w.heap.size<=E.heap.size->(∀b,b<w.heap.size->y k≠b->E.heap[b]? =w.heap[b]?)->
  E.heap[q]? =some (.cells ((olds++news)++f).toArray e (0,0))->(w.heap.size<=q\/q=y k)->(Builtin.append_ #[t,t] o.type #[den y (.s k 0 n cap),den y x]).run P w=.ok (.slice (some ⟨q,0,none⟩) (n+m) a) E->o.wp P ac w next Q:=by
  intro E a q f h1 h2 U T e2 e3 e4 N hq ae aa;have hex:=Td (P:=P) W he aa;unfold Oper.wp;rw[hex,Oper.upon_value];obtain⟨H,V⟩:∃H:AU,H= {r:=.s p 0 (n+m) a,upd:=[(k,.gone)],nb:=[.Aa ((olds++news)++f) e],J:=I}:=⟨_,rfl⟩;have Z:H.nb=[.Aa ((olds++news)++f) e]:=by rw[V]
  have ao:H.upd=[(k,.gone)]:=by rw[V]
  have hA:After I y w E p (λ_=>q) H:=by
   refine⟨T,e2,e3,e4,(by simp_all),?_,?_,(gR),?_,gR,λb o' K=>by grind⟩;intro kb M o' am;rw[ao]at M;simp at M;subst M;cases am;intro j b U;rw[Z]at U;cases j with
   |zero=>
    simp at U;subst U;exact⟨by grind[AG.den],rfl,(by simp_all)⟩
   |succ j=>simp at U
   rw[V];exact hI.keep (ah _ hk rfl) N
  have e5:den (H.Am y p (λ_=>q)) H.r=.slice (some ⟨q,0,none⟩) (n+m) a:=by have:=Kp (h:=H) (ρ:=y) (key:=p) (j:=0) (q:=λ_=>q) (by rw[Z];rfl);rw[show H.r=.s p 0 (n+m) a by rw[V]];simp only[den];simp only[Nat.add_zero]at this;rw[this]
  have h:=hnext rfl H E (λ_=>q) ⟨a,f,h1,h2,U,V⟩ hA;rw[e5]at h;exact h
 have ax:=Dh A;rcases S.at_ y w hN hI with⟨c,T,rfl⟩|⟨ad,c,T,B⟩;have ak:news=[]:=List.eq_nil_of_length_eq_zero (by rw[S.len];simp);subst ak;refine fin w cap (y k) (vs.drop (n*s.size)) O X (by grind[Nat.sub_mul]) rfl rfl rfl (Nat.le_refl _) (λ_ _ _=>rfl) (by grind[List.take_append_drop]) (.inr rfl) ?_;rw[T];simp[den,Builtin.append_,run_underlying hd,sizeOf,typeInfo,F,Builtin.lenOf,O,Builtin.firstCells,storeCells];by_cases l:n+m<=cap;have Y:n*s.size+news.length<=vs.toArray.size:=by have:=Nat.mul_le_mul_right s.size l;rw[S.len];simp only[List.size_toArray,R];rw[Nat.add_mul]at this;exact this
 have hr:=run_append_room (P:=P) w t o.type e s hd F (y k) n cap vs.toArray A ad m c news S.len B S.one l Y;refine fin (w.setRow (y k) (vs.toArray.toList.take (n*s.size)++news++vs.toArray.toList.drop (n*s.size+news.length)).toArray) cap (y k) (vs.drop (n*s.size+news.length)) l X ?_ rfl rfl rfl (by rw[BB.setRow];exact Nat.le_refl _) (λb _ al=>G4 al) ?_ (.inr rfl) (by rw[T];exact hr);rw[List.length_drop,R,S.len,<-Nat.add_mul,Nat.sub_mul];rw[Js A];simp[ho];have holds:∀j u,olds[j]? =some u->w.cell? ((⟨y k,0,none⟩:Addr).add j)=some u:=by have:=Re (off:=0) (n:=n*s.size) A;simp only[List.drop_zero]at this;rw[<-ho];exact this
 have hr:=run_append_grow (P:=P) w t o.type e s z' hd F ap ⟨y k,0,none⟩ n cap olds ab holds ad m c news S.len B oG oG (growslice_fits oG fits);have e2:z'.cells.size=s.size:=by rw[<-Array.length_toList,<-G];exact aq
 refine fin (w.drew.alloc (.cells (olds.toArray++news.toArray++Builtin.zeroCells z'.cells (grownCap w (n+m) cap e-(n+m))) e)) (grownCap w (n+m) cap e) w.heap.size (Builtin.zeroCells z'.cells (grownCap w (n+m) cap e-(n+m))).toList (grownCap_ge w _ _ e) (cm w) (by rw[Array.length_toList,size_zeroCells,e2]) rfl rfl rfl ?_ (λb K _=>AJO w.drew _ b K) ?_ (.inl (Nat.le_refl _)) (by rw[T];exact hr);show w.heap.size<=(w.heap.push _).size;rw[Array.size_push];omega;have:=Qn w.drew (.cells (olds.toArray++news.toArray++Builtin.zeroCells z'.cells (grownCap w (n+m) cap e-(n+m))) e);refine Eq.trans this ?_;congr 2;apply Array.ext';simp[List.append_assoc]
mutual
def SV.BW(k b:Nat):SV->SV
 | .v x=>.v x
 | .p j o=>match Nat.beq j k with|true=>.v (.pointer (some ⟨b,o,none⟩))|false=>.p j o
 | .s j o n c=>match Nat.beq j k with|true=>.v (.slice (some ⟨b,o,none⟩) n c)|false=>.s j o n c
 | .m j=>match Nat.beq j k with|true=>.v (.map (some b))|false=>.m j
 | .g l=>.g (F7 k b l)
 | .t l=>.t (F7 k b l)
 | .fn f x y=>.fn f (F7 k b x) (F7 k b y)
def F7(k b:Nat):AA SV->AA SV
 |[]=>[]
 |x::l=>x.BW k b::F7 k b l
end
mutual
theorem Rk{ρ k b}(h:ρ k=b):∀x,den ρ (x.BW k b)=den ρ x
 | .v _=>rfl
 | .p j o=>by grind[SV.BW,den,Nat.eq_of_beq_eq_true]
 | .s j o n c=>by grind[SV.BW,den,Nat.eq_of_beq_eq_true]
 | .m j=>by grind[SV.BW,den,Nat.eq_of_beq_eq_true]
 | .g l=>by simp only[SV.BW,den];rw[QF h l]
 | .t l=>by simp only[SV.BW,den];rw[QF h l]
 | .fn f x y=>by simp only[SV.BW,den];rw[QF h x,QF h y]
theorem QF{ρ:Nat->Nat}{k b:Nat}(h:ρ k=b): ∀(l:List SV),As ρ (F7 k b l)=As ρ l
 |[]=>rfl
 |x::l=>by simp only[F7,As];rw[Rk h x,QF h l]
end
mutual
theorem R4{k b}:∀x:SV,∀j∈(x.BW k b).keys,j∈x.keys
 | .v _,j,h=>h
 | .p i o,j,h=>by simp only[SV.BW]at h;split at h;cases h;exact h
 | .s i o n c,j,h=>by simp only[SV.BW]at h;split at h;cases h;exact h
 | .m i,j,h=>by simp only[SV.BW]at h;split at h;cases h;exact h
 | .g l,j,h=>QZ l j h
 | .t l,j,h=>QZ l j h
 | .fn f x y,j,h=>by simp only[SV.BW,SV.keys,List.mem_append]at h⊢;exact h.imp (QZ x j) (QZ y j)
theorem QZ{k b}:∀l:List SV,∀j∈Ax (F7 k b l),j∈Ax l
 |[],j,h=>h
 |x::l,j,h=>by simp only[F7,Ax,List.mem_append]at h⊢;exact h.imp (R4 x j) (QZ l j)
end
def AG.BW(k b:Nat):AG->AG
 | .cells l e=>.cells (F7 k b l) e
 | .Aa l e=>.Aa l e
 | .obj o=>.obj o
 | .DZ a vs=>.DZ a (F7 k b vs)
 | .gone=>.gone
theorem AG.Rk{ρ k b}(h:ρ k=b)(x:AG):(x.BW k b).den ρ=x.den ρ:=by
 cases x with
 |cells l e=>grind[AG.BW,AG.den,QF]
 |DZ a c=>grind[AG.BW,AG.den,QF]
 |_=>rfl
theorem AG.R4{k b}(x:AG):∀j∈(x.BW k b).keys,j∈x.keys:=by
 cases x with
 |cells l e=>exact QZ l
 |DZ c a=>exact QZ a
 |_=>exact λj h=>h
theorem AG.AIY{k b}(x:AG):(x.BW k b).live=x.live:=by cases x<;>rfl
def St.BW(a:St)(k b:Nat)(J:AB):St:=
 {tm:=λs=>(a.tm s).BW k b,hp:=λj=>match Nat.beq j k with|true=>some .gone|false=>match a.hp j with|some x=>some (x.BW k b)|none=>none,im:=J}
def Tk:AG->AK (AA AE×Av)
 | .Aa l e=>some (l,e)
 | .cells l e=>match valsOf l with|some a=>some (a,e)|none=>none
 |_=>none
where valsOf:AA SV->AK (AA AE)
 |[]=>some []
 | .v x::l=>match valsOf l with|some r=>some (x::r)|none=>none
 |_=>none
theorem AL0:∀ {l:AA SV} {a:AA AE},Tk.valsOf l=some a->l=a.map .v
 |[],a,h=>by cases h;rfl
 |x::l,a,h=>by cases x<;>simp[Tk.valsOf]at h;split at h;rename_i r b;cases h;rw[AL0 b];rfl;cases h
theorem AFJ{b a e}(h:Tk b=some (a,e))(f):b.den f=some (.cells a.toArray e (0,0))/\b.live:=by cases b<;>simp[Tk]at h;rename_i l g;split at h;rename_i d c;simp at h;obtain⟨rfl,rfl⟩:=h;rw[AL0 c];exact⟨by simp[AG.den,Fu],rfl⟩;cases h;obtain⟨rfl,rfl⟩:=h;exact⟨rfl,rfl⟩
def ANO(a:St)(A:AA Nat):Bool:=A.all λk=>match a.hp k with|some b=>b.live|none=>false
def QT(f:BU)(A:AA Nat)(k:Nat):AK (AA AE×Av):=
 match f.rg,f.σ.hp k,ANO f.σ A&& !M8 k A with
 |none,some b,true=>Tk b
 |_,_,_=>none
def BU.BW(f:BU)(k b:Nat)(J:AB):BU:={f with σ:=f.σ.BW k b J}
theorem AQu{c R f}(k){T e}(t:QT f c.A k=some (T,e))(h:∀b J,f.σ.im.le J->J.own=f.σ.im.own->J b=some (.cells T.toArray e (0,0))->GG c R (f.BW k b J)):GG c R f:=by
 let⟨p,aa,rg,cnt⟩:=f;unfold QT at t;split at t
 case h_2=>cases t
 rename_i b0 O Q m;simp only at O Q m;subst O;simp[Bt,KD]at m;have N:k∉c.A:=λhm=>by have:=UR hm;rw[this]at m;cases m.2
 intro K l a w d;let⟨L,G⟩:=AFJ t l;have z:Fc p.hp k:=⟨b0,Q,G⟩;have W:=d.hp k b0 _ Q L;have V:p.im (l k)=none:=(d.dj k z).1;have Y:c.w0.heap.size<=l k:=by
  rcases d.nw k z with q|⟨S,E,q⟩;exact q;exfalso;have P:=Df.1 m.1 S E;cases X:p.hp S with
  |none=>rw[X]at P;cases P
  |some b1=>
   rw[X]at P;have:=d.inj k S z ⟨b1,X,P⟩ (by rw[q,<-d.ad S E]);rw[this]at N;exact N E
 let J:AB:=⟨λn=>match Nat.beq n (l k)with|true=>some (.cells T.toArray e (0,0))|false=>p.im n,p.im.own⟩;have I:J (l k)=some (.cells T.toArray e (0,0)):=by show(match Nat.beq (l k) (l k)with|true=>_|false=>_)=_;simp
 have H:∀n,n≠l k->J n=p.im n:=λn g=>by
  have:Nat.beq n (l k)=false:=by
   cases e:Nat.beq n (l k)with
   |false=>rfl
   |true=>exact(g (Fp e)).elim
  show(match Nat.beq n (l k)with|true=>_|false=>_)=_;rw[this]
 have hle:p.im.le J:=⟨λn o g=>by
  rw[H n (λe=>by rw[e,V]at g;cases g)];exact g,λn o g=>⟨g.own,by
  rw[H n (λe=>by have:=(d.dj k z).2;rw[<-e,g.own]at this;cases this)];exact g.at_⟩⟩
 have D:∀j x,(p.BW k (l k) J).hp j=some x->(j=k/\x=.gone)\/(j≠k/\∃y,p.hp j=some y/\x=y.BW k (l k)):=λj x u=>by
  simp[St.BW]at u;split at u;rename_i e;cases u;exact .inl ⟨Fp e,rfl⟩;rename_i e;have r:j≠k:=λq=>by rw[q]at e;simp at e
  split at u;rename_i y C;cases u;exact .inr ⟨r,y,C,rfl⟩;cases u
 have A:∀j,(p.hp j).isSome->((p.BW k (l k) J).hp j).isSome:=λj v=>by simp[St.BW];split;rfl;let⟨y,C⟩:=Ky.1 v;rw[C];rfl
 have B:∀j,Fc (p.BW k (l k) J).hp j->j≠k/\Fc p.hp j:=λj ⟨x,u,F⟩=>by rcases D j x u with⟨_,rfl⟩|⟨r,y,C,rfl⟩;cases F;exact⟨r,y,C,by rw[AG.AIY]at F;exact F⟩
 refine h (l k) J hle rfl I ⟨λj v=> ?_,K.2⟩ l a w ?_;show(p.BW k (l k) J).hp j=none;have U:p.hp j=none:=K.1 j v;simp[St.BW];split;rename_i e;rw[Fp e,Q]at U;cases U;rw[U];refine{hp:= ?_,inj:= ?_,kb:= ?_,im:=⟨?_,d.im.2⟩,fs:= ?_,Es:=d.Es,dj:= ?_,ad:=d.ad,nw:=λj v=>d.nw j (B j v).2,fr:=d.fr,sz:=d.sz,os:=d.os,tape:=d.tape,output:=d.output,size:=d.size,nd:=d.nd,tm:= ?_,kd:= ?_};intro j x o u Z;rcases D j x u with⟨_,rfl⟩|⟨r,y,C,rfl⟩;cases Z;rw[AG.Rk rfl]at Z;exact d.hp j y o C Z;intro i j hi v e;exact d.inj i j (B i hi).2 (B j v).2 e;intro j x j' u M;rcases D j x u with⟨_,rfl⟩|⟨r,y,C,rfl⟩;cases M;exact A j' (d.kb j y j' C (AG.R4 y j' M));intro n o g;have g:J n=some o:=g;by_cases e:n=l k;rw[e,I]at g;cases g;rw[e];exact W;rw[H n e]at g;exact d.im.1 n o g;intro n o g;have g:J n=some o:=g;by_cases e:n=l k;right;rw[e];exact Y;rw[H n e]at g;exact d.fs n o g;intro j v;let⟨r,F⟩:=B j v;refine⟨?_,(d.dj j F).2⟩;show J (l j)=none;rw[H _ (λe=>r (d.inj j k F z e))];exact(d.dj j F).1;intro s;rw[d.tm s];exact(AX.Rk rfl (p.tm s)).symm;intro s j v;exact A j (d.kd s j (AX.R4 (p.tm s) j v))
def OA:AA (Nat×SV)->(Nat->AE)->Nat->SV
 |[],T=>λs=>.v (T s)
 |(i,x)::l,T=>upd (OA l T) i x
def W9:AA (Nat×SV)->AA Nat
 |[]=>[]
 |(_,x)::l=>x.keys++W9 l
theorem ACs:∀(l:AA (Nat×SV))(T:Nat->AE)(s:Nat),(OA l T s=.v (T s))\/∃p∈l,p.1=s/\OA l T s=p.2
 |[],T,s=>.inl rfl
 |(i,x)::l,T,s=>by
  simp only[OA];by_cases e:s=i;simp_all[upd_same];rw[upd_ne _ _ e];rcases ACs l T s with h|⟨p,c,a,b⟩;exact .inl h
  grind
theorem AHv:∀ {l:AA (Nat×SV)} {p:Nat×SV} {k:Nat},p∈l->k∈p.2.keys->k∈W9 l
 |[],_,_,h,_=>by cases h
 |(i,x)::l,p,k,h,hk=>by
  simp[W9,BA];rcases BD.1 h with e|e
  grind
  exact .inr (AHv e hk)
def AJ5(a:AA (Nat×Nat))(l:AA (Nat×SV)):AA SV:=l.map λp=>p.2.Am (AT a)
def Qe(A:AA Nat)(c:AA (Nat×Nat))(b:AA (Nat×SV))(a:AA (Nat×AG))(cnt:Nat):Bool:=
 Ew (W9 b) (a.map (·.1))&&Ew (Gy a) (a.map (·.1))&&JL cnt (a.map (·.1))&&JL cnt A&&nodupB (a.map λd=>AT c d.1)&&A.all (λk=>Nat.beq (AT c k) k)&&liveOr a
where liveOr (_:AA (Nat×AG)):Bool:=true
theorem AZK{c R f}(n d g J cnt){t}
 (z:f.rg.isNone) (N:d.map (λp=>f.σ.tm p.1)=AJ5 n d) (L:g.map (λkb=>f.σ.hp (AT n kb.1))=g.map (λkb=>some (kb.2.Am (AT n)))) (K:f.σ.im=J) (m:f.todo=t) (y:Qe c.A n d g cnt)
 (h:∀T,GG c R ⟨⟨OA d T,H4 g,J⟩,t,none,cnt⟩):GG c R f:=by
 let⟨u,G,rg,H⟩:=f;simp only[Ml]at z;simp only at N L K m;subst z K m;simp only[Qe,Bt]at y;let⟨⟨⟨⟨⟨⟨o1,o2⟩,o3⟩,o4⟩,o5⟩,o6⟩,_⟩:=y;intro V A a w l;have r:∀ {O:AA Nat},Ew O (g.map (·.1))->∀k∈O,(H4 g k).isSome:=λY k i=>ABP (US (Df.1 Y k i));have x:∀k b,H4 g k=some b->u.hp (AT n k)=some (b.Am (AT n)):=λk b i=>(S6.1 L) (k,b) (O1 i);have C:=Ub o5;have U:∀k∈c.A,AT n k=k:=λk i=>Fp (Df.1 o6 k i);have q:∀k,Fc (H4 g) k->Fc u.hp (AT n k):=λk ⟨b,i,W⟩=>⟨_,x k b i,by rw[AG.R9];exact W⟩;refine h (λs=>den A (u.tm s)) ⟨λk i=> ?_,R5 o4⟩ (λk=>A (AT n k)) a w ?_;show H4 g k=none;cases e:H4 g k with
 |none=>rfl
 |some b=>
  have:=R5 o3 k (BG.2 ⟨_,O1 e,rfl⟩)
  grind
 refine{hp:= ?_,inj:= ?_,kb:= ?_,im:=l.im,fs:=l.fs,Es:=l.Es,dj:=λk i=>l.dj _ (q k i),ad:=λk i=>by rw[U k i];exact l.ad k i,nw:=λk i=>l.nw _ (q k i),fr:=l.fr,sz:=l.sz,os:=l.os,tape:=l.tape,output:=l.output,size:=l.size,nd:=l.nd,tm:= ?_,kd:= ?_};intro k b o i X;exact l.hp _ _ o (x k b i) (by rw[AG.Nn];exact X);intro j k M i e;have v:=l.inj _ _ (q j M) (q k i) e;let⟨bj,D,_⟩:=M;let⟨bk,E,_⟩:=i;let⟨Z,B,P⟩:=Pn (O1 D);let⟨i2,S,Q⟩:=Pn (O1 E);have:=Uc C (i:=Z) (j:=i2) (by simpa using B) (by simpa using S) (by simp[P,Q,v])
 grind
 intro k b k' i F;exact r o2 k' (UW (O1 i) F);intro s;rcases ACs d (λs=>den A (u.tm s)) s with e|⟨p,hp,I,v⟩;show _=den _ (OA d _ s);rw[e,l.tm s];rfl;show _=den _ (OA d _ s);have B:u.tm p.1=p.2.Am (AT n):=(S6.1 N) p hp;rw[v,l.tm s,<-I,B,Nn];intro s k i;have i:k∈(OA d (λs=>den A (u.tm s)) s).keys:=i;rcases ACs d (λs=>den A (u.tm s)) s with e|⟨p,hp,I,v⟩;rw[e]at i;cases i;rw[v]at i;exact r o1 k (AHv hp i)
def Nz:AA Item->AA Item
 | .code (.loop b)::k=>.code b::.inLoop b::k
 |t=>t
def UO:AA Item->AA Item
 | .inLoop b::k=>.code b::.inLoop b::k
 |t=>t
def BU.to(f:BU)(t:AA Item):BU:=⟨f.σ,t,f.rg,f.cnt⟩
theorem ATX{c R f}(b:f.rg.isNone)(h:GG c R (f.to (Nz f.todo))):GG c R f:=by let⟨k,d,j,cnt⟩:=f;simp[Ml]at b;subst b;simp[BU.to]at h;unfold Nz at h;split at h;intro e g a w r;exact LA.steps (λi=>.one step_loop) (h e g a w r);exact h
theorem ATY{c R f}(b:f.rg.isNone)(h:GG c R (f.to (UO f.todo))):GG c R f:=by let⟨k,d,j,cnt⟩:=f;simp[Ml]at b;subst b;simp[BU.to]at h;unfold UO at h;split at h;intro e g a w r;exact LA.steps (λi=>.one step_inLoop) (h e g a w r);exact h
structure Hd where
 By:AA (Nat×SV)
 Bu:AA (Nat×AG):=[]
 J:AB
def Hd.Og(s:Hd)(T:Nat->AE)(a:AA Item)(cnt:Nat):BU:=⟨⟨OA s.By T,H4 s.Bu,s.J⟩,a,none,cnt⟩
def Ot(f:BU)(b:AA (Nat×Nat))(s:Hd):Bool×AA SV×AA (AK AG)×AB:=(f.rg.isNone,s.By.map (λp=>f.σ.tm p.1),s.Bu.map (λa=>f.σ.hp (AT b a.1)),f.σ.im)
def Ou(a:AA (Nat×Nat))(s:Hd):Bool×AA SV×AA (AK AG)×AB:=(true,AJ5 a s.By,s.Bu.map (λb=>some (b.2.Am (AT a))),s.J)
theorem AGt{c R f}(d s cnt){todo}(a:Ot f d s=Ou d s)(b:f.todo=todo)(e:Qe c.A d s.By s.Bu cnt)(h:∀T,GG c R (s.Og T todo cnt)):GG c R f:=by simp only[Ot,Ou,OQ]at a;let⟨g,i,j,k⟩:=a;exact AZK d s.By s.Bu s.J cnt g i j k b e h
theorem ATZ{c R f}{g:Type}(P:g->Prop)(m:g->Nat)(b:g->Hd)(cnt:Nat)(e:List (Nat×Nat))(d:g)(o:P d)(a:Ot f e (b d)=Ou e (b d))(h:Qe c.A e (b d).By (b d).Bu cnt)
 (round:∀i,P i->(∀j,P j->m j<m i->∀T,GG c R ((b j).Og T (Nz f.todo) cnt))->∀T,GG c R ((b i).Og T (Nz f.todo) cnt)):GG c R f:=by
 have k:f.rg.isNone:=by simp only[Ot,Ou,Prod.mk.injEq]at a;exact a.1
 refine ATX k (AGt e (b d) cnt (todo:=Nz f.todo) (f:=f.to (Nz f.todo)) a rfl h ?_);have l:∀n i,m i=n->P i->∀T,GG c R ((b i).Og T (Nz f.todo) cnt):=by
  intro n;induction n using Nat.strongRecOn with
  |_ n p=>grind
 exact l _ d rfl o
theorem ANj{c R f}(e s cnt){b}(a:Ot f e s=Ou e s)(d:UO f.todo=b)(g:Qe c.A e s.By s.Bu cnt)(h:∀T,GG c R (s.Og T b cnt)):GG c R f:=by
 have i:f.rg.isNone:=by simp only[Ot,Ou,OQ]at a;exact a.1
 exact ATY i (AGt e s cnt (f:=f.to (UO f.todo)) a d g h)
theorem AVI{P F B n I w t A d z x σ u J}
 (L:IF σ A=some u) (C:σ.im=J) (G:Ew (Gy u) A) (s:z d {r:=.v undef,upd:=u,J:=J}):LB (ctx P F B n I w t A) (Rf P I t d w z (some x)) x σ:=by
 refine⟨rfl,λv Q R=> ?_⟩;let⟨M,N⟩:=ADL L;subst C;have a:∀k,Bf d ([]:AA AG) k=none:=λk=>by grind[Bf]
 refine⟨_,λ_=>0,s,⟨R.os,R.tape,R.output,R.sz,?_,?_,λj b f=>by simp at f,λi j E=>by simp at E,R.im,?_,?_⟩,rfl⟩;intro b e p D;refine R.fr b e (λk m=> ?_) D;let⟨O,h⟩:=N k m;exact p _ h;intro c g o H;let⟨y,K⟩:=M c g;rw[Ej (a _)];rw[show t c.1=v c.1 from(R.ad c.1 y).symm];refine R.hp c.1 y c.2 o K ?_;rw[<-H];exact(AG.JE c.2 λk l=>by rw[Ej (a _)];exact(R.ad k (US (Df.1 G k (UW g l)))).symm).symm
 intro b o e;rcases R.fs b o e with q|q;exact .inl q;exact .inr ⟨q,λj f=>by simp at f⟩;intro b o e;exact(R.Es b o e).imp id λq=>⟨q,λj f=>by simp at f⟩
def Cy{a:Nat->SV}{l:AA (Nat×SV)}(h:∀p∈l,a p.1=p.2){s:Nat}{x:SV}(b:(s,x)∈l):a s=x:=h _ b
def Hb{P}{L:Lay}(y:Dg P L){t a b M k off n c i:Nat}{e N}{ty:Ty}{I}(s:L.get t=some ⟨M,N,.slice e⟩)(r:L.get e=some ty)(F:i<n):
 ∀g u (o:BP),o.op=.indexAddr t (.tmp a) (.tmp b)->(∀p∈[(a,SV.s k off n c),(b,SV.v (.int .i64 (Int.ofNat i)))],u p.1=p.2)->LS P o u g [] I (.p k (off+i*ty.n)) none:=by
 intro g u o q f;have B:=Cy f (s:=a) (x:=.s k off n c) sP;have C:=Cy f (s:=b) (x:=.v (.int .i64 (Int.ofNat i))) sP;let⟨T,d,z,G,D,S,H,R,hzero⟩:=Ca (y.get s);let⟨U,Q,V,l,E,K,J,m,h⟩:=Ca (y.get r);have j:=Ib H;subst j;intro W O w A _ _ _ _;refine⟨w,?_,BB.refl w⟩;have v:=A (.tmp a) xO;have x:=A (.tmp b) xO;simp only[ev,B,C]at v x;have:(0:Int)<=(i:Int)/\(i:Int)<(n:Int):=oG;simp[execOp,q,Instr.indexAt,v,x,den,asIntOf,run_underlying D,F,sizeOf,typeInfo,l,m,Addr.add_mid]
def AL1{w b k a e}(h:Has w b [(k,.Aa a e)])(j):w.cell? ⟨b k,j,none⟩=a[j]? :=by have:=h (k,.Aa a e) sP _ rfl;simp only at this;simp[World.cell?,this]
def AIe{P}{L:Lay}(x:Dg P L){t a k off}{ty:Ty}{vs xs:AA AE}{e I}(l:L.get t=some ty)(f:ty.k.agg)(s:(vs.drop off).take ty.n=xs)(H:off+ty.n<=vs.length):
 ∀c m (o:BP),o.op=.load t (.tmp a)->(∀p∈[(a,SV.p k off)],m p.1=p.2)->LS P o m c [(k,.Aa vs e)] I (.g (xs.map .v)) none:=by
 intro c m o r h;have y:=Cy h (s:=a) (x:=.p k off) sP;let⟨i,d,z,E,B,J,F,q,hzero⟩:=Ca (x.get l);intro u G w C D _ _ _;refine⟨w,?_,BB.refl w⟩;have n:=C (.tmp a) xO;simp only[ev,y,den]at n;have A:w.rangeAt (u k) off xs:=λj v b=>by rw[AL1 D];rw[<-s,GX]at b;split at b;rw[II]at b;exact b;cases b
 have g:d.isRow:=by rw[<-PY F]at f;cases d<;>simp_all[TypeDesc.isRow]
 have:=run_loadVar_mid (P:=P) w (u k) off t _ d A B g (by rw[E];simp[<-s,q];rw[<-q];omega);simp only[execOp,r,Sem.run_bind,n,Instr.loadAt,Instr.sureAddr,Sem.run_pure,Result.andThen_ok,this];simp[den,Fu]
def MM{P}{L:Lay}(r:Dg P L){t a k off}{ty:Ty}{vs x e I}(j:L.get t=some ty)(g:ty.k.agg=false)(B:vs[off]? =some x):
 ∀f l (o:BP),o.op=.load t (.tmp a)->(∀p∈[(a,SV.p k off)],l p.1=p.2)->LS P o l f [(k,.Aa vs e)] I (.v x) none:=by
 intro f l o n h;have s:=Cy h (s:=a) (x:=.p k off) sP;let⟨i,d,z,E,u,G,A,F,hzero⟩:=Ca (r.get j);intro C D w v y _ _ _;refine⟨w,?_,BB.refl w⟩;have m:=v (.tmp a) xO;simp only[ev,s,den]at m;have c:(isAgg t).run P w=.ok false w:=by have q:=PY A;rw[g]at q;simp only[isAgg,Sem.run_bind,run_underlying u,Result.andThen_ok];cases d<;>simp_all
 have b:w.cell? ⟨C k,off,none⟩=some x:=by rw[AL1 y,B]
 simp only[execOp,n,Sem.run_bind,m,Instr.loadAt,Instr.sureAddr,Sem.run_pure,Result.andThen_ok,loadVar,c];simp[load,Sem.run,b,den]
def AHT{P L}(X:Dg P L){o u s t k off ad x ty vs cs e g I}(F:o.op=.store t ad x)(Y:ev u ad=.p k off)(hx:(ev u x).cs=some (cs.map .v))(K:L.get t=some ty)(hn:cs.length=ty.n)(hl:off+cs.length<=vs.length)
 (V:∀v∈cs,v.oneCell') (R:(k,.Aa vs e)∈g):HS P o u s g I (λh=>h= {r:=.v undef,upd:=[(k,.Aa (splice vs off cs) e)],J:=I}) none:=by
 let⟨i,d,z,E,hd,hz,aa,ab,hzero⟩:=Ca (X.get K);refine⟨?_⟩;intro ρ a w N hh W D O Z ac next Q hnext _;have B:=hh _ R _ rfl;simp only at B;have A:ad∈o.op.operands:=xO
 have M:x∈o.op.operands:=xO
 have q:=run_storeCells_at P (ρ k) off e cs 0 vs.toArray w B sO V;have f:(den ρ (ev u x)).cells=cs.toArray:=by rw[SV.Rh hx ρ,Fu]
 have U:(w.setRow (ρ k) (vs.take (off+0)++cs++vs.drop (off+0+cs.length)).toArray)=w.setRow (ρ k) (splice vs off cs).toArray:=by rw[Nat.add_zero];rfl
 have G:(storeVar t ⟨ρ k,off,none⟩ (den ρ (ev u x))).run P w=.ok () (w.setRow (ρ k) (splice vs off cs).toArray):=by
  rw[<-U];unfold storeVar;rw[f];have H:(sizeOf t).run P w=.ok i.size w:=by simp[sizeOf,typeInfo,E]
  have l: ¬cs.toArray.size≠i.size:=sO
  simp only[Sem.run_bind,H,Result.andThen_ok,l,if_false];exact q
 have hex:(execOp a.eval o).run P w=.ok .skip (w.setRow (ρ k) (splice vs off cs).toArray):=by have y:=N ad A;rw[Y]at y;simp only[den]at y;simp[execOp,F,Instr.storeAt,y,N x M,Instr.sureAddr,G]
 unfold Oper.wp;rw[hex,Oper.upon_skip];refine hnext rfl _ _ (λ_=>0) rfl ⟨rfl,rfl,rfl,by rw[BB.setRow];exact Nat.le_refl _,λb c l _=>G4 (l (k,.Aa (splice vs off cs) e) sP),?_,λj b hj=>by simp at hj,λi j E=>by simp at E,?_,λb S c=>.inl c,λb S c=>Gg c⟩;intro kb m S p;simp at m;subst m;have T:AU.Am {r:=.v undef,upd:=[(k,AG.Aa (splice vs off cs) e)],J:=I} ρ s (λ_=>0)=ρ:=by funext n;exact Ej (by unfold Bf;split<;>rfl)
 rw[T]at p⊢;cases p;exact Js B;exact W.keep (D _ R rfl) λb _ C=>G4 C
def AId{P L}(B:Dg P L){t a b O k n c i:Nat}{e Q ty I}(u:L.get t=some ⟨O,Q,.slice e⟩)(s:L.get e=some ty)(H:i<=n):
 ∀g v (o:BP),o.op=.slice t (.tmp a) (some (.tmp b)) none none->(∀p∈[(a,SV.s k 0 n c),(b,SV.v (.int .i64 (Int.ofNat i)))],v p.1=p.2)->LS P o v g [] I (.s k (if c=i then 0 else i*ty.n) (n-i) (c-i)) none:=by
 intro g v o r f;have D:=Cy f (s:=a) (x:=.s k 0 n c) sP;have E:=Cy f (s:=b) (x:=.v (.int .i64 (Int.ofNat i))) sP;let⟨V,d,z,J,F,U,K,T,hzero⟩:=Ca (B.get u);let⟨W,S,X,m,G,N,M,q,j⟩:=Ca (B.get s);have l:=Ib K;subst l;intro Y R w C _ _ _ _;refine⟨w,?_,BB.refl w⟩;have x:=C (.tmp a) xO;have y:=C (.tmp b) xO;simp[ev,D,E]at x y;have A:(0:Int)<=(i:Int)/\(i:Int)<=(n:Int):=oG;simp[execOp,r,Instr.sliceAt,Instr.slice,x,y,den,run_underlying F,Instr.sliceBounds,run_sliceBound,A.1,A.2,H,sizeOf,typeInfo,m,q,Result.andThen];split<;>simp[Addr.add];intro h;exact h.symm
def AIg{P L}(A:Dg P L){t a b M k n c i:Nat}{e N ty I}(s:L.get t=some ⟨M,N,.slice e⟩)(r:L.get e=some ty)(R:i<=c):
 ∀g u (o:BP),o.op=.slice t (.tmp a) none (some (.tmp b)) none->(∀p∈[(a,SV.s k 0 n c),(b,SV.v (.int .i64 (Int.ofNat i)))],u p.1=p.2)->LS P o u g [] I (.s k 0 i c) none:=by
 intro g u o q f;have C:=Cy f (s:=a) (x:=.s k 0 n c) sP;have D:=Cy f (s:=b) (x:=.v (.int .i64 (Int.ofNat i))) sP;let⟨U,d,z,G,E,T,H,S,hzero⟩:=Ca (A.get s);let⟨V,Q,W,l,F,K,J,m,h⟩:=Ca (A.get r);have j:=Ib H;subst j;intro X O w B _ _ _ _;refine⟨w,?_,BB.refl w⟩;have v:=B (.tmp a) xO;have x:=B (.tmp b) xO;simp[ev,C,D]at v x;have y:(0:Int)<=(i:Int)/\(i:Int)<=(c:Int):=oG;simp[execOp,q,Instr.sliceAt,Instr.slice,v,x,den,run_underlying E,Instr.sliceBounds,run_sliceBound,y.1,y.2,sizeOf,typeInfo,l,m,Result.andThen,Addr.add]
def Yh(z n):(Builtin.zeroCells z n).toList.length=n*z.size:=by simp[Builtin.zeroCells]
def AZ6{z n}(h:∀v∈z.toList,v.oneCell')(b:0<z.size):∀v∈(Builtin.zeroCells z n).toList,v.oneCell':=by intro v a;simp[Builtin.zeroCells,Sy,BG]at a;obtain⟨i,_,rfl⟩:=a;have c:i%z.size<z.size:=IK _ b;rw[getElem!_pos z _ c];exact h _ sP
def AHS{P L}(hL:Dg P L){o tm H t k off n c n0 x z0 ty vs e e' s I}(u:o.op=.call {callee:=.builtin .clear,args:=#[x],argTypes:=#[t]})(hx:ev tm x=.s k off n c)
 (W:L.get t=some ⟨n0,z0,.slice e'⟩) (V:L.get e'=some ty) (h1:∀v∈ty.zero,v.oneCell') (G:ty.zero.length=ty.n) (h0:0<ty.n) (hl:off+n*ty.n<=vs.length) (hk:(k,.Aa vs e)∈s):
 HS P o tm H s I (λh=>∃M:List Value,M.length=n*ty.n/\(∀v∈M,v.oneCell')/\h= {r:=.t [],upd:=[(k,.Aa (splice vs off M) e)],J:=I}) none:=by
 let⟨i0,d,z,af,hd,hz,T,hn,hzero⟩:=Ca (hL.get W);let⟨ie,de,l,S,ad,Z,ag,D,f⟩:=Ca (hL.get V);have O:=Ib T;subst O;have aa:l.cells.size=ty.n:=by rw[f]at G;simpa using G
 refine⟨?_⟩;intro ρ a w he B hI R ab ae ah next Q hnext _;have A:=B _ hk _ rfl;simp only at A;have X:x∈o.op.operands:=by simp[u,Op.operands,Call.operands]
 have K:=he x X;rw[hx]at K;simp only[den]at K;have hlen:(Builtin.zeroCells l.cells n).toList.length=n*ty.n:=by rw[Yh,aa]
 have p:∀v∈(Builtin.zeroCells l.cells n).toList,v.oneCell':=AZ6 (λv hv=>h1 v (by rw[f];exact hv)) oG;have Y:∀w,(zeroValue e').run P w=.ok l w:=λw=>by simp[zeroValue,typeInfo,S,Z,Result.andThen]
 have ac:w.heap[ρ k]? =some (.cells vs.toArray e (0,0)):=A;have hex:(execOp a.eval o).run P w=.ok (.value (.tuple #[])) (w.setRow (ρ k) (splice vs off (Builtin.zeroCells l.cells n).toList).toArray):=by
  by_cases U:n=0;subst U;have E:(Builtin.zeroCells l.cells 0).toList=[]:=List.eq_nil_of_length_eq_zero (by rw[hlen];simp);have y:w.setRow (ρ k) vs.toArray=w:=by
   have B:(w.setRow (ρ k) vs.toArray).heap=w.heap:=by apply Array.ext_getElem?;intro i;by_cases e2:ρ k=i;subst e2;rw[Js A,A];exact G4 e2
   unfold World.setRow at B⊢;simp only at B;rw[B]
  rw[E];have:splice vs off ([]:List Value)=vs:=by unfold splice;simp
  rw[this,y];simp[execOp,u,resolve,invoke,builtin,K,Builtin.clear_,run_underlying hd,Result.andThen];have g:=run_storeCells_at P (ρ k) off e (Builtin.zeroCells l.cells n).toList 0 vs.toArray w A (by simp only[hlen];simp;omega) p;have e3:(w.setRow (ρ k) (vs.take (off+0)++(Builtin.zeroCells l.cells n).toList++vs.drop (off+0+(Builtin.zeroCells l.cells n).toList.length)).toArray)=w.setRow (ρ k) (splice vs off (Builtin.zeroCells l.cells n).toList).toArray:=by rw[Nat.add_zero];rfl
  simp only at g;rw[e3]at g;obtain⟨n',rfl⟩:∃n',n=n'+1:=⟨n-1,oG⟩;simp[execOp,u,resolve,invoke,builtin,K,Builtin.clear_,run_underlying hd,Y,g,Result.andThen]
 unfold Oper.wp;rw[hex,Oper.upon_value];refine hnext rfl _ _ (λ_=>0) ⟨_,hlen,p,rfl⟩ ⟨rfl,rfl,rfl,by rw[BB.setRow];exact Nat.le_refl _,λb m D _=>G4 (D _ (List.mem_singleton.2 rfl)),?_,λj b hj=>by simp at hj,λi j hi=>by simp at hi,?_,λb o' m=>.inl m,λb o' m=>Gg m⟩;intro kb C o' F;simp at C;subst C;have e0:∀q,AU.Am {r:=.t [],upd:=[(k,AG.Aa (splice vs off (Builtin.zeroCells l.cells n).toList) e)],J:=I} ρ H q=ρ:=by intro q;funext n;exact Ej (by unfold Bf;split<;>rfl)
 rw[e0]at F⊢;cases F;exact Js A;exact hI.keep (R _ hk rfl) λb _ N=>G4 N
def ACX(f:BU)(k:Nat):AK AG:=match f.rg with|none=>f.σ.hp k|some _=>none
def BU.re(f:BU)(k:Nat)(b:AG):BU:={f with σ:={f.σ with hp:=upd f.σ.hp k (some b)}}
def AWC{c R f}(k){b p}(d:ACX f k=some b)(u:∀A,p.den A=b.den A)(q:∀x∈p.keys,x∈b.keys)(t:p.live=b.live)(h:GG c R (f.re k p)):GG c R f:=by
 let⟨z,F,H,cnt⟩:=f;unfold ACX at d;split at d
 case h_2=>cases d
 rename_i y;simp only at y d;subst y;intro B A a w r;have n:∀j,Fc (upd z.hp k (some p)) j->Fc z.hp j:=λj ⟨x,g,D⟩=>by by_cases e:j=k;subst e;rw[upd_same]at g;cases g;exact⟨b,d,by rw[<-t];exact D⟩;rw[upd_ne _ _ e]at g;exact⟨x,g,D⟩
 have l:∀j,(z.hp j).isSome->(upd z.hp k (some p) j).isSome:=λj m=>by by_cases e:j=k;subst e;rw[upd_same];rfl;rw[upd_ne _ _ e];exact m
 refine h ?_ A a w ?_;refine⟨λj m=> ?_,B.2⟩;have e:j≠k:=λe=>by have:=B.1 j m;simp only at this;rw[e,d]at this;cases this
 show upd z.hp k (some p) j=none;rw[upd_ne _ _ e];exact B.1 j m
 exact{
  hp:=λj x o g C=>by simp[BU.re]at g;by_cases e:j=k;subst e;rw[upd_same]at g;cases g;rw[u]at C;exact r.hp _ b o d C;rw[upd_ne _ _ e]at g;exact r.hp j x o g C
  inj:=λi j G m=>r.inj i j (n i G) (n j m)
  kb:=λj x E g v=>by simp[BU.re]at g⊢;by_cases e:j=k;subst e;rw[upd_same]at g;cases g;exact l _ (r.kb _ b E d (q _ v));rw[upd_ne _ _ e]at g;exact l _ (r.kb j x E g v)
  im:=r.im
  fs:=r.fs
  Es:=r.Es
  dj:=λj m=>r.dj j (n j m)
  ad:=r.ad
  nw:=λj m=>r.nw j (n j m)
  fr:=r.fr
  sz:=r.sz
  os:=r.os
  tape:=r.tape
  output:=r.output
  size:=r.size
  nd:=r.nd
  tm:=r.tm
  kd:=λs j m=>l j (r.kd s j m)}
def AFl{w a k l e}(h:Has w a [(k,.cells l e)])(j):w.cell? ⟨a k,j,none⟩=(As a l)[j]? :=by have:=h (k,.cells l e) sP _ rfl;simp only at this;simp[World.cell?,this]
def XK{P L}(u:Dg P L){t a k off ty l x e I}(j:L.get t=some ty)(g:ty.k.agg=false)(D:l[off]? =some x):
 ∀f m (o:BP),o.op=.load t (.tmp a)->(∀p∈[(a,SV.p k off)],m p.1=p.2)->LS P o m f [(k,.cells l e)] I x none:=by
 intro f m o q h;have v:=Cy h (s:=a) (x:=.p k off) sP;let⟨i,d,z,F,y,H,C,G,hzero⟩:=Ca (u.get j);intro r E w A B _ _ _;refine⟨w,?_,BB.refl w⟩;have n:=A (.tmp a) xO;simp[ev,v,den]at n;have c:(isAgg t).run P w=.ok false w:=by have s:=PY C;rw[g]at s;simp[isAgg,Sem.run_bind,run_underlying y,Result.andThen_ok];cases d<;>simp_all
 have b:w.cell? ⟨r k,off,none⟩=some (den r x):=by rw[AFl B,Gc,E0,D];rfl
 simp[execOp,q,Sem.run_bind,n,Instr.loadAt,Instr.sureAddr,Sem.run_pure,Result.andThen_ok,loadVar,c];simp[load,Sem.run,b]
def ATj{P L}(A:Dg P L){t a k off f l xs e I}(n:L.get t=some f)(g:f.k.agg)(y:(l.drop off).take f.n=xs)(K:off+f.n<=l.length):
 ∀c q (o:BP),o.op=.load t (.tmp a)->(∀p∈[(a,SV.p k off)],q p.1=p.2)->LS P o q c [(k,.cells l e)] I (.g xs) none:=by
 intro c q o x m;have B:=Cy m (s:=a) (x:=.p k off) sP;let⟨i,d,z,G,D,M,H,u,hzero⟩:=Ca (A.get n);intro r J w E F _ _ _;refine⟨w,?_,BB.refl w⟩;have s:=E (.tmp a) xO;simp[ev,B,den]at s;have C:w.rangeAt (r k) off (As r xs):=λj v b=>by rw[AFl F];rw[<-y,Rj,Ri,GX]at b;split at b;rw[II]at b;exact b;cases b
 have h:d.isRow:=by rw[<-PY H]at g;cases d<;>simp_all[TypeDesc.isRow]
 have:=run_loadVar_mid (P:=P) w (r k) off t _ d C D h (by rw[G];simp[<-y,u,IM];rw[<-u];omega);simp[execOp,x,Sem.run_bind,s,Instr.loadAt,Instr.sureAddr,Sem.run_pure,Result.andThen_ok,this];simp[den]
def ARd{P L}(hL:Dg P L){o D C t k c E x ty l f e p I}(O:o.op=.store t E x)(ha:ev D E=.p k c)(hx:(ev D x).cs=some f)(T:L.get t=some ty)(hn:f.length=ty.n)(hl:c+f.length<=l.length)
 (h1:∀v∈f,Xf v) (X:(k,.cells l e)∈p):HS P o D C p I (λh=>h= {r:=.v undef,upd:=[(k,.cells (splice l c f) e)],J:=I}) none:=by
 let⟨i,d,z,N,hd,hz,ab,ac,hzero⟩:=Ca (hL.get T);refine⟨?_⟩;intro ρ a w V hh hI M W aa ae next Q hnext _;have H:=hh _ X _ rfl;simp only at H;have G:E∈o.op.operands:=xO
 have U:x∈o.op.operands:=xO
 have s1:(As ρ f).length=f.length:=IM ρ f;have A:∀v∈As ρ f,v.oneCell':=λv Y=>by rw[Gc]at Y;obtain⟨y,hy,rfl⟩:=List.mem_map.1 Y;exact AJQ (h1 y hy) ρ
 have B:=run_storeCells_at P (ρ k) c e (As ρ f) 0 (As ρ l).toArray w H (by simp[IM];omega) A;have m:(den ρ (ev D x)).cells=(As ρ f).toArray:=SV.Rh hx ρ;have e3:(w.setRow (ρ k) ((As ρ l).take (c+0)++As ρ f++(As ρ l).drop (c+0+(As ρ f).length)).toArray)=w.setRow (ρ k) (As ρ (splice l c f)).toArray:=by rw[Nat.add_zero,s1];unfold splice;rw[QE,QE,Rj,Ri]
 have R:(storeVar t ⟨ρ k,c,none⟩ (den ρ (ev D x))).run P w=.ok () (w.setRow (ρ k) (As ρ (splice l c f)).toArray):=by
  rw[<-e3];unfold storeVar;rw[m];have S:(sizeOf t).run P w=.ok i.size w:=by simp[sizeOf,typeInfo,N]
  have q: ¬(As ρ f).toArray.size≠i.size:=by simp[IM];omega
  simp only[Sem.run_bind,S,Result.andThen_ok,q,if_false];exact B
 have hex:(execOp a.eval o).run P w=.ok .skip (w.setRow (ρ k) (As ρ (splice l c f)).toArray):=by have F:=V E G;rw[ha]at F;simp only[den]at F;simp[execOp,O,Instr.storeAt,F,V x U,Instr.sureAddr,R]
 unfold Oper.wp;rw[hex,Oper.upon_skip];refine hnext rfl _ _ (λ_=>0) rfl ⟨rfl,rfl,rfl,by rw[BB.setRow];exact Nat.le_refl _,λb g q _=>G4 (q (k,.cells (splice l c f) e) sP),?_,λj b hj=>by simp at hj,λi j N=>by simp at N,?_,λb Z g=>.inl g,λb Z g=>Gg g⟩;intro kb s Z u;simp at s;subst s;have e0:AU.Am {r:=.v undef,upd:=[(k,AG.cells (splice l c f) e)],J:=I} ρ C (λ_=>0)=ρ:=by funext n;exact Ej (by unfold Bf;split<;>rfl)
 rw[e0]at u⊢;cases u;exact Js H;exact hI.keep (M _ X rfl) λb _ K=>G4 K
def ATe{P L}(G:Dg P L){t a b b2 U k n c i j:Nat}{e V ty I}(y:L.get t=some ⟨U,V,.slice e⟩)(x:L.get e=some ty)(N:i<=j)(Q:j<=c):
 ∀g A (o:BP),o.op=.slice t (.tmp a) (some (.tmp b)) (some (.tmp b2)) none->(∀p∈[(a,SV.s k 0 n c),(b,SV.v (.int .i64 (Int.ofNat i))),(b2,SV.v (.int .i64 (Int.ofNat j)))],A p.1=p.2)->LS P o A g [] I (.s k (if c=i then 0 else i*ty.n) (j-i) (c-i)) none:=by
 intro g A o l f;have H:=Cy f (s:=a) (x:=.s k 0 n c) sP;have J:=Cy f (s:=b) (x:=.v (.int .i64 (Int.ofNat i))) sP;have q:=Cy f (s:=b2) (x:=.v (.int .i64 (Int.ofNat j))) sP;let⟨i0,d,z,O,K,Z,R,Y,hzero⟩:=Ca (G.get y);let⟨ie,X,ze,u,M,T,S,v,m⟩:=Ca (G.get x);have r:=Ib R;subst r;intro ρ W w s _ _ _ _;refine⟨w,?_,BB.refl w⟩;have B:=s (.tmp a) xO;have C:=s (.tmp b) xO;have D:=s (.tmp b2) xO;simp[ev,H,J,q]at B C D;have E:(0:Int)<=(i:Int)/\(i:Int)<=(j:Int):=oG;have F:(0:Int)<=(j:Int)/\(j:Int)<=(c:Int):=oG;simp[execOp,l,Instr.sliceAt,Instr.slice,B,C,D,den,run_underlying K,Instr.sliceBounds,run_sliceBound,E.1,E.2,F.1,F.2,N,Q,sizeOf,typeInfo,u,v,Result.andThen];split<;>simp[Addr.add];intro h;exact h.symm
def ATf{P L}(M:Dg P L){t a b b2 b3 Z k n c i j m:Nat}{e z0 ty I}(B:L.get t=some ⟨Z,z0,.slice e⟩)(A:L.get e=some ty)(S:i<=j)(U:j<=m)(X:m<=c):
 ∀l C (o:BP),o.op=.slice t (.tmp a) (some (.tmp b)) (some (.tmp b2)) (some (.tmp b3))->(∀p∈[(a,SV.s k 0 n c),(b,SV.v (.int .i64 (Int.ofNat i))),(b2,SV.v (.int .i64 (Int.ofNat j))),(b3,SV.v (.int .i64 (Int.ofNat m)))],C p.1=p.2)->LS P o C l [] I (.s k (if m=i then 0 else i*ty.n) (j-i) (m-i)) none:=by
 intro l C o g f;have N:=Cy f (s:=a) (x:=.s k 0 n c) sP;have O:=Cy f (s:=b) (x:=.v (.int .i64 (Int.ofNat i))) sP;have s:=Cy f (s:=b2) (x:=.v (.int .i64 (Int.ofNat j))) sP;have u:=Cy f (s:=b3) (x:=.v (.int .i64 (Int.ofNat m))) sP;let⟨i0,d,z,T,Q,hz,V,hn,hzero⟩:=Ca (M.get B);let⟨ie,de,ze,x,R,Y,W,y,r⟩:=Ca (M.get A);have v:=Ib V;subst v;intro ρ ac w q _ _ _ _;refine⟨w,?_,BB.refl w⟩;have D:=q (.tmp a) xO;have E:=q (.tmp b) xO;have F:=q (.tmp b2) xO;have G:=q (.tmp b3) xO;simp[ev,N,O,s,u]at D E F G;have H:(0:Int)<=(i:Int)/\(i:Int)<=(j:Int):=oG;have J:(0:Int)<=(j:Int)/\(j:Int)<=(m:Int):=oG;have K:(0:Int)<=(m:Int)/\(m:Int)<=(c:Int):=oG;simp[execOp,g,Instr.sliceAt,Instr.slice,D,E,F,G,den,run_underlying Q,Instr.sliceBounds,run_sliceBound,H.1,H.2,J.1,J.2,K.1,K.2,S,U,X,sizeOf,typeInfo,x,y,Result.andThen];split<;>simp[Addr.add];intro h;exact h.symm
def AWF{I b a m c k d e f xs}(h:(k,AG.Aa f e)∈b)(j:(f.drop d).take (m*a)=xs)(i:xs.length=m*a)(g:∀v∈xs,v.oneCell'):Reads I b (.s k d m c) a m xs:=
 ⟨i,g,λl w hN _=>.inr ⟨_,c,rfl,by
   have:=Re (off:=d) (n:=m*a) (hN _ h _ rfl);rw[<-j];simpa using this⟩⟩
def ANZ{P L}(hL:Dg P L){o tm E k s I t e a x n m cap vs news}(hT:FE P L t e a)(K:Nj tm o.op=some (t,.s k 0 n cap,x))
 (hk:(k,.Aa vs e)∈s) (ae:vs.length=cap*a) (F:Reads I s x a m news) (p:n+m<=cap):HS P o tm E s I (λh=>h= {r:=.s k 0 (n+m) cap,upd:=[(k,.Aa (vs.take (n*a)++news++vs.drop (n*a+m*a)) e)],J:=I}) none:=by
 refine⟨?_⟩;intro ρ ac w he hN hI W af ah ak next Q hnext _;let⟨⟨z0,ab⟩,⟨ze,ke,X,an⟩,v⟩:=hT;let⟨i,d,z,Y,hd,hz,Z,al,hzero⟩:=Ca (hL.get ab);let⟨f,de,z',N,ag,am,ai,q,U⟩:=Ca (hL.get X);have V:=Ib Z;subst V;simp only at q;subst q;have g:=hN _ hk _ rfl;simp only at g;obtain⟨H,A⟩:∃H:AU,H= {r:=.s k 0 (n+m) cap,upd:=[(k,.Aa (vs.take (n*f.size)++news++vs.drop (n*f.size+m*f.size)) e)],J:=I}:=⟨_,rfl⟩;have T:H.upd=[(k,.Aa (vs.take (n*f.size)++news++vs.drop (n*f.size+m*f.size)) e)]:=by rw[A]
 have B:H.nb=[]:=by rw[A]
 have fin:∀u:World,u.os=w.os->u.tape=w.tape->u.output=w.output->w.heap.size<=u.heap.size->(∀b,b<w.heap.size->ρ k≠b->u.heap[b]? =w.heap[b]?)->
  u.heap[ρ k]? =some (.cells (vs.take (n*f.size)++news++vs.drop (n*f.size+m*f.size)).toArray e (0,0))->(Builtin.append_ #[t,t] o.type #[den ρ (.s k 0 n cap),den ρ x]).run P w=.ok (.slice (some ⟨ρ k,0,none⟩) (n+m) cap) u->o.wp P ac w next Q:=by
  intro u G e2 e3 e4 l hq S;have hex:=Td (P:=P) K he S;unfold Oper.wp;rw[hex,Oper.upon_value];have e0:AU.Am H ρ E (λ_=>0)=ρ:=by funext y;exact Ej (by rw[B];unfold Bf;split<;>rfl)
  have hA:After I ρ w u E (λ_=>0) H:=by refine⟨G,e2,e3,e4,λb v C _=>l b v (C (k,.Aa (vs.take (n*f.size)++news++vs.drop (n*f.size+m*f.size)) e) (by rw[T];exact List.mem_singleton.2 rfl)),?_,(λj b hj=>by rw[B]at hj;simp at hj),(λi j Y=>by rw[B]at Y;simp at Y),?_,λb o' v=>.inl (by rw[A]at v;exact v),λb o' v=>by rw[A]at v;exact Gg v⟩;intro kb O o' R;rw[T]at O;rw[List.mem_singleton.1 O]at R⊢;cases R;rw[e0];exact hq;rw[A];exact hI.keep (W _ hk rfl) l
  have h:=hnext rfl H u (λ_=>0) A hA;rw[e0,show H.r=.s k 0 (n+m) cap by rw[A]]at h;exact h
 have aj:=Dh g;rcases F.at_ ρ w hN hI with⟨c,G,rfl⟩|⟨ad,c,G,D⟩;have aa:news=[]:=List.eq_nil_of_length_eq_zero (by rw[F.len];simp);subst aa;refine fin w rfl rfl rfl (Nat.le_refl _) (λ_ _ _=>rfl) (by rw[g];simp) ?_;rw[G];have:n<=cap:=oG;simp[den,Builtin.append_,run_underlying hd,sizeOf,typeInfo,N,Builtin.lenOf,this,Builtin.firstCells,storeCells];have M:n*f.size+news.length<=vs.toArray.size:=by have:=Nat.mul_le_mul_right f.size p;rw[F.len];simp[List.size_toArray,ae];rw[Nat.add_mul]at this;exact this
 have hr:=run_append_room (P:=P) w t o.type e f hd N (ρ k) n cap vs.toArray g ad m c news F.len D F.one p M;refine fin (w.setRow (ρ k) (vs.toArray.toList.take (n*f.size)++news++vs.toArray.toList.drop (n*f.size+news.length)).toArray) rfl rfl rfl (by rw[BB.setRow];exact Nat.le_refl _) (λb _ C=>G4 C) ?_ (by rw[G];exact hr);rw[Js g,F.len]
def ANb{P L}(H:Dg P L){o O E f I t e g x n cap a}(hT:FE P L t e g)(k:Nj O o.op=some (t,.v (.slice a n cap),x))
 (Z:Reads I f x g 0 []) (p:n<=cap):HS P o O E f I (λh=>h= {r:=.v (.slice a n cap),J:=I}) none:=by
 refine⟨?_⟩;intro F ac w T hN G S N U X next Q hnext _;let⟨⟨z0,D⟩,⟨ze,ke,y,ab⟩,l⟩:=hT;let⟨i,d,z,M,K,hz,A,Y,hzero⟩:=Ca (H.get D);let⟨ie,de,z',m,R,aa,W,C,s⟩:=Ca (H.get y);have v:=Ib A;subst v;have q:(Builtin.append_ #[t,t] o.type #[den F (.v (.slice a n cap)),den F x]).run P w=.ok (.slice a n cap) w:=by rcases Z.at_ F w hN G with⟨c,u,_⟩|⟨ad,c,u,_⟩;rw[u];cases a<;>simp[den,Builtin.append_,run_underlying K,sizeOf,typeInfo,m,Builtin.lenOf,p,Builtin.firstCells,storeCells];rw[u];cases a<;>simp[den,Builtin.append_,run_underlying K,sizeOf,typeInfo,m,Builtin.lenOf,p,Builtin.firstCells,storeCells,loadCells,loadCellsFrom,Result.andThen]
 have hex:=Td (P:=P) k T q;unfold Oper.wp;rw[hex,Oper.upon_value];exact hnext rfl {r:=.v (.slice a n cap),J:=I} w (λ_=>0) rfl ⟨rfl,rfl,rfl,AZ _,λb l _ _=>rfl,nA,(λj b V=>by simp at V),(λi j M=>by simp at M),G,λb o l=>.inl l,λb o l=>Gg l⟩
def O9{P:BX}{L:Lay}(x:Dg P L){t a b km n E F kt et d1}{es:AY Ah}{kv j}{xs:AA AE}{I}(q:L.get t=some ⟨E,F,.map kt et⟩)(c:P.underlying kt=some d1)(d:MapKept.IsKey d1 kv)
 (A:Instr.findNow d1 kv es.toList 0=some (some (j,.agg xs.toArray))):
 ∀f r (o:BP),o.op=.lookup t (.tmp a) (.tmp b) true->(∀p∈[(a,SV.m km),(b,SV.v kv)],r p.1=p.2)->LS P o r f [(km,.obj (.map es n))] I (.t [.g (xs.map .v),.v (.bool true)]) none:=by
 intro f r o m e;have y:=Cy e (s:=a) (x:=.m km) sP;have z:=Cy e (s:=b) (x:=.v kv) sP;let⟨K,J,G,B,i,D,l,C,g⟩:=Ca (x.get q);have:=U5 l;subst this;intro M H w v hN _ _ _;refine⟨w,?_,BB.refl w⟩;have s:=v (.tmp a) xO;have u:=v (.tmp b) xO;simp[ev,y,z,den]at s u;have h:=hN (km,.obj (.map es n)) sP _ rfl;have k:=MapKept.run_findKey (P:=P) (w:=w) c A;simp[execOp,m,s,u,Instr.lookup,run_underlying i,MapKept.run_getObj_map h,MapKept.run_checkKey c d,k,Result.andThen,den,As,Fu]
def SB{P:BX}{L:Lay}(v:Dg P L){t a b km n E}{F zs:AA AE}{kt et d1}{es:AY Ah}{kv I}(m:L.get t=some ⟨E,F,.map kt et⟩)(c:P.underlying kt=some d1)(d:MapKept.IsKey d1 kv)
 (C:∀w,(zeroValue et).run P w=.ok (.agg zs.toArray) w) (z:Instr.findNow d1 kv es.toList 0=some none):
 ∀f q (o:BP),o.op=.lookup t (.tmp a) (.tmp b) true->(∀p∈[(a,SV.m km),(b,SV.v kv)],q p.1=p.2)->LS P o q f [(km,.obj (.map es n))] I (.t [.g (zs.map .v),.v (.bool false)]) none:=by
 intro f q o l e;have x:=Cy e (s:=a) (x:=.m km) sP;have y:=Cy e (s:=b) (x:=.v kv) sP;let⟨K,J,G,A,i,D,k,B,g⟩:=Ca (v.get m);have:=U5 k;subst this;intro M H w u hN _ _ _;refine⟨w,?_,BB.refl w⟩;have r:=u (.tmp a) xO;have s:=u (.tmp b) xO;simp[ev,x,y,den]at r s;have h:=hN (km,.obj (.map es n)) sP _ rfl;have j:=MapKept.run_findKey (P:=P) (w:=w) c z;simp[execOp,l,r,s,Instr.lookup,run_underlying i,MapKept.run_getObj_map h,MapKept.run_checkKey c d,j,C,Result.andThen,den,As,Fu]
def ARZ{P o u q t km n n' m k x kv v sx es es' f I}(s:o.op=.mapUpdate t m k x)(U:ev u m=.m km)(T:ev u k=.v kv)(Y:ev u x=sx)(X:∀ρ,den ρ sx=v)(c:(km,.obj (.map es n))∈f)
 (p:∀(w:World) r,w.heap[r]? =some (.map es n)->(Instr.mapUpdate t (.map (some r)) kv v).run P w=.ok () {w with heap:=w.heap.setIfInBounds r (.map es' n')}):HS P o u q f I (λh=>h= {r:=.v undef,upd:=[(km,.obj (.map es' n'))],J:=I}) none:=by
 refine⟨?_⟩;intro ρ a w D O M C G N V next Q hnext _;have A:=O _ c _ rfl;simp only at A;have y:=D m xO;have z:=D k xO;have F:=D x xO;rw[U]at y;rw[T]at z;rw[Y,X ρ]at F;simp[den]at y z;have W:=p w (ρ km) A;have hex:(execOp a.eval o).run P w=.ok .skip {w with heap:=w.heap.setIfInBounds (ρ km) (.map es' n')}:=by simp[execOp,s,y,z,F,W]
 let⟨Z,H⟩:=MapKept.heap_set (o':=.map es' n') A;unfold Oper.wp;rw[hex,Oper.upon_skip];refine hnext rfl _ _ (λ_=>0) rfl ⟨rfl,rfl,rfl,sP,λb d E _=>H b λe=>(E (km,.obj (.map es' n')) sP) ?_,?_,λj b S=>by simp at S,λi j R=>by simp at R,?_,λb K d=>.inl d,λb K d=>Gg d⟩;exact e.symm;intro kb g K l;simp at g;subst g;have L:AU.Am {r:=.v undef,upd:=[(km,AG.obj (.map es' n'))],J:=I} ρ q (λ_=>0)=ρ:=by funext n;exact Ej (by unfold Bf;split<;>rfl)
 rw[L]at l⊢;cases l;exact Z;exact M.keep (C _ c rfl) λb _ B=>H b λe=>B e.symm
def UT{P t g h c d n kv v}(j:P.underlying t=some (.map g h))(a:P.underlying g=some c)(b:MapKept.IsKey c kv)(i:Instr.findNow c kv d.toList 0=some none)(w r)(f:w.heap[r]? =some (.map d n)):
 (Instr.mapUpdate t (.map (some r)) kv v).run P w=.ok () {w with heap:=w.heap.setIfInBounds r (.map (d.push {key:=kv,val:=v,born:=n}) (n+1))}:=by
 have e:=MapKept.run_findKey (P:=P) (w:=w) a i;simp[Instr.mapUpdate,run_underlying j,MapKept.run_getObj_map f,MapKept.run_checkKey a b,e,Result.andThen,MapKept.run_setObj_map _ f]
def AIz{P t i k d c n j kv v old}(o:P.underlying t=some (.map i k))(b:P.underlying i=some d)(a:MapKept.IsKey d kv)(l:Instr.findNow d kv c.toList 0=some (some (j,old)))(m:c[j]?.map (·.key)=some kv)(w r)(h:w.heap[r]? =some (.map c n)):
 (Instr.mapUpdate t (.map (some r)) kv v).run P w=.ok () {w with heap:=w.heap.setIfInBounds r (.map (c.modify j λe=>{e with key:=kv,val:=v}) n)}:=by
 have f:=MapKept.run_findKey (P:=P) (w:=w) b l;have g:=MapKept.run_keyThatStays (P:=P) (w:=w) a;simp[Instr.mapUpdate,run_underlying o,MapKept.run_getObj_map h,MapKept.run_checkKey b a,f,Result.andThen,m,g,MapKept.run_setObj_map _ h]
end Go.AX
