/- Walks of single functions. No conditions. -/
import Derived.Test.YtomehhepbeiinaaGreatDoorQHolds
import Derived.Deep.DeepMust
import Derived.IntWalk
set_option maxRecDepth 100000
set_option maxHeartbeats 4000000
set_option linter.all false
namespace Go.Proofs.YtomehhepbeiinaaGreatDoor
open Tryz
open Go.RowKit Go.Shelf
attribute [local go_sem] Oper.semAt_some Ek
theorem AKZ{h:Type}(b B:Nat)(t e:Av)(f:h->AE)(k:h->Nat)(u:h->AA AE):Own (λs W=>Boxed W B t (f s)/\W.ownsRow b e 1 (f s) (k s) (u s)):=by rintro s X Y r ⟨i,j⟩ l a;refine⟨(grownBy_keeps_cells l a i rfl).trans i,j.kept l ?_⟩;rcases j.2 with⟨d,_⟩|⟨g,n,cur,d,_,c,_⟩;rw[d];exact .inl rfl;rw[d];refine .inr λp=> ?_;obtain⟨o,m,q⟩:=a g (by simpa[Value.ownBlock]using p.symm);rw[c]at m;cases m;cases q
theorem ALp(l m c):Lz.Ee (l++[c]) m=Lz.Ee l m++m.map λd=>c|||d:=by simp[Lz.Ee]
theorem ALo(l m):(Lz.Ee l m).length=l.length*m.length:=by
 induction l with
 |nil=>simp[Lz.Ee]
 |cons c l a=>
  have:Lz.Ee (c::l) m=(m.map λd=>c|||d)++Lz.Ee l m:=by simp[Lz.Ee]
  rw[this,Bc,C6,a,EW,Nat.succ_mul];omega
theorem AWY{i j n m}(a:i<n)(b:j<m):i*m+j+1<=n*m:=by have:(i+1)*m<=n*m:=RE _ a;rw[Nat.succ_mul]at this;omega
theorem wrap_mul(x y:Nat)(c:x<=256)(d:y<=256):wrap64 ((x:Int)*(y:Int))=((x*y:Nat):Int):=by have a:x*y<=256*256:=Nat.mul_le_mul c d;have b:((x*y:Nat):Int)=(x:Int)*(y:Int):=Int.natCast_mul x y;rw[<-b];generalize x*y=q at a⊢;unfold wrap64;omega
theorem or_eq(a b):Lz.norm (Lz.Ee (Lz.norm a) (Lz.norm b))=Lz.or a b:=rfl
theorem mixedOrders:prog.follows .mixedOrders:=kR
theorem AU8(a b:ByteArray)(ha:a.size<=1000000)(hb:b.size<=1000000)(w:World):
 CallsIn Fence.wide 9 prog 96 #[.string a,.string b] w λe w'=>e=.returned (.string (str (Lz.or a.data.toList b.data.toList)))/\Below w.heap.size w w':=by
 obtain⟨i0,hi,az,ao,a0⟩:=info_parts QX;have mixed:=mixedOrders;have H:=Boxed.new w 40 (.string b);have ak:=H.cell;refine callsIn_of_wp_marks func96 rfl trivial ?_ rfl;simp only[ntmps96,List.size_toArray,List.length_cons,List.length_nil,Nat.reduceAdd,Nat.reduceSub,Array.replicate_succ,Array.replicate_zero,List.push_toArray,List.append_toArray,List.nil_append,List.cons_append]
 gi_wp2
 have H:Boxed (w.alloc (.cells #[.string b] 40)).drew w.heap.size 40 (.string b):=H;have E:w.heap.size<(w.alloc (.cells #[.string b] 40)).drew.heap.size:=sP;have u:Below w.heap.size w (w.alloc (.cells #[.string b] 40)).drew:=((Below.refl _ w).alloc (Nat.le_refl _) _).drew;refine wpIn_mono (Q:=λ | .normal,a',w'=>(Boxed w' w.heap.size 40 (.string (str (Lz.norm b.data.toList)))/\Below w.heap.size w w'/\w.heap.size<w'.heap.size)/\a'= {tmps:=#[.string (str (Lz.norm a.data.toList)),.string b,undef,.pointer (some ⟨w.heap.size,0,none⟩),.string {data:=#[]},undef,undef,undef,.string a,.string (str (Lz.norm a.data.toList)),.string b,.string (str (Lz.norm b.data.toList)),undef,undef,undef,undef,undef,undef,undef,undef,undef,undef,undef,undef,undef,undef,undef,undef,undef,undef,undef,undef,undef],defers:=[]}|_,_,_=>False) ?first ?rest
 case first=>
  gi_region_with_o (refine⟨trivial,?_⟩;gi_at_call 128;refine(Kq (NB _ (by assumption) _)).mono ?_;rintro e w1 ⟨rfl,ab⟩;have H:=Ly H ab E;have E:=Nat.lt_of_lt_of_le E ab.size;have u:=u.trans (ab.mono u.size);have ak:=H.cell;have bb:=H.frozen)
  all_goals refine⟨⟨H.set _,u.setCell (p:=⟨w.heap.size,0,none⟩) (Nat.le_refl _) _,?_⟩,rfl⟩
  all_goals simpa[World.setCell]using E
 case rest=>
  rintro ex a' w1 hq;cases ex with
  |normal=>
   obtain⟨⟨bN,aq,ay⟩,rfl⟩:=hq;have la:=Ud a.data.toList;have lb:=Ud b.data.toList;have Q:=Lib.hid (or_eq a.data.toList b.data.toList);generalize Lz.norm a.data.toList=g at la Q⊢;generalize Lz.norm b.data.toList=nb at lb bN Q⊢;have au:=bN.cell;have N:=wrap_mul g.length nb.length la lb;have ad:g.length*nb.length<=256*256:=Nat.mul_le_mul la lb;have M:=Lib.hid N;clear N;obtain⟨C,hC⟩:∃C,C=g.length*nb.length:=⟨_,rfl⟩;rw[<-hC]at M ad;have HC:=Lib.hid hC;clear hC;clear ak mixed H E u
   gi_wp2_with (gi_at_make;refine wpListIn_make_own _ rfl _ _ 23 rfl w1.heap.size 5 i0 (.int .u8 0) 1 underlying23 hi az ao .i64 .i64 _ C rfl rfl M.out (by rw[a0];omega) (by unfold maxLen;omega) (Nat.le_refl _) ?_;intro w2 z n)
   have a7:=n.size;have o:=bN.kept n sP;have U:Below w.heap.size w w2:=aq.grown n (Nat.le_of_lt ay) (λk e=>by cases e)
   gi_wp2_with (refine⟨trivial,?_⟩;gi_at_call 129;refine(WT Fence.wide _ trivial rfl _ _).mono ?_;rintro e w' ⟨rfl,rfl⟩)
   have bU:=(Boxed.new w2 23 (.slice (some ⟨w1.heap.size,0,none⟩) 0 C)).alloc (.cells #[.string (str g)] 40);have bA:=Boxed.new (w2.alloc (.cells #[.slice (some ⟨w1.heap.size,0,none⟩) 0 C] 23)) 40 (.string (str g));have ag:=(o.alloc (.cells #[.slice (some ⟨w1.heap.size,0,none⟩) 0 C] 23)).alloc (.cells #[.string (str g)] 40);have A:=(z.alloc (.cells #[.slice (some ⟨w1.heap.size,0,none⟩) 0 C] 23)).alloc (.cells #[.string (str g)] 40);have a4:=(z.lt w1.heap.size rfl).2;have V:=(U.alloc U.size (.cells #[.slice (some ⟨w1.heap.size,0,none⟩) 0 C] 23)).alloc (by have:=U.size;simp;omega) (.cells #[.string (str g)] 40);simp only[World.size_alloc]at bA;have P:((w2.alloc (.cells #[.slice (some ⟨w1.heap.size,0,none⟩) 0 C] 23)).alloc (.cells #[.string (str g)] 40)).heap.size=w2.heap.size+2:=sP;obtain⟨W0,aj⟩:∃W0,(w2.alloc (.cells #[.slice (some ⟨w1.heap.size,0,none⟩) 0 C] 23)).alloc (.cells #[.string (str g)] 40)=W0:=⟨_,rfl⟩;rw[aj]at bU bA ag A V P⊢;have a5:w2.heap.size+2<=W0.heap.size:=oG;clear aj z o bN au P;refine wpIn_rangeFunc_ownH rfl oG (gf:=181) (lb:=#[.pointer (some ⟨w2.heap.size+1,0,none⟩)]) rfl trivial (enters_of func181 kR rfl)
    (WU Fence.wide (9-1) trivial rfl oG (w2.heap.size+1) (str g) (by rw[Ek];omega) W0 oG bA.cell) (λh k=>k.trans h) (R3 oG) (Below.refl _ _) (λ_=>rfl)
    (λ(pre:List UInt8) W=>(Boxed W w2.heap.size 23 (.slice (some ⟨w1.heap.size,0,none⟩) (Lz.Ee pre nb).length C)/\W.ownsRow w1.heap.size 5 1 (.slice (some ⟨w1.heap.size,0,none⟩) (Lz.Ee pre nb).length C) (Lz.Ee pre nb).length ((Lz.Ee pre nb).map GN))/\((Boxed W (w2.heap.size+1) 40 (.string (str g))/\Boxed W w.heap.size 40 (.string (str nb)))/\Below w.heap.size w W))
    (λ_ _ _=>False)
    (OwnFrom.and (Own.from (AKZ _ _ _ _ (λpre:List UInt8=>.slice (some ⟨w1.heap.size,0,none⟩) (Lz.Ee pre nb).length C) (λpre=>(Lz.Ee pre nb).length) (λpre=>(Lz.Ee pre nb).map GN)) _) (OwnFrom.and (Own.from (Rb _ _ _ _ (λ_=>.string (str g)) (λ_=>.string (str nb))) _) (ownFrom_below (Nat.le_refl _) oG)))
    (λ_ _ _ _ _ hs _ _=>hs)
    ⟨⟨bU,A⟩,⟨bA,ag⟩,V⟩
    (λx a' W=>∃Bx,w2.heap.size+1<Bx/\Boxed W Bx 5 (.int .u8 (x.toNat:Int))/\a'= {tmps:=#[.string (str g),.string b,undef,.pointer (some ⟨w.heap.size,0,none⟩),.string {data:=#[]},.pointer (some ⟨w2.heap.size,0,none⟩),.pointer (some ⟨Bx,0,none⟩),undef,.string a,.string (str g),.string b,.string (str nb),.string (str g),.int .i64 g.length,.string (str nb),.int .i64 nb.length,.int .i64 (wrap64 ((g.length:Int)*(nb.length:Int))),.slice (some ⟨w1.heap.size,0,none⟩) 0 C,.string (str g),.func (.func 181) #[] #[.pointer (some ⟨w2.heap.size+1,0,none⟩)],.int .u8 (x.toNat:Int),undef,undef,undef,undef,undef,undef,undef,undef,undef,undef,undef,undef],defers:=[]})
    (λx a' _ X Y row hs hg hr=>by obtain⟨Bx,h1,h2,h3⟩:=hs;exact⟨Bx,h1,AAB Bx 5 (.int .u8 (x.toNat:Int)) () X Y row h2 hg (λr e=>(hr r e).2),h3⟩)
    ?assign ?body ?done ?stop
   case assign=>
    rintro l pre x W K ⟨⟨s,v⟩,⟨i,q⟩,j⟩ Z
    gi_wp2
    have J:=j.size;exact Z _ _ ((KeepsOthers.alloc _ _).from _) (Below.heap_alloc W _ _ i.lt) ⟨⟨s.alloc _,v.alloc _⟩,⟨i.alloc _,q.alloc _⟩,j.alloc J _⟩ ⟨W.heap.size,i.lt,Boxed.new W 5 _,rfl⟩
   case body=>
    rintro l pre x a' W hl ⟨r,hr⟩ ⟨⟨s,v⟩,⟨i,q⟩,j⟩ ⟨Bx,ba,bX,rfl⟩ am;have cN:=q.cell
    gi_wp2_with (refine⟨trivial,?_⟩;gi_at_call 129;refine(CallsIn.inRound l (WT Fence.wide _ trivial rfl _ _)).mono ?_;rintro e w' ⟨rfl,rfl⟩)
    have J:=j.size;have bM:=Boxed.new W 40 (.string (str nb));have ax:(W.alloc (.cells #[.string (str nb)] 40)).heap[l]? =some (.loop r):=(Below.heap_alloc W _ l (Array.getElem?_eq_some_iff.1 hr).1).trans hr;have a2:=bX.lt;have a1:=i.lt;refine wpIn_rangeFunc_ownN (l₀:=l) (r₀:=r) rfl ax oG (gf:=181) (lb:=#[.pointer (some ⟨W.heap.size,0,none⟩)]) rfl trivial (enters_of func181 kR rfl)
     ((WU Fence.wide (9-1-1-1) trivial rfl oG W.heap.size (str nb) (by rw[Ek];omega) _ sP bM.cell).inRound l) (λh k=>k.trans h) (R3 sP) (Below.refl _ _) (λ_=>rfl)
     (λ(d:List UInt8) W'=>(Boxed W' w2.heap.size 23 (.slice (some ⟨w1.heap.size,0,none⟩) (Lz.Ee pre nb++d.map (x||| ·)).length C)/\W'.ownsRow w1.heap.size 5 1 (.slice (some ⟨w1.heap.size,0,none⟩) (Lz.Ee pre nb++d.map (x||| ·)).length C) (Lz.Ee pre nb++d.map (x||| ·)).length ((Lz.Ee pre nb++d.map (x||| ·)).map GN))/\((Boxed W' (w2.heap.size+1) 40 (.string (str g))/\Boxed W' w.heap.size 40 (.string (str nb)))/\((Boxed W' Bx 5 (.int .u8 (x.toNat:Int))/\Boxed W' W.heap.size 40 (.string (str nb)))/\(Below w.heap.size W W'/\KeepsFrom W0.heap.size W W'))))
     (λ_ _ _=>False)
     (OwnFrom.and (Own.from (AKZ _ _ _ _ (λd:List UInt8=>.slice (some ⟨w1.heap.size,0,none⟩) (Lz.Ee pre nb++d.map (x||| ·)).length C) (λd=>(Lz.Ee pre nb++d.map (x||| ·)).length) (λd=>(Lz.Ee pre nb++d.map (x||| ·)).map GN)) _) (OwnFrom.and (Own.from (Rb _ _ _ _ (λ_=>.string (str g)) (λ_=>.string (str nb))) _) (OwnFrom.and (Own.from (Rb _ _ _ _ (λ_=>.int .u8 (x.toNat:Int)) (λ_=>.string (str nb))) _) (OwnFrom.and (ownFrom_below J (by simp;omega)) (ownFrom_keepsFrom sP)))))
     (λ_ _ _ _ _ hs _ _=>hs)
     ⟨⟨by rw[List.map_nil,List.append_nil];exact s.alloc _,by rw[List.map_nil,List.append_nil];exact v.alloc _⟩,⟨i.alloc _,q.alloc _⟩,⟨bX.alloc _,bM⟩,(Below.refl _ W).alloc J _,(KeepsOthers.alloc _ _).from _⟩
     (λy af _=>af= {tmps:=#[.string (str g),.string b,undef,.pointer (some ⟨w.heap.size,0,none⟩),.string {data:=#[]},.pointer (some ⟨w2.heap.size,0,none⟩),.pointer (some ⟨Bx,0,none⟩),.int .u8 (y.toNat:Int),.string a,.string (str g),.string b,.string (str nb),.string (str g),.int .i64 g.length,.string (str nb),.int .i64 nb.length,.int .i64 (wrap64 ((g.length:Int)*(nb.length:Int))),.slice (some ⟨w1.heap.size,0,none⟩) 0 C,.string (str g),.func (.func 181) #[] #[.pointer (some ⟨w2.heap.size+1,0,none⟩)],.int .u8 (x.toNat:Int),.string (str nb),.func (.func 181) #[] #[.pointer (some ⟨W.heap.size,0,none⟩)],.int .u8 (y.toNat:Int),undef,undef,undef,undef,undef,undef,undef,undef,undef],defers:=[]})
     (λ_ _ _ _ _ _ hs _ _=>hs)
     ?assign2 ?body2 ?done2 ?stop2
    case assign2=>
     rintro l2 d y W' K av Z
     gi_wp2
     exact Z _ _ (KeepsFrom.refl _ _) rfl av rfl
    case body2=>
     rintro l2 d y af W' _ _ ⟨⟨t,p⟩,⟨G,o⟩,⟨T,I⟩,m,aa⟩ rfl O;have cU:=t.cell;have cX:=T.cell;rw[Ek]at am O;have B:=AWY am O;have F:=ALo pre nb;have bc:=AFE x y;have ai:(Lz.Ee pre nb++d.map (x||| ·)).length+1<=C:=by rw[List.length_append,List.length_map,F,HC.out];exact B
     have an:Lz.Ee pre nb++(d++[y]).map (x||| ·)=(Lz.Ee pre nb++d.map (x||| ·))++[x|||y]:=by rw[List.map_append,List.append_assoc];rfl
     have R:=Lib.hid an;clear an B F;generalize Lz.Ee pre nb++d.map (x||| ·)=L at t p cU ai R⊢;have a3:=(p.lt w1.heap.size rfl).2;have a6:=m.size
     gi_wp2_with (gi_at_builtin;refine wpListIn_append_fits _ rfl _ _ 23 rfl w1.heap.size 5 i0 1 underlying23 hi ao w1.heap.size L.length C (L.map GN) rfl (p.alloc _) ⟨W'.heap.size,0,none⟩ 1 1 [.int .u8 ((x|||y).toNat:Int)] rfl rfl (cell_one_new _ _ _) (by simp[Value.oneCell']) ai ?_;intro w5 ae f;have S:=(t.alloc (.cells #[.int .u8 ((x|||y).toNat:Int)] 5)).kept f (by simp;omega);have a8:=S.cell;have a9:=S.frozen)
     have al:KeepsOthers W' w5:=AJb p f;have ar:Below w.heap.size W' w5:=((Below.refl _ W').alloc (by have:=m.size;omega) _).grown f (by simp;omega) (λk e=>by cases e;omega);have aw:(w5.setCell ⟨w2.heap.size,0,none⟩ (.slice (some ⟨w1.heap.size,0,none⟩) (L.length+1) C)).ownsRow w1.heap.size 5 1 (.slice (some ⟨w1.heap.size,0,none⟩) (L.length+1) C) (L.length+1) (L.map GN++[.int .u8 ((x|||y).toNat:Int)]):=ownsRow_setCell_other ae (a:=⟨w2.heap.size,0,none⟩) (by simp[Value.ownBlock];omega) _;refine⟨(al.trans (KeepsOthers.setCell _ _ _)).from _,(Tp I f oG oG).trans I.symm,⟨?_,?_⟩,⟨Tp G f oG oG,Tp o f oG oG⟩,⟨Tp T f oG oG,Tp I f oG oG⟩,(m.trans ar).setCell (p:=⟨w2.heap.size,0,none⟩) (show w.heap.size<=w2.heap.size by omega) _,aa.trans ((al.trans (KeepsOthers.setCell _ _ _)).from _)⟩;rw[R.out,List.length_append];exact S.set _;rw[R.out,List.length_append,List.map_append];exact aw
    case done2=>
     rintro be W' rfl ⟨⟨t,p⟩,⟨G,o⟩,⟨T,I⟩,m,aa⟩
     gi_wp2
     exact⟨aa,G.trans i.symm,⟨⟨by rw[ALp];exact t,by rw[ALp];exact p⟩,⟨G,o⟩,j.trans m⟩⟩
    case stop2=>
     rintro c d W' _ h;exact h.elim
   case done=>
    rintro D ys W hD rfl ⟨⟨s,v⟩,⟨i,q⟩,j⟩ Z;have cU:=s.cell;have bd:=Uu (P:=prog) v underlying23 underlying5 underlying40;have F:=ALo ys nb;have ap:=Lib.hid F;clear F
    gi_wp2_with (refine⟨trivial,?_⟩;gi_at_call 128;refine(Kq (NB _ (by rw[Ek,ap.out,<-HC.out];omega) _)).mono ?_;rintro e w3 ⟨rfl,ac⟩)
    have ah:=(Array.getElem?_eq_some_iff.1 Z).1;refine⟨sP,.inl ⟨_,_,rfl,run_takeDeferred ((ac.block D ah).trans Z),?_⟩⟩;refine⟨_,results_tmp rfl _ _ _,?_,(j.trans (ac.mono j.size)).trans (belowK_b (w:=w) (Nat.le_refl _) _ D _ _ (by have:=V.size;omega) ((ac.block D ah).trans Z) rfl rfl)⟩;rw[H6,Q.out];rfl
   case stop=>
    rintro D c pre W _ _ h _;exact h.elim
  |_=>exact hq.elim
theorem AJX(a b)(c:a.size<=1000000)(d:b.size<=1000000)(w):
 Calls prog 96 #[.string a,.string b] w λe f=>e=.returned (.string (str (Lz.or a.data.toList b.data.toList)))/\Below w.heap.size w f:=callsIn_wide.1 (AU8 a b c d w)
end Go.Proofs.YtomehhepbeiinaaGreatDoor
