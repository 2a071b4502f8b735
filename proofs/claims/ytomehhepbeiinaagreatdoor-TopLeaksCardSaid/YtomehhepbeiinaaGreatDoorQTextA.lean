/- Walks of single functions. No conditions. -/
import Derived.Test.YtomehhepbeiinaaGreatDoorQPlacH
import Derived.Test.YtomehhepbeiinaaGreatDoorQBuilder
set_option maxRecDepth 100000
set_option maxHeartbeats 4000000
set_option linter.all false
namespace Go.Proofs.YtomehhepbeiinaaGreatDoor
open Tryz
open Go.RowKit Go.Shelf
attribute [local go_sem] Oper.semAt_some
def I9(w:AI):Prop:=∀i,i<6->w.cell? ⟨2,i,none⟩=some (.int .u8 (97+(i:Int)))
theorem I9.lt{w}(h:I9 w):2<w.heap.size:=by have:=h 0 dC;rcases Lp 2 w.heap.size with a|a;exact a;simp[World.cell?,VK a]at this
theorem I9.below{w a B}(h:I9 w)(c:Below B w a)(b:2<B):I9 a:=λi d=>(c.cell (p:=⟨2,i,none⟩) b).trans (h i d)
theorem I9.behind{w a}(h:I9 w)(b:Below w.heap.size w a):I9 a:=h.below b h.lt
theorem AFH{β:Type}(B b:Nat)(f:β->List UInt8):Own (λs W=>Ho B b (f s) W):=by rintro s X Y row ⟨j,p,v,hp,d,a⟩ h c;refine⟨j,p,v,hp,(grownBy_keeps_cells h c d rfl).trans d,a.kept h ?_⟩;rcases a.2 with⟨rfl,_⟩|⟨g,cap,cur,rfl,_,e,_⟩;exact .inl rfl;refine .inr λe'=> ?_;obtain⟨o,i,hc⟩:=c g (by simpa[Value.ownBlock]using e'.symm);rw[e]at i;cases i;cases hc
theorem Ho.kept{B b l X}(h:Ho B b l X)(o):Ho B b l (X.alloc o):=
 Own.alloc (AFH (β:=Unit) B b λ_=>l) (s:=()) o h
theorem AN7{B}(w:World)(h:w.heap.size<B):Ho B w.heap.size [] (w.alloc (.cells #[.pointer none,.slice none 0 0] 250)):=
 ⟨h,_,_,.inl rfl,World.alloc_heap_new w _,World.ownsRow_nil _ _ _ _⟩
def letter(n:Nat):AH:=UInt8.ofNat (97+n)
theorem ATJ(n)(h:n<6):(letter n).toNat=97+n:=Lz.Qx oG
def ASG(acc:AA AH)(x:Fin 6):AA AH:=(if acc=[]then[]else acc++[124])++[letter x.val]
def ATL(l:AA (Fin 6)):AA AH:=l.foldl ASG []
def AYN(s:AH):AA AH:=if s.toNat<64 then if s=0 then[45]else ATL (IA s 6)else[63]
theorem AYK(s:Int)(HS:Hid (s=1))(z:(s==0)=false)(w)(q:I9 w):
 CallsIn Fence.wide 6 prog 179 #[.int .u8 s] w λe j=>e=.returned (.string (str [97]))/\Below w.heap.size w j:=by
 have o:=Lib.hid q;refine callsIn_of_wp_marks func179 rfl A0 ?_ rfl;simp only[ntmps179,Hn,EW,I8,Nat.reduceAdd,Nat.reduceSub,KA,KB,KJ,KE,Fo,Fj]
 gi_wp2_with (first|(refine⟨A0,?_⟩;gi_at_call 257;refine(Kq (AWT _ 1 (by rw[HS.out];rfl) _)).mono ?_;rintro e j ⟨rfl,rfl⟩;rw[show decide ((1:AH).toNat<64)=true from rfl])|(refine⟨A0,?_⟩;gi_at_call 258;refine(AJl Fence.wide _ A0 rfl _ _).mono ?_;rintro e j ⟨rfl,rfl⟩))
 have t:=AN7 (B:=w.heap.size+2) w oG;have p:=Boxed.new (w.alloc (.cells #[.pointer none,.slice none 0 0] 250)) 5 (.int .u8 s);rw[World.size_alloc]at p;have f:Below w.heap.size w ((w.alloc (.cells #[.pointer none,.slice none 0 0] 250)).alloc (.cells #[.int .u8 s] 5)):=((Below.refl _ w).alloc (AZ _) _).alloc sP _;refine wpIn_rangeFunc_ownG rfl oG (gf:=332) (lb:=#[.pointer (some ⟨w.heap.size+1,0,none⟩)]) rfl A0 (enters_of func332 kR rfl)
  (AJm Fence.wide (6-1) 1 A0 rfl oG (w.heap.size+1) 1 _ sP (by rw[p.cell,HS.out];rfl) (by decide)) (λh k=>k.trans h) (R3 sP) (Below.refl _ _) (λ_=>rfl)
  (λpre W=>Ho (w.heap.size+2) w.heap.size (pre.map λx=>letter x.val) W/\Du (w.heap.size+2) w.heap.size ((w.alloc (.cells #[.pointer none,.slice none 0 0] 250)).alloc (.cells #[.int .u8 s] 5)) W)
  (λ_ _ _=>False)
  (OwnFrom.and (Own.from (AFH (w.heap.size+2) w.heap.size λpre:AA (Fin 6)=>pre.map λx=>letter x.val) _) (AFc sP))
  (λ_ _ _ _ _ hs _ _=>hs)
  ⟨t.kept _,Du.refl _ _ _⟩
  (λx=>{tmps:=#[.int .u8 s,undef,.string {data:=#[]},.pointer (some ⟨w.heap.size,0,none⟩),.int .i64 (x.val:Int),.int .u8 s,.bool true,.bool false,.int .u8 s,.bool false,.int .u8 s,.func (.func 332) #[] #[.pointer (some ⟨w.heap.size+1,0,none⟩)],.int .i64 (x.val:Int),undef,undef,undef,undef,undef,undef,undef,undef],defers:=[]}) ?assign ?body ?done ?stop
 case assign=>
  intro l x W K m
  gi_wp2
  exact m
 case body=>
  rintro l pre x W ⟨a,i⟩ y;obtain rfl:pre=[]:=Hm oG;have n:=i.size;rw[World.size_alloc,World.size_alloc]at n;have r:=x.isLt;have v:=((o.out.behind (f.trans (i.below oG (AZ _)))).below (Below.refl W.heap.size W) (o.out.behind (f.trans (i.below oG (AZ _)))).lt) x.val r
  gi_wp2_with (first|(refine⟨A0,?_⟩;gi_at_call 178;refine(CallsIn.inRound l (Kq (AON _ _ _ _ a))).mono ?_;rintro e j ⟨rfl,rfl⟩)|(refine⟨A0,?_⟩;gi_at_call 131;refine(CallsIn.inRound l (Kq (AMa _ _ _ _ (letter x.val) (by rw[ATJ _ r];omega) _ a dC oG))).mono ?_;rintro e j ⟨rfl,g,d,b⟩))
  exact⟨b.from _,d.block _ oG oG,g,i.trans d⟩
 case done=>
  rintro D A W u rfl ⟨a,i⟩ m
  gi_wp2_with (refine⟨A0,?_⟩;gi_at_call 132;refine(Kq (AFY _ _ _ (by decide) _ a)).mono ?_;rintro e j ⟨rfl,g,b⟩)
  refine⟨sP,.inl ⟨_,_,rfl,run_takeDeferred (b.same _ _ m rfl),?_⟩⟩;refine⟨_,results_tmp rfl _ _ _,rfl,?_⟩;rw[World.size_alloc,World.size_alloc]at u;exact((f.trans (i.below oG (AZ _))).trans (g.mono oG)).trans (belowK_b (w:=w) (AZ _) _ D _ _ oG (b.same _ _ m rfl) rfl rfl)
 case stop=>
  rintro D c pre W _ _ h _;exact h.elim
theorem AYJ(w)(a:I9 w):Calls prog 179 #[.int .u8 1] w λe b=>e=.returned (.string (str [97]))/\Below w.heap.size w b:=callsIn_wide.1 (AYK 1 (Lib.hid rfl) rfl w a)
end Go.Proofs.YtomehhepbeiinaaGreatDoor
