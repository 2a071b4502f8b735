/- Walks of single functions. No conditions. -/
import Derived.Test.YtomehhepbeiinaaGreatDoorQTextA
import Derived.Lib.Bytealg
import Derived.Lib.QuietBelowIn
import Derived.Deep.QuietTactic
import Derived.BigQuiet
set_option maxRecDepth 100000
set_option maxHeartbeats 4000000
set_option linter.all false
namespace Go.Proofs.YtomehhepbeiinaaGreatDoor
open Tryz
open Go.RowKit Go.Shelf
attribute [local go_sem] Oper.semAt_some
theorem AHb(s)(c:Int)(w):Calls prog 370 #[.string s,.int .u8 c] w λe a=>e=.returned (.int .i64 (Lib.indexByte s.data.toList c.toNat.toUInt8))/\w=a:=by
 go_enter func370,ntmps370
 go_wp2
 rw[run_callFunc_extern func397 kR kR kR (e:=Extern.BytealgIndexByte.indexByte) kR];rw[Lib.run_indexByteString];simp[Result.andThen];rw[Oper.upon_value]
 go_wp2
 go_ret
 exact⟨rfl,rfl⟩
theorem ARq(s)(c:Int)(w):Calls prog 414 #[.string s,.int .u8 c] w λe a=>e=.returned (.int .i64 (Lib.indexByte s.data.toList c.toNat.toUInt8))/\w=a:=by
 go_enter func414,ntmps414
 go_wp2_with (go_at_call 370;refine(AHb _ _ _).mono ?_;rintro e a ⟨rfl,rfl⟩)
 go_ret
 exact⟨rfl,rfl⟩
def SX(t:AA AH)(l:AA (Fin 6)):AH:=l.foldl (λs x=>if t.contains (letter x.val)then s|||UInt8.ofNat (2^x.val)else s) 0
theorem AWv(t l x):SX t (l++[x])=if t.contains (letter x.val)then SX t l|||UInt8.ofNat (2^x.val)else SX t l:=by simp[SX]
theorem or_bit(a)(k:Nat)(h:k<6):bits .or .u8 (a.toNat:Int) (IntKind.u8.wrap (2^k))=((a|||UInt8.ofNat (2^k)).toNat:Int):=by
 have e:IntKind.u8.wrap (2^k)=((UInt8.ofNat (2^k)).toNat:Int):=by
  match k,h with
  |0,_=>rfl
  |1,_=>rfl
  |2,_=>rfl
  |3,_=>rfl
  |4,_=>rfl
  |5,_=>rfl
 rw[e,AFE]
theorem ATI(n:Nat):((97:Int)+(n:Int)).toNat.toUInt8=letter n:=by rw[show((97:Int)+(n:Int)).toNat=97+n from by omega];rfl
theorem ARp:∀x:Fin 6,[97].contains (letter x.val)->0<=Lib.indexByte [97] (letter x.val):=by decide
theorem indexB:∀x:Fin 6,[97].contains (letter x.val)=false->Lib.indexByte [97] (letter x.val)<0:=by decide
theorem AVL(s)(B:Hid (s.data.toList=[97]))(U:(s.toList==[45])=false)(V:s.toList.isEmpty=false)(E: ¬s.toList=[])(X:(s.size:Int)<=11)(w)(y:I9 w):
 CallsIn Fence.wide 6 prog 395 #[.string s] w λe t=>e=.returned (.tuple #[.int .u8 1,.bool true])/\Below w.heap.size w t:=by
 have C:=Lib.hid y;have q:=y.lt;refine callsIn_of_wp_marks func395 rfl A0 ?_ rfl;simp[ntmps395,Hn,EW,I8,Nat.reduceAdd,Nat.reduceSub,KA,KB,KJ,KE,Fo,Fj]
 gi_wp2_with (refine⟨A0,?_⟩;gi_at_call 258;refine(AJl Fence.wide _ A0 rfl _ _).mono ?_;rintro e t ⟨rfl,rfl⟩)
 have bT:=Boxed.new w 9 (.string s);have G:=Boxed.new (w.alloc (.cells #[.string s] 9)) 5 (.int .u8 0);have F:=Boxed.new ((w.alloc (.cells #[.string s] 9)).alloc (.cells #[.int .u8 0] 5)) 5 (.int .u8 63);rw[World.size_alloc]at G;rw[World.size_alloc,World.size_alloc]at F;refine wpIn_rangeFunc_ownG rfl oG (gf:=332) (lb:=#[.pointer (some ⟨w.heap.size+2,0,none⟩)]) rfl A0 (enters_of func332 kR rfl)
  (AJm Fence.wide (6-1) 6 A0 rfl oG (w.heap.size+2) 63 _ sP F.cell (by decide)) (λh k=>k.trans h) (R3 sP) (Below.refl _ _) (λ_=>rfl)
  (λpre W=>(Boxed W (w.heap.size+1) 5 (.int .u8 ((SX [97] pre).toNat:Int))/\Boxed W w.heap.size 9 (.string s))/\Du (w.heap.size+3) (w.heap.size+1) (((w.alloc (.cells #[.string s] 9)).alloc (.cells #[.int .u8 0] 5)).alloc (.cells #[.int .u8 63] 5)) W)
  (λ_ _ _=>False)
  (OwnFrom.and (Own.from (Rb _ _ _ _ _ _) _) (AFc sP))
  (λ_ _ _ _ _ Q _ _=>Q)
  ⟨⟨G.alloc _,(bT.alloc _).alloc _⟩,Du.refl _ _ _⟩
  (λx=>{tmps:=#[.string s,.pointer (some ⟨w.heap.size,0,none⟩),.int .u8 0,.bool false,.pointer (some ⟨w.heap.size+1,0,none⟩),.int .i64 (x.val:Int),.string s,.bool false,.string s,.bool false,.bool false,.string s,.int .i64 s.size,.bool (decide (11<(s.size:Int))),.bool (decide (11<(s.size:Int))),.func (.func 332) #[] #[.pointer (some ⟨w.heap.size+1+1,0,none⟩)],.int .i64 (x.val:Int),undef,undef,undef,undef,undef,undef,undef,undef,undef,undef,undef,undef,undef,undef,undef,undef,undef,undef,undef],defers:=[]}) ?assign ?body ?done ?stop
 case assign=>
  intro l x W K d
  gi_wp2
  exact d
 case body=>
  rintro l pre x W ⟨⟨g,hT⟩,j⟩ hlen;have f:=g.cell;have p:=hT.cell;have P:=g.frozen;have O:=((C.out.behind (((Below.refl _ w).alloc (AZ _) _).alloc sP _ |>.alloc sO _)).below (j.below (B':=w.heap.size) oG oG) q) x.val x.isLt;have R:=x.isLt;have z:=ATI x.val;have m:=Lib.hid (AWv [97] pre x);have mixed:prog.follows .mixedOrders:=kR;have v:=Lib.hid (ARq s (97+(x.val:Int)));rw[B.out,z]at v;cases b:[97].contains (letter x.val)with
  |true=>
   have A:=ARp x b;have u:=Lib.hid b
   gi_wp2
   gi_region_with_o (refine⟨A0,?_⟩;gi_at_call 414;refine(CallsIn.inRound l (Kq (v.out _))).mono ?_;rintro e t ⟨rfl,rfl⟩)
   all_goals gi_wp2
   all_goals gi_region_with_o (fail)
   all_goals gi_wp2
   all_goals
    rw[or_bit _ _ R];refine⟨((KeepsOthers.setCell _ _ _).trans ((KeepsOthers.drew _).trans (KeepsOthers.drew _))).from _,Below.heap_setCell _ _ _ _ sP,⟨?_,(Below.heap_setCell _ _ _ _ sP).trans hT⟩,(j.trans (Du.setCell _ _ _)).trans (Du.of_below (((Below.refl _ _).drew).drew))⟩;rw[m.out,u.out];exact g.set _
  |false=>
   have A:=indexB x b;have u:=Lib.hid b
   gi_wp2
   gi_region_with_o (refine⟨A0,?_⟩;gi_at_call 414;refine(CallsIn.inRound l (Kq (v.out _))).mono ?_;rintro e t ⟨rfl,rfl⟩)
   all_goals gi_wp2
   all_goals exact⟨(KeepsOthers.drew _).from _,rfl,⟨⟨by rw[m.out,u.out];exact g,hT⟩,j.trans (Du.of_below (Below.refl _ _).drew)⟩⟩
 case done=>
  rintro D Z W M rfl ⟨⟨g,hT⟩,j⟩ d;have f:=g.cell;have p:=hT.cell;have mixed:prog.follows .mixedOrders:=kR;have o:=(Jz.1 d).1;rw[World.size_alloc,World.size_alloc,World.size_alloc]at M;have n:Below w.heap.size w W:=((((Below.refl _ w).alloc (AZ _) _).alloc sP _).alloc sO _).trans (j.below oG oG);have hend:∀i,Below W.heap.size W i->Below w.heap.size w (i.putObj D (.deferred none)):=λi a=>
   (n.trans (a.mono n.size)).trans (belowK_b (w:=w) (AZ _) i D _ _ oG ((a.block D o).trans d) rfl rfl)
  have I:SX [97] (IA 63 6)=1:=rfl;rw[I]at g f;have Y:((str [97]).toList==s.toList):=by rw[Gm,str,ByteArray.toList_mk,ByteArray.toList_eq,B.out]
  have S:=cell_regrown f;have T:=cell_regrown p;have H:=AV2 (n:=6-1) (λL N=>AYJ L (((C.out.behind ((((Below.refl _ w).alloc (AZ _) _).alloc sP _).alloc sO _)).below (j.below (B':=w.heap.size) oG oG) q).behind N))
  gi_wp2
  refine wpIn_region_quiet_below rfl mixed kR ?_
  repeat(refine wpQuietIn_step (λ_ _ _ _=>A0) (λK d=> ?_);go_simp;first|(refine d _ ?_;clear d K)|(apply Exists.intro;refine⟨λ_=> ?_,d _ ?_⟩;exact H _ _;clear d K))
  refine wpQuietIn_nil ?_;intro i r;have a:=Vz r;have J:=(a.cell (p:=⟨w.heap.size+1,0,none⟩) g.lt).trans f
  gi_wp2
  exact⟨sP,.inl ⟨_,_,rfl,run_takeDeferred ((a.block D o).trans d),_,results_tmp2 rfl _ _ _,rfl,hend i a⟩⟩
 case stop=>
  rintro D c pre W _ _ h _;exact h.elim
theorem AVK(w)(a:I9 w):Calls prog 395 #[.string (str [97])] w λe b=>e=.returned (.tuple #[.int .u8 1,.bool true])/\Below w.heap.size w b:=
 callsIn_wide.1 (AVL (str [97]) (Lib.hid rfl) (by rw[ByteArray.toList_eq];rfl) (by rw[ByteArray.toList_eq];rfl) (by rw[ByteArray.toList_eq];exact λh=>nomatch h) (by decide) w a)
end Go.Proofs.YtomehhepbeiinaaGreatDoor
