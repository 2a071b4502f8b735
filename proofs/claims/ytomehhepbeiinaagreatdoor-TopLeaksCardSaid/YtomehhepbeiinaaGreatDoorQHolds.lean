/- Walks of single functions. No conditions. -/
import Derived.Test.YtomehhepbeiinaaGreatDoorQNorm
set_option maxRecDepth 100000
set_option maxHeartbeats 4000000
set_option linter.all false
namespace Go.Proofs.YtomehhepbeiinaaGreatDoor
open Tryz
open Go.RowKit Go.Shelf
attribute [local go_sem] Oper.semAt_some Ek
theorem Ta(a b)(h:a.size<=1000000)(i:b.size<=1000000)(w):
 Calls prog 75 #[.string a,.string b] w λe j=>e=.returned (.string (str (Lz.and a.data.toList b.data.toList)))/\Below w.heap.size w j:=by
 have k:=Ud a.data.toList;have l:=Ud b.data.toList
 go_enter func75,ntmps75
 go_wp2_with fail
 refine(NB a h _).mono ?_;rintro e m ⟨rfl,c⟩
 go_wp2_with fail
 refine(NB b i _).mono ?_;rintro e n ⟨rfl,d⟩
 go_wp2_with fail
 refine(NB _ (by simp[ADl,Ek];omega) _).mono ?_;rintro e o ⟨rfl,f⟩;rw[ATs,H6,H6]
 go_wp2
 go_ret
 have g:=c.trans (d.mono c.size);exact⟨rfl,g.trans (f.mono g.size)⟩
theorem AIs{x y}{b:Bool}(h:Lz.meets x y=b):(bits .and .u8 (x.toNat:Int) (y.toNat:Int)==0)= !b:=by rw[Z5,ALb,<-h];unfold Lz.meets;cases a:(x&&&y==0)<;>simp_all
theorem AHR(l c x):Lz.holds (l++[c]) x=(Lz.holds l x&&Lz.meets c x):=by simp[Lz.holds,Yn]
theorem ART{l m x}(h:l<+:m)(a:Lz.holds l x=false):Lz.holds m x=false:=by obtain⟨r,rfl⟩:=h;unfold Lz.holds at*;rw[Yn,a];rfl
theorem ARR(s)(G:s.size<=1000000)(z w):
 CallsIn Fence.wide 6 prog 166 #[.string s,.int .u8 (z.toNat:Int)] w λe B=>e=.returned (.bool (Lz.holds s.data.toList z))/\Below w.heap.size w B:=by
 refine callsIn_of_wp_marks func166 rfl A0 ?_ rfl;simp[ntmps166,Hn,EW,I8,Nat.reduceAdd,Nat.reduceSub,KA,KB,KJ,KE,Fo,Fj]
 gi_wp2_with (refine⟨A0,?_⟩;gi_at_call 129;refine(WT Fence.wide _ A0 rfl _ _).mono ?_;rintro e B ⟨rfl,rfl⟩)
 have C:=Boxed.new w 5 (.int .u8 (z.toNat:Int));have y:=Boxed.new (w.alloc (.cells #[.int .u8 (z.toNat:Int)] 5)) 4 (.bool false);have A:=Boxed.new ((w.alloc (.cells #[.int .u8 (z.toNat:Int)] 5)).alloc (.cells #[.bool false] 4)) 40 (.string s);rw[World.size_alloc]at y;rw[World.size_alloc,World.size_alloc]at A;have o:Below w.heap.size w (((w.alloc (.cells #[.int .u8 (z.toNat:Int)] 5)).alloc (.cells #[.bool false] 4)).alloc (.cells #[.string s] 40)):=
  (((Below.refl _ w).alloc (AZ _) _).alloc sP _).alloc sO _
 refine wpIn_rangeFunc_ownG rfl oG (gf:=181) (lb:=#[.pointer (some ⟨w.heap.size+2,0,none⟩)]) rfl A0 (enters_of func181 kR rfl)
  (WU Fence.wide (6-1) A0 rfl oG (w.heap.size+2) s G _ sP A.cell) (λh k=>k.trans h) (R3 sP) (Below.refl _ _) (λ_=>rfl)
  (λ(pre:AA AH) W=>(Boxed W w.heap.size 5 (.int .u8 (z.toNat:Int))/\Boxed W (w.heap.size+1) 4 (.bool false))/\(Lz.holds pre z/\Below w.heap.size w W))
  (λc (pre:AA AH) W=>Boxed W (w.heap.size+1) 4 (.bool false)/\((c=.ret/\Lz.holds pre z=false)/\Below w.heap.size w W))
  (OwnFrom.and (Own.from (Rb _ _ _ _ (λ_=>.int .u8 (z.toNat:Int)) (λ_=>.bool false)) _) (OwnFrom.and (ownFrom_pure _ _) (ownFrom_below (AZ _) sO)))
  (λc=>OwnFrom.and (Own.from (AAB _ _ _) _) (OwnFrom.and (ownFrom_pure _ _) (ownFrom_below (AZ _) sO)))
  ⟨⟨(C.alloc _).alloc _,y.alloc _⟩,rfl,o⟩
  (λx=>{tmps:=#[.string s,.int .u8 (z.toNat:Int),undef,.pointer (some ⟨w.heap.size,0,none⟩),.pointer (some ⟨w.heap.size+1,0,none⟩),.int .u8 (x.toNat:Int),.string s,.func (.func 181) #[] #[.pointer (some ⟨w.heap.size+1+1,0,none⟩)],.int .u8 (x.toNat:Int),undef,undef,undef,undef],defers:=[]}) ?assign ?body ?done ?stop
 case assign=>
  intro l x W K f
  gi_wp2
  exact f
 case body=>
  rintro l pre x W ⟨⟨v,b⟩,d,j⟩ F;have E:=v.cell;have t:=b.cell;have u:=b.frozen;cases m:Lz.meets x z with
  |true=>
   have H:=AIs m;have a:Lz.holds (pre++[x]) z:=by rw[AHR,d,m];rfl
   have HS:=Lib.hid a
   gi_wp2
   exact⟨KeepsFrom.refl _ _,rfl,⟨v,b⟩,HS.out,j⟩
  |false=>
   have H:=AIs m;have a:Lz.holds (pre++[x]) z=false:=by rw[AHR,d,m];rfl
   have HS:=Lib.hid a
   gi_wp2
   exact⟨(KeepsOthers.setCell _ _ _).from _,b.set _,⟨rfl,HS.out⟩,j.setCell (p:=⟨w.heap.size+1,0,none⟩) (B9 _) _⟩
 case done=>
  rintro D I W q rfl ⟨⟨v,b⟩,d,j⟩ f;have t:=b.cell;have u:=b.frozen;rw[World.size_alloc,World.size_alloc,World.size_alloc]at q
  gi_wp2
  have g:=(KeepsOthers.setCell W ⟨w.heap.size+1,0,none⟩ (.bool true)).same D _ f rfl;refine⟨sP,.inl ⟨_,_,rfl,run_takeDeferred g,?_⟩⟩;have i:=cell_kept ((b.set (.bool true)).cell) (grownBy_putObj' _ D (.deferred none)) (λr e=>by cases e;exact⟨_,g,rfl⟩);have p:=j.setCell (p:=⟨w.heap.size+1,0,none⟩) (B9 _) (.bool true);refine⟨.bool true,?_,by rw[d],p.trans (belowK_b (w:=w) (AZ _) _ D _ _ oG g rfl rfl)⟩;simp[results,f166,go_sem,i]
 case stop=>
  rintro D c pre W q n ⟨b,⟨rfl,d⟩,j⟩ f;rw[World.size_alloc,World.size_alloc,World.size_alloc]at q
  gi_wp2
  refine⟨sP,.inl ⟨_,_,rfl,run_takeDeferred f,?_⟩⟩;have i:=cell_kept b.cell (grownBy_putObj' _ D (.deferred none)) (λr e=>by cases e;exact⟨_,f,rfl⟩);refine⟨.bool false,?_,by rw[ART n d],j.trans (belowK_b (w:=w) (AZ _) W D _ _ oG f rfl rfl)⟩;simp[results,f166,go_sem,i]
theorem ARQ(s)(a:s.size<=1000000)(x:Int)(z)(b:x=z.toNat)(w):
 Calls prog 166 #[.string s,.int .u8 x] w λe c=>e=.returned (.bool (Lz.holds s.data.toList z))/\Below w.heap.size w c:=by
 subst b;exact callsIn_wide.1 (ARR s a z w)
end Go.Proofs.YtomehhepbeiinaaGreatDoor
