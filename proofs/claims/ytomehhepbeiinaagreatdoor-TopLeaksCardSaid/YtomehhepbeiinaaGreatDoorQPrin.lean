/- Walks of single functions. No conditions. -/
import Derived.Test.YtomehhepbeiinaaGreatDoorQBase
import Derived.RangeFuncNested
import Derived.RangeFuncBound
import Derived.RangeFuncCalls
import Derived.RangeFuncLeaves
import Derived.RangeFuncBox
import Derived.Shelf.Abstract
import Derived.Shelf.RegionOpen
import Derived.WalkKit
import Derived.OwnWalkIn
import Derived.TacticsInMore
import Derived.LoopNIn
import Derived.LoopIn
import Derived.Maps.AppendAt
import Derived.Laws.BitsAllLaws
import Derived.WalkLawsBesides
import Derived.WalkSpells
import Derived.Lib.Hide
import Derived.Test.YtomehhepbeiinaaGreatDoorProg
set_option maxRecDepth 100000
set_option maxHeartbeats 4000000
set_option linter.all false
namespace Go.Proofs.YtomehhepbeiinaaGreatDoor
open Tryz
open Go.RowKit Go.Shelf
theorem Wu(x y:Int)(a b)(c:x=a.toNat)(d:y=b.toNat)(w):Calls prog 82 #[.int .u8 x,.int .u8 y] w λe f=>e=.returned (.bool (Lz.sub a b))/\w=f:=by
 subst c d
 go_enter func82,ntmps82
 go_wp2
 go_ret
 exact⟨Qr (AHa a b),rfl⟩
theorem APR(l:AA AH)(k)(h:k<l.length)(s):Lz.covers (l.take (k+1)) s=(Lz.covers (l.take k) s||Lz.sub l[k] s):=by unfold Lz.covers;rw[Mi h,List.any_append,List.any_cons,List.any_nil,Bool.or_false]
theorem APQ{l k s}(h:Lz.covers (l.take k) s):Lz.covers l s:=by let⟨c,a,b⟩:=Lz.LH.1 h;exact Lz.LH.2 ⟨c,Fl a,b⟩
theorem AHQ(x:Int)(s)(G:x=s.toNat)(l v)(B n:Nat)(w)(p:w.ownsRow B 5 1 v n (l.map GN))(F:n<=maxLen):
 Calls prog 259 #[.int .u8 x,v] w λe t=>e=.returned (.bool (Lz.covers l s))/\w=t:=by
 subst G;have E:l.length=n:=by have:=p.1;simpa using this
 obtain⟨a,cap,rfl⟩:∃a cap,v=.slice a n cap:=by rcases Go.Joins.ownsRow_forms p with⟨y,z⟩|⟨g,cap,h⟩;exact⟨none,0,by rw[y,z]⟩;exact⟨_,_,h⟩
 have C:Hid (∀j (h:j<l.length),∃b,a=some ⟨b,0,none⟩/\w.cell? ⟨b,j,none⟩=some (.int .u8 ((l[j]'h).toNat:Int))):=by
  intro j h;rcases Go.Joins.ownsRow_forms p with⟨y,z⟩|⟨g,m,D⟩;omega;obtain⟨rfl,-,rfl⟩:a=some ⟨g,0,none⟩/\n=n/\cap=m:=by simpa using D
  exact⟨g,rfl,AJZ p j h⟩
 unfold maxLen at F;subst E
 go_enter func259,ntmps259
 go_wp2
 go_loop [6,9] (λ_ i=>∃k:Nat,k<=l.length/\i=.int .i64 k/\Lz.covers (l.take k) s=false) (λ_ i=>l.length-(intOf i).toNat)
 case atStart=>exact⟨0,BS _,rfl,rfl⟩
 case round=>
  obtain⟨k,H,rfl,A⟩:=hrel;have u:=Lib.hid A;by_cases o:k<l.length
  .obtain⟨b,rfl,r⟩:=C.out k o;have c:=APR l k o s;rw[u.out,ADj]at c;have d:=Lib.hid c;cases q:Lz.sub l[k] s with
   |true=>
    have f:=Lib.hid q
    go_wp2_with (go_at_call 82;refine(Wu _ _ _ _ rfl rfl _).mono ?_;rintro e t ⟨rfl,rfl⟩;rw[f.out])
    go_ret
    exact⟨Qr (APQ (by rw[d.out,f.out])).symm,rfl⟩
   |false=>
    have f:=Lib.hid q
    go_wp2_with (go_at_call 82;refine(Wu _ _ _ _ rfl rfl _).mono ?_;rintro e t ⟨rfl,rfl⟩;rw[f.out])
    go_round
    case rel=>exact⟨k+1,oG,by go_num,by rw[d.out,f.out]⟩
    case measure=>simp[intOf];omega
  .go_wp2
   go_ret
   exact⟨Qr (by rw[<-u.out,Lo oG]),rfl⟩
def Nu(l:AA AH):AY AE:=((List.range 256).map λn=>Value.bool (l.contains (UInt8.ofNat n))).toArray
theorem AHN(l n)(h:n<256):(Nu l)[n]? =some (.bool (l.contains (UInt8.ofNat n))):=by simp[Nu,Lm,E0,ADw h,Kz]
theorem ARL(l)(u:UInt8):(Nu l).setIfInBounds u.toNat (.bool true)=Nu (l++[u]):=by
 unfold Nu;rw[List.setIfInBounds_toArray];congr 1;apply List.ext_getElem;simp;intro i d a;have c:i<256:=by simpa using a
 rw[List.getElem_set,List.getElem_map,List.getElem_map,List.getElem_range];by_cases h:u.toNat=i;subst h;simp;rw[if_neg h];have b: ¬(UInt8.ofNat i=u):=λe=>h (by rw[<-e];exact Lz.Qx c);congr 1;rw[Bool.eq_iff_iff,List.contains_iff_mem,List.contains_iff_mem,List.mem_append,List.mem_singleton];exact⟨.inl,λx=>x.elim id λy=>absurd y b⟩
theorem AZ7(w):(zeroValue 369).run prog w=.ok (.agg (Nu [])) w:=kR
theorem ARx:∃i,prog.info? 4=some i:=info_of_underlying underlying4
theorem AOd:prog.cellsOf 4=1:=kR
theorem AHc(w)(l:AA AH)(n:Nat)(h:n<256)(b:Bool)(a:l.contains (UInt8.ofNat n)=b):(Instr.index 369 (.agg (Nu l)) (.int .i64 n)).run prog w=.ok (.bool b) w:=by let⟨i,c⟩:=ARx;rw[<-a];exact AWj underlying369 underlying4 c AOd oG oG (AHN l n h)
theorem XG(l k):(Lz.Fb l k).length<=k:=by
 induction k with
 |zero=>simp[Lz.Fb]
 |succ k a=>
  unfold Lz.Fb;split;simp;exact a;omega
theorem QX:(prog.info? 5).map (λi=>(i.zero,i.size,i.bytes))=some (some (.int .u8 0),1,1):=kR
theorem AS4(s:ByteArray)(w:World)(hs:s.size<=maxLen):
 Calls prog 180 #[.string s] w λe u=>e=.returned (.string (str (Lz.least s.data.toList)))/\Below w.heap.size w u:=by
 unfold maxLen at hs;have A:=AZ7 w;obtain⟨i0,hi,q,r,t⟩:=info_parts QX
 go_enter func180,ntmps180
 go_wp2_with fail
 go_loopw [4,10] (λ_ i wr=>∃k:Nat,k<=s.size/\i=.int .i64 k/\wr=w.alloc (.cells (Nu (s.data.toList.take k)) 369)) (λ_ i _=>s.size-(intOf i).toNat)
 case atStart=>exact⟨0,Nat.zero_le _,rfl,rfl⟩
 case round=>
  obtain⟨k,hk,rfl,rfl⟩:=hrel;by_cases c:k<s.size
  .have hb:(s[k].toNat:Int)<256:=by have:=s[k].toNat_lt;omega
   have y:=AHN (s.data.toList.take k) s[k].toNat s[k].toNat_lt;have g:=ARL (s.data.toList.take k) s[k];have HS:=Lib.hid g;clear g
   go_wp2
   rw[HS.out]
   go_roundw
   case rel=>exact⟨k+1,oG,by go_num,by rw[List.take_succ_eq_append_getElem (by simpa using c)];rfl⟩
   case measure=>simp[intOf];omega
  .obtain rfl:k=s.size:=oG;have f:s.data.toList.take s.size=s.data.toList:=List.take_of_length_le sP;rw[f];clear f c hk
   go_wp2_with (refine wpList_load_row rfl 369 _ rfl w.heap.size rfl 369 _ (0,0) _ (heap_alloc_new _ _) underlying369 rfl kR ?_)
   go_loopw [5,19] (λv i wr=>∃k:Nat,k<=256/\i=.int .i64 k/\wr.ownsRow (w.heap.size+1) 5 1 v (Lz.Fb s.data.toList k).length ((Lz.Fb s.data.toList k).map GN)/\Below (w.heap.size+1) (w.alloc (.cells (Nu s.data.toList) 369)) wr) (λ_ i _=>256-(intOf i).toNat)
   case atStart=>exact⟨0,oG,rfl,World.ownsRow_nil _ _ _ _,Below.refl _ _⟩
   case round=>
    obtain⟨k,hk,rfl,b,h⟩:=hrel;by_cases c:k<256
    .cases a:s.data.toList.contains (UInt8.ofNat k)with
     |false=>
      have p:=AHc wr s.data.toList k c false a;have hl:Lz.Fb s.data.toList (k+1)=Lz.Fb s.data.toList k:=by rw[Lz.Fb,a];rfl
      have n:=Lib.hid hl;have x:=Lib.hid a;clear hl a
      go_wp2
      go_roundw
      case rel=>exact⟨k+1,oG,by go_num,by rw[n.out];exact b,h⟩
      case measure=>simp[intOf];omega
     |true=>
      have p:=AHc wr s.data.toList k c true a;have hlen:=XG s.data.toList k;cases d:Lz.covers (Lz.Fb s.data.toList k) (UInt8.ofNat k)with
      |true=>
       have hl:Lz.Fb s.data.toList (k+1)=Lz.Fb s.data.toList k:=by rw[Lz.Fb,a,d];rfl
       have n:=Lib.hid hl;have x:=Lib.hid a;have o:=Lib.hid d;clear hl a d
       go_wp2_with (go_at_call 259;refine(AHQ _ (UInt8.ofNat k) (by rw[Lz.Qx c]) _ _ _ _ _ b lO).mono ?_;rintro e u ⟨rfl,rfl⟩;rw[o.out])
       go_roundw
       case rel=>exact⟨k+1,oG,by go_num,by rw[n.out];exact b,h⟩
       case measure=>simp[intOf];omega
      |false=>
       have hl:Lz.Fb s.data.toList (k+1)=Lz.Fb s.data.toList k++[UInt8.ofNat k]:=by rw[Lz.Fb,a,d];rfl
       have n:=Lib.hid hl;have x:=Lib.hid a;have o:=Lib.hid d;clear hl a d
       go_wp2_with (first|(go_at_call 259;refine(AHQ _ (UInt8.ofNat k) (by rw[Lz.Qx c]) _ _ _ _ _ b lO).mono ?_;rintro e u ⟨rfl,rfl⟩;rw[o.out])|(at_builtin;refine wpList_append_own _ rfl _ _ 23 rfl (w.heap.size+1) 5 i0 (.int .u8 0) 1 1 underlying23 hi q r t rfl dC _ _ _ rfl (b.alloc _) ⟨wr.heap.size,0,none⟩ 1 1 [.int .u8 k] rfl rfl (cell_one_new _ _ _) (by simp[Value.oneCell']) lO oG (by have:=h.size;simp at this;simp;omega) ?_;intro v' w1 m l _))
       go_roundw
       case rel=>
        refine⟨k+1,oG,by go_num,?_,?_⟩;rw[n.out];simpa[GN,Lz.Qx c]using m;exact(h.alloc (by have:=h.size;simp at this;omega) _).grown l (by have:=h.size;simp at this;simp;omega) (λj e=>(b.lt j e).1)
       case measure=>simp[intOf];omega
    .obtain rfl:k=256:=oG;have z:=Uu (P:=prog) b underlying23 underlying5 underlying9
     go_wp2
     go_ret
     exact⟨rfl,((Below.refl _ w).alloc (Nat.le_refl _) _).trans (h.mono oG)⟩
end Go.Proofs.YtomehhepbeiinaaGreatDoor
