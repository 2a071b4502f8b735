/- Walks of single functions. No conditions. -/
import Derived.Test.YtomehhepbeiinaaGreatDoorQBut
set_option maxRecDepth 100000
set_option maxHeartbeats 4000000
set_option linter.all false
namespace Go.Proofs.YtomehhepbeiinaaGreatDoor
open Tryz
open Go.RowKit Go.Shelf
attribute [local go_sem] Oper.semAt_some
theorem AWU(s:UInt8):(bits .andNot .u8 (s.toNat:Int) 63==0)=decide (s.toNat<64):=by have h:=AHa s 63;rw[show((63:UInt8).toNat:Int)=63 from rfl]at h;rw[h,Bool.eq_iff_iff,decide_eq_true_iff,<-Lz.AFu,Lz.sub,beq_iff_eq];rfl
theorem AWT(x:Int)(s:UInt8)(a:x=s.toNat)(w):Calls prog 257 #[.int .u8 x] w λe b=>e=.returned (.bool (decide (s.toNat<64)))/\w=b:=by
 subst a
 go_enter func257,ntmps257
 go_wp2
 go_ret
 exact⟨Qr (AWU s),rfl⟩
theorem AFC(s)(k:Nat):bits .and .u8 ((s.toNat:Int)/2^k) 1=if Lz.bit s k then 1 else 0:=by
 have e:(s.toNat:Int)/2^k=((s.toNat/2^k:Nat):Int):=by rw[Int.natCast_ediv,Int.natCast_pow];rfl
 have a:=s.toNat_lt;have hle:s.toNat/2^k<=s.toNat:=Nat.div_le_self _ _;rw[e,show(1:Int)=((1:Nat):Int)from rfl,u8_and_nat _ _ oG oG,Nat.and_one_is_mod];unfold Lz.bit;rw[Nat.testBit_eq_decide_div_mod_eq];by_cases h:s.toNat/2^k%2=1;simp[h];simp[h];omega
def IA(s:AH):Nat->AA (Fin 6)
 |0=>[]
 |k+1=>if h:k<6 then if Lz.bit s k then IA s k++[⟨k,h⟩]else IA s k else IA s k
theorem AVi(F:Fence)(n N:Nat)(B:F.fn 332)(t:F.round=none)(E:1<=n)(l d:Nat)(s:UInt8)(J u:List (Fin 6)->World->Prop)
 (hN:∀k,k<6->Lz.bit s k=true->(IA s k).length<N) (z:∀pre x W,J pre W->pre.length<N->YieldAt F (n-1) prog l #[.int .i64 (x.val:Int)] W λe W'=>
   (e=.returned (.bool true)/\J (pre++[x]) W'/\W'.heap[d]? =W.heap[d]?)\/(e=.returned (.bool false)/\u (pre++[x]) W'))
 (W:World) (p:W.cell? ⟨d,0,none⟩=some (.int .u8 (s.toNat:Int))) (h0:J [] W):
 CallsIn F n prog 332 #[.func (.yield l) #[] #[],.pointer (some ⟨d,0,none⟩)] W λe W'=>(∃v,e=.returned v)/\
  ((∃w,w=IA s 6/\J w W')\/(∃pre,(∃k,k<=6/\pre=IA s k)/\u pre W')):=by
 refine callsIn_of_wp func332 rfl B ?_ t;simp only[ntmps332,List.size_toArray,List.length_cons,List.length_nil,Nat.reduceAdd,Nat.reduceSub,Array.replicate_succ,Array.replicate_zero,List.push_toArray,List.append_toArray,List.nil_append,List.cons_append]
 gi_wp2
 gi_loopw [3,4] (λ_ i wr=>∃k:Nat,k<=6/\i=.int .i64 k/\J (IA s k) wr/\wr.heap[d]? =W.heap[d]?)
  (λ_ i _=>6-(intOf i).toNat)
 case atStart=>exact⟨0,Nat.zero_le _,rfl,h0,rfl⟩
 case round=>
  obtain⟨k,hk,rfl,f,j⟩:=hrel;have A:wr.cell? ⟨d,0,none⟩=some (.int .u8 (s.toNat:Int)):=(World.cell?_of_block (w:=W) (a:=⟨d,0,none⟩) j).trans p;by_cases b:k<6
  .cases a:Lz.bit s k with
   |true=>
    have g:=AFC s k;have c:IA s (k+1)=IA s k++[⟨k,b⟩]:=by rw[IA,dif_pos b,if_pos a]
    rw[if_pos a]at g;have HP:=Lib.hid c;have o:=Lib.hid a;obtain⟨fn,tmps,assign,body,C,y⟩:=z _ ⟨k,b⟩ wr f (hN k b o.out);dsimp only at C
    gi_wp2
    refine y.mono ?_;rintro e D (⟨rfl,q,r⟩|⟨rfl,m⟩)
    .gi_wp2
     go_roundw
     case rel=>exact⟨k+1,oG,by go_num,by rw[HP.out];exact q,r.trans j⟩
     case measure=>simp[intOf];omega
    .gi_wp2
     refine bodyPost_ret (results_none rfl _ _ _) rfl ?_;exact⟨⟨_,rfl⟩,.inr ⟨_,⟨k+1,oG,HP.out.symm⟩,m⟩⟩
   |false=>
    have g:=AFC s k;have c:IA s (k+1)=IA s k:=by rw[IA,dif_pos b,a];rfl
    rw[a,if_neg sP]at g;have HP:=Lib.hid c
    gi_wp2
    refine⟨λ_ h=>(by cases h),?_⟩
    gi_wp2
    go_roundw
    case rel=>exact⟨k+1,oG,by go_num,by rw[HP.out];exact f,j⟩
    case measure=>simp[intOf];omega
  .obtain rfl:k=6:=oG
   gi_wp2
   go_end0
   exact⟨⟨_,rfl⟩,.inl ⟨_,rfl,f⟩⟩
theorem AJl(F)(n:Nat)(b:F.fn 258)(a:F.round=none)(x:Int)(w):
 CallsIn F n prog 258 #[.int .u8 x] w λe c=>e=.returned (.func (.func 332) #[] #[.pointer (some ⟨w.heap.size,0,none⟩)])/\c=w.alloc (.cells #[.int .u8 x] 5):=by
 refine callsIn_of_wp func258 rfl b ?_ a;simp[ntmps258,Hn,EW,I8,Nat.reduceAdd,Nat.reduceSub,KA,KB,KJ,KE,Fo,Fj]
 gi_wp2
 go_ret
 exact⟨rfl,rfl⟩
theorem AJm(F)(n N:Nat)(i:F.fn 332)(d:F.round=none)(j:1<=n)(a:Nat)(s w)(b:a<w.heap.size)
 (h:w.cell? ⟨a,0,none⟩=some (.int .u8 (s.toNat:Int))) (hN:∀k,k<6->Lz.bit s k->(IA s k).length<N):
 SeqStopsK F n prog 332 #[.pointer (some ⟨a,0,none⟩)] (λx:Fin 6=>#[Value.int .i64 (x.val:Int)]) (λA B=>B.heap[a]? =A.heap[a]?) (λm=>m=IA s 6) (λpre=>∃k,k<=6/\pre=IA s k) N w:=λl J e W hW _ _ g f=>by
 have c:=(hW.cell (p:=⟨a,0,none⟩) b).trans h;exact AVi F n N i d j l a s J e hN g W c f
end Go.Proofs.YtomehhepbeiinaaGreatDoor
