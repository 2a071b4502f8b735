/- Walks of single functions. No conditions. -/
import Derived.Test.YtomehhepbeiinaaGreatDoorQBut
set_option maxRecDepth 100000
set_option maxHeartbeats 4000000
set_option linter.all false
namespace Go.Proofs.YtomehhepbeiinaaGreatDoor
open Tryz
open Go.RowKit Go.Shelf
attribute [local go_sem] Oper.semAt_some
theorem AYC(s:Bp)(k)(h:k<s.size):s.data.toList.take (k+1)=s.data.toList.take k++[s[k]]:=by rw[Mi (by simpa using h)];rfl
theorem APl(F:Fence)(n:Nat)(z:F.fn 181)(p:F.round=none)(B:1<=n)(l a:Nat)(s:ByteArray)(hs:s.size<=1000000)(J r:List UInt8->World->Prop)
 (w:∀pre x W,J pre W->pre.length<s.size->YieldAt F (n-1) prog l #[.int .u8 (x.toNat:Int)] W λe W'=>
   (e=.returned (.bool true)/\J (pre++[x]) W'/\W'.heap[a]? =W.heap[a]?)\/(e=.returned (.bool false)/\r (pre++[x]) W'))
 (W:World) (h:W.cell? ⟨a,0,none⟩=some (.string s)) (h0:J [] W):
 CallsIn F n prog 181 #[.func (.yield l) #[] #[],.pointer (some ⟨a,0,none⟩)] W λe W'=>(∃v,e=.returned v)/\
  ((∃t,t=s.data.toList/\J t W')\/(∃pre,pre<+:s.data.toList/\r pre W')):=by
 refine callsIn_of_wp func181 rfl z ?_ p;simp only[ntmps181,List.size_toArray,List.length_cons,List.length_nil,Nat.reduceAdd,Nat.reduceSub,Array.replicate_succ,Array.replicate_zero,List.push_toArray,List.append_toArray,List.nil_append,List.cons_append]
 gi_wp2
 gi_loopw [3,6] (λ_ i wr=>∃k:Nat,k<=s.size/\i=.int .i64 k/\J (s.data.toList.take k) wr/\wr.heap[a]? =W.heap[a]?)
  (λ_ i _=>s.size-(intOf i).toNat)
 case atStart=>exact⟨0,Nat.zero_le _,rfl,h0,rfl⟩
 case round=>
  obtain⟨k,hk,rfl,b,f⟩:=hrel;have y:wr.cell? ⟨a,0,none⟩=some (.string s):=(World.cell?_of_block (w:=W) (a:=⟨a,0,none⟩) f).trans h;by_cases o:k<s.size
  .have g:=AYC s k o;have q:=Lib.hid g;obtain⟨fn,tmps,assign,body,C,u⟩:=w _ s[k] wr b (by rw[List.length_take];omega)
   gi_wp2
   refine u.mono ?_;rintro e A (⟨rfl,j,m⟩|⟨rfl,c⟩)
   .gi_wp2
    go_roundw
    case rel=>exact⟨k+1,oG,by go_num,by rw[q.out];exact j,m.trans f⟩
    case measure=>simp[intOf];omega
   .gi_wp2
    refine bodyPost_ret (results_none rfl _ _ _) rfl ?_;exact⟨⟨_,rfl⟩,.inr ⟨_,by rw[<-q.out];exact List.take_prefix _ _,c⟩⟩
  .obtain rfl:k=s.size:=oG;have d:s.data.toList.take s.size=s.data.toList:=List.take_of_length_le sP;rw[d]at b
   gi_wp2
   go_end0
   exact⟨⟨_,rfl⟩,.inl ⟨_,rfl,b⟩⟩
theorem WT(F n)(b:F.fn 129)(a:F.round=none)(s w):
 CallsIn F n prog 129 #[.string s] w λe c=>e=.returned (.func (.func 181) #[] #[.pointer (some ⟨w.heap.size,0,none⟩)])/\c=w.alloc (.cells #[.string s] 40):=by
 refine callsIn_of_wp func129 rfl b ?_ a;simp[ntmps129,Hn,EW,I8,Nat.reduceAdd,Nat.reduceSub,KA,KB,KJ,KE,Fo,Fj]
 gi_wp2
 go_ret
 exact⟨rfl,rfl⟩
theorem WU(F)(n:Nat)(i:F.fn 181)(d:F.round=none)(j:1<=n)(a:Nat)(s)(k:s.size<=1000000)(w)(b:a<w.heap.size)
 (h:w.cell? ⟨a,0,none⟩=some (.string s)):
 SeqStopsK F n prog 181 #[.pointer (some ⟨a,0,none⟩)] (λx:AH=>#[Value.int .u8 (x.toNat:Int)]) (λA B=>B.heap[a]? =A.heap[a]?) (λm=>m=s.data.toList) (λpre=>pre<+:s.data.toList) s.size w:=λl J e W hW _ _ g f=>by
 have c:=(hW.cell (p:=⟨a,0,none⟩) b).trans h;exact APl F n i d j l a s k J e g W c f
end Go.Proofs.YtomehhepbeiinaaGreatDoor
