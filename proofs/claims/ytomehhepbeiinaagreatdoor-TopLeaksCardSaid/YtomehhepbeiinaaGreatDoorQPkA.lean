/- Walks of single functions. No conditions. -/
import Derived.Test.YtomehhepbeiinaaGreatDoorQBut
set_option maxRecDepth 100000
set_option maxHeartbeats 4000000
set_option linter.all false
namespace Go.Proofs.YtomehhepbeiinaaGreatDoor
open Tryz
open Go.RowKit Go.Shelf
attribute [local go_sem] Oper.semAt_some
theorem AVg(F n)(b:F.fn 61)(a:F.round=none)(p s w)(d:p.oneCell')(f:s.oneCell'):
 CallsIn F n prog 61 #[p,s] w λe c=>e=.returned (.func (.func 119) #[] #[.pointer (some ⟨w.heap.size+1,0,none⟩),.pointer (some ⟨w.heap.size,0,none⟩)])/\c=(w.alloc (.cells #[p] 27)).alloc (.cells #[s] 38):=by
 refine callsIn_of_wp func61 rfl b ?_ a;simp[ntmps61,Hn,EW,I8,Nat.reduceAdd,Nat.reduceSub,KA,KB,KJ,KE,Fo,Fj]
 gi_wp2
 go_ret
 exact⟨rfl,rfl⟩
theorem AVf(n:Nat)(x:1<=n)(l j m:Nat)(p:Addr)(a:Option Addr)(sb so len c:Nat)(ha:0<len->a=some ⟨sb,so,none⟩)(hlen:len<=1000000)(ids:Nat->ByteArray)(J:Nat->World->Prop)(o:Nat->Bool->World->Prop)
 (h1:∀i W,J i W->i<len->W.cell? ⟨m,0,none⟩=some (.pointer (some p))/\W.cell? ⟨sb,so+i,none⟩=some (.string (ids i)))
 (s:∀i W,J i W->i<len->Calls prog 25 #[.pointer (some p),.string (ids i)] W λe W'=>∃b,e=.returned (.bool b)/\o i b W')
 (u:∀i b W,o i b W->i<len->YieldAt Fence.wide (n-1) prog l #[.bool b] W λe W'=>e=.returned (.bool true)/\J (i+1) W')
 (W:World) (r:W.cell? ⟨j,0,none⟩=some (.slice a len c)) (h0:J 0 W):
 CallsIn Fence.wide n prog 119 #[.func (.yield l) #[] #[],.pointer (some ⟨j,0,none⟩),.pointer (some ⟨m,0,none⟩)] W λe W'=>(∃v,e=.returned v)/\J len W':=by
 refine callsIn_of_wp func119 rfl trivial ?_ rfl;simp only[ntmps119,List.size_toArray,List.length_cons,List.length_nil,Nat.reduceAdd,Nat.reduceSub,Array.replicate_succ,Array.replicate_zero,List.push_toArray,List.append_toArray,List.nil_append,List.cons_append]
 gi_wp2
 gi_loopw [5,8] (λ_ i wr=>∃k:Nat,k<=len/\i=.int .i64 k/\J k wr)
  (λ_ i _=>len-(intOf i).toNat)
 case atStart=>exact⟨0,Nat.zero_le _,rfl,h0⟩
 case round=>
  obtain⟨k,hk,rfl,d⟩:=hrel;by_cases f:k<len
  .obtain rfl:=ha oG;obtain⟨c1,c2⟩:=h1 k wr d f
   gi_wp2
   refine⟨trivial,(callsIn_wide.2 (s k wr d f)).mono ?_⟩;rintro e q ⟨b,rfl,g⟩;obtain⟨fn,tmps,assign,body,y,t⟩:=u k b q g f
   gi_wp2
   refine t.mono ?_;rintro e w ⟨rfl,h⟩
   gi_wp2
   go_roundw
   case rel=>exact⟨k+1,oG,by go_num,h⟩
   case measure=>simp[intOf];omega
  .obtain rfl:k=len:=oG
   gi_wp2
   go_end0
   exact⟨⟨_,rfl⟩,d⟩
end Go.Proofs.YtomehhepbeiinaaGreatDoor
