/- Walks of single functions. No conditions. -/
import Derived.Test.YtomehhepbeiinaaGreatDoorQLabel3
import Derived.BigQuiet
import Derived.Test.YtomehhepbeiinaaGreatDoorQOrd2
import Derived.Test.YtomehhepbeiinaaGreatDoorQPriv
import Derived.Test.YtomehhepbeiinaaGreatDoorQFix
set_option maxRecDepth 100000
set_option maxHeartbeats 4000000
set_option linter.all false
namespace Go.Proofs.YtomehhepbeiinaaGreatDoor
open Tryz
open Go.RowKit Go.Shelf
open Lz (Iz Ge Xe ACH)
theorem AEm(a b):(Lz.and a b).length<=256:=XG _ 256
def T1(s i b a:AA AH)(p:AH):Bool:=Lz.H5 (Lz.and b (Ge p)) s&&Lz.H5 (Lz.and i (Ge p)) a
theorem AVp(s i b h)(J:s.size<=1000000)(L:i.size<=1000000)(q:b.size<=1000000)(C:h.size<=1000000)(x:Int)(p)(N:x=p.toNat)(w):
 Calls prog 359 #[.agg #[.string s,.string i],.agg #[.string b,.string h],.int .u8 x] w λe I=>e=.returned (.bool (T1 s.data.toList i.data.toList b.data.toList h.data.toList p))/\Below w.heap.size w I:=by
 subst N;have t:=(Dm.new w 42 (.string s) (.string i)).alloc (.cells #[.string b,.string h] 42);have n:=Dm.new (w.alloc (.cells #[.string s,.string i] 42)) 42 (.string b) (.string h);rw[World.size_alloc]at n;have u:Below w.heap.size w ((w.alloc (.cells #[.string s,.string i] 42)).alloc (.cells #[.string b,.string h] 42)):=((Below.refl _ w).alloc (AZ _) _).alloc sP _;have M:=ACH p;have mixed:=mixedOrders;have k:(str (Ge p)).size<=1000000:=by rw[Ek];omega
 have r:(str (Lz.and b.data.toList (Ge p))).size<=1000000:=by have:=AEm b.data.toList (Ge p);rw[Ek];omega
 have D:(str (Lz.and i.data.toList (Ge p))).size<=1000000:=by have:=AEm i.data.toList (Ge p);rw[Ek];omega
 cases m:Lz.H5 (Lz.and b.data.toList (Ge p)) s.data.toList with
 |false=>
  have o:T1 s.data.toList i.data.toList b.data.toList h.data.toList p=false:=by unfold T1;rw[m];rfl
  rw[o];have v:=Lib.hid m
  go_enter func359,ntmps359
  go_wp2_with fail
  refine(AJM _ p rfl _).mono ?_;rintro e l ⟨rfl,a⟩;have c:=t.below a t.lt;have d:=n.below a n.lt;have E:=cell_regrown c.cell0;have F:=cell_regrown c.cell1;have G:=cell_regrown d.cell0;have H:=cell_regrown d.cell1;have c1:=Qq (w:=l) (λW _=>Ta b (str (Ge p)) q k W);have c2:=Qq (w:=l) (v:=.bool false) (λW _=>(Rx (str (Lz.and b.data.toList (Ge p))) s r J W).mono λe I ⟨B,A⟩=>⟨by rw[B,H6,v.out],A⟩);rw[H6]at c1
  go_wp2_with fail
  refine wp_region_quiet_below mixed kR ?_
  repeat(go_big_quiet_step (fail))
  go_big_quiet_step (exact c1 _ _)
  repeat(go_big_quiet_step (fail))
  go_big_quiet_step (exact c2 _ _)
  repeat(go_big_quiet_step (fail))
  refine wpQuiet_nil ?_;intro K g;have j:=Vz g
  go_wp2
  go_ret
  have f:=u.trans (a.mono u.size);exact⟨rfl,f.trans (j.mono f.size)⟩
 |true=>
  have o:T1 s.data.toList i.data.toList b.data.toList h.data.toList p=Lz.H5 (Lz.and i.data.toList (Ge p)) h.data.toList:=by unfold T1;rw[m];rfl
  rw[o];have v:=Lib.hid m
  go_enter func359,ntmps359
  go_wp2_with fail
  refine(AJM _ p rfl _).mono ?_;rintro e l ⟨rfl,a⟩;have c:=t.below a t.lt;have d:=n.below a n.lt;have E:=cell_regrown c.cell0;have F:=cell_regrown c.cell1;have G:=cell_regrown d.cell0;have H:=cell_regrown d.cell1;have c1:=Qq (w:=l) (λW _=>Ta b (str (Ge p)) q k W);have c2:=Qq (w:=l) (v:=.bool true) (λW _=>(Rx (str (Lz.and b.data.toList (Ge p))) s r J W).mono λe I ⟨B,A⟩=>⟨by rw[B,H6,v.out],A⟩);have y:=Qq (w:=l) (λW _=>Ta i (str (Ge p)) L k W);have z:=Qq (w:=l) (λW _=>Rx (str (Lz.and i.data.toList (Ge p))) h D C W);rw[H6]at c1 y z
  go_wp2_with fail
  refine wp_region_quiet_below mixed kR ?_
  repeat(go_big_quiet_step (fail))
  go_big_quiet_step (exact c1 _ _)
  repeat(go_big_quiet_step (fail))
  go_big_quiet_step (exact c2 _ _)
  repeat(go_big_quiet_step (fail))
  go_big_quiet_step (exact y _ _)
  repeat(go_big_quiet_step (fail))
  go_big_quiet_step (exact z _ _)
  repeat(go_big_quiet_step (fail))
  refine wpQuiet_nil ?_;intro K g;have j:=Vz g
  go_wp2
  go_ret
  have f:=u.trans (a.mono u.size);exact⟨rfl,f.trans (j.mono f.size)⟩
end Go.Proofs.YtomehhepbeiinaaGreatDoor
