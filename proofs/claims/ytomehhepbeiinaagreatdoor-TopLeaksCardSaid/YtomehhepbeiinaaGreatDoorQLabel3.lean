/- Walks of single functions. No conditions. -/
import Derived.Test.YtomehhepbeiinaaGreatDoorQLabel2
import Derived.Deep.QuietTactic
set_option maxRecDepth 100000
set_option maxHeartbeats 4000000
set_option linter.all false
namespace Go.Proofs.YtomehhepbeiinaaGreatDoor
open Tryz
open Go.RowKit Go.Shelf
theorem ASr:prog.underlying 42=some (.struct (prog.fieldsOf 42)):=kR
theorem ASq:prog.stoodInHeld 42=false:=kR
theorem AGe(n a b c d w):(Op.equalIn (n+3) 42 (.agg #[.string a,.string b]) (.agg #[.string c,.string d])).run prog w=.ok (a.toList==c.toList&&b.toList==d.toList) w:=by rw[run_equalIn_agg w (n+2) 42 _ _ ASr ASq];simp[Program.fieldsOf,underlying42];go_simp;cases e:(a.toList==c.toList)<;>cases f:(b.toList==d.toList)<;>simp_all
theorem AP9(a b c d w):(binOp .eql 42 (.agg #[.string a,.string b]) (.agg #[.string c,.string d])).run prog w=.ok (.bool (a.toList==c.toList&&b.toList==d.toList)) w:=by rw[run_eql_struct,show(10000:Nat)=9997+3 from rfl,AGe];rfl
theorem AUS(a b c d w):(binOp .neq 42 (.agg #[.string a,.string b]) (.agg #[.string c,.string d])).run prog w=.ok (.bool (!(a.toList==c.toList&&b.toList==d.toList))) w:=by rw[run_neq_struct,show(10000:Nat)=9997+3 from rfl,AGe];rfl
attribute [local go_sem high] AP9 AUS
attribute [local go_sem] IB
theorem ASp(s i)(g:s.size<=1000000)(f:i.size<=1000000)(w):
 Calls prog 136 #[.agg #[.string s,.string i]] w λe k=>e=.returned (.bool (Lz.norm s.data.toList==s.data.toList&&Lz.norm i.data.toList==i.data.toList))/\Below w.heap.size w k:=by
 have c:=Dm.new w 42 (.string s) (.string i);have h:=cell_regrown c.cell0;have j:=cell_regrown c.cell1;have d:Below w.heap.size w (w.alloc (.cells #[.string s,.string i] 42)):=(Below.refl _ w).alloc (AZ _) _;have cN:=Qq (w:=w.alloc (.cells #[.string s,.string i] 42)) (λW _=>AIC s i g f W);have mixed:=mixedOrders
 go_enter func136,ntmps136
 go_wp2_with fail
 refine wp_region_quiet_below mixed kR ?_
 repeat(quiet_step (exact cN _ _))
 refine wpQuiet_nil ?_;intro l a;have b:=Vz a
 go_wp2
 go_ret
 exact⟨Qr (by rw[<-ByteArray.toList_eq s,<-ByteArray.toList_eq i]),d.trans (b.mono d.size)⟩
end Go.Proofs.YtomehhepbeiinaaGreatDoor
