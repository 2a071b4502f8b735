/- Walks of single functions. No conditions. -/
import Derived.Test.YtomehhepbeiinaaGreatDoorQOrd
set_option maxRecDepth 100000
set_option maxHeartbeats 4000000
set_option linter.all false
namespace Lz
def VZ(f):and f []=norm f:=AWV (ACd _ _) (Us _) λx=>by rw[sat_and,AKh,Uv,Yl]
def AGw(a b c):fl (jn a b) c=(fl a c&&fl b c):=by rw[If,Bt,Hz,Hz,Hz,AHk]
def Wh{a b c}(h:fl a b)(k:fl b c):fl a c:=Hz.2 (le_trans (Hz.1 h) (Hz.1 k))
theorem AZ1(s l):(Cu s l=0)↔(fl s.cur l&&fl l s.Al):=by unfold Cu;cases a:fl s.cur l<;>cases b:fl l s.Al<;>simp
end Lz
