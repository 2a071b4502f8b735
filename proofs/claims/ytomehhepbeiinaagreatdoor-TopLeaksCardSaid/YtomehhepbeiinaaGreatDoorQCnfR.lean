/- Walks of single functions. No conditions. -/
import Derived.Test.YtomehhepbeiinaaGreatDoorQOr
set_option maxRecDepth 100000
set_option maxHeartbeats 4000000
set_option linter.all false
namespace Lz
end Lz
namespace Go.Proofs.YtomehhepbeiinaaGreatDoor
open Tryz
open Go.RowKit Go.Shelf
attribute [local go_sem] IB Ek
theorem AO6(s)(d:s.size<=1000000)(w):
 Calls prog 396 #[.string s] w λe f=>e=.returned (.bool (Lz.norm s.data.toList==s.data.toList))/\Below w.heap.size w f:=by
 have b:=ByteArray.toList_eq s;have c:=Lib.hid b
 go_enter func396,ntmps396
 go_wp2_with fail
 refine(NB s d _).mono ?_;rintro e g ⟨rfl,a⟩
 go_wp2
 go_ret
 exact⟨Qr (by rw[<-c.out]),a⟩
end Go.Proofs.YtomehhepbeiinaaGreatDoor
