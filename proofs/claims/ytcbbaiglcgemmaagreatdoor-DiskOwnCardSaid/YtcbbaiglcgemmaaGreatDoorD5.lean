
/- Disks, plainly: files told by what is among them. -/
import Derived.Test.YtcbbaiglcgemmaaGreatDoorD1
set_option linter.unusedVariables false
set_option linter.unusedSimpArgs false
namespace Go.Proofs.YtcbbaiglcgemmaaGreatDoor
open Go.Sh
def appF (fs : List Fil) (n p : Bs) : List Fil := (makeF fs n).modify (ix fs n) fun f => { f with by_ := f.by_ ++ p }
end Go.Proofs.YtcbbaiglcgemmaaGreatDoor
