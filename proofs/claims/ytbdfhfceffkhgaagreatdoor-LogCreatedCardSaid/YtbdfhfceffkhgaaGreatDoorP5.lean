
/- Writers and Readers that are nil; a Writer of any kind; floats. -/
import Derived.Test.YtbdfhfceffkhgaaGreatDoorP4
import Derived.Test.YtbdfhfceffkhgaaGreatDoorF1
import Derived.Test.YtbdfhfceffkhgaaGreatDoorShIns
set_option linter.unusedVariables false
set_option linter.unusedSimpArgs false
namespace Go.Proofs.YtbdfhfceffkhgaaGreatDoor
open Go.Sh
section
variable (Z:PZ) {o w:World} {R:List HProp} {g:Nat} {l k:List UInt8}
end
