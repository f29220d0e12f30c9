
/- Floats: what the document's Bits asks of them; that it ends. -/
import Derived.Test.YtbdfhfceffkhgaaGreatDoorP4
import Derived.Test.YtbdfhfceffkhgaaGreatDoorShFl
set_option linter.unusedVariables false
set_option linter.unusedSimpArgs false
namespace Go.Proofs.YtbdfhfceffkhgaaGreatDoor
open Go.Sh
section
variable (Z:PZ) {o w:World} {R:List HProp}
end
