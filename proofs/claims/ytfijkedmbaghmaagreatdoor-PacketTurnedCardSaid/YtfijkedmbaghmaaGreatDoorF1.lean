/- Floats: what the document's Bits asks of them; that it ends. -/
import Derived.Test.YtfijkedmbaghmaaGreatDoorP1
import Derived.Test.YtfijkedmbaghmaaGreatDoorShFl
set_option linter.unusedVariables false
set_option linter.unusedSimpArgs false
namespace Go.Proofs.YtfijkedmbaghmaaGreatDoor
open Go.Sh
section
variable (Z : List PanicEntry → World → Prop) {o w : World} {R : List HProp}
end
end Go.Proofs.YtfijkedmbaghmaaGreatDoor
