
/- Floats: what the document's Bits asks of them; that it ends. -/
import Derived.Test.YtbccccpdnaeomaaGreatDoorP1
import Derived.Test.YtbccccpdnaeomaaGreatDoorShFl
set_option linter.unusedVariables false
set_option linter.unusedSimpArgs false
namespace Go.Proofs.YtbccccpdnaeomaaGreatDoor
open Go.Sh
section
variable (Z : List PanicEntry → World → Prop) {o w : World} {R : List HProp}
end
end Go.Proofs.YtbccccpdnaeomaaGreatDoor
