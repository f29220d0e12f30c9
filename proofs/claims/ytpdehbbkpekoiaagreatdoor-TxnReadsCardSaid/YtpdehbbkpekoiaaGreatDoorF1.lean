/- Floats: what the document's Bits asks of them; that it ends. -/
import Derived.Test.YtpdehbbkpekoiaaGreatDoorP1
import Derived.Test.YtpdehbbkpekoiaaGreatDoorShFl
set_option linter.unusedVariables false
set_option linter.unusedSimpArgs false
namespace Go.Proofs.YtpdehbbkpekoiaaGreatDoor
open Go.Sh
section
variable (Z : List PanicEntry → World → Prop) {o w : World} {R : List HProp}
end
end Go.Proofs.YtpdehbbkpekoiaaGreatDoor
