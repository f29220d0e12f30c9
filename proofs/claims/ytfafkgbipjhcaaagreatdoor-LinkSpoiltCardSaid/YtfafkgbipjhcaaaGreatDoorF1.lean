/- Floats: what the document's Bits asks of them; that it ends. -/
import Derived.Test.YtfafkgbipjhcaaaGreatDoorP1
import Derived.Test.YtfafkgbipjhcaaaGreatDoorShFl
set_option linter.unusedVariables false
set_option linter.unusedSimpArgs false
namespace Go.Proofs.YtfafkgbipjhcaaaGreatDoor
open Go.Sh
section
variable (Z : List PanicEntry → World → Prop) {o w : World} {R : List HProp}
end
end Go.Proofs.YtfafkgbipjhcaaaGreatDoor
