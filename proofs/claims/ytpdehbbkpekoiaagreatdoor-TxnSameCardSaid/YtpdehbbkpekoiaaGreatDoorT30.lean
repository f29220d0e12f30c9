/- The document's CheckRequest and Check. -/
import Derived.Test.YtpdehbbkpekoiaaGreatDoorT27
set_option linter.unusedVariables false
set_option linter.unusedSimpArgs false
namespace Go.Proofs.YtpdehbbkpekoiaaGreatDoor
open Go.Sh
section
variable (Z : List PanicEntry → World → Prop) {o w : World} {R As : List HProp}
end
end Go.Proofs.YtpdehbbkpekoiaaGreatDoor

/- The document's may, CheckRequest, Check: what the code's answer. -/
set_option linter.unusedVariables false
set_option linter.unusedSimpArgs false
namespace Go.Proofs.YtpdehbbkpekoiaaGreatDoor
open Go.Sh
section
variable (Z : List PanicEntry → World → Prop) {o w : World} {R As : List HProp}
end
end Go.Proofs.YtpdehbbkpekoiaaGreatDoor

/- The document's CheckRequest and Check. -/
set_option linter.unusedVariables false
set_option linter.unusedSimpArgs false
namespace Go.Proofs.YtpdehbbkpekoiaaGreatDoor
open Go.Sh
section
variable (Z : List PanicEntry → World → Prop) {o w : World} {R As : List HProp}
end
end Go.Proofs.YtpdehbbkpekoiaaGreatDoor
