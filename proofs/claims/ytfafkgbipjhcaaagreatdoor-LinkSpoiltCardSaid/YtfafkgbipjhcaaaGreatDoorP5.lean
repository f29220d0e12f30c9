/- Writers and Readers that are nil; a Writer of any kind; floats. -/
import Derived.Test.YtfafkgbipjhcaaaGreatDoorP4
import Derived.Test.YtfafkgbipjhcaaaGreatDoorF1
import Derived.Test.YtfafkgbipjhcaaaGreatDoorShIns
set_option linter.unusedVariables false
set_option linter.unusedSimpArgs false
namespace Go.Proofs.YtfafkgbipjhcaaaGreatDoor
open Go.Sh
section
variable (Z : List PanicEntry → World → Prop) {o w : World} {R : List HProp} {g : Nat} {l k : List UInt8}
end
end Go.Proofs.YtfafkgbipjhcaaaGreatDoor
