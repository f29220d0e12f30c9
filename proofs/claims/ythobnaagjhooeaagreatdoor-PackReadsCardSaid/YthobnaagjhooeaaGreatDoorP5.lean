/- Writers and Readers that are nil; a Writer of any kind; floats. -/
import Derived.Test.YthobnaagjhooeaaGreatDoorP4
import Derived.Test.YthobnaagjhooeaaGreatDoorF1
import Derived.Test.YthobnaagjhooeaaGreatDoorShIns
set_option linter.unusedVariables false
set_option linter.unusedSimpArgs false
namespace Go.Proofs.YthobnaagjhooeaaGreatDoor
open Go.Sh
section
variable (Z : List PanicEntry → World → Prop) {o w : World} {R : List HProp} {g : Nat} {l k : List UInt8}
end
end Go.Proofs.YthobnaagjhooeaaGreatDoor
