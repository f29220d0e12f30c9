
/- Writers and Readers that are nil; a Writer of any kind; floats. -/
import Derived.Test.YtbccccpdnaeomaaGreatDoorP4
import Derived.Test.YtbccccpdnaeomaaGreatDoorF1
import Derived.Test.YtbccccpdnaeomaaGreatDoorShIns
set_option linter.unusedVariables false
set_option linter.unusedSimpArgs false
namespace Go.Proofs.YtbccccpdnaeomaaGreatDoor
open Go.Sh
section
variable (Z : List PanicEntry → World → Prop) {o w : World} {R : List HProp} {g : Nat} {l k : List UInt8}
end
end Go.Proofs.YtbccccpdnaeomaaGreatDoor
