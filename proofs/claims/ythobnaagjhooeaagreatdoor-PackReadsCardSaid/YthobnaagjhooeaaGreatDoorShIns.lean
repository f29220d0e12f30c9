/- What slices.Insert and slices.Delete want: appends of zeros, appends within the room, clear, a row just laid. Nothing of any one program stands here. -/
import Derived.Test.YthobnaagjhooeaaGreatDoorShOpen
import Derived.Lib.AppendZeros
import Derived.Lib.Overlaps
import Derived.Lib.SliceRun
import Derived.Laws.Externs
namespace Go.Sh
open Go.RowKit
section
variable {P : Program} {Z : List PanicEntry → World → Prop} {o w w' : World} {kk : Value → World → Prop} {R As : List HProp} {t tx tn e ty : TypeId} {sz bt n m : Nat} {z v x : Value} {xs ys : List Value}
theorem str_size (l : List UInt8) : (str l).size = l.length := rfl
end
end Go.Sh
