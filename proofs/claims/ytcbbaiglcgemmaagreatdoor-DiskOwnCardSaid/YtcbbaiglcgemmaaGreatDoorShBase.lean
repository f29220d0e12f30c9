import Derived.Test.YtcbbaiglcgemmaaGreatDoorProg
import Derived.Test.YtcbbaiglcgemmaaGreatDoorTy
set_option linter.unusedVariables false
namespace Go.Proofs.YtcbbaiglcgemmaaGreatDoor
open Go.Sh
theorem follows : Tryz.prog.follows .mixedOrders = true := by kernel_rfl
def fns : List Nat := [2, 3, 4, 5, 6, 7, 8, 9, 10, 11, 12, 13, 14, 15, 16, 17, 18, 19, 20, 21, 22, 23, 24, 25, 26, 27, 28, 29, 30, 31, 32, 33, 34, 35, 36, 37, 38, 39, 40, 41, 42, 43, 44, 45, 46, 47, 48, 49, 50, 51, 52, 53, 54, 55, 56, 57, 58, 59, 60, 61, 62, 63, 64, 65, 66, 67, 68, 69, 70, 71, 72, 73, 74, 75, 76, 77, 78, 79, 80, 81, 82, 83, 84, 85, 86, 87, 88, 89, 91, 92, 93, 94, 95, 96, 97, 98, 99, 100, 101, 102, 103, 104, 105, 106, 107, 130]
theorem ents : ∀ g, memN g fns = true → Enters Tryz.prog g := ent_of (by kernel_rfl)
theorem cl {Z : List PanicEntry → World → Prop} {f : FuncId} {fn : Func} (hf : Tryz.prog.funcs[f]? = some fn) (an : An) (args : List Value) (ho : okFn fn args.length = true) {w : World} {Q : Value → World → Prop} {S : Prop} (hs : vc drawD Tryz.prog fn.ntmps Z fns an (codeOf fn) (fnQ Tryz.prog fn.ntmps fn.results Q) (argEnv args) w = S) (h : S) : CallV Tryz.prog Z f args.toArray w Q := clls drawD_sound follows ents hf an args ho hs h
end Go.Proofs.YtcbbaiglcgemmaaGreatDoor
