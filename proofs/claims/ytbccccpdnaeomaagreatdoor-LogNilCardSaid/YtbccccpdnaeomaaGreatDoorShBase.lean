import Derived.Test.YtbccccpdnaeomaaGreatDoorProg
import Derived.Test.YtbccccpdnaeomaaGreatDoorTy
set_option linter.unusedVariables false
namespace Go.Proofs.YtbccccpdnaeomaaGreatDoor
open Go.Sh
theorem follows : Tryz.prog.follows .mixedOrders = true := by kernel_rfl
def fns : List Nat := [2, 3, 4, 5, 6, 7, 8, 9, 10, 11, 12, 13, 14, 15, 16, 17, 18, 19, 20, 21, 22, 23, 24, 25, 26, 27, 28, 29, 30, 31, 32, 33, 34, 35, 36, 37, 38, 39, 40, 41, 42, 43, 44, 45, 46, 47, 48, 49, 50, 51, 52, 53, 54, 55, 56, 57, 58, 59, 60, 61, 62, 63, 64, 65, 66, 67, 68, 69, 71, 72, 73, 74, 75, 76, 77, 78, 79, 80, 81, 82, 83, 84, 85, 86, 87, 88, 89, 90, 91, 92, 93, 94, 95, 96, 97, 98, 99, 100, 101, 102, 103, 104, 105, 106, 107, 108, 109, 110, 111, 112, 113, 114, 115, 116, 117, 118, 119, 120, 121, 122, 123, 124, 125, 126, 127, 128, 129, 130, 131, 132, 133, 134, 135, 136, 137, 138, 139, 140, 141, 142, 143, 144, 145, 146, 147, 148, 149, 150, 151, 152, 153, 154, 155, 156, 157, 158, 159, 160, 161, 162, 163, 164, 165, 166, 167, 168, 169, 170, 171, 172, 173, 174, 175, 176, 177, 178, 179, 180, 181, 182, 183, 184, 212]
theorem ents : ∀ g, memN g fns = true → Enters Tryz.prog g := ent_of (by kernel_rfl)
theorem en30 : Enters Tryz.prog 30 := ents 30 (by kernel_rfl)
theorem en58 : Enters Tryz.prog 58 := ents 58 (by kernel_rfl)
theorem en86 : Enters Tryz.prog 86 := ents 86 (by kernel_rfl)
theorem en92 : Enters Tryz.prog 92 := ents 92 (by kernel_rfl)
theorem en127 : Enters Tryz.prog 127 := ents 127 (by kernel_rfl)
theorem en131 : Enters Tryz.prog 131 := ents 131 (by kernel_rfl)
theorem en139 : Enters Tryz.prog 139 := ents 139 (by kernel_rfl)
theorem en143 : Enters Tryz.prog 143 := ents 143 (by kernel_rfl)
theorem en150 : Enters Tryz.prog 150 := ents 150 (by kernel_rfl)
theorem en153 : Enters Tryz.prog 153 := ents 153 (by kernel_rfl)
theorem en169 : Enters Tryz.prog 169 := ents 169 (by kernel_rfl)
theorem en173 : Enters Tryz.prog 173 := ents 173 (by kernel_rfl)
theorem cl {Z : List PanicEntry → World → Prop} {f : FuncId} {fn : Func} (hf : Tryz.prog.funcs[f]? = some fn) (an : An) (args : List Value) (ho : okFn fn args.length = true) {w : World} {Q : Value → World → Prop} {S : Prop} (hs : vc drawD Tryz.prog fn.ntmps Z fns an (codeOf fn) (fnQ Tryz.prog fn.ntmps fn.results Q) (argEnv args) w = S) (h : S) : CallV Tryz.prog Z f args.toArray w Q := clls drawD_sound follows ents hf an args ho hs h
end Go.Proofs.YtbccccpdnaeomaaGreatDoor
