import Derived.Test.YtejenmcjfhdcdaaProg
import Derived.Test.YtejenmcjfhdcdaaTy
set_option linter.unusedVariables false
namespace Go.Proofs.Ytejenmcjfhdcdaa
open Go.Sh
theorem follows : Try.prog.follows .mixedOrders = true := by kernel_rfl
theorem en2 : Enters Try.prog 2 := enters_of Try.func2 (by kernel_rfl) (c := match Try.f2.body with | some c => c | none => .skip) (by kernel_rfl)
theorem en3 : Enters Try.prog 3 := enters_of Try.func3 (by kernel_rfl) (c := match Try.f3.body with | some c => c | none => .skip) (by kernel_rfl)
theorem en4 : Enters Try.prog 4 := enters_of Try.func4 (by kernel_rfl) (c := match Try.f4.body with | some c => c | none => .skip) (by kernel_rfl)
theorem en5 : Enters Try.prog 5 := enters_of Try.func5 (by kernel_rfl) (c := match Try.f5.body with | some c => c | none => .skip) (by kernel_rfl)
theorem en6 : Enters Try.prog 6 := enters_of Try.func6 (by kernel_rfl) (c := match Try.f6.body with | some c => c | none => .skip) (by kernel_rfl)
theorem en7 : Enters Try.prog 7 := enters_of Try.func7 (by kernel_rfl) (c := match Try.f7.body with | some c => c | none => .skip) (by kernel_rfl)
theorem en8 : Enters Try.prog 8 := enters_of Try.func8 (by kernel_rfl) (c := match Try.f8.body with | some c => c | none => .skip) (by kernel_rfl)
theorem en9 : Enters Try.prog 9 := enters_of Try.func9 (by kernel_rfl) (c := match Try.f9.body with | some c => c | none => .skip) (by kernel_rfl)
theorem en10 : Enters Try.prog 10 := enters_of Try.func10 (by kernel_rfl) (c := match Try.f10.body with | some c => c | none => .skip) (by kernel_rfl)
theorem en11 : Enters Try.prog 11 := enters_of Try.func11 (by kernel_rfl) (c := match Try.f11.body with | some c => c | none => .skip) (by kernel_rfl)
theorem en12 : Enters Try.prog 12 := enters_of Try.func12 (by kernel_rfl) (c := match Try.f12.body with | some c => c | none => .skip) (by kernel_rfl)
theorem en13 : Enters Try.prog 13 := enters_of Try.func13 (by kernel_rfl) (c := match Try.f13.body with | some c => c | none => .skip) (by kernel_rfl)
theorem en14 : Enters Try.prog 14 := enters_of Try.func14 (by kernel_rfl) (c := match Try.f14.body with | some c => c | none => .skip) (by kernel_rfl)
theorem en15 : Enters Try.prog 15 := enters_of Try.func15 (by kernel_rfl) (c := match Try.f15.body with | some c => c | none => .skip) (by kernel_rfl)
theorem en16 : Enters Try.prog 16 := enters_of Try.func16 (by kernel_rfl) (c := match Try.f16.body with | some c => c | none => .skip) (by kernel_rfl)
theorem en17 : Enters Try.prog 17 := enters_of Try.func17 (by kernel_rfl) (c := match Try.f17.body with | some c => c | none => .skip) (by kernel_rfl)
theorem en18 : Enters Try.prog 18 := enters_of Try.func18 (by kernel_rfl) (c := match Try.f18.body with | some c => c | none => .skip) (by kernel_rfl)
theorem en19 : Enters Try.prog 19 := enters_of Try.func19 (by kernel_rfl) (c := match Try.f19.body with | some c => c | none => .skip) (by kernel_rfl)
theorem en20 : Enters Try.prog 20 := enters_of Try.func20 (by kernel_rfl) (c := match Try.f20.body with | some c => c | none => .skip) (by kernel_rfl)
theorem en21 : Enters Try.prog 21 := enters_of Try.func21 (by kernel_rfl) (c := match Try.f21.body with | some c => c | none => .skip) (by kernel_rfl)
theorem en22 : Enters Try.prog 22 := enters_of Try.func22 (by kernel_rfl) (c := match Try.f22.body with | some c => c | none => .skip) (by kernel_rfl)
theorem en23 : Enters Try.prog 23 := enters_of Try.func23 (by kernel_rfl) (c := match Try.f23.body with | some c => c | none => .skip) (by kernel_rfl)
theorem en24 : Enters Try.prog 24 := enters_of Try.func24 (by kernel_rfl) (c := match Try.f24.body with | some c => c | none => .skip) (by kernel_rfl)
theorem en25 : Enters Try.prog 25 := enters_of Try.func25 (by kernel_rfl) (c := match Try.f25.body with | some c => c | none => .skip) (by kernel_rfl)
theorem en26 : Enters Try.prog 26 := enters_of Try.func26 (by kernel_rfl) (c := match Try.f26.body with | some c => c | none => .skip) (by kernel_rfl)
end Go.Proofs.Ytejenmcjfhdcdaa
