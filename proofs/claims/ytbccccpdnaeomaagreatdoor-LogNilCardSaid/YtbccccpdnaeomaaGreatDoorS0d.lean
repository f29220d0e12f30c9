import Derived.Test.YtbccccpdnaeomaaGreatDoorShBase
import Derived.Test.YtbccccpdnaeomaaGreatDoorShDefer
set_option linter.unusedVariables false
namespace Go.Proofs.YtbccccpdnaeomaaGreatDoor
open Go.Sh
def f36.sh (Z : List PanicEntry → World → Prop) (x0 x1 x2 x3 : Value) (w : World) (Q : Value → World → Prop) : Prop :=
 run1 Tryz.prog Z (Instr.box 32 x0) w fun t1 w =>
 run1 Tryz.prog Z (Instr.box 9 x1) w fun t2 w =>
 run1 Tryz.prog Z (Instr.box 4 x2) w fun t3 w =>
 run1 Tryz.prog Z (Instr.box 30 x3) w fun t4 w =>
 run1 Tryz.prog Z (Instr.alloc 25 true (.tuple #[])) w fun t5 w =>
 run1 Tryz.prog Z (Instr.makeFunc (.func 58) #[] #[t5, t3, t1, t2, t4]) w fun t6 w =>
 deferV (t6) #[] fun d7 =>
 ∀ Z : List PanicEntry → World → Prop, (∀ ch w, (leaveV Tryz.prog d7 (.panicking ch) w fun w =>
 ∃ r_8, (do loadVar 25 (← asAddr t5) : Sem Value).run Tryz.prog w = .ok r_8 w ∧
 Q r_8 w) → Z ch w) →
 Drawn w fun w =>
 Read1 Tryz.prog (Instr.loadAt 32 t1) w fun t9 =>
 PureV Tryz.prog (nilChk t9) fun t10 =>
 Pure1 Tryz.prog (Instr.fieldAt 39 t10 0) fun t11 =>
 Read1 Tryz.prog (Instr.loadAt 24 t11) w fun t12 =>
 Read1 Tryz.prog (Instr.loadAt 9 t2) w fun t13 =>
 Read1 Tryz.prog (Instr.loadAt 30 t4) w fun t14 =>
 CallV Tryz.prog Z 59 #[t14] w fun t15 w =>
 Still Tryz.prog (nx (Instr.loadAt 9 t2)) t13 w <|
 Still Tryz.prog (nx (Instr.loadAt 24 t11)) t12 w <|
 Still Tryz.prog (nx (Instr.loadAt 32 t1)) t9 w <|
 CallV Tryz.prog Z 9 #[t12, t13, t15] w fun t16 w =>
 Still Tryz.prog (nx (Instr.loadAt 32 t1)) t9 w <|
 run0 Tryz.prog Z (Instr.storeAt 25 t5 t16) w fun w =>
 run1 Tryz.prog Z (Instr.loadAt 25 t5) w fun t17 w =>
 run1 Tryz.prog Z (eqOp .neq 25 false true t17 (.int .i64 0)) w fun t18 w =>
 CondV t18 (
 run1 Tryz.prog Z (Instr.loadAt 25 t5) w fun t19 w =>
 run0 Tryz.prog Z (Instr.storeAt 25 t5 t19) w fun w =>
 leaveV Tryz.prog d7 .returning w fun w =>
 ∃ r_20, (do loadVar 25 (← asAddr t5) : Sem Value).run Tryz.prog w = .ok r_20 w ∧
 Q r_20 w) (
 Drawn w fun w =>
 Read1 Tryz.prog (Instr.loadAt 32 t1) w fun t21 =>
 PureV Tryz.prog (nilChk t21) fun t22 =>
 Pure1 Tryz.prog (Instr.fieldAt 39 t22 0) fun t23 =>
 Read1 Tryz.prog (Instr.loadAt 24 t23) w fun t24 =>
 Read1 Tryz.prog (Instr.loadAt 9 t2) w fun t25 =>
 CallV Tryz.prog Z 60 #[t24, t25] w fun t26 w =>
 Still Tryz.prog (nx (Instr.loadAt 32 t1)) t21 w <|
 run0 Tryz.prog Z (Instr.storeAt 25 t5 t26) w fun w =>
 leaveV Tryz.prog d7 .returning w fun w =>
 ∃ r_27, (do loadVar 25 (← asAddr t5) : Sem Value).run Tryz.prog w = .ok r_27 w ∧
 Q r_27 w)
def f36.an : An := (.sq (.sq (.dr (pl [1, 4, 8, 13, 17, 21, 26, 30, 34] .fin)) (.sq .leaf (.cn (.sq .leaf .leaf) .leaf))) (.sq (.dr (pl [1, 4, 8, 13, 17, 22, 26] .fin)) .leaf))
theorem f36.calls {Z : List PanicEntry → World → Prop} {x0 x1 x2 x3 : Value} {w : World} {Q : Value → World → Prop} (h : f36.sh Z x0 x1 x2 x3 w Q) : CallV Tryz.prog Z 36 #[x0, x1, x2, x3] w Q :=
 clDef drawD_sound follows ents Tryz.func36 1 f36.an [x0, x1, x2, x3] (by kernel_rfl) (by kernel_rfl) h

end Go.Proofs.YtbccccpdnaeomaaGreatDoor
