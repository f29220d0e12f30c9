import Derived.Test.YtbdfhfceffkhgaaGreatDoorShBase
import Derived.Test.YtbdfhfceffkhgaaGreatDoorShDefer
set_option linter.unusedVariables false
namespace Go.Proofs.YtbdfhfceffkhgaaGreatDoor
open Go.Sh
open Go.Instr (loadAt storeAt fieldAt indexAt extract)
open Tryz renaming prog → π
def f41.sh (Z:PZ) (x0 x1 x2 x3:Value) (w:World) (Q:PQ):Prop:=
 rN π Z (Instr.box 33 x0) w fun t1 w=>
 rN π Z (Instr.box 9 x1) w fun t2 w=>
 rN π Z (Instr.box 4 x2) w fun t3 w=>
 rN π Z (Instr.box 22 x3) w fun t4 w=>
 rN π Z (Instr.alloc 30 true (.tuple #[])) w fun t5 w=>
 rN π Z (Instr.makeFunc (.func 64) #[] #[t5,t3,t1,t2,t4]) w fun t6 w=>
 deferV (t6) #[] fun d7=>
 ∀Z:PZ,(∀ch w,(leaveV π d7 (.panicking ch) w fun w=>
 ∃r_8,(do loadVar 30 (← asAddr t5):Sem Value).run π w=.ok r_8 w ∧
 Q r_8 w)→Z ch w) →
 Drawn w fun w=>
 rD π (loadAt 33 t1) w fun t9=>
 PureV π (nilChk t9) fun t10=>
 pU π (fieldAt 85 t10 0) fun t11=>
 rD π (loadAt 29 t11) w fun t12=>
 rD π (loadAt 9 t2) w fun t13=>
 rD π (loadAt 22 t4) w fun t14=>
 CallV π Z 66 #[t14] w fun t15 w=>
 Still π (nx (loadAt 9 t2)) t13 w <|
 Still π (nx (loadAt 29 t11)) t12 w <|
 Still π (nx (loadAt 33 t1)) t9 w <|
 CallV π Z 65 #[t12,t13,t15] w fun t16 w=>
 Still π (nx (loadAt 33 t1)) t9 w <|
 rO π Z (storeAt 30 t5 t16) w fun w=>
 rN π Z (loadAt 30 t5) w fun t17 w=>
 rN π Z (eqOp .neq 30 false true t17 (.int .i64 0)) w fun t18 w=>
 cV t18 (
 rN π Z (loadAt 30 t5) w fun t19 w=>
 rO π Z (storeAt 30 t5 t19) w fun w=>
 leaveV π d7 .returning w fun w=>
 ∃r_20,(do loadVar 30 (← asAddr t5):Sem Value).run π w=.ok r_20 w ∧
 Q r_20 w) (
 Drawn w fun w=>
 rD π (loadAt 33 t1) w fun t21=>
 PureV π (nilChk t21) fun t22=>
 pU π (fieldAt 85 t22 0) fun t23=>
 rD π (loadAt 29 t23) w fun t24=>
 rD π (loadAt 9 t2) w fun t25=>
 CallV π Z 67 #[t24,t25] w fun t26 w=>
 Still π (nx (loadAt 33 t1)) t21 w <|
 rO π Z (storeAt 30 t5 t26) w fun w=>
 leaveV π d7 .returning w fun w=>
 ∃r_27,(do loadVar 30 (← asAddr t5):Sem Value).run π w=.ok r_27 w ∧
 Q r_27 w)
def f41.an:An:=(.sq (.sq (.dr (pl [1,4,8,13,17,21,26,30,34] .fin)) (.q (.cn (.sq .leaf .leaf) .leaf))) (.sq (.dr (pl [1,4,8,13,17,22,26] .fin)) .leaf))
theorem f41.calls {Z:PZ} {x0 x1 x2 x3:Value} {w:World} {Q:PQ} (h:f41.sh Z x0 x1 x2 x3 w Q):CallV π Z 41 #[x0,x1,x2,x3] w Q:=
 clDef drawD_sound follows ents Tryz.func41 1 f41.an [x0,x1,x2,x3] (by kernel_rfl) (by kernel_rfl) h

