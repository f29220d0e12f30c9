import Derived.Test.YtfijkedmbaghmaaGreatDoorShBase
import Derived.Test.YtfijkedmbaghmaaGreatDoorShDefer
set_option linter.unusedVariables false
namespace Go.Proofs.YtfijkedmbaghmaaGreatDoor
open Go.Sh
open Go.Instr (loadAt storeAt fieldAt indexAt extract)
open Tryz renaming prog → π
def f23.sh (Z:PZ) (x0:Value) (w:World) (Q:PQ):Prop:=
 rN π Z (Instr.alloc 39 true (.tuple #[])) w fun t1 w=>
 rN π Z (Instr.alloc 43 true (.tuple #[])) w fun t2 w=>
 rN π Z (Instr.makeFunc (.func 73) #[] #[t1,t2]) w fun t3 w=>
 deferV (t3) #[] fun d4=>
 ∀Z:PZ,(∀ch w,(leaveV π d4 (.panicking ch) w fun w=>
 ∃r_5,(do loadVar 39 (← asAddr t1):Sem Value).run π w=.ok r_5 w ∧
 ∃r_6,(do loadVar 43 (← asAddr t2):Sem Value).run π w=.ok r_6 w ∧
 Q (Value.tuple #[r_5,r_6]) w)→Z ch w) →
 CallV π Z 74 #[x0] w fun t7 w=>
 CallV π Z 75 #[t7] w fun t8 w=>
 ∀j_9:World→Prop,(∀w:World,(Env →
 CallV π Z 77 #[t7] w fun t10 w=>
 rN π Z (fieldAt 39 t1 0) w fun t11 w=>
 rO π Z (storeAt 22 t11 t10) w fun w=>
 rN π Z (fieldAt 39 t1 0) w fun t12 w=>
 rN π Z (loadAt 22 t12) w fun t13 w=>
 CallV π Z 29 #[t13] w fun t14 w=>
 rN π Z (extract t14 0) w fun t15 w=>
 rN π Z (extract t14 1) w fun t16 w=>
 ∀j_17:World→Prop,(∀w:World,(Env →
 CallV π Z 31 #[] w fun t18 w=>
 rN π Z (Builtin.len_ #[90] 3 #[t18]) w fun t19 w=>
 ∃J_20:Nat→PQ,(∃m,J_20 m (.int .i64 0) w) ∧
 ∀m_20,∀t21:Value,∀w:World,J_20 m_20 t21 w→Env →
 rN π Z (binOp .lss 3 t21 t19) w fun t22 w=>
 cV t22 (
 ∀j_23:World→Prop,(∀w:World,(Env →
 rN π Z (binOp .add 3 t21 (.int .i64 1)) w fun t24 w=>
 ∃n_20,n_20 < m_20∧J_20 n_20 t24 w) →
 j_23 w) →
 rN π Z (indexAt 90 t18 t21) w fun t25 w=>
 rN π Z (loadAt 96 t25) w fun t26 w=>
 rN π Z (Instr.alloc 96 true (.tuple #[])) w fun t27 w=>
 rO π Z (storeAt 96 t27 t26) w fun w=>
 rN π Z (fieldAt 96 t27 0) w fun t28 w=>
 rN π Z (loadAt 3 t28) w fun t29 w=>
 rN π Z (binOp .and 3 t15 t29) w fun t30 w=>
 rN π Z (eqOp .neq 3 false true t30 (.int .i64 0)) w fun t31 w=>
 cV t31 (
 rN π Z (fieldAt 96 t27 2) w fun t32 w=>
 rN π Z (loadAt 93 t32) w fun t33 w=>
 runX π Z (callVal t33 #[t7,t1]) w fun t34 w=>
 j_23 w) (
 j_23 w)) (
 ∀j_35:World→Prop,(∀w:World,(Env →
 rN π Z (loadAt 39 t1) w fun t36 w=>
 rO π Z (storeAt 39 t1 t36) w fun w=>
 rO π Z (storeAt 43 t2 (.int .i64 0)) w fun w=>
 leaveV π d4 .returning w fun w=>
 ∃r_37,(do loadVar 39 (← asAddr t1):Sem Value).run π w=.ok r_37 w ∧
 ∃r_38,(do loadVar 43 (← asAddr t2):Sem Value).run π w=.ok r_38 w ∧
 Q (Value.tuple #[r_37,r_38]) w) →
 j_35 w) →
 CallV π Z 78 #[t7] w fun t39 w=>
 rN π Z (eqOp .neq 43 false true t39 (.int .i64 0)) w fun t40 w=>
 gW (t40) false (fun k=>rN π Z (loadAt 39 t1) w k) (fun t41 w=>
 gW (t40) false (fun k=>CallV π Z 12 #[t41] w k) (fun t42 w=>
 gW (t40) false (fun k=>rN π Z (eqOp .neq 43 false true t42 (.int .i64 0)) w k) (fun t43 w=>
 rN π Z (pickV t40 (.bool true) t43) w fun t44 w=>
 cV t44 (
 rN π Z (Instr.build 134 #[]) w fun t45 w=>
 rN π Z (Instr.makeInterface 134 t45) w fun t46 w=>
 rN π Z (Instr.panic t46) w fun _ w=>
 j_35 w) (
 j_35 w)) w) w) w)) →
 j_17 w) →
 CallV π Z 76 #[t7] w fun t47 w=>
 rN π Z (eqOp .neq 43 false true t47 (.int .i64 0)) w fun t48 w=>
 gW (t48) false (fun k=>k (t16) w) (fun t49 w=>
 gW (t48) false (fun k=>rN π Z (Op.unary .not t49) w k) (fun t50 w=>
 rN π Z (pickV t48 (.bool true) t50) w fun t51 w=>
 cV t51 (
 rN π Z (Instr.build 134 #[]) w fun t52 w=>
 rN π Z (Instr.makeInterface 134 t52) w fun t53 w=>
 rN π Z (Instr.panic t53) w fun _ w=>
 j_17 w) (
 j_17 w)) w) w) →
 j_9 w) →
 CallV π Z 76 #[t7] w fun t54 w=>
 rN π Z (eqOp .neq 43 false true t54 (.int .i64 0)) w fun t55 w=>
 gW (t55) false (fun k=>k (t8) w) (fun t56 w=>
 gW (t55) false (fun k=>k (x0) w) (fun t57 w=>
 gW (t55) false (fun k=>rN π Z (Instr.sliceAt 30 t57 (some (.int .i64 4)) none none) w k) (fun t58 w=>
 gW (t55) false (fun k=>CallV π Z 34 #[t58] w k) (fun t59 w=>
 gW (t55) false (fun k=>rN π Z (eqOp .neq 23 false false t56 t59) w k) (fun t60 w=>
 rN π Z (pickV t55 (.bool true) t60) w fun t61 w=>
 cV t61 (
 rN π Z (Instr.build 134 #[]) w fun t62 w=>
 rN π Z (Instr.makeInterface 134 t62) w fun t63 w=>
 rN π Z (Instr.panic t63) w fun _ w=>
 j_9 w) (
 j_9 w)) w) w) w) w) w
def f23.an:An:=(.q (.q (.sj [] (.q (.c)) (.q (.q (.sj [] (.q (.c)) (.sq (.q (.bl (.lp [47] (.q (.sq (.c) (.sj [] (.bl (.q (.q (.c)))) .leaf)))))) (.sj [] (.q (.c)) (.sq .leaf .leaf)))))))))
theorem f23.calls {Z:PZ} {x0:Value} {w:World} {Q:PQ} (h:f23.sh Z x0 w Q):CallV π Z 23 #[x0] w Q:=
 clDef drawD_sound follows ents Tryz.func23 1 f23.an [x0] (by kernel_rfl) (by kernel_rfl) h

def f73.rec (Z:PZ) (u:FrameMode) (x0 x1:Value) (w:World) (Q:FrameMode→World→Prop):Prop:=
 recV u fun t1 u=>
 rN π Z (eqOp .neq 20 false true t1 .nilIface) w fun t2 w=>
 cV t2 (
 ∀j_3:World→Prop,(∀w:World,(Env →
 rN π Z (Instr.build 39 #[]) w fun t4 w=>
 rO π Z (storeAt 39 x0 t4) w fun w=>
 rO π Z (storeAt 43 x1 (.int .i64 150)) w fun w=>
 Q u w) →
 j_3 w) →
 rN π Z (Instr.typeAssert t1 20 134 true) w fun t5 w=>
 rN π Z (extract t5 0) w fun t6 w=>
 rN π Z (extract t5 1) w fun t7 w=>
 rN π Z (Instr.alloc 134 true (.tuple #[])) w fun t8 w=>
 rO π Z (storeAt 134 t8 t6) w fun w=>
 rN π Z (Op.unary .not t7) w fun t9 w=>
 cV t9 (
 rN π Z (Instr.panic t1) w fun _ w=>
 j_3 w) (
 j_3 w)) (
 Q u w)
def f73.an:An:=(.q (.cn (.sj [] (.q (.q (.c))) .leaf) .leaf))
theorem f73.callD {Z:PZ} {u:FrameMode} {x0 x1:Value} {w:World} {Q:FrameMode→World→Prop} (h:f73.rec Z u x0 x1 w Q):CallD π Z 73 #[x0,x1] u w Q:=
 clRec drawD_sound follows ents Tryz.func73 f73.an [x0,x1] (by kernel_rfl) (by kernel_rfl) h

