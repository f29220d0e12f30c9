import Derived.Test.YtfafkgbipjhcaaaGreatDoorShBase
import Derived.Test.YtfafkgbipjhcaaaGreatDoorShDefer
set_option linter.unusedVariables false
namespace Go.Proofs.YtfafkgbipjhcaaaGreatDoor
open Go.Sh
def f14.sh (Z : List PanicEntry → World → Prop) (x0 : Value) (w : World) (Q : Value → World → Prop) : Prop :=
 run1 Tryz.prog Z (Instr.alloc 39 true (.tuple #[])) w fun t1 w =>
 run1 Tryz.prog Z (Instr.alloc 42 true (.tuple #[])) w fun t2 w =>
 run1 Tryz.prog Z (Instr.makeFunc (.func 43) #[] #[t1, t2]) w fun t3 w =>
 deferV (t3) #[] fun d4 =>
 ∀ Z : List PanicEntry → World → Prop, (∀ ch w, (leaveV Tryz.prog d4 (.panicking ch) w fun w =>
 ∃ r_5, (do loadVar 39 (← asAddr t1) : Sem Value).run Tryz.prog w = .ok r_5 w ∧
 ∃ r_6, (do loadVar 42 (← asAddr t2) : Sem Value).run Tryz.prog w = .ok r_6 w ∧
 Q (Value.tuple #[r_5, r_6]) w) → Z ch w) →
 CallV Tryz.prog Z 44 #[x0] w fun t7 w =>
 CallV Tryz.prog Z 45 #[t7] w fun t8 w =>
 ∀ j_9 : World → Prop, (∀ w : World, (Env →
 CallV Tryz.prog Z 47 #[t7] w fun t10 w =>
 run1 Tryz.prog Z (Instr.fieldAt 39 t1 0) w fun t11 w =>
 run0 Tryz.prog Z (Instr.storeAt 22 t11 t10) w fun w =>
 run1 Tryz.prog Z (Instr.fieldAt 39 t1 0) w fun t12 w =>
 run1 Tryz.prog Z (Instr.loadAt 22 t12) w fun t13 w =>
 CallV Tryz.prog Z 27 #[t13] w fun t14 w =>
 run1 Tryz.prog Z (Instr.extract t14 0) w fun t15 w =>
 run1 Tryz.prog Z (Instr.extract t14 1) w fun t16 w =>
 ∀ j_17 : World → Prop, (∀ w : World, (Env →
 CallV Tryz.prog Z 29 #[] w fun t18 w =>
 run1 Tryz.prog Z (Builtin.len_ #[77] 3 #[t18]) w fun t19 w =>
 ∃ J_20 : Nat → Value → World → Prop, (∃ m, J_20 m (.int .i64 0) w) ∧
 ∀ m_20, ∀ t21 : Value, ∀ w : World, J_20 m_20 t21 w → Env →
 run1 Tryz.prog Z (binOp .lss 3 t21 t19) w fun t22 w =>
 CondV t22 (
 ∀ j_23 : World → Prop, (∀ w : World, (Env →
 run1 Tryz.prog Z (binOp .add 3 t21 (.int .i64 1)) w fun t24 w =>
 ∃ n_20, n_20 < m_20 ∧ J_20 n_20 t24 w) →
 j_23 w) →
 run1 Tryz.prog Z (Instr.indexAt 77 t18 t21) w fun t25 w =>
 run1 Tryz.prog Z (Instr.loadAt 83 t25) w fun t26 w =>
 run1 Tryz.prog Z (Instr.alloc 83 true (.tuple #[])) w fun t27 w =>
 run0 Tryz.prog Z (Instr.storeAt 83 t27 t26) w fun w =>
 run1 Tryz.prog Z (Instr.fieldAt 83 t27 0) w fun t28 w =>
 run1 Tryz.prog Z (Instr.loadAt 3 t28) w fun t29 w =>
 run1 Tryz.prog Z (binOp .and 3 t15 t29) w fun t30 w =>
 run1 Tryz.prog Z (eqOp .neq 3 false true t30 (.int .i64 0)) w fun t31 w =>
 CondV t31 (
 run1 Tryz.prog Z (Instr.fieldAt 83 t27 2) w fun t32 w =>
 run1 Tryz.prog Z (Instr.loadAt 80 t32) w fun t33 w =>
 runX Tryz.prog Z (callVal t33 #[t7, t1]) w fun t34 w =>
 j_23 w) (
 j_23 w)) (
 ∀ j_35 : World → Prop, (∀ w : World, (Env →
 run1 Tryz.prog Z (Instr.loadAt 39 t1) w fun t36 w =>
 run0 Tryz.prog Z (Instr.storeAt 39 t1 t36) w fun w =>
 run0 Tryz.prog Z (Instr.storeAt 42 t2 (.int .i64 0)) w fun w =>
 leaveV Tryz.prog d4 .returning w fun w =>
 ∃ r_37, (do loadVar 39 (← asAddr t1) : Sem Value).run Tryz.prog w = .ok r_37 w ∧
 ∃ r_38, (do loadVar 42 (← asAddr t2) : Sem Value).run Tryz.prog w = .ok r_38 w ∧
 Q (Value.tuple #[r_37, r_38]) w) →
 j_35 w) →
 CallV Tryz.prog Z 48 #[t7] w fun t39 w =>
 run1 Tryz.prog Z (eqOp .neq 42 false true t39 (.int .i64 0)) w fun t40 w =>
 guardW (t40) false (fun k => run1 Tryz.prog Z (Instr.loadAt 39 t1) w k) (fun t41 w =>
 guardW (t40) false (fun k => CallV Tryz.prog Z 26 #[t41] w k) (fun t42 w =>
 guardW (t40) false (fun k => run1 Tryz.prog Z (eqOp .neq 42 false true t42 (.int .i64 0)) w k) (fun t43 w =>
 run1 Tryz.prog Z (pickV t40 (.bool true) t43) w fun t44 w =>
 CondV t44 (
 run1 Tryz.prog Z (Instr.build 100 #[]) w fun t45 w =>
 run1 Tryz.prog Z (Instr.makeInterface 100 t45) w fun t46 w =>
 run1 Tryz.prog Z (Instr.panic t46) w fun _ w =>
 j_35 w) (
 j_35 w)) w) w) w)) →
 j_17 w) →
 CallV Tryz.prog Z 46 #[t7] w fun t47 w =>
 run1 Tryz.prog Z (eqOp .neq 42 false true t47 (.int .i64 0)) w fun t48 w =>
 guardW (t48) false (fun k => k (t16) w) (fun t49 w =>
 guardW (t48) false (fun k => run1 Tryz.prog Z (Op.unary .not t49) w k) (fun t50 w =>
 run1 Tryz.prog Z (pickV t48 (.bool true) t50) w fun t51 w =>
 CondV t51 (
 run1 Tryz.prog Z (Instr.build 100 #[]) w fun t52 w =>
 run1 Tryz.prog Z (Instr.makeInterface 100 t52) w fun t53 w =>
 run1 Tryz.prog Z (Instr.panic t53) w fun _ w =>
 j_17 w) (
 j_17 w)) w) w) →
 j_9 w) →
 CallV Tryz.prog Z 46 #[t7] w fun t54 w =>
 run1 Tryz.prog Z (eqOp .neq 42 false true t54 (.int .i64 0)) w fun t55 w =>
 guardW (t55) false (fun k => k (t8) w) (fun t56 w =>
 guardW (t55) false (fun k => k (x0) w) (fun t57 w =>
 guardW (t55) false (fun k => run1 Tryz.prog Z (Instr.sliceAt 30 t57 (some (.int .i64 4)) none none) w k) (fun t58 w =>
 guardW (t55) false (fun k => CallV Tryz.prog Z 32 #[t58] w k) (fun t59 w =>
 guardW (t55) false (fun k => run1 Tryz.prog Z (eqOp .neq 23 false false t56 t59) w k) (fun t60 w =>
 run1 Tryz.prog Z (pickV t55 (.bool true) t60) w fun t61 w =>
 CondV t61 (
 run1 Tryz.prog Z (Instr.build 100 #[]) w fun t62 w =>
 run1 Tryz.prog Z (Instr.makeInterface 100 t62) w fun t63 w =>
 run1 Tryz.prog Z (Instr.panic t63) w fun _ w =>
 j_9 w) (
 j_9 w)) w) w) w) w) w
def f14.an : An := (.sq .leaf (.sq .leaf (.sj [] (.sq .leaf (.cn .leaf .leaf)) (.sq .leaf (.sq .leaf (.sj [] (.sq .leaf (.cn .leaf .leaf)) (.sq (.sq .leaf (.bl (.lp [47] (.sq .leaf (.sq (.cn .leaf .leaf) (.sj [] (.bl (.sq .leaf (.sq .leaf (.cn .leaf .leaf)))) .leaf)))))) (.sj [] (.sq .leaf (.cn .leaf .leaf)) (.sq .leaf .leaf)))))))))
theorem f14.calls {Z : List PanicEntry → World → Prop} {x0 : Value} {w : World} {Q : Value → World → Prop} (h : f14.sh Z x0 w Q) : CallV Tryz.prog Z 14 #[x0] w Q :=
 clDef drawD_sound follows ents Tryz.func14 1 f14.an [x0] (by kernel_rfl) (by kernel_rfl) h

def f43.rec (Z : List PanicEntry → World → Prop) (u : FrameMode) (x0 x1 : Value) (w : World) (Q : FrameMode → World → Prop) : Prop :=
 recV u fun t1 u =>
 run1 Tryz.prog Z (eqOp .neq 20 false true t1 .nilIface) w fun t2 w =>
 CondV t2 (
 ∀ j_3 : World → Prop, (∀ w : World, (Env →
 run1 Tryz.prog Z (Instr.build 39 #[]) w fun t4 w =>
 run0 Tryz.prog Z (Instr.storeAt 39 x0 t4) w fun w =>
 run0 Tryz.prog Z (Instr.storeAt 42 x1 (.int .i64 150)) w fun w =>
 Q u w) →
 j_3 w) →
 run1 Tryz.prog Z (Instr.typeAssert t1 20 100 true) w fun t5 w =>
 run1 Tryz.prog Z (Instr.extract t5 0) w fun t6 w =>
 run1 Tryz.prog Z (Instr.extract t5 1) w fun t7 w =>
 run1 Tryz.prog Z (Instr.alloc 100 true (.tuple #[])) w fun t8 w =>
 run0 Tryz.prog Z (Instr.storeAt 100 t8 t6) w fun w =>
 run1 Tryz.prog Z (Op.unary .not t7) w fun t9 w =>
 CondV t9 (
 run1 Tryz.prog Z (Instr.panic t1) w fun _ w =>
 j_3 w) (
 j_3 w)) (
 Q u w)
def f43.an : An := (.sq .leaf (.cn (.sj [] (.sq .leaf (.sq .leaf (.cn .leaf .leaf))) .leaf) .leaf))
theorem f43.callD {Z : List PanicEntry → World → Prop} {u : FrameMode} {x0 x1 : Value} {w : World} {Q : FrameMode → World → Prop} (h : f43.rec Z u x0 x1 w Q) : CallD Tryz.prog Z 43 #[x0, x1] u w Q :=
 clRec drawD_sound follows ents Tryz.func43 f43.an [x0, x1] (by kernel_rfl) (by kernel_rfl) h

end Go.Proofs.YtfafkgbipjhcaaaGreatDoor
