import Derived.Test.YtfafkgbipjhcaaaGreatDoorShBase
set_option linter.unusedVariables false
namespace Go.Proofs.YtfafkgbipjhcaaaGreatDoor
open Go.Sh
def f3.sh (Z : List PanicEntry → World → Prop) (x0 x1 x2 : Value) (w : World) (Q : Value → World → Prop) : Prop :=
 run1 Tryz.prog Z (Instr.box 39 x0) w fun t1 w =>
 CallV Tryz.prog Z 4 #[] w fun t2 w =>
 run1 Tryz.prog Z (Instr.fieldAt 39 t1 10) w fun t3 w =>
 run1 Tryz.prog Z (Instr.fieldAt 37 t3 2) w fun t4 w =>
 run1 Tryz.prog Z (Instr.loadAt 35 t4) w fun t5 w =>
 CallV Tryz.prog Z 5 #[t5] w fun t6 w =>
 guardW (t6) false (fun k => run1 Tryz.prog Z (Instr.loadAt 39 t1) w k) (fun t7 w =>
 guardW (t6) false (fun k => CallV Tryz.prog Z 6 #[t7] w k) (fun t8 w =>
 guardW (t6) false (fun k => run1 Tryz.prog Z (eqOp .neq 42 false true t8 (.int .i64 0)) w k) (fun t9 w =>
 run1 Tryz.prog Z (pickV t6 (.bool true) t9) w fun t10 w =>
 CondV t10 (
 Q t2 w) (
 run1 Tryz.prog Z (Instr.loadAt 39 t1) w fun t11 w =>
 CallV Tryz.prog Z 8 #[t11] w fun t12 w =>
 CallV Tryz.prog Z 7 #[t12] w fun t13 w =>
 run1 Tryz.prog Z (Instr.extract t13 0) w fun t14 w =>
 run1 Tryz.prog Z (Instr.extract t13 1) w fun t15 w =>
 CallV Tryz.prog Z 9 #[(.int .i64 2)] w fun t16 w =>
 run1 Tryz.prog Z (Instr.extract t16 0) w fun t17 w =>
 run1 Tryz.prog Z (Instr.extract t16 1) w fun t18 w =>
 run1 Tryz.prog Z (eqOp .neq 42 false true t15 (.int .i64 0)) w fun t19 w =>
 guardW (t19) false (fun k => k (t18) w) (fun t20 w =>
 guardW (t19) false (fun k => k (t15) w) (fun t21 w =>
 guardW (t19) false (fun k => run1 Tryz.prog Z (eqOp .neq 42 false false t20 t21) w k) (fun t22 w =>
 run1 Tryz.prog Z (pickV t19 (.bool true) t22) w fun t23 w =>
 guardW (t23) false (fun k => k (t17) w) (fun t24 w =>
 guardW (t23) false (fun k => run1 Tryz.prog Z (eqOp .eql 47 false true t24 (.pointer none)) w k) (fun t25 w =>
 run1 Tryz.prog Z (pickV t23 (.bool true) t25) w fun t26 w =>
 CondV t26 (
 Q (.bool false) w) (
 CallV Tryz.prog Z 10 #[t17, (.int .i8 1), (.int .i8 0), t14] w fun t27 w =>
 CallV Tryz.prog Z 11 #[t17, (.int .i64 0)] w fun t28 w =>
 run1 Tryz.prog Z (eqOp .neq 42 false true t27 (.int .i64 0)) w fun t29 w =>
 guardW (t29) false (fun k => k (t28) w) (fun t30 w =>
 guardW (t29) false (fun k => k (t27) w) (fun t31 w =>
 guardW (t29) false (fun k => run1 Tryz.prog Z (eqOp .neq 42 false false t30 t31) w k) (fun t32 w =>
 run1 Tryz.prog Z (pickV t29 (.bool true) t32) w fun t33 w =>
 CondV t33 (
 Q (.bool false) w) (
 run1 Tryz.prog Z (binOp .geq 3 x1 (.int .i64 0)) w fun t34 w =>
 guardW (t34) true (fun k => k (x1) w) (fun t35 w =>
 guardW (t34) true (fun k => k (t14) w) (fun t36 w =>
 guardW (t34) true (fun k => run1 Tryz.prog Z (Builtin.len_ #[30] 3 #[t36]) w k) (fun t37 w =>
 guardW (t34) true (fun k => run1 Tryz.prog Z (binOp .lss 3 t35 t37) w k) (fun t38 w =>
 run1 Tryz.prog Z (pickV t34 t38 (.bool false)) w fun t39 w =>
 guardW (t39) true (fun k => k (x2) w) (fun t40 w =>
 guardW (t39) true (fun k => run1 Tryz.prog Z (eqOp .neq 5 false true t40 (.int .u8 0)) w k) (fun t41 w =>
 run1 Tryz.prog Z (pickV t39 t41 (.bool false)) w fun t42 w =>
 CallV Tryz.prog Z 12 #[t17, (.int .i64 0), x1, x2] w fun t43 w =>
 run1 Tryz.prog Z (eqOp .eql 42 false true t43 (.int .i64 0)) w fun t44 w =>
 run1 Tryz.prog Z (eqOp .neq 4 false false t44 t42) w fun t45 w =>
 CondV t45 (
 Q (.bool false) w) (
 CallV Tryz.prog Z 13 #[t17, (.int .i64 0)] w fun t46 w =>
 run1 Tryz.prog Z (Instr.extract t46 0) w fun t47 w =>
 run1 Tryz.prog Z (Instr.extract t46 1) w fun t48 w =>
 run1 Tryz.prog Z (Instr.alloc 54 true (.tuple #[])) w fun t49 w =>
 run0 Tryz.prog Z (Instr.storeAt 54 t49 t47) w fun w =>
 CallV Tryz.prog Z 13 #[t17, (.int .i64 0)] w fun t50 w =>
 run1 Tryz.prog Z (Instr.extract t50 0) w fun t51 w =>
 run1 Tryz.prog Z (Instr.extract t50 1) w fun t52 w =>
 run1 Tryz.prog Z (Instr.alloc 54 true (.tuple #[])) w fun t53 w =>
 run0 Tryz.prog Z (Instr.storeAt 54 t53 t51) w fun w =>
 run1 Tryz.prog Z (Instr.fieldAt 54 t53 2) w fun t54 w =>
 run1 Tryz.prog Z (Instr.loadAt 30 t54) w fun t55 w =>
 CallV Tryz.prog Z 14 #[t55] w fun t56 w =>
 run1 Tryz.prog Z (Instr.extract t56 0) w fun t57 w =>
 run1 Tryz.prog Z (Instr.extract t56 1) w fun t58 w =>
 run1 Tryz.prog Z (Instr.alloc 39 true (.tuple #[])) w fun t59 w =>
 run0 Tryz.prog Z (Instr.storeAt 39 t59 t57) w fun w =>
 run1 Tryz.prog Z (Instr.fieldAt 54 t49 2) w fun t60 w =>
 run1 Tryz.prog Z (Instr.loadAt 30 t60) w fun t61 w =>
 CallV Tryz.prog Z 14 #[t61] w fun t62 w =>
 run1 Tryz.prog Z (Instr.extract t62 0) w fun t63 w =>
 run1 Tryz.prog Z (Instr.extract t62 1) w fun t64 w =>
 run1 Tryz.prog Z (Instr.alloc 39 true (.tuple #[])) w fun t65 w =>
 run0 Tryz.prog Z (Instr.storeAt 39 t65 t63) w fun w =>
 run1 Tryz.prog Z (Instr.fieldAt 54 t49 3) w fun t66 w =>
 run1 Tryz.prog Z (Instr.loadAt 4 t66) w fun t67 w =>
 run1 Tryz.prog Z (eqOp .neq 4 false false t67 t42) w fun t68 w =>
 guardW (t68) false (fun k => run1 Tryz.prog Z (Instr.fieldAt 54 t53 3) w k) (fun t69 w =>
 guardW (t68) false (fun k => run1 Tryz.prog Z (Instr.loadAt 4 t69) w k) (fun t70 w =>
 run1 Tryz.prog Z (pickV t68 (.bool true) t70) w fun t71 w =>
 guardW (t71) false (fun k => run1 Tryz.prog Z (Instr.loadAt 39 t1) w k) (fun t72 w =>
 guardW (t71) false (fun k => run1 Tryz.prog Z (Instr.loadAt 39 t59) w k) (fun t73 w =>
 guardW (t71) false (fun k => CallV Tryz.prog Z 15 #[t72, t73] w k) (fun t74 w =>
 guardW (t71) false (fun k => run1 Tryz.prog Z (Op.unary .not t74) w k) (fun t75 w =>
 run1 Tryz.prog Z (pickV t71 (.bool true) t75) w fun t76 w =>
 guardW (t76) false (fun k => k (t58) w) (fun t77 w =>
 guardW (t76) false (fun k => run1 Tryz.prog Z (eqOp .neq 42 false true t77 (.int .i64 0)) w k) (fun t78 w =>
 run1 Tryz.prog Z (pickV t76 (.bool true) t78) w fun t79 w =>
 CondV t79 (
 Q (.bool false) w) (
 guardW (t2) true (fun k => k (t64) w) (fun t80 w =>
 guardW (t2) true (fun k => run1 Tryz.prog Z (eqOp .eql 42 false true t80 (.int .i64 150)) w k) (fun t81 w =>
 guardW (t2) true (fun k => k (t42) w) (fun t82 w =>
 guardW (t2) true (fun k => run1 Tryz.prog Z (eqOp .eql 4 false false t81 t82) w k) (fun t83 w =>
 run1 Tryz.prog Z (pickV t2 t83 (.bool false)) w fun t84 w =>
 Q t84 w) w) w) w) w)) w) w) w) w) w) w) w) w)) w) w) w) w) w) w)) w) w) w)) w) w) w) w) w)) w) w) w
def f3.an : An := (.sq .leaf (.sq .leaf (.sq (.sq .leaf (.cn (.sq .leaf .leaf) .leaf)) (.sq .leaf (.sq .leaf (.sq (.sq .leaf (.cn (.sq .leaf .leaf) .leaf)) (.sq .leaf (.sq .leaf (.sq (.sq .leaf (.cn (.sq .leaf .leaf) .leaf)) (.sq .leaf (.sq (.sq .leaf (.cn (.sq .leaf .leaf) .leaf)) (.sq .leaf (.sq .leaf (.sq .leaf (.sq .leaf (.sq (.sq .leaf (.cn (.sq .leaf .leaf) .leaf)) (.sq .leaf .leaf)))))))))))))))))
theorem f3.calls {Z : List PanicEntry → World → Prop} {x0 x1 x2 : Value} {w : World} {Q : Value → World → Prop} (h : f3.sh Z x0 x1 x2 w Q) : CallV Tryz.prog Z 3 #[x0, x1, x2] w Q :=
 cl Tryz.func3 f3.an [x0, x1, x2] (by kernel_rfl) (by kernel_rfl) h

def f4.sh (Z : List PanicEntry → World → Prop) (w : World) (Q : Value → World → Prop) : Prop :=
 CallV Tryz.prog Z 9 #[(.int .i64 2)] w fun t1 w =>
 run1 Tryz.prog Z (Instr.extract t1 0) w fun t2 w =>
 run1 Tryz.prog Z (Instr.extract t1 1) w fun t3 w =>
 run1 Tryz.prog Z (eqOp .neq 42 false true t3 (.int .i64 0)) w fun t4 w =>
 guardW (t4) false (fun k => k (t2) w) (fun t5 w =>
 guardW (t4) false (fun k => run1 Tryz.prog Z (eqOp .eql 47 false true t5 (.pointer none)) w k) (fun t6 w =>
 run1 Tryz.prog Z (pickV t4 (.bool true) t6) w fun t7 w =>
 CondV t7 (
 Q (.bool false) w) (
 run1 Tryz.prog Z (Instr.buildSlice 30 1 #[(0, (.int .u8 7))]) w fun t8 w =>
 CallV Tryz.prog Z 10 #[t2, (.int .i8 0), (.int .i8 1), t8] w fun t9 w =>
 CallV Tryz.prog Z 13 #[t2, (.int .i64 0)] w fun t10 w =>
 run1 Tryz.prog Z (Instr.extract t10 0) w fun t11 w =>
 run1 Tryz.prog Z (Instr.extract t10 1) w fun t12 w =>
 run1 Tryz.prog Z (Instr.alloc 54 true (.tuple #[])) w fun t13 w =>
 run0 Tryz.prog Z (Instr.storeAt 54 t13 t11) w fun w =>
 run1 Tryz.prog Z (eqOp .eql 42 false true t9 (.int .i64 0)) w fun t14 w =>
 guardW (t14) true (fun k => k (t12) w) (fun t15 w =>
 guardW (t14) true (fun k => k (t9) w) (fun t16 w =>
 guardW (t14) true (fun k => run1 Tryz.prog Z (eqOp .eql 42 false false t15 t16) w k) (fun t17 w =>
 run1 Tryz.prog Z (pickV t14 t17 (.bool false)) w fun t18 w =>
 guardW (t18) true (fun k => run1 Tryz.prog Z (Instr.fieldAt 54 t13 0) w k) (fun t19 w =>
 guardW (t18) true (fun k => run1 Tryz.prog Z (Instr.loadAt 22 t19) w k) (fun t20 w =>
 guardW (t18) true (fun k => run1 Tryz.prog Z (eqOp .eql 22 false true t20 (.int .i8 0)) w k) (fun t21 w =>
 run1 Tryz.prog Z (pickV t18 t21 (.bool false)) w fun t22 w =>
 guardW (t22) true (fun k => run1 Tryz.prog Z (Instr.fieldAt 54 t13 1) w k) (fun t23 w =>
 guardW (t22) true (fun k => run1 Tryz.prog Z (Instr.loadAt 22 t23) w k) (fun t24 w =>
 guardW (t22) true (fun k => run1 Tryz.prog Z (eqOp .eql 22 false true t24 (.int .i8 1)) w k) (fun t25 w =>
 run1 Tryz.prog Z (pickV t22 t25 (.bool false)) w fun t26 w =>
 guardW (t26) true (fun k => run1 Tryz.prog Z (Instr.fieldAt 54 t13 3) w k) (fun t27 w =>
 guardW (t26) true (fun k => run1 Tryz.prog Z (Instr.loadAt 4 t27) w k) (fun t28 w =>
 guardW (t26) true (fun k => run1 Tryz.prog Z (Op.unary .not t28) w k) (fun t29 w =>
 run1 Tryz.prog Z (pickV t26 t29 (.bool false)) w fun t30 w =>
 guardW (t30) true (fun k => run1 Tryz.prog Z (Instr.fieldAt 54 t13 2) w k) (fun t31 w =>
 guardW (t30) true (fun k => run1 Tryz.prog Z (Instr.loadAt 30 t31) w k) (fun t32 w =>
 guardW (t30) true (fun k => run1 Tryz.prog Z (Instr.buildSlice 30 1 #[(0, (.int .u8 7))]) w k) (fun t33 w =>
 guardW (t30) true (fun k => CallV Tryz.prog Z 16 #[t32, t33] w k) (fun t34 w =>
 run1 Tryz.prog Z (pickV t30 t34 (.bool false)) w fun t35 w =>
 guardW (t35) true (fun k => k (t2) w) (fun t36 w =>
 guardW (t35) true (fun k => CallV Tryz.prog Z 17 #[t36] w k) (fun t37 w =>
 guardW (t35) true (fun k => run1 Tryz.prog Z (eqOp .eql 3 false true t37 (.int .i64 0)) w k) (fun t38 w =>
 run1 Tryz.prog Z (pickV t35 t38 (.bool false)) w fun t39 w =>
 Q t39 w) w) w) w) w) w) w) w) w) w) w) w) w) w) w) w) w) w) w) w)) w) w
def f4.an : An := (.sq .leaf (.sq .leaf (.sq (.sq .leaf (.cn (.sq .leaf .leaf) .leaf)) (.sq .leaf (.sq .leaf (.sq .leaf .leaf))))))
theorem f4.calls {Z : List PanicEntry → World → Prop} {w : World} {Q : Value → World → Prop} (h : f4.sh Z  w Q) : CallV Tryz.prog Z 4 #[] w Q :=
 cl Tryz.func4 f4.an [] (by kernel_rfl) (by kernel_rfl) h

def f5.sh (Z : List PanicEntry → World → Prop) (x0 : Value) (w : World) (Q : Value → World → Prop) : Prop :=
 run1 Tryz.prog Z (Instr.box 35 x0) w fun t1 w =>
 run1 Tryz.prog Z (Instr.loadAt 35 t1) w fun t2 w =>
 CallV Tryz.prog Z 18 #[t2] w fun t3 w =>
 run1 Tryz.prog Z (binOp .gtr 3 t3 (.int .i64 20000)) w fun t4 w =>
 Q t4 w
def f5.an : An := (.sq .leaf (.sq .leaf .leaf))
theorem f5.calls {Z : List PanicEntry → World → Prop} {x0 : Value} {w : World} {Q : Value → World → Prop} (h : f5.sh Z x0 w Q) : CallV Tryz.prog Z 5 #[x0] w Q :=
 cl Tryz.func5 f5.an [x0] (by kernel_rfl) (by kernel_rfl) h

def f6.sh (Z : List PanicEntry → World → Prop) (x0 : Value) (w : World) (Q : Value → World → Prop) : Prop :=
 run1 Tryz.prog Z (Instr.box 39 x0) w fun t1 w =>
 run1 Tryz.prog Z (Instr.fieldAt 39 t1 0) w fun t2 w =>
 run1 Tryz.prog Z (Instr.loadAt 22 t2) w fun t3 w =>
 CallV Tryz.prog Z 19 #[t3] w fun t4 w =>
 Drawn w fun w =>
 Pure1 Tryz.prog (Instr.fieldAt 39 t1 1) fun t5 =>
 Read1 Tryz.prog (Instr.loadAt 25 t5) w fun t6 =>
 CallV Tryz.prog Z 21 #[t4, (.int .u8 99)] w fun t7 w =>
 Still Tryz.prog (nx (Instr.loadAt 25 t5)) t6 w <|
 CallV Tryz.prog Z 20 #[t6, t7] w fun t8 w =>
 Drawn w fun w =>
 Pure1 Tryz.prog (Instr.fieldAt 39 t1 2) fun t9 =>
 Read1 Tryz.prog (Instr.loadAt 25 t9) w fun t10 =>
 CallV Tryz.prog Z 21 #[t4, (.int .u8 108)] w fun t11 w =>
 Still Tryz.prog (nx (Instr.loadAt 25 t9)) t10 w <|
 CallV Tryz.prog Z 20 #[t10, t11] w fun t12 w =>
 Drawn w fun w =>
 Pure1 Tryz.prog (Instr.fieldAt 39 t1 6) fun t13 =>
 Read1 Tryz.prog (Instr.loadAt 27 t13) w fun t14 =>
 CallV Tryz.prog Z 21 #[t4, (.int .u8 122)] w fun t15 w =>
 Still Tryz.prog (nx (Instr.loadAt 27 t13)) t14 w <|
 CallV Tryz.prog Z 22 #[t14, t15] w fun t16 w =>
 Drawn w fun w =>
 Pure1 Tryz.prog (Instr.fieldAt 39 t1 7) fun t17 =>
 Read1 Tryz.prog (Instr.loadAt 27 t17) w fun t18 =>
 CallV Tryz.prog Z 21 #[t4, (.int .u8 118)] w fun t19 w =>
 Still Tryz.prog (nx (Instr.loadAt 27 t17)) t18 w <|
 CallV Tryz.prog Z 22 #[t18, t19] w fun t20 w =>
 run1 Tryz.prog Z (eqOp .eql 9 false true t4 (.string { data := #[] })) w fun t21 w =>
 guardW (t21) false (fun k => k (t8) w) (fun t22 w =>
 guardW (t21) false (fun k => run1 Tryz.prog Z (Op.unary .not t22) w k) (fun t23 w =>
 run1 Tryz.prog Z (pickV t21 (.bool true) t23) w fun t24 w =>
 guardW (t24) false (fun k => k (t12) w) (fun t25 w =>
 guardW (t24) false (fun k => run1 Tryz.prog Z (Op.unary .not t25) w k) (fun t26 w =>
 run1 Tryz.prog Z (pickV t24 (.bool true) t26) w fun t27 w =>
 guardW (t27) false (fun k => k (t16) w) (fun t28 w =>
 guardW (t27) false (fun k => run1 Tryz.prog Z (Op.unary .not t28) w k) (fun t29 w =>
 run1 Tryz.prog Z (pickV t27 (.bool true) t29) w fun t30 w =>
 guardW (t30) false (fun k => k (t20) w) (fun t31 w =>
 guardW (t30) false (fun k => run1 Tryz.prog Z (Op.unary .not t31) w k) (fun t32 w =>
 run1 Tryz.prog Z (pickV t30 (.bool true) t32) w fun t33 w =>
 guardW (t33) false (fun k => run1 Tryz.prog Z (Instr.fieldAt 39 t1 3) w k) (fun t34 w =>
 guardW (t33) false (fun k => run1 Tryz.prog Z (Instr.loadAt 2 t34) w k) (fun t35 w =>
 guardW (t33) false (fun k => run1 Tryz.prog Z (binOp .lss 2 t35 (.int .i64 0)) w k) (fun t36 w =>
 run1 Tryz.prog Z (pickV t33 (.bool true) t36) w fun t37 w =>
 guardW (t37) false (fun k => run1 Tryz.prog Z (Instr.fieldAt 39 t1 3) w k) (fun t38 w =>
 guardW (t37) false (fun k => run1 Tryz.prog Z (Instr.loadAt 2 t38) w k) (fun t39 w =>
 guardW (t37) false (fun k => run1 Tryz.prog Z (binOp .gtr 2 t39 (.int .i64 0)) w k) (fun t40 w =>
 guardW (t37) false (fun k => k (t40) w) (fun t41 w =>
 guardW (t41) true (fun k => k (t4) w) (fun t42 w =>
 guardW (t41) true (fun k => CallV Tryz.prog Z 21 #[t42, (.int .u8 112)] w k) (fun t43 w =>
 guardW (t41) true (fun k => run1 Tryz.prog Z (Op.unary .not t43) w k) (fun t44 w =>
 guardW (t37) false (fun k => run1 Tryz.prog Z (pickV t41 t44 (.bool false)) w k) (fun t45 w =>
 run1 Tryz.prog Z (pickV t37 (.bool true) t45) w fun t46 w =>
 CondV t46 (
 Q (.int .i64 150) w) (
 ∀ j_47 : Value → World → Prop, (∀ t48 : Value, ∀ w : World, (Env →
 ∀ j_49 : Value → Value → World → Prop, (∀ t50 : Value, ∀ t51 : Value, ∀ w : World, (Env →
 run1 Tryz.prog Z (Instr.fieldAt 39 t1 4) w fun t52 w =>
 run1 Tryz.prog Z (Instr.loadAt 23 t52) w fun t53 w =>
 run1 Tryz.prog Z (binOp .lss 23 t53 t50) w fun t54 w =>
 guardW (t54) false (fun k => run1 Tryz.prog Z (Instr.fieldAt 39 t1 4) w k) (fun t55 w =>
 guardW (t54) false (fun k => run1 Tryz.prog Z (Instr.loadAt 23 t55) w k) (fun t56 w =>
 guardW (t54) false (fun k => k (t51) w) (fun t57 w =>
 guardW (t54) false (fun k => run1 Tryz.prog Z (binOp .gtr 23 t56 t57) w k) (fun t58 w =>
 run1 Tryz.prog Z (pickV t54 (.bool true) t58) w fun t59 w =>
 guardW (t59) false (fun k => run1 Tryz.prog Z (Instr.fieldAt 39 t1 5) w k) (fun t60 w =>
 guardW (t59) false (fun k => run1 Tryz.prog Z (Instr.loadAt 23 t60) w k) (fun t61 w =>
 guardW (t59) false (fun k => run1 Tryz.prog Z (binOp .gtr 23 t61 (.int .u32 2147483647)) w k) (fun t62 w =>
 run1 Tryz.prog Z (pickV t59 (.bool true) t62) w fun t63 w =>
 guardW (t63) false (fun k => run1 Tryz.prog Z (Instr.fieldAt 39 t1 5) w k) (fun t64 w =>
 guardW (t63) false (fun k => run1 Tryz.prog Z (Instr.loadAt 23 t64) w k) (fun t65 w =>
 guardW (t63) false (fun k => run1 Tryz.prog Z (binOp .gtr 23 t65 (.int .u32 0)) w k) (fun t66 w =>
 guardW (t63) false (fun k => k (t66) w) (fun t67 w =>
 guardW (t67) true (fun k => k (t4) w) (fun t68 w =>
 guardW (t67) true (fun k => CallV Tryz.prog Z 21 #[t68, (.int .u8 117)] w k) (fun t69 w =>
 guardW (t67) true (fun k => run1 Tryz.prog Z (Op.unary .not t69) w k) (fun t70 w =>
 guardW (t63) false (fun k => run1 Tryz.prog Z (pickV t67 t70 (.bool false)) w k) (fun t71 w =>
 run1 Tryz.prog Z (pickV t63 (.bool true) t71) w fun t72 w =>
 guardW (t72) false (fun k => run1 Tryz.prog Z (Instr.fieldAt 39 t1 8) w k) (fun t73 w =>
 guardW (t72) false (fun k => run1 Tryz.prog Z (Instr.loadAt 4 t73) w k) (fun t74 w =>
 guardW (t72) false (fun k => k (t74) w) (fun t75 w =>
 guardW (t75) true (fun k => k (t4) w) (fun t76 w =>
 guardW (t75) true (fun k => CallV Tryz.prog Z 21 #[t76, (.int .u8 111)] w k) (fun t77 w =>
 guardW (t75) true (fun k => run1 Tryz.prog Z (Op.unary .not t77) w k) (fun t78 w =>
 guardW (t72) false (fun k => run1 Tryz.prog Z (pickV t75 t78 (.bool false)) w k) (fun t79 w =>
 run1 Tryz.prog Z (pickV t72 (.bool true) t79) w fun t80 w =>
 guardW (t80) false (fun k => run1 Tryz.prog Z (Instr.fieldAt 39 t1 9) w k) (fun t81 w =>
 guardW (t80) false (fun k => run1 Tryz.prog Z (Instr.loadAt 4 t81) w k) (fun t82 w =>
 guardW (t80) false (fun k => k (t82) w) (fun t83 w =>
 guardW (t83) true (fun k => k (t4) w) (fun t84 w =>
 guardW (t83) true (fun k => CallV Tryz.prog Z 21 #[t84, (.int .u8 102)] w k) (fun t85 w =>
 guardW (t83) true (fun k => run1 Tryz.prog Z (Op.unary .not t85) w k) (fun t86 w =>
 guardW (t80) false (fun k => run1 Tryz.prog Z (pickV t83 t86 (.bool false)) w k) (fun t87 w =>
 run1 Tryz.prog Z (pickV t80 (.bool true) t87) w fun t88 w =>
 CondV t88 (
 Q (.int .i64 150) w) (
 Drawn w fun w =>
 Pure1 Tryz.prog (Instr.fieldAt 39 t1 12) fun t89 =>
 Read1 Tryz.prog (Instr.loadAt 2 t89) w fun t90 =>
 Pure1 Tryz.prog (eqOp .neq 2 false true t90 (.int .i64 0)) fun t91 =>
 CallV Tryz.prog Z 21 #[t4, (.int .u8 115)] w fun t92 w =>
 Still Tryz.prog (nx (Instr.loadAt 2 t89)) t90 w <|
 Pure1 Tryz.prog (eqOp .neq 4 false false t92 t91) fun t93 =>
 guardV (t93) false (fun k => Pure1 Tryz.prog (Instr.fieldAt 39 t1 12) k) (fun t94 =>
 guardV (t93) false (fun k => Read1 Tryz.prog (Instr.loadAt 2 t94) w k) (fun t95 =>
 guardV (t93) false (fun k => Pure1 Tryz.prog (binOp .lss 2 t95 (.int .i64 0)) k) (fun t96 =>
 Pure1 Tryz.prog (pickV t93 (.bool true) t96) fun t97 =>
 guardV (t97) false (fun k => k (t4)) (fun t98 =>
 guardV (t97) false (fun k => Pure1 Tryz.prog (Instr.fieldAt 39 t1 11) k) (fun t99 =>
 guardV (t97) false (fun k => Read1 Tryz.prog (Instr.loadAt 30 t99) w k) (fun t100 =>
 guardV (t97) false (fun k => Pure1 Tryz.prog (Builtin.len_ #[30] 3 #[t100]) k) (fun t101 =>
 guardV (t97) false (fun k => Pure1 Tryz.prog (binOp .gtr 3 t101 (.int .i64 0)) k) (fun t102 =>
 guardW (t97) false (fun k => CallV Tryz.prog Z 21 #[t98, (.int .u8 98)] w k) (fun t103 w =>
 Still Tryz.prog (gSem (t97) false (nx (Instr.loadAt 30 t99))) t100 w <|
 Still Tryz.prog (gSem (t93) false (nx (Instr.loadAt 2 t94))) t95 w <|
 Still Tryz.prog (nx (Instr.loadAt 2 t89)) t90 w <|
 guardV (t97) false (fun k => Pure1 Tryz.prog (eqOp .neq 4 false false t103 t102) k) (fun t104 =>
 Pure1 Tryz.prog (pickV t97 (.bool true) t104) fun t105 =>
 guardV (t105) false (fun k => Pure1 Tryz.prog (Instr.fieldAt 39 t1 11) k) (fun t106 =>
 guardV (t105) false (fun k => Read1 Tryz.prog (Instr.loadAt 30 t106) w k) (fun t107 =>
 guardV (t105) false (fun k => Pure1 Tryz.prog (Builtin.len_ #[30] 3 #[t107]) k) (fun t108 =>
 guardV (t105) false (fun k => Pure1 Tryz.prog (binOp .gtr 3 t108 (.int .i64 4096)) k) (fun t109 =>
 Pure1 Tryz.prog (pickV t105 (.bool true) t109) fun t110 =>
 CondV t110 (
 Q (.int .i64 150) w) (
 run1 Tryz.prog Z (Instr.fieldAt 39 t1 0) w fun t111 w =>
 run1 Tryz.prog Z (Instr.loadAt 22 t111) w fun t112 w =>
 run1 Tryz.prog Z (eqOp .eql 22 false true t112 (.int .i8 11)) w fun t113 w =>
 guardW (t113) false (fun k => run1 Tryz.prog Z (Instr.fieldAt 39 t1 0) w k) (fun t114 w =>
 guardW (t113) false (fun k => run1 Tryz.prog Z (Instr.loadAt 22 t114) w k) (fun t115 w =>
 guardW (t113) false (fun k => run1 Tryz.prog Z (eqOp .eql 22 false true t115 (.int .i8 12)) w k) (fun t116 w =>
 run1 Tryz.prog Z (pickV t113 (.bool true) t116) w fun t117 w =>
 guardW (t117) true (fun k => run1 Tryz.prog Z (Instr.fieldAt 39 t1 6) w k) (fun t118 w =>
 guardW (t117) true (fun k => run1 Tryz.prog Z (Instr.fieldAt 27 t118 1) w k) (fun t119 w =>
 guardW (t117) true (fun k => run1 Tryz.prog Z (Instr.loadAt 23 t119) w k) (fun t120 w =>
 guardW (t117) true (fun k => run1 Tryz.prog Z (eqOp .eql 23 false true t120 (.int .u32 0)) w k) (fun t121 w =>
 run1 Tryz.prog Z (pickV t117 t121 (.bool false)) w fun t122 w =>
 CondV t122 (
 Q (.int .i64 150) w) (
 CallV Tryz.prog Z 21 #[t4, (.int .u8 116)] w fun t123 w =>
 run1 Tryz.prog Z (Op.unary .not t123) w fun t124 w =>
 CondV t124 (
 run1 Tryz.prog Z (Instr.fieldAt 39 t1 10) w fun t125 w =>
 run1 Tryz.prog Z (Instr.loadAt 37 t125) w fun t126 w =>
 run1 Tryz.prog Z (Instr.build 37 #[]) w fun t127 w =>
 CallV Tryz.prog Z 23 #[t126, t127] w fun t128 w =>
 run1 Tryz.prog Z (Op.unary .not t128) w fun t129 w =>
 CondV t129 (
 Q (.int .i64 150) w) (
 Q (.int .i64 0) w)) (
 run1 Tryz.prog Z (Instr.fieldAt 39 t1 10) w fun t130 w =>
 run1 Tryz.prog Z (Instr.loadAt 37 t130) w fun t131 w =>
 CallV Tryz.prog Z 24 #[t131] w fun t132 w =>
 run1 Tryz.prog Z (Instr.fieldAt 39 t1 10) w fun t133 w =>
 run1 Tryz.prog Z (Instr.fieldAt 37 t133 0) w fun t134 w =>
 run1 Tryz.prog Z (Instr.loadAt 27 t134) w fun t135 w =>
 run1 Tryz.prog Z (Instr.fieldAt 39 t1 7) w fun t136 w =>
 run1 Tryz.prog Z (Instr.loadAt 27 t136) w fun t137 w =>
 CallV Tryz.prog Z 25 #[t135, t137] w fun t138 w =>
 run1 Tryz.prog Z (binOp .gtr 3 t138 (.int .i64 0)) w fun t139 w =>
 run1 Tryz.prog Z (eqOp .neq 42 false true t132 (.int .i64 0)) w fun t140 w =>
 guardW (t140) false (fun k => run1 Tryz.prog Z (Instr.fieldAt 39 t1 0) w k) (fun t141 w =>
 guardW (t140) false (fun k => run1 Tryz.prog Z (Instr.loadAt 22 t141) w k) (fun t142 w =>
 guardW (t140) false (fun k => run1 Tryz.prog Z (eqOp .neq 22 false true t142 (.int .i8 13)) w k) (fun t143 w =>
 guardW (t140) false (fun k => k (t143) w) (fun t144 w =>
 guardW (t144) true (fun k => k (t139) w) (fun t145 w =>
 guardW (t144) true (fun k => run1 Tryz.prog Z (Op.unary .not t145) w k) (fun t146 w =>
 guardW (t140) false (fun k => run1 Tryz.prog Z (pickV t144 t146 (.bool false)) w k) (fun t147 w =>
 run1 Tryz.prog Z (pickV t140 (.bool true) t147) w fun t148 w =>
 guardW (t148) false (fun k => run1 Tryz.prog Z (Instr.fieldAt 39 t1 0) w k) (fun t149 w =>
 guardW (t148) false (fun k => run1 Tryz.prog Z (Instr.loadAt 22 t149) w k) (fun t150 w =>
 guardW (t148) false (fun k => run1 Tryz.prog Z (eqOp .eql 22 false true t150 (.int .i8 13)) w k) (fun t151 w =>
 guardW (t148) false (fun k => k (t151) w) (fun t152 w =>
 guardW (t152) true (fun k => run1 Tryz.prog Z (Instr.fieldAt 39 t1 10) w k) (fun t153 w =>
 guardW (t152) true (fun k => run1 Tryz.prog Z (Instr.fieldAt 37 t153 0) w k) (fun t154 w =>
 guardW (t152) true (fun k => run1 Tryz.prog Z (Instr.fieldAt 27 t154 1) w k) (fun t155 w =>
 guardW (t152) true (fun k => run1 Tryz.prog Z (Instr.loadAt 23 t155) w k) (fun t156 w =>
 guardW (t152) true (fun k => run1 Tryz.prog Z (eqOp .neq 23 false true t156 (.int .u32 0)) w k) (fun t157 w =>
 guardW (t152) true (fun k => k (t157) w) (fun t158 w =>
 guardW (t158) false (fun k => run1 Tryz.prog Z (Instr.fieldAt 39 t1 10) w k) (fun t159 w =>
 guardW (t158) false (fun k => run1 Tryz.prog Z (Instr.fieldAt 37 t159 1) w k) (fun t160 w =>
 guardW (t158) false (fun k => run1 Tryz.prog Z (Instr.fieldAt 29 t160 2) w k) (fun t161 w =>
 guardW (t158) false (fun k => run1 Tryz.prog Z (Instr.loadAt 2 t161) w k) (fun t162 w =>
 guardW (t158) false (fun k => run1 Tryz.prog Z (binOp .lss 2 t162 (.int .i64 1)) w k) (fun t163 w =>
 guardW (t152) true (fun k => run1 Tryz.prog Z (pickV t158 (.bool true) t163) w k) (fun t164 w =>
 guardW (t148) false (fun k => run1 Tryz.prog Z (pickV t152 t164 (.bool false)) w k) (fun t165 w =>
 run1 Tryz.prog Z (pickV t148 (.bool true) t165) w fun t166 w =>
 CondV t166 (
 Q (.int .i64 150) w) (
 Q (.int .i64 0) w)) w) w) w) w) w) w) w) w) w) w) w) w) w) w) w) w) w) w) w) w) w) w) w) w))) w) w) w) w) w) w) w))))))) w)))))))))) w) w) w) w) w) w) w) w) w) w) w) w) w) w) w) w) w) w) w) w) w) w) w) w) w) w) w) w) w) →
 j_49 t50 t51 w) →
 CallV Tryz.prog Z 21 #[t4, (.int .u8 101)] w fun t167 w =>
 run1 Tryz.prog Z (Op.unary .not t167) w fun t168 w =>
 CondV t168 (
 j_49 (.int .u32 0) (.int .u32 0) w) (
 j_49 t48 (.int .u32 2147483647) w)) →
 j_47 t48 w) →
 run1 Tryz.prog Z (Instr.fieldAt 39 t1 0) w fun t169 w =>
 run1 Tryz.prog Z (Instr.loadAt 22 t169) w fun t170 w =>
 run1 Tryz.prog Z (eqOp .eql 22 false true t170 (.int .i8 1)) w fun t171 w =>
 CondV t171 (
 j_47 (.int .u32 0) w) (
 j_47 (.int .u32 1) w))) w) w) w) w) w) w) w) w) w) w) w) w) w) w) w) w) w) w) w
def f6.an : An := (.sq .leaf (.sq .leaf (.sq (.dr (pl [0, 5, 8, 14, 18, 20] .fin)) (.sq (.dr (pl [0, 5, 8, 14, 18, 20] .fin)) (.sq (.dr (pl [0, 5, 8, 14, 18, 20] .fin)) (.sq (.dr (pl [0, 5, 8, 14, 18, 20] .fin)) (.sq (.sq .leaf (.cn (.sq .leaf .leaf) .leaf)) (.sq .leaf (.sq .leaf (.sj [8] (.sq .leaf (.cn .leaf .leaf)) (.sj [8, 9] (.sq .leaf (.cn (.sq .leaf .leaf) .leaf)) (.sq (.sq .leaf (.cn (.sq .leaf .leaf) .leaf)) (.sq (.sq (.dr (pl [0, 8, 13, 16, 6, 20, 24, 28, 33, 36, 40, 44, 48, 56, 61, 64, 68, 54, 72, 76, 80, 84, 89, 92, 96, 100] .fin)) (.cn (.sq .leaf .leaf) .leaf)) (.sq (.sq .leaf (.cn (.sq .leaf .leaf) .leaf)) (.sq (.sq .leaf (.cn (.sq .leaf (.sq (.sq .leaf (.cn (.sq .leaf .leaf) .leaf)) (.sq .leaf .leaf))) .leaf)) (.sq .leaf (.sq .leaf (.sq (.sq .leaf (.cn (.sq .leaf .leaf) .leaf)) (.sq .leaf .leaf)))))))))))))))))))
theorem f6.calls {Z : List PanicEntry → World → Prop} {x0 : Value} {w : World} {Q : Value → World → Prop} (h : f6.sh Z x0 w Q) : CallV Tryz.prog Z 6 #[x0] w Q :=
 cl Tryz.func6 f6.an [x0] (by kernel_rfl) (by kernel_rfl) h

def f7.sh (Z : List PanicEntry → World → Prop) (x0 : Value) (w : World) (Q : Value → World → Prop) : Prop :=
 run1 Tryz.prog Z (Instr.box 39 x0) w fun t1 w =>
 run1 Tryz.prog Z (Instr.loadAt 39 t1) w fun t2 w =>
 CallV Tryz.prog Z 26 #[t2] w fun t3 w =>
 run1 Tryz.prog Z (eqOp .neq 42 false true t3 (.int .i64 0)) w fun t4 w =>
 CondV t4 (
 Q (Value.tuple #[(.slice none 0 0), (.int .i64 150)]) w) (
 run1 Tryz.prog Z (Instr.fieldAt 39 t1 0) w fun t5 w =>
 run1 Tryz.prog Z (Instr.loadAt 22 t5) w fun t6 w =>
 CallV Tryz.prog Z 27 #[t6] w fun t7 w =>
 run1 Tryz.prog Z (Instr.extract t7 0) w fun t8 w =>
 run1 Tryz.prog Z (Instr.extract t7 1) w fun t9 w =>
 run1 Tryz.prog Z (Instr.build 75 #[]) w fun t10 w =>
 run1 Tryz.prog Z (Instr.box 75 t10) w fun t11 w =>
 run1 Tryz.prog Z (Instr.fieldAt 39 t1 0) w fun t12 w =>
 run1 Tryz.prog Z (Instr.loadAt 22 t12) w fun t13 w =>
 CallV Tryz.prog Z 28 #[t11, t13] w fun t14 w =>
 CallV Tryz.prog Z 29 #[] w fun t15 w =>
 run1 Tryz.prog Z (Builtin.len_ #[77] 3 #[t15]) w fun t16 w =>
 ∃ J_17 : Nat → Value → World → Prop, (∃ m, J_17 m (.int .i64 0) w) ∧
 ∀ m_17, ∀ t18 : Value, ∀ w : World, J_17 m_17 t18 w → Env →
 run1 Tryz.prog Z (binOp .lss 3 t18 t16) w fun t19 w =>
 CondV t19 (
 ∀ j_20 : World → Prop, (∀ w : World, (Env →
 run1 Tryz.prog Z (binOp .add 3 t18 (.int .i64 1)) w fun t21 w =>
 ∃ n_17, n_17 < m_17 ∧ J_17 n_17 t21 w) →
 j_20 w) →
 run1 Tryz.prog Z (Instr.indexAt 77 t15 t18) w fun t22 w =>
 run1 Tryz.prog Z (Instr.loadAt 83 t22) w fun t23 w =>
 run1 Tryz.prog Z (Instr.alloc 83 true (.tuple #[])) w fun t24 w =>
 run0 Tryz.prog Z (Instr.storeAt 83 t24 t23) w fun w =>
 run1 Tryz.prog Z (Instr.fieldAt 83 t24 0) w fun t25 w =>
 run1 Tryz.prog Z (Instr.loadAt 3 t25) w fun t26 w =>
 run1 Tryz.prog Z (binOp .and 3 t8 t26) w fun t27 w =>
 run1 Tryz.prog Z (eqOp .neq 3 false true t27 (.int .i64 0)) w fun t28 w =>
 CondV t28 (
 run1 Tryz.prog Z (Instr.fieldAt 83 t24 1) w fun t29 w =>
 run1 Tryz.prog Z (Instr.loadAt 79 t29) w fun t30 w =>
 runX Tryz.prog Z (callVal t30 #[t11, t1]) w fun t31 w =>
 j_20 w) (
 j_20 w)) (
 CallV Tryz.prog Z 30 #[t11] w fun t32 w =>
 run1 Tryz.prog Z (Instr.build 75 #[]) w fun t33 w =>
 run1 Tryz.prog Z (Instr.box 75 t33) w fun t34 w =>
 CallV Tryz.prog Z 32 #[t32] w fun t35 w =>
 CallV Tryz.prog Z 31 #[t34, t35] w fun t36 w =>
 CallV Tryz.prog Z 33 #[t34, t32] w fun t37 w =>
 CallV Tryz.prog Z 30 #[t34] w fun t38 w =>
 Q (Value.tuple #[t38, (.int .i64 0)]) w))
def f7.an : An := (.sq .leaf (.sq (.sq .leaf (.cn (.sq .leaf .leaf) .leaf)) (.sq .leaf (.sq .leaf (.sq .leaf (.sq (.sq .leaf (.bl (.lp [28] (.sq .leaf (.sq (.cn .leaf .leaf) (.sj [] (.bl (.sq .leaf (.sq .leaf (.cn .leaf .leaf)))) .leaf)))))) (.sq .leaf (.sq .leaf (.sq .leaf (.sq .leaf (.sq .leaf .leaf)))))))))))
theorem f7.calls {Z : List PanicEntry → World → Prop} {x0 : Value} {w : World} {Q : Value → World → Prop} (h : f7.sh Z x0 w Q) : CallV Tryz.prog Z 7 #[x0] w Q :=
 cl Tryz.func7 f7.an [x0] (by kernel_rfl) (by kernel_rfl) h

def f8.sh (Z : List PanicEntry → World → Prop) (x0 : Value) (w : World) (Q : Value → World → Prop) : Prop :=
 run1 Tryz.prog Z (Instr.box 39 x0) w fun t1 w =>
 run1 Tryz.prog Z (Instr.alloc 39 true (.tuple #[])) w fun t2 w =>
 run1 Tryz.prog Z (Instr.fieldAt 39 t1 10) w fun t3 w =>
 run1 Tryz.prog Z (Instr.loadAt 37 t3) w fun t4 w =>
 CallV Tryz.prog Z 34 #[t4] w fun t5 w =>
 run1 Tryz.prog Z (Instr.fieldAt 39 t1 10) w fun t6 w =>
 run0 Tryz.prog Z (Instr.storeAt 37 t6 t5) w fun w =>
 run1 Tryz.prog Z (Instr.fieldAt 39 t1 11) w fun t7 w =>
 run1 Tryz.prog Z (Instr.loadAt 30 t7) w fun t8 w =>
 CallV Tryz.prog Z 35 #[t8] w fun t9 w =>
 run1 Tryz.prog Z (Instr.fieldAt 39 t1 11) w fun t10 w =>
 run0 Tryz.prog Z (Instr.storeAt 30 t10 t9) w fun w =>
 run1 Tryz.prog Z (Instr.loadAt 39 t1) w fun t11 w =>
 run0 Tryz.prog Z (Instr.storeAt 39 t2 t11) w fun w =>
 ∃ r_12, (do loadVar 39 (← asAddr t2) : Sem Value).run Tryz.prog w = .ok r_12 w ∧
 Q r_12 w
def f8.an : An := (.sq .leaf (.sq .leaf (.sq .leaf (.sq .leaf .leaf))))
theorem f8.calls {Z : List PanicEntry → World → Prop} {x0 : Value} {w : World} {Q : Value → World → Prop} (h : f8.sh Z x0 w Q) : CallV Tryz.prog Z 8 #[x0] w Q :=
 cl Tryz.func8 f8.an [x0] (by kernel_rfl) (by kernel_rfl) h

def f9.sh (Z : List PanicEntry → World → Prop) (x0 : Value) (w : World) (Q : Value → World → Prop) : Prop :=
 run1 Tryz.prog Z (binOp .lss 3 x0 (.int .i64 1)) w fun t1 w =>
 guardW (t1) false (fun k => k (x0) w) (fun t2 w =>
 guardW (t1) false (fun k => run1 Tryz.prog Z (binOp .gtr 3 t2 (.int .i64 7)) w k) (fun t3 w =>
 run1 Tryz.prog Z (pickV t1 (.bool true) t3) w fun t4 w =>
 CondV t4 (
 Q (Value.tuple #[(.pointer none), (.int .i64 1)]) w) (
 run1 Tryz.prog Z (Instr.build 93 #[(0, x0)]) w fun t5 w =>
 run1 Tryz.prog Z (Instr.box 93 t5) w fun t6 w =>
 Q (Value.tuple #[t6, (.int .i64 0)]) w)) w) w
def f9.an : An := (.sq .leaf (.sq (.sq .leaf (.cn (.sq .leaf .leaf) .leaf)) (.sq .leaf .leaf)))
theorem f9.calls {Z : List PanicEntry → World → Prop} {x0 : Value} {w : World} {Q : Value → World → Prop} (h : f9.sh Z x0 w Q) : CallV Tryz.prog Z 9 #[x0] w Q :=
 cl Tryz.func9 f9.an [x0] (by kernel_rfl) (by kernel_rfl) h

def f10.sh (Z : List PanicEntry → World → Prop) (x0 x1 x2 x3 : Value) (w : World) (Q : Value → World → Prop) : Prop :=
 CallV Tryz.prog Z 36 #[x0] w fun t1 w =>
 guardW (t1) false (fun k => k (x0) w) (fun t2 w =>
 guardW (t1) false (fun k => k (x1) w) (fun t3 w =>
 guardW (t1) false (fun k => CallV Tryz.prog Z 37 #[t2, t3] w k) (fun t4 w =>
 guardW (t1) false (fun k => run1 Tryz.prog Z (Op.unary .not t4) w k) (fun t5 w =>
 run1 Tryz.prog Z (pickV t1 (.bool true) t5) w fun t6 w =>
 guardW (t6) false (fun k => k (x0) w) (fun t7 w =>
 guardW (t6) false (fun k => k (x2) w) (fun t8 w =>
 guardW (t6) false (fun k => CallV Tryz.prog Z 37 #[t7, t8] w k) (fun t9 w =>
 guardW (t6) false (fun k => run1 Tryz.prog Z (Op.unary .not t9) w k) (fun t10 w =>
 run1 Tryz.prog Z (pickV t6 (.bool true) t10) w fun t11 w =>
 guardW (t11) false (fun k => k (x1) w) (fun t12 w =>
 guardW (t11) false (fun k => k (x2) w) (fun t13 w =>
 guardW (t11) false (fun k => run1 Tryz.prog Z (eqOp .eql 22 false false t12 t13) w k) (fun t14 w =>
 run1 Tryz.prog Z (pickV t11 (.bool true) t14) w fun t15 w =>
 guardW (t15) false (fun k => k (x3) w) (fun t16 w =>
 guardW (t15) false (fun k => run1 Tryz.prog Z (Builtin.len_ #[30] 3 #[t16]) w k) (fun t17 w =>
 guardW (t15) false (fun k => run1 Tryz.prog Z (binOp .lss 3 t17 (.int .i64 1)) w k) (fun t18 w =>
 run1 Tryz.prog Z (pickV t15 (.bool true) t18) w fun t19 w =>
 guardW (t19) false (fun k => k (x3) w) (fun t20 w =>
 guardW (t19) false (fun k => run1 Tryz.prog Z (Builtin.len_ #[30] 3 #[t20]) w k) (fun t21 w =>
 guardW (t19) false (fun k => run1 Tryz.prog Z (binOp .gtr 3 t21 (.int .i64 8192)) w k) (fun t22 w =>
 run1 Tryz.prog Z (pickV t19 (.bool true) t22) w fun t23 w =>
 CondV t23 (
 Q (.int .i64 1) w) (
 Drawn w fun w =>
 PureV Tryz.prog (nilChk x0) fun t24 =>
 Pure1 Tryz.prog (Instr.fieldAt 93 t24 1) fun t25 =>
 Read1 Tryz.prog (Instr.loadAt 91 t25) w fun t26 =>
 Pure1 Tryz.prog (Instr.build 54 #[(0, x1), (1, x2), (2, x3)]) fun t27 =>
 CallV Tryz.prog Z 38 #[t27] w fun t28 w =>
 Still Tryz.prog (nx (Instr.loadAt 91 t25)) t26 w <|
 run1 Tryz.prog Z (Instr.buildSlice 91 1 #[(0, t28)]) w fun t29 w =>
 Still Tryz.prog (nx (Instr.loadAt 91 t25)) t26 w <|
 run1 Tryz.prog Z (Builtin.append_ #[91, 91] 91 #[t26, t29]) w fun t30 w =>
 PureV Tryz.prog (nilChk x0) fun t31 =>
 Pure1 Tryz.prog (Instr.fieldAt 93 t31 1) fun t32 =>
 run0 Tryz.prog Z (Instr.storeAt 91 t32 t30) w fun w =>
 Q (.int .i64 0) w)) w) w) w) w) w) w) w) w) w) w) w) w) w) w) w) w) w
def f10.an : An := (.sq .leaf (.sq (.sq .leaf (.cn (.sq .leaf .leaf) .leaf)) (.sq (.dr (pl [0, 4, 8, 12, 17, 20, 24, 28, 32, 38, 42, 46, 48, 52, 58] .fin)) (.sq .leaf .leaf))))
theorem f10.calls {Z : List PanicEntry → World → Prop} {x0 x1 x2 x3 : Value} {w : World} {Q : Value → World → Prop} (h : f10.sh Z x0 x1 x2 x3 w Q) : CallV Tryz.prog Z 10 #[x0, x1, x2, x3] w Q :=
 cl Tryz.func10 f10.an [x0, x1, x2, x3] (by kernel_rfl) (by kernel_rfl) h

def f11.sh (Z : List PanicEntry → World → Prop) (x0 x1 : Value) (w : World) (Q : Value → World → Prop) : Prop :=
 run1 Tryz.prog Z (Instr.makeFunc (.func 40) #[x0] #[]) w fun t1 w =>
 CallV Tryz.prog Z 39 #[x0, x1, t1] w fun t2 w =>
 Q t2 w
def f11.an : An := (.sq .leaf (.sq .leaf .leaf))
theorem f11.calls {Z : List PanicEntry → World → Prop} {x0 x1 : Value} {w : World} {Q : Value → World → Prop} (h : f11.sh Z x0 x1 w Q) : CallV Tryz.prog Z 11 #[x0, x1] w Q :=
 cl Tryz.func11 f11.an [x0, x1] (by kernel_rfl) (by kernel_rfl) h

def f12.sh (Z : List PanicEntry → World → Prop) (x0 x1 x2 x3 : Value) (w : World) (Q : Value → World → Prop) : Prop :=
 run1 Tryz.prog Z (Instr.box 3 x2) w fun t1 w =>
 run1 Tryz.prog Z (Instr.box 5 x3) w fun t2 w =>
 run1 Tryz.prog Z (Instr.makeFunc (.func 41) #[] #[t1, t2]) w fun t3 w =>
 CallV Tryz.prog Z 39 #[x0, x1, t3] w fun t4 w =>
 Q t4 w
def f12.an : An := (.sq .leaf (.sq .leaf .leaf))
theorem f12.calls {Z : List PanicEntry → World → Prop} {x0 x1 x2 x3 : Value} {w : World} {Q : Value → World → Prop} (h : f12.sh Z x0 x1 x2 x3 w Q) : CallV Tryz.prog Z 12 #[x0, x1, x2, x3] w Q :=
 cl Tryz.func12 f12.an [x0, x1, x2, x3] (by kernel_rfl) (by kernel_rfl) h

def f13.sh (Z : List PanicEntry → World → Prop) (x0 x1 : Value) (w : World) (Q : Value → World → Prop) : Prop :=
 run1 Tryz.prog Z (Instr.box 47 x0) w fun t1 w =>
 run1 Tryz.prog Z (Instr.box 3 x1) w fun t2 w =>
 run1 Tryz.prog Z (Instr.alloc 54 true (.tuple #[])) w fun t3 w =>
 run1 Tryz.prog Z (Instr.alloc 54 true (.tuple #[])) w fun t4 w =>
 run1 Tryz.prog Z (Instr.loadAt 47 t1) w fun t5 w =>
 run1 Tryz.prog Z (Instr.loadAt 3 t2) w fun t6 w =>
 run1 Tryz.prog Z (Instr.makeFunc (.func 42) #[] #[t4, t1, t2]) w fun t7 w =>
 CallV Tryz.prog Z 39 #[t5, t6, t7] w fun t8 w =>
 run1 Tryz.prog Z (Instr.loadAt 54 t4) w fun t9 w =>
 run0 Tryz.prog Z (Instr.storeAt 54 t3 t9) w fun w =>
 ∃ r_10, (do loadVar 54 (← asAddr t3) : Sem Value).run Tryz.prog w = .ok r_10 w ∧
 Q (Value.tuple #[r_10, t8]) w
def f13.an : An := (.sq .leaf (.sq .leaf (.sq .leaf (.sq .leaf .leaf))))
theorem f13.calls {Z : List PanicEntry → World → Prop} {x0 x1 : Value} {w : World} {Q : Value → World → Prop} (h : f13.sh Z x0 x1 w Q) : CallV Tryz.prog Z 13 #[x0, x1] w Q :=
 cl Tryz.func13 f13.an [x0, x1] (by kernel_rfl) (by kernel_rfl) h

def f15.sh (Z : List PanicEntry → World → Prop) (x0 x1 : Value) (w : World) (Q : Value → World → Prop) : Prop :=
 run1 Tryz.prog Z (Instr.box 39 x0) w fun t1 w =>
 run1 Tryz.prog Z (Instr.box 39 x1) w fun t2 w =>
 run1 Tryz.prog Z (Instr.fieldAt 39 t1 0) w fun t3 w =>
 run1 Tryz.prog Z (Instr.loadAt 22 t3) w fun t4 w =>
 run1 Tryz.prog Z (Instr.fieldAt 39 t2 0) w fun t5 w =>
 run1 Tryz.prog Z (Instr.loadAt 22 t5) w fun t6 w =>
 run1 Tryz.prog Z (eqOp .neq 22 false false t4 t6) w fun t7 w =>
 guardW (t7) false (fun k => run1 Tryz.prog Z (Instr.fieldAt 39 t1 1) w k) (fun t8 w =>
 guardW (t7) false (fun k => run1 Tryz.prog Z (Instr.loadAt 25 t8) w k) (fun t9 w =>
 guardW (t7) false (fun k => run1 Tryz.prog Z (Instr.fieldAt 39 t2 1) w k) (fun t10 w =>
 guardW (t7) false (fun k => run1 Tryz.prog Z (Instr.loadAt 25 t10) w k) (fun t11 w =>
 guardW (t7) false (fun k => run1 Tryz.prog Z (eqOp .neq 25 false false t9 t11) w k) (fun t12 w =>
 run1 Tryz.prog Z (pickV t7 (.bool true) t12) w fun t13 w =>
 guardW (t13) false (fun k => run1 Tryz.prog Z (Instr.fieldAt 39 t1 2) w k) (fun t14 w =>
 guardW (t13) false (fun k => run1 Tryz.prog Z (Instr.loadAt 25 t14) w k) (fun t15 w =>
 guardW (t13) false (fun k => run1 Tryz.prog Z (Instr.fieldAt 39 t2 2) w k) (fun t16 w =>
 guardW (t13) false (fun k => run1 Tryz.prog Z (Instr.loadAt 25 t16) w k) (fun t17 w =>
 guardW (t13) false (fun k => run1 Tryz.prog Z (eqOp .neq 25 false false t15 t17) w k) (fun t18 w =>
 run1 Tryz.prog Z (pickV t13 (.bool true) t18) w fun t19 w =>
 guardW (t19) false (fun k => run1 Tryz.prog Z (Instr.fieldAt 39 t1 3) w k) (fun t20 w =>
 guardW (t19) false (fun k => run1 Tryz.prog Z (Instr.loadAt 2 t20) w k) (fun t21 w =>
 guardW (t19) false (fun k => run1 Tryz.prog Z (Instr.fieldAt 39 t2 3) w k) (fun t22 w =>
 guardW (t19) false (fun k => run1 Tryz.prog Z (Instr.loadAt 2 t22) w k) (fun t23 w =>
 guardW (t19) false (fun k => run1 Tryz.prog Z (eqOp .neq 2 false false t21 t23) w k) (fun t24 w =>
 run1 Tryz.prog Z (pickV t19 (.bool true) t24) w fun t25 w =>
 guardW (t25) false (fun k => run1 Tryz.prog Z (Instr.fieldAt 39 t1 4) w k) (fun t26 w =>
 guardW (t25) false (fun k => run1 Tryz.prog Z (Instr.loadAt 23 t26) w k) (fun t27 w =>
 guardW (t25) false (fun k => run1 Tryz.prog Z (Instr.fieldAt 39 t2 4) w k) (fun t28 w =>
 guardW (t25) false (fun k => run1 Tryz.prog Z (Instr.loadAt 23 t28) w k) (fun t29 w =>
 guardW (t25) false (fun k => run1 Tryz.prog Z (eqOp .neq 23 false false t27 t29) w k) (fun t30 w =>
 run1 Tryz.prog Z (pickV t25 (.bool true) t30) w fun t31 w =>
 guardW (t31) false (fun k => run1 Tryz.prog Z (Instr.fieldAt 39 t1 5) w k) (fun t32 w =>
 guardW (t31) false (fun k => run1 Tryz.prog Z (Instr.loadAt 23 t32) w k) (fun t33 w =>
 guardW (t31) false (fun k => run1 Tryz.prog Z (Instr.fieldAt 39 t2 5) w k) (fun t34 w =>
 guardW (t31) false (fun k => run1 Tryz.prog Z (Instr.loadAt 23 t34) w k) (fun t35 w =>
 guardW (t31) false (fun k => run1 Tryz.prog Z (eqOp .neq 23 false false t33 t35) w k) (fun t36 w =>
 run1 Tryz.prog Z (pickV t31 (.bool true) t36) w fun t37 w =>
 guardW (t37) false (fun k => run1 Tryz.prog Z (Instr.fieldAt 39 t1 6) w k) (fun t38 w =>
 guardW (t37) false (fun k => run1 Tryz.prog Z (Instr.loadAt 27 t38) w k) (fun t39 w =>
 guardW (t37) false (fun k => run1 Tryz.prog Z (Instr.fieldAt 39 t2 6) w k) (fun t40 w =>
 guardW (t37) false (fun k => run1 Tryz.prog Z (Instr.loadAt 27 t40) w k) (fun t41 w =>
 guardW (t37) false (fun k => run1 Tryz.prog Z (eqOp .neq 27 false false t39 t41) w k) (fun t42 w =>
 run1 Tryz.prog Z (pickV t37 (.bool true) t42) w fun t43 w =>
 guardW (t43) false (fun k => run1 Tryz.prog Z (Instr.fieldAt 39 t1 7) w k) (fun t44 w =>
 guardW (t43) false (fun k => run1 Tryz.prog Z (Instr.loadAt 27 t44) w k) (fun t45 w =>
 guardW (t43) false (fun k => run1 Tryz.prog Z (Instr.fieldAt 39 t2 7) w k) (fun t46 w =>
 guardW (t43) false (fun k => run1 Tryz.prog Z (Instr.loadAt 27 t46) w k) (fun t47 w =>
 guardW (t43) false (fun k => run1 Tryz.prog Z (eqOp .neq 27 false false t45 t47) w k) (fun t48 w =>
 run1 Tryz.prog Z (pickV t43 (.bool true) t48) w fun t49 w =>
 CondV t49 (
 Q (.bool false) w) (
 run1 Tryz.prog Z (Instr.fieldAt 39 t1 8) w fun t50 w =>
 run1 Tryz.prog Z (Instr.loadAt 4 t50) w fun t51 w =>
 run1 Tryz.prog Z (Instr.fieldAt 39 t2 8) w fun t52 w =>
 run1 Tryz.prog Z (Instr.loadAt 4 t52) w fun t53 w =>
 run1 Tryz.prog Z (eqOp .eql 4 false false t51 t53) w fun t54 w =>
 guardW (t54) true (fun k => run1 Tryz.prog Z (Instr.fieldAt 39 t1 9) w k) (fun t55 w =>
 guardW (t54) true (fun k => run1 Tryz.prog Z (Instr.loadAt 4 t55) w k) (fun t56 w =>
 guardW (t54) true (fun k => run1 Tryz.prog Z (Instr.fieldAt 39 t2 9) w k) (fun t57 w =>
 guardW (t54) true (fun k => run1 Tryz.prog Z (Instr.loadAt 4 t57) w k) (fun t58 w =>
 guardW (t54) true (fun k => run1 Tryz.prog Z (eqOp .eql 4 false false t56 t58) w k) (fun t59 w =>
 run1 Tryz.prog Z (pickV t54 t59 (.bool false)) w fun t60 w =>
 guardW (t60) true (fun k => run1 Tryz.prog Z (Instr.fieldAt 39 t1 12) w k) (fun t61 w =>
 guardW (t60) true (fun k => run1 Tryz.prog Z (Instr.loadAt 2 t61) w k) (fun t62 w =>
 guardW (t60) true (fun k => run1 Tryz.prog Z (Instr.fieldAt 39 t2 12) w k) (fun t63 w =>
 guardW (t60) true (fun k => run1 Tryz.prog Z (Instr.loadAt 2 t63) w k) (fun t64 w =>
 guardW (t60) true (fun k => run1 Tryz.prog Z (eqOp .eql 2 false false t62 t64) w k) (fun t65 w =>
 run1 Tryz.prog Z (pickV t60 t65 (.bool false)) w fun t66 w =>
 guardW (t66) true (fun k => run1 Tryz.prog Z (Instr.fieldAt 39 t1 10) w k) (fun t67 w =>
 guardW (t66) true (fun k => run1 Tryz.prog Z (Instr.loadAt 37 t67) w k) (fun t68 w =>
 guardW (t66) true (fun k => run1 Tryz.prog Z (Instr.fieldAt 39 t2 10) w k) (fun t69 w =>
 guardW (t66) true (fun k => run1 Tryz.prog Z (Instr.loadAt 37 t69) w k) (fun t70 w =>
 guardW (t66) true (fun k => CallV Tryz.prog Z 23 #[t68, t70] w k) (fun t71 w =>
 run1 Tryz.prog Z (pickV t66 t71 (.bool false)) w fun t72 w =>
 guardW (t72) true (fun k => run1 Tryz.prog Z (Instr.fieldAt 39 t1 11) w k) (fun t73 w =>
 guardW (t72) true (fun k => run1 Tryz.prog Z (Instr.loadAt 30 t73) w k) (fun t74 w =>
 guardW (t72) true (fun k => run1 Tryz.prog Z (Instr.fieldAt 39 t2 11) w k) (fun t75 w =>
 guardW (t72) true (fun k => run1 Tryz.prog Z (Instr.loadAt 30 t75) w k) (fun t76 w =>
 guardW (t72) true (fun k => CallV Tryz.prog Z 16 #[t74, t76] w k) (fun t77 w =>
 run1 Tryz.prog Z (pickV t72 t77 (.bool false)) w fun t78 w =>
 Q t78 w) w) w) w) w) w) w) w) w) w) w) w) w) w) w) w) w) w) w) w) w)) w) w) w) w) w) w) w) w) w) w) w) w) w) w) w) w) w) w) w) w) w) w) w) w) w) w) w) w) w) w) w) w) w) w) w
def f15.an : An := (.sq .leaf (.sq (.sq .leaf (.cn (.sq .leaf .leaf) .leaf)) (.sq .leaf .leaf)))
theorem f15.calls {Z : List PanicEntry → World → Prop} {x0 x1 : Value} {w : World} {Q : Value → World → Prop} (h : f15.sh Z x0 x1 w Q) : CallV Tryz.prog Z 15 #[x0, x1] w Q :=
 cl Tryz.func15 f15.an [x0, x1] (by kernel_rfl) (by kernel_rfl) h

def f16.sh (Z : List PanicEntry → World → Prop) (x0 x1 : Value) (w : World) (Q : Value → World → Prop) : Prop :=
 run1 Tryz.prog Z (Builtin.len_ #[30] 3 #[x0]) w fun t1 w =>
 run1 Tryz.prog Z (Builtin.len_ #[30] 3 #[x1]) w fun t2 w =>
 run1 Tryz.prog Z (eqOp .neq 3 false false t1 t2) w fun t3 w =>
 CondV t3 (
 Q (.bool false) w) (
 ∃ J_4 : Nat → Value → World → Prop, (∃ m, J_4 m (.int .i64 0) w) ∧
 ∀ m_4, ∀ t5 : Value, ∀ w : World, J_4 m_4 t5 w → Env →
 run1 Tryz.prog Z (Builtin.len_ #[30] 3 #[x0]) w fun t6 w =>
 run1 Tryz.prog Z (binOp .lss 3 t5 t6) w fun t7 w =>
 CondV t7 (
 Drawn w fun w =>
 Pure1 Tryz.prog (Instr.indexAt 30 x0 t5) fun t8 =>
 Read1 Tryz.prog (Instr.loadAt 5 t8) w fun t9 =>
 Pure1 Tryz.prog (Instr.indexAt 30 x1 t5) fun t10 =>
 Read1 Tryz.prog (Instr.loadAt 5 t10) w fun t11 =>
 Pure1 Tryz.prog (eqOp .neq 5 false false t9 t11) fun t12 =>
 CondV t12 (
 Q (.bool false) w) (
 run1 Tryz.prog Z (binOp .add 3 t5 (.int .i64 1)) w fun t13 w =>
 ∃ n_4, n_4 < m_4 ∧ J_4 n_4 t13 w)) (
 Q (.bool true) w))
def f16.an : An := (.sq .leaf (.sq (.sq .leaf (.cn (.sq .leaf .leaf) .leaf)) (.sq (.sq .leaf (.bl (.lp [5] (.sq (.sq .leaf (.cn .leaf .leaf)) (.sq (.bl (.sq (.dr (pl [0, 4, 8, 13, 16, 20, 24, 29, 32] .fin)) (.cn (.sq .leaf .leaf) .leaf))) .leaf))))) (.sq .leaf .leaf))))
theorem f16.calls {Z : List PanicEntry → World → Prop} {x0 x1 : Value} {w : World} {Q : Value → World → Prop} (h : f16.sh Z x0 x1 w Q) : CallV Tryz.prog Z 16 #[x0, x1] w Q :=
 cl Tryz.func16 f16.an [x0, x1] (by kernel_rfl) (by kernel_rfl) h

def f17.sh (Z : List PanicEntry → World → Prop) (x0 : Value) (w : World) (Q : Value → World → Prop) : Prop :=
 CallV Tryz.prog Z 36 #[x0] w fun t1 w =>
 CondV t1 (
 Q (.int .i64 0) w) (
 runX Tryz.prog Z (nilChk x0) w fun t2 w =>
 run1 Tryz.prog Z (Instr.fieldAt 93 t2 1) w fun t3 w =>
 run1 Tryz.prog Z (Instr.loadAt 91 t3) w fun t4 w =>
 run1 Tryz.prog Z (Builtin.len_ #[91] 3 #[t4]) w fun t5 w =>
 Q t5 w)
def f17.an : An := (.sq .leaf (.sq (.sq .leaf (.cn (.sq .leaf .leaf) .leaf)) (.sq .leaf .leaf)))
theorem f17.calls {Z : List PanicEntry → World → Prop} {x0 : Value} {w : World} {Q : Value → World → Prop} (h : f17.sh Z x0 w Q) : CallV Tryz.prog Z 17 #[x0] w Q :=
 cl Tryz.func17 f17.an [x0] (by kernel_rfl) (by kernel_rfl) h

def f18.sh (Z : List PanicEntry → World → Prop) (x0 : Value) (w : World) (Q : Value → World → Prop) : Prop :=
 run1 Tryz.prog Z (Instr.box 35 x0) w fun t1 w =>
 run1 Tryz.prog Z (Instr.loadAt 35 t1) w fun t2 w =>
 CallV Tryz.prog Z 49 #[t2, (.int .i64 0)] w fun t3 w =>
 Q t3 w
def f18.an : An := (.sq .leaf (.sq .leaf .leaf))
theorem f18.calls {Z : List PanicEntry → World → Prop} {x0 : Value} {w : World} {Q : Value → World → Prop} (h : f18.sh Z x0 w Q) : CallV Tryz.prog Z 18 #[x0] w Q :=
 cl Tryz.func18 f18.an [x0] (by kernel_rfl) (by kernel_rfl) h

def f19.sh (Z : List PanicEntry → World → Prop) (x0 : Value) (w : World) (Q : Value → World → Prop) : Prop :=
 ∀ j_1 : World → Prop, (∀ w : World, (Env →
 Q (.string { data := #[] }) w) →
 j_1 w) →
 run1 Tryz.prog Z (eqOp .eql 22 false true x0 (.int .i8 1)) w fun t2 w =>
 CondV t2 (
 Q (.string { data := #[99, 101] }) w) (
 ∀ j_3 : Value → World → Prop, (∀ t4 : Value, ∀ w : World, (Env →
 CondV t4 (
 Q (.string { data := #[99, 108, 112, 101] }) w) (
 run1 Tryz.prog Z (eqOp .eql 22 false true x0 (.int .i8 3)) w fun t5 w =>
 CondV t5 (
 Q (.string { data := #[99, 108, 112, 101, 117, 122, 111] }) w) (
 ∀ j_6 : Value → World → Prop, (∀ t7 : Value, ∀ w : World, (Env →
 CondV t7 (
 Q (.string { data := #[99, 108, 112, 122] }) w) (
 ∀ j_8 : Value → World → Prop, (∀ t9 : Value, ∀ w : World, (Env →
 CondV t9 (
 Q (.string { data := #[99, 108, 112, 118, 116] }) w) (
 run1 Tryz.prog Z (eqOp .eql 22 false true x0 (.int .i8 6)) w fun t10 w =>
 CondV t10 (
 Q (.string { data := #[99, 108, 112, 102, 98] }) w) (
 run1 Tryz.prog Z (eqOp .eql 22 false true x0 (.int .i8 7)) w fun t11 w =>
 CondV t11 (
 Q (.string { data := #[99, 108, 112, 101, 122] }) w) (
 run1 Tryz.prog Z (eqOp .eql 22 false true x0 (.int .i8 13)) w fun t12 w =>
 CondV t12 (
 Q (.string { data := #[99, 108, 112, 116] }) w) (
 run1 Tryz.prog Z (eqOp .eql 22 false true x0 (.int .i8 14)) w fun t13 w =>
 CondV t13 (
 Q (.string { data := #[99, 108, 112, 115] }) w) (
 j_1 w)))))) →
 j_8 t9 w) →
 run1 Tryz.prog Z (eqOp .eql 22 false true x0 (.int .i8 5)) w fun t14 w =>
 CondV t14 (
 j_8 t14 w) (
 run1 Tryz.prog Z (eqOp .eql 22 false true x0 (.int .i8 10)) w fun t15 w =>
 j_8 t15 w))) →
 j_6 t7 w) →
 run1 Tryz.prog Z (eqOp .eql 22 false true x0 (.int .i8 4)) w fun t16 w =>
 CondV t16 (
 j_6 t16 w) (
 run1 Tryz.prog Z (eqOp .eql 22 false true x0 (.int .i8 9)) w fun t17 w =>
 CondV t17 (
 j_6 t17 w) (
 run1 Tryz.prog Z (eqOp .eql 22 false true x0 (.int .i8 11)) w fun t18 w =>
 CondV t18 (
 j_6 t18 w) (
 run1 Tryz.prog Z (eqOp .eql 22 false true x0 (.int .i8 12)) w fun t19 w =>
 j_6 t19 w)))))) →
 j_3 t4 w) →
 run1 Tryz.prog Z (eqOp .eql 22 false true x0 (.int .i8 2)) w fun t20 w =>
 CondV t20 (
 j_3 t20 w) (
 run1 Tryz.prog Z (eqOp .eql 22 false true x0 (.int .i8 8)) w fun t21 w =>
 j_3 t21 w))
def f19.an : An := (.sq .leaf (.sj [] (.sq .leaf (.bl (.sq .leaf (.cn (.sq .leaf .leaf) (.sj [6] (.sq .leaf (.cn .leaf .leaf)) (.cn (.sq .leaf .leaf) (.sq .leaf (.cn (.sq .leaf .leaf) (.sj [11] (.sq .leaf (.cn .leaf (.sq .leaf (.cn .leaf (.sq .leaf (.cn .leaf .leaf)))))) (.cn (.sq .leaf .leaf) (.sj [16] (.sq .leaf (.cn .leaf .leaf)) (.cn (.sq .leaf .leaf) (.sq .leaf (.cn (.sq .leaf .leaf) (.sq .leaf (.cn (.sq .leaf .leaf) (.sq .leaf (.cn (.sq .leaf .leaf) (.sq .leaf (.cn (.sq .leaf .leaf) .leaf)))))))))))))))))))) (.sq .leaf .leaf)))
theorem f19.calls {Z : List PanicEntry → World → Prop} {x0 : Value} {w : World} {Q : Value → World → Prop} (h : f19.sh Z x0 w Q) : CallV Tryz.prog Z 19 #[x0] w Q :=
 cl Tryz.func19 f19.an [x0] (by kernel_rfl) (by kernel_rfl) h

def f20.sh (Z : List PanicEntry → World → Prop) (x0 x1 : Value) (w : World) (Q : Value → World → Prop) : Prop :=
 run1 Tryz.prog Z (Instr.box 25 x0) w fun t1 w =>
 CondV x1 (
 run1 Tryz.prog Z (Instr.fieldAt 25 t1 0) w fun t2 w =>
 run1 Tryz.prog Z (Instr.loadAt 23 t2) w fun t3 w =>
 run1 Tryz.prog Z (binOp .gtr 23 t3 (.int .u32 0)) w fun t4 w =>
 guardW (t4) true (fun k => run1 Tryz.prog Z (Instr.fieldAt 25 t1 1) w k) (fun t5 w =>
 guardW (t4) true (fun k => run1 Tryz.prog Z (Instr.loadAt 23 t5) w k) (fun t6 w =>
 guardW (t4) true (fun k => run1 Tryz.prog Z (binOp .gtr 23 t6 (.int .u32 0)) w k) (fun t7 w =>
 run1 Tryz.prog Z (pickV t4 t7 (.bool false)) w fun t8 w =>
 Q t8 w) w) w) w) (
 run1 Tryz.prog Z (Instr.fieldAt 25 t1 0) w fun t9 w =>
 run1 Tryz.prog Z (Instr.loadAt 23 t9) w fun t10 w =>
 run1 Tryz.prog Z (eqOp .eql 23 false true t10 (.int .u32 0)) w fun t11 w =>
 guardW (t11) true (fun k => run1 Tryz.prog Z (Instr.fieldAt 25 t1 1) w k) (fun t12 w =>
 guardW (t11) true (fun k => run1 Tryz.prog Z (Instr.loadAt 23 t12) w k) (fun t13 w =>
 guardW (t11) true (fun k => run1 Tryz.prog Z (eqOp .eql 23 false true t13 (.int .u32 0)) w k) (fun t14 w =>
 run1 Tryz.prog Z (pickV t11 t14 (.bool false)) w fun t15 w =>
 Q t15 w) w) w) w)
def f20.an : An := (.sq .leaf (.sq (.sq .leaf (.cn (.sq .leaf .leaf) .leaf)) (.sq .leaf .leaf)))
theorem f20.calls {Z : List PanicEntry → World → Prop} {x0 x1 : Value} {w : World} {Q : Value → World → Prop} (h : f20.sh Z x0 x1 w Q) : CallV Tryz.prog Z 20 #[x0, x1] w Q :=
 cl Tryz.func20 f20.an [x0, x1] (by kernel_rfl) (by kernel_rfl) h

def f21.sh (Z : List PanicEntry → World → Prop) (x0 x1 : Value) (w : World) (Q : Value → World → Prop) : Prop :=
 ∃ J_1 : Nat → Value → World → Prop, (∃ m, J_1 m (.int .i64 0) w) ∧
 ∀ m_1, ∀ t2 : Value, ∀ w : World, J_1 m_1 t2 w → Env →
 run1 Tryz.prog Z (Builtin.len_ #[9] 3 #[x0]) w fun t3 w =>
 run1 Tryz.prog Z (binOp .lss 3 t2 t3) w fun t4 w =>
 CondV t4 (
 run1 Tryz.prog Z (Instr.index 9 x0 t2) w fun t5 w =>
 run1 Tryz.prog Z (eqOp .eql 5 false false t5 x1) w fun t6 w =>
 CondV t6 (
 Q (.bool true) w) (
 run1 Tryz.prog Z (binOp .add 3 t2 (.int .i64 1)) w fun t7 w =>
 ∃ n_1, n_1 < m_1 ∧ J_1 n_1 t7 w)) (
 Q (.bool false) w)
def f21.an : An := (.sq .leaf (.sq (.sq .leaf (.bl (.lp [5] (.sq (.sq .leaf (.cn .leaf .leaf)) (.sq (.bl (.sq .leaf (.cn (.sq .leaf .leaf) .leaf))) .leaf))))) (.sq .leaf .leaf)))
theorem f21.calls {Z : List PanicEntry → World → Prop} {x0 x1 : Value} {w : World} {Q : Value → World → Prop} (h : f21.sh Z x0 x1 w Q) : CallV Tryz.prog Z 21 #[x0, x1] w Q :=
 cl Tryz.func21 f21.an [x0, x1] (by kernel_rfl) (by kernel_rfl) h

def f22.sh (Z : List PanicEntry → World → Prop) (x0 x1 : Value) (w : World) (Q : Value → World → Prop) : Prop :=
 run1 Tryz.prog Z (Instr.box 27 x0) w fun t1 w =>
 run1 Tryz.prog Z (Instr.fieldAt 27 t1 0) w fun t2 w =>
 run1 Tryz.prog Z (Instr.loadAt 23 t2) w fun t3 w =>
 run1 Tryz.prog Z (eqOp .eql 23 false true t3 (.int .u32 0)) w fun t4 w =>
 guardW (t4) true (fun k => run1 Tryz.prog Z (Instr.fieldAt 27 t1 1) w k) (fun t5 w =>
 guardW (t4) true (fun k => run1 Tryz.prog Z (Instr.loadAt 23 t5) w k) (fun t6 w =>
 guardW (t4) true (fun k => run1 Tryz.prog Z (eqOp .eql 23 false true t6 (.int .u32 0)) w k) (fun t7 w =>
 run1 Tryz.prog Z (pickV t4 t7 (.bool false)) w fun t8 w =>
 guardW (t8) false (fun k => k (x1) w) (fun t9 w =>
 guardW (t8) false (fun k => k (t9) w) (fun t10 w =>
 guardW (t10) true (fun k => run1 Tryz.prog Z (Instr.fieldAt 27 t1 0) w k) (fun t11 w =>
 guardW (t10) true (fun k => run1 Tryz.prog Z (Instr.loadAt 23 t11) w k) (fun t12 w =>
 guardW (t10) true (fun k => run1 Tryz.prog Z (binOp .gtr 23 t12 (.int .u32 0)) w k) (fun t13 w =>
 guardW (t8) false (fun k => run1 Tryz.prog Z (pickV t10 t13 (.bool false)) w k) (fun t14 w =>
 guardW (t8) false (fun k => k (t14) w) (fun t15 w =>
 guardW (t15) true (fun k => run1 Tryz.prog Z (Instr.fieldAt 27 t1 0) w k) (fun t16 w =>
 guardW (t15) true (fun k => run1 Tryz.prog Z (Instr.loadAt 23 t16) w k) (fun t17 w =>
 guardW (t15) true (fun k => run1 Tryz.prog Z (binOp .leq 23 t17 (.int .u32 2147483647)) w k) (fun t18 w =>
 guardW (t8) false (fun k => run1 Tryz.prog Z (pickV t15 t18 (.bool false)) w k) (fun t19 w =>
 guardW (t8) false (fun k => k (t19) w) (fun t20 w =>
 guardW (t20) true (fun k => run1 Tryz.prog Z (Instr.fieldAt 27 t1 1) w k) (fun t21 w =>
 guardW (t20) true (fun k => run1 Tryz.prog Z (Instr.loadAt 23 t21) w k) (fun t22 w =>
 guardW (t20) true (fun k => run1 Tryz.prog Z (binOp .gtr 23 t22 (.int .u32 0)) w k) (fun t23 w =>
 guardW (t8) false (fun k => run1 Tryz.prog Z (pickV t20 t23 (.bool false)) w k) (fun t24 w =>
 run1 Tryz.prog Z (pickV t8 (.bool true) t24) w fun t25 w =>
 Q t25 w) w) w) w) w) w) w) w) w) w) w) w) w) w) w) w) w) w) w) w
def f22.an : An := (.sq .leaf (.sq .leaf (.sq .leaf .leaf)))
theorem f22.calls {Z : List PanicEntry → World → Prop} {x0 x1 : Value} {w : World} {Q : Value → World → Prop} (h : f22.sh Z x0 x1 w Q) : CallV Tryz.prog Z 22 #[x0, x1] w Q :=
 cl Tryz.func22 f22.an [x0, x1] (by kernel_rfl) (by kernel_rfl) h

def f23.sh (Z : List PanicEntry → World → Prop) (x0 x1 : Value) (w : World) (Q : Value → World → Prop) : Prop :=
 run1 Tryz.prog Z (Instr.box 37 x0) w fun t1 w =>
 run1 Tryz.prog Z (Instr.box 37 x1) w fun t2 w =>
 run1 Tryz.prog Z (Instr.fieldAt 37 t1 0) w fun t3 w =>
 run1 Tryz.prog Z (Instr.loadAt 27 t3) w fun t4 w =>
 run1 Tryz.prog Z (Instr.fieldAt 37 t2 0) w fun t5 w =>
 run1 Tryz.prog Z (Instr.loadAt 27 t5) w fun t6 w =>
 run1 Tryz.prog Z (eqOp .eql 27 false false t4 t6) w fun t7 w =>
 guardW (t7) true (fun k => run1 Tryz.prog Z (Instr.fieldAt 37 t1 1) w k) (fun t8 w =>
 guardW (t7) true (fun k => run1 Tryz.prog Z (Instr.loadAt 29 t8) w k) (fun t9 w =>
 guardW (t7) true (fun k => run1 Tryz.prog Z (Instr.fieldAt 37 t2 1) w k) (fun t10 w =>
 guardW (t7) true (fun k => run1 Tryz.prog Z (Instr.loadAt 29 t10) w k) (fun t11 w =>
 guardW (t7) true (fun k => run1 Tryz.prog Z (eqOp .eql 29 false false t9 t11) w k) (fun t12 w =>
 run1 Tryz.prog Z (pickV t7 t12 (.bool false)) w fun t13 w =>
 guardW (t13) true (fun k => run1 Tryz.prog Z (Instr.fieldAt 37 t1 2) w k) (fun t14 w =>
 guardW (t13) true (fun k => run1 Tryz.prog Z (Instr.loadAt 35 t14) w k) (fun t15 w =>
 guardW (t13) true (fun k => run1 Tryz.prog Z (Instr.fieldAt 37 t2 2) w k) (fun t16 w =>
 guardW (t13) true (fun k => run1 Tryz.prog Z (Instr.loadAt 35 t16) w k) (fun t17 w =>
 guardW (t13) true (fun k => CallV Tryz.prog Z 50 #[t15, t17] w k) (fun t18 w =>
 run1 Tryz.prog Z (pickV t13 t18 (.bool false)) w fun t19 w =>
 Q t19 w) w) w) w) w) w) w) w) w) w) w
def f23.an : An := (.sq .leaf (.sq .leaf .leaf))
theorem f23.calls {Z : List PanicEntry → World → Prop} {x0 x1 : Value} {w : World} {Q : Value → World → Prop} (h : f23.sh Z x0 x1 w Q) : CallV Tryz.prog Z 23 #[x0, x1] w Q :=
 cl Tryz.func23 f23.an [x0, x1] (by kernel_rfl) (by kernel_rfl) h

def f24.sh (Z : List PanicEntry → World → Prop) (x0 : Value) (w : World) (Q : Value → World → Prop) : Prop :=
 run1 Tryz.prog Z (Instr.box 37 x0) w fun t1 w =>
 run1 Tryz.prog Z (Instr.fieldAt 37 t1 0) w fun t2 w =>
 run1 Tryz.prog Z (Instr.fieldAt 27 t2 0) w fun t3 w =>
 run1 Tryz.prog Z (Instr.loadAt 23 t3) w fun t4 w =>
 run1 Tryz.prog Z (eqOp .eql 23 false true t4 (.int .u32 0)) w fun t5 w =>
 guardW (t5) true (fun k => run1 Tryz.prog Z (Instr.fieldAt 37 t1 0) w k) (fun t6 w =>
 guardW (t5) true (fun k => run1 Tryz.prog Z (Instr.fieldAt 27 t6 1) w k) (fun t7 w =>
 guardW (t5) true (fun k => run1 Tryz.prog Z (Instr.loadAt 23 t7) w k) (fun t8 w =>
 guardW (t5) true (fun k => run1 Tryz.prog Z (eqOp .eql 23 false true t8 (.int .u32 0)) w k) (fun t9 w =>
 run1 Tryz.prog Z (pickV t5 t9 (.bool false)) w fun t10 w =>
 run1 Tryz.prog Z (Instr.fieldAt 37 t1 0) w fun t11 w =>
 run1 Tryz.prog Z (Instr.fieldAt 27 t11 0) w fun t12 w =>
 run1 Tryz.prog Z (Instr.loadAt 23 t12) w fun t13 w =>
 run1 Tryz.prog Z (eqOp .neq 23 false true t13 (.int .u32 0)) w fun t14 w =>
 guardW (t14) true (fun k => run1 Tryz.prog Z (Instr.fieldAt 37 t1 0) w k) (fun t15 w =>
 guardW (t14) true (fun k => run1 Tryz.prog Z (Instr.fieldAt 27 t15 0) w k) (fun t16 w =>
 guardW (t14) true (fun k => run1 Tryz.prog Z (Instr.loadAt 23 t16) w k) (fun t17 w =>
 guardW (t14) true (fun k => run1 Tryz.prog Z (convert 23 2 t17) w k) (fun t18 w =>
 guardW (t14) true (fun k => run1 Tryz.prog Z (binOp .leq 2 t18 (.int .i64 2147483647)) w k) (fun t19 w =>
 run1 Tryz.prog Z (pickV t14 t19 (.bool false)) w fun t20 w =>
 guardW (t20) true (fun k => run1 Tryz.prog Z (Instr.fieldAt 37 t1 0) w k) (fun t21 w =>
 guardW (t20) true (fun k => run1 Tryz.prog Z (Instr.fieldAt 27 t21 1) w k) (fun t22 w =>
 guardW (t20) true (fun k => run1 Tryz.prog Z (Instr.loadAt 23 t22) w k) (fun t23 w =>
 guardW (t20) true (fun k => run1 Tryz.prog Z (eqOp .neq 23 false true t23 (.int .u32 0)) w k) (fun t24 w =>
 run1 Tryz.prog Z (pickV t20 t24 (.bool false)) w fun t25 w =>
 run1 Tryz.prog Z (Op.unary .not t10) w fun t26 w =>
 guardW (t26) true (fun k => k (t25) w) (fun t27 w =>
 guardW (t26) true (fun k => run1 Tryz.prog Z (Op.unary .not t27) w k) (fun t28 w =>
 run1 Tryz.prog Z (pickV t26 t28 (.bool false)) w fun t29 w =>
 CondV t29 (
 Q (.int .i64 40) w) (
 run1 Tryz.prog Z (Instr.fieldAt 37 t1 1) w fun t30 w =>
 run1 Tryz.prog Z (Instr.fieldAt 29 t30 0) w fun t31 w =>
 run1 Tryz.prog Z (Instr.loadAt 22 t31) w fun t32 w =>
 run1 Tryz.prog Z (binOp .lss 22 t32 (.int .i8 0)) w fun t33 w =>
 guardW (t33) false (fun k => run1 Tryz.prog Z (Instr.fieldAt 37 t1 1) w k) (fun t34 w =>
 guardW (t33) false (fun k => run1 Tryz.prog Z (Instr.fieldAt 29 t34 0) w k) (fun t35 w =>
 guardW (t33) false (fun k => run1 Tryz.prog Z (Instr.loadAt 22 t35) w k) (fun t36 w =>
 guardW (t33) false (fun k => run1 Tryz.prog Z (binOp .gtr 22 t36 (.int .i8 6)) w k) (fun t37 w =>
 run1 Tryz.prog Z (pickV t33 (.bool true) t37) w fun t38 w =>
 guardW (t38) false (fun k => run1 Tryz.prog Z (Instr.fieldAt 37 t1 1) w k) (fun t39 w =>
 guardW (t38) false (fun k => run1 Tryz.prog Z (Instr.fieldAt 29 t39 2) w k) (fun t40 w =>
 guardW (t38) false (fun k => run1 Tryz.prog Z (Instr.loadAt 2 t40) w k) (fun t41 w =>
 guardW (t38) false (fun k => run1 Tryz.prog Z (binOp .lss 2 t41 (.int .i64 0)) w k) (fun t42 w =>
 run1 Tryz.prog Z (pickV t38 (.bool true) t42) w fun t43 w =>
 guardW (t43) false (fun k => run1 Tryz.prog Z (Instr.fieldAt 37 t1 2) w k) (fun t44 w =>
 guardW (t43) false (fun k => run1 Tryz.prog Z (Instr.fieldAt 35 t44 0) w k) (fun t45 w =>
 guardW (t43) false (fun k => run1 Tryz.prog Z (Instr.loadAt 22 t45) w k) (fun t46 w =>
 guardW (t43) false (fun k => run1 Tryz.prog Z (binOp .gtr 22 t46 (.int .i8 8)) w k) (fun t47 w =>
 run1 Tryz.prog Z (pickV t43 (.bool true) t47) w fun t48 w =>
 CondV t48 (
 Q (.int .i64 40) w) (
 run1 Tryz.prog Z (Instr.fieldAt 37 t1 2) w fun t49 w =>
 run1 Tryz.prog Z (Instr.loadAt 35 t49) w fun t50 w =>
 CallV Tryz.prog Z 51 #[t50] w fun t51 w =>
 Q t51 w)) w) w) w) w) w) w) w) w) w) w) w) w)) w) w) w) w) w) w) w) w) w) w) w) w) w) w) w
def f24.an : An := (.sq .leaf (.sq .leaf (.sq .leaf (.sq (.sq .leaf (.cn (.sq .leaf .leaf) .leaf)) (.sq (.sq .leaf (.cn (.sq .leaf .leaf) .leaf)) (.sq .leaf .leaf))))))
theorem f24.calls {Z : List PanicEntry → World → Prop} {x0 : Value} {w : World} {Q : Value → World → Prop} (h : f24.sh Z x0 w Q) : CallV Tryz.prog Z 24 #[x0] w Q :=
 cl Tryz.func24 f24.an [x0] (by kernel_rfl) (by kernel_rfl) h

def f25.sh (Z : List PanicEntry → World → Prop) (x0 x1 : Value) (w : World) (Q : Value → World → Prop) : Prop :=
 run1 Tryz.prog Z (Instr.box 27 x0) w fun t1 w =>
 run1 Tryz.prog Z (Instr.box 27 x1) w fun t2 w =>
 run1 Tryz.prog Z (Instr.fieldAt 27 t1 0) w fun t3 w =>
 run1 Tryz.prog Z (Instr.loadAt 23 t3) w fun t4 w =>
 run1 Tryz.prog Z (Instr.fieldAt 27 t2 0) w fun t5 w =>
 run1 Tryz.prog Z (Instr.loadAt 23 t5) w fun t6 w =>
 run1 Tryz.prog Z (binOp .lss 23 t4 t6) w fun t7 w =>
 guardW (t7) false (fun k => run1 Tryz.prog Z (Instr.fieldAt 27 t1 0) w k) (fun t8 w =>
 guardW (t7) false (fun k => run1 Tryz.prog Z (Instr.loadAt 23 t8) w k) (fun t9 w =>
 guardW (t7) false (fun k => run1 Tryz.prog Z (Instr.fieldAt 27 t2 0) w k) (fun t10 w =>
 guardW (t7) false (fun k => run1 Tryz.prog Z (Instr.loadAt 23 t10) w k) (fun t11 w =>
 guardW (t7) false (fun k => run1 Tryz.prog Z (eqOp .eql 23 false false t9 t11) w k) (fun t12 w =>
 guardW (t7) false (fun k => k (t12) w) (fun t13 w =>
 guardW (t13) true (fun k => run1 Tryz.prog Z (Instr.fieldAt 27 t1 1) w k) (fun t14 w =>
 guardW (t13) true (fun k => run1 Tryz.prog Z (Instr.loadAt 23 t14) w k) (fun t15 w =>
 guardW (t13) true (fun k => run1 Tryz.prog Z (Instr.fieldAt 27 t2 1) w k) (fun t16 w =>
 guardW (t13) true (fun k => run1 Tryz.prog Z (Instr.loadAt 23 t16) w k) (fun t17 w =>
 guardW (t13) true (fun k => run1 Tryz.prog Z (binOp .lss 23 t15 t17) w k) (fun t18 w =>
 guardW (t7) false (fun k => run1 Tryz.prog Z (pickV t13 t18 (.bool false)) w k) (fun t19 w =>
 run1 Tryz.prog Z (pickV t7 (.bool true) t19) w fun t20 w =>
 CondV t20 (
 Q (.int .i64 (-1)) w) (
 run1 Tryz.prog Z (Instr.loadAt 27 t1) w fun t21 w =>
 run1 Tryz.prog Z (Instr.loadAt 27 t2) w fun t22 w =>
 run1 Tryz.prog Z (eqOp .eql 27 false false t21 t22) w fun t23 w =>
 CondV t23 (
 Q (.int .i64 0) w) (
 Q (.int .i64 1) w))) w) w) w) w) w) w) w) w) w) w) w) w
def f25.an : An := (.sq .leaf (.sq (.bl (.sq .leaf (.cn (.sq .leaf .leaf) (.sq .leaf (.cn (.sq .leaf .leaf) .leaf))))) (.sq .leaf .leaf)))
theorem f25.calls {Z : List PanicEntry → World → Prop} {x0 x1 : Value} {w : World} {Q : Value → World → Prop} (h : f25.sh Z x0 x1 w Q) : CallV Tryz.prog Z 25 #[x0, x1] w Q :=
 cl Tryz.func25 f25.an [x0, x1] (by kernel_rfl) (by kernel_rfl) h

def f26.sh (Z : List PanicEntry → World → Prop) (x0 : Value) (w : World) (Q : Value → World → Prop) : Prop :=
 run1 Tryz.prog Z (Instr.box 39 x0) w fun t1 w =>
 run1 Tryz.prog Z (Instr.fieldAt 39 t1 0) w fun t2 w =>
 run1 Tryz.prog Z (Instr.loadAt 22 t2) w fun t3 w =>
 CallV Tryz.prog Z 27 #[t3] w fun t4 w =>
 run1 Tryz.prog Z (Instr.extract t4 0) w fun t5 w =>
 run1 Tryz.prog Z (Instr.extract t4 1) w fun t6 w =>
 run1 Tryz.prog Z (Op.unary .not t6) w fun t7 w =>
 guardW (t7) false (fun k => run1 Tryz.prog Z (Instr.loadAt 39 t1) w k) (fun t8 w =>
 guardW (t7) false (fun k => k (t5) w) (fun t9 w =>
 guardW (t7) false (fun k => CallV Tryz.prog Z 52 #[t8, t9] w k) (fun t10 w =>
 guardW (t7) false (fun k => run1 Tryz.prog Z (Op.unary .not t10) w k) (fun t11 w =>
 run1 Tryz.prog Z (pickV t7 (.bool true) t11) w fun t12 w =>
 CondV t12 (
 Q (.int .i64 150) w) (
 CallV Tryz.prog Z 29 #[] w fun t13 w =>
 run1 Tryz.prog Z (Builtin.len_ #[77] 3 #[t13]) w fun t14 w =>
 ∃ J_15 : Nat → Value → World → Prop, (∃ m, J_15 m (.int .i64 0) w) ∧
 ∀ m_15, ∀ t16 : Value, ∀ w : World, J_15 m_15 t16 w → Env →
 run1 Tryz.prog Z (binOp .lss 3 t16 t14) w fun t17 w =>
 CondV t17 (
 run1 Tryz.prog Z (Instr.indexAt 77 t13 t16) w fun t18 w =>
 run1 Tryz.prog Z (Instr.loadAt 83 t18) w fun t19 w =>
 run1 Tryz.prog Z (Instr.alloc 83 true (.tuple #[])) w fun t20 w =>
 run0 Tryz.prog Z (Instr.storeAt 83 t20 t19) w fun w =>
 run1 Tryz.prog Z (Instr.fieldAt 83 t20 0) w fun t21 w =>
 run1 Tryz.prog Z (Instr.loadAt 3 t21) w fun t22 w =>
 run1 Tryz.prog Z (binOp .and 3 t5 t22) w fun t23 w =>
 run1 Tryz.prog Z (eqOp .neq 3 false true t23 (.int .i64 0)) w fun t24 w =>
 guardW (t24) true (fun k => run1 Tryz.prog Z (Instr.fieldAt 83 t20 3) w k) (fun t25 w =>
 guardW (t24) true (fun k => run1 Tryz.prog Z (Instr.loadAt 81 t25) w k) (fun t26 w =>
 guardW (t24) true (fun k => runX Tryz.prog Z (callVal t26 #[t1]) w k) (fun t27 w =>
 guardW (t24) true (fun k => run1 Tryz.prog Z (Op.unary .not t27) w k) (fun t28 w =>
 run1 Tryz.prog Z (pickV t24 t28 (.bool false)) w fun t29 w =>
 CondV t29 (
 Q (.int .i64 150) w) (
 run1 Tryz.prog Z (binOp .add 3 t16 (.int .i64 1)) w fun t30 w =>
 ∃ n_15, n_15 < m_15 ∧ J_15 n_15 t30 w)) w) w) w) w) (
 Q (.int .i64 0) w))) w) w) w) w
def f26.an : An := (.sq .leaf (.sq .leaf (.sq (.sq .leaf (.cn (.sq .leaf .leaf) .leaf)) (.sq (.sq .leaf (.bl (.lp [23] (.sq .leaf (.sq (.cn .leaf .leaf) (.sq (.bl (.sq .leaf (.sq .leaf (.cn (.sq .leaf .leaf) .leaf)))) .leaf)))))) (.sq .leaf .leaf)))))
theorem f26.calls {Z : List PanicEntry → World → Prop} {x0 : Value} {w : World} {Q : Value → World → Prop} (h : f26.sh Z x0 w Q) : CallV Tryz.prog Z 26 #[x0] w Q :=
 cl Tryz.func26 f26.an [x0] (by kernel_rfl) (by kernel_rfl) h

def f27.sh (Z : List PanicEntry → World → Prop) (x0 : Value) (w : World) (Q : Value → World → Prop) : Prop :=
 run1 Tryz.prog Z (binOp .lss 22 x0 (.int .i8 1)) w fun t1 w =>
 guardW (t1) false (fun k => k (x0) w) (fun t2 w =>
 guardW (t1) false (fun k => run1 Tryz.prog Z (binOp .gtr 22 t2 (.int .i8 14)) w k) (fun t3 w =>
 run1 Tryz.prog Z (pickV t1 (.bool true) t3) w fun t4 w =>
 CondV t4 (
 Q (Value.tuple #[(.int .i64 0), (.bool false)]) w) (
 run1 Tryz.prog Z (Instr.indexAt 111 (.pointer (some ⟨0, 0, none⟩)) x0) w fun t5 w =>
 run1 Tryz.prog Z (Instr.loadAt 3 t5) w fun t6 w =>
 Q (Value.tuple #[t6, (.bool true)]) w)) w) w
def f27.an : An := (.sq .leaf (.sq (.sq .leaf (.cn (.sq .leaf .leaf) .leaf)) (.sq .leaf .leaf)))
theorem f27.calls {Z : List PanicEntry → World → Prop} {x0 : Value} {w : World} {Q : Value → World → Prop} (h : f27.sh Z x0 w Q) : CallV Tryz.prog Z 27 #[x0] w Q :=
 cl Tryz.func27 f27.an [x0] (by kernel_rfl) (by kernel_rfl) h

def f28.sh (Z : List PanicEntry → World → Prop) (x0 x1 : Value) (w : World) (Q : Value → World → Prop) : Prop :=
 run1 Tryz.prog Z (convert 22 113 x1) w fun t1 w =>
 CallV Tryz.prog Z 53 #[x0, t1, (.int .i64 1)] w fun t2 w =>
 Q (Value.tuple #[]) w
def f28.an : An := .leaf
theorem f28.calls {Z : List PanicEntry → World → Prop} {x0 x1 : Value} {w : World} {Q : Value → World → Prop} (h : f28.sh Z x0 x1 w Q) : CallV Tryz.prog Z 28 #[x0, x1] w Q :=
 cl Tryz.func28 f28.an [x0, x1] (by kernel_rfl) (by kernel_rfl) h

def f29.sh (Z : List PanicEntry → World → Prop) (w : World) (Q : Value → World → Prop) : Prop :=
 CallV Tryz.prog Z 55 #[] w fun t1 w =>
 run1 Tryz.prog Z (Instr.build 83 #[(0, (.int .i64 8)), (1, (.func (.func 56) #[] #[])), (2, (.func (.func 57) #[] #[])), (3, (.func (.func 58) #[] #[]))]) w fun t2 w =>
 run1 Tryz.prog Z (Instr.build 83 #[(0, (.int .i64 16)), (1, (.func (.func 59) #[] #[])), (2, (.func (.func 60) #[] #[])), (3, (.func (.func 61) #[] #[]))]) w fun t3 w =>
 run1 Tryz.prog Z (Instr.build 83 #[(0, (.int .i64 32)), (1, (.func (.func 62) #[] #[])), (2, (.func (.func 64) #[] #[])), (3, (.func (.func 66) #[] #[]))]) w fun t4 w =>
 run1 Tryz.prog Z (Instr.build 83 #[(0, (.int .i64 64)), (1, (.func (.func 67) #[] #[])), (2, (.func (.func 68) #[] #[])), (3, (.func (.func 69) #[] #[]))]) w fun t5 w =>
 run1 Tryz.prog Z (Instr.build 83 #[(0, (.int .i64 128)), (1, (.func (.func 71) #[] #[])), (2, (.func (.func 73) #[] #[])), (3, (.func (.func 54) #[] #[]))]) w fun t6 w =>
 run1 Tryz.prog Z (Instr.build 83 #[(0, (.int .i64 256)), (1, (.func (.func 75) #[] #[])), (2, (.func (.func 76) #[] #[])), (3, (.func (.func 54) #[] #[]))]) w fun t7 w =>
 run1 Tryz.prog Z (Instr.build 83 #[(0, (.int .i64 512)), (1, (.func (.func 77) #[] #[])), (2, (.func (.func 78) #[] #[])), (3, (.func (.func 79) #[] #[]))]) w fun t8 w =>
 run1 Tryz.prog Z (Instr.build 83 #[(0, (.int .i64 1024)), (1, (.func (.func 80) #[] #[])), (2, (.func (.func 82) #[] #[])), (3, (.func (.func 84) #[] #[]))]) w fun t9 w =>
 run1 Tryz.prog Z (Instr.build 83 #[(0, (.int .i64 2048)), (1, (.func (.func 85) #[] #[])), (2, (.func (.func 87) #[] #[])), (3, (.func (.func 89) #[] #[]))]) w fun t10 w =>
 run1 Tryz.prog Z (Instr.buildSlice 77 9 #[(0, t2), (1, t3), (2, t4), (3, t5), (4, t6), (5, t7), (6, t8), (7, t9), (8, t10)]) w fun t11 w =>
 run1 Tryz.prog Z (Builtin.append_ #[77, 77] 77 #[t1, t11]) w fun t12 w =>
 Q t12 w
def f29.an : An := (.sq .leaf (.sq .leaf (.sq .leaf .leaf)))
theorem f29.calls {Z : List PanicEntry → World → Prop} {w : World} {Q : Value → World → Prop} (h : f29.sh Z  w Q) : CallV Tryz.prog Z 29 #[] w Q :=
 cl Tryz.func29 f29.an [] (by kernel_rfl) (by kernel_rfl) h

def f30.sh (Z : List PanicEntry → World → Prop) (x0 : Value) (w : World) (Q : Value → World → Prop) : Prop :=
 run1 Tryz.prog Z (eqOp .eql 73 false true x0 (.pointer none)) w fun t1 w =>
 CondV t1 (
 Q (.slice none 0 0) w) (
 runX Tryz.prog Z (nilChk x0) w fun t2 w =>
 run1 Tryz.prog Z (Instr.fieldAt 75 t2 0) w fun t3 w =>
 run1 Tryz.prog Z (Instr.loadAt 30 t3) w fun t4 w =>
 run1 Tryz.prog Z (Builtin.append_ #[30, 30] 30 #[(.slice none 0 0), t4]) w fun t5 w =>
 Q t5 w)
def f30.an : An := (.sq .leaf (.sq (.sq .leaf (.cn (.sq .leaf .leaf) .leaf)) (.sq .leaf .leaf)))
theorem f30.calls {Z : List PanicEntry → World → Prop} {x0 : Value} {w : World} {Q : Value → World → Prop} (h : f30.sh Z x0 w Q) : CallV Tryz.prog Z 30 #[x0] w Q :=
 cl Tryz.func30 f30.an [x0] (by kernel_rfl) (by kernel_rfl) h

def f31.sh (Z : List PanicEntry → World → Prop) (x0 x1 : Value) (w : World) (Q : Value → World → Prop) : Prop :=
 run1 Tryz.prog Z (convert 23 113 x1) w fun t1 w =>
 CallV Tryz.prog Z 53 #[x0, t1, (.int .i64 4)] w fun t2 w =>
 Q (Value.tuple #[]) w
def f31.an : An := .leaf
theorem f31.calls {Z : List PanicEntry → World → Prop} {x0 x1 : Value} {w : World} {Q : Value → World → Prop} (h : f31.sh Z x0 x1 w Q) : CallV Tryz.prog Z 31 #[x0, x1] w Q :=
 cl Tryz.func31 f31.an [x0, x1] (by kernel_rfl) (by kernel_rfl) h

def f32.sh (Z : List PanicEntry → World → Prop) (x0 : Value) (w : World) (Q : Value → World → Prop) : Prop :=
 run1 Tryz.prog Z (Builtin.len_ #[30] 3 #[x0]) w fun t1 w =>
 ∃ J_2 : Nat → Value → Value → Value → World → Prop, (∃ m, J_2 m (.int .u32 1) (.int .u32 0) (.int .i64 0) w) ∧
 ∀ m_2, ∀ t3 : Value, ∀ t4 : Value, ∀ t5 : Value, ∀ w : World, J_2 m_2 t3 t4 t5 w → Env →
 run1 Tryz.prog Z (binOp .lss 3 t5 t1) w fun t6 w =>
 CondV t6 (
 run1 Tryz.prog Z (Instr.indexAt 30 x0 t5) w fun t7 w =>
 run1 Tryz.prog Z (Instr.loadAt 5 t7) w fun t8 w =>
 run1 Tryz.prog Z (convert 5 23 t8) w fun t9 w =>
 run1 Tryz.prog Z (binOp .add 23 t3 t9) w fun t10 w =>
 run1 Tryz.prog Z (binOp .rem 23 t10 (.int .u32 65521)) w fun t11 w =>
 run1 Tryz.prog Z (binOp .add 23 t4 t11) w fun t12 w =>
 run1 Tryz.prog Z (binOp .rem 23 t12 (.int .u32 65521)) w fun t13 w =>
 run1 Tryz.prog Z (binOp .add 3 t5 (.int .i64 1)) w fun t14 w =>
 ∃ n_2, n_2 < m_2 ∧ J_2 n_2 t11 t13 t14 w) (
 run1 Tryz.prog Z (binOp .shl 23 t4 (.int .u64 16)) w fun t15 w =>
 run1 Tryz.prog Z (binOp .or 23 t15 t3) w fun t16 w =>
 Q t16 w)
def f32.an : An := (.sq .leaf (.sq .leaf (.sq (.sq .leaf (.bl (.lp [3, 4, 9] (.sq .leaf (.sq (.cn .leaf .leaf) (.sq (.bl (.sq .leaf (.sq .leaf .leaf))) .leaf)))))) (.sq .leaf .leaf))))
theorem f32.calls {Z : List PanicEntry → World → Prop} {x0 : Value} {w : World} {Q : Value → World → Prop} (h : f32.sh Z x0 w Q) : CallV Tryz.prog Z 32 #[x0] w Q :=
 cl Tryz.func32 f32.an [x0] (by kernel_rfl) (by kernel_rfl) h

def f33.sh (Z : List PanicEntry → World → Prop) (x0 x1 : Value) (w : World) (Q : Value → World → Prop) : Prop :=
 run1 Tryz.prog Z (eqOp .neq 73 false true x0 (.pointer none)) w fun t1 w =>
 CondV t1 (
 runX Tryz.prog Z (nilChk x0) w fun t2 w =>
 run1 Tryz.prog Z (Instr.fieldAt 75 t2 0) w fun t3 w =>
 run1 Tryz.prog Z (Instr.loadAt 30 t3) w fun t4 w =>
 run1 Tryz.prog Z (Builtin.append_ #[30, 30] 30 #[t4, x1]) w fun t5 w =>
 runX Tryz.prog Z (nilChk x0) w fun t6 w =>
 run1 Tryz.prog Z (Instr.fieldAt 75 t6 0) w fun t7 w =>
 run0 Tryz.prog Z (Instr.storeAt 30 t7 t5) w fun w =>
 Q (Value.tuple #[]) w) (
 Q (Value.tuple #[]) w)
def f33.an : An := (.sq .leaf (.cn .leaf .leaf))
theorem f33.calls {Z : List PanicEntry → World → Prop} {x0 x1 : Value} {w : World} {Q : Value → World → Prop} (h : f33.sh Z x0 x1 w Q) : CallV Tryz.prog Z 33 #[x0, x1] w Q :=
 cl Tryz.func33 f33.an [x0, x1] (by kernel_rfl) (by kernel_rfl) h

def f34.sh (Z : List PanicEntry → World → Prop) (x0 : Value) (w : World) (Q : Value → World → Prop) : Prop :=
 run1 Tryz.prog Z (Instr.box 37 x0) w fun t1 w =>
 run1 Tryz.prog Z (Instr.alloc 37 true (.tuple #[])) w fun t2 w =>
 run1 Tryz.prog Z (Instr.fieldAt 37 t1 2) w fun t3 w =>
 run1 Tryz.prog Z (Instr.loadAt 35 t3) w fun t4 w =>
 CallV Tryz.prog Z 90 #[t4] w fun t5 w =>
 run1 Tryz.prog Z (Instr.fieldAt 37 t1 2) w fun t6 w =>
 run0 Tryz.prog Z (Instr.storeAt 35 t6 t5) w fun w =>
 run1 Tryz.prog Z (Instr.loadAt 37 t1) w fun t7 w =>
 run0 Tryz.prog Z (Instr.storeAt 37 t2 t7) w fun w =>
 ∃ r_8, (do loadVar 37 (← asAddr t2) : Sem Value).run Tryz.prog w = .ok r_8 w ∧
 Q r_8 w
def f34.an : An := (.sq .leaf (.sq .leaf (.sq .leaf .leaf)))
theorem f34.calls {Z : List PanicEntry → World → Prop} {x0 : Value} {w : World} {Q : Value → World → Prop} (h : f34.sh Z x0 w Q) : CallV Tryz.prog Z 34 #[x0] w Q :=
 cl Tryz.func34 f34.an [x0] (by kernel_rfl) (by kernel_rfl) h

def f35.sh (Z : List PanicEntry → World → Prop) (x0 : Value) (w : World) (Q : Value → World → Prop) : Prop :=
 ∃ J_1 : Nat → Value → Value → World → Prop, (∃ m, J_1 m (.slice none 0 0) (.int .i64 0) w) ∧
 ∀ m_1, ∀ t2 : Value, ∀ t3 : Value, ∀ w : World, J_1 m_1 t2 t3 w → Env →
 run1 Tryz.prog Z (Builtin.len_ #[30] 3 #[x0]) w fun t4 w =>
 run1 Tryz.prog Z (binOp .lss 3 t3 t4) w fun t5 w =>
 CondV t5 (
 run1 Tryz.prog Z (Instr.indexAt 30 x0 t3) w fun t6 w =>
 run1 Tryz.prog Z (Instr.loadAt 5 t6) w fun t7 w =>
 run1 Tryz.prog Z (Instr.buildSlice 30 1 #[(0, t7)]) w fun t8 w =>
 run1 Tryz.prog Z (Builtin.append_ #[30, 30] 30 #[t2, t8]) w fun t9 w =>
 run1 Tryz.prog Z (binOp .add 3 t3 (.int .i64 1)) w fun t10 w =>
 ∃ n_1, n_1 < m_1 ∧ J_1 n_1 t9 t10 w) (
 Q t2 w)
def f35.an : An := (.sq .leaf (.sq .leaf (.sq (.sq .leaf (.bl (.lp [3, 4] (.sq (.sq .leaf (.cn .leaf .leaf)) (.sq (.bl .leaf) .leaf))))) (.sq .leaf .leaf))))
theorem f35.calls {Z : List PanicEntry → World → Prop} {x0 : Value} {w : World} {Q : Value → World → Prop} (h : f35.sh Z x0 w Q) : CallV Tryz.prog Z 35 #[x0] w Q :=
 cl Tryz.func35 f35.an [x0] (by kernel_rfl) (by kernel_rfl) h

def f36.sh (Z : List PanicEntry → World → Prop) (x0 : Value) (w : World) (Q : Value → World → Prop) : Prop :=
 run1 Tryz.prog Z (eqOp .eql 47 false true x0 (.pointer none)) w fun t1 w =>
 guardW (t1) false (fun k => k (x0) w) (fun t2 w =>
 guardW (t1) false (fun k => runX Tryz.prog Z (nilChk t2) w k) (fun t3 w =>
 guardW (t1) false (fun k => run1 Tryz.prog Z (Instr.fieldAt 93 t3 0) w k) (fun t4 w =>
 guardW (t1) false (fun k => run1 Tryz.prog Z (Instr.loadAt 3 t4) w k) (fun t5 w =>
 guardW (t1) false (fun k => run1 Tryz.prog Z (eqOp .eql 3 false true t5 (.int .i64 0)) w k) (fun t6 w =>
 run1 Tryz.prog Z (pickV t1 (.bool true) t6) w fun t7 w =>
 Q t7 w) w) w) w) w) w
def f36.an : An := (.sq .leaf (.sq .leaf .leaf))
theorem f36.calls {Z : List PanicEntry → World → Prop} {x0 : Value} {w : World} {Q : Value → World → Prop} (h : f36.sh Z x0 w Q) : CallV Tryz.prog Z 36 #[x0] w Q :=
 cl Tryz.func36 f36.an [x0] (by kernel_rfl) (by kernel_rfl) h

def f37.sh (Z : List PanicEntry → World → Prop) (x0 x1 : Value) (w : World) (Q : Value → World → Prop) : Prop :=
 run1 Tryz.prog Z (binOp .geq 22 x1 (.int .i8 0)) w fun t1 w =>
 guardW (t1) true (fun k => k (x1) w) (fun t2 w =>
 guardW (t1) true (fun k => run1 Tryz.prog Z (convert 22 3 t2) w k) (fun t3 w =>
 guardW (t1) true (fun k => k (x0) w) (fun t4 w =>
 guardW (t1) true (fun k => runX Tryz.prog Z (nilChk t4) w k) (fun t5 w =>
 guardW (t1) true (fun k => run1 Tryz.prog Z (Instr.fieldAt 93 t5 0) w k) (fun t6 w =>
 guardW (t1) true (fun k => run1 Tryz.prog Z (Instr.loadAt 3 t6) w k) (fun t7 w =>
 guardW (t1) true (fun k => run1 Tryz.prog Z (binOp .lss 3 t3 t7) w k) (fun t8 w =>
 run1 Tryz.prog Z (pickV t1 t8 (.bool false)) w fun t9 w =>
 Q t9 w) w) w) w) w) w) w) w
def f37.an : An := (.sq .leaf (.sq .leaf .leaf))
theorem f37.calls {Z : List PanicEntry → World → Prop} {x0 x1 : Value} {w : World} {Q : Value → World → Prop} (h : f37.sh Z x0 x1 w Q) : CallV Tryz.prog Z 37 #[x0, x1] w Q :=
 cl Tryz.func37 f37.an [x0, x1] (by kernel_rfl) (by kernel_rfl) h

def f38.sh (Z : List PanicEntry → World → Prop) (x0 : Value) (w : World) (Q : Value → World → Prop) : Prop :=
 run1 Tryz.prog Z (Instr.box 54 x0) w fun t1 w =>
 run1 Tryz.prog Z (Instr.alloc 54 true (.tuple #[])) w fun t2 w =>
 run1 Tryz.prog Z (Instr.fieldAt 54 t1 2) w fun t3 w =>
 run1 Tryz.prog Z (Instr.loadAt 30 t3) w fun t4 w =>
 run1 Tryz.prog Z (Builtin.len_ #[30] 3 #[t4]) w fun t5 w =>
 run1 Tryz.prog Z (Instr.makeSlice 30 t5 t5) w fun t6 w =>
 run1 Tryz.prog Z (Instr.fieldAt 54 t1 2) w fun t7 w =>
 run1 Tryz.prog Z (Instr.loadAt 30 t7) w fun t8 w =>
 run1 Tryz.prog Z (Builtin.copy_ #[30, 30] 3 #[t6, t8]) w fun t9 w =>
 run1 Tryz.prog Z (Builtin.len_ #[30] 3 #[t6]) w fun t10 w =>
 run1 Tryz.prog Z (Builtin.len_ #[30] 3 #[t6]) w fun t11 w =>
 run1 Tryz.prog Z (Instr.sliceAt 30 t6 none (some t10) (some t11)) w fun t12 w =>
 run1 Tryz.prog Z (Instr.fieldAt 54 t1 2) w fun t13 w =>
 run0 Tryz.prog Z (Instr.storeAt 30 t13 t12) w fun w =>
 run1 Tryz.prog Z (Instr.loadAt 54 t1) w fun t14 w =>
 run0 Tryz.prog Z (Instr.storeAt 54 t2 t14) w fun w =>
 ∃ r_15, (do loadVar 54 (← asAddr t2) : Sem Value).run Tryz.prog w = .ok r_15 w ∧
 Q r_15 w
def f38.an : An := (.sq .leaf (.sq .leaf (.sq .leaf (.sq .leaf (.sq .leaf .leaf)))))
theorem f38.calls {Z : List PanicEntry → World → Prop} {x0 : Value} {w : World} {Q : Value → World → Prop} (h : f38.sh Z x0 w Q) : CallV Tryz.prog Z 38 #[x0] w Q :=
 cl Tryz.func38 f38.an [x0] (by kernel_rfl) (by kernel_rfl) h

def f39.sh (Z : List PanicEntry → World → Prop) (x0 x1 x2 : Value) (w : World) (Q : Value → World → Prop) : Prop :=
 CallV Tryz.prog Z 36 #[x0] w fun t1 w =>
 CondV t1 (
 Q (.int .i64 1) w) (
 run1 Tryz.prog Z (binOp .lss 3 x1 (.int .i64 0)) w fun t2 w =>
 guardW (t2) false (fun k => k (x1) w) (fun t3 w =>
 guardW (t2) false (fun k => k (x0) w) (fun t4 w =>
 guardW (t2) false (fun k => runX Tryz.prog Z (nilChk t4) w k) (fun t5 w =>
 guardW (t2) false (fun k => run1 Tryz.prog Z (Instr.fieldAt 93 t5 1) w k) (fun t6 w =>
 guardW (t2) false (fun k => run1 Tryz.prog Z (Instr.loadAt 91 t6) w k) (fun t7 w =>
 guardW (t2) false (fun k => run1 Tryz.prog Z (Builtin.len_ #[91] 3 #[t7]) w k) (fun t8 w =>
 guardW (t2) false (fun k => run1 Tryz.prog Z (binOp .geq 3 t3 t8) w k) (fun t9 w =>
 run1 Tryz.prog Z (pickV t2 (.bool true) t9) w fun t10 w =>
 CondV t10 (
 Q (.int .i64 220) w) (
 runX Tryz.prog Z (nilChk x0) w fun t11 w =>
 run1 Tryz.prog Z (Instr.fieldAt 93 t11 1) w fun t12 w =>
 run1 Tryz.prog Z (Instr.loadAt 91 t12) w fun t13 w =>
 run1 Tryz.prog Z (Instr.indexAt 91 t13 x1) w fun t14 w =>
 runX Tryz.prog Z (callVal x2 #[t14]) w fun t15 w =>
 Q t15 w)) w) w) w) w) w) w) w)
def f39.an : An := (.sq .leaf (.sq (.bl (.sq .leaf (.cn (.sq .leaf .leaf) (.sq .leaf (.cn (.sq .leaf .leaf) .leaf))))) (.sq .leaf .leaf)))
theorem f39.calls {Z : List PanicEntry → World → Prop} {x0 x1 x2 : Value} {w : World} {Q : Value → World → Prop} (h : f39.sh Z x0 x1 x2 w Q) : CallV Tryz.prog Z 39 #[x0, x1, x2] w Q :=
 cl Tryz.func39 f39.an [x0, x1, x2] (by kernel_rfl) (by kernel_rfl) h

def f40.sh (Z : List PanicEntry → World → Prop) (x0 x1 : Value) (w : World) (Q : Value → World → Prop) : Prop :=
 Drawn w fun w =>
 PureV Tryz.prog (nilChk x0) fun t1 =>
 Pure1 Tryz.prog (Instr.fieldAt 93 t1 1) fun t2 =>
 Read1 Tryz.prog (Instr.loadAt 91 t2) w fun t3 =>
 PureV Tryz.prog (nilChk x1) fun t4 =>
 Read1 Tryz.prog (Instr.loadAt 54 t4) w fun t5 =>
 CallV Tryz.prog Z 38 #[t5] w fun t6 w =>
 Still Tryz.prog (nx (Instr.loadAt 91 t2)) t3 w <|
 run1 Tryz.prog Z (Instr.buildSlice 91 1 #[(0, t6)]) w fun t7 w =>
 Still Tryz.prog (nx (Instr.loadAt 91 t2)) t3 w <|
 run1 Tryz.prog Z (Builtin.append_ #[91, 91] 91 #[t3, t7]) w fun t8 w =>
 PureV Tryz.prog (nilChk x0) fun t9 =>
 Pure1 Tryz.prog (Instr.fieldAt 93 t9 1) fun t10 =>
 run0 Tryz.prog Z (Instr.storeAt 91 t10 t8) w fun w =>
 Q (.int .i64 0) w
def f40.an : An := (.sq .leaf (.sq (.dr (pl [0, 4, 8, 12, 17, 20, 24, 29, 34, 38, 42, 44, 48, 54] .fin)) (.sq .leaf .leaf)))
theorem f40.calls {Z : List PanicEntry → World → Prop} {x0 x1 : Value} {w : World} {Q : Value → World → Prop} (h : f40.sh Z x0 x1 w Q) : CallV Tryz.prog Z 40 #[x0, x1] w Q :=
 cl Tryz.func40 f40.an [x0, x1] (by kernel_rfl) (by kernel_rfl) h

def f41.sh (Z : List PanicEntry → World → Prop) (x0 x1 x2 : Value) (w : World) (Q : Value → World → Prop) : Prop :=
 Drawn w fun w =>
 Read1 Tryz.prog (Instr.loadAt 3 x1) w fun t1 =>
 Pure1 Tryz.prog (binOp .lss 3 t1 (.int .i64 0)) fun t2 =>
 guardV (t2) false (fun k => Read1 Tryz.prog (Instr.loadAt 3 x1) w k) (fun t3 =>
 guardV (t2) false (fun k => k (x0)) (fun t4 =>
 guardV (t2) false (fun k => PureV Tryz.prog (nilChk t4) k) (fun t5 =>
 guardV (t2) false (fun k => Pure1 Tryz.prog (Instr.fieldAt 54 t5 2) k) (fun t6 =>
 guardV (t2) false (fun k => Read1 Tryz.prog (Instr.loadAt 30 t6) w k) (fun t7 =>
 guardV (t2) false (fun k => Pure1 Tryz.prog (Builtin.len_ #[30] 3 #[t7]) k) (fun t8 =>
 guardV (t2) false (fun k => Pure1 Tryz.prog (binOp .geq 3 t3 t8) k) (fun t9 =>
 Pure1 Tryz.prog (pickV t2 (.bool true) t9) fun t10 =>
 guardV (t10) false (fun k => Read1 Tryz.prog (Instr.loadAt 5 x2) w k) (fun t11 =>
 guardV (t10) false (fun k => Pure1 Tryz.prog (eqOp .eql 5 false true t11 (.int .u8 0)) k) (fun t12 =>
 Pure1 Tryz.prog (pickV t10 (.bool true) t12) fun t13 =>
 CondV t13 (
 Q (.int .i64 1) w) (
 runX Tryz.prog Z (nilChk x0) w fun t14 w =>
 run1 Tryz.prog Z (Instr.fieldAt 54 t14 3) w fun t15 w =>
 run1 Tryz.prog Z (Instr.loadAt 4 t15) w fun t16 w =>
 CondV t16 (
 Q (.int .i64 220) w) (
 Drawn w fun w =>
 PureV Tryz.prog (nilChk x0) fun t17 =>
 Pure1 Tryz.prog (Instr.fieldAt 54 t17 2) fun t18 =>
 Read1 Tryz.prog (Instr.loadAt 30 t18) w fun t19 =>
 Read1 Tryz.prog (Instr.loadAt 3 x1) w fun t20 =>
 Pure1 Tryz.prog (Instr.indexAt 30 t19 t20) fun t21 =>
 Read1 Tryz.prog (Instr.loadAt 5 t21) w fun t22 =>
 Read1 Tryz.prog (Instr.loadAt 5 x2) w fun t23 =>
 Pure1 Tryz.prog (binOp .xor 5 t22 t23) fun t24 =>
 Pure1 Tryz.prog (Instr.indexAt 30 t19 t20) fun t25 =>
 run0 Tryz.prog Z (Instr.storeAt 5 t25 t24) w fun w =>
 runX Tryz.prog Z (nilChk x0) w fun t26 w =>
 run1 Tryz.prog Z (Instr.fieldAt 54 t26 3) w fun t27 w =>
 run0 Tryz.prog Z (Instr.storeAt 4 t27 (.bool true)) w fun w =>
 Q (.int .i64 0) w)))))))))))
def f41.an : An := (.sq .leaf (.sq (.bl (.sq (.dr (pl [1, 4, 8, 13, 16, 20, 24, 29, 32, 36, 40, 44, 49, 52, 56, 60] .fin)) (.cn (.sq .leaf .leaf) (.sq .leaf (.cn (.sq .leaf .leaf) .leaf))))) (.sq (.dr (pl [0, 4, 8, 13, 17, 20, 25, 29, 32, 36, 42] .fin)) (.sq .leaf (.sq .leaf .leaf)))))
theorem f41.calls {Z : List PanicEntry → World → Prop} {x0 x1 x2 : Value} {w : World} {Q : Value → World → Prop} (h : f41.sh Z x0 x1 x2 w Q) : CallV Tryz.prog Z 41 #[x0, x1, x2] w Q :=
 cl Tryz.func41 f41.an [x0, x1, x2] (by kernel_rfl) (by kernel_rfl) h

def f42.sh (Z : List PanicEntry → World → Prop) (x0 x1 x2 x3 : Value) (w : World) (Q : Value → World → Prop) : Prop :=
 runX Tryz.prog Z (nilChk x0) w fun t1 w =>
 run1 Tryz.prog Z (Instr.loadAt 54 t1) w fun t2 w =>
 run0 Tryz.prog Z (Instr.storeAt 54 x1 t2) w fun w =>
 run1 Tryz.prog Z (Instr.loadAt 47 x2) w fun t3 w =>
 runX Tryz.prog Z (nilChk t3) w fun t4 w =>
 run1 Tryz.prog Z (Instr.fieldAt 93 t4 1) w fun t5 w =>
 run1 Tryz.prog Z (Instr.loadAt 91 t5) w fun t6 w =>
 run1 Tryz.prog Z (Builtin.len_ #[91] 3 #[t6]) w fun t7 w =>
 run1 Tryz.prog Z (binOp .sub 3 t7 (.int .i64 1)) w fun t8 w =>
 Drawn w fun w =>
 Read1 Tryz.prog (Instr.loadAt 47 x2) w fun t9 =>
 PureV Tryz.prog (nilChk t9) fun t10 =>
 Pure1 Tryz.prog (Instr.fieldAt 93 t10 1) fun t11 =>
 Read1 Tryz.prog (Instr.loadAt 91 t11) w fun t12 =>
 Read1 Tryz.prog (Instr.loadAt 3 x3) w fun t13 =>
 Pure1 Tryz.prog (Instr.sliceAt 91 t12 (some t13) none none) fun t14 =>
 Read1 Tryz.prog (Instr.loadAt 47 x2) w fun t15 =>
 PureV Tryz.prog (nilChk t15) fun t16 =>
 Pure1 Tryz.prog (Instr.fieldAt 93 t16 1) fun t17 =>
 Read1 Tryz.prog (Instr.loadAt 91 t17) w fun t18 =>
 Read1 Tryz.prog (Instr.loadAt 3 x3) w fun t19 =>
 Pure1 Tryz.prog (binOp .add 3 t19 (.int .i64 1)) fun t20 =>
 Pure1 Tryz.prog (Instr.sliceAt 91 t18 (some t20) none none) fun t21 =>
 run1 Tryz.prog Z (Builtin.copy_ #[91, 91] 3 #[t14, t21]) w fun t22 w =>
 Still Tryz.prog (nx (Instr.loadAt 3 x3)) t19 w <|
 Still Tryz.prog (nx (Instr.loadAt 91 t17)) t18 w <|
 Still Tryz.prog (nx (Instr.loadAt 47 x2)) t15 w <|
 Still Tryz.prog (nx (Instr.loadAt 3 x3)) t13 w <|
 Still Tryz.prog (nx (Instr.loadAt 91 t11)) t12 w <|
 Still Tryz.prog (nx (Instr.loadAt 47 x2)) t9 w <|
 run1 Tryz.prog Z (Instr.loadAt 47 x2) w fun t23 w =>
 runX Tryz.prog Z (nilChk t23) w fun t24 w =>
 run1 Tryz.prog Z (Instr.fieldAt 93 t24 1) w fun t25 w =>
 run1 Tryz.prog Z (Instr.loadAt 91 t25) w fun t26 w =>
 run1 Tryz.prog Z (Instr.build 54 #[]) w fun t27 w =>
 run1 Tryz.prog Z (Instr.indexAt 91 t26 t8) w fun t28 w =>
 run0 Tryz.prog Z (Instr.storeAt 54 t28 t27) w fun w =>
 Drawn w fun w =>
 Read1 Tryz.prog (Instr.loadAt 47 x2) w fun t29 =>
 Read1 Tryz.prog (Instr.loadAt 47 x2) w fun t30 =>
 PureV Tryz.prog (nilChk t30) fun t31 =>
 Pure1 Tryz.prog (Instr.fieldAt 93 t31 1) fun t32 =>
 Read1 Tryz.prog (Instr.loadAt 91 t32) w fun t33 =>
 Pure1 Tryz.prog (Instr.sliceAt 91 t33 none (some t8) none) fun t34 =>
 PureV Tryz.prog (nilChk t29) fun t35 =>
 Pure1 Tryz.prog (Instr.fieldAt 93 t35 1) fun t36 =>
 run0 Tryz.prog Z (Instr.storeAt 91 t36 t34) w fun w =>
 Q (.int .i64 0) w
def f42.an : An := (.sq .leaf (.sq .leaf (.sq .leaf (.sq (.dr (pl [1, 4, 8, 13, 17, 20, 25, 28, 32, 37, 41, 44, 48, 54] .fin)) (.sq .leaf (.sq (.dr (pl [1, 5, 8, 12, 17, 20, 24, 28, 32, 38] .fin)) (.sq .leaf .leaf)))))))
theorem f42.calls {Z : List PanicEntry → World → Prop} {x0 x1 x2 x3 : Value} {w : World} {Q : Value → World → Prop} (h : f42.sh Z x0 x1 x2 x3 w Q) : CallV Tryz.prog Z 42 #[x0, x1, x2, x3] w Q :=
 cl Tryz.func42 f42.an [x0, x1, x2, x3] (by kernel_rfl) (by kernel_rfl) h

def f44.sh (Z : List PanicEntry → World → Prop) (x0 : Value) (w : World) (Q : Value → World → Prop) : Prop :=
 run1 Tryz.prog Z (Builtin.append_ #[30, 30] 30 #[(.slice none 0 0), x0]) w fun t1 w =>
 run1 Tryz.prog Z (Instr.build 124 #[(0, (.bool true)), (1, t1)]) w fun t2 w =>
 run1 Tryz.prog Z (Instr.box 124 t2) w fun t3 w =>
 Q t3 w
def f44.an : An := (.sq .leaf (.sq .leaf .leaf))
theorem f44.calls {Z : List PanicEntry → World → Prop} {x0 : Value} {w : World} {Q : Value → World → Prop} (h : f44.sh Z x0 w Q) : CallV Tryz.prog Z 44 #[x0] w Q :=
 cl Tryz.func44 f44.an [x0] (by kernel_rfl) (by kernel_rfl) h

def f45.sh (Z : List PanicEntry → World → Prop) (x0 : Value) (w : World) (Q : Value → World → Prop) : Prop :=
 CallV Tryz.prog Z 91 #[x0, (.int .i64 4)] w fun t1 w =>
 run1 Tryz.prog Z (convert 113 23 t1) w fun t2 w =>
 Q t2 w
def f45.an : An := (.sq .leaf (.sq .leaf .leaf))
theorem f45.calls {Z : List PanicEntry → World → Prop} {x0 : Value} {w : World} {Q : Value → World → Prop} (h : f45.sh Z x0 w Q) : CallV Tryz.prog Z 45 #[x0] w Q :=
 cl Tryz.func45 f45.an [x0] (by kernel_rfl) (by kernel_rfl) h

def f46.sh (Z : List PanicEntry → World → Prop) (x0 : Value) (w : World) (Q : Value → World → Prop) : Prop :=
 CallV Tryz.prog Z 92 #[x0] w fun t1 w =>
 CondV t1 (
 Q (.int .i64 1) w) (
 runX Tryz.prog Z (nilChk x0) w fun t2 w =>
 run1 Tryz.prog Z (Instr.fieldAt 124 t2 2) w fun t3 w =>
 run1 Tryz.prog Z (Instr.loadAt 42 t3) w fun t4 w =>
 Q t4 w)
def f46.an : An := (.sq .leaf (.sq (.sq .leaf (.cn (.sq .leaf .leaf) .leaf)) (.sq .leaf .leaf)))
theorem f46.calls {Z : List PanicEntry → World → Prop} {x0 : Value} {w : World} {Q : Value → World → Prop} (h : f46.sh Z x0 w Q) : CallV Tryz.prog Z 46 #[x0] w Q :=
 cl Tryz.func46 f46.an [x0] (by kernel_rfl) (by kernel_rfl) h

def f47.sh (Z : List PanicEntry → World → Prop) (x0 : Value) (w : World) (Q : Value → World → Prop) : Prop :=
 CallV Tryz.prog Z 91 #[x0, (.int .i64 1)] w fun t1 w =>
 run1 Tryz.prog Z (convert 113 22 t1) w fun t2 w =>
 Q t2 w
def f47.an : An := (.sq .leaf (.sq .leaf .leaf))
theorem f47.calls {Z : List PanicEntry → World → Prop} {x0 : Value} {w : World} {Q : Value → World → Prop} (h : f47.sh Z x0 w Q) : CallV Tryz.prog Z 47 #[x0] w Q :=
 cl Tryz.func47 f47.an [x0] (by kernel_rfl) (by kernel_rfl) h

def f48.sh (Z : List PanicEntry → World → Prop) (x0 : Value) (w : World) (Q : Value → World → Prop) : Prop :=
 CallV Tryz.prog Z 93 #[x0] w fun t1 w =>
 guardW (t1) true (fun k => k (x0) w) (fun t2 w =>
 guardW (t1) true (fun k => runX Tryz.prog Z (nilChk t2) w k) (fun t3 w =>
 guardW (t1) true (fun k => run1 Tryz.prog Z (Instr.fieldAt 124 t3 1) w k) (fun t4 w =>
 guardW (t1) true (fun k => run1 Tryz.prog Z (Instr.loadAt 30 t4) w k) (fun t5 w =>
 guardW (t1) true (fun k => run1 Tryz.prog Z (Builtin.len_ #[30] 3 #[t5]) w k) (fun t6 w =>
 guardW (t1) true (fun k => run1 Tryz.prog Z (binOp .gtr 3 t6 (.int .i64 0)) w k) (fun t7 w =>
 run1 Tryz.prog Z (pickV t1 t7 (.bool false)) w fun t8 w =>
 CondV t8 (
 Q (.int .i64 13) w) (
 CallV Tryz.prog Z 46 #[x0] w fun t9 w =>
 Q t9 w)) w) w) w) w) w) w
def f48.an : An := (.sq .leaf (.sq (.sq .leaf (.cn (.sq .leaf .leaf) .leaf)) (.sq .leaf .leaf)))
theorem f48.calls {Z : List PanicEntry → World → Prop} {x0 : Value} {w : World} {Q : Value → World → Prop} (h : f48.sh Z x0 w Q) : CallV Tryz.prog Z 48 #[x0] w Q :=
 cl Tryz.func48 f48.an [x0] (by kernel_rfl) (by kernel_rfl) h

def f49.sh (Z : List PanicEntry → World → Prop) (x0 x1 : Value) (w : World) (Q : Value → World → Prop) : Prop :=
 run1 Tryz.prog Z (Instr.box 35 x0) w fun t1 w =>
 run1 Tryz.prog Z (binOp .add 3 x1 (.int .i64 1)) w fun t2 w =>
 run1 Tryz.prog Z (Instr.fieldAt 35 t1 2) w fun t3 w =>
 run1 Tryz.prog Z (Instr.loadAt 30 t3) w fun t4 w =>
 run1 Tryz.prog Z (Builtin.len_ #[30] 3 #[t4]) w fun t5 w =>
 run1 Tryz.prog Z (binOp .add 3 t2 t5) w fun t6 w =>
 run1 Tryz.prog Z (Instr.fieldAt 35 t1 3) w fun t7 w =>
 run1 Tryz.prog Z (Instr.loadAt 31 t7) w fun t8 w =>
 run1 Tryz.prog Z (Builtin.len_ #[31] 3 #[t8]) w fun t9 w =>
 run1 Tryz.prog Z (binOp .add 3 t6 t9) w fun t10 w =>
 run1 Tryz.prog Z (Instr.fieldAt 35 t1 9) w fun t11 w =>
 run1 Tryz.prog Z (Instr.loadAt 32 t11) w fun t12 w =>
 run1 Tryz.prog Z (Builtin.len_ #[32] 3 #[t12]) w fun t13 w =>
 run1 Tryz.prog Z (binOp .add 3 t10 t13) w fun t14 w =>
 ∃ J_15 : Nat → Value → Value → World → Prop, (∃ m, J_15 m t14 (.int .i64 0) w) ∧
 ∀ m_15, ∀ t16 : Value, ∀ t17 : Value, ∀ w : World, J_15 m_15 t16 t17 w → Env →
 run1 Tryz.prog Z (Instr.fieldAt 35 t1 10) w fun t18 w =>
 run1 Tryz.prog Z (Instr.loadAt 33 t18) w fun t19 w =>
 run1 Tryz.prog Z (Builtin.len_ #[33] 3 #[t19]) w fun t20 w =>
 run1 Tryz.prog Z (binOp .lss 3 t17 t20) w fun t21 w =>
 guardW (t21) true (fun k => k (t16) w) (fun t22 w =>
 guardW (t21) true (fun k => run1 Tryz.prog Z (binOp .leq 3 t22 (.int .i64 20000)) w k) (fun t23 w =>
 run1 Tryz.prog Z (pickV t21 t23 (.bool false)) w fun t24 w =>
 CondV t24 (
 run1 Tryz.prog Z (Instr.fieldAt 35 t1 10) w fun t25 w =>
 run1 Tryz.prog Z (Instr.loadAt 33 t25) w fun t26 w =>
 run1 Tryz.prog Z (Instr.indexAt 33 t26 t17) w fun t27 w =>
 run1 Tryz.prog Z (Instr.loadAt 35 t27) w fun t28 w =>
 CallV Tryz.prog Z 49 #[t28, t16] w fun t29 w =>
 run1 Tryz.prog Z (binOp .add 3 t17 (.int .i64 1)) w fun t30 w =>
 ∃ n_15, n_15 < m_15 ∧ J_15 n_15 t29 t30 w) (
 Q t16 w)) w) w
def f49.an : An := (.sq .leaf (.sq .leaf (.sq (.sq .leaf (.bl (.lp [1, 5] (.sq (.sq .leaf (.cn .leaf .leaf)) (.sq (.bl .leaf) .leaf))))) (.sq .leaf .leaf))))
theorem f49.calls {Z : List PanicEntry → World → Prop} {x0 x1 : Value} {w : World} {Q : Value → World → Prop} (h : f49.sh Z x0 x1 w Q) : CallV Tryz.prog Z 49 #[x0, x1] w Q :=
 cl Tryz.func49 f49.an [x0, x1] (by kernel_rfl) (by kernel_rfl) h

def f50.sh (Z : List PanicEntry → World → Prop) (x0 x1 : Value) (w : World) (Q : Value → World → Prop) : Prop :=
 run1 Tryz.prog Z (Instr.box 35 x0) w fun t1 w =>
 run1 Tryz.prog Z (Instr.box 35 x1) w fun t2 w =>
 run1 Tryz.prog Z (Instr.fieldAt 35 t1 0) w fun t3 w =>
 run1 Tryz.prog Z (Instr.loadAt 22 t3) w fun t4 w =>
 run1 Tryz.prog Z (Instr.fieldAt 35 t2 0) w fun t5 w =>
 run1 Tryz.prog Z (Instr.loadAt 22 t5) w fun t6 w =>
 run1 Tryz.prog Z (eqOp .neq 22 false false t4 t6) w fun t7 w =>
 guardW (t7) false (fun k => run1 Tryz.prog Z (Instr.fieldAt 35 t1 1) w k) (fun t8 w =>
 guardW (t7) false (fun k => run1 Tryz.prog Z (Instr.loadAt 9 t8) w k) (fun t9 w =>
 guardW (t7) false (fun k => run1 Tryz.prog Z (Instr.fieldAt 35 t2 1) w k) (fun t10 w =>
 guardW (t7) false (fun k => run1 Tryz.prog Z (Instr.loadAt 9 t10) w k) (fun t11 w =>
 guardW (t7) false (fun k => run1 Tryz.prog Z (eqOp .neq 9 false false t9 t11) w k) (fun t12 w =>
 run1 Tryz.prog Z (pickV t7 (.bool true) t12) w fun t13 w =>
 guardW (t13) false (fun k => run1 Tryz.prog Z (Instr.fieldAt 35 t1 4) w k) (fun t14 w =>
 guardW (t13) false (fun k => run1 Tryz.prog Z (Instr.loadAt 21 t14) w k) (fun t15 w =>
 guardW (t13) false (fun k => run1 Tryz.prog Z (Instr.fieldAt 35 t2 4) w k) (fun t16 w =>
 guardW (t13) false (fun k => run1 Tryz.prog Z (Instr.loadAt 21 t16) w k) (fun t17 w =>
 guardW (t13) false (fun k => run1 Tryz.prog Z (eqOp .neq 21 false false t15 t17) w k) (fun t18 w =>
 run1 Tryz.prog Z (pickV t13 (.bool true) t18) w fun t19 w =>
 guardW (t19) false (fun k => run1 Tryz.prog Z (Instr.fieldAt 35 t1 5) w k) (fun t20 w =>
 guardW (t19) false (fun k => run1 Tryz.prog Z (Instr.loadAt 4 t20) w k) (fun t21 w =>
 guardW (t19) false (fun k => run1 Tryz.prog Z (Instr.fieldAt 35 t2 5) w k) (fun t22 w =>
 guardW (t19) false (fun k => run1 Tryz.prog Z (Instr.loadAt 4 t22) w k) (fun t23 w =>
 guardW (t19) false (fun k => run1 Tryz.prog Z (eqOp .neq 4 false false t21 t23) w k) (fun t24 w =>
 run1 Tryz.prog Z (pickV t19 (.bool true) t24) w fun t25 w =>
 guardW (t25) false (fun k => run1 Tryz.prog Z (Instr.fieldAt 35 t1 6) w k) (fun t26 w =>
 guardW (t25) false (fun k => run1 Tryz.prog Z (Instr.loadAt 4 t26) w k) (fun t27 w =>
 guardW (t25) false (fun k => run1 Tryz.prog Z (Instr.fieldAt 35 t2 6) w k) (fun t28 w =>
 guardW (t25) false (fun k => run1 Tryz.prog Z (Instr.loadAt 4 t28) w k) (fun t29 w =>
 guardW (t25) false (fun k => run1 Tryz.prog Z (eqOp .neq 4 false false t27 t29) w k) (fun t30 w =>
 run1 Tryz.prog Z (pickV t25 (.bool true) t30) w fun t31 w =>
 guardW (t31) false (fun k => run1 Tryz.prog Z (Instr.fieldAt 35 t1 7) w k) (fun t32 w =>
 guardW (t31) false (fun k => run1 Tryz.prog Z (Instr.loadAt 2 t32) w k) (fun t33 w =>
 guardW (t31) false (fun k => run1 Tryz.prog Z (Instr.fieldAt 35 t2 7) w k) (fun t34 w =>
 guardW (t31) false (fun k => run1 Tryz.prog Z (Instr.loadAt 2 t34) w k) (fun t35 w =>
 guardW (t31) false (fun k => run1 Tryz.prog Z (eqOp .neq 2 false false t33 t35) w k) (fun t36 w =>
 run1 Tryz.prog Z (pickV t31 (.bool true) t36) w fun t37 w =>
 guardW (t37) false (fun k => run1 Tryz.prog Z (Instr.fieldAt 35 t1 8) w k) (fun t38 w =>
 guardW (t37) false (fun k => run1 Tryz.prog Z (Instr.loadAt 21 t38) w k) (fun t39 w =>
 guardW (t37) false (fun k => run1 Tryz.prog Z (Instr.fieldAt 35 t2 8) w k) (fun t40 w =>
 guardW (t37) false (fun k => run1 Tryz.prog Z (Instr.loadAt 21 t40) w k) (fun t41 w =>
 guardW (t37) false (fun k => run1 Tryz.prog Z (eqOp .neq 21 false false t39 t41) w k) (fun t42 w =>
 run1 Tryz.prog Z (pickV t37 (.bool true) t42) w fun t43 w =>
 CondV t43 (
 Q (.bool false) w) (
 run1 Tryz.prog Z (Instr.fieldAt 35 t1 2) w fun t44 w =>
 run1 Tryz.prog Z (Instr.loadAt 30 t44) w fun t45 w =>
 run1 Tryz.prog Z (Instr.fieldAt 35 t2 2) w fun t46 w =>
 run1 Tryz.prog Z (Instr.loadAt 30 t46) w fun t47 w =>
 CallV Tryz.prog Z 16 #[t45, t47] w fun t48 w =>
 run1 Tryz.prog Z (Op.unary .not t48) w fun t49 w =>
 guardW (t49) false (fun k => run1 Tryz.prog Z (Instr.fieldAt 35 t1 3) w k) (fun t50 w =>
 guardW (t49) false (fun k => run1 Tryz.prog Z (Instr.loadAt 31 t50) w k) (fun t51 w =>
 guardW (t49) false (fun k => run1 Tryz.prog Z (Instr.fieldAt 35 t2 3) w k) (fun t52 w =>
 guardW (t49) false (fun k => run1 Tryz.prog Z (Instr.loadAt 31 t52) w k) (fun t53 w =>
 guardW (t49) false (fun k => CallV Tryz.prog Z 94 #[t51, t53] w k) (fun t54 w =>
 guardW (t49) false (fun k => run1 Tryz.prog Z (Op.unary .not t54) w k) (fun t55 w =>
 run1 Tryz.prog Z (pickV t49 (.bool true) t55) w fun t56 w =>
 guardW (t56) false (fun k => run1 Tryz.prog Z (Instr.fieldAt 35 t1 9) w k) (fun t57 w =>
 guardW (t56) false (fun k => run1 Tryz.prog Z (Instr.loadAt 32 t57) w k) (fun t58 w =>
 guardW (t56) false (fun k => run1 Tryz.prog Z (Instr.fieldAt 35 t2 9) w k) (fun t59 w =>
 guardW (t56) false (fun k => run1 Tryz.prog Z (Instr.loadAt 32 t59) w k) (fun t60 w =>
 guardW (t56) false (fun k => CallV Tryz.prog Z 95 #[t58, t60] w k) (fun t61 w =>
 guardW (t56) false (fun k => run1 Tryz.prog Z (Op.unary .not t61) w k) (fun t62 w =>
 run1 Tryz.prog Z (pickV t56 (.bool true) t62) w fun t63 w =>
 guardW (t63) false (fun k => run1 Tryz.prog Z (Instr.fieldAt 35 t1 10) w k) (fun t64 w =>
 guardW (t63) false (fun k => run1 Tryz.prog Z (Instr.loadAt 33 t64) w k) (fun t65 w =>
 guardW (t63) false (fun k => run1 Tryz.prog Z (Builtin.len_ #[33] 3 #[t65]) w k) (fun t66 w =>
 guardW (t63) false (fun k => run1 Tryz.prog Z (Instr.fieldAt 35 t2 10) w k) (fun t67 w =>
 guardW (t63) false (fun k => run1 Tryz.prog Z (Instr.loadAt 33 t67) w k) (fun t68 w =>
 guardW (t63) false (fun k => run1 Tryz.prog Z (Builtin.len_ #[33] 3 #[t68]) w k) (fun t69 w =>
 guardW (t63) false (fun k => run1 Tryz.prog Z (eqOp .neq 3 false false t66 t69) w k) (fun t70 w =>
 run1 Tryz.prog Z (pickV t63 (.bool true) t70) w fun t71 w =>
 CondV t71 (
 Q (.bool false) w) (
 ∃ J_72 : Nat → Value → World → Prop, (∃ m, J_72 m (.int .i64 0) w) ∧
 ∀ m_72, ∀ t73 : Value, ∀ w : World, J_72 m_72 t73 w → Env →
 run1 Tryz.prog Z (Instr.fieldAt 35 t1 10) w fun t74 w =>
 run1 Tryz.prog Z (Instr.loadAt 33 t74) w fun t75 w =>
 run1 Tryz.prog Z (Builtin.len_ #[33] 3 #[t75]) w fun t76 w =>
 run1 Tryz.prog Z (binOp .lss 3 t73 t76) w fun t77 w =>
 CondV t77 (
 Drawn w fun w =>
 Pure1 Tryz.prog (Instr.fieldAt 35 t1 10) fun t78 =>
 Read1 Tryz.prog (Instr.loadAt 33 t78) w fun t79 =>
 Pure1 Tryz.prog (Instr.indexAt 33 t79 t73) fun t80 =>
 Read1 Tryz.prog (Instr.loadAt 35 t80) w fun t81 =>
 Pure1 Tryz.prog (Instr.fieldAt 35 t2 10) fun t82 =>
 Read1 Tryz.prog (Instr.loadAt 33 t82) w fun t83 =>
 Pure1 Tryz.prog (Instr.indexAt 33 t83 t73) fun t84 =>
 Read1 Tryz.prog (Instr.loadAt 35 t84) w fun t85 =>
 CallV Tryz.prog Z 50 #[t81, t85] w fun t86 w =>
 Still Tryz.prog (nx (Instr.loadAt 33 t82)) t83 w <|
 Still Tryz.prog (nx (Instr.loadAt 33 t78)) t79 w <|
 Pure1 Tryz.prog (Op.unary .not t86) fun t87 =>
 CondV t87 (
 Q (.bool false) w) (
 run1 Tryz.prog Z (binOp .add 3 t73 (.int .i64 1)) w fun t88 w =>
 ∃ n_72, n_72 < m_72 ∧ J_72 n_72 t88 w)) (
 Q (.bool true) w))) w) w) w) w) w) w) w) w) w) w) w) w) w) w) w) w) w) w) w)) w) w) w) w) w) w) w) w) w) w) w) w) w) w) w) w) w) w) w) w) w) w) w) w) w) w) w) w) w) w
def f50.an : An := (.sq .leaf (.sq (.sq .leaf (.cn (.sq .leaf .leaf) .leaf)) (.sq (.sq .leaf (.cn (.sq .leaf .leaf) .leaf)) (.sq (.sq .leaf (.bl (.lp [5] (.sq (.sq .leaf (.cn .leaf .leaf)) (.sq (.bl (.sq (.dr (pl [0, 5, 8, 12, 17, 20, 25, 28, 32, 37, 42, 44] .fin)) (.cn (.sq .leaf .leaf) .leaf))) .leaf))))) (.sq .leaf .leaf)))))
theorem f50.calls {Z : List PanicEntry → World → Prop} {x0 x1 : Value} {w : World} {Q : Value → World → Prop} (h : f50.sh Z x0 x1 w Q) : CallV Tryz.prog Z 50 #[x0, x1] w Q :=
 cl Tryz.func50 f50.an [x0, x1] (by kernel_rfl) (by kernel_rfl) h

def f51.sh (Z : List PanicEntry → World → Prop) (x0 : Value) (w : World) (Q : Value → World → Prop) : Prop :=
 run1 Tryz.prog Z (Instr.box 35 x0) w fun t1 w =>
 run1 Tryz.prog Z (Instr.loadAt 35 t1) w fun t2 w =>
 CallV Tryz.prog Z 96 #[t2] w fun t3 w =>
 run1 Tryz.prog Z (Op.unary .not t3) w fun t4 w =>
 CondV t4 (
 Q (.int .i64 40) w) (
 ∃ J_5 : Nat → Value → World → Prop, (∃ m, J_5 m (.int .i64 0) w) ∧
 ∀ m_5, ∀ t6 : Value, ∀ w : World, J_5 m_5 t6 w → Env →
 run1 Tryz.prog Z (Instr.fieldAt 35 t1 10) w fun t7 w =>
 run1 Tryz.prog Z (Instr.loadAt 33 t7) w fun t8 w =>
 run1 Tryz.prog Z (Builtin.len_ #[33] 3 #[t8]) w fun t9 w =>
 run1 Tryz.prog Z (binOp .lss 3 t6 t9) w fun t10 w =>
 CondV t10 (
 run1 Tryz.prog Z (Instr.fieldAt 35 t1 10) w fun t11 w =>
 run1 Tryz.prog Z (Instr.loadAt 33 t11) w fun t12 w =>
 run1 Tryz.prog Z (Instr.indexAt 33 t12 t6) w fun t13 w =>
 run1 Tryz.prog Z (Instr.loadAt 35 t13) w fun t14 w =>
 run1 Tryz.prog Z (Instr.alloc 35 true (.tuple #[])) w fun t15 w =>
 run0 Tryz.prog Z (Instr.storeAt 35 t15 t14) w fun w =>
 run1 Tryz.prog Z (Instr.fieldAt 35 t15 0) w fun t16 w =>
 run1 Tryz.prog Z (Instr.loadAt 22 t16) w fun t17 w =>
 run1 Tryz.prog Z (binOp .lss 22 t17 (.int .i8 1)) w fun t18 w =>
 guardW (t18) false (fun k => run1 Tryz.prog Z (Instr.fieldAt 35 t15 0) w k) (fun t19 w =>
 guardW (t18) false (fun k => run1 Tryz.prog Z (Instr.loadAt 22 t19) w k) (fun t20 w =>
 guardW (t18) false (fun k => run1 Tryz.prog Z (binOp .gtr 22 t20 (.int .i8 5)) w k) (fun t21 w =>
 run1 Tryz.prog Z (pickV t18 (.bool true) t21) w fun t22 w =>
 guardW (t22) false (fun k => run1 Tryz.prog Z (Instr.fieldAt 35 t15 7) w k) (fun t23 w =>
 guardW (t22) false (fun k => run1 Tryz.prog Z (Instr.loadAt 2 t23) w k) (fun t24 w =>
 guardW (t22) false (fun k => run1 Tryz.prog Z (eqOp .neq 2 false true t24 (.int .i64 0)) w k) (fun t25 w =>
 run1 Tryz.prog Z (pickV t22 (.bool true) t25) w fun t26 w =>
 guardW (t26) false (fun k => run1 Tryz.prog Z (Instr.fieldAt 35 t15 9) w k) (fun t27 w =>
 guardW (t26) false (fun k => run1 Tryz.prog Z (Instr.loadAt 32 t27) w k) (fun t28 w =>
 guardW (t26) false (fun k => run1 Tryz.prog Z (Builtin.len_ #[32] 3 #[t28]) w k) (fun t29 w =>
 guardW (t26) false (fun k => run1 Tryz.prog Z (eqOp .neq 3 false true t29 (.int .i64 0)) w k) (fun t30 w =>
 run1 Tryz.prog Z (pickV t26 (.bool true) t30) w fun t31 w =>
 guardW (t31) false (fun k => run1 Tryz.prog Z (Instr.loadAt 35 t15) w k) (fun t32 w =>
 guardW (t31) false (fun k => CallV Tryz.prog Z 96 #[t32] w k) (fun t33 w =>
 guardW (t31) false (fun k => run1 Tryz.prog Z (Op.unary .not t33) w k) (fun t34 w =>
 run1 Tryz.prog Z (pickV t31 (.bool true) t34) w fun t35 w =>
 CondV t35 (
 Q (.int .i64 40) w) (
 run1 Tryz.prog Z (binOp .add 3 t6 (.int .i64 1)) w fun t36 w =>
 ∃ n_5, n_5 < m_5 ∧ J_5 n_5 t36 w)) w) w) w) w) w) w) w) w) w) w) w) w) w) (
 Q (.int .i64 0) w))
def f51.an : An := (.sq .leaf (.sq (.sq .leaf (.cn (.sq .leaf .leaf) .leaf)) (.sq (.sq .leaf (.bl (.lp [3] (.sq (.sq .leaf (.cn .leaf .leaf)) (.sq (.bl (.sq .leaf (.sq .leaf (.cn (.sq .leaf .leaf) .leaf)))) .leaf))))) (.sq .leaf .leaf))))
theorem f51.calls {Z : List PanicEntry → World → Prop} {x0 : Value} {w : World} {Q : Value → World → Prop} (h : f51.sh Z x0 w Q) : CallV Tryz.prog Z 51 #[x0] w Q :=
 cl Tryz.func51 f51.an [x0] (by kernel_rfl) (by kernel_rfl) h

def f52.sh (Z : List PanicEntry → World → Prop) (x0 x1 : Value) (w : World) (Q : Value → World → Prop) : Prop :=
 run1 Tryz.prog Z (Instr.box 39 x0) w fun t1 w =>
 run1 Tryz.prog Z (Instr.box 3 x1) w fun t2 w =>
 run1 Tryz.prog Z (Instr.loadAt 3 t2) w fun t3 w =>
 run1 Tryz.prog Z (binOp .and 3 t3 (.int .i64 512)) w fun t4 w =>
 run1 Tryz.prog Z (eqOp .eql 3 false true t4 (.int .i64 0)) w fun t5 w =>
 guardW (t5) true (fun k => run1 Tryz.prog Z (Instr.fieldAt 39 t1 10) w k) (fun t6 w =>
 guardW (t5) true (fun k => run1 Tryz.prog Z (Instr.loadAt 37 t6) w k) (fun t7 w =>
 guardW (t5) true (fun k => run1 Tryz.prog Z (Instr.build 37 #[]) w k) (fun t8 w =>
 guardW (t5) true (fun k => CallV Tryz.prog Z 97 #[t7, t8] w k) (fun t9 w =>
 guardW (t5) true (fun k => run1 Tryz.prog Z (Op.unary .not t9) w k) (fun t10 w =>
 run1 Tryz.prog Z (pickV t5 t10 (.bool false)) w fun t11 w =>
 guardW (t11) false (fun k => run1 Tryz.prog Z (Instr.loadAt 3 t2) w k) (fun t12 w =>
 guardW (t11) false (fun k => run1 Tryz.prog Z (binOp .and 3 t12 (.int .i64 1024)) w k) (fun t13 w =>
 guardW (t11) false (fun k => run1 Tryz.prog Z (eqOp .eql 3 false true t13 (.int .i64 0)) w k) (fun t14 w =>
 guardW (t11) false (fun k => k (t14) w) (fun t15 w =>
 guardW (t15) true (fun k => run1 Tryz.prog Z (Instr.fieldAt 39 t1 11) w k) (fun t16 w =>
 guardW (t15) true (fun k => run1 Tryz.prog Z (Instr.loadAt 30 t16) w k) (fun t17 w =>
 guardW (t15) true (fun k => run1 Tryz.prog Z (Builtin.len_ #[30] 3 #[t17]) w k) (fun t18 w =>
 guardW (t15) true (fun k => run1 Tryz.prog Z (binOp .gtr 3 t18 (.int .i64 0)) w k) (fun t19 w =>
 guardW (t11) false (fun k => run1 Tryz.prog Z (pickV t15 t19 (.bool false)) w k) (fun t20 w =>
 run1 Tryz.prog Z (pickV t11 (.bool true) t20) w fun t21 w =>
 CondV t21 (
 Q (.bool false) w) (
 run1 Tryz.prog Z (Instr.alloc 129 true (.tuple #[])) w fun t22 w =>
 run1 Tryz.prog Z (Instr.makeFunc (.func 98) #[] #[t2]) w fun t23 w =>
 run1 Tryz.prog Z (Instr.makeFunc (.func 99) #[] #[t1, t22]) w fun t24 w =>
 runX Tryz.prog Z (callVal t23 #[(.int .i64 1), t24]) w fun t25 w =>
 run1 Tryz.prog Z (Instr.makeFunc (.func 100) #[] #[t1, t22]) w fun t26 w =>
 runX Tryz.prog Z (callVal t23 #[(.int .i64 2), t26]) w fun t27 w =>
 run1 Tryz.prog Z (Instr.makeFunc (.func 101) #[] #[t1, t22]) w fun t28 w =>
 runX Tryz.prog Z (callVal t23 #[(.int .i64 4), t28]) w fun t29 w =>
 run1 Tryz.prog Z (Instr.makeFunc (.func 102) #[] #[t1, t22]) w fun t30 w =>
 runX Tryz.prog Z (callVal t23 #[(.int .i64 2048), t30]) w fun t31 w =>
 run1 Tryz.prog Z (Instr.makeFunc (.func 103) #[] #[t1, t22]) w fun t32 w =>
 runX Tryz.prog Z (callVal t23 #[(.int .i64 8), t32]) w fun t33 w =>
 run1 Tryz.prog Z (Instr.makeFunc (.func 104) #[] #[t1, t22]) w fun t34 w =>
 runX Tryz.prog Z (callVal t23 #[(.int .i64 16), t34]) w fun t35 w =>
 run1 Tryz.prog Z (Instr.makeFunc (.func 105) #[] #[t1, t22]) w fun t36 w =>
 runX Tryz.prog Z (callVal t23 #[(.int .i64 32), t36]) w fun t37 w =>
 run1 Tryz.prog Z (Instr.makeFunc (.func 106) #[] #[t1, t22]) w fun t38 w =>
 runX Tryz.prog Z (callVal t23 #[(.int .i64 64), t38]) w fun t39 w =>
 run1 Tryz.prog Z (Instr.makeFunc (.func 107) #[] #[t1, t22]) w fun t40 w =>
 runX Tryz.prog Z (callVal t23 #[(.int .i64 128), t40]) w fun t41 w =>
 run1 Tryz.prog Z (Instr.makeFunc (.func 108) #[] #[t1, t22]) w fun t42 w =>
 runX Tryz.prog Z (callVal t23 #[(.int .i64 256), t42]) w fun t43 w =>
 run1 Tryz.prog Z (Instr.loadAt 129 t22) w fun t44 w =>
 run1 Tryz.prog Z (Instr.build 129 #[]) w fun t45 w =>
 run1 Tryz.prog Z (eqOp .eql 129 false false t44 t45) w fun t46 w =>
 Q t46 w)) w) w) w) w) w) w) w) w) w) w) w) w) w) w
def f52.an : An := (.sq .leaf (.sq (.sq .leaf (.cn (.sq .leaf .leaf) .leaf)) (.sq .leaf (.sq .leaf (.sq .leaf (.sq .leaf (.sq .leaf (.sq .leaf (.sq .leaf (.sq .leaf (.sq .leaf (.sq .leaf (.sq .leaf (.sq .leaf (.sq .leaf .leaf)))))))))))))))
theorem f52.calls {Z : List PanicEntry → World → Prop} {x0 x1 : Value} {w : World} {Q : Value → World → Prop} (h : f52.sh Z x0 x1 w Q) : CallV Tryz.prog Z 52 #[x0, x1] w Q :=
 cl Tryz.func52 f52.an [x0, x1] (by kernel_rfl) (by kernel_rfl) h

def f53.sh (Z : List PanicEntry → World → Prop) (x0 x1 x2 : Value) (w : World) (Q : Value → World → Prop) : Prop :=
 run1 Tryz.prog Z (eqOp .eql 73 false true x0 (.pointer none)) w fun t1 w =>
 CondV t1 (
 Q (Value.tuple #[]) w) (
 run1 Tryz.prog Z (binOp .sub 3 x2 (.int .i64 1)) w fun t2 w =>
 ∃ J_3 : Nat → Value → World → Prop, (∃ m, J_3 m t2 w) ∧
 ∀ m_3, ∀ t4 : Value, ∀ w : World, J_3 m_3 t4 w → Env →
 run1 Tryz.prog Z (binOp .geq 3 t4 (.int .i64 0)) w fun t5 w =>
 CondV t5 (
 Drawn w fun w =>
 PureV Tryz.prog (nilChk x0) fun t6 =>
 Pure1 Tryz.prog (Instr.fieldAt 75 t6 0) fun t7 =>
 Read1 Tryz.prog (Instr.loadAt 30 t7) w fun t8 =>
 Pure1 Tryz.prog (binOp .mul 3 (.int .i64 8) t4) fun t9 =>
 Pure1 Tryz.prog (binOp .shr 113 x1 t9) fun t10 =>
 Pure1 Tryz.prog (convert 113 5 t10) fun t11 =>
 run1 Tryz.prog Z (Instr.buildSlice 30 1 #[(0, t11)]) w fun t12 w =>
 Still Tryz.prog (nx (Instr.loadAt 30 t7)) t8 w <|
 run1 Tryz.prog Z (Builtin.append_ #[30, 30] 30 #[t8, t12]) w fun t13 w =>
 PureV Tryz.prog (nilChk x0) fun t14 =>
 Pure1 Tryz.prog (Instr.fieldAt 75 t14 0) fun t15 =>
 run0 Tryz.prog Z (Instr.storeAt 30 t15 t13) w fun w =>
 run1 Tryz.prog Z (binOp .sub 3 t4 (.int .i64 1)) w fun t16 w =>
 ∃ n_3, n_3 < m_3 ∧ J_3 n_3 t16 w) (
 Q (Value.tuple #[]) w))
def f53.an : An := (.sq (.sq .leaf (.cn .leaf .leaf)) (.sq .leaf (.bl (.lp [6] (.sq (.sq .leaf (.cn .leaf .leaf)) (.sq (.bl (.dr (pl [0, 4, 8, 12, 17, 20, 24, 28, 32, 36, 42, 46, 48, 52, 58] .fin))) .leaf))))))
theorem f53.calls {Z : List PanicEntry → World → Prop} {x0 x1 x2 : Value} {w : World} {Q : Value → World → Prop} (h : f53.sh Z x0 x1 x2 w Q) : CallV Tryz.prog Z 53 #[x0, x1, x2] w Q :=
 cl Tryz.func53 f53.an [x0, x1, x2] (by kernel_rfl) (by kernel_rfl) h

def f54.sh (Z : List PanicEntry → World → Prop) (x0 : Value) (w : World) (Q : Value → World → Prop) : Prop :=
 Q (.bool true) w
def f54.an : An := (.sq .leaf (.sq .leaf .leaf))
theorem f54.calls {Z : List PanicEntry → World → Prop} {x0 : Value} {w : World} {Q : Value → World → Prop} (h : f54.sh Z x0 w Q) : CallV Tryz.prog Z 54 #[x0] w Q :=
 cl Tryz.func54 f54.an [x0] (by kernel_rfl) (by kernel_rfl) h

def f55.sh (Z : List PanicEntry → World → Prop) (w : World) (Q : Value → World → Prop) : Prop :=
 run1 Tryz.prog Z (Instr.build 83 #[(0, (.int .i64 1)), (1, (.func (.func 109) #[] #[])), (2, (.func (.func 111) #[] #[])), (3, (.func (.func 113) #[] #[]))]) w fun t1 w =>
 run1 Tryz.prog Z (Instr.build 83 #[(0, (.int .i64 2)), (1, (.func (.func 115) #[] #[])), (2, (.func (.func 116) #[] #[])), (3, (.func (.func 117) #[] #[]))]) w fun t2 w =>
 run1 Tryz.prog Z (Instr.build 83 #[(0, (.int .i64 4)), (1, (.func (.func 118) #[] #[])), (2, (.func (.func 119) #[] #[])), (3, (.func (.func 120) #[] #[]))]) w fun t3 w =>
 run1 Tryz.prog Z (Instr.buildSlice 77 3 #[(0, t1), (1, t2), (2, t3)]) w fun t4 w =>
 Q t4 w
def f55.an : An := (.sq .leaf (.sq .leaf .leaf))
theorem f55.calls {Z : List PanicEntry → World → Prop} {w : World} {Q : Value → World → Prop} (h : f55.sh Z  w Q) : CallV Tryz.prog Z 55 #[] w Q :=
 cl Tryz.func55 f55.an [] (by kernel_rfl) (by kernel_rfl) h

def f56.sh (Z : List PanicEntry → World → Prop) (x0 x1 : Value) (w : World) (Q : Value → World → Prop) : Prop :=
 runX Tryz.prog Z (nilChk x1) w fun t1 w =>
 run1 Tryz.prog Z (Instr.fieldAt 39 t1 4) w fun t2 w =>
 run1 Tryz.prog Z (Instr.loadAt 23 t2) w fun t3 w =>
 CallV Tryz.prog Z 31 #[x0, t3] w fun t4 w =>
 Q (Value.tuple #[]) w
def f56.an : An := .leaf
theorem f56.calls {Z : List PanicEntry → World → Prop} {x0 x1 : Value} {w : World} {Q : Value → World → Prop} (h : f56.sh Z x0 x1 w Q) : CallV Tryz.prog Z 56 #[x0, x1] w Q :=
 cl Tryz.func56 f56.an [x0, x1] (by kernel_rfl) (by kernel_rfl) h

def f57.sh (Z : List PanicEntry → World → Prop) (x0 x1 : Value) (w : World) (Q : Value → World → Prop) : Prop :=
 CallV Tryz.prog Z 45 #[x0] w fun t1 w =>
 runX Tryz.prog Z (nilChk x1) w fun t2 w =>
 run1 Tryz.prog Z (Instr.fieldAt 39 t2 4) w fun t3 w =>
 run0 Tryz.prog Z (Instr.storeAt 23 t3 t1) w fun w =>
 Q (Value.tuple #[]) w
def f57.an : An := .leaf
theorem f57.calls {Z : List PanicEntry → World → Prop} {x0 x1 : Value} {w : World} {Q : Value → World → Prop} (h : f57.sh Z x0 x1 w Q) : CallV Tryz.prog Z 57 #[x0, x1] w Q :=
 cl Tryz.func57 f57.an [x0, x1] (by kernel_rfl) (by kernel_rfl) h

def f58.sh (Z : List PanicEntry → World → Prop) (x0 : Value) (w : World) (Q : Value → World → Prop) : Prop :=
 runX Tryz.prog Z (nilChk x0) w fun t1 w =>
 run1 Tryz.prog Z (Instr.fieldAt 39 t1 4) w fun t2 w =>
 run1 Tryz.prog Z (Instr.loadAt 23 t2) w fun t3 w =>
 run1 Tryz.prog Z (binOp .leq 23 t3 (.int .u32 2147483647)) w fun t4 w =>
 guardW (t4) true (fun k => k (x0) w) (fun t5 w =>
 guardW (t4) true (fun k => runX Tryz.prog Z (nilChk t5) w k) (fun t6 w =>
 guardW (t4) true (fun k => run1 Tryz.prog Z (Instr.fieldAt 39 t6 4) w k) (fun t7 w =>
 guardW (t4) true (fun k => run1 Tryz.prog Z (Instr.loadAt 23 t7) w k) (fun t8 w =>
 guardW (t4) true (fun k => run1 Tryz.prog Z (binOp .gtr 23 t8 (.int .u32 0)) w k) (fun t9 w =>
 guardW (t4) true (fun k => k (t9) w) (fun t10 w =>
 guardW (t10) false (fun k => k (x0) w) (fun t11 w =>
 guardW (t10) false (fun k => runX Tryz.prog Z (nilChk t11) w k) (fun t12 w =>
 guardW (t10) false (fun k => run1 Tryz.prog Z (Instr.fieldAt 39 t12 0) w k) (fun t13 w =>
 guardW (t10) false (fun k => run1 Tryz.prog Z (Instr.loadAt 22 t13) w k) (fun t14 w =>
 guardW (t10) false (fun k => run1 Tryz.prog Z (eqOp .eql 22 false true t14 (.int .i8 1)) w k) (fun t15 w =>
 guardW (t4) true (fun k => run1 Tryz.prog Z (pickV t10 (.bool true) t15) w k) (fun t16 w =>
 run1 Tryz.prog Z (pickV t4 t16 (.bool false)) w fun t17 w =>
 Q t17 w) w) w) w) w) w) w) w) w) w) w) w) w
def f58.an : An := (.sq .leaf (.sq .leaf .leaf))
theorem f58.calls {Z : List PanicEntry → World → Prop} {x0 : Value} {w : World} {Q : Value → World → Prop} (h : f58.sh Z x0 w Q) : CallV Tryz.prog Z 58 #[x0] w Q :=
 cl Tryz.func58 f58.an [x0] (by kernel_rfl) (by kernel_rfl) h

def f59.sh (Z : List PanicEntry → World → Prop) (x0 x1 : Value) (w : World) (Q : Value → World → Prop) : Prop :=
 runX Tryz.prog Z (nilChk x1) w fun t1 w =>
 run1 Tryz.prog Z (Instr.fieldAt 39 t1 5) w fun t2 w =>
 run1 Tryz.prog Z (Instr.loadAt 23 t2) w fun t3 w =>
 CallV Tryz.prog Z 31 #[x0, t3] w fun t4 w =>
 Q (Value.tuple #[]) w
def f59.an : An := .leaf
theorem f59.calls {Z : List PanicEntry → World → Prop} {x0 x1 : Value} {w : World} {Q : Value → World → Prop} (h : f59.sh Z x0 x1 w Q) : CallV Tryz.prog Z 59 #[x0, x1] w Q :=
 cl Tryz.func59 f59.an [x0, x1] (by kernel_rfl) (by kernel_rfl) h

def f60.sh (Z : List PanicEntry → World → Prop) (x0 x1 : Value) (w : World) (Q : Value → World → Prop) : Prop :=
 CallV Tryz.prog Z 45 #[x0] w fun t1 w =>
 runX Tryz.prog Z (nilChk x1) w fun t2 w =>
 run1 Tryz.prog Z (Instr.fieldAt 39 t2 5) w fun t3 w =>
 run0 Tryz.prog Z (Instr.storeAt 23 t3 t1) w fun w =>
 Q (Value.tuple #[]) w
def f60.an : An := .leaf
theorem f60.calls {Z : List PanicEntry → World → Prop} {x0 x1 : Value} {w : World} {Q : Value → World → Prop} (h : f60.sh Z x0 x1 w Q) : CallV Tryz.prog Z 60 #[x0, x1] w Q :=
 cl Tryz.func60 f60.an [x0, x1] (by kernel_rfl) (by kernel_rfl) h

def f61.sh (Z : List PanicEntry → World → Prop) (x0 : Value) (w : World) (Q : Value → World → Prop) : Prop :=
 runX Tryz.prog Z (nilChk x0) w fun t1 w =>
 run1 Tryz.prog Z (Instr.fieldAt 39 t1 5) w fun t2 w =>
 run1 Tryz.prog Z (Instr.loadAt 23 t2) w fun t3 w =>
 run1 Tryz.prog Z (binOp .leq 23 t3 (.int .u32 2147483647)) w fun t4 w =>
 Q t4 w
def f61.an : An := (.sq .leaf (.sq .leaf .leaf))
theorem f61.calls {Z : List PanicEntry → World → Prop} {x0 : Value} {w : World} {Q : Value → World → Prop} (h : f61.sh Z x0 w Q) : CallV Tryz.prog Z 61 #[x0] w Q :=
 cl Tryz.func61 f61.an [x0] (by kernel_rfl) (by kernel_rfl) h

def f62.sh (Z : List PanicEntry → World → Prop) (x0 x1 : Value) (w : World) (Q : Value → World → Prop) : Prop :=
 runX Tryz.prog Z (nilChk x1) w fun t1 w =>
 run1 Tryz.prog Z (Instr.fieldAt 39 t1 6) w fun t2 w =>
 run1 Tryz.prog Z (Instr.loadAt 27 t2) w fun t3 w =>
 CallV Tryz.prog Z 63 #[x0, t3] w fun t4 w =>
 Q (Value.tuple #[]) w
def f62.an : An := .leaf
theorem f62.calls {Z : List PanicEntry → World → Prop} {x0 x1 : Value} {w : World} {Q : Value → World → Prop} (h : f62.sh Z x0 x1 w Q) : CallV Tryz.prog Z 62 #[x0, x1] w Q :=
 cl Tryz.func62 f62.an [x0, x1] (by kernel_rfl) (by kernel_rfl) h

def f63.sh (Z : List PanicEntry → World → Prop) (x0 x1 : Value) (w : World) (Q : Value → World → Prop) : Prop :=
 run1 Tryz.prog Z (Instr.box 27 x1) w fun t1 w =>
 run1 Tryz.prog Z (Instr.fieldAt 27 t1 0) w fun t2 w =>
 run1 Tryz.prog Z (Instr.loadAt 23 t2) w fun t3 w =>
 CallV Tryz.prog Z 31 #[x0, t3] w fun t4 w =>
 run1 Tryz.prog Z (Instr.fieldAt 27 t1 1) w fun t5 w =>
 run1 Tryz.prog Z (Instr.loadAt 23 t5) w fun t6 w =>
 CallV Tryz.prog Z 31 #[x0, t6] w fun t7 w =>
 Q (Value.tuple #[]) w
def f63.an : An := (.sq .leaf (.sq .leaf .leaf))
theorem f63.calls {Z : List PanicEntry → World → Prop} {x0 x1 : Value} {w : World} {Q : Value → World → Prop} (h : f63.sh Z x0 x1 w Q) : CallV Tryz.prog Z 63 #[x0, x1] w Q :=
 cl Tryz.func63 f63.an [x0, x1] (by kernel_rfl) (by kernel_rfl) h

def f64.sh (Z : List PanicEntry → World → Prop) (x0 x1 : Value) (w : World) (Q : Value → World → Prop) : Prop :=
 CallV Tryz.prog Z 65 #[x0] w fun t1 w =>
 runX Tryz.prog Z (nilChk x1) w fun t2 w =>
 run1 Tryz.prog Z (Instr.fieldAt 39 t2 6) w fun t3 w =>
 run0 Tryz.prog Z (Instr.storeAt 27 t3 t1) w fun w =>
 Q (Value.tuple #[]) w
def f64.an : An := .leaf
theorem f64.calls {Z : List PanicEntry → World → Prop} {x0 x1 : Value} {w : World} {Q : Value → World → Prop} (h : f64.sh Z x0 x1 w Q) : CallV Tryz.prog Z 64 #[x0, x1] w Q :=
 cl Tryz.func64 f64.an [x0, x1] (by kernel_rfl) (by kernel_rfl) h

def f65.sh (Z : List PanicEntry → World → Prop) (x0 : Value) (w : World) (Q : Value → World → Prop) : Prop :=
 run1 Tryz.prog Z (Instr.alloc 27 true (.tuple #[])) w fun t1 w =>
 CallV Tryz.prog Z 45 #[x0] w fun t2 w =>
 CallV Tryz.prog Z 45 #[x0] w fun t3 w =>
 run1 Tryz.prog Z (Instr.build 27 #[(0, t2), (1, t3)]) w fun t4 w =>
 run0 Tryz.prog Z (Instr.storeAt 27 t1 t4) w fun w =>
 ∃ r_5, (do loadVar 27 (← asAddr t1) : Sem Value).run Tryz.prog w = .ok r_5 w ∧
 Q r_5 w
def f65.an : An := (.sq .leaf (.sq .leaf .leaf))
theorem f65.calls {Z : List PanicEntry → World → Prop} {x0 : Value} {w : World} {Q : Value → World → Prop} (h : f65.sh Z x0 w Q) : CallV Tryz.prog Z 65 #[x0] w Q :=
 cl Tryz.func65 f65.an [x0] (by kernel_rfl) (by kernel_rfl) h

def f66.sh (Z : List PanicEntry → World → Prop) (x0 : Value) (w : World) (Q : Value → World → Prop) : Prop :=
 runX Tryz.prog Z (nilChk x0) w fun t1 w =>
 run1 Tryz.prog Z (Instr.fieldAt 39 t1 0) w fun t2 w =>
 run1 Tryz.prog Z (Instr.loadAt 22 t2) w fun t3 w =>
 run1 Tryz.prog Z (eqOp .neq 22 false true t3 (.int .i8 11)) w fun t4 w =>
 guardW (t4) true (fun k => k (x0) w) (fun t5 w =>
 guardW (t4) true (fun k => runX Tryz.prog Z (nilChk t5) w k) (fun t6 w =>
 guardW (t4) true (fun k => run1 Tryz.prog Z (Instr.fieldAt 39 t6 0) w k) (fun t7 w =>
 guardW (t4) true (fun k => run1 Tryz.prog Z (Instr.loadAt 22 t7) w k) (fun t8 w =>
 guardW (t4) true (fun k => run1 Tryz.prog Z (eqOp .neq 22 false true t8 (.int .i8 12)) w k) (fun t9 w =>
 run1 Tryz.prog Z (pickV t4 t9 (.bool false)) w fun t10 w =>
 guardW (t10) false (fun k => k (x0) w) (fun t11 w =>
 guardW (t10) false (fun k => runX Tryz.prog Z (nilChk t11) w k) (fun t12 w =>
 guardW (t10) false (fun k => run1 Tryz.prog Z (Instr.fieldAt 39 t12 6) w k) (fun t13 w =>
 guardW (t10) false (fun k => run1 Tryz.prog Z (Instr.loadAt 27 t13) w k) (fun t14 w =>
 guardW (t10) false (fun k => run1 Tryz.prog Z (Instr.build 27 #[]) w k) (fun t15 w =>
 guardW (t10) false (fun k => run1 Tryz.prog Z (eqOp .neq 27 false false t14 t15) w k) (fun t16 w =>
 run1 Tryz.prog Z (pickV t10 (.bool true) t16) w fun t17 w =>
 guardW (t17) true (fun k => k (x0) w) (fun t18 w =>
 guardW (t17) true (fun k => runX Tryz.prog Z (nilChk t18) w k) (fun t19 w =>
 guardW (t17) true (fun k => run1 Tryz.prog Z (Instr.fieldAt 39 t19 6) w k) (fun t20 w =>
 guardW (t17) true (fun k => run1 Tryz.prog Z (Instr.loadAt 27 t20) w k) (fun t21 w =>
 guardW (t17) true (fun k => CallV Tryz.prog Z 70 #[t21] w k) (fun t22 w =>
 run1 Tryz.prog Z (pickV t17 t22 (.bool false)) w fun t23 w =>
 Q t23 w) w) w) w) w) w) w) w) w) w) w) w) w) w) w) w) w
def f66.an : An := (.sq .leaf (.sq .leaf (.sq .leaf .leaf)))
theorem f66.calls {Z : List PanicEntry → World → Prop} {x0 : Value} {w : World} {Q : Value → World → Prop} (h : f66.sh Z x0 w Q) : CallV Tryz.prog Z 66 #[x0] w Q :=
 cl Tryz.func66 f66.an [x0] (by kernel_rfl) (by kernel_rfl) h

def f67.sh (Z : List PanicEntry → World → Prop) (x0 x1 : Value) (w : World) (Q : Value → World → Prop) : Prop :=
 runX Tryz.prog Z (nilChk x1) w fun t1 w =>
 run1 Tryz.prog Z (Instr.fieldAt 39 t1 7) w fun t2 w =>
 run1 Tryz.prog Z (Instr.loadAt 27 t2) w fun t3 w =>
 CallV Tryz.prog Z 63 #[x0, t3] w fun t4 w =>
 Q (Value.tuple #[]) w
def f67.an : An := .leaf
theorem f67.calls {Z : List PanicEntry → World → Prop} {x0 x1 : Value} {w : World} {Q : Value → World → Prop} (h : f67.sh Z x0 x1 w Q) : CallV Tryz.prog Z 67 #[x0, x1] w Q :=
 cl Tryz.func67 f67.an [x0, x1] (by kernel_rfl) (by kernel_rfl) h

def f68.sh (Z : List PanicEntry → World → Prop) (x0 x1 : Value) (w : World) (Q : Value → World → Prop) : Prop :=
 CallV Tryz.prog Z 65 #[x0] w fun t1 w =>
 runX Tryz.prog Z (nilChk x1) w fun t2 w =>
 run1 Tryz.prog Z (Instr.fieldAt 39 t2 7) w fun t3 w =>
 run0 Tryz.prog Z (Instr.storeAt 27 t3 t1) w fun w =>
 Q (Value.tuple #[]) w
def f68.an : An := .leaf
theorem f68.calls {Z : List PanicEntry → World → Prop} {x0 x1 : Value} {w : World} {Q : Value → World → Prop} (h : f68.sh Z x0 x1 w Q) : CallV Tryz.prog Z 68 #[x0, x1] w Q :=
 cl Tryz.func68 f68.an [x0, x1] (by kernel_rfl) (by kernel_rfl) h

def f69.sh (Z : List PanicEntry → World → Prop) (x0 : Value) (w : World) (Q : Value → World → Prop) : Prop :=
 runX Tryz.prog Z (nilChk x0) w fun t1 w =>
 run1 Tryz.prog Z (Instr.fieldAt 39 t1 7) w fun t2 w =>
 run1 Tryz.prog Z (Instr.loadAt 27 t2) w fun t3 w =>
 CallV Tryz.prog Z 70 #[t3] w fun t4 w =>
 Q t4 w
def f69.an : An := (.sq .leaf (.sq .leaf .leaf))
theorem f69.calls {Z : List PanicEntry → World → Prop} {x0 : Value} {w : World} {Q : Value → World → Prop} (h : f69.sh Z x0 w Q) : CallV Tryz.prog Z 69 #[x0] w Q :=
 cl Tryz.func69 f69.an [x0] (by kernel_rfl) (by kernel_rfl) h

def f70.sh (Z : List PanicEntry → World → Prop) (x0 : Value) (w : World) (Q : Value → World → Prop) : Prop :=
 run1 Tryz.prog Z (Instr.box 27 x0) w fun t1 w =>
 run1 Tryz.prog Z (Instr.loadAt 27 t1) w fun t2 w =>
 run1 Tryz.prog Z (Instr.build 27 #[]) w fun t3 w =>
 run1 Tryz.prog Z (eqOp .eql 27 false false t2 t3) w fun t4 w =>
 guardW (t4) false (fun k => run1 Tryz.prog Z (Instr.fieldAt 27 t1 0) w k) (fun t5 w =>
 guardW (t4) false (fun k => run1 Tryz.prog Z (Instr.loadAt 23 t5) w k) (fun t6 w =>
 guardW (t4) false (fun k => run1 Tryz.prog Z (binOp .gtr 23 t6 (.int .u32 0)) w k) (fun t7 w =>
 guardW (t4) false (fun k => k (t7) w) (fun t8 w =>
 guardW (t8) true (fun k => run1 Tryz.prog Z (Instr.fieldAt 27 t1 0) w k) (fun t9 w =>
 guardW (t8) true (fun k => run1 Tryz.prog Z (Instr.loadAt 23 t9) w k) (fun t10 w =>
 guardW (t8) true (fun k => run1 Tryz.prog Z (binOp .leq 23 t10 (.int .u32 2147483647)) w k) (fun t11 w =>
 guardW (t4) false (fun k => run1 Tryz.prog Z (pickV t8 t11 (.bool false)) w k) (fun t12 w =>
 guardW (t4) false (fun k => k (t12) w) (fun t13 w =>
 guardW (t13) true (fun k => run1 Tryz.prog Z (Instr.fieldAt 27 t1 1) w k) (fun t14 w =>
 guardW (t13) true (fun k => run1 Tryz.prog Z (Instr.loadAt 23 t14) w k) (fun t15 w =>
 guardW (t13) true (fun k => run1 Tryz.prog Z (binOp .gtr 23 t15 (.int .u32 0)) w k) (fun t16 w =>
 guardW (t4) false (fun k => run1 Tryz.prog Z (pickV t13 t16 (.bool false)) w k) (fun t17 w =>
 run1 Tryz.prog Z (pickV t4 (.bool true) t17) w fun t18 w =>
 Q t18 w) w) w) w) w) w) w) w) w) w) w) w) w) w
def f70.an : An := (.sq .leaf (.sq .leaf .leaf))
theorem f70.calls {Z : List PanicEntry → World → Prop} {x0 : Value} {w : World} {Q : Value → World → Prop} (h : f70.sh Z x0 w Q) : CallV Tryz.prog Z 70 #[x0] w Q :=
 cl Tryz.func70 f70.an [x0] (by kernel_rfl) (by kernel_rfl) h

def f71.sh (Z : List PanicEntry → World → Prop) (x0 x1 : Value) (w : World) (Q : Value → World → Prop) : Prop :=
 runX Tryz.prog Z (nilChk x1) w fun t1 w =>
 run1 Tryz.prog Z (Instr.fieldAt 39 t1 8) w fun t2 w =>
 run1 Tryz.prog Z (Instr.loadAt 4 t2) w fun t3 w =>
 CallV Tryz.prog Z 72 #[x0, t3] w fun t4 w =>
 Q (Value.tuple #[]) w
def f71.an : An := .leaf
theorem f71.calls {Z : List PanicEntry → World → Prop} {x0 x1 : Value} {w : World} {Q : Value → World → Prop} (h : f71.sh Z x0 x1 w Q) : CallV Tryz.prog Z 71 #[x0, x1] w Q :=
 cl Tryz.func71 f71.an [x0, x1] (by kernel_rfl) (by kernel_rfl) h

def f72.sh (Z : List PanicEntry → World → Prop) (x0 x1 : Value) (w : World) (Q : Value → World → Prop) : Prop :=
 ∀ j_1 : Value → World → Prop, (∀ t2 : Value, ∀ w : World, (Env →
 CallV Tryz.prog Z 53 #[x0, t2, (.int .i64 1)] w fun t3 w =>
 Q (Value.tuple #[]) w) →
 j_1 t2 w) →
 CondV x1 (
 j_1 (.int .u64 1) w) (
 j_1 (.int .u64 0) w)
def f72.an : An := (.sq .leaf (.sj [4] (.sq .leaf (.cn .leaf .leaf)) .leaf))
theorem f72.calls {Z : List PanicEntry → World → Prop} {x0 x1 : Value} {w : World} {Q : Value → World → Prop} (h : f72.sh Z x0 x1 w Q) : CallV Tryz.prog Z 72 #[x0, x1] w Q :=
 cl Tryz.func72 f72.an [x0, x1] (by kernel_rfl) (by kernel_rfl) h

def f73.sh (Z : List PanicEntry → World → Prop) (x0 x1 : Value) (w : World) (Q : Value → World → Prop) : Prop :=
 CallV Tryz.prog Z 74 #[x0] w fun t1 w =>
 runX Tryz.prog Z (nilChk x1) w fun t2 w =>
 run1 Tryz.prog Z (Instr.fieldAt 39 t2 8) w fun t3 w =>
 run0 Tryz.prog Z (Instr.storeAt 4 t3 t1) w fun w =>
 Q (Value.tuple #[]) w
def f73.an : An := .leaf
theorem f73.calls {Z : List PanicEntry → World → Prop} {x0 x1 : Value} {w : World} {Q : Value → World → Prop} (h : f73.sh Z x0 x1 w Q) : CallV Tryz.prog Z 73 #[x0, x1] w Q :=
 cl Tryz.func73 f73.an [x0, x1] (by kernel_rfl) (by kernel_rfl) h

def f74.sh (Z : List PanicEntry → World → Prop) (x0 : Value) (w : World) (Q : Value → World → Prop) : Prop :=
 CallV Tryz.prog Z 121 #[x0, (.int .i64 1)] w fun t1 w =>
 run1 Tryz.prog Z (Instr.extract t1 0) w fun t2 w =>
 run1 Tryz.prog Z (Instr.extract t1 1) w fun t3 w =>
 run1 Tryz.prog Z (Op.unary .not t3) w fun t4 w =>
 CondV t4 (
 Q (.bool false) w) (
 run1 Tryz.prog Z (Instr.indexAt 30 t2 (.int .i64 0)) w fun t5 w =>
 run1 Tryz.prog Z (Instr.loadAt 5 t5) w fun t6 w =>
 run1 Tryz.prog Z (binOp .gtr 5 t6 (.int .u8 1)) w fun t7 w =>
 CondV t7 (
 runX Tryz.prog Z (nilChk x0) w fun t8 w =>
 run1 Tryz.prog Z (Instr.fieldAt 124 t8 2) w fun t9 w =>
 run0 Tryz.prog Z (Instr.storeAt 42 t9 (.int .i64 12)) w fun w =>
 Q (.bool false) w) (
 runX Tryz.prog Z (nilChk x0) w fun t10 w =>
 run1 Tryz.prog Z (Instr.fieldAt 124 t10 1) w fun t11 w =>
 run1 Tryz.prog Z (Instr.loadAt 30 t11) w fun t12 w =>
 run1 Tryz.prog Z (Instr.sliceAt 30 t12 (some (.int .i64 1)) none none) w fun t13 w =>
 runX Tryz.prog Z (nilChk x0) w fun t14 w =>
 run1 Tryz.prog Z (Instr.fieldAt 124 t14 1) w fun t15 w =>
 run0 Tryz.prog Z (Instr.storeAt 30 t15 t13) w fun w =>
 run1 Tryz.prog Z (Instr.indexAt 30 t2 (.int .i64 0)) w fun t16 w =>
 run1 Tryz.prog Z (Instr.loadAt 5 t16) w fun t17 w =>
 run1 Tryz.prog Z (eqOp .eql 5 false true t17 (.int .u8 1)) w fun t18 w =>
 Q t18 w))
def f74.an : An := (.sq .leaf (.sq .leaf (.sq (.sq .leaf (.cn (.sq .leaf .leaf) .leaf)) (.sq (.sq .leaf (.cn (.sq .leaf (.sq .leaf .leaf)) .leaf)) (.sq .leaf (.sq .leaf .leaf))))))
theorem f74.calls {Z : List PanicEntry → World → Prop} {x0 : Value} {w : World} {Q : Value → World → Prop} (h : f74.sh Z x0 w Q) : CallV Tryz.prog Z 74 #[x0] w Q :=
 cl Tryz.func74 f74.an [x0] (by kernel_rfl) (by kernel_rfl) h

def f75.sh (Z : List PanicEntry → World → Prop) (x0 x1 : Value) (w : World) (Q : Value → World → Prop) : Prop :=
 runX Tryz.prog Z (nilChk x1) w fun t1 w =>
 run1 Tryz.prog Z (Instr.fieldAt 39 t1 9) w fun t2 w =>
 run1 Tryz.prog Z (Instr.loadAt 4 t2) w fun t3 w =>
 CallV Tryz.prog Z 72 #[x0, t3] w fun t4 w =>
 Q (Value.tuple #[]) w
def f75.an : An := .leaf
theorem f75.calls {Z : List PanicEntry → World → Prop} {x0 x1 : Value} {w : World} {Q : Value → World → Prop} (h : f75.sh Z x0 x1 w Q) : CallV Tryz.prog Z 75 #[x0, x1] w Q :=
 cl Tryz.func75 f75.an [x0, x1] (by kernel_rfl) (by kernel_rfl) h

def f76.sh (Z : List PanicEntry → World → Prop) (x0 x1 : Value) (w : World) (Q : Value → World → Prop) : Prop :=
 CallV Tryz.prog Z 74 #[x0] w fun t1 w =>
 runX Tryz.prog Z (nilChk x1) w fun t2 w =>
 run1 Tryz.prog Z (Instr.fieldAt 39 t2 9) w fun t3 w =>
 run0 Tryz.prog Z (Instr.storeAt 4 t3 t1) w fun w =>
 Q (Value.tuple #[]) w
def f76.an : An := .leaf
theorem f76.calls {Z : List PanicEntry → World → Prop} {x0 x1 : Value} {w : World} {Q : Value → World → Prop} (h : f76.sh Z x0 x1 w Q) : CallV Tryz.prog Z 76 #[x0, x1] w Q :=
 cl Tryz.func76 f76.an [x0, x1] (by kernel_rfl) (by kernel_rfl) h

def f77.sh (Z : List PanicEntry → World → Prop) (x0 x1 : Value) (w : World) (Q : Value → World → Prop) : Prop :=
 runX Tryz.prog Z (nilChk x1) w fun t1 w =>
 run1 Tryz.prog Z (Instr.fieldAt 39 t1 10) w fun t2 w =>
 run1 Tryz.prog Z (Instr.loadAt 37 t2) w fun t3 w =>
 CallV Tryz.prog Z 122 #[t3] w fun t4 w =>
 run1 Tryz.prog Z (Instr.extract t4 0) w fun t5 w =>
 run1 Tryz.prog Z (Instr.extract t4 1) w fun t6 w =>
 ∀ j_7 : World → Prop, (∀ w : World, (Env →
 CallV Tryz.prog Z 81 #[x0, t5] w fun t8 w =>
 Q (Value.tuple #[]) w) →
 j_7 w) →
 run1 Tryz.prog Z (eqOp .neq 42 false true t6 (.int .i64 0)) w fun t9 w =>
 CondV t9 (
 run1 Tryz.prog Z (Instr.build 100 #[]) w fun t10 w =>
 run1 Tryz.prog Z (Instr.makeInterface 100 t10) w fun t11 w =>
 run1 Tryz.prog Z (Instr.panic t11) w fun _ w =>
 j_7 w) (
 j_7 w)
def f77.an : An := (.sq .leaf (.sj [] (.sq .leaf (.cn .leaf .leaf)) .leaf))
theorem f77.calls {Z : List PanicEntry → World → Prop} {x0 x1 : Value} {w : World} {Q : Value → World → Prop} (h : f77.sh Z x0 x1 w Q) : CallV Tryz.prog Z 77 #[x0, x1] w Q :=
 cl Tryz.func77 f77.an [x0, x1] (by kernel_rfl) (by kernel_rfl) h

def f78.sh (Z : List PanicEntry → World → Prop) (x0 x1 : Value) (w : World) (Q : Value → World → Prop) : Prop :=
 CallV Tryz.prog Z 83 #[x0, (.int .i64 4096)] w fun t1 w =>
 CallV Tryz.prog Z 123 #[t1] w fun t2 w =>
 run1 Tryz.prog Z (Instr.extract t2 0) w fun t3 w =>
 run1 Tryz.prog Z (Instr.extract t2 1) w fun t4 w =>
 run1 Tryz.prog Z (Instr.alloc 37 true (.tuple #[])) w fun t5 w =>
 run0 Tryz.prog Z (Instr.storeAt 37 t5 t3) w fun w =>
 ∀ j_6 : World → Prop, (∀ w : World, (Env →
 run1 Tryz.prog Z (Instr.loadAt 37 t5) w fun t7 w =>
 runX Tryz.prog Z (nilChk x1) w fun t8 w =>
 run1 Tryz.prog Z (Instr.fieldAt 39 t8 10) w fun t9 w =>
 run0 Tryz.prog Z (Instr.storeAt 37 t9 t7) w fun w =>
 Q (Value.tuple #[]) w) →
 j_6 w) →
 run1 Tryz.prog Z (eqOp .neq 42 false true t4 (.int .i64 0)) w fun t10 w =>
 CondV t10 (
 run1 Tryz.prog Z (Instr.build 100 #[]) w fun t11 w =>
 run1 Tryz.prog Z (Instr.makeInterface 100 t11) w fun t12 w =>
 run1 Tryz.prog Z (Instr.panic t12) w fun _ w =>
 j_6 w) (
 j_6 w)
def f78.an : An := (.sq .leaf (.sj [] (.sq .leaf (.cn .leaf .leaf)) .leaf))
theorem f78.calls {Z : List PanicEntry → World → Prop} {x0 x1 : Value} {w : World} {Q : Value → World → Prop} (h : f78.sh Z x0 x1 w Q) : CallV Tryz.prog Z 78 #[x0, x1] w Q :=
 cl Tryz.func78 f78.an [x0, x1] (by kernel_rfl) (by kernel_rfl) h

def f79.sh (Z : List PanicEntry → World → Prop) (x0 : Value) (w : World) (Q : Value → World → Prop) : Prop :=
 runX Tryz.prog Z (nilChk x0) w fun t1 w =>
 run1 Tryz.prog Z (Instr.fieldAt 39 t1 10) w fun t2 w =>
 run1 Tryz.prog Z (Instr.loadAt 37 t2) w fun t3 w =>
 CallV Tryz.prog Z 124 #[t3] w fun t4 w =>
 run1 Tryz.prog Z (eqOp .neq 42 false true t4 (.int .i64 0)) w fun t5 w =>
 CondV t5 (
 Q (.bool false) w) (
 runX Tryz.prog Z (nilChk x0) w fun t6 w =>
 run1 Tryz.prog Z (Instr.fieldAt 39 t6 0) w fun t7 w =>
 run1 Tryz.prog Z (Instr.loadAt 22 t7) w fun t8 w =>
 run1 Tryz.prog Z (eqOp .eql 22 false true t8 (.int .i8 13)) w fun t9 w =>
 CondV t9 (
 runX Tryz.prog Z (nilChk x0) w fun t10 w =>
 run1 Tryz.prog Z (Instr.fieldAt 39 t10 10) w fun t11 w =>
 run1 Tryz.prog Z (Instr.fieldAt 37 t11 0) w fun t12 w =>
 run1 Tryz.prog Z (Instr.loadAt 27 t12) w fun t13 w =>
 run1 Tryz.prog Z (Instr.build 27 #[]) w fun t14 w =>
 run1 Tryz.prog Z (eqOp .eql 27 false false t13 t14) w fun t15 w =>
 guardW (t15) true (fun k => k (x0) w) (fun t16 w =>
 guardW (t15) true (fun k => runX Tryz.prog Z (nilChk t16) w k) (fun t17 w =>
 guardW (t15) true (fun k => run1 Tryz.prog Z (Instr.fieldAt 39 t17 10) w k) (fun t18 w =>
 guardW (t15) true (fun k => run1 Tryz.prog Z (Instr.fieldAt 37 t18 1) w k) (fun t19 w =>
 guardW (t15) true (fun k => run1 Tryz.prog Z (Instr.fieldAt 29 t19 2) w k) (fun t20 w =>
 guardW (t15) true (fun k => run1 Tryz.prog Z (Instr.loadAt 2 t20) w k) (fun t21 w =>
 guardW (t15) true (fun k => run1 Tryz.prog Z (binOp .gtr 2 t21 (.int .i64 0)) w k) (fun t22 w =>
 run1 Tryz.prog Z (pickV t15 t22 (.bool false)) w fun t23 w =>
 Q t23 w) w) w) w) w) w) w) w) (
 Drawn w fun w =>
 PureV Tryz.prog (nilChk x0) fun t24 =>
 Pure1 Tryz.prog (Instr.fieldAt 39 t24 7) fun t25 =>
 Read1 Tryz.prog (Instr.loadAt 27 t25) w fun t26 =>
 PureV Tryz.prog (nilChk x0) fun t27 =>
 Pure1 Tryz.prog (Instr.fieldAt 39 t27 10) fun t28 =>
 Pure1 Tryz.prog (Instr.fieldAt 37 t28 0) fun t29 =>
 Read1 Tryz.prog (Instr.loadAt 27 t29) w fun t30 =>
 CallV Tryz.prog Z 125 #[t26, t30] w fun t31 w =>
 Pure1 Tryz.prog (binOp .lss 3 t31 (.int .i64 0)) fun t32 =>
 Q t32 w))
def f79.an : An := (.sq .leaf (.sq (.sq .leaf (.cn (.sq .leaf .leaf) .leaf)) (.sq (.sq .leaf (.cn (.sq .leaf .leaf) .leaf)) (.sq (.dr (pl [0, 4, 8, 13, 16, 20, 24, 28, 33, 38, 40, 44] .fin)) .leaf))))
theorem f79.calls {Z : List PanicEntry → World → Prop} {x0 : Value} {w : World} {Q : Value → World → Prop} (h : f79.sh Z x0 w Q) : CallV Tryz.prog Z 79 #[x0] w Q :=
 cl Tryz.func79 f79.an [x0] (by kernel_rfl) (by kernel_rfl) h

def f80.sh (Z : List PanicEntry → World → Prop) (x0 x1 : Value) (w : World) (Q : Value → World → Prop) : Prop :=
 runX Tryz.prog Z (nilChk x1) w fun t1 w =>
 run1 Tryz.prog Z (Instr.fieldAt 39 t1 11) w fun t2 w =>
 run1 Tryz.prog Z (Instr.loadAt 30 t2) w fun t3 w =>
 CallV Tryz.prog Z 81 #[x0, t3] w fun t4 w =>
 Q (Value.tuple #[]) w
def f80.an : An := .leaf
theorem f80.calls {Z : List PanicEntry → World → Prop} {x0 x1 : Value} {w : World} {Q : Value → World → Prop} (h : f80.sh Z x0 x1 w Q) : CallV Tryz.prog Z 80 #[x0, x1] w Q :=
 cl Tryz.func80 f80.an [x0, x1] (by kernel_rfl) (by kernel_rfl) h

def f81.sh (Z : List PanicEntry → World → Prop) (x0 x1 : Value) (w : World) (Q : Value → World → Prop) : Prop :=
 run1 Tryz.prog Z (eqOp .eql 73 false true x0 (.pointer none)) w fun t1 w =>
 CondV t1 (
 Q (Value.tuple #[]) w) (
 run1 Tryz.prog Z (Builtin.len_ #[30] 3 #[x1]) w fun t2 w =>
 run1 Tryz.prog Z (convert 3 21 t2) w fun t3 w =>
 CallV Tryz.prog Z 126 #[x0, t3] w fun t4 w =>
 CallV Tryz.prog Z 33 #[x0, x1] w fun t5 w =>
 Q (Value.tuple #[]) w)
def f81.an : An := (.sq (.sq .leaf (.cn .leaf .leaf)) (.sq .leaf .leaf))
theorem f81.calls {Z : List PanicEntry → World → Prop} {x0 x1 : Value} {w : World} {Q : Value → World → Prop} (h : f81.sh Z x0 x1 w Q) : CallV Tryz.prog Z 81 #[x0, x1] w Q :=
 cl Tryz.func81 f81.an [x0, x1] (by kernel_rfl) (by kernel_rfl) h

def f82.sh (Z : List PanicEntry → World → Prop) (x0 x1 : Value) (w : World) (Q : Value → World → Prop) : Prop :=
 CallV Tryz.prog Z 83 #[x0, (.int .i64 4096)] w fun t1 w =>
 runX Tryz.prog Z (nilChk x1) w fun t2 w =>
 run1 Tryz.prog Z (Instr.fieldAt 39 t2 11) w fun t3 w =>
 run0 Tryz.prog Z (Instr.storeAt 30 t3 t1) w fun w =>
 Q (Value.tuple #[]) w
def f82.an : An := .leaf
theorem f82.calls {Z : List PanicEntry → World → Prop} {x0 x1 : Value} {w : World} {Q : Value → World → Prop} (h : f82.sh Z x0 x1 w Q) : CallV Tryz.prog Z 82 #[x0, x1] w Q :=
 cl Tryz.func82 f82.an [x0, x1] (by kernel_rfl) (by kernel_rfl) h

def f83.sh (Z : List PanicEntry → World → Prop) (x0 x1 : Value) (w : World) (Q : Value → World → Prop) : Prop :=
 CallV Tryz.prog Z 127 #[x0, x1] w fun t1 w =>
 run1 Tryz.prog Z (Builtin.append_ #[30, 30] 30 #[(.slice none 0 0), t1]) w fun t2 w =>
 Q t2 w
def f83.an : An := (.sq .leaf (.sq .leaf .leaf))
theorem f83.calls {Z : List PanicEntry → World → Prop} {x0 x1 : Value} {w : World} {Q : Value → World → Prop} (h : f83.sh Z x0 x1 w Q) : CallV Tryz.prog Z 83 #[x0, x1] w Q :=
 cl Tryz.func83 f83.an [x0, x1] (by kernel_rfl) (by kernel_rfl) h

def f84.sh (Z : List PanicEntry → World → Prop) (x0 : Value) (w : World) (Q : Value → World → Prop) : Prop :=
 runX Tryz.prog Z (nilChk x0) w fun t1 w =>
 run1 Tryz.prog Z (Instr.fieldAt 39 t1 11) w fun t2 w =>
 run1 Tryz.prog Z (Instr.loadAt 30 t2) w fun t3 w =>
 run1 Tryz.prog Z (Builtin.len_ #[30] 3 #[t3]) w fun t4 w =>
 run1 Tryz.prog Z (binOp .gtr 3 t4 (.int .i64 0)) w fun t5 w =>
 guardW (t5) true (fun k => k (x0) w) (fun t6 w =>
 guardW (t5) true (fun k => runX Tryz.prog Z (nilChk t6) w k) (fun t7 w =>
 guardW (t5) true (fun k => run1 Tryz.prog Z (Instr.fieldAt 39 t7 11) w k) (fun t8 w =>
 guardW (t5) true (fun k => run1 Tryz.prog Z (Instr.loadAt 30 t8) w k) (fun t9 w =>
 guardW (t5) true (fun k => run1 Tryz.prog Z (Builtin.len_ #[30] 3 #[t9]) w k) (fun t10 w =>
 guardW (t5) true (fun k => run1 Tryz.prog Z (binOp .leq 3 t10 (.int .i64 4096)) w k) (fun t11 w =>
 run1 Tryz.prog Z (pickV t5 t11 (.bool false)) w fun t12 w =>
 Q t12 w) w) w) w) w) w) w
def f84.an : An := (.sq .leaf (.sq .leaf .leaf))
theorem f84.calls {Z : List PanicEntry → World → Prop} {x0 : Value} {w : World} {Q : Value → World → Prop} (h : f84.sh Z x0 w Q) : CallV Tryz.prog Z 84 #[x0] w Q :=
 cl Tryz.func84 f84.an [x0] (by kernel_rfl) (by kernel_rfl) h

def f85.sh (Z : List PanicEntry → World → Prop) (x0 x1 : Value) (w : World) (Q : Value → World → Prop) : Prop :=
 runX Tryz.prog Z (nilChk x1) w fun t1 w =>
 run1 Tryz.prog Z (Instr.fieldAt 39 t1 12) w fun t2 w =>
 run1 Tryz.prog Z (Instr.loadAt 2 t2) w fun t3 w =>
 CallV Tryz.prog Z 86 #[x0, t3] w fun t4 w =>
 Q (Value.tuple #[]) w
def f85.an : An := .leaf
theorem f85.calls {Z : List PanicEntry → World → Prop} {x0 x1 : Value} {w : World} {Q : Value → World → Prop} (h : f85.sh Z x0 x1 w Q) : CallV Tryz.prog Z 85 #[x0, x1] w Q :=
 cl Tryz.func85 f85.an [x0, x1] (by kernel_rfl) (by kernel_rfl) h

def f86.sh (Z : List PanicEntry → World → Prop) (x0 x1 : Value) (w : World) (Q : Value → World → Prop) : Prop :=
 run1 Tryz.prog Z (convert 2 113 x1) w fun t1 w =>
 CallV Tryz.prog Z 53 #[x0, t1, (.int .i64 8)] w fun t2 w =>
 Q (Value.tuple #[]) w
def f86.an : An := .leaf
theorem f86.calls {Z : List PanicEntry → World → Prop} {x0 x1 : Value} {w : World} {Q : Value → World → Prop} (h : f86.sh Z x0 x1 w Q) : CallV Tryz.prog Z 86 #[x0, x1] w Q :=
 cl Tryz.func86 f86.an [x0, x1] (by kernel_rfl) (by kernel_rfl) h

def f87.sh (Z : List PanicEntry → World → Prop) (x0 x1 : Value) (w : World) (Q : Value → World → Prop) : Prop :=
 CallV Tryz.prog Z 88 #[x0] w fun t1 w =>
 runX Tryz.prog Z (nilChk x1) w fun t2 w =>
 run1 Tryz.prog Z (Instr.fieldAt 39 t2 12) w fun t3 w =>
 run0 Tryz.prog Z (Instr.storeAt 2 t3 t1) w fun w =>
 Q (Value.tuple #[]) w
def f87.an : An := .leaf
theorem f87.calls {Z : List PanicEntry → World → Prop} {x0 x1 : Value} {w : World} {Q : Value → World → Prop} (h : f87.sh Z x0 x1 w Q) : CallV Tryz.prog Z 87 #[x0, x1] w Q :=
 cl Tryz.func87 f87.an [x0, x1] (by kernel_rfl) (by kernel_rfl) h

def f88.sh (Z : List PanicEntry → World → Prop) (x0 : Value) (w : World) (Q : Value → World → Prop) : Prop :=
 CallV Tryz.prog Z 91 #[x0, (.int .i64 8)] w fun t1 w =>
 run1 Tryz.prog Z (convert 113 2 t1) w fun t2 w =>
 Q t2 w
def f88.an : An := (.sq .leaf (.sq .leaf .leaf))
theorem f88.calls {Z : List PanicEntry → World → Prop} {x0 : Value} {w : World} {Q : Value → World → Prop} (h : f88.sh Z x0 w Q) : CallV Tryz.prog Z 88 #[x0] w Q :=
 cl Tryz.func88 f88.an [x0] (by kernel_rfl) (by kernel_rfl) h

def f89.sh (Z : List PanicEntry → World → Prop) (x0 : Value) (w : World) (Q : Value → World → Prop) : Prop :=
 runX Tryz.prog Z (nilChk x0) w fun t1 w =>
 run1 Tryz.prog Z (Instr.fieldAt 39 t1 12) w fun t2 w =>
 run1 Tryz.prog Z (Instr.loadAt 2 t2) w fun t3 w =>
 run1 Tryz.prog Z (binOp .gtr 2 t3 (.int .i64 0)) w fun t4 w =>
 Q t4 w
def f89.an : An := (.sq .leaf (.sq .leaf .leaf))
theorem f89.calls {Z : List PanicEntry → World → Prop} {x0 : Value} {w : World} {Q : Value → World → Prop} (h : f89.sh Z x0 w Q) : CallV Tryz.prog Z 89 #[x0] w Q :=
 cl Tryz.func89 f89.an [x0] (by kernel_rfl) (by kernel_rfl) h

def f90.sh (Z : List PanicEntry → World → Prop) (x0 : Value) (w : World) (Q : Value → World → Prop) : Prop :=
 run1 Tryz.prog Z (Instr.box 35 x0) w fun t1 w =>
 run1 Tryz.prog Z (Instr.alloc 35 true (.tuple #[])) w fun t2 w =>
 run1 Tryz.prog Z (Instr.loadAt 35 t1) w fun t3 w =>
 run1 Tryz.prog Z (Instr.alloc 35 true (.tuple #[])) w fun t4 w =>
 run0 Tryz.prog Z (Instr.storeAt 35 t4 t3) w fun w =>
 run1 Tryz.prog Z (Instr.fieldAt 35 t1 2) w fun t5 w =>
 run1 Tryz.prog Z (Instr.loadAt 30 t5) w fun t6 w =>
 CallV Tryz.prog Z 35 #[t6] w fun t7 w =>
 run1 Tryz.prog Z (Instr.fieldAt 35 t4 2) w fun t8 w =>
 run0 Tryz.prog Z (Instr.storeAt 30 t8 t7) w fun w =>
 run1 Tryz.prog Z (Instr.fieldAt 35 t1 3) w fun t9 w =>
 run1 Tryz.prog Z (Instr.loadAt 31 t9) w fun t10 w =>
 CallV Tryz.prog Z 128 #[t10] w fun t11 w =>
 run1 Tryz.prog Z (Instr.fieldAt 35 t4 3) w fun t12 w =>
 run0 Tryz.prog Z (Instr.storeAt 31 t12 t11) w fun w =>
 run1 Tryz.prog Z (Instr.fieldAt 35 t1 9) w fun t13 w =>
 run1 Tryz.prog Z (Instr.loadAt 32 t13) w fun t14 w =>
 CallV Tryz.prog Z 129 #[t14] w fun t15 w =>
 run1 Tryz.prog Z (Instr.fieldAt 35 t4 9) w fun t16 w =>
 run0 Tryz.prog Z (Instr.storeAt 32 t16 t15) w fun w =>
 run1 Tryz.prog Z (Instr.fieldAt 35 t4 10) w fun t17 w =>
 run0 Tryz.prog Z (Instr.storeAt 33 t17 (.slice none 0 0)) w fun w =>
 ∃ J_18 : Nat → Value → World → Prop, (∃ m, J_18 m (.int .i64 0) w) ∧
 ∀ m_18, ∀ t19 : Value, ∀ w : World, J_18 m_18 t19 w → Env →
 run1 Tryz.prog Z (Instr.fieldAt 35 t1 10) w fun t20 w =>
 run1 Tryz.prog Z (Instr.loadAt 33 t20) w fun t21 w =>
 run1 Tryz.prog Z (Builtin.len_ #[33] 3 #[t21]) w fun t22 w =>
 run1 Tryz.prog Z (binOp .lss 3 t19 t22) w fun t23 w =>
 CondV t23 (
 Drawn w fun w =>
 Pure1 Tryz.prog (Instr.fieldAt 35 t4 10) fun t24 =>
 Read1 Tryz.prog (Instr.loadAt 33 t24) w fun t25 =>
 Pure1 Tryz.prog (Instr.fieldAt 35 t1 10) fun t26 =>
 Read1 Tryz.prog (Instr.loadAt 33 t26) w fun t27 =>
 Pure1 Tryz.prog (Instr.indexAt 33 t27 t19) fun t28 =>
 Read1 Tryz.prog (Instr.loadAt 35 t28) w fun t29 =>
 CallV Tryz.prog Z 90 #[t29] w fun t30 w =>
 Still Tryz.prog (nx (Instr.loadAt 33 t26)) t27 w <|
 Still Tryz.prog (nx (Instr.loadAt 33 t24)) t25 w <|
 run1 Tryz.prog Z (Instr.buildSlice 33 1 #[(0, t30)]) w fun t31 w =>
 Still Tryz.prog (nx (Instr.loadAt 33 t26)) t27 w <|
 Still Tryz.prog (nx (Instr.loadAt 33 t24)) t25 w <|
 run1 Tryz.prog Z (Builtin.append_ #[33, 33] 33 #[t25, t31]) w fun t32 w =>
 Still Tryz.prog (nx (Instr.loadAt 33 t26)) t27 w <|
 Pure1 Tryz.prog (Instr.fieldAt 35 t4 10) fun t33 =>
 run0 Tryz.prog Z (Instr.storeAt 33 t33 t32) w fun w =>
 run1 Tryz.prog Z (binOp .add 3 t19 (.int .i64 1)) w fun t34 w =>
 ∃ n_18, n_18 < m_18 ∧ J_18 n_18 t34 w) (
 run1 Tryz.prog Z (Instr.loadAt 35 t4) w fun t35 w =>
 run0 Tryz.prog Z (Instr.storeAt 35 t2 t35) w fun w =>
 ∃ r_36, (do loadVar 35 (← asAddr t2) : Sem Value).run Tryz.prog w = .ok r_36 w ∧
 Q r_36 w)
def f90.an : An := (.sq .leaf (.sq .leaf (.sq .leaf (.sq .leaf (.sq .leaf (.sq .leaf (.sq (.sq .leaf (.bl (.lp [4] (.sq (.sq .leaf (.cn .leaf .leaf)) (.sq (.bl (.dr (pl [0, 5, 8, 13, 16, 20, 25, 30, 34, 38, 40, 46] .fin))) .leaf))))) (.sq .leaf .leaf))))))))
theorem f90.calls {Z : List PanicEntry → World → Prop} {x0 : Value} {w : World} {Q : Value → World → Prop} (h : f90.sh Z x0 w Q) : CallV Tryz.prog Z 90 #[x0] w Q :=
 cl Tryz.func90 f90.an [x0] (by kernel_rfl) (by kernel_rfl) h

def f91.sh (Z : List PanicEntry → World → Prop) (x0 x1 : Value) (w : World) (Q : Value → World → Prop) : Prop :=
 CallV Tryz.prog Z 121 #[x0, x1] w fun t1 w =>
 run1 Tryz.prog Z (Instr.extract t1 0) w fun t2 w =>
 run1 Tryz.prog Z (Instr.extract t1 1) w fun t3 w =>
 run1 Tryz.prog Z (Op.unary .not t3) w fun t4 w =>
 CondV t4 (
 Q (.int .u64 0) w) (
 run1 Tryz.prog Z (Builtin.len_ #[30] 3 #[t2]) w fun t5 w =>
 ∃ J_6 : Nat → Value → Value → World → Prop, (∃ m, J_6 m (.int .u64 0) (.int .i64 0) w) ∧
 ∀ m_6, ∀ t7 : Value, ∀ t8 : Value, ∀ w : World, J_6 m_6 t7 t8 w → Env →
 run1 Tryz.prog Z (binOp .lss 3 t8 t5) w fun t9 w =>
 CondV t9 (
 run1 Tryz.prog Z (Instr.indexAt 30 t2 t8) w fun t10 w =>
 run1 Tryz.prog Z (Instr.loadAt 5 t10) w fun t11 w =>
 run1 Tryz.prog Z (binOp .shl 113 t7 (.int .u64 8)) w fun t12 w =>
 run1 Tryz.prog Z (convert 5 113 t11) w fun t13 w =>
 run1 Tryz.prog Z (binOp .or 113 t12 t13) w fun t14 w =>
 run1 Tryz.prog Z (binOp .add 3 t8 (.int .i64 1)) w fun t15 w =>
 ∃ n_6, n_6 < m_6 ∧ J_6 n_6 t14 t15 w) (
 runX Tryz.prog Z (nilChk x0) w fun t16 w =>
 run1 Tryz.prog Z (Instr.fieldAt 124 t16 1) w fun t17 w =>
 run1 Tryz.prog Z (Instr.loadAt 30 t17) w fun t18 w =>
 run1 Tryz.prog Z (Instr.sliceAt 30 t18 (some x1) none none) w fun t19 w =>
 runX Tryz.prog Z (nilChk x0) w fun t20 w =>
 run1 Tryz.prog Z (Instr.fieldAt 124 t20 1) w fun t21 w =>
 run0 Tryz.prog Z (Instr.storeAt 30 t21 t19) w fun w =>
 Q t7 w))
def f91.an : An := (.sq .leaf (.sq .leaf (.sq (.sq .leaf (.cn (.sq .leaf .leaf) .leaf)) (.sq .leaf (.sq (.sq .leaf (.bl (.lp [7, 20] (.sq .leaf (.sq (.cn .leaf .leaf) (.sq (.bl (.sq .leaf .leaf)) .leaf)))))) (.sq .leaf (.sq .leaf .leaf)))))))
theorem f91.calls {Z : List PanicEntry → World → Prop} {x0 x1 : Value} {w : World} {Q : Value → World → Prop} (h : f91.sh Z x0 x1 w Q) : CallV Tryz.prog Z 91 #[x0, x1] w Q :=
 cl Tryz.func91 f91.an [x0, x1] (by kernel_rfl) (by kernel_rfl) h

def f92.sh (Z : List PanicEntry → World → Prop) (x0 : Value) (w : World) (Q : Value → World → Prop) : Prop :=
 run1 Tryz.prog Z (eqOp .eql 102 false true x0 (.pointer none)) w fun t1 w =>
 guardW (t1) false (fun k => k (x0) w) (fun t2 w =>
 guardW (t1) false (fun k => runX Tryz.prog Z (nilChk t2) w k) (fun t3 w =>
 guardW (t1) false (fun k => run1 Tryz.prog Z (Instr.fieldAt 124 t3 0) w k) (fun t4 w =>
 guardW (t1) false (fun k => run1 Tryz.prog Z (Instr.loadAt 4 t4) w k) (fun t5 w =>
 guardW (t1) false (fun k => run1 Tryz.prog Z (Op.unary .not t5) w k) (fun t6 w =>
 run1 Tryz.prog Z (pickV t1 (.bool true) t6) w fun t7 w =>
 Q t7 w) w) w) w) w) w
def f92.an : An := (.sq .leaf (.sq .leaf .leaf))
theorem f92.calls {Z : List PanicEntry → World → Prop} {x0 : Value} {w : World} {Q : Value → World → Prop} (h : f92.sh Z x0 w Q) : CallV Tryz.prog Z 92 #[x0] w Q :=
 cl Tryz.func92 f92.an [x0] (by kernel_rfl) (by kernel_rfl) h

def f93.sh (Z : List PanicEntry → World → Prop) (x0 : Value) (w : World) (Q : Value → World → Prop) : Prop :=
 CallV Tryz.prog Z 92 #[x0] w fun t1 w =>
 run1 Tryz.prog Z (Op.unary .not t1) w fun t2 w =>
 guardW (t2) true (fun k => k (x0) w) (fun t3 w =>
 guardW (t2) true (fun k => runX Tryz.prog Z (nilChk t3) w k) (fun t4 w =>
 guardW (t2) true (fun k => run1 Tryz.prog Z (Instr.fieldAt 124 t4 2) w k) (fun t5 w =>
 guardW (t2) true (fun k => run1 Tryz.prog Z (Instr.loadAt 42 t5) w k) (fun t6 w =>
 guardW (t2) true (fun k => run1 Tryz.prog Z (eqOp .eql 42 false true t6 (.int .i64 0)) w k) (fun t7 w =>
 run1 Tryz.prog Z (pickV t2 t7 (.bool false)) w fun t8 w =>
 Q t8 w) w) w) w) w) w
def f93.an : An := (.sq .leaf (.sq .leaf .leaf))
theorem f93.calls {Z : List PanicEntry → World → Prop} {x0 : Value} {w : World} {Q : Value → World → Prop} (h : f93.sh Z x0 w Q) : CallV Tryz.prog Z 93 #[x0] w Q :=
 cl Tryz.func93 f93.an [x0] (by kernel_rfl) (by kernel_rfl) h

def f94.sh (Z : List PanicEntry → World → Prop) (x0 x1 : Value) (w : World) (Q : Value → World → Prop) : Prop :=
 run1 Tryz.prog Z (Builtin.len_ #[31] 3 #[x0]) w fun t1 w =>
 run1 Tryz.prog Z (Builtin.len_ #[31] 3 #[x1]) w fun t2 w =>
 run1 Tryz.prog Z (eqOp .neq 3 false false t1 t2) w fun t3 w =>
 CondV t3 (
 Q (.bool false) w) (
 ∃ J_4 : Nat → Value → World → Prop, (∃ m, J_4 m (.int .i64 0) w) ∧
 ∀ m_4, ∀ t5 : Value, ∀ w : World, J_4 m_4 t5 w → Env →
 run1 Tryz.prog Z (Builtin.len_ #[31] 3 #[x0]) w fun t6 w =>
 run1 Tryz.prog Z (binOp .lss 3 t5 t6) w fun t7 w =>
 CondV t7 (
 Drawn w fun w =>
 Pure1 Tryz.prog (Instr.indexAt 31 x0 t5) fun t8 =>
 Read1 Tryz.prog (Instr.loadAt 145 t8) w fun t9 =>
 Pure1 Tryz.prog (Instr.indexAt 31 x1 t5) fun t10 =>
 Read1 Tryz.prog (Instr.loadAt 145 t10) w fun t11 =>
 Pure1 Tryz.prog (eqOp .neq 145 false false t9 t11) fun t12 =>
 CondV t12 (
 Q (.bool false) w) (
 run1 Tryz.prog Z (binOp .add 3 t5 (.int .i64 1)) w fun t13 w =>
 ∃ n_4, n_4 < m_4 ∧ J_4 n_4 t13 w)) (
 Q (.bool true) w))
def f94.an : An := (.sq .leaf (.sq (.sq .leaf (.cn (.sq .leaf .leaf) .leaf)) (.sq (.sq .leaf (.bl (.lp [5] (.sq (.sq .leaf (.cn .leaf .leaf)) (.sq (.bl (.sq (.dr (pl [0, 4, 8, 13, 16, 20, 24, 29, 32] .fin)) (.cn (.sq .leaf .leaf) .leaf))) .leaf))))) (.sq .leaf .leaf))))
theorem f94.calls {Z : List PanicEntry → World → Prop} {x0 x1 : Value} {w : World} {Q : Value → World → Prop} (h : f94.sh Z x0 x1 w Q) : CallV Tryz.prog Z 94 #[x0, x1] w Q :=
 cl Tryz.func94 f94.an [x0, x1] (by kernel_rfl) (by kernel_rfl) h

def f95.sh (Z : List PanicEntry → World → Prop) (x0 x1 : Value) (w : World) (Q : Value → World → Prop) : Prop :=
 run1 Tryz.prog Z (Builtin.len_ #[32] 3 #[x0]) w fun t1 w =>
 run1 Tryz.prog Z (Builtin.len_ #[32] 3 #[x1]) w fun t2 w =>
 run1 Tryz.prog Z (eqOp .neq 3 false false t1 t2) w fun t3 w =>
 CondV t3 (
 Q (.bool false) w) (
 ∃ J_4 : Nat → Value → World → Prop, (∃ m, J_4 m (.int .i64 0) w) ∧
 ∀ m_4, ∀ t5 : Value, ∀ w : World, J_4 m_4 t5 w → Env →
 run1 Tryz.prog Z (Builtin.len_ #[32] 3 #[x0]) w fun t6 w =>
 run1 Tryz.prog Z (binOp .lss 3 t5 t6) w fun t7 w =>
 CondV t7 (
 Drawn w fun w =>
 Pure1 Tryz.prog (Instr.indexAt 32 x0 t5) fun t8 =>
 Read1 Tryz.prog (Instr.loadAt 143 t8) w fun t9 =>
 Pure1 Tryz.prog (Instr.indexAt 32 x1 t5) fun t10 =>
 Read1 Tryz.prog (Instr.loadAt 143 t10) w fun t11 =>
 Pure1 Tryz.prog (eqOp .neq 143 false false t9 t11) fun t12 =>
 CondV t12 (
 Q (.bool false) w) (
 run1 Tryz.prog Z (binOp .add 3 t5 (.int .i64 1)) w fun t13 w =>
 ∃ n_4, n_4 < m_4 ∧ J_4 n_4 t13 w)) (
 Q (.bool true) w))
def f95.an : An := (.sq .leaf (.sq (.sq .leaf (.cn (.sq .leaf .leaf) .leaf)) (.sq (.sq .leaf (.bl (.lp [5] (.sq (.sq .leaf (.cn .leaf .leaf)) (.sq (.bl (.sq (.dr (pl [0, 4, 8, 13, 16, 20, 24, 29, 32] .fin)) (.cn (.sq .leaf .leaf) .leaf))) .leaf))))) (.sq .leaf .leaf))))
theorem f95.calls {Z : List PanicEntry → World → Prop} {x0 x1 : Value} {w : World} {Q : Value → World → Prop} (h : f95.sh Z x0 x1 w Q) : CallV Tryz.prog Z 95 #[x0, x1] w Q :=
 cl Tryz.func95 f95.an [x0, x1] (by kernel_rfl) (by kernel_rfl) h

def f96.sh (Z : List PanicEntry → World → Prop) (x0 : Value) (w : World) (Q : Value → World → Prop) : Prop :=
 run1 Tryz.prog Z (Instr.box 35 x0) w fun t1 w =>
 run1 Tryz.prog Z (Instr.fieldAt 35 t1 0) w fun t2 w =>
 run1 Tryz.prog Z (Instr.loadAt 22 t2) w fun t3 w =>
 CallV Tryz.prog Z 130 #[t3] w fun t4 w =>
 run1 Tryz.prog Z (eqOp .eql 9 false true t4 (.string { data := #[] })) w fun t5 w =>
 CondV t5 (
 Q (.bool false) w) (
 run1 Tryz.prog Z (Instr.fieldAt 35 t1 1) w fun t6 w =>
 run1 Tryz.prog Z (Instr.loadAt 9 t6) w fun t7 w =>
 run1 Tryz.prog Z (eqOp .neq 9 false true t7 (.string { data := #[] })) w fun t8 w =>
 guardW (t8) true (fun k => k (t4) w) (fun t9 w =>
 guardW (t8) true (fun k => CallV Tryz.prog Z 131 #[t9, (.int .u8 112)] w k) (fun t10 w =>
 guardW (t8) true (fun k => run1 Tryz.prog Z (Op.unary .not t10) w k) (fun t11 w =>
 run1 Tryz.prog Z (pickV t8 t11 (.bool false)) w fun t12 w =>
 guardW (t12) false (fun k => run1 Tryz.prog Z (Instr.fieldAt 35 t1 1) w k) (fun t13 w =>
 guardW (t12) false (fun k => run1 Tryz.prog Z (Instr.loadAt 9 t13) w k) (fun t14 w =>
 guardW (t12) false (fun k => run1 Tryz.prog Z (Builtin.len_ #[9] 3 #[t14]) w k) (fun t15 w =>
 guardW (t12) false (fun k => run1 Tryz.prog Z (binOp .gtr 3 t15 (.int .i64 64)) w k) (fun t16 w =>
 run1 Tryz.prog Z (pickV t12 (.bool true) t16) w fun t17 w =>
 CondV t17 (
 Q (.bool false) w) (
 run1 Tryz.prog Z (Instr.fieldAt 35 t1 2) w fun t18 w =>
 run1 Tryz.prog Z (Instr.loadAt 30 t18) w fun t19 w =>
 run1 Tryz.prog Z (Builtin.len_ #[30] 3 #[t19]) w fun t20 w =>
 run1 Tryz.prog Z (eqOp .neq 3 false true t20 (.int .i64 0)) w fun t21 w =>
 guardW (t21) true (fun k => k (t4) w) (fun t22 w =>
 guardW (t21) true (fun k => CallV Tryz.prog Z 131 #[t22, (.int .u8 100)] w k) (fun t23 w =>
 guardW (t21) true (fun k => run1 Tryz.prog Z (Op.unary .not t23) w k) (fun t24 w =>
 run1 Tryz.prog Z (pickV t21 t24 (.bool false)) w fun t25 w =>
 guardW (t25) false (fun k => run1 Tryz.prog Z (Instr.fieldAt 35 t1 2) w k) (fun t26 w =>
 guardW (t25) false (fun k => run1 Tryz.prog Z (Instr.loadAt 30 t26) w k) (fun t27 w =>
 guardW (t25) false (fun k => run1 Tryz.prog Z (Builtin.len_ #[30] 3 #[t27]) w k) (fun t28 w =>
 guardW (t25) false (fun k => run1 Tryz.prog Z (binOp .gtr 3 t28 (.int .i64 96)) w k) (fun t29 w =>
 run1 Tryz.prog Z (pickV t25 (.bool true) t29) w fun t30 w =>
 CondV t30 (
 Q (.bool false) w) (
 run1 Tryz.prog Z (Instr.fieldAt 35 t1 3) w fun t31 w =>
 run1 Tryz.prog Z (Instr.loadAt 31 t31) w fun t32 w =>
 run1 Tryz.prog Z (Builtin.len_ #[31] 3 #[t32]) w fun t33 w =>
 run1 Tryz.prog Z (eqOp .neq 3 false true t33 (.int .i64 0)) w fun t34 w =>
 guardW (t34) true (fun k => k (t4) w) (fun t35 w =>
 guardW (t34) true (fun k => CallV Tryz.prog Z 131 #[t35, (.int .u8 97)] w k) (fun t36 w =>
 guardW (t34) true (fun k => run1 Tryz.prog Z (Op.unary .not t36) w k) (fun t37 w =>
 run1 Tryz.prog Z (pickV t34 t37 (.bool false)) w fun t38 w =>
 guardW (t38) false (fun k => run1 Tryz.prog Z (Instr.fieldAt 35 t1 3) w k) (fun t39 w =>
 guardW (t38) false (fun k => run1 Tryz.prog Z (Instr.loadAt 31 t39) w k) (fun t40 w =>
 guardW (t38) false (fun k => CallV Tryz.prog Z 132 #[t40] w k) (fun t41 w =>
 guardW (t38) false (fun k => run1 Tryz.prog Z (Op.unary .not t41) w k) (fun t42 w =>
 run1 Tryz.prog Z (pickV t38 (.bool true) t42) w fun t43 w =>
 CondV t43 (
 Q (.bool false) w) (
 run1 Tryz.prog Z (Instr.fieldAt 35 t1 4) w fun t44 w =>
 run1 Tryz.prog Z (Instr.loadAt 21 t44) w fun t45 w =>
 run1 Tryz.prog Z (eqOp .neq 21 false true t45 (.int .i32 0)) w fun t46 w =>
 guardW (t46) true (fun k => k (t4) w) (fun t47 w =>
 guardW (t46) true (fun k => CallV Tryz.prog Z 131 #[t47, (.int .u8 118)] w k) (fun t48 w =>
 guardW (t46) true (fun k => run1 Tryz.prog Z (Op.unary .not t48) w k) (fun t49 w =>
 run1 Tryz.prog Z (pickV t46 t49 (.bool false)) w fun t50 w =>
 CondV t50 (
 Q (.bool false) w) (
 run1 Tryz.prog Z (Instr.fieldAt 35 t1 5) w fun t51 w =>
 run1 Tryz.prog Z (Instr.loadAt 4 t51) w fun t52 w =>
 guardW (t52) false (fun k => run1 Tryz.prog Z (Instr.fieldAt 35 t1 6) w k) (fun t53 w =>
 guardW (t52) false (fun k => run1 Tryz.prog Z (Instr.loadAt 4 t53) w k) (fun t54 w =>
 run1 Tryz.prog Z (pickV t52 (.bool true) t54) w fun t55 w =>
 guardW (t55) true (fun k => k (t4) w) (fun t56 w =>
 guardW (t55) true (fun k => CallV Tryz.prog Z 131 #[t56, (.int .u8 102)] w k) (fun t57 w =>
 guardW (t55) true (fun k => run1 Tryz.prog Z (Op.unary .not t57) w k) (fun t58 w =>
 run1 Tryz.prog Z (pickV t55 t58 (.bool false)) w fun t59 w =>
 CondV t59 (
 Q (.bool false) w) (
 run1 Tryz.prog Z (Instr.fieldAt 35 t1 7) w fun t60 w =>
 run1 Tryz.prog Z (Instr.loadAt 2 t60) w fun t61 w =>
 run1 Tryz.prog Z (eqOp .neq 2 false true t61 (.int .i64 0)) w fun t62 w =>
 guardW (t62) true (fun k => k (t4) w) (fun t63 w =>
 guardW (t62) true (fun k => CallV Tryz.prog Z 131 #[t63, (.int .u8 115)] w k) (fun t64 w =>
 guardW (t62) true (fun k => run1 Tryz.prog Z (Op.unary .not t64) w k) (fun t65 w =>
 run1 Tryz.prog Z (pickV t62 t65 (.bool false)) w fun t66 w =>
 guardW (t66) false (fun k => run1 Tryz.prog Z (Instr.fieldAt 35 t1 7) w k) (fun t67 w =>
 guardW (t66) false (fun k => run1 Tryz.prog Z (Instr.loadAt 2 t67) w k) (fun t68 w =>
 guardW (t66) false (fun k => run1 Tryz.prog Z (binOp .lss 2 t68 (.int .i64 0)) w k) (fun t69 w =>
 run1 Tryz.prog Z (pickV t66 (.bool true) t69) w fun t70 w =>
 guardW (t70) false (fun k => run1 Tryz.prog Z (Instr.fieldAt 35 t1 0) w k) (fun t71 w =>
 guardW (t70) false (fun k => run1 Tryz.prog Z (Instr.loadAt 22 t71) w k) (fun t72 w =>
 guardW (t70) false (fun k => run1 Tryz.prog Z (eqOp .eql 22 false true t72 (.int .i8 8)) w k) (fun t73 w =>
 guardW (t70) false (fun k => k (t73) w) (fun t74 w =>
 guardW (t74) true (fun k => run1 Tryz.prog Z (Instr.fieldAt 35 t1 7) w k) (fun t75 w =>
 guardW (t74) true (fun k => run1 Tryz.prog Z (Instr.loadAt 2 t75) w k) (fun t76 w =>
 guardW (t74) true (fun k => run1 Tryz.prog Z (binOp .lss 2 t76 (.int .i64 1)) w k) (fun t77 w =>
 guardW (t70) false (fun k => run1 Tryz.prog Z (pickV t74 t77 (.bool false)) w k) (fun t78 w =>
 run1 Tryz.prog Z (pickV t70 (.bool true) t78) w fun t79 w =>
 CondV t79 (
 Q (.bool false) w) (
 CallV Tryz.prog Z 131 #[t4, (.int .u8 116)] w fun t80 w =>
 guardW (t80) true (fun k => run1 Tryz.prog Z (Instr.fieldAt 35 t1 8) w k) (fun t81 w =>
 guardW (t80) true (fun k => run1 Tryz.prog Z (Instr.loadAt 21 t81) w k) (fun t82 w =>
 guardW (t80) true (fun k => run1 Tryz.prog Z (binOp .lss 21 t82 (.int .i32 1)) w k) (fun t83 w =>
 guardW (t80) true (fun k => k (t83) w) (fun t84 w =>
 guardW (t84) false (fun k => run1 Tryz.prog Z (Instr.fieldAt 35 t1 8) w k) (fun t85 w =>
 guardW (t84) false (fun k => run1 Tryz.prog Z (Instr.loadAt 21 t85) w k) (fun t86 w =>
 guardW (t84) false (fun k => run1 Tryz.prog Z (binOp .gtr 21 t86 (.int .i32 1000)) w k) (fun t87 w =>
 guardW (t80) true (fun k => run1 Tryz.prog Z (pickV t84 (.bool true) t87) w k) (fun t88 w =>
 run1 Tryz.prog Z (pickV t80 t88 (.bool false)) w fun t89 w =>
 guardW (t89) false (fun k => k (t4) w) (fun t90 w =>
 guardW (t89) false (fun k => CallV Tryz.prog Z 131 #[t90, (.int .u8 116)] w k) (fun t91 w =>
 guardW (t89) false (fun k => run1 Tryz.prog Z (Op.unary .not t91) w k) (fun t92 w =>
 guardW (t89) false (fun k => k (t92) w) (fun t93 w =>
 guardW (t93) true (fun k => run1 Tryz.prog Z (Instr.fieldAt 35 t1 8) w k) (fun t94 w =>
 guardW (t93) true (fun k => run1 Tryz.prog Z (Instr.loadAt 21 t94) w k) (fun t95 w =>
 guardW (t93) true (fun k => run1 Tryz.prog Z (eqOp .neq 21 false true t95 (.int .i32 0)) w k) (fun t96 w =>
 guardW (t89) false (fun k => run1 Tryz.prog Z (pickV t93 t96 (.bool false)) w k) (fun t97 w =>
 run1 Tryz.prog Z (pickV t89 (.bool true) t97) w fun t98 w =>
 CondV t98 (
 Q (.bool false) w) (
 run1 Tryz.prog Z (Instr.fieldAt 35 t1 9) w fun t99 w =>
 run1 Tryz.prog Z (Instr.loadAt 32 t99) w fun t100 w =>
 run1 Tryz.prog Z (Builtin.len_ #[32] 3 #[t100]) w fun t101 w =>
 run1 Tryz.prog Z (eqOp .neq 3 false true t101 (.int .i64 0)) w fun t102 w =>
 guardW (t102) true (fun k => k (t4) w) (fun t103 w =>
 guardW (t102) true (fun k => CallV Tryz.prog Z 131 #[t103, (.int .u8 119)] w k) (fun t104 w =>
 guardW (t102) true (fun k => run1 Tryz.prog Z (Op.unary .not t104) w k) (fun t105 w =>
 run1 Tryz.prog Z (pickV t102 t105 (.bool false)) w fun t106 w =>
 guardW (t106) false (fun k => run1 Tryz.prog Z (Instr.fieldAt 35 t1 9) w k) (fun t107 w =>
 guardW (t106) false (fun k => run1 Tryz.prog Z (Instr.loadAt 32 t107) w k) (fun t108 w =>
 guardW (t106) false (fun k => CallV Tryz.prog Z 133 #[t108] w k) (fun t109 w =>
 guardW (t106) false (fun k => run1 Tryz.prog Z (Op.unary .not t109) w k) (fun t110 w =>
 run1 Tryz.prog Z (pickV t106 (.bool true) t110) w fun t111 w =>
 CondV t111 (
 Q (.bool false) w) (
 CallV Tryz.prog Z 131 #[t4, (.int .u8 111)] w fun t112 w =>
 CondV t112 (
 run1 Tryz.prog Z (Instr.fieldAt 35 t1 10) w fun t113 w =>
 run1 Tryz.prog Z (Instr.loadAt 33 t113) w fun t114 w =>
 run1 Tryz.prog Z (Builtin.len_ #[33] 3 #[t114]) w fun t115 w =>
 run1 Tryz.prog Z (binOp .geq 3 t115 (.int .i64 1)) w fun t116 w =>
 guardW (t116) true (fun k => run1 Tryz.prog Z (Instr.fieldAt 35 t1 10) w k) (fun t117 w =>
 guardW (t116) true (fun k => run1 Tryz.prog Z (Instr.loadAt 33 t117) w k) (fun t118 w =>
 guardW (t116) true (fun k => run1 Tryz.prog Z (Builtin.len_ #[33] 3 #[t118]) w k) (fun t119 w =>
 guardW (t116) true (fun k => run1 Tryz.prog Z (binOp .leq 3 t119 (.int .i64 8)) w k) (fun t120 w =>
 run1 Tryz.prog Z (pickV t116 t120 (.bool false)) w fun t121 w =>
 Q t121 w) w) w) w) w) (
 run1 Tryz.prog Z (Instr.fieldAt 35 t1 10) w fun t122 w =>
 run1 Tryz.prog Z (Instr.loadAt 33 t122) w fun t123 w =>
 run1 Tryz.prog Z (Builtin.len_ #[33] 3 #[t123]) w fun t124 w =>
 run1 Tryz.prog Z (eqOp .eql 3 false true t124 (.int .i64 0)) w fun t125 w =>
 Q t125 w))) w) w) w) w) w) w) w)) w) w) w) w) w) w) w) w) w) w) w) w) w) w) w) w)) w) w) w) w) w) w) w) w) w) w) w) w) w) w)) w) w) w) w) w)) w) w) w)) w) w) w) w) w) w) w)) w) w) w) w) w) w) w)) w) w) w) w) w) w) w)
def f96.an : An := (.sq .leaf (.sq .leaf (.sq (.sq .leaf (.cn (.sq .leaf .leaf) .leaf)) (.sq (.sq .leaf (.cn (.sq .leaf .leaf) .leaf)) (.sq (.sq .leaf (.cn (.sq .leaf .leaf) .leaf)) (.sq (.sq .leaf (.cn (.sq .leaf .leaf) .leaf)) (.sq (.sq .leaf (.cn (.sq .leaf .leaf) .leaf)) (.sq (.sq .leaf (.cn (.sq .leaf .leaf) .leaf)) (.sq (.sq .leaf (.cn (.sq .leaf .leaf) .leaf)) (.sq (.sq .leaf (.cn (.sq .leaf .leaf) .leaf)) (.sq (.sq .leaf (.cn (.sq .leaf .leaf) .leaf)) (.sq (.sq .leaf (.cn (.sq .leaf .leaf) .leaf)) (.sq .leaf .leaf)))))))))))))
theorem f96.calls {Z : List PanicEntry → World → Prop} {x0 : Value} {w : World} {Q : Value → World → Prop} (h : f96.sh Z x0 w Q) : CallV Tryz.prog Z 96 #[x0] w Q :=
 cl Tryz.func96 f96.an [x0] (by kernel_rfl) (by kernel_rfl) h

def f97.sh (Z : List PanicEntry → World → Prop) (x0 x1 : Value) (w : World) (Q : Value → World → Prop) : Prop :=
 run1 Tryz.prog Z (Instr.box 37 x0) w fun t1 w =>
 run1 Tryz.prog Z (Instr.box 37 x1) w fun t2 w =>
 run1 Tryz.prog Z (Instr.fieldAt 37 t1 0) w fun t3 w =>
 run1 Tryz.prog Z (Instr.loadAt 27 t3) w fun t4 w =>
 run1 Tryz.prog Z (Instr.fieldAt 37 t2 0) w fun t5 w =>
 run1 Tryz.prog Z (Instr.loadAt 27 t5) w fun t6 w =>
 run1 Tryz.prog Z (eqOp .eql 27 false false t4 t6) w fun t7 w =>
 guardW (t7) true (fun k => run1 Tryz.prog Z (Instr.fieldAt 37 t1 1) w k) (fun t8 w =>
 guardW (t7) true (fun k => run1 Tryz.prog Z (Instr.loadAt 29 t8) w k) (fun t9 w =>
 guardW (t7) true (fun k => run1 Tryz.prog Z (Instr.fieldAt 37 t2 1) w k) (fun t10 w =>
 guardW (t7) true (fun k => run1 Tryz.prog Z (Instr.loadAt 29 t10) w k) (fun t11 w =>
 guardW (t7) true (fun k => run1 Tryz.prog Z (eqOp .eql 29 false false t9 t11) w k) (fun t12 w =>
 run1 Tryz.prog Z (pickV t7 t12 (.bool false)) w fun t13 w =>
 guardW (t13) true (fun k => run1 Tryz.prog Z (Instr.fieldAt 37 t1 2) w k) (fun t14 w =>
 guardW (t13) true (fun k => run1 Tryz.prog Z (Instr.loadAt 35 t14) w k) (fun t15 w =>
 guardW (t13) true (fun k => run1 Tryz.prog Z (Instr.fieldAt 37 t2 2) w k) (fun t16 w =>
 guardW (t13) true (fun k => run1 Tryz.prog Z (Instr.loadAt 35 t16) w k) (fun t17 w =>
 guardW (t13) true (fun k => CallV Tryz.prog Z 134 #[t15, t17] w k) (fun t18 w =>
 run1 Tryz.prog Z (pickV t13 t18 (.bool false)) w fun t19 w =>
 Q t19 w) w) w) w) w) w) w) w) w) w) w
def f97.an : An := (.sq .leaf (.sq .leaf .leaf))
theorem f97.calls {Z : List PanicEntry → World → Prop} {x0 x1 : Value} {w : World} {Q : Value → World → Prop} (h : f97.sh Z x0 x1 w Q) : CallV Tryz.prog Z 97 #[x0, x1] w Q :=
 cl Tryz.func97 f97.an [x0, x1] (by kernel_rfl) (by kernel_rfl) h

def f98.sh (Z : List PanicEntry → World → Prop) (x0 x1 x2 : Value) (w : World) (Q : Value → World → Prop) : Prop :=
 run1 Tryz.prog Z (Instr.loadAt 3 x2) w fun t1 w =>
 run1 Tryz.prog Z (binOp .and 3 t1 x0) w fun t2 w =>
 run1 Tryz.prog Z (eqOp .eql 3 false true t2 (.int .i64 0)) w fun t3 w =>
 CondV t3 (
 runX Tryz.prog Z (callVal x1 #[]) w fun t4 w =>
 Q (Value.tuple #[]) w) (
 Q (Value.tuple #[]) w)
def f98.an : An := (.sq .leaf (.cn .leaf .leaf))
theorem f98.calls {Z : List PanicEntry → World → Prop} {x0 x1 x2 : Value} {w : World} {Q : Value → World → Prop} (h : f98.sh Z x0 x1 x2 w Q) : CallV Tryz.prog Z 98 #[x0, x1, x2] w Q :=
 cl Tryz.func98 f98.an [x0, x1, x2] (by kernel_rfl) (by kernel_rfl) h

def f99.sh (Z : List PanicEntry → World → Prop) (x0 x1 : Value) (w : World) (Q : Value → World → Prop) : Prop :=
 run1 Tryz.prog Z (Instr.fieldAt 39 x0 1) w fun t1 w =>
 run1 Tryz.prog Z (Instr.loadAt 25 t1) w fun t2 w =>
 run1 Tryz.prog Z (Instr.fieldAt 129 x1 0) w fun t3 w =>
 run0 Tryz.prog Z (Instr.storeAt 25 t3 t2) w fun w =>
 Q (Value.tuple #[]) w
def f99.an : An := .leaf
theorem f99.calls {Z : List PanicEntry → World → Prop} {x0 x1 : Value} {w : World} {Q : Value → World → Prop} (h : f99.sh Z x0 x1 w Q) : CallV Tryz.prog Z 99 #[x0, x1] w Q :=
 cl Tryz.func99 f99.an [x0, x1] (by kernel_rfl) (by kernel_rfl) h

def f100.sh (Z : List PanicEntry → World → Prop) (x0 x1 : Value) (w : World) (Q : Value → World → Prop) : Prop :=
 run1 Tryz.prog Z (Instr.fieldAt 39 x0 2) w fun t1 w =>
 run1 Tryz.prog Z (Instr.loadAt 25 t1) w fun t2 w =>
 run1 Tryz.prog Z (Instr.fieldAt 129 x1 1) w fun t3 w =>
 run0 Tryz.prog Z (Instr.storeAt 25 t3 t2) w fun w =>
 Q (Value.tuple #[]) w
def f100.an : An := .leaf
theorem f100.calls {Z : List PanicEntry → World → Prop} {x0 x1 : Value} {w : World} {Q : Value → World → Prop} (h : f100.sh Z x0 x1 w Q) : CallV Tryz.prog Z 100 #[x0, x1] w Q :=
 cl Tryz.func100 f100.an [x0, x1] (by kernel_rfl) (by kernel_rfl) h

def f101.sh (Z : List PanicEntry → World → Prop) (x0 x1 : Value) (w : World) (Q : Value → World → Prop) : Prop :=
 run1 Tryz.prog Z (Instr.fieldAt 39 x0 3) w fun t1 w =>
 run1 Tryz.prog Z (Instr.loadAt 2 t1) w fun t2 w =>
 run1 Tryz.prog Z (Instr.fieldAt 129 x1 2) w fun t3 w =>
 run0 Tryz.prog Z (Instr.storeAt 2 t3 t2) w fun w =>
 Q (Value.tuple #[]) w
def f101.an : An := .leaf
theorem f101.calls {Z : List PanicEntry → World → Prop} {x0 x1 : Value} {w : World} {Q : Value → World → Prop} (h : f101.sh Z x0 x1 w Q) : CallV Tryz.prog Z 101 #[x0, x1] w Q :=
 cl Tryz.func101 f101.an [x0, x1] (by kernel_rfl) (by kernel_rfl) h

def f102.sh (Z : List PanicEntry → World → Prop) (x0 x1 : Value) (w : World) (Q : Value → World → Prop) : Prop :=
 run1 Tryz.prog Z (Instr.fieldAt 39 x0 12) w fun t1 w =>
 run1 Tryz.prog Z (Instr.loadAt 2 t1) w fun t2 w =>
 run1 Tryz.prog Z (Instr.fieldAt 129 x1 3) w fun t3 w =>
 run0 Tryz.prog Z (Instr.storeAt 2 t3 t2) w fun w =>
 Q (Value.tuple #[]) w
def f102.an : An := .leaf
theorem f102.calls {Z : List PanicEntry → World → Prop} {x0 x1 : Value} {w : World} {Q : Value → World → Prop} (h : f102.sh Z x0 x1 w Q) : CallV Tryz.prog Z 102 #[x0, x1] w Q :=
 cl Tryz.func102 f102.an [x0, x1] (by kernel_rfl) (by kernel_rfl) h

def f103.sh (Z : List PanicEntry → World → Prop) (x0 x1 : Value) (w : World) (Q : Value → World → Prop) : Prop :=
 run1 Tryz.prog Z (Instr.fieldAt 39 x0 4) w fun t1 w =>
 run1 Tryz.prog Z (Instr.loadAt 23 t1) w fun t2 w =>
 run1 Tryz.prog Z (Instr.fieldAt 129 x1 4) w fun t3 w =>
 run0 Tryz.prog Z (Instr.storeAt 23 t3 t2) w fun w =>
 Q (Value.tuple #[]) w
def f103.an : An := .leaf
theorem f103.calls {Z : List PanicEntry → World → Prop} {x0 x1 : Value} {w : World} {Q : Value → World → Prop} (h : f103.sh Z x0 x1 w Q) : CallV Tryz.prog Z 103 #[x0, x1] w Q :=
 cl Tryz.func103 f103.an [x0, x1] (by kernel_rfl) (by kernel_rfl) h

def f104.sh (Z : List PanicEntry → World → Prop) (x0 x1 : Value) (w : World) (Q : Value → World → Prop) : Prop :=
 run1 Tryz.prog Z (Instr.fieldAt 39 x0 5) w fun t1 w =>
 run1 Tryz.prog Z (Instr.loadAt 23 t1) w fun t2 w =>
 run1 Tryz.prog Z (Instr.fieldAt 129 x1 5) w fun t3 w =>
 run0 Tryz.prog Z (Instr.storeAt 23 t3 t2) w fun w =>
 Q (Value.tuple #[]) w
def f104.an : An := .leaf
theorem f104.calls {Z : List PanicEntry → World → Prop} {x0 x1 : Value} {w : World} {Q : Value → World → Prop} (h : f104.sh Z x0 x1 w Q) : CallV Tryz.prog Z 104 #[x0, x1] w Q :=
 cl Tryz.func104 f104.an [x0, x1] (by kernel_rfl) (by kernel_rfl) h

def f105.sh (Z : List PanicEntry → World → Prop) (x0 x1 : Value) (w : World) (Q : Value → World → Prop) : Prop :=
 run1 Tryz.prog Z (Instr.fieldAt 39 x0 6) w fun t1 w =>
 run1 Tryz.prog Z (Instr.loadAt 27 t1) w fun t2 w =>
 run1 Tryz.prog Z (Instr.fieldAt 129 x1 6) w fun t3 w =>
 run0 Tryz.prog Z (Instr.storeAt 27 t3 t2) w fun w =>
 Q (Value.tuple #[]) w
def f105.an : An := .leaf
theorem f105.calls {Z : List PanicEntry → World → Prop} {x0 x1 : Value} {w : World} {Q : Value → World → Prop} (h : f105.sh Z x0 x1 w Q) : CallV Tryz.prog Z 105 #[x0, x1] w Q :=
 cl Tryz.func105 f105.an [x0, x1] (by kernel_rfl) (by kernel_rfl) h

def f106.sh (Z : List PanicEntry → World → Prop) (x0 x1 : Value) (w : World) (Q : Value → World → Prop) : Prop :=
 run1 Tryz.prog Z (Instr.fieldAt 39 x0 7) w fun t1 w =>
 run1 Tryz.prog Z (Instr.loadAt 27 t1) w fun t2 w =>
 run1 Tryz.prog Z (Instr.fieldAt 129 x1 7) w fun t3 w =>
 run0 Tryz.prog Z (Instr.storeAt 27 t3 t2) w fun w =>
 Q (Value.tuple #[]) w
def f106.an : An := .leaf
theorem f106.calls {Z : List PanicEntry → World → Prop} {x0 x1 : Value} {w : World} {Q : Value → World → Prop} (h : f106.sh Z x0 x1 w Q) : CallV Tryz.prog Z 106 #[x0, x1] w Q :=
 cl Tryz.func106 f106.an [x0, x1] (by kernel_rfl) (by kernel_rfl) h

def f107.sh (Z : List PanicEntry → World → Prop) (x0 x1 : Value) (w : World) (Q : Value → World → Prop) : Prop :=
 run1 Tryz.prog Z (Instr.fieldAt 39 x0 8) w fun t1 w =>
 run1 Tryz.prog Z (Instr.loadAt 4 t1) w fun t2 w =>
 run1 Tryz.prog Z (Instr.fieldAt 129 x1 8) w fun t3 w =>
 run0 Tryz.prog Z (Instr.storeAt 4 t3 t2) w fun w =>
 Q (Value.tuple #[]) w
def f107.an : An := .leaf
theorem f107.calls {Z : List PanicEntry → World → Prop} {x0 x1 : Value} {w : World} {Q : Value → World → Prop} (h : f107.sh Z x0 x1 w Q) : CallV Tryz.prog Z 107 #[x0, x1] w Q :=
 cl Tryz.func107 f107.an [x0, x1] (by kernel_rfl) (by kernel_rfl) h

def f108.sh (Z : List PanicEntry → World → Prop) (x0 x1 : Value) (w : World) (Q : Value → World → Prop) : Prop :=
 run1 Tryz.prog Z (Instr.fieldAt 39 x0 9) w fun t1 w =>
 run1 Tryz.prog Z (Instr.loadAt 4 t1) w fun t2 w =>
 run1 Tryz.prog Z (Instr.fieldAt 129 x1 9) w fun t3 w =>
 run0 Tryz.prog Z (Instr.storeAt 4 t3 t2) w fun w =>
 Q (Value.tuple #[]) w
def f108.an : An := .leaf
theorem f108.calls {Z : List PanicEntry → World → Prop} {x0 x1 : Value} {w : World} {Q : Value → World → Prop} (h : f108.sh Z x0 x1 w Q) : CallV Tryz.prog Z 108 #[x0, x1] w Q :=
 cl Tryz.func108 f108.an [x0, x1] (by kernel_rfl) (by kernel_rfl) h

def f109.sh (Z : List PanicEntry → World → Prop) (x0 x1 : Value) (w : World) (Q : Value → World → Prop) : Prop :=
 runX Tryz.prog Z (nilChk x1) w fun t1 w =>
 run1 Tryz.prog Z (Instr.fieldAt 39 t1 1) w fun t2 w =>
 run1 Tryz.prog Z (Instr.loadAt 25 t2) w fun t3 w =>
 CallV Tryz.prog Z 110 #[x0, t3] w fun t4 w =>
 Q (Value.tuple #[]) w
def f109.an : An := .leaf
theorem f109.calls {Z : List PanicEntry → World → Prop} {x0 x1 : Value} {w : World} {Q : Value → World → Prop} (h : f109.sh Z x0 x1 w Q) : CallV Tryz.prog Z 109 #[x0, x1] w Q :=
 cl Tryz.func109 f109.an [x0, x1] (by kernel_rfl) (by kernel_rfl) h

def f110.sh (Z : List PanicEntry → World → Prop) (x0 x1 : Value) (w : World) (Q : Value → World → Prop) : Prop :=
 run1 Tryz.prog Z (Instr.box 25 x1) w fun t1 w =>
 run1 Tryz.prog Z (Instr.fieldAt 25 t1 0) w fun t2 w =>
 run1 Tryz.prog Z (Instr.loadAt 23 t2) w fun t3 w =>
 CallV Tryz.prog Z 31 #[x0, t3] w fun t4 w =>
 run1 Tryz.prog Z (Instr.fieldAt 25 t1 1) w fun t5 w =>
 run1 Tryz.prog Z (Instr.loadAt 23 t5) w fun t6 w =>
 CallV Tryz.prog Z 31 #[x0, t6] w fun t7 w =>
 Q (Value.tuple #[]) w
def f110.an : An := (.sq .leaf (.sq .leaf .leaf))
theorem f110.calls {Z : List PanicEntry → World → Prop} {x0 x1 : Value} {w : World} {Q : Value → World → Prop} (h : f110.sh Z x0 x1 w Q) : CallV Tryz.prog Z 110 #[x0, x1] w Q :=
 cl Tryz.func110 f110.an [x0, x1] (by kernel_rfl) (by kernel_rfl) h

def f111.sh (Z : List PanicEntry → World → Prop) (x0 x1 : Value) (w : World) (Q : Value → World → Prop) : Prop :=
 CallV Tryz.prog Z 112 #[x0] w fun t1 w =>
 runX Tryz.prog Z (nilChk x1) w fun t2 w =>
 run1 Tryz.prog Z (Instr.fieldAt 39 t2 1) w fun t3 w =>
 run0 Tryz.prog Z (Instr.storeAt 25 t3 t1) w fun w =>
 Q (Value.tuple #[]) w
def f111.an : An := .leaf
theorem f111.calls {Z : List PanicEntry → World → Prop} {x0 x1 : Value} {w : World} {Q : Value → World → Prop} (h : f111.sh Z x0 x1 w Q) : CallV Tryz.prog Z 111 #[x0, x1] w Q :=
 cl Tryz.func111 f111.an [x0, x1] (by kernel_rfl) (by kernel_rfl) h

def f112.sh (Z : List PanicEntry → World → Prop) (x0 : Value) (w : World) (Q : Value → World → Prop) : Prop :=
 run1 Tryz.prog Z (Instr.alloc 25 true (.tuple #[])) w fun t1 w =>
 CallV Tryz.prog Z 45 #[x0] w fun t2 w =>
 CallV Tryz.prog Z 45 #[x0] w fun t3 w =>
 run1 Tryz.prog Z (Instr.build 25 #[(0, t2), (1, t3)]) w fun t4 w =>
 run0 Tryz.prog Z (Instr.storeAt 25 t1 t4) w fun w =>
 ∃ r_5, (do loadVar 25 (← asAddr t1) : Sem Value).run Tryz.prog w = .ok r_5 w ∧
 Q r_5 w
def f112.an : An := (.sq .leaf (.sq .leaf .leaf))
theorem f112.calls {Z : List PanicEntry → World → Prop} {x0 : Value} {w : World} {Q : Value → World → Prop} (h : f112.sh Z x0 w Q) : CallV Tryz.prog Z 112 #[x0] w Q :=
 cl Tryz.func112 f112.an [x0] (by kernel_rfl) (by kernel_rfl) h

def f113.sh (Z : List PanicEntry → World → Prop) (x0 : Value) (w : World) (Q : Value → World → Prop) : Prop :=
 runX Tryz.prog Z (nilChk x0) w fun t1 w =>
 run1 Tryz.prog Z (Instr.fieldAt 39 t1 1) w fun t2 w =>
 run1 Tryz.prog Z (Instr.loadAt 25 t2) w fun t3 w =>
 CallV Tryz.prog Z 114 #[t3] w fun t4 w =>
 Q t4 w
def f113.an : An := (.sq .leaf (.sq .leaf .leaf))
theorem f113.calls {Z : List PanicEntry → World → Prop} {x0 : Value} {w : World} {Q : Value → World → Prop} (h : f113.sh Z x0 w Q) : CallV Tryz.prog Z 113 #[x0] w Q :=
 cl Tryz.func113 f113.an [x0] (by kernel_rfl) (by kernel_rfl) h

def f114.sh (Z : List PanicEntry → World → Prop) (x0 : Value) (w : World) (Q : Value → World → Prop) : Prop :=
 run1 Tryz.prog Z (Instr.box 25 x0) w fun t1 w =>
 run1 Tryz.prog Z (Instr.fieldAt 25 t1 0) w fun t2 w =>
 run1 Tryz.prog Z (Instr.loadAt 23 t2) w fun t3 w =>
 run1 Tryz.prog Z (binOp .gtr 23 t3 (.int .u32 0)) w fun t4 w =>
 guardW (t4) true (fun k => run1 Tryz.prog Z (Instr.fieldAt 25 t1 1) w k) (fun t5 w =>
 guardW (t4) true (fun k => run1 Tryz.prog Z (Instr.loadAt 23 t5) w k) (fun t6 w =>
 guardW (t4) true (fun k => run1 Tryz.prog Z (binOp .gtr 23 t6 (.int .u32 0)) w k) (fun t7 w =>
 run1 Tryz.prog Z (pickV t4 t7 (.bool false)) w fun t8 w =>
 Q t8 w) w) w) w
def f114.an : An := (.sq .leaf (.sq .leaf .leaf))
theorem f114.calls {Z : List PanicEntry → World → Prop} {x0 : Value} {w : World} {Q : Value → World → Prop} (h : f114.sh Z x0 w Q) : CallV Tryz.prog Z 114 #[x0] w Q :=
 cl Tryz.func114 f114.an [x0] (by kernel_rfl) (by kernel_rfl) h

def f115.sh (Z : List PanicEntry → World → Prop) (x0 x1 : Value) (w : World) (Q : Value → World → Prop) : Prop :=
 runX Tryz.prog Z (nilChk x1) w fun t1 w =>
 run1 Tryz.prog Z (Instr.fieldAt 39 t1 2) w fun t2 w =>
 run1 Tryz.prog Z (Instr.loadAt 25 t2) w fun t3 w =>
 CallV Tryz.prog Z 110 #[x0, t3] w fun t4 w =>
 Q (Value.tuple #[]) w
def f115.an : An := .leaf
theorem f115.calls {Z : List PanicEntry → World → Prop} {x0 x1 : Value} {w : World} {Q : Value → World → Prop} (h : f115.sh Z x0 x1 w Q) : CallV Tryz.prog Z 115 #[x0, x1] w Q :=
 cl Tryz.func115 f115.an [x0, x1] (by kernel_rfl) (by kernel_rfl) h

def f116.sh (Z : List PanicEntry → World → Prop) (x0 x1 : Value) (w : World) (Q : Value → World → Prop) : Prop :=
 CallV Tryz.prog Z 112 #[x0] w fun t1 w =>
 runX Tryz.prog Z (nilChk x1) w fun t2 w =>
 run1 Tryz.prog Z (Instr.fieldAt 39 t2 2) w fun t3 w =>
 run0 Tryz.prog Z (Instr.storeAt 25 t3 t1) w fun w =>
 Q (Value.tuple #[]) w
def f116.an : An := .leaf
theorem f116.calls {Z : List PanicEntry → World → Prop} {x0 x1 : Value} {w : World} {Q : Value → World → Prop} (h : f116.sh Z x0 x1 w Q) : CallV Tryz.prog Z 116 #[x0, x1] w Q :=
 cl Tryz.func116 f116.an [x0, x1] (by kernel_rfl) (by kernel_rfl) h

def f117.sh (Z : List PanicEntry → World → Prop) (x0 : Value) (w : World) (Q : Value → World → Prop) : Prop :=
 runX Tryz.prog Z (nilChk x0) w fun t1 w =>
 run1 Tryz.prog Z (Instr.fieldAt 39 t1 2) w fun t2 w =>
 run1 Tryz.prog Z (Instr.loadAt 25 t2) w fun t3 w =>
 CallV Tryz.prog Z 114 #[t3] w fun t4 w =>
 Q t4 w
def f117.an : An := (.sq .leaf (.sq .leaf .leaf))
theorem f117.calls {Z : List PanicEntry → World → Prop} {x0 : Value} {w : World} {Q : Value → World → Prop} (h : f117.sh Z x0 w Q) : CallV Tryz.prog Z 117 #[x0] w Q :=
 cl Tryz.func117 f117.an [x0] (by kernel_rfl) (by kernel_rfl) h

def f118.sh (Z : List PanicEntry → World → Prop) (x0 x1 : Value) (w : World) (Q : Value → World → Prop) : Prop :=
 runX Tryz.prog Z (nilChk x1) w fun t1 w =>
 run1 Tryz.prog Z (Instr.fieldAt 39 t1 3) w fun t2 w =>
 run1 Tryz.prog Z (Instr.loadAt 2 t2) w fun t3 w =>
 CallV Tryz.prog Z 86 #[x0, t3] w fun t4 w =>
 Q (Value.tuple #[]) w
def f118.an : An := .leaf
theorem f118.calls {Z : List PanicEntry → World → Prop} {x0 x1 : Value} {w : World} {Q : Value → World → Prop} (h : f118.sh Z x0 x1 w Q) : CallV Tryz.prog Z 118 #[x0, x1] w Q :=
 cl Tryz.func118 f118.an [x0, x1] (by kernel_rfl) (by kernel_rfl) h

def f119.sh (Z : List PanicEntry → World → Prop) (x0 x1 : Value) (w : World) (Q : Value → World → Prop) : Prop :=
 CallV Tryz.prog Z 88 #[x0] w fun t1 w =>
 runX Tryz.prog Z (nilChk x1) w fun t2 w =>
 run1 Tryz.prog Z (Instr.fieldAt 39 t2 3) w fun t3 w =>
 run0 Tryz.prog Z (Instr.storeAt 2 t3 t1) w fun w =>
 Q (Value.tuple #[]) w
def f119.an : An := .leaf
theorem f119.calls {Z : List PanicEntry → World → Prop} {x0 x1 : Value} {w : World} {Q : Value → World → Prop} (h : f119.sh Z x0 x1 w Q) : CallV Tryz.prog Z 119 #[x0, x1] w Q :=
 cl Tryz.func119 f119.an [x0, x1] (by kernel_rfl) (by kernel_rfl) h

def f120.sh (Z : List PanicEntry → World → Prop) (x0 : Value) (w : World) (Q : Value → World → Prop) : Prop :=
 runX Tryz.prog Z (nilChk x0) w fun t1 w =>
 run1 Tryz.prog Z (Instr.fieldAt 39 t1 3) w fun t2 w =>
 run1 Tryz.prog Z (Instr.loadAt 2 t2) w fun t3 w =>
 run1 Tryz.prog Z (binOp .geq 2 t3 (.int .i64 0)) w fun t4 w =>
 Q t4 w
def f120.an : An := (.sq .leaf (.sq .leaf .leaf))
theorem f120.calls {Z : List PanicEntry → World → Prop} {x0 : Value} {w : World} {Q : Value → World → Prop} (h : f120.sh Z x0 w Q) : CallV Tryz.prog Z 120 #[x0] w Q :=
 cl Tryz.func120 f120.an [x0] (by kernel_rfl) (by kernel_rfl) h

def f121.sh (Z : List PanicEntry → World → Prop) (x0 x1 : Value) (w : World) (Q : Value → World → Prop) : Prop :=
 CallV Tryz.prog Z 93 #[x0] w fun t1 w =>
 run1 Tryz.prog Z (Op.unary .not t1) w fun t2 w =>
 CondV t2 (
 Q (Value.tuple #[(.slice none 0 0), (.bool false)]) w) (
 runX Tryz.prog Z (nilChk x0) w fun t3 w =>
 run1 Tryz.prog Z (Instr.fieldAt 124 t3 1) w fun t4 w =>
 run1 Tryz.prog Z (Instr.loadAt 30 t4) w fun t5 w =>
 run1 Tryz.prog Z (Builtin.len_ #[30] 3 #[t5]) w fun t6 w =>
 run1 Tryz.prog Z (binOp .lss 3 t6 x1) w fun t7 w =>
 CondV t7 (
 runX Tryz.prog Z (nilChk x0) w fun t8 w =>
 run1 Tryz.prog Z (Instr.fieldAt 124 t8 2) w fun t9 w =>
 run0 Tryz.prog Z (Instr.storeAt 42 t9 (.int .i64 10)) w fun w =>
 Q (Value.tuple #[(.slice none 0 0), (.bool false)]) w) (
 runX Tryz.prog Z (nilChk x0) w fun t10 w =>
 run1 Tryz.prog Z (Instr.fieldAt 124 t10 1) w fun t11 w =>
 run1 Tryz.prog Z (Instr.loadAt 30 t11) w fun t12 w =>
 run1 Tryz.prog Z (Instr.sliceAt 30 t12 none (some x1) (some x1)) w fun t13 w =>
 Q (Value.tuple #[t13, (.bool true)]) w))
def f121.an : An := (.sq .leaf (.sq (.sq .leaf (.cn (.sq .leaf .leaf) .leaf)) (.sq (.sq .leaf (.cn (.sq .leaf (.sq .leaf .leaf)) .leaf)) (.sq .leaf .leaf))))
theorem f121.calls {Z : List PanicEntry → World → Prop} {x0 x1 : Value} {w : World} {Q : Value → World → Prop} (h : f121.sh Z x0 x1 w Q) : CallV Tryz.prog Z 121 #[x0, x1] w Q :=
 cl Tryz.func121 f121.an [x0, x1] (by kernel_rfl) (by kernel_rfl) h

def f122.sh (Z : List PanicEntry → World → Prop) (x0 : Value) (w : World) (Q : Value → World → Prop) : Prop :=
 run1 Tryz.prog Z (Instr.box 37 x0) w fun t1 w =>
 run1 Tryz.prog Z (Instr.loadAt 37 t1) w fun t2 w =>
 CallV Tryz.prog Z 124 #[t2] w fun t3 w =>
 run1 Tryz.prog Z (eqOp .neq 42 false true t3 (.int .i64 0)) w fun t4 w =>
 CondV t4 (
 Q (Value.tuple #[(.slice none 0 0), (.int .i64 40)]) w) (
 run1 Tryz.prog Z (Instr.build 75 #[]) w fun t5 w =>
 run1 Tryz.prog Z (Instr.box 75 t5) w fun t6 w =>
 run1 Tryz.prog Z (Instr.fieldAt 37 t1 0) w fun t7 w =>
 run1 Tryz.prog Z (Instr.fieldAt 27 t7 0) w fun t8 w =>
 run1 Tryz.prog Z (Instr.loadAt 23 t8) w fun t9 w =>
 CallV Tryz.prog Z 31 #[t6, t9] w fun t10 w =>
 run1 Tryz.prog Z (Instr.fieldAt 37 t1 0) w fun t11 w =>
 run1 Tryz.prog Z (Instr.fieldAt 27 t11 1) w fun t12 w =>
 run1 Tryz.prog Z (Instr.loadAt 23 t12) w fun t13 w =>
 CallV Tryz.prog Z 31 #[t6, t13] w fun t14 w =>
 run1 Tryz.prog Z (Instr.fieldAt 37 t1 1) w fun t15 w =>
 run1 Tryz.prog Z (Instr.fieldAt 29 t15 0) w fun t16 w =>
 run1 Tryz.prog Z (Instr.loadAt 22 t16) w fun t17 w =>
 CallV Tryz.prog Z 28 #[t6, t17] w fun t18 w =>
 run1 Tryz.prog Z (Instr.fieldAt 37 t1 1) w fun t19 w =>
 run1 Tryz.prog Z (Instr.fieldAt 29 t19 1) w fun t20 w =>
 run1 Tryz.prog Z (Instr.loadAt 23 t20) w fun t21 w =>
 CallV Tryz.prog Z 31 #[t6, t21] w fun t22 w =>
 run1 Tryz.prog Z (Instr.fieldAt 37 t1 1) w fun t23 w =>
 run1 Tryz.prog Z (Instr.fieldAt 29 t23 2) w fun t24 w =>
 run1 Tryz.prog Z (Instr.loadAt 2 t24) w fun t25 w =>
 CallV Tryz.prog Z 86 #[t6, t25] w fun t26 w =>
 run1 Tryz.prog Z (Instr.build 149 #[]) w fun t27 w =>
 run1 Tryz.prog Z (Instr.fieldAt 37 t1 2) w fun t28 w =>
 run1 Tryz.prog Z (Instr.loadAt 35 t28) w fun t29 w =>
 CallV Tryz.prog Z 135 #[t27, t6, t29] w fun t30 w =>
 CallV Tryz.prog Z 30 #[t6] w fun t31 w =>
 Q (Value.tuple #[t31, (.int .i64 0)]) w)
def f122.an : An := (.sq .leaf (.sq (.sq .leaf (.cn (.sq .leaf .leaf) .leaf)) (.sq .leaf (.sq .leaf (.sq .leaf (.sq .leaf (.sq .leaf (.sq .leaf (.sq .leaf (.sq .leaf .leaf))))))))))
theorem f122.calls {Z : List PanicEntry → World → Prop} {x0 : Value} {w : World} {Q : Value → World → Prop} (h : f122.sh Z x0 w Q) : CallV Tryz.prog Z 122 #[x0] w Q :=
 cl Tryz.func122 f122.an [x0] (by kernel_rfl) (by kernel_rfl) h

def f123.sh (Z : List PanicEntry → World → Prop) (x0 : Value) (w : World) (Q : Value → World → Prop) : Prop :=
 run1 Tryz.prog Z (Instr.alloc 37 true (.tuple #[])) w fun t1 w =>
 CallV Tryz.prog Z 44 #[x0] w fun t2 w =>
 run1 Tryz.prog Z (Instr.alloc 37 true (.tuple #[])) w fun t3 w =>
 CallV Tryz.prog Z 45 #[t2] w fun t4 w =>
 run1 Tryz.prog Z (Instr.fieldAt 37 t3 0) w fun t5 w =>
 run1 Tryz.prog Z (Instr.fieldAt 27 t5 0) w fun t6 w =>
 run0 Tryz.prog Z (Instr.storeAt 23 t6 t4) w fun w =>
 CallV Tryz.prog Z 45 #[t2] w fun t7 w =>
 run1 Tryz.prog Z (Instr.fieldAt 37 t3 0) w fun t8 w =>
 run1 Tryz.prog Z (Instr.fieldAt 27 t8 1) w fun t9 w =>
 run0 Tryz.prog Z (Instr.storeAt 23 t9 t7) w fun w =>
 CallV Tryz.prog Z 47 #[t2] w fun t10 w =>
 run1 Tryz.prog Z (Instr.fieldAt 37 t3 1) w fun t11 w =>
 run1 Tryz.prog Z (Instr.fieldAt 29 t11 0) w fun t12 w =>
 run0 Tryz.prog Z (Instr.storeAt 22 t12 t10) w fun w =>
 CallV Tryz.prog Z 45 #[t2] w fun t13 w =>
 run1 Tryz.prog Z (Instr.fieldAt 37 t3 1) w fun t14 w =>
 run1 Tryz.prog Z (Instr.fieldAt 29 t14 1) w fun t15 w =>
 run0 Tryz.prog Z (Instr.storeAt 23 t15 t13) w fun w =>
 CallV Tryz.prog Z 88 #[t2] w fun t16 w =>
 run1 Tryz.prog Z (Instr.fieldAt 37 t3 1) w fun t17 w =>
 run1 Tryz.prog Z (Instr.fieldAt 29 t17 2) w fun t18 w =>
 run0 Tryz.prog Z (Instr.storeAt 2 t18 t16) w fun w =>
 run1 Tryz.prog Z (Instr.build 149 #[]) w fun t19 w =>
 CallV Tryz.prog Z 136 #[t19, t2] w fun t20 w =>
 run1 Tryz.prog Z (Instr.fieldAt 37 t3 2) w fun t21 w =>
 run0 Tryz.prog Z (Instr.storeAt 35 t21 t20) w fun w =>
 CallV Tryz.prog Z 48 #[t2] w fun t22 w =>
 run1 Tryz.prog Z (eqOp .neq 42 false true t22 (.int .i64 0)) w fun t23 w =>
 guardW (t23) false (fun k => run1 Tryz.prog Z (Instr.loadAt 37 t3) w k) (fun t24 w =>
 guardW (t23) false (fun k => CallV Tryz.prog Z 124 #[t24] w k) (fun t25 w =>
 guardW (t23) false (fun k => run1 Tryz.prog Z (eqOp .neq 42 false true t25 (.int .i64 0)) w k) (fun t26 w =>
 run1 Tryz.prog Z (pickV t23 (.bool true) t26) w fun t27 w =>
 CondV t27 (
 run1 Tryz.prog Z (Instr.build 37 #[]) w fun t28 w =>
 run0 Tryz.prog Z (Instr.storeAt 37 t1 t28) w fun w =>
 ∃ r_29, (do loadVar 37 (← asAddr t1) : Sem Value).run Tryz.prog w = .ok r_29 w ∧
 Q (Value.tuple #[r_29, (.int .i64 40)]) w) (
 run1 Tryz.prog Z (Instr.loadAt 37 t3) w fun t30 w =>
 run0 Tryz.prog Z (Instr.storeAt 37 t1 t30) w fun w =>
 ∃ r_31, (do loadVar 37 (← asAddr t1) : Sem Value).run Tryz.prog w = .ok r_31 w ∧
 Q (Value.tuple #[r_31, (.int .i64 0)]) w)) w) w) w
def f123.an : An := (.sq .leaf (.sq .leaf (.sq .leaf (.sq .leaf (.sq .leaf (.sq .leaf (.sq .leaf (.sq .leaf (.sq .leaf (.sq (.sq .leaf (.cn (.sq .leaf .leaf) .leaf)) (.sq .leaf .leaf)))))))))))
theorem f123.calls {Z : List PanicEntry → World → Prop} {x0 : Value} {w : World} {Q : Value → World → Prop} (h : f123.sh Z x0 w Q) : CallV Tryz.prog Z 123 #[x0] w Q :=
 cl Tryz.func123 f123.an [x0] (by kernel_rfl) (by kernel_rfl) h

def f124.sh (Z : List PanicEntry → World → Prop) (x0 : Value) (w : World) (Q : Value → World → Prop) : Prop :=
 run1 Tryz.prog Z (Instr.box 37 x0) w fun t1 w =>
 run1 Tryz.prog Z (Instr.fieldAt 37 t1 0) w fun t2 w =>
 run1 Tryz.prog Z (Instr.loadAt 27 t2) w fun t3 w =>
 run1 Tryz.prog Z (Instr.alloc 27 true (.tuple #[])) w fun t4 w =>
 run0 Tryz.prog Z (Instr.storeAt 27 t4 t3) w fun w =>
 run1 Tryz.prog Z (Instr.fieldAt 27 t4 0) w fun t5 w =>
 run1 Tryz.prog Z (Instr.loadAt 23 t5) w fun t6 w =>
 run1 Tryz.prog Z (binOp .geq 23 t6 (.int .u32 1)) w fun t7 w =>
 guardW (t7) true (fun k => run1 Tryz.prog Z (Instr.fieldAt 27 t4 0) w k) (fun t8 w =>
 guardW (t7) true (fun k => run1 Tryz.prog Z (Instr.loadAt 23 t8) w k) (fun t9 w =>
 guardW (t7) true (fun k => run1 Tryz.prog Z (binOp .leq 23 t9 (.int .u32 2147483647)) w k) (fun t10 w =>
 run1 Tryz.prog Z (pickV t7 t10 (.bool false)) w fun t11 w =>
 guardW (t11) true (fun k => run1 Tryz.prog Z (Instr.fieldAt 27 t4 1) w k) (fun t12 w =>
 guardW (t11) true (fun k => run1 Tryz.prog Z (Instr.loadAt 23 t12) w k) (fun t13 w =>
 guardW (t11) true (fun k => run1 Tryz.prog Z (binOp .geq 23 t13 (.int .u32 1)) w k) (fun t14 w =>
 run1 Tryz.prog Z (pickV t11 t14 (.bool false)) w fun t15 w =>
 run1 Tryz.prog Z (Instr.loadAt 27 t4) w fun t16 w =>
 run1 Tryz.prog Z (Instr.build 27 #[]) w fun t17 w =>
 run1 Tryz.prog Z (eqOp .neq 27 false false t16 t17) w fun t18 w =>
 guardW (t18) true (fun k => k (t15) w) (fun t19 w =>
 guardW (t18) true (fun k => run1 Tryz.prog Z (Op.unary .not t19) w k) (fun t20 w =>
 run1 Tryz.prog Z (pickV t18 t20 (.bool false)) w fun t21 w =>
 CondV t21 (
 Q (.int .i64 40) w) (
 run1 Tryz.prog Z (Instr.fieldAt 37 t1 1) w fun t22 w =>
 run1 Tryz.prog Z (Instr.fieldAt 29 t22 0) w fun t23 w =>
 run1 Tryz.prog Z (Instr.loadAt 22 t23) w fun t24 w =>
 run1 Tryz.prog Z (binOp .lss 22 t24 (.int .i8 0)) w fun t25 w =>
 guardW (t25) false (fun k => run1 Tryz.prog Z (Instr.fieldAt 37 t1 1) w k) (fun t26 w =>
 guardW (t25) false (fun k => run1 Tryz.prog Z (Instr.fieldAt 29 t26 0) w k) (fun t27 w =>
 guardW (t25) false (fun k => run1 Tryz.prog Z (Instr.loadAt 22 t27) w k) (fun t28 w =>
 guardW (t25) false (fun k => run1 Tryz.prog Z (binOp .geq 22 t28 (.int .i8 7)) w k) (fun t29 w =>
 run1 Tryz.prog Z (pickV t25 (.bool true) t29) w fun t30 w =>
 guardW (t30) false (fun k => run1 Tryz.prog Z (Instr.fieldAt 37 t1 1) w k) (fun t31 w =>
 guardW (t30) false (fun k => run1 Tryz.prog Z (Instr.fieldAt 29 t31 2) w k) (fun t32 w =>
 guardW (t30) false (fun k => run1 Tryz.prog Z (Instr.loadAt 2 t32) w k) (fun t33 w =>
 guardW (t30) false (fun k => run1 Tryz.prog Z (binOp .lss 2 t33 (.int .i64 0)) w k) (fun t34 w =>
 run1 Tryz.prog Z (pickV t30 (.bool true) t34) w fun t35 w =>
 CondV t35 (
 Q (.int .i64 40) w) (
 run1 Tryz.prog Z (Instr.fieldAt 37 t1 2) w fun t36 w =>
 run1 Tryz.prog Z (Instr.fieldAt 35 t36 0) w fun t37 w =>
 run1 Tryz.prog Z (Instr.loadAt 22 t37) w fun t38 w =>
 run1 Tryz.prog Z (binOp .gtr 22 t38 (.int .i8 8)) w fun t39 w =>
 CondV t39 (
 Q (.int .i64 40) w) (
 run1 Tryz.prog Z (Instr.fieldAt 37 t1 2) w fun t40 w =>
 run1 Tryz.prog Z (Instr.loadAt 35 t40) w fun t41 w =>
 CallV Tryz.prog Z 137 #[t41] w fun t42 w =>
 Q t42 w))) w) w) w) w) w) w) w) w)) w) w) w) w) w) w) w) w
def f124.an : An := (.sq .leaf (.sq .leaf (.sq .leaf (.sq (.bl (.sq .leaf (.cn (.sq .leaf .leaf) (.sq .leaf (.cn (.sq .leaf .leaf) (.sq .leaf (.cn (.sq .leaf .leaf) .leaf))))))) (.sq .leaf .leaf)))))
theorem f124.calls {Z : List PanicEntry → World → Prop} {x0 : Value} {w : World} {Q : Value → World → Prop} (h : f124.sh Z x0 w Q) : CallV Tryz.prog Z 124 #[x0] w Q :=
 cl Tryz.func124 f124.an [x0] (by kernel_rfl) (by kernel_rfl) h

def f125.sh (Z : List PanicEntry → World → Prop) (x0 x1 : Value) (w : World) (Q : Value → World → Prop) : Prop :=
 run1 Tryz.prog Z (Instr.box 27 x0) w fun t1 w =>
 run1 Tryz.prog Z (Instr.box 27 x1) w fun t2 w =>
 Drawn w fun w =>
 Pure1 Tryz.prog (Instr.fieldAt 27 t1 0) fun t3 =>
 Read1 Tryz.prog (Instr.loadAt 23 t3) w fun t4 =>
 Pure1 Tryz.prog (Instr.fieldAt 27 t2 0) fun t5 =>
 Read1 Tryz.prog (Instr.loadAt 23 t5) w fun t6 =>
 Pure1 Tryz.prog (Instr.fieldAt 27 t1 1) fun t7 =>
 Read1 Tryz.prog (Instr.loadAt 23 t7) w fun t8 =>
 Pure1 Tryz.prog (Instr.fieldAt 27 t2 1) fun t9 =>
 Read1 Tryz.prog (Instr.loadAt 23 t9) w fun t10 =>
 CallV Tryz.prog Z 139 #[t4, t6] w fun t11 w =>
 Still Tryz.prog (nx (Instr.loadAt 23 t9)) t10 w <|
 Still Tryz.prog (nx (Instr.loadAt 23 t7)) t8 w <|
 CallV Tryz.prog Z 139 #[t8, t10] w fun t12 w =>
 run1 Tryz.prog Z (Instr.buildSlice 171 2 #[(0, t11), (1, t12)]) w fun t13 w =>
 CallV Tryz.prog Z 138 #[t13] w fun t14 w =>
 Q t14 w
def f125.an : An := (.sq .leaf (.sq (.dr (pl [0, 5, 8, 13, 20, 25, 28, 33, 18, 38, 42, 46, 48] .fin)) .leaf))
theorem f125.calls {Z : List PanicEntry → World → Prop} {x0 x1 : Value} {w : World} {Q : Value → World → Prop} (h : f125.sh Z x0 x1 w Q) : CallV Tryz.prog Z 125 #[x0, x1] w Q :=
 cl Tryz.func125 f125.an [x0, x1] (by kernel_rfl) (by kernel_rfl) h

def f126.sh (Z : List PanicEntry → World → Prop) (x0 x1 : Value) (w : World) (Q : Value → World → Prop) : Prop :=
 run1 Tryz.prog Z (convert 21 113 x1) w fun t1 w =>
 CallV Tryz.prog Z 53 #[x0, t1, (.int .i64 4)] w fun t2 w =>
 Q (Value.tuple #[]) w
def f126.an : An := .leaf
theorem f126.calls {Z : List PanicEntry → World → Prop} {x0 x1 : Value} {w : World} {Q : Value → World → Prop} (h : f126.sh Z x0 x1 w Q) : CallV Tryz.prog Z 126 #[x0, x1] w Q :=
 cl Tryz.func126 f126.an [x0, x1] (by kernel_rfl) (by kernel_rfl) h

def f127.sh (Z : List PanicEntry → World → Prop) (x0 x1 : Value) (w : World) (Q : Value → World → Prop) : Prop :=
 CallV Tryz.prog Z 140 #[x0] w fun t1 w =>
 CallV Tryz.prog Z 141 #[x0] w fun t2 w =>
 run1 Tryz.prog Z (convert 21 3 t2) w fun t3 w =>
 CallV Tryz.prog Z 93 #[x0] w fun t4 w =>
 run1 Tryz.prog Z (Op.unary .not t4) w fun t5 w =>
 CondV t5 (
 Q (.slice none 0 0) w) (
 run1 Tryz.prog Z (binOp .lss 3 t3 (.int .i64 0)) w fun t6 w =>
 guardW (t6) false (fun k => k (t3) w) (fun t7 w =>
 guardW (t6) false (fun k => k (x1) w) (fun t8 w =>
 guardW (t6) false (fun k => run1 Tryz.prog Z (binOp .gtr 3 t7 t8) w k) (fun t9 w =>
 run1 Tryz.prog Z (pickV t6 (.bool true) t9) w fun t10 w =>
 CondV t10 (
 CallV Tryz.prog Z 142 #[x0, t1, (.int .i64 11)] w fun t11 w =>
 Q (.slice none 0 0) w) (
 CallV Tryz.prog Z 121 #[x0, t3] w fun t12 w =>
 run1 Tryz.prog Z (Instr.extract t12 0) w fun t13 w =>
 run1 Tryz.prog Z (Instr.extract t12 1) w fun t14 w =>
 run1 Tryz.prog Z (Op.unary .not t14) w fun t15 w =>
 CondV t15 (
 CallV Tryz.prog Z 142 #[x0, t1, (.int .i64 10)] w fun t16 w =>
 Q (.slice none 0 0) w) (
 runX Tryz.prog Z (nilChk x0) w fun t17 w =>
 run1 Tryz.prog Z (Instr.fieldAt 124 t17 1) w fun t18 w =>
 run1 Tryz.prog Z (Instr.loadAt 30 t18) w fun t19 w =>
 run1 Tryz.prog Z (Instr.sliceAt 30 t19 (some t3) none none) w fun t20 w =>
 runX Tryz.prog Z (nilChk x0) w fun t21 w =>
 run1 Tryz.prog Z (Instr.fieldAt 124 t21 1) w fun t22 w =>
 run0 Tryz.prog Z (Instr.storeAt 30 t22 t20) w fun w =>
 Q t13 w))) w) w) w)
def f127.an : An := (.sq .leaf (.sq .leaf (.sq .leaf (.sq (.sq .leaf (.cn (.sq .leaf .leaf) .leaf)) (.sq (.sq .leaf (.cn (.sq .leaf (.sq .leaf .leaf)) .leaf)) (.sq .leaf (.sq (.sq .leaf (.cn (.sq .leaf (.sq .leaf .leaf)) .leaf)) (.sq .leaf (.sq .leaf .leaf)))))))))
theorem f127.calls {Z : List PanicEntry → World → Prop} {x0 x1 : Value} {w : World} {Q : Value → World → Prop} (h : f127.sh Z x0 x1 w Q) : CallV Tryz.prog Z 127 #[x0, x1] w Q :=
 cl Tryz.func127 f127.an [x0, x1] (by kernel_rfl) (by kernel_rfl) h

def f128.sh (Z : List PanicEntry → World → Prop) (x0 : Value) (w : World) (Q : Value → World → Prop) : Prop :=
 ∃ J_1 : Nat → Value → Value → World → Prop, (∃ m, J_1 m (.slice none 0 0) (.int .i64 0) w) ∧
 ∀ m_1, ∀ t2 : Value, ∀ t3 : Value, ∀ w : World, J_1 m_1 t2 t3 w → Env →
 run1 Tryz.prog Z (Builtin.len_ #[31] 3 #[x0]) w fun t4 w =>
 run1 Tryz.prog Z (binOp .lss 3 t3 t4) w fun t5 w =>
 CondV t5 (
 run1 Tryz.prog Z (Instr.indexAt 31 x0 t3) w fun t6 w =>
 run1 Tryz.prog Z (Instr.loadAt 145 t6) w fun t7 w =>
 run1 Tryz.prog Z (Instr.buildSlice 31 1 #[(0, t7)]) w fun t8 w =>
 run1 Tryz.prog Z (Builtin.append_ #[31, 31] 31 #[t2, t8]) w fun t9 w =>
 run1 Tryz.prog Z (binOp .add 3 t3 (.int .i64 1)) w fun t10 w =>
 ∃ n_1, n_1 < m_1 ∧ J_1 n_1 t9 t10 w) (
 Q t2 w)
def f128.an : An := (.sq .leaf (.sq .leaf (.sq (.sq .leaf (.bl (.lp [3, 4] (.sq (.sq .leaf (.cn .leaf .leaf)) (.sq (.bl .leaf) .leaf))))) (.sq .leaf .leaf))))
theorem f128.calls {Z : List PanicEntry → World → Prop} {x0 : Value} {w : World} {Q : Value → World → Prop} (h : f128.sh Z x0 w Q) : CallV Tryz.prog Z 128 #[x0] w Q :=
 cl Tryz.func128 f128.an [x0] (by kernel_rfl) (by kernel_rfl) h

def f129.sh (Z : List PanicEntry → World → Prop) (x0 : Value) (w : World) (Q : Value → World → Prop) : Prop :=
 ∃ J_1 : Nat → Value → Value → World → Prop, (∃ m, J_1 m (.slice none 0 0) (.int .i64 0) w) ∧
 ∀ m_1, ∀ t2 : Value, ∀ t3 : Value, ∀ w : World, J_1 m_1 t2 t3 w → Env →
 run1 Tryz.prog Z (Builtin.len_ #[32] 3 #[x0]) w fun t4 w =>
 run1 Tryz.prog Z (binOp .lss 3 t3 t4) w fun t5 w =>
 CondV t5 (
 run1 Tryz.prog Z (Instr.indexAt 32 x0 t3) w fun t6 w =>
 run1 Tryz.prog Z (Instr.loadAt 143 t6) w fun t7 w =>
 run1 Tryz.prog Z (Instr.buildSlice 32 1 #[(0, t7)]) w fun t8 w =>
 run1 Tryz.prog Z (Builtin.append_ #[32, 32] 32 #[t2, t8]) w fun t9 w =>
 run1 Tryz.prog Z (binOp .add 3 t3 (.int .i64 1)) w fun t10 w =>
 ∃ n_1, n_1 < m_1 ∧ J_1 n_1 t9 t10 w) (
 Q t2 w)
def f129.an : An := (.sq .leaf (.sq .leaf (.sq (.sq .leaf (.bl (.lp [3, 4] (.sq (.sq .leaf (.cn .leaf .leaf)) (.sq (.bl .leaf) .leaf))))) (.sq .leaf .leaf))))
theorem f129.calls {Z : List PanicEntry → World → Prop} {x0 : Value} {w : World} {Q : Value → World → Prop} (h : f129.sh Z x0 w Q) : CallV Tryz.prog Z 129 #[x0] w Q :=
 cl Tryz.func129 f129.an [x0] (by kernel_rfl) (by kernel_rfl) h

def f130.sh (Z : List PanicEntry → World → Prop) (x0 : Value) (w : World) (Q : Value → World → Prop) : Prop :=
 ∀ j_1 : World → Prop, (∀ w : World, (Env →
 Q (.string { data := #[] }) w) →
 j_1 w) →
 run1 Tryz.prog Z (eqOp .eql 22 false true x0 (.int .i8 1)) w fun t2 w =>
 CondV t2 (
 Q (.string { data := #[112, 100, 97, 102, 115, 119] }) w) (
 ∀ j_3 : Value → World → Prop, (∀ t4 : Value, ∀ w : World, (Env →
 CondV t4 (
 Q (.string { data := #[112, 118, 115, 119] }) w) (
 run1 Tryz.prog Z (eqOp .eql 22 false true x0 (.int .i8 3)) w fun t5 w =>
 CondV t5 (
 Q (.string { data := #[112, 100, 118, 115, 119] }) w) (
 run1 Tryz.prog Z (eqOp .eql 22 false true x0 (.int .i8 4)) w fun t6 w =>
 CondV t6 (
 Q (.string { data := #[112, 97, 118, 115, 119] }) w) (
 run1 Tryz.prog Z (eqOp .eql 22 false true x0 (.int .i8 6)) w fun t7 w =>
 CondV t7 (
 Q (.string { data := #[115, 119, 111] }) w) (
 run1 Tryz.prog Z (eqOp .eql 22 false true x0 (.int .i8 7)) w fun t8 w =>
 CondV t8 (
 Q (.string { data := #[116] }) w) (
 run1 Tryz.prog Z (eqOp .eql 22 false true x0 (.int .i8 8)) w fun t9 w =>
 CondV t9 (
 Q (.string { data := #[115] }) w) (
 ∀ j_10 : Value → World → Prop, (∀ t11 : Value, ∀ w : World, (Env →
 CondV t11 (
 Q (.string { data := #[112, 115, 119] }) w) (
 j_1 w)) →
 j_10 t11 w) →
 run1 Tryz.prog Z (eqOp .eql 22 false true x0 (.int .i8 9)) w fun t12 w =>
 CondV t12 (
 j_10 t12 w) (
 run1 Tryz.prog Z (eqOp .eql 22 false true x0 (.int .i8 10)) w fun t13 w =>
 CondV t13 (
 j_10 t13 w) (
 run1 Tryz.prog Z (eqOp .eql 22 false true x0 (.int .i8 11)) w fun t14 w =>
 CondV t14 (
 j_10 t14 w) (
 run1 Tryz.prog Z (eqOp .eql 22 false true x0 (.int .i8 12)) w fun t15 w =>
 j_10 t15 w)))))))))) →
 j_3 t4 w) →
 run1 Tryz.prog Z (eqOp .eql 22 false true x0 (.int .i8 2)) w fun t16 w =>
 CondV t16 (
 j_3 t16 w) (
 run1 Tryz.prog Z (eqOp .eql 22 false true x0 (.int .i8 5)) w fun t17 w =>
 j_3 t17 w))
def f130.an : An := (.sq .leaf (.sj [] (.sq .leaf (.bl (.sq .leaf (.cn (.sq .leaf .leaf) (.sj [6] (.sq .leaf (.cn .leaf .leaf)) (.cn (.sq .leaf .leaf) (.sq .leaf (.cn (.sq .leaf .leaf) (.sq .leaf (.cn (.sq .leaf .leaf) (.sq .leaf (.cn (.sq .leaf .leaf) (.sq .leaf (.cn (.sq .leaf .leaf) (.sq .leaf (.cn (.sq .leaf .leaf) (.sj [19] (.sq .leaf (.cn .leaf (.sq .leaf (.cn .leaf (.sq .leaf (.cn .leaf .leaf)))))) (.cn (.sq .leaf .leaf) .leaf)))))))))))))))))) (.sq .leaf .leaf)))
theorem f130.calls {Z : List PanicEntry → World → Prop} {x0 : Value} {w : World} {Q : Value → World → Prop} (h : f130.sh Z x0 w Q) : CallV Tryz.prog Z 130 #[x0] w Q :=
 cl Tryz.func130 f130.an [x0] (by kernel_rfl) (by kernel_rfl) h

def f131.sh (Z : List PanicEntry → World → Prop) (x0 x1 : Value) (w : World) (Q : Value → World → Prop) : Prop :=
 ∃ J_1 : Nat → Value → World → Prop, (∃ m, J_1 m (.int .i64 0) w) ∧
 ∀ m_1, ∀ t2 : Value, ∀ w : World, J_1 m_1 t2 w → Env →
 run1 Tryz.prog Z (Builtin.len_ #[9] 3 #[x0]) w fun t3 w =>
 run1 Tryz.prog Z (binOp .lss 3 t2 t3) w fun t4 w =>
 CondV t4 (
 run1 Tryz.prog Z (Instr.index 9 x0 t2) w fun t5 w =>
 run1 Tryz.prog Z (eqOp .eql 5 false false t5 x1) w fun t6 w =>
 CondV t6 (
 Q (.bool true) w) (
 run1 Tryz.prog Z (binOp .add 3 t2 (.int .i64 1)) w fun t7 w =>
 ∃ n_1, n_1 < m_1 ∧ J_1 n_1 t7 w)) (
 Q (.bool false) w)
def f131.an : An := (.sq .leaf (.sq (.sq .leaf (.bl (.lp [5] (.sq (.sq .leaf (.cn .leaf .leaf)) (.sq (.bl (.sq .leaf (.cn (.sq .leaf .leaf) .leaf))) .leaf))))) (.sq .leaf .leaf)))
theorem f131.calls {Z : List PanicEntry → World → Prop} {x0 x1 : Value} {w : World} {Q : Value → World → Prop} (h : f131.sh Z x0 x1 w Q) : CallV Tryz.prog Z 131 #[x0, x1] w Q :=
 cl Tryz.func131 f131.an [x0, x1] (by kernel_rfl) (by kernel_rfl) h

def f132.sh (Z : List PanicEntry → World → Prop) (x0 : Value) (w : World) (Q : Value → World → Prop) : Prop :=
 ∃ J_1 : Nat → Value → World → Prop, (∃ m, J_1 m (.int .i64 0) w) ∧
 ∀ m_1, ∀ t2 : Value, ∀ w : World, J_1 m_1 t2 w → Env →
 run1 Tryz.prog Z (Builtin.len_ #[31] 3 #[x0]) w fun t3 w =>
 run1 Tryz.prog Z (binOp .lss 3 t2 t3) w fun t4 w =>
 CondV t4 (
 run1 Tryz.prog Z (Instr.indexAt 31 x0 t2) w fun t5 w =>
 run1 Tryz.prog Z (Instr.fieldAt 145 t5 1) w fun t6 w =>
 run1 Tryz.prog Z (Instr.fieldAt 143 t6 0) w fun t7 w =>
 run1 Tryz.prog Z (Instr.loadAt 9 t7) w fun t8 w =>
 run1 Tryz.prog Z (Builtin.len_ #[9] 3 #[t8]) w fun t9 w =>
 run1 Tryz.prog Z (binOp .gtr 3 t9 (.int .i64 24)) w fun t10 w =>
 guardW (t10) false (fun k => k (x0) w) (fun t11 w =>
 guardW (t10) false (fun k => k (t2) w) (fun t12 w =>
 guardW (t10) false (fun k => run1 Tryz.prog Z (Instr.indexAt 31 t11 t12) w k) (fun t13 w =>
 guardW (t10) false (fun k => run1 Tryz.prog Z (Instr.fieldAt 145 t13 1) w k) (fun t14 w =>
 guardW (t10) false (fun k => run1 Tryz.prog Z (Instr.fieldAt 143 t14 1) w k) (fun t15 w =>
 guardW (t10) false (fun k => run1 Tryz.prog Z (Instr.loadAt 9 t15) w k) (fun t16 w =>
 guardW (t10) false (fun k => run1 Tryz.prog Z (Builtin.len_ #[9] 3 #[t16]) w k) (fun t17 w =>
 guardW (t10) false (fun k => run1 Tryz.prog Z (binOp .gtr 3 t17 (.int .i64 24)) w k) (fun t18 w =>
 run1 Tryz.prog Z (pickV t10 (.bool true) t18) w fun t19 w =>
 CondV t19 (
 Q (.bool false) w) (
 run1 Tryz.prog Z (binOp .add 3 t2 (.int .i64 1)) w fun t20 w =>
 ∃ n_1, n_1 < m_1 ∧ J_1 n_1 t20 w)) w) w) w) w) w) w) w) w) (
 run1 Tryz.prog Z (Builtin.len_ #[31] 3 #[x0]) w fun t21 w =>
 run1 Tryz.prog Z (binOp .leq 3 t21 (.int .i64 4)) w fun t22 w =>
 Q t22 w)
def f132.an : An := (.sq .leaf (.sq (.sq .leaf (.bl (.lp [3] (.sq (.sq .leaf (.cn .leaf .leaf)) (.sq (.bl (.sq .leaf (.cn (.sq .leaf .leaf) .leaf))) .leaf))))) (.sq .leaf .leaf)))
theorem f132.calls {Z : List PanicEntry → World → Prop} {x0 : Value} {w : World} {Q : Value → World → Prop} (h : f132.sh Z x0 w Q) : CallV Tryz.prog Z 132 #[x0] w Q :=
 cl Tryz.func132 f132.an [x0] (by kernel_rfl) (by kernel_rfl) h

def f133.sh (Z : List PanicEntry → World → Prop) (x0 : Value) (w : World) (Q : Value → World → Prop) : Prop :=
 ∃ J_1 : Nat → Value → World → Prop, (∃ m, J_1 m (.int .i64 0) w) ∧
 ∀ m_1, ∀ t2 : Value, ∀ w : World, J_1 m_1 t2 w → Env →
 run1 Tryz.prog Z (Builtin.len_ #[32] 3 #[x0]) w fun t3 w =>
 run1 Tryz.prog Z (binOp .lss 3 t2 t3) w fun t4 w =>
 CondV t4 (
 run1 Tryz.prog Z (Instr.indexAt 32 x0 t2) w fun t5 w =>
 run1 Tryz.prog Z (Instr.fieldAt 143 t5 0) w fun t6 w =>
 run1 Tryz.prog Z (Instr.loadAt 9 t6) w fun t7 w =>
 run1 Tryz.prog Z (Builtin.len_ #[9] 3 #[t7]) w fun t8 w =>
 run1 Tryz.prog Z (binOp .gtr 3 t8 (.int .i64 24)) w fun t9 w =>
 guardW (t9) false (fun k => k (x0) w) (fun t10 w =>
 guardW (t9) false (fun k => k (t2) w) (fun t11 w =>
 guardW (t9) false (fun k => run1 Tryz.prog Z (Instr.indexAt 32 t10 t11) w k) (fun t12 w =>
 guardW (t9) false (fun k => run1 Tryz.prog Z (Instr.fieldAt 143 t12 1) w k) (fun t13 w =>
 guardW (t9) false (fun k => run1 Tryz.prog Z (Instr.loadAt 9 t13) w k) (fun t14 w =>
 guardW (t9) false (fun k => run1 Tryz.prog Z (Builtin.len_ #[9] 3 #[t14]) w k) (fun t15 w =>
 guardW (t9) false (fun k => run1 Tryz.prog Z (binOp .gtr 3 t15 (.int .i64 24)) w k) (fun t16 w =>
 run1 Tryz.prog Z (pickV t9 (.bool true) t16) w fun t17 w =>
 CondV t17 (
 Q (.bool false) w) (
 run1 Tryz.prog Z (binOp .add 3 t2 (.int .i64 1)) w fun t18 w =>
 ∃ n_1, n_1 < m_1 ∧ J_1 n_1 t18 w)) w) w) w) w) w) w) w) (
 run1 Tryz.prog Z (Builtin.len_ #[32] 3 #[x0]) w fun t19 w =>
 run1 Tryz.prog Z (binOp .leq 3 t19 (.int .i64 4)) w fun t20 w =>
 Q t20 w)
def f133.an : An := (.sq .leaf (.sq (.sq .leaf (.bl (.lp [3] (.sq (.sq .leaf (.cn .leaf .leaf)) (.sq (.bl (.sq .leaf (.cn (.sq .leaf .leaf) .leaf))) .leaf))))) (.sq .leaf .leaf)))
theorem f133.calls {Z : List PanicEntry → World → Prop} {x0 : Value} {w : World} {Q : Value → World → Prop} (h : f133.sh Z x0 w Q) : CallV Tryz.prog Z 133 #[x0] w Q :=
 cl Tryz.func133 f133.an [x0] (by kernel_rfl) (by kernel_rfl) h

def f134.sh (Z : List PanicEntry → World → Prop) (x0 x1 : Value) (w : World) (Q : Value → World → Prop) : Prop :=
 run1 Tryz.prog Z (Instr.box 35 x0) w fun t1 w =>
 run1 Tryz.prog Z (Instr.box 35 x1) w fun t2 w =>
 run1 Tryz.prog Z (Instr.fieldAt 35 t1 0) w fun t3 w =>
 run1 Tryz.prog Z (Instr.loadAt 22 t3) w fun t4 w =>
 run1 Tryz.prog Z (Instr.fieldAt 35 t2 0) w fun t5 w =>
 run1 Tryz.prog Z (Instr.loadAt 22 t5) w fun t6 w =>
 run1 Tryz.prog Z (eqOp .eql 22 false false t4 t6) w fun t7 w =>
 guardW (t7) true (fun k => run1 Tryz.prog Z (Instr.fieldAt 35 t1 1) w k) (fun t8 w =>
 guardW (t7) true (fun k => run1 Tryz.prog Z (Instr.loadAt 9 t8) w k) (fun t9 w =>
 guardW (t7) true (fun k => run1 Tryz.prog Z (Instr.fieldAt 35 t2 1) w k) (fun t10 w =>
 guardW (t7) true (fun k => run1 Tryz.prog Z (Instr.loadAt 9 t10) w k) (fun t11 w =>
 guardW (t7) true (fun k => run1 Tryz.prog Z (eqOp .eql 9 false false t9 t11) w k) (fun t12 w =>
 run1 Tryz.prog Z (pickV t7 t12 (.bool false)) w fun t13 w =>
 guardW (t13) true (fun k => run1 Tryz.prog Z (Instr.fieldAt 35 t1 2) w k) (fun t14 w =>
 guardW (t13) true (fun k => run1 Tryz.prog Z (Instr.loadAt 30 t14) w k) (fun t15 w =>
 guardW (t13) true (fun k => run1 Tryz.prog Z (Instr.fieldAt 35 t2 2) w k) (fun t16 w =>
 guardW (t13) true (fun k => run1 Tryz.prog Z (Instr.loadAt 30 t16) w k) (fun t17 w =>
 guardW (t13) true (fun k => CallV Tryz.prog Z 143 #[t15, t17] w k) (fun t18 w =>
 run1 Tryz.prog Z (pickV t13 t18 (.bool false)) w fun t19 w =>
 guardW (t19) true (fun k => run1 Tryz.prog Z (Instr.fieldAt 35 t1 3) w k) (fun t20 w =>
 guardW (t19) true (fun k => run1 Tryz.prog Z (Instr.loadAt 31 t20) w k) (fun t21 w =>
 guardW (t19) true (fun k => run1 Tryz.prog Z (Instr.fieldAt 35 t2 3) w k) (fun t22 w =>
 guardW (t19) true (fun k => run1 Tryz.prog Z (Instr.loadAt 31 t22) w k) (fun t23 w =>
 guardW (t19) true (fun k => CallV Tryz.prog Z 144 #[t21, t23] w k) (fun t24 w =>
 run1 Tryz.prog Z (pickV t19 t24 (.bool false)) w fun t25 w =>
 guardW (t25) true (fun k => run1 Tryz.prog Z (Instr.fieldAt 35 t1 4) w k) (fun t26 w =>
 guardW (t25) true (fun k => run1 Tryz.prog Z (Instr.loadAt 21 t26) w k) (fun t27 w =>
 guardW (t25) true (fun k => run1 Tryz.prog Z (Instr.fieldAt 35 t2 4) w k) (fun t28 w =>
 guardW (t25) true (fun k => run1 Tryz.prog Z (Instr.loadAt 21 t28) w k) (fun t29 w =>
 guardW (t25) true (fun k => run1 Tryz.prog Z (eqOp .eql 21 false false t27 t29) w k) (fun t30 w =>
 run1 Tryz.prog Z (pickV t25 t30 (.bool false)) w fun t31 w =>
 guardW (t31) true (fun k => run1 Tryz.prog Z (Instr.fieldAt 35 t1 5) w k) (fun t32 w =>
 guardW (t31) true (fun k => run1 Tryz.prog Z (Instr.loadAt 4 t32) w k) (fun t33 w =>
 guardW (t31) true (fun k => run1 Tryz.prog Z (Instr.fieldAt 35 t2 5) w k) (fun t34 w =>
 guardW (t31) true (fun k => run1 Tryz.prog Z (Instr.loadAt 4 t34) w k) (fun t35 w =>
 guardW (t31) true (fun k => run1 Tryz.prog Z (eqOp .eql 4 false false t33 t35) w k) (fun t36 w =>
 run1 Tryz.prog Z (pickV t31 t36 (.bool false)) w fun t37 w =>
 guardW (t37) true (fun k => run1 Tryz.prog Z (Instr.fieldAt 35 t1 6) w k) (fun t38 w =>
 guardW (t37) true (fun k => run1 Tryz.prog Z (Instr.loadAt 4 t38) w k) (fun t39 w =>
 guardW (t37) true (fun k => run1 Tryz.prog Z (Instr.fieldAt 35 t2 6) w k) (fun t40 w =>
 guardW (t37) true (fun k => run1 Tryz.prog Z (Instr.loadAt 4 t40) w k) (fun t41 w =>
 guardW (t37) true (fun k => run1 Tryz.prog Z (eqOp .eql 4 false false t39 t41) w k) (fun t42 w =>
 run1 Tryz.prog Z (pickV t37 t42 (.bool false)) w fun t43 w =>
 guardW (t43) true (fun k => run1 Tryz.prog Z (Instr.fieldAt 35 t1 7) w k) (fun t44 w =>
 guardW (t43) true (fun k => run1 Tryz.prog Z (Instr.loadAt 2 t44) w k) (fun t45 w =>
 guardW (t43) true (fun k => run1 Tryz.prog Z (Instr.fieldAt 35 t2 7) w k) (fun t46 w =>
 guardW (t43) true (fun k => run1 Tryz.prog Z (Instr.loadAt 2 t46) w k) (fun t47 w =>
 guardW (t43) true (fun k => run1 Tryz.prog Z (eqOp .eql 2 false false t45 t47) w k) (fun t48 w =>
 run1 Tryz.prog Z (pickV t43 t48 (.bool false)) w fun t49 w =>
 guardW (t49) true (fun k => run1 Tryz.prog Z (Instr.fieldAt 35 t1 8) w k) (fun t50 w =>
 guardW (t49) true (fun k => run1 Tryz.prog Z (Instr.loadAt 21 t50) w k) (fun t51 w =>
 guardW (t49) true (fun k => run1 Tryz.prog Z (Instr.fieldAt 35 t2 8) w k) (fun t52 w =>
 guardW (t49) true (fun k => run1 Tryz.prog Z (Instr.loadAt 21 t52) w k) (fun t53 w =>
 guardW (t49) true (fun k => run1 Tryz.prog Z (eqOp .eql 21 false false t51 t53) w k) (fun t54 w =>
 run1 Tryz.prog Z (pickV t49 t54 (.bool false)) w fun t55 w =>
 guardW (t55) true (fun k => run1 Tryz.prog Z (Instr.fieldAt 35 t1 9) w k) (fun t56 w =>
 guardW (t55) true (fun k => run1 Tryz.prog Z (Instr.loadAt 32 t56) w k) (fun t57 w =>
 guardW (t55) true (fun k => run1 Tryz.prog Z (Instr.fieldAt 35 t2 9) w k) (fun t58 w =>
 guardW (t55) true (fun k => run1 Tryz.prog Z (Instr.loadAt 32 t58) w k) (fun t59 w =>
 guardW (t55) true (fun k => CallV Tryz.prog Z 145 #[t57, t59] w k) (fun t60 w =>
 run1 Tryz.prog Z (pickV t55 t60 (.bool false)) w fun t61 w =>
 guardW (t61) true (fun k => run1 Tryz.prog Z (Instr.fieldAt 35 t1 10) w k) (fun t62 w =>
 guardW (t61) true (fun k => run1 Tryz.prog Z (Instr.loadAt 33 t62) w k) (fun t63 w =>
 guardW (t61) true (fun k => run1 Tryz.prog Z (Instr.fieldAt 35 t2 10) w k) (fun t64 w =>
 guardW (t61) true (fun k => run1 Tryz.prog Z (Instr.loadAt 33 t64) w k) (fun t65 w =>
 guardW (t61) true (fun k => CallV Tryz.prog Z 146 #[t63, t65, (.func (.func 134) #[] #[])] w k) (fun t66 w =>
 run1 Tryz.prog Z (pickV t61 t66 (.bool false)) w fun t67 w =>
 Q t67 w) w) w) w) w) w) w) w) w) w) w) w) w) w) w) w) w) w) w) w) w) w) w) w) w) w) w) w) w) w) w) w) w) w) w) w) w) w) w) w) w) w) w) w) w) w) w) w) w) w) w
def f134.an : An := (.sq .leaf (.sq .leaf .leaf))
theorem f134.calls {Z : List PanicEntry → World → Prop} {x0 x1 : Value} {w : World} {Q : Value → World → Prop} (h : f134.sh Z x0 x1 w Q) : CallV Tryz.prog Z 134 #[x0, x1] w Q :=
 cl Tryz.func134 f134.an [x0, x1] (by kernel_rfl) (by kernel_rfl) h

def f135.sh (Z : List PanicEntry → World → Prop) (x0 x1 x2 : Value) (w : World) (Q : Value → World → Prop) : Prop :=
 run1 Tryz.prog Z (Instr.box 149 x0) w fun t1 w =>
 run1 Tryz.prog Z (Instr.box 35 x2) w fun t2 w =>
 run1 Tryz.prog Z (Instr.fieldAt 35 t2 0) w fun t3 w =>
 run1 Tryz.prog Z (Instr.loadAt 22 t3) w fun t4 w =>
 CallV Tryz.prog Z 28 #[x1, t4] w fun t5 w =>
 run1 Tryz.prog Z (Instr.loadAt 149 t1) w fun t6 w =>
 run1 Tryz.prog Z (Instr.fieldAt 35 t2 0) w fun t7 w =>
 run1 Tryz.prog Z (Instr.loadAt 22 t7) w fun t8 w =>
 CallV Tryz.prog Z 147 #[t6, t8] w fun t9 w =>
 ∀ j_10 : World → Prop, (∀ w : World, (Env →
 ∀ j_11 : World → Prop, (∀ w : World, (Env →
 ∀ j_12 : World → Prop, (∀ w : World, (Env →
 ∀ j_13 : World → Prop, (∀ w : World, (Env →
 ∀ j_14 : World → Prop, (∀ w : World, (Env →
 ∀ j_15 : World → Prop, (∀ w : World, (Env →
 ∀ j_16 : World → Prop, (∀ w : World, (Env →
 ∀ j_17 : World → Prop, (∀ w : World, (Env →
 run1 Tryz.prog Z (binOp .and 121 t9 (.int .u64 256)) w fun t18 w =>
 run1 Tryz.prog Z (eqOp .neq 121 false true t18 (.int .u64 0)) w fun t19 w =>
 CondV t19 (
 run1 Tryz.prog Z (Instr.fieldAt 35 t2 10) w fun t20 w =>
 run1 Tryz.prog Z (Instr.loadAt 33 t20) w fun t21 w =>
 run1 Tryz.prog Z (Instr.build 149 #[(0, (.bool true))]) w fun t22 w =>
 run1 Tryz.prog Z (Instr.makeFunc (.func 135) #[t22] #[]) w fun t23 w =>
 CallV Tryz.prog Z 153 #[x1, t21, t23] w fun t24 w =>
 Q (Value.tuple #[]) w) (
 Q (Value.tuple #[]) w)) →
 j_17 w) →
 run1 Tryz.prog Z (binOp .and 121 t9 (.int .u64 128)) w fun t25 w =>
 run1 Tryz.prog Z (eqOp .neq 121 false true t25 (.int .u64 0)) w fun t26 w =>
 CondV t26 (
 run1 Tryz.prog Z (Instr.fieldAt 35 t2 9) w fun t27 w =>
 run1 Tryz.prog Z (Instr.loadAt 32 t27) w fun t28 w =>
 CallV Tryz.prog Z 151 #[x1, t28, (.func (.func 152) #[] #[])] w fun t29 w =>
 j_17 w) (
 j_17 w)) →
 j_16 w) →
 run1 Tryz.prog Z (binOp .and 121 t9 (.int .u64 64)) w fun t30 w =>
 run1 Tryz.prog Z (eqOp .neq 121 false true t30 (.int .u64 0)) w fun t31 w =>
 CondV t31 (
 run1 Tryz.prog Z (Instr.fieldAt 35 t2 8) w fun t32 w =>
 run1 Tryz.prog Z (Instr.loadAt 21 t32) w fun t33 w =>
 CallV Tryz.prog Z 126 #[x1, t33] w fun t34 w =>
 j_16 w) (
 j_16 w)) →
 j_15 w) →
 run1 Tryz.prog Z (binOp .and 121 t9 (.int .u64 32)) w fun t35 w =>
 run1 Tryz.prog Z (eqOp .neq 121 false true t35 (.int .u64 0)) w fun t36 w =>
 CondV t36 (
 run1 Tryz.prog Z (Instr.fieldAt 35 t2 7) w fun t37 w =>
 run1 Tryz.prog Z (Instr.loadAt 2 t37) w fun t38 w =>
 CallV Tryz.prog Z 86 #[x1, t38] w fun t39 w =>
 j_15 w) (
 j_15 w)) →
 j_14 w) →
 run1 Tryz.prog Z (binOp .and 121 t9 (.int .u64 16)) w fun t40 w =>
 run1 Tryz.prog Z (eqOp .neq 121 false true t40 (.int .u64 0)) w fun t41 w =>
 CondV t41 (
 run1 Tryz.prog Z (Instr.fieldAt 35 t2 5) w fun t42 w =>
 run1 Tryz.prog Z (Instr.loadAt 4 t42) w fun t43 w =>
 CallV Tryz.prog Z 72 #[x1, t43] w fun t44 w =>
 run1 Tryz.prog Z (Instr.fieldAt 35 t2 6) w fun t45 w =>
 run1 Tryz.prog Z (Instr.loadAt 4 t45) w fun t46 w =>
 CallV Tryz.prog Z 72 #[x1, t46] w fun t47 w =>
 j_14 w) (
 j_14 w)) →
 j_13 w) →
 run1 Tryz.prog Z (binOp .and 121 t9 (.int .u64 8)) w fun t48 w =>
 run1 Tryz.prog Z (eqOp .neq 121 false true t48 (.int .u64 0)) w fun t49 w =>
 CondV t49 (
 run1 Tryz.prog Z (Instr.fieldAt 35 t2 4) w fun t50 w =>
 run1 Tryz.prog Z (Instr.loadAt 21 t50) w fun t51 w =>
 CallV Tryz.prog Z 126 #[x1, t51] w fun t52 w =>
 j_13 w) (
 j_13 w)) →
 j_12 w) →
 run1 Tryz.prog Z (binOp .and 121 t9 (.int .u64 4)) w fun t53 w =>
 run1 Tryz.prog Z (eqOp .neq 121 false true t53 (.int .u64 0)) w fun t54 w =>
 CondV t54 (
 run1 Tryz.prog Z (Instr.fieldAt 35 t2 3) w fun t55 w =>
 run1 Tryz.prog Z (Instr.loadAt 31 t55) w fun t56 w =>
 CallV Tryz.prog Z 149 #[x1, t56, (.func (.func 150) #[] #[])] w fun t57 w =>
 j_12 w) (
 j_12 w)) →
 j_11 w) →
 run1 Tryz.prog Z (binOp .and 121 t9 (.int .u64 2)) w fun t58 w =>
 run1 Tryz.prog Z (eqOp .neq 121 false true t58 (.int .u64 0)) w fun t59 w =>
 CondV t59 (
 run1 Tryz.prog Z (Instr.fieldAt 35 t2 2) w fun t60 w =>
 run1 Tryz.prog Z (Instr.loadAt 30 t60) w fun t61 w =>
 CallV Tryz.prog Z 81 #[x1, t61] w fun t62 w =>
 j_11 w) (
 j_11 w)) →
 j_10 w) →
 run1 Tryz.prog Z (binOp .and 121 t9 (.int .u64 1)) w fun t63 w =>
 run1 Tryz.prog Z (eqOp .neq 121 false true t63 (.int .u64 0)) w fun t64 w =>
 CondV t64 (
 run1 Tryz.prog Z (Instr.fieldAt 35 t2 1) w fun t65 w =>
 run1 Tryz.prog Z (Instr.loadAt 9 t65) w fun t66 w =>
 CallV Tryz.prog Z 148 #[x1, t66] w fun t67 w =>
 j_10 w) (
 j_10 w)
def f135.an : An := (.sq .leaf (.sq .leaf (.sq .leaf (.sj [] (.sq .leaf (.cn .leaf .leaf)) (.sj [] (.sq .leaf (.cn .leaf .leaf)) (.sj [] (.sq .leaf (.cn .leaf .leaf)) (.sj [] (.sq .leaf (.cn .leaf .leaf)) (.sj [] (.sq .leaf (.cn (.sq .leaf .leaf) .leaf)) (.sj [] (.sq .leaf (.cn .leaf .leaf)) (.sj [] (.sq .leaf (.cn .leaf .leaf)) (.sj [] (.sq .leaf (.cn .leaf .leaf)) (.sq .leaf (.cn .leaf .leaf)))))))))))))
theorem f135.calls {Z : List PanicEntry → World → Prop} {x0 x1 x2 : Value} {w : World} {Q : Value → World → Prop} (h : f135.sh Z x0 x1 x2 w Q) : CallV Tryz.prog Z 135 #[x0, x1, x2] w Q :=
 cl Tryz.func135 f135.an [x0, x1, x2] (by kernel_rfl) (by kernel_rfl) h

end Go.Proofs.YtfafkgbipjhcaaaGreatDoor
