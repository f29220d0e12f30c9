import Derived.Test.YtbccccpdnaeomaaGreatDoorShBase
set_option linter.unusedVariables false
namespace Go.Proofs.YtbccccpdnaeomaaGreatDoor
open Go.Sh
def f4.sh (Z : List PanicEntry → World → Prop) (x0 x1 x2 : Value) (w : World) (Q : Value → World → Prop) : Prop :=
 CallV Tryz.prog Z 5 #[] w fun t1 w =>
 CallV Tryz.prog Z 10 #[x0] w fun t2 w =>
 CondV t2 (
 Q t1 w) (
 CallV Tryz.prog Z 11 #[(.pointer none), x0] w fun t3 w =>
 run1 Tryz.prog Z (Instr.build 39 #[]) w fun t4 w =>
 run1 Tryz.prog Z (Instr.box 39 t4) w fun t5 w =>
 CallV Tryz.prog Z 11 #[t5, x0] w fun t6 w =>
 CallV Tryz.prog Z 13 #[x0] w fun t7 w =>
 CallV Tryz.prog Z 12 #[(.pointer none), x1, x2, t7] w fun t8 w =>
 run1 Tryz.prog Z (Instr.extract t8 0) w fun t9 w =>
 run1 Tryz.prog Z (Instr.extract t8 1) w fun t10 w =>
 run1 Tryz.prog Z (Instr.build 47 #[]) w fun t11 w =>
 run1 Tryz.prog Z (Instr.box 47 t11) w fun t12 w =>
 CallV Tryz.prog Z 13 #[x0] w fun t13 w =>
 CallV Tryz.prog Z 12 #[t12, x1, x2, t13] w fun t14 w =>
 run1 Tryz.prog Z (Instr.extract t14 0) w fun t15 w =>
 run1 Tryz.prog Z (Instr.extract t14 1) w fun t16 w =>
 run1 Tryz.prog Z (Instr.build 37 #[]) w fun t17 w =>
 CallV Tryz.prog Z 14 #[(.pointer none), x1, x2, t17] w fun t18 w =>
 run1 Tryz.prog Z (Instr.extract t18 0) w fun t19 w =>
 run1 Tryz.prog Z (Instr.extract t18 1) w fun t20 w =>
 run1 Tryz.prog Z (Instr.build 47 #[]) w fun t21 w =>
 run1 Tryz.prog Z (Instr.box 47 t21) w fun t22 w =>
 run1 Tryz.prog Z (Instr.build 37 #[]) w fun t23 w =>
 CallV Tryz.prog Z 14 #[t22, x1, x2, t23] w fun t24 w =>
 run1 Tryz.prog Z (Instr.extract t24 0) w fun t25 w =>
 run1 Tryz.prog Z (Instr.extract t24 1) w fun t26 w =>
 run1 Tryz.prog Z (eqOp .eql 32 false true t9 (.pointer none)) w fun t27 w =>
 guardW (t27) true (fun k => k (t15) w) (fun t28 w =>
 guardW (t27) true (fun k => run1 Tryz.prog Z (eqOp .eql 32 false true t28 (.pointer none)) w k) (fun t29 w =>
 run1 Tryz.prog Z (pickV t27 t29 (.bool false)) w fun t30 w =>
 guardW (t30) true (fun k => k (t19) w) (fun t31 w =>
 guardW (t30) true (fun k => run1 Tryz.prog Z (eqOp .eql 32 false true t31 (.pointer none)) w k) (fun t32 w =>
 run1 Tryz.prog Z (pickV t30 t32 (.bool false)) w fun t33 w =>
 guardW (t33) true (fun k => k (t25) w) (fun t34 w =>
 guardW (t33) true (fun k => run1 Tryz.prog Z (eqOp .eql 32 false true t34 (.pointer none)) w k) (fun t35 w =>
 run1 Tryz.prog Z (pickV t33 t35 (.bool false)) w fun t36 w =>
 guardW (t1) true (fun k => k (t3) w) (fun t37 w =>
 run1 Tryz.prog Z (pickV t1 t37 (.bool false)) w fun t38 w =>
 guardW (t38) true (fun k => k (t6) w) (fun t39 w =>
 run1 Tryz.prog Z (pickV t38 t39 (.bool false)) w fun t40 w =>
 guardW (t40) true (fun k => k (t36) w) (fun t41 w =>
 run1 Tryz.prog Z (pickV t40 t41 (.bool false)) w fun t42 w =>
 guardW (t42) true (fun k => k (t10) w) (fun t43 w =>
 guardW (t42) true (fun k => run1 Tryz.prog Z (eqOp .eql 25 false true t43 (.int .i64 1)) w k) (fun t44 w =>
 run1 Tryz.prog Z (pickV t42 t44 (.bool false)) w fun t45 w =>
 guardW (t45) true (fun k => k (t16) w) (fun t46 w =>
 guardW (t45) true (fun k => k (t10) w) (fun t47 w =>
 guardW (t45) true (fun k => run1 Tryz.prog Z (eqOp .eql 25 false false t46 t47) w k) (fun t48 w =>
 run1 Tryz.prog Z (pickV t45 t48 (.bool false)) w fun t49 w =>
 guardW (t49) true (fun k => k (t20) w) (fun t50 w =>
 guardW (t49) true (fun k => k (t10) w) (fun t51 w =>
 guardW (t49) true (fun k => run1 Tryz.prog Z (eqOp .eql 25 false false t50 t51) w k) (fun t52 w =>
 run1 Tryz.prog Z (pickV t49 t52 (.bool false)) w fun t53 w =>
 guardW (t53) true (fun k => k (t26) w) (fun t54 w =>
 guardW (t53) true (fun k => k (t10) w) (fun t55 w =>
 guardW (t53) true (fun k => run1 Tryz.prog Z (eqOp .eql 25 false false t54 t55) w k) (fun t56 w =>
 run1 Tryz.prog Z (pickV t53 t56 (.bool false)) w fun t57 w =>
 Q t57 w) w) w) w) w) w) w) w) w) w) w) w) w) w) w) w) w) w) w) w) w)
def f4.an : An := (.sq .leaf (.sq .leaf (.sq (.sq .leaf (.cn (.sq .leaf .leaf) .leaf)) (.sq .leaf (.sq .leaf (.sq .leaf (.sq .leaf (.sq .leaf (.sq .leaf (.sq .leaf (.sq .leaf (.sq .leaf (.sq .leaf .leaf)))))))))))))
theorem f4.calls {Z : List PanicEntry → World → Prop} {x0 x1 x2 : Value} {w : World} {Q : Value → World → Prop} (h : f4.sh Z x0 x1 x2 w Q) : CallV Tryz.prog Z 4 #[x0, x1, x2] w Q :=
 cl Tryz.func4 f4.an [x0, x1, x2] (by kernel_rfl) (by kernel_rfl) h

def f5.sh (Z : List PanicEntry → World → Prop) (w : World) (Q : Value → World → Prop) : Prop :=
 CallV Tryz.prog Z 8 #[(.int .i64 1000)] w fun t1 w =>
 run1 Tryz.prog Z (Instr.extract t1 0) w fun t2 w =>
 run1 Tryz.prog Z (Instr.extract t1 1) w fun t3 w =>
 run1 Tryz.prog Z (eqOp .neq 25 false true t3 (.int .i64 0)) w fun t4 w =>
 guardW (t4) false (fun k => k (t2) w) (fun t5 w =>
 guardW (t4) false (fun k => run1 Tryz.prog Z (eqOp .eql 24 false true t5 (.pointer none)) w k) (fun t6 w =>
 run1 Tryz.prog Z (pickV t4 (.bool true) t6) w fun t7 w =>
 CondV t7 (
 Q (.bool false) w) (
 CallV Tryz.prog Z 15 #[(.int .u32 1)] w fun t8 w =>
 run1 Tryz.prog Z (Instr.buildSlice 30 1 #[(0, t8)]) w fun t9 w =>
 CallV Tryz.prog Z 12 #[t2, (.int .i64 1), (.int .i64 2), t9] w fun t10 w =>
 run1 Tryz.prog Z (Instr.extract t10 0) w fun t11 w =>
 run1 Tryz.prog Z (Instr.extract t10 1) w fun t12 w =>
 run1 Tryz.prog Z (eqOp .neq 25 false true t12 (.int .i64 0)) w fun t13 w =>
 guardW (t13) false (fun k => k (t11) w) (fun t14 w =>
 guardW (t13) false (fun k => run1 Tryz.prog Z (eqOp .eql 32 false true t14 (.pointer none)) w k) (fun t15 w =>
 run1 Tryz.prog Z (pickV t13 (.bool true) t15) w fun t16 w =>
 CondV t16 (
 Q (.bool false) w) (
 CallV Tryz.prog Z 15 #[(.int .u32 2)] w fun t17 w =>
 CallV Tryz.prog Z 16 #[t11, t17] w fun t18 w =>
 run1 Tryz.prog Z (Instr.build 37 #[]) w fun t19 w =>
 CallV Tryz.prog Z 14 #[t2, (.int .i64 1), (.int .i64 2), t19] w fun t20 w =>
 run1 Tryz.prog Z (Instr.extract t20 0) w fun t21 w =>
 run1 Tryz.prog Z (Instr.extract t20 1) w fun t22 w =>
 run1 Tryz.prog Z (eqOp .neq 25 false true t18 (.int .i64 0)) w fun t23 w =>
 guardW (t23) false (fun k => k (t22) w) (fun t24 w =>
 guardW (t23) false (fun k => run1 Tryz.prog Z (eqOp .neq 25 false true t24 (.int .i64 0)) w k) (fun t25 w =>
 run1 Tryz.prog Z (pickV t23 (.bool true) t25) w fun t26 w =>
 guardW (t26) false (fun k => k (t21) w) (fun t27 w =>
 guardW (t26) false (fun k => run1 Tryz.prog Z (eqOp .eql 32 false true t27 (.pointer none)) w k) (fun t28 w =>
 run1 Tryz.prog Z (pickV t26 (.bool true) t28) w fun t29 w =>
 CondV t29 (
 Q (.bool false) w) (
 CallV Tryz.prog Z 17 #[t21] w fun t30 w =>
 CallV Tryz.prog Z 18 #[t21] w fun t31 w =>
 run1 Tryz.prog Z (Builtin.len_ #[30] 3 #[t30]) w fun t32 w =>
 run1 Tryz.prog Z (eqOp .eql 3 false true t32 (.int .i64 2)) w fun t33 w =>
 guardW (t33) true (fun k => k (t30) w) (fun t34 w =>
 guardW (t33) true (fun k => run1 Tryz.prog Z (Instr.indexAt 30 t34 (.int .i64 1)) w k) (fun t35 w =>
 guardW (t33) true (fun k => run1 Tryz.prog Z (Instr.fieldAt 60 t35 0) w k) (fun t36 w =>
 guardW (t33) true (fun k => run1 Tryz.prog Z (Instr.fieldAt 37 t36 1) w k) (fun t37 w =>
 guardW (t33) true (fun k => run1 Tryz.prog Z (Instr.loadAt 35 t37) w k) (fun t38 w =>
 guardW (t33) true (fun k => run1 Tryz.prog Z (eqOp .eql 35 false true t38 (.int .u32 2)) w k) (fun t39 w =>
 run1 Tryz.prog Z (pickV t33 t39 (.bool false)) w fun t40 w =>
 guardW (t40) true (fun k => k (t31) w) (fun t41 w =>
 guardW (t40) true (fun k => run1 Tryz.prog Z (Builtin.len_ #[34] 3 #[t41]) w k) (fun t42 w =>
 guardW (t40) true (fun k => run1 Tryz.prog Z (eqOp .eql 3 false true t42 (.int .i64 1)) w k) (fun t43 w =>
 run1 Tryz.prog Z (pickV t40 t43 (.bool false)) w fun t44 w =>
 guardW (t44) true (fun k => k (t31) w) (fun t45 w =>
 guardW (t44) true (fun k => run1 Tryz.prog Z (Instr.indexAt 34 t45 (.int .i64 0)) w k) (fun t46 w =>
 guardW (t44) true (fun k => run1 Tryz.prog Z (Instr.loadAt 9 t46) w k) (fun t47 w =>
 guardW (t44) true (fun k => run1 Tryz.prog Z (eqOp .eql 9 false true t47 (.string { data := #[108, 111, 103, 46, 49, 46, 49] })) w k) (fun t48 w =>
 run1 Tryz.prog Z (pickV t44 t48 (.bool false)) w fun t49 w =>
 Q t49 w) w) w) w) w) w) w) w) w) w) w) w) w) w)) w) w) w) w)) w) w)) w) w
def f5.an : An := (.sq .leaf (.sq .leaf (.sq (.sq .leaf (.cn (.sq .leaf .leaf) .leaf)) (.sq .leaf (.sq (.sq .leaf (.cn (.sq .leaf .leaf) .leaf)) (.sq .leaf (.sq .leaf (.sq (.sq .leaf (.cn (.sq .leaf .leaf) .leaf)) (.sq .leaf (.sq .leaf (.sq .leaf .leaf)))))))))))
theorem f5.calls {Z : List PanicEntry → World → Prop} {w : World} {Q : Value → World → Prop} (h : f5.sh Z  w Q) : CallV Tryz.prog Z 5 #[] w Q :=
 cl Tryz.func5 f5.an [] (by kernel_rfl) (by kernel_rfl) h

def f6.sh (Z : List PanicEntry → World → Prop) (x0 x1 : Value) (w : World) (Q : Value → World → Prop) : Prop :=
 run1 Tryz.prog Z (binOp .lss 2 x0 (.int .i64 1)) w fun t1 w =>
 guardW (t1) false (fun k => k (x1) w) (fun t2 w =>
 guardW (t1) false (fun k => run1 Tryz.prog Z (binOp .lss 3 t2 (.int .i64 1)) w k) (fun t3 w =>
 run1 Tryz.prog Z (pickV t1 (.bool true) t3) w fun t4 w =>
 guardW (t4) false (fun k => k (x1) w) (fun t5 w =>
 guardW (t4) false (fun k => run1 Tryz.prog Z (binOp .gtr 3 t5 (.int .i64 4095)) w k) (fun t6 w =>
 run1 Tryz.prog Z (pickV t4 (.bool true) t6) w fun t7 w =>
 CondV t7 (
 Q (.string { data := #[] }) w) (
 CallV Tryz.prog Z 19 #[x0] w fun t8 w =>
 CallV Tryz.prog Z 20 #[x1, (.int .i64 16)] w fun t9 w =>
 run1 Tryz.prog Z (binOp .add 9 t8 t9) w fun t10 w =>
 Q t10 w)) w) w) w) w
def f6.an : An := (.sq .leaf (.sq (.sq .leaf (.cn (.sq .leaf .leaf) .leaf)) (.sq .leaf .leaf)))
theorem f6.calls {Z : List PanicEntry → World → Prop} {x0 x1 : Value} {w : World} {Q : Value → World → Prop} (h : f6.sh Z x0 x1 w Q) : CallV Tryz.prog Z 6 #[x0, x1] w Q :=
 cl Tryz.func6 f6.an [x0, x1] (by kernel_rfl) (by kernel_rfl) h

def f8.sh (Z : List PanicEntry → World → Prop) (x0 : Value) (w : World) (Q : Value → World → Prop) : Prop :=
 run1 Tryz.prog Z (binOp .lss 3 x0 (.int .i64 0)) w fun t1 w =>
 guardW (t1) false (fun k => k (x0) w) (fun t2 w =>
 guardW (t1) false (fun k => run1 Tryz.prog Z (binOp .gtr 3 t2 (.int .i64 16777216)) w k) (fun t3 w =>
 run1 Tryz.prog Z (pickV t1 (.bool true) t3) w fun t4 w =>
 CondV t4 (
 Q (Value.tuple #[(.pointer none), (.int .i64 1)]) w) (
 run1 Tryz.prog Z (Instr.build 47 #[(1, (.bool true)), (2, x0), (3, (.bool true))]) w fun t5 w =>
 run1 Tryz.prog Z (Instr.box 47 t5) w fun t6 w =>
 Q (Value.tuple #[t6, (.int .i64 0)]) w)) w) w
def f8.an : An := (.sq .leaf (.sq (.sq .leaf (.cn (.sq .leaf .leaf) .leaf)) (.sq .leaf .leaf)))
theorem f8.calls {Z : List PanicEntry → World → Prop} {x0 : Value} {w : World} {Q : Value → World → Prop} (h : f8.sh Z x0 w Q) : CallV Tryz.prog Z 8 #[x0] w Q :=
 cl Tryz.func8 f8.an [x0] (by kernel_rfl) (by kernel_rfl) h

def f9.sh (Z : List PanicEntry → World → Prop) (x0 x1 x2 : Value) (w : World) (Q : Value → World → Prop) : Prop :=
 run1 Tryz.prog Z (Instr.buildSlice 34 1 #[(0, x1)]) w fun t1 w =>
 CallV Tryz.prog Z 22 #[x0, t1] w fun t2 w =>
 run1 Tryz.prog Z (eqOp .neq 25 false true t2 (.int .i64 0)) w fun t3 w =>
 CondV t3 (
 Q t2 w) (
 runX Tryz.prog Z (nilChk x0) w fun t4 w =>
 run1 Tryz.prog Z (Instr.fieldAt 47 t4 0) w fun t5 w =>
 CallV Tryz.prog Z 23 #[t5, x1] w fun t6 w =>
 run1 Tryz.prog Z (Instr.extract t6 0) w fun t7 w =>
 run1 Tryz.prog Z (Instr.extract t6 1) w fun t8 w =>
 run1 Tryz.prog Z (Op.unary .not t8) w fun t9 w =>
 guardW (t9) true (fun k => k (x0) w) (fun t10 w =>
 guardW (t9) true (fun k => runX Tryz.prog Z (nilChk t10) w k) (fun t11 w =>
 guardW (t9) true (fun k => run1 Tryz.prog Z (Instr.fieldAt 47 t11 0) w k) (fun t12 w =>
 guardW (t9) true (fun k => run1 Tryz.prog Z (Instr.fieldAt 45 t12 0) w k) (fun t13 w =>
 guardW (t9) true (fun k => run1 Tryz.prog Z (Instr.loadAt 43 t13) w k) (fun t14 w =>
 guardW (t9) true (fun k => run1 Tryz.prog Z (Builtin.len_ #[43] 3 #[t14]) w k) (fun t15 w =>
 guardW (t9) true (fun k => run1 Tryz.prog Z (binOp .geq 3 t15 (.int .i64 64)) w k) (fun t16 w =>
 run1 Tryz.prog Z (pickV t9 t16 (.bool false)) w fun t17 w =>
 CondV t17 (
 Q (.int .i64 22) w) (
 Drawn w fun w =>
 Pure1 Tryz.prog (Builtin.len_ #[53] 3 #[x2]) fun t18 =>
 PureV Tryz.prog (nilChk x0) fun t19 =>
 Pure1 Tryz.prog (Instr.fieldAt 47 t19 2) fun t20 =>
 Read1 Tryz.prog (Instr.loadAt 3 t20) w fun t21 =>
 PureV Tryz.prog (nilChk x0) fun t22 =>
 Pure1 Tryz.prog (Instr.fieldAt 47 t22 0) fun t23 =>
 Pure1 Tryz.prog (Instr.fieldAt 45 t23 1) fun t24 =>
 Read1 Tryz.prog (Instr.loadAt 3 t24) w fun t25 =>
 Pure1 Tryz.prog (binOp .sub 3 t21 t25) fun t26 =>
 Pure1 Tryz.prog (binOp .gtr 3 t18 t26) fun t27 =>
 CondV t27 (
 Q (.int .i64 21) w) (
 CallV Tryz.prog Z 24 #[x0] w fun t28 w =>
 run1 Tryz.prog Z (Op.unary .not t28) w fun t29 w =>
 CondV t29 (
 Q (.int .i64 23) w) (
 runX Tryz.prog Z (nilChk x0) w fun t30 w =>
 run1 Tryz.prog Z (Instr.fieldAt 47 t30 0) w fun t31 w =>
 CallV Tryz.prog Z 25 #[t31, x1] w fun t32 w =>
 Drawn w fun w =>
 PureV Tryz.prog (nilChk x0) fun t33 =>
 Pure1 Tryz.prog (Instr.fieldAt 47 t33 0) fun t34 =>
 Pure1 Tryz.prog (Instr.fieldAt 45 t34 0) fun t35 =>
 Read1 Tryz.prog (Instr.loadAt 43 t35) w fun t36 =>
 PureV Tryz.prog (nilChk x0) fun t37 =>
 Pure1 Tryz.prog (Instr.fieldAt 47 t37 0) fun t38 =>
 Pure1 Tryz.prog (Instr.fieldAt 45 t38 0) fun t39 =>
 Read1 Tryz.prog (Instr.loadAt 43 t39) w fun t40 =>
 Pure1 Tryz.prog (Instr.indexAt 43 t40 t32) fun t41 =>
 Pure1 Tryz.prog (Instr.fieldAt 71 t41 1) fun t42 =>
 Read1 Tryz.prog (Instr.loadAt 53 t42) w fun t43 =>
 run1 Tryz.prog Z (Builtin.append_ #[53, 53] 53 #[t43, x2]) w fun t44 w =>
 Still Tryz.prog (nx (Instr.loadAt 43 t39)) t40 w <|
 Still Tryz.prog (nx (Instr.loadAt 43 t35)) t36 w <|
 Pure1 Tryz.prog (Instr.indexAt 43 t36 t32) fun t45 =>
 Pure1 Tryz.prog (Instr.fieldAt 71 t45 1) fun t46 =>
 run0 Tryz.prog Z (Instr.storeAt 53 t46 t44) w fun w =>
 runX Tryz.prog Z (nilChk x0) w fun t47 w =>
 run1 Tryz.prog Z (Instr.fieldAt 47 t47 0) w fun t48 w =>
 run1 Tryz.prog Z (Instr.fieldAt 45 t48 1) w fun t49 w =>
 run1 Tryz.prog Z (Instr.loadAt 3 t49) w fun t50 w =>
 run1 Tryz.prog Z (Builtin.len_ #[53] 3 #[x2]) w fun t51 w =>
 run1 Tryz.prog Z (binOp .add 3 t50 t51) w fun t52 w =>
 runX Tryz.prog Z (nilChk x0) w fun t53 w =>
 run1 Tryz.prog Z (Instr.fieldAt 47 t53 0) w fun t54 w =>
 run1 Tryz.prog Z (Instr.fieldAt 45 t54 1) w fun t55 w =>
 run0 Tryz.prog Z (Instr.storeAt 3 t55 t52) w fun w =>
 Q (.int .i64 0) w)))) w) w) w) w) w) w) w)
def f9.an : An := (.sq .leaf (.sq (.sq .leaf (.sq .leaf (.cn (.sq .leaf .leaf) .leaf))) (.sq .leaf (.sq (.bl (.sq .leaf (.cn (.sq .leaf .leaf) (.sq (.dr (pl [0, 4, 8, 12, 16, 21, 24, 28, 32, 36, 41, 44, 48, 52] .fin)) (.cn (.sq .leaf .leaf) (.sq .leaf (.cn (.sq .leaf .leaf) .leaf))))))) (.sq .leaf (.sq (.dr (pl [0, 4, 8, 12, 17, 20, 24, 28, 32, 36, 41, 44, 48, 52, 57, 60, 66, 68, 72, 78] .fin)) (.sq .leaf (.sq .leaf .leaf))))))))
theorem f9.calls {Z : List PanicEntry → World → Prop} {x0 x1 x2 : Value} {w : World} {Q : Value → World → Prop} (h : f9.sh Z x0 x1 x2 w Q) : CallV Tryz.prog Z 9 #[x0, x1, x2] w Q :=
 cl Tryz.func9 f9.an [x0, x1, x2] (by kernel_rfl) (by kernel_rfl) h

def f10.sh (Z : List PanicEntry → World → Prop) (x0 : Value) (w : World) (Q : Value → World → Prop) : Prop :=
 ∃ J_1 : Nat → Value → Value → World → Prop, (∃ m, J_1 m (.int .i64 0) (.int .i64 0) w) ∧
 ∀ m_1, ∀ t2 : Value, ∀ t3 : Value, ∀ w : World, J_1 m_1 t2 t3 w → Env →
 run1 Tryz.prog Z (Builtin.len_ #[30] 3 #[x0]) w fun t4 w =>
 run1 Tryz.prog Z (binOp .lss 3 t3 t4) w fun t5 w =>
 guardW (t5) true (fun k => k (t2) w) (fun t6 w =>
 guardW (t5) true (fun k => run1 Tryz.prog Z (binOp .leq 3 t6 (.int .i64 1000000)) w k) (fun t7 w =>
 run1 Tryz.prog Z (pickV t5 t7 (.bool false)) w fun t8 w =>
 CondV t8 (
 run1 Tryz.prog Z (Instr.indexAt 30 x0 t3) w fun t9 w =>
 run1 Tryz.prog Z (Instr.fieldAt 60 t9 2) w fun t10 w =>
 run1 Tryz.prog Z (Instr.loadAt 58 t10) w fun t11 w =>
 CallV Tryz.prog Z 26 #[t11] w fun t12 w =>
 CondV t12 (
 Q (.bool true) w) (
 run1 Tryz.prog Z (binOp .add 3 t2 (.int .i64 1)) w fun t13 w =>
 run1 Tryz.prog Z (Instr.indexAt 30 x0 t3) w fun t14 w =>
 run1 Tryz.prog Z (Instr.fieldAt 60 t14 2) w fun t15 w =>
 run1 Tryz.prog Z (Instr.loadAt 58 t15) w fun t16 w =>
 CallV Tryz.prog Z 27 #[t16] w fun t17 w =>
 run1 Tryz.prog Z (binOp .add 3 t13 t17) w fun t18 w =>
 run1 Tryz.prog Z (binOp .add 3 t3 (.int .i64 1)) w fun t19 w =>
 ∃ n_1, n_1 < m_1 ∧ J_1 n_1 t18 t19 w)) (
 run1 Tryz.prog Z (binOp .gtr 3 t2 (.int .i64 1000000)) w fun t20 w =>
 Q t20 w)) w) w
def f10.an : An := (.sq .leaf (.sq .leaf (.sq (.sq .leaf (.bl (.lp [3, 4] (.sq (.sq .leaf (.cn .leaf .leaf)) (.sq (.bl (.sq (.sq .leaf (.cn (.sq .leaf .leaf) .leaf)) .leaf)) .leaf))))) (.sq .leaf .leaf))))
theorem f10.calls {Z : List PanicEntry → World → Prop} {x0 : Value} {w : World} {Q : Value → World → Prop} (h : f10.sh Z x0 w Q) : CallV Tryz.prog Z 10 #[x0] w Q :=
 cl Tryz.func10 f10.an [x0] (by kernel_rfl) (by kernel_rfl) h

def f11.sh (Z : List PanicEntry → World → Prop) (x0 x1 : Value) (w : World) (Q : Value → World → Prop) : Prop :=
 ∃ J_1 : Nat → Value → World → Prop, (∃ m, J_1 m (.int .i64 0) w) ∧
 ∀ m_1, ∀ t2 : Value, ∀ w : World, J_1 m_1 t2 w → Env →
 run1 Tryz.prog Z (Builtin.len_ #[30] 3 #[x1]) w fun t3 w =>
 run1 Tryz.prog Z (binOp .lss 3 t2 t3) w fun t4 w =>
 CondV t4 (
 run1 Tryz.prog Z (Instr.indexAt 30 x1 t2) w fun t5 w =>
 run1 Tryz.prog Z (Instr.loadAt 60 t5) w fun t6 w =>
 CallV Tryz.prog Z 28 #[t6] w fun t7 w =>
 CallV Tryz.prog Z 16 #[x0, t7] w fun t8 w =>
 run1 Tryz.prog Z (eqOp .neq 25 false true t8 (.int .i64 1)) w fun t9 w =>
 CondV t9 (
 Q (.bool false) w) (
 run1 Tryz.prog Z (binOp .add 3 t2 (.int .i64 1)) w fun t10 w =>
 ∃ n_1, n_1 < m_1 ∧ J_1 n_1 t10 w)) (
 CallV Tryz.prog Z 17 #[x0] w fun t11 w =>
 run1 Tryz.prog Z (Builtin.len_ #[30] 3 #[t11]) w fun t12 w =>
 run1 Tryz.prog Z (eqOp .eql 3 false true t12 (.int .i64 0)) w fun t13 w =>
 guardW (t13) true (fun k => k (x0) w) (fun t14 w =>
 guardW (t13) true (fun k => CallV Tryz.prog Z 18 #[t14] w k) (fun t15 w =>
 guardW (t13) true (fun k => run1 Tryz.prog Z (Builtin.len_ #[34] 3 #[t15]) w k) (fun t16 w =>
 guardW (t13) true (fun k => run1 Tryz.prog Z (eqOp .eql 3 false true t16 (.int .i64 0)) w k) (fun t17 w =>
 run1 Tryz.prog Z (pickV t13 t17 (.bool false)) w fun t18 w =>
 guardW (t18) true (fun k => k (x0) w) (fun t19 w =>
 guardW (t18) true (fun k => CallV Tryz.prog Z 15 #[(.int .u32 1)] w k) (fun t20 w =>
 guardW (t18) true (fun k => CallV Tryz.prog Z 16 #[t19, t20] w k) (fun t21 w =>
 guardW (t18) true (fun k => run1 Tryz.prog Z (eqOp .eql 25 false true t21 (.int .i64 1)) w k) (fun t22 w =>
 run1 Tryz.prog Z (pickV t18 t22 (.bool false)) w fun t23 w =>
 Q t23 w) w) w) w) w) w) w) w) w)
def f11.an : An := (.sq .leaf (.sq (.sq .leaf (.bl (.lp [5] (.sq (.sq .leaf (.cn .leaf .leaf)) (.sq (.bl (.sq .leaf (.cn (.sq .leaf .leaf) .leaf))) .leaf))))) (.sq .leaf .leaf)))
theorem f11.calls {Z : List PanicEntry → World → Prop} {x0 x1 : Value} {w : World} {Q : Value → World → Prop} (h : f11.sh Z x0 x1 w Q) : CallV Tryz.prog Z 11 #[x0, x1] w Q :=
 cl Tryz.func11 f11.an [x0, x1] (by kernel_rfl) (by kernel_rfl) h

def f12.sh (Z : List PanicEntry → World → Prop) (x0 x1 x2 x3 : Value) (w : World) (Q : Value → World → Prop) : Prop :=
 CallV Tryz.prog Z 29 #[x0, x1, x2] w fun t1 w =>
 run1 Tryz.prog Z (Instr.extract t1 0) w fun t2 w =>
 run1 Tryz.prog Z (Instr.extract t1 1) w fun t3 w =>
 run1 Tryz.prog Z (eqOp .neq 25 false true t3 (.int .i64 0)) w fun t4 w =>
 CondV t4 (
 Q (Value.tuple #[(.pointer none), t3]) w) (
 CallV Tryz.prog Z 32 #[x3, (.func (.func 30) #[] #[])] w fun t5 w =>
 CondV t5 (
 Q (Value.tuple #[(.pointer none), (.int .i64 40)]) w) (
 run1 Tryz.prog Z (Instr.build 37 #[]) w fun t6 w =>
 CallV Tryz.prog Z 33 #[t6, x3] w fun t7 w =>
 run1 Tryz.prog Z (Op.unary .not t7) w fun t8 w =>
 CondV t8 (
 Q (Value.tuple #[(.pointer none), (.int .i64 100)]) w) (
 CallV Tryz.prog Z 34 #[x0] w fun t9 w =>
 run1 Tryz.prog Z (Op.unary .not t9) w fun t10 w =>
 CondV t10 (
 Q (Value.tuple #[(.pointer none), (.int .i64 23)]) w) (
 CallV Tryz.prog Z 35 #[x0, x1] w fun t11 w =>
 run1 Tryz.prog Z (Builtin.len_ #[80] 3 #[t11]) w fun t12 w =>
 run1 Tryz.prog Z (binOp .gtr 3 t12 (.int .i64 0)) w fun t13 w =>
 CondV t13 (
 Q (Value.tuple #[(.pointer none), (.int .i64 22)]) w) (
 ∃ J_14 : Nat → Value → Value → World → Prop, (∃ m, J_14 m x3 (.int .i64 1) w) ∧
 ∀ m_14, ∀ t15 : Value, ∀ t16 : Value, ∀ w : World, J_14 m_14 t15 t16 w → Env →
 run1 Tryz.prog Z (eqOp .eql 3 false true t16 (.int .i64 1)) w fun t17 w =>
 guardW (t17) false (fun k => k (t15) w) (fun t18 w =>
 guardW (t17) false (fun k => run1 Tryz.prog Z (Builtin.len_ #[30] 3 #[t18]) w k) (fun t19 w =>
 guardW (t17) false (fun k => run1 Tryz.prog Z (binOp .gtr 3 t19 (.int .i64 0)) w k) (fun t20 w =>
 run1 Tryz.prog Z (pickV t17 (.bool true) t20) w fun t21 w =>
 CondV t21 (
 run1 Tryz.prog Z (Builtin.len_ #[30] 3 #[t15]) w fun t22 w =>
 run1 Tryz.prog Z (Builtin.min_ #[3, 3] 3 #[x2, t22]) w fun t23 w =>
 Drawn w fun w =>
 Pure1 Tryz.prog (Instr.sliceAt 30 t15 none (some t23) none) fun t24 =>
 CallV Tryz.prog Z 6 #[x1, t16] w fun t25 w =>
 CallV Tryz.prog Z 36 #[t2, t25, (.bool true), t24] w fun t26 w =>
 run1 Tryz.prog Z (eqOp .neq 25 false true t26 (.int .i64 0)) w fun t27 w =>
 CondV t27 (
 Q (Value.tuple #[(.pointer none), t26]) w) (
 run1 Tryz.prog Z (Instr.sliceAt 30 t15 (some t23) none none) w fun t28 w =>
 run1 Tryz.prog Z (binOp .add 3 t16 (.int .i64 1)) w fun t29 w =>
 ∃ n_14, n_14 < m_14 ∧ J_14 n_14 t28 t29 w)) (
 Q (Value.tuple #[t2, (.int .i64 0)]) w)) w) w) w)))))
def f12.an : An := (.sq .leaf (.sq .leaf (.sq (.sq .leaf (.cn (.sq .leaf .leaf) .leaf)) (.sq .leaf (.sq (.bl (.sq .leaf (.cn (.sq .leaf .leaf) (.sq .leaf (.cn (.sq .leaf .leaf) (.sq .leaf (.cn (.sq .leaf .leaf) (.sq .leaf (.cn (.sq .leaf .leaf) .leaf))))))))) (.sq (.sq .leaf (.bl (.lp [3, 13] (.sq (.sq .leaf (.cn .leaf .leaf)) (.sq (.bl (.sq .leaf (.sq (.sq (.dr (pl [0, 4, 8, 16, 20, 24, 14, 30, 32] .fin)) (.sq .leaf (.cn (.sq .leaf .leaf) .leaf))) .leaf))) .leaf))))) (.sq .leaf .leaf)))))))
theorem f12.calls {Z : List PanicEntry → World → Prop} {x0 x1 x2 x3 : Value} {w : World} {Q : Value → World → Prop} (h : f12.sh Z x0 x1 x2 x3 w Q) : CallV Tryz.prog Z 12 #[x0, x1, x2, x3] w Q :=
 cl Tryz.func12 f12.an [x0, x1, x2, x3] (by kernel_rfl) (by kernel_rfl) h

def f13.sh (Z : List PanicEntry → World → Prop) (x0 : Value) (w : World) (Q : Value → World → Prop) : Prop :=
 ∃ J_1 : Nat → Value → Value → World → Prop, (∃ m, J_1 m (.slice none 0 0) (.int .i64 0) w) ∧
 ∀ m_1, ∀ t2 : Value, ∀ t3 : Value, ∀ w : World, J_1 m_1 t2 t3 w → Env →
 run1 Tryz.prog Z (Builtin.len_ #[30] 3 #[x0]) w fun t4 w =>
 run1 Tryz.prog Z (binOp .lss 3 t3 t4) w fun t5 w =>
 CondV t5 (
 run1 Tryz.prog Z (Instr.indexAt 30 x0 t3) w fun t6 w =>
 run1 Tryz.prog Z (Instr.loadAt 60 t6) w fun t7 w =>
 CallV Tryz.prog Z 28 #[t7] w fun t8 w =>
 run1 Tryz.prog Z (Instr.buildSlice 30 1 #[(0, t8)]) w fun t9 w =>
 run1 Tryz.prog Z (Builtin.append_ #[30, 30] 30 #[t2, t9]) w fun t10 w =>
 run1 Tryz.prog Z (binOp .add 3 t3 (.int .i64 1)) w fun t11 w =>
 ∃ n_1, n_1 < m_1 ∧ J_1 n_1 t10 t11 w) (
 Q t2 w)
def f13.an : An := (.sq .leaf (.sq .leaf (.sq (.sq .leaf (.bl (.lp [3, 4] (.sq (.sq .leaf (.cn .leaf .leaf)) (.sq (.bl .leaf) .leaf))))) (.sq .leaf .leaf))))
theorem f13.calls {Z : List PanicEntry → World → Prop} {x0 : Value} {w : World} {Q : Value → World → Prop} (h : f13.sh Z x0 w Q) : CallV Tryz.prog Z 13 #[x0] w Q :=
 cl Tryz.func13 f13.an [x0] (by kernel_rfl) (by kernel_rfl) h

def f14.sh (Z : List PanicEntry → World → Prop) (x0 x1 x2 x3 : Value) (w : World) (Q : Value → World → Prop) : Prop :=
 run1 Tryz.prog Z (Instr.box 37 x3) w fun t1 w =>
 CallV Tryz.prog Z 29 #[x0, x1, x2] w fun t2 w =>
 run1 Tryz.prog Z (Instr.extract t2 0) w fun t3 w =>
 run1 Tryz.prog Z (Instr.extract t2 1) w fun t4 w =>
 run1 Tryz.prog Z (eqOp .neq 25 false true t4 (.int .i64 0)) w fun t5 w =>
 CondV t5 (
 Q (Value.tuple #[(.pointer none), t4]) w) (
 CallV Tryz.prog Z 34 #[x0] w fun t6 w =>
 run1 Tryz.prog Z (Op.unary .not t6) w fun t7 w =>
 CondV t7 (
 Q (Value.tuple #[(.pointer none), (.int .i64 23)]) w) (
 CallV Tryz.prog Z 35 #[x0, x1] w fun t8 w =>
 run1 Tryz.prog Z (Builtin.len_ #[80] 3 #[t8]) w fun t9 w =>
 run1 Tryz.prog Z (eqOp .eql 3 false true t9 (.int .i64 0)) w fun t10 w =>
 guardW (t10) false (fun k => k (t8) w) (fun t11 w =>
 guardW (t10) false (fun k => run1 Tryz.prog Z (Instr.indexAt 80 t11 (.int .i64 0)) w k) (fun t12 w =>
 guardW (t10) false (fun k => run1 Tryz.prog Z (Instr.loadAt 3 t12) w k) (fun t13 w =>
 guardW (t10) false (fun k => run1 Tryz.prog Z (eqOp .neq 3 false true t13 (.int .i64 1)) w k) (fun t14 w =>
 run1 Tryz.prog Z (pickV t10 (.bool true) t14) w fun t15 w =>
 CondV t15 (
 Q (Value.tuple #[(.pointer none), (.int .i64 20)]) w) (
 run1 Tryz.prog Z (Instr.loadAt 37 t1) w fun t16 w =>
 runX Tryz.prog Z (nilChk t3) w fun t17 w =>
 run1 Tryz.prog Z (Instr.fieldAt 39 t17 5) w fun t18 w =>
 run0 Tryz.prog Z (Instr.storeAt 37 t18 t16) w fun w =>
 run1 Tryz.prog Z (Builtin.len_ #[80] 3 #[t8]) w fun t19 w =>
 ∃ J_20 : Nat → Value → World → Prop, (∃ m, J_20 m (.int .i64 0) w) ∧
 ∀ m_20, ∀ t21 : Value, ∀ w : World, J_20 m_20 t21 w → Env →
 run1 Tryz.prog Z (binOp .lss 3 t21 t19) w fun t22 w =>
 CondV t22 (
 ∀ j_23 : World → Prop, (∀ w : World, (Env →
 run1 Tryz.prog Z (binOp .add 3 t21 (.int .i64 1)) w fun t24 w =>
 ∃ n_20, n_20 < m_20 ∧ J_20 n_20 t24 w) →
 j_23 w) →
 run1 Tryz.prog Z (Instr.indexAt 80 t8 t21) w fun t25 w =>
 run1 Tryz.prog Z (Instr.loadAt 3 t25) w fun t26 w =>
 CallV Tryz.prog Z 6 #[x1, t26] w fun t27 w =>
 CallV Tryz.prog Z 37 #[x0, t27] w fun t28 w =>
 run1 Tryz.prog Z (Instr.extract t28 0) w fun t29 w =>
 run1 Tryz.prog Z (Instr.extract t28 1) w fun t30 w =>
 run1 Tryz.prog Z (eqOp .neq 25 false true t30 (.int .i64 0)) w fun t31 w =>
 CondV t31 (
 Q (Value.tuple #[(.pointer none), t30]) w) (
 runX Tryz.prog Z (nilChk t3) w fun t32 w =>
 run1 Tryz.prog Z (Instr.fieldAt 39 t32 3) w fun t33 w =>
 run1 Tryz.prog Z (Instr.loadAt 34 t33) w fun t34 w =>
 run1 Tryz.prog Z (Instr.buildSlice 34 1 #[(0, t27)]) w fun t35 w =>
 run1 Tryz.prog Z (Builtin.append_ #[34, 34] 34 #[t34, t35]) w fun t36 w =>
 runX Tryz.prog Z (nilChk t3) w fun t37 w =>
 run1 Tryz.prog Z (Instr.fieldAt 39 t37 3) w fun t38 w =>
 run0 Tryz.prog Z (Instr.storeAt 34 t38 t36) w fun w =>
 runX Tryz.prog Z (nilChk t3) w fun t39 w =>
 run1 Tryz.prog Z (Instr.fieldAt 39 t39 4) w fun t40 w =>
 run0 Tryz.prog Z (Instr.storeAt 3 t40 (.int .i64 0)) w fun w =>
 CallV Tryz.prog Z 38 #[t3, t29] w fun t41 w =>
 run1 Tryz.prog Z (Instr.extract t41 0) w fun t42 w =>
 run1 Tryz.prog Z (Instr.extract t41 1) w fun t43 w =>
 run1 Tryz.prog Z (Builtin.len_ #[80] 3 #[t8]) w fun t44 w =>
 run1 Tryz.prog Z (binOp .sub 3 t44 (.int .i64 1)) w fun t45 w =>
 run1 Tryz.prog Z (eqOp .eql 3 false false t21 t45) w fun t46 w =>
 run1 Tryz.prog Z (binOp .add 3 t21 (.int .i64 1)) w fun t47 w =>
 run1 Tryz.prog Z (eqOp .neq 3 false false t26 t47) w fun t48 w =>
 guardW (t48) false (fun k => k (t43) w) (fun t49 w =>
 guardW (t48) false (fun k => run1 Tryz.prog Z (Op.unary .not t49) w k) (fun t50 w =>
 run1 Tryz.prog Z (pickV t48 (.bool true) t50) w fun t51 w =>
 guardW (t51) false (fun k => k (t46) w) (fun t52 w =>
 guardW (t51) false (fun k => run1 Tryz.prog Z (Op.unary .not t52) w k) (fun t53 w =>
 guardW (t51) false (fun k => k (t53) w) (fun t54 w =>
 guardW (t54) true (fun k => k (t42) w) (fun t55 w =>
 guardW (t54) true (fun k => k (t29) w) (fun t56 w =>
 guardW (t54) true (fun k => run1 Tryz.prog Z (Builtin.len_ #[53] 3 #[t56]) w k) (fun t57 w =>
 guardW (t54) true (fun k => run1 Tryz.prog Z (binOp .lss 3 t55 t57) w k) (fun t58 w =>
 guardW (t54) true (fun k => k (t58) w) (fun t59 w =>
 guardW (t59) false (fun k => k (t3) w) (fun t60 w =>
 guardW (t59) false (fun k => runX Tryz.prog Z (nilChk t60) w k) (fun t61 w =>
 guardW (t59) false (fun k => run1 Tryz.prog Z (Instr.fieldAt 39 t61 4) w k) (fun t62 w =>
 guardW (t59) false (fun k => run1 Tryz.prog Z (Instr.loadAt 3 t62) w k) (fun t63 w =>
 guardW (t59) false (fun k => run1 Tryz.prog Z (eqOp .eql 3 false true t63 (.int .i64 0)) w k) (fun t64 w =>
 guardW (t54) true (fun k => run1 Tryz.prog Z (pickV t59 (.bool true) t64) w k) (fun t65 w =>
 guardW (t51) false (fun k => run1 Tryz.prog Z (pickV t54 t65 (.bool false)) w k) (fun t66 w =>
 run1 Tryz.prog Z (pickV t51 (.bool true) t66) w fun t67 w =>
 CondV t67 (
 Q (Value.tuple #[(.pointer none), (.int .i64 101)]) w) (
 run1 Tryz.prog Z (Builtin.len_ #[53] 3 #[t29]) w fun t68 w =>
 run1 Tryz.prog Z (binOp .lss 3 t42 t68) w fun t69 w =>
 CondV t69 (
 CallV Tryz.prog Z 39 #[x0, t27, t42] w fun t70 w =>
 run1 Tryz.prog Z (eqOp .neq 25 false true t70 (.int .i64 0)) w fun t71 w =>
 CondV t71 (
 Q (Value.tuple #[(.pointer none), t70]) w) (
 j_23 w)) (
 j_23 w))) w) w) w) w) w) w) w) w) w) w) w) w) w) w) w) w) w)) (
 Q (Value.tuple #[t3, (.int .i64 0)]) w))) w) w) w) w))
def f14.an : An := (.sq .leaf (.sq .leaf (.sq (.sq .leaf (.cn (.sq .leaf .leaf) .leaf)) (.sq (.sq .leaf (.cn (.sq .leaf .leaf) .leaf)) (.sq .leaf (.sq (.sq .leaf (.cn (.sq .leaf .leaf) .leaf)) (.sq .leaf (.sq (.sq .leaf (.bl (.lp [53] (.sq .leaf (.sq (.cn .leaf .leaf) (.sj [] (.bl (.sq .leaf (.sq .leaf (.sq .leaf (.sq (.sq .leaf (.cn (.sq .leaf .leaf) .leaf)) (.sq .leaf (.sq .leaf (.sq .leaf (.sq .leaf (.sq (.sq .leaf (.cn (.sq .leaf .leaf) .leaf)) (.sq .leaf (.cn (.sq .leaf (.sq .leaf (.cn (.sq .leaf .leaf) .leaf))) .leaf)))))))))))) .leaf)))))) (.sq .leaf .leaf)))))))))
theorem f14.calls {Z : List PanicEntry → World → Prop} {x0 x1 x2 x3 : Value} {w : World} {Q : Value → World → Prop} (h : f14.sh Z x0 x1 x2 x3 w Q) : CallV Tryz.prog Z 14 #[x0, x1, x2, x3] w Q :=
 cl Tryz.func14 f14.an [x0, x1, x2, x3] (by kernel_rfl) (by kernel_rfl) h

def f15.sh (Z : List PanicEntry → World → Prop) (x0 : Value) (w : World) (Q : Value → World → Prop) : Prop :=
 run1 Tryz.prog Z (Instr.alloc 60 true (.tuple #[])) w fun t1 w =>
 run1 Tryz.prog Z (Instr.build 37 #[(0, (.int .u32 1)), (1, x0)]) w fun t2 w =>
 run1 Tryz.prog Z (Instr.build 58 #[(0, (.int .i8 7)), (8, (.int .i32 9))]) w fun t3 w =>
 run1 Tryz.prog Z (Instr.build 60 #[(0, t2), (2, t3)]) w fun t4 w =>
 run0 Tryz.prog Z (Instr.storeAt 60 t1 t4) w fun w =>
 ∃ r_5, (do loadVar 60 (← asAddr t1) : Sem Value).run Tryz.prog w = .ok r_5 w ∧
 Q r_5 w
def f15.an : An := (.sq .leaf (.sq .leaf .leaf))
theorem f15.calls {Z : List PanicEntry → World → Prop} {x0 : Value} {w : World} {Q : Value → World → Prop} (h : f15.sh Z x0 w Q) : CallV Tryz.prog Z 15 #[x0] w Q :=
 cl Tryz.func15 f15.an [x0] (by kernel_rfl) (by kernel_rfl) h

def f16.sh (Z : List PanicEntry → World → Prop) (x0 x1 : Value) (w : World) (Q : Value → World → Prop) : Prop :=
 run1 Tryz.prog Z (Instr.box 60 x1) w fun t1 w =>
 CallV Tryz.prog Z 40 #[x0] w fun t2 w =>
 CondV t2 (
 Q (.int .i64 1) w) (
 Drawn w fun w =>
 Read1 Tryz.prog (Instr.loadAt 60 t1) w fun t3 =>
 PureV Tryz.prog (nilChk x0) fun t4 =>
 Pure1 Tryz.prog (Instr.fieldAt 39 t4 5) fun t5 =>
 Read1 Tryz.prog (Instr.loadAt 37 t5) w fun t6 =>
 CallV Tryz.prog Z 31 #[t3, t6] w fun t7 w =>
 run1 Tryz.prog Z (eqOp .neq 25 false true t7 (.int .i64 0)) w fun t8 w =>
 CondV t8 (
 Q t7 w) (
 Drawn w fun w =>
 PureV Tryz.prog (nilChk x0) fun t9 =>
 Pure1 Tryz.prog (Instr.fieldAt 39 t9 4) fun t10 =>
 Read1 Tryz.prog (Instr.loadAt 3 t10) w fun t11 =>
 PureV Tryz.prog (nilChk x0) fun t12 =>
 Pure1 Tryz.prog (Instr.fieldAt 39 t12 2) fun t13 =>
 Read1 Tryz.prog (Instr.loadAt 3 t13) w fun t14 =>
 Pure1 Tryz.prog (binOp .geq 3 t11 t14) fun t15 =>
 CondV t15 (
 Drawn w fun w =>
 PureV Tryz.prog (nilChk x0) fun t16 =>
 Pure1 Tryz.prog (Instr.fieldAt 39 t16 1) fun t17 =>
 Read1 Tryz.prog (Instr.loadAt 2 t17) w fun t18 =>
 PureV Tryz.prog (nilChk x0) fun t19 =>
 Pure1 Tryz.prog (Instr.fieldAt 39 t19 3) fun t20 =>
 Read1 Tryz.prog (Instr.loadAt 60 t1) w fun t21 =>
 (
 run1 Tryz.prog Z (Instr.loadAt 34 t20) w fun t22 w =>
 Still Tryz.prog (nx (Instr.loadAt 60 t1)) t21 w <|
 Still Tryz.prog (nx (Instr.loadAt 2 t17)) t18 w <|
 Pure1 Tryz.prog (Builtin.len_ #[34] 3 #[t22]) fun t23 =>
 Pure1 Tryz.prog (binOp .add 3 t23 (.int .i64 1)) fun t24 =>
 (
 CallV Tryz.prog Z 6 #[t18, t24] w fun t25 w =>
 Still Tryz.prog (nx (Instr.loadAt 60 t1)) t21 w <|
 run1 Tryz.prog Z (Instr.buildSlice 30 1 #[(0, t21)]) w fun t26 w =>
 CallV Tryz.prog Z 36 #[x0, t25, (.bool true), t26] w fun t27 w =>
 Q t27 w) ∧
 (
 run1 Tryz.prog Z (Instr.buildSlice 30 1 #[(0, t21)]) w fun t28 w =>
 Still Tryz.prog (nx (Instr.loadAt 2 t17)) t18 w <|
 CallV Tryz.prog Z 6 #[t18, t24] w fun t29 w =>
 CallV Tryz.prog Z 36 #[x0, t29, (.bool true), t28] w fun t30 w =>
 Q t30 w)) ∧
 (
 run1 Tryz.prog Z (Instr.buildSlice 30 1 #[(0, t21)]) w fun t31 w =>
 Still Tryz.prog (nx (Instr.loadAt 2 t17)) t18 w <|
 run1 Tryz.prog Z (Instr.loadAt 34 t20) w fun t32 w =>
 Still Tryz.prog (nx (Instr.loadAt 2 t17)) t18 w <|
 Pure1 Tryz.prog (Builtin.len_ #[34] 3 #[t32]) fun t33 =>
 Pure1 Tryz.prog (binOp .add 3 t33 (.int .i64 1)) fun t34 =>
 CallV Tryz.prog Z 6 #[t18, t34] w fun t35 w =>
 CallV Tryz.prog Z 36 #[x0, t35, (.bool true), t31] w fun t36 w =>
 Q t36 w)) (
 Drawn w fun w =>
 PureV Tryz.prog (nilChk x0) fun t37 =>
 Pure1 Tryz.prog (Instr.fieldAt 39 t37 3) fun t38 =>
 Read1 Tryz.prog (Instr.loadAt 34 t38) w fun t39 =>
 PureV Tryz.prog (nilChk x0) fun t40 =>
 Pure1 Tryz.prog (Instr.fieldAt 39 t40 3) fun t41 =>
 Read1 Tryz.prog (Instr.loadAt 34 t41) w fun t42 =>
 Pure1 Tryz.prog (Builtin.len_ #[34] 3 #[t42]) fun t43 =>
 Pure1 Tryz.prog (binOp .sub 3 t43 (.int .i64 1)) fun t44 =>
 Pure1 Tryz.prog (Instr.indexAt 34 t39 t44) fun t45 =>
 Read1 Tryz.prog (Instr.loadAt 9 t45) w fun t46 =>
 Read1 Tryz.prog (Instr.loadAt 60 t1) w fun t47 =>
 run1 Tryz.prog Z (Instr.buildSlice 30 1 #[(0, t47)]) w fun t48 w =>
 Still Tryz.prog (nx (Instr.loadAt 9 t45)) t46 w <|
 Still Tryz.prog (nx (Instr.loadAt 34 t41)) t42 w <|
 Still Tryz.prog (nx (Instr.loadAt 34 t38)) t39 w <|
 CallV Tryz.prog Z 36 #[x0, t46, (.bool false), t48] w fun t49 w =>
 Still Tryz.prog (nx (Instr.loadAt 34 t41)) t42 w <|
 Still Tryz.prog (nx (Instr.loadAt 34 t38)) t39 w <|
 Q t49 w)))
def f16.an : An := (.sq .leaf (.sq (.sq .leaf (.cn (.sq .leaf .leaf) .leaf)) (.sq (.sq (.dr (pl [1, 4, 8, 12, 17, 22, 24] .fin)) (.sq .leaf (.cn (.sq .leaf .leaf) .leaf))) (.sq (.sq (.dr (pl [0, 4, 8, 13, 16, 20, 24, 29, 32] .fin)) (.cn (.sq (.dr (pl [0, 4, 8, 12, 17, 20, 24, 28, 49] (.two 8 (pl [36, 40] (.two 11 (pl [54, 58, 60] .fin) 13 (pl [46, 58, 60] .fin))) 13 (pl [34, 36, 40, 46, 58, 60] .fin)))) .leaf) .leaf)) (.sq (.dr (pl [0, 4, 8, 12, 17, 20, 24, 28, 33, 36, 40, 44, 49, 53, 58, 62, 64] .fin)) .leaf)))))
theorem f16.calls {Z : List PanicEntry → World → Prop} {x0 x1 : Value} {w : World} {Q : Value → World → Prop} (h : f16.sh Z x0 x1 w Q) : CallV Tryz.prog Z 16 #[x0, x1] w Q :=
 cl Tryz.func16 f16.an [x0, x1] (by kernel_rfl) (by kernel_rfl) h

def f17.sh (Z : List PanicEntry → World → Prop) (x0 : Value) (w : World) (Q : Value → World → Prop) : Prop :=
 CallV Tryz.prog Z 40 #[x0] w fun t1 w =>
 CondV t1 (
 Q (.slice none 0 0) w) (
 runX Tryz.prog Z (nilChk x0) w fun t2 w =>
 run1 Tryz.prog Z (Instr.fieldAt 39 t2 6) w fun t3 w =>
 run1 Tryz.prog Z (Instr.loadAt 30 t3) w fun t4 w =>
 run1 Tryz.prog Z (Builtin.len_ #[30] 3 #[t4]) w fun t5 w =>
 ∃ J_6 : Nat → Value → Value → World → Prop, (∃ m, J_6 m (.slice none 0 0) (.int .i64 0) w) ∧
 ∀ m_6, ∀ t7 : Value, ∀ t8 : Value, ∀ w : World, J_6 m_6 t7 t8 w → Env →
 run1 Tryz.prog Z (binOp .lss 3 t8 t5) w fun t9 w =>
 CondV t9 (
 run1 Tryz.prog Z (Instr.indexAt 30 t4 t8) w fun t10 w =>
 run1 Tryz.prog Z (Instr.loadAt 60 t10) w fun t11 w =>
 run1 Tryz.prog Z (Instr.alloc 60 true (.tuple #[])) w fun t12 w =>
 run0 Tryz.prog Z (Instr.storeAt 60 t12 t11) w fun w =>
 run1 Tryz.prog Z (Instr.loadAt 60 t12) w fun t13 w =>
 CallV Tryz.prog Z 41 #[t13] w fun t14 w =>
 run1 Tryz.prog Z (Instr.buildSlice 30 1 #[(0, t14)]) w fun t15 w =>
 run1 Tryz.prog Z (Builtin.append_ #[30, 30] 30 #[t7, t15]) w fun t16 w =>
 run1 Tryz.prog Z (binOp .add 3 t8 (.int .i64 1)) w fun t17 w =>
 ∃ n_6, n_6 < m_6 ∧ J_6 n_6 t16 t17 w) (
 Q t7 w))
def f17.an : An := (.sq .leaf (.sq (.sq .leaf (.cn (.sq .leaf .leaf) .leaf)) (.sq .leaf (.sq (.sq .leaf (.bl (.lp [3, 13] (.sq .leaf (.sq (.cn .leaf .leaf) (.sq (.bl (.sq .leaf .leaf)) .leaf)))))) (.sq .leaf .leaf)))))
theorem f17.calls {Z : List PanicEntry → World → Prop} {x0 : Value} {w : World} {Q : Value → World → Prop} (h : f17.sh Z x0 w Q) : CallV Tryz.prog Z 17 #[x0] w Q :=
 cl Tryz.func17 f17.an [x0] (by kernel_rfl) (by kernel_rfl) h

def f18.sh (Z : List PanicEntry → World → Prop) (x0 : Value) (w : World) (Q : Value → World → Prop) : Prop :=
 CallV Tryz.prog Z 40 #[x0] w fun t1 w =>
 CondV t1 (
 Q (.slice none 0 0) w) (
 runX Tryz.prog Z (nilChk x0) w fun t2 w =>
 run1 Tryz.prog Z (Instr.fieldAt 39 t2 3) w fun t3 w =>
 run1 Tryz.prog Z (Instr.loadAt 34 t3) w fun t4 w =>
 CallV Tryz.prog Z 42 #[t4] w fun t5 w =>
 Q t5 w)
def f18.an : An := (.sq .leaf (.sq (.sq .leaf (.cn (.sq .leaf .leaf) .leaf)) (.sq .leaf .leaf)))
theorem f18.calls {Z : List PanicEntry → World → Prop} {x0 : Value} {w : World} {Q : Value → World → Prop} (h : f18.sh Z x0 w Q) : CallV Tryz.prog Z 18 #[x0] w Q :=
 cl Tryz.func18 f18.an [x0] (by kernel_rfl) (by kernel_rfl) h

def f19.sh (Z : List PanicEntry → World → Prop) (x0 : Value) (w : World) (Q : Value → World → Prop) : Prop :=
 CallV Tryz.prog Z 20 #[x0, (.int .i64 16)] w fun t1 w =>
 run1 Tryz.prog Z (binOp .add 9 (.string { data := #[108, 111, 103, 46] }) t1) w fun t2 w =>
 run1 Tryz.prog Z (binOp .add 9 t2 (.string { data := #[46] })) w fun t3 w =>
 Q t3 w
def f19.an : An := (.sq .leaf (.sq .leaf .leaf))
theorem f19.calls {Z : List PanicEntry → World → Prop} {x0 : Value} {w : World} {Q : Value → World → Prop} (h : f19.sh Z x0 w Q) : CallV Tryz.prog Z 19 #[x0] w Q :=
 cl Tryz.func19 f19.an [x0] (by kernel_rfl) (by kernel_rfl) h

def f20.sh (Z : List PanicEntry → World → Prop) (x0 x1 : Value) (w : World) (Q : Value → World → Prop) : Prop :=
 CallV Tryz.prog Z 43 #[x0, x1] w fun t1 w =>
 Q t1 w
def f20.an : An := (.sq .leaf (.sq .leaf .leaf))
theorem f20.calls {Z : List PanicEntry → World → Prop} {x0 x1 : Value} {w : World} {Q : Value → World → Prop} (h : f20.sh Z x0 x1 w Q) : CallV Tryz.prog Z 20 #[x0, x1] w Q :=
 cl Tryz.func20 f20.an [x0, x1] (by kernel_rfl) (by kernel_rfl) h

def f22.sh (Z : List PanicEntry → World → Prop) (x0 x1 : Value) (w : World) (Q : Value → World → Prop) : Prop :=
 CallV Tryz.prog Z 44 #[x0] w fun t1 w =>
 CondV t1 (
 Q (.int .i64 1) w) (
 runX Tryz.prog Z (nilChk x0) w fun t2 w =>
 run1 Tryz.prog Z (Instr.fieldAt 47 t2 3) w fun t3 w =>
 run1 Tryz.prog Z (Instr.loadAt 4 t3) w fun t4 w =>
 run1 Tryz.prog Z (Op.unary .not t4) w fun t5 w =>
 CondV t5 (
 Q (.int .i64 23) w) (
 run1 Tryz.prog Z (Builtin.len_ #[34] 3 #[x1]) w fun t6 w =>
 ∃ J_7 : Nat → Value → World → Prop, (∃ m, J_7 m (.int .i64 0) w) ∧
 ∀ m_7, ∀ t8 : Value, ∀ w : World, J_7 m_7 t8 w → Env →
 run1 Tryz.prog Z (binOp .lss 3 t8 t6) w fun t9 w =>
 CondV t9 (
 run1 Tryz.prog Z (Instr.indexAt 34 x1 t8) w fun t10 w =>
 run1 Tryz.prog Z (Instr.loadAt 9 t10) w fun t11 w =>
 CallV Tryz.prog Z 45 #[t11] w fun t12 w =>
 run1 Tryz.prog Z (Op.unary .not t12) w fun t13 w =>
 CondV t13 (
 Q (.int .i64 22) w) (
 run1 Tryz.prog Z (binOp .add 3 t8 (.int .i64 1)) w fun t14 w =>
 ∃ n_7, n_7 < m_7 ∧ J_7 n_7 t14 w)) (
 Q (.int .i64 0) w)))
def f22.an : An := (.sq .leaf (.sq (.bl (.sq .leaf (.cn (.sq .leaf .leaf) (.sq .leaf (.cn (.sq .leaf .leaf) .leaf))))) (.sq (.sq .leaf (.bl (.lp [18] (.sq .leaf (.sq (.cn .leaf .leaf) (.sq (.bl (.sq .leaf (.sq .leaf (.cn (.sq .leaf .leaf) .leaf)))) .leaf)))))) (.sq .leaf .leaf))))
theorem f22.calls {Z : List PanicEntry → World → Prop} {x0 x1 : Value} {w : World} {Q : Value → World → Prop} (h : f22.sh Z x0 x1 w Q) : CallV Tryz.prog Z 22 #[x0, x1] w Q :=
 cl Tryz.func22 f22.an [x0, x1] (by kernel_rfl) (by kernel_rfl) h

def f23.sh (Z : List PanicEntry → World → Prop) (x0 x1 : Value) (w : World) (Q : Value → World → Prop) : Prop :=
 Drawn w fun w =>
 PureV Tryz.prog (nilChk x0) fun t1 =>
 Pure1 Tryz.prog (Instr.fieldAt 45 t1 0) fun t2 =>
 Read1 Tryz.prog (Instr.loadAt 43 t2) w fun t3 =>
 Pure1 Tryz.prog (Builtin.len_ #[43] 3 #[t3]) fun t4 =>
 ∃ J_5 : Nat → Value → Value → World → Prop, (∃ m, J_5 m (.int .i64 0) t4 w) ∧
 ∀ m_5, ∀ t6 : Value, ∀ t7 : Value, ∀ w : World, J_5 m_5 t6 t7 w → Env →
 run1 Tryz.prog Z (binOp .lss 3 t6 t7) w fun t8 w =>
 CondV t8 (
 run1 Tryz.prog Z (binOp .add 3 t6 t7) w fun t9 w =>
 run1 Tryz.prog Z (binOp .quo 3 t9 (.int .i64 2)) w fun t10 w =>
 runX Tryz.prog Z (nilChk x0) w fun t11 w =>
 run1 Tryz.prog Z (Instr.fieldAt 45 t11 0) w fun t12 w =>
 run1 Tryz.prog Z (Instr.loadAt 43 t12) w fun t13 w =>
 run1 Tryz.prog Z (Instr.indexAt 43 t13 t10) w fun t14 w =>
 run1 Tryz.prog Z (Instr.fieldAt 71 t14 0) w fun t15 w =>
 run1 Tryz.prog Z (Instr.loadAt 9 t15) w fun t16 w =>
 run1 Tryz.prog Z (binOp .lss 9 t16 x1) w fun t17 w =>
 CondV t17 (
 run1 Tryz.prog Z (binOp .add 3 t10 (.int .i64 1)) w fun t18 w =>
 ∃ n_5, n_5 < m_5 ∧ J_5 n_5 t18 t7 w) (
 ∃ n_5, n_5 < m_5 ∧ J_5 n_5 t6 t10 w)) (
 Drawn w fun w =>
 PureV Tryz.prog (nilChk x0) fun t19 =>
 Pure1 Tryz.prog (Instr.fieldAt 45 t19 0) fun t20 =>
 Read1 Tryz.prog (Instr.loadAt 43 t20) w fun t21 =>
 Pure1 Tryz.prog (Builtin.len_ #[43] 3 #[t21]) fun t22 =>
 Pure1 Tryz.prog (binOp .lss 3 t6 t22) fun t23 =>
 guardV (t23) true (fun k => k (x0)) (fun t24 =>
 guardV (t23) true (fun k => PureV Tryz.prog (nilChk t24) k) (fun t25 =>
 guardV (t23) true (fun k => Pure1 Tryz.prog (Instr.fieldAt 45 t25 0) k) (fun t26 =>
 guardV (t23) true (fun k => Read1 Tryz.prog (Instr.loadAt 43 t26) w k) (fun t27 =>
 guardV (t23) true (fun k => k (t6)) (fun t28 =>
 guardV (t23) true (fun k => Pure1 Tryz.prog (Instr.indexAt 43 t27 t28) k) (fun t29 =>
 guardV (t23) true (fun k => Pure1 Tryz.prog (Instr.fieldAt 71 t29 0) k) (fun t30 =>
 guardV (t23) true (fun k => Read1 Tryz.prog (Instr.loadAt 9 t30) w k) (fun t31 =>
 guardV (t23) true (fun k => k (x1)) (fun t32 =>
 guardV (t23) true (fun k => Pure1 Tryz.prog (eqOp .eql 9 false false t31 t32) k) (fun t33 =>
 Pure1 Tryz.prog (pickV t23 t33 (.bool false)) fun t34 =>
 Q (Value.tuple #[t6, t34]) w)))))))))))
def f23.an : An := (.sq .leaf (.sq (.dr (pl [0, 4, 8, 13, 16, 20, 24] .fin)) (.sq (.bl (.lp [6, 7] (.sq (.sq .leaf (.cn .leaf .leaf)) (.bl (.sq .leaf (.sq .leaf (.cn .leaf .leaf))))))) (.sq (.dr (pl [0, 4, 8, 12, 16, 21, 24, 28, 32, 36, 40, 44, 49, 52, 56, 60, 65, 68, 72, 76, 80, 84] .fin)) .leaf))))
theorem f23.calls {Z : List PanicEntry → World → Prop} {x0 x1 : Value} {w : World} {Q : Value → World → Prop} (h : f23.sh Z x0 x1 w Q) : CallV Tryz.prog Z 23 #[x0, x1] w Q :=
 cl Tryz.func23 f23.an [x0, x1] (by kernel_rfl) (by kernel_rfl) h

def f24.sh (Z : List PanicEntry → World → Prop) (x0 : Value) (w : World) (Q : Value → World → Prop) : Prop :=
 runX Tryz.prog Z (nilChk x0) w fun t1 w =>
 run1 Tryz.prog Z (Instr.fieldAt 47 t1 4) w fun t2 w =>
 run1 Tryz.prog Z (Instr.loadAt 4 t2) w fun t3 w =>
 guardW (t3) true (fun k => k (x0) w) (fun t4 w =>
 guardW (t3) true (fun k => runX Tryz.prog Z (nilChk t4) w k) (fun t5 w =>
 guardW (t3) true (fun k => run1 Tryz.prog Z (Instr.fieldAt 47 t5 5) w k) (fun t6 w =>
 guardW (t3) true (fun k => run1 Tryz.prog Z (Instr.loadAt 3 t6) w k) (fun t7 w =>
 guardW (t3) true (fun k => run1 Tryz.prog Z (eqOp .eql 3 false true t7 (.int .i64 0)) w k) (fun t8 w =>
 run1 Tryz.prog Z (pickV t3 t8 (.bool false)) w fun t9 w =>
 CondV t9 (
 CallV Tryz.prog Z 46 #[x0] w fun t10 w =>
 Q (.bool false) w) (
 runX Tryz.prog Z (nilChk x0) w fun t11 w =>
 run1 Tryz.prog Z (Instr.fieldAt 47 t11 5) w fun t12 w =>
 run1 Tryz.prog Z (Instr.loadAt 3 t12) w fun t13 w =>
 run1 Tryz.prog Z (binOp .sub 3 t13 (.int .i64 1)) w fun t14 w =>
 runX Tryz.prog Z (nilChk x0) w fun t15 w =>
 run1 Tryz.prog Z (Instr.fieldAt 47 t15 5) w fun t16 w =>
 run0 Tryz.prog Z (Instr.storeAt 3 t16 t14) w fun w =>
 runX Tryz.prog Z (nilChk x0) w fun t17 w =>
 run1 Tryz.prog Z (Instr.fieldAt 47 t17 6) w fun t18 w =>
 run1 Tryz.prog Z (Instr.loadAt 3 t18) w fun t19 w =>
 run1 Tryz.prog Z (binOp .add 3 t19 (.int .i64 1)) w fun t20 w =>
 runX Tryz.prog Z (nilChk x0) w fun t21 w =>
 run1 Tryz.prog Z (Instr.fieldAt 47 t21 6) w fun t22 w =>
 run0 Tryz.prog Z (Instr.storeAt 3 t22 t20) w fun w =>
 Q (.bool true) w)) w) w) w) w) w
def f24.an : An := (.sq .leaf (.sq (.sq .leaf (.cn (.sq .leaf (.sq .leaf .leaf)) .leaf)) (.sq .leaf (.sq .leaf (.sq .leaf .leaf)))))
theorem f24.calls {Z : List PanicEntry → World → Prop} {x0 : Value} {w : World} {Q : Value → World → Prop} (h : f24.sh Z x0 w Q) : CallV Tryz.prog Z 24 #[x0] w Q :=
 cl Tryz.func24 f24.an [x0] (by kernel_rfl) (by kernel_rfl) h

def f25.sh (Z : List PanicEntry → World → Prop) (x0 x1 : Value) (w : World) (Q : Value → World → Prop) : Prop :=
 CallV Tryz.prog Z 23 #[x0, x1] w fun t1 w =>
 run1 Tryz.prog Z (Instr.extract t1 0) w fun t2 w =>
 run1 Tryz.prog Z (Instr.extract t1 1) w fun t3 w =>
 ∀ j_4 : World → Prop, (∀ w : World, (Env →
 Q t2 w) →
 j_4 w) →
 run1 Tryz.prog Z (Op.unary .not t3) w fun t5 w =>
 CondV t5 (
 runX Tryz.prog Z (nilChk x0) w fun t6 w =>
 run1 Tryz.prog Z (Instr.fieldAt 45 t6 0) w fun t7 w =>
 run1 Tryz.prog Z (Instr.loadAt 43 t7) w fun t8 w =>
 run1 Tryz.prog Z (Instr.build 71 #[(0, x1)]) w fun t9 w =>
 run1 Tryz.prog Z (Instr.buildSlice 43 1 #[(0, t9)]) w fun t10 w =>
 CallV Tryz.prog Z 47 #[t8, t2, t10] w fun t11 w =>
 runX Tryz.prog Z (nilChk x0) w fun t12 w =>
 run1 Tryz.prog Z (Instr.fieldAt 45 t12 0) w fun t13 w =>
 run0 Tryz.prog Z (Instr.storeAt 43 t13 t11) w fun w =>
 j_4 w) (
 j_4 w)
def f25.an : An := (.sq .leaf (.sq .leaf (.sj [] (.sq .leaf (.cn .leaf .leaf)) (.sq .leaf .leaf))))
theorem f25.calls {Z : List PanicEntry → World → Prop} {x0 x1 : Value} {w : World} {Q : Value → World → Prop} (h : f25.sh Z x0 x1 w Q) : CallV Tryz.prog Z 25 #[x0, x1] w Q :=
 cl Tryz.func25 f25.an [x0, x1] (by kernel_rfl) (by kernel_rfl) h

def f26.sh (Z : List PanicEntry → World → Prop) (x0 : Value) (w : World) (Q : Value → World → Prop) : Prop :=
 run1 Tryz.prog Z (Instr.box 58 x0) w fun t1 w =>
 run1 Tryz.prog Z (Instr.loadAt 58 t1) w fun t2 w =>
 CallV Tryz.prog Z 27 #[t2] w fun t3 w =>
 run1 Tryz.prog Z (binOp .gtr 3 t3 (.int .i64 20000)) w fun t4 w =>
 Q t4 w
def f26.an : An := (.sq .leaf (.sq .leaf .leaf))
theorem f26.calls {Z : List PanicEntry → World → Prop} {x0 : Value} {w : World} {Q : Value → World → Prop} (h : f26.sh Z x0 w Q) : CallV Tryz.prog Z 26 #[x0] w Q :=
 cl Tryz.func26 f26.an [x0] (by kernel_rfl) (by kernel_rfl) h

def f27.sh (Z : List PanicEntry → World → Prop) (x0 : Value) (w : World) (Q : Value → World → Prop) : Prop :=
 run1 Tryz.prog Z (Instr.box 58 x0) w fun t1 w =>
 run1 Tryz.prog Z (Instr.loadAt 58 t1) w fun t2 w =>
 CallV Tryz.prog Z 48 #[t2, (.int .i64 0)] w fun t3 w =>
 Q t3 w
def f27.an : An := (.sq .leaf (.sq .leaf .leaf))
theorem f27.calls {Z : List PanicEntry → World → Prop} {x0 : Value} {w : World} {Q : Value → World → Prop} (h : f27.sh Z x0 w Q) : CallV Tryz.prog Z 27 #[x0] w Q :=
 cl Tryz.func27 f27.an [x0] (by kernel_rfl) (by kernel_rfl) h

def f28.sh (Z : List PanicEntry → World → Prop) (x0 : Value) (w : World) (Q : Value → World → Prop) : Prop :=
 run1 Tryz.prog Z (Instr.box 60 x0) w fun t1 w =>
 run1 Tryz.prog Z (Instr.alloc 60 true (.tuple #[])) w fun t2 w =>
 run1 Tryz.prog Z (Instr.fieldAt 60 t1 2) w fun t3 w =>
 run1 Tryz.prog Z (Instr.loadAt 58 t3) w fun t4 w =>
 CallV Tryz.prog Z 49 #[t4] w fun t5 w =>
 run1 Tryz.prog Z (Instr.fieldAt 60 t1 2) w fun t6 w =>
 run0 Tryz.prog Z (Instr.storeAt 58 t6 t5) w fun w =>
 run1 Tryz.prog Z (Instr.loadAt 60 t1) w fun t7 w =>
 run0 Tryz.prog Z (Instr.storeAt 60 t2 t7) w fun w =>
 ∃ r_8, (do loadVar 60 (← asAddr t2) : Sem Value).run Tryz.prog w = .ok r_8 w ∧
 Q r_8 w
def f28.an : An := (.sq .leaf (.sq .leaf (.sq .leaf .leaf)))
theorem f28.calls {Z : List PanicEntry → World → Prop} {x0 : Value} {w : World} {Q : Value → World → Prop} (h : f28.sh Z x0 w Q) : CallV Tryz.prog Z 28 #[x0] w Q :=
 cl Tryz.func28 f28.an [x0] (by kernel_rfl) (by kernel_rfl) h

def f29.sh (Z : List PanicEntry → World → Prop) (x0 x1 x2 : Value) (w : World) (Q : Value → World → Prop) : Prop :=
 CallV Tryz.prog Z 50 #[x0] w fun t1 w =>
 run1 Tryz.prog Z (Op.unary .not t1) w fun t2 w =>
 guardW (t2) false (fun k => k (x1) w) (fun t3 w =>
 guardW (t2) false (fun k => run1 Tryz.prog Z (binOp .lss 2 t3 (.int .i64 1)) w k) (fun t4 w =>
 run1 Tryz.prog Z (pickV t2 (.bool true) t4) w fun t5 w =>
 guardW (t5) false (fun k => k (x2) w) (fun t6 w =>
 guardW (t5) false (fun k => run1 Tryz.prog Z (binOp .lss 3 t6 (.int .i64 1)) w k) (fun t7 w =>
 run1 Tryz.prog Z (pickV t5 (.bool true) t7) w fun t8 w =>
 guardW (t8) false (fun k => k (x2) w) (fun t9 w =>
 guardW (t8) false (fun k => run1 Tryz.prog Z (binOp .gtr 3 t9 (.int .i64 64)) w k) (fun t10 w =>
 run1 Tryz.prog Z (pickV t8 (.bool true) t10) w fun t11 w =>
 CondV t11 (
 Q (Value.tuple #[(.pointer none), (.int .i64 1)]) w) (
 run1 Tryz.prog Z (Instr.build 39 #[(0, x0), (1, x1), (2, x2)]) w fun t12 w =>
 run1 Tryz.prog Z (Instr.box 39 t12) w fun t13 w =>
 Q (Value.tuple #[t13, (.int .i64 0)]) w)) w) w) w) w) w) w
def f29.an : An := (.sq .leaf (.sq (.sq .leaf (.cn (.sq .leaf .leaf) .leaf)) (.sq .leaf .leaf)))
theorem f29.calls {Z : List PanicEntry → World → Prop} {x0 x1 x2 : Value} {w : World} {Q : Value → World → Prop} (h : f29.sh Z x0 x1 x2 w Q) : CallV Tryz.prog Z 29 #[x0, x1, x2] w Q :=
 cl Tryz.func29 f29.an [x0, x1, x2] (by kernel_rfl) (by kernel_rfl) h

def f30.sh (Z : List PanicEntry → World → Prop) (x0 : Value) (w : World) (Q : Value → World → Prop) : Prop :=
 run1 Tryz.prog Z (Instr.box 60 x0) w fun t1 w =>
 run1 Tryz.prog Z (Instr.loadAt 60 t1) w fun t2 w =>
 run1 Tryz.prog Z (Instr.build 37 #[]) w fun t3 w =>
 CallV Tryz.prog Z 31 #[t2, t3] w fun t4 w =>
 run1 Tryz.prog Z (eqOp .neq 25 false true t4 (.int .i64 0)) w fun t5 w =>
 Q t5 w
def f30.an : An := (.sq .leaf (.sq .leaf .leaf))
theorem f30.calls {Z : List PanicEntry → World → Prop} {x0 : Value} {w : World} {Q : Value → World → Prop} (h : f30.sh Z x0 w Q) : CallV Tryz.prog Z 30 #[x0] w Q :=
 cl Tryz.func30 f30.an [x0] (by kernel_rfl) (by kernel_rfl) h

def f31.sh (Z : List PanicEntry → World → Prop) (x0 x1 : Value) (w : World) (Q : Value → World → Prop) : Prop :=
 run1 Tryz.prog Z (Instr.box 60 x0) w fun t1 w =>
 run1 Tryz.prog Z (Instr.box 37 x1) w fun t2 w =>
 run1 Tryz.prog Z (Instr.loadAt 60 t1) w fun t3 w =>
 CallV Tryz.prog Z 51 #[t3] w fun t4 w =>
 run1 Tryz.prog Z (eqOp .neq 25 false true t4 (.int .i64 0)) w fun t5 w =>
 guardW (t5) false (fun k => run1 Tryz.prog Z (Instr.fieldAt 60 t1 0) w k) (fun t6 w =>
 guardW (t5) false (fun k => run1 Tryz.prog Z (Instr.loadAt 37 t6) w k) (fun t7 w =>
 guardW (t5) false (fun k => run1 Tryz.prog Z (Instr.build 37 #[]) w k) (fun t8 w =>
 guardW (t5) false (fun k => run1 Tryz.prog Z (eqOp .eql 37 false false t7 t8) w k) (fun t9 w =>
 run1 Tryz.prog Z (pickV t5 (.bool true) t9) w fun t10 w =>
 CondV t10 (
 Q (.int .i64 40) w) (
 run1 Tryz.prog Z (Instr.loadAt 37 t2) w fun t11 w =>
 run1 Tryz.prog Z (Instr.fieldAt 60 t1 0) w fun t12 w =>
 run1 Tryz.prog Z (Instr.loadAt 37 t12) w fun t13 w =>
 CallV Tryz.prog Z 52 #[t11, t13] w fun t14 w =>
 run1 Tryz.prog Z (binOp .geq 3 t14 (.int .i64 0)) w fun t15 w =>
 CondV t15 (
 Q (.int .i64 100) w) (
 Q (.int .i64 0) w))) w) w) w) w
def f31.an : An := (.sq .leaf (.sq (.bl (.sq .leaf (.cn (.sq .leaf .leaf) (.sq .leaf (.cn (.sq .leaf .leaf) .leaf))))) (.sq .leaf .leaf)))
theorem f31.calls {Z : List PanicEntry → World → Prop} {x0 x1 : Value} {w : World} {Q : Value → World → Prop} (h : f31.sh Z x0 x1 w Q) : CallV Tryz.prog Z 31 #[x0, x1] w Q :=
 cl Tryz.func31 f31.an [x0, x1] (by kernel_rfl) (by kernel_rfl) h

def f32.sh (Z : List PanicEntry → World → Prop) (x0 x1 : Value) (w : World) (Q : Value → World → Prop) : Prop :=
 CallV Tryz.prog Z 53 #[x0, x1] w fun t1 w =>
 run1 Tryz.prog Z (binOp .geq 3 t1 (.int .i64 0)) w fun t2 w =>
 Q t2 w
def f32.an : An := (.sq .leaf (.sq .leaf .leaf))
theorem f32.calls {Z : List PanicEntry → World → Prop} {x0 x1 : Value} {w : World} {Q : Value → World → Prop} (h : f32.sh Z x0 x1 w Q) : CallV Tryz.prog Z 32 #[x0, x1] w Q :=
 cl Tryz.func32 f32.an [x0, x1] (by kernel_rfl) (by kernel_rfl) h

def f33.sh (Z : List PanicEntry → World → Prop) (x0 x1 : Value) (w : World) (Q : Value → World → Prop) : Prop :=
 run1 Tryz.prog Z (Instr.box 37 x0) w fun t1 w =>
 run1 Tryz.prog Z (Builtin.len_ #[30] 3 #[x1]) w fun t2 w =>
 ∃ J_3 : Nat → Value → World → Prop, (∃ m, J_3 m (.int .i64 0) w) ∧
 ∀ m_3, ∀ t4 : Value, ∀ w : World, J_3 m_3 t4 w → Env →
 run1 Tryz.prog Z (binOp .lss 3 t4 t2) w fun t5 w =>
 CondV t5 (
 run1 Tryz.prog Z (Instr.indexAt 30 x1 t4) w fun t6 w =>
 run1 Tryz.prog Z (Instr.loadAt 60 t6) w fun t7 w =>
 run1 Tryz.prog Z (Instr.alloc 60 true (.tuple #[])) w fun t8 w =>
 run0 Tryz.prog Z (Instr.storeAt 60 t8 t7) w fun w =>
 run1 Tryz.prog Z (Instr.loadAt 37 t1) w fun t9 w =>
 run1 Tryz.prog Z (Instr.fieldAt 60 t8 0) w fun t10 w =>
 run1 Tryz.prog Z (Instr.loadAt 37 t10) w fun t11 w =>
 CallV Tryz.prog Z 52 #[t9, t11] w fun t12 w =>
 run1 Tryz.prog Z (binOp .geq 3 t12 (.int .i64 0)) w fun t13 w =>
 CondV t13 (
 Q (.bool false) w) (
 run1 Tryz.prog Z (Instr.fieldAt 60 t8 0) w fun t14 w =>
 run1 Tryz.prog Z (Instr.loadAt 37 t14) w fun t15 w =>
 run0 Tryz.prog Z (Instr.storeAt 37 t1 t15) w fun w =>
 run1 Tryz.prog Z (binOp .add 3 t4 (.int .i64 1)) w fun t16 w =>
 ∃ n_3, n_3 < m_3 ∧ J_3 n_3 t16 w)) (
 Q (.bool true) w)
def f33.an : An := (.sq .leaf (.sq (.sq .leaf (.bl (.lp [9] (.sq .leaf (.sq (.cn .leaf .leaf) (.sq (.bl (.sq .leaf (.sq (.sq .leaf (.cn (.sq .leaf .leaf) .leaf)) .leaf))) .leaf)))))) (.sq .leaf .leaf)))
theorem f33.calls {Z : List PanicEntry → World → Prop} {x0 x1 : Value} {w : World} {Q : Value → World → Prop} (h : f33.sh Z x0 x1 w Q) : CallV Tryz.prog Z 33 #[x0, x1] w Q :=
 cl Tryz.func33 f33.an [x0, x1] (by kernel_rfl) (by kernel_rfl) h

def f34.sh (Z : List PanicEntry → World → Prop) (x0 : Value) (w : World) (Q : Value → World → Prop) : Prop :=
 CallV Tryz.prog Z 44 #[x0] w fun t1 w =>
 run1 Tryz.prog Z (Op.unary .not t1) w fun t2 w =>
 guardW (t2) true (fun k => k (x0) w) (fun t3 w =>
 guardW (t2) true (fun k => runX Tryz.prog Z (nilChk t3) w k) (fun t4 w =>
 guardW (t2) true (fun k => run1 Tryz.prog Z (Instr.fieldAt 47 t4 3) w k) (fun t5 w =>
 guardW (t2) true (fun k => run1 Tryz.prog Z (Instr.loadAt 4 t5) w k) (fun t6 w =>
 run1 Tryz.prog Z (pickV t2 t6 (.bool false)) w fun t7 w =>
 Q t7 w) w) w) w) w
def f34.an : An := (.sq .leaf (.sq .leaf .leaf))
theorem f34.calls {Z : List PanicEntry → World → Prop} {x0 : Value} {w : World} {Q : Value → World → Prop} (h : f34.sh Z x0 w Q) : CallV Tryz.prog Z 34 #[x0] w Q :=
 cl Tryz.func34 f34.an [x0] (by kernel_rfl) (by kernel_rfl) h

def f35.sh (Z : List PanicEntry → World → Prop) (x0 x1 : Value) (w : World) (Q : Value → World → Prop) : Prop :=
 CallV Tryz.prog Z 54 #[x0] w fun t1 w =>
 run1 Tryz.prog Z (Builtin.len_ #[34] 3 #[t1]) w fun t2 w =>
 ∃ J_3 : Nat → Value → Value → World → Prop, (∃ m, J_3 m (.slice none 0 0) (.int .i64 0) w) ∧
 ∀ m_3, ∀ t4 : Value, ∀ t5 : Value, ∀ w : World, J_3 m_3 t4 t5 w → Env →
 run1 Tryz.prog Z (binOp .lss 3 t5 t2) w fun t6 w =>
 CondV t6 (
 ∀ j_7 : Value → World → Prop, (∀ t8 : Value, ∀ w : World, (Env →
 run1 Tryz.prog Z (binOp .add 3 t5 (.int .i64 1)) w fun t9 w =>
 ∃ n_3, n_3 < m_3 ∧ J_3 n_3 t8 t9 w) →
 j_7 t8 w) →
 run1 Tryz.prog Z (Instr.indexAt 34 t1 t5) w fun t10 w =>
 run1 Tryz.prog Z (Instr.loadAt 9 t10) w fun t11 w =>
 CallV Tryz.prog Z 19 #[x1] w fun t12 w =>
 CallV Tryz.prog Z 55 #[t11, t12] w fun t13 w =>
 run1 Tryz.prog Z (Instr.extract t13 0) w fun t14 w =>
 run1 Tryz.prog Z (Instr.extract t13 1) w fun t15 w =>
 run1 Tryz.prog Z (Op.unary .not t15) w fun t16 w =>
 CondV t16 (
 j_7 t4 w) (
 CallV Tryz.prog Z 56 #[t14, (.int .i64 16), (.int .i64 64)] w fun t17 w =>
 run1 Tryz.prog Z (Instr.extract t17 0) w fun t18 w =>
 run1 Tryz.prog Z (Instr.extract t17 1) w fun t19 w =>
 run1 Tryz.prog Z (eqOp .eql 99 false true t19 .nilIface) w fun t20 w =>
 guardW (t20) true (fun k => k (x1) w) (fun t21 w =>
 guardW (t20) true (fun k => k (t18) w) (fun t22 w =>
 guardW (t20) true (fun k => CallV Tryz.prog Z 6 #[t21, t22] w k) (fun t23 w =>
 guardW (t20) true (fun k => k (t11) w) (fun t24 w =>
 guardW (t20) true (fun k => run1 Tryz.prog Z (eqOp .eql 9 false false t23 t24) w k) (fun t25 w =>
 run1 Tryz.prog Z (pickV t20 t25 (.bool false)) w fun t26 w =>
 CondV t26 (
 run1 Tryz.prog Z (Instr.buildSlice 80 1 #[(0, t18)]) w fun t27 w =>
 run1 Tryz.prog Z (Builtin.append_ #[80, 80] 80 #[t4, t27]) w fun t28 w =>
 j_7 t28 w) (
 j_7 t4 w)) w) w) w) w) w)) (
 CallV Tryz.prog Z 57 #[t4] w fun t29 w =>
 Q t4 w)
def f35.an : An := (.sq .leaf (.sq .leaf (.sq (.sq .leaf (.bl (.lp [5, 15] (.sq .leaf (.sq (.cn .leaf .leaf) (.sj [5] (.bl (.sq .leaf (.sq .leaf (.sq (.sq .leaf (.cn .leaf .leaf)) (.sq .leaf (.sq .leaf (.cn .leaf .leaf))))))) .leaf)))))) (.sq .leaf (.sq .leaf .leaf)))))
theorem f35.calls {Z : List PanicEntry → World → Prop} {x0 x1 : Value} {w : World} {Q : Value → World → Prop} (h : f35.sh Z x0 x1 w Q) : CallV Tryz.prog Z 35 #[x0, x1] w Q :=
 cl Tryz.func35 f35.an [x0, x1] (by kernel_rfl) (by kernel_rfl) h

def f37.sh (Z : List PanicEntry → World → Prop) (x0 x1 : Value) (w : World) (Q : Value → World → Prop) : Prop :=
 CallV Tryz.prog Z 61 #[x0, x1] w fun t1 w =>
 run1 Tryz.prog Z (Instr.extract t1 0) w fun t2 w =>
 run1 Tryz.prog Z (Instr.extract t1 1) w fun t3 w =>
 run1 Tryz.prog Z (eqOp .neq 25 false true t3 (.int .i64 0)) w fun t4 w =>
 CondV t4 (
 Q (Value.tuple #[(.slice none 0 0), t3]) w) (
 runX Tryz.prog Z (nilChk x0) w fun t5 w =>
 run1 Tryz.prog Z (Instr.fieldAt 47 t5 0) w fun t6 w =>
 run1 Tryz.prog Z (Instr.fieldAt 45 t6 0) w fun t7 w =>
 run1 Tryz.prog Z (Instr.loadAt 43 t7) w fun t8 w =>
 run1 Tryz.prog Z (Instr.indexAt 43 t8 t2) w fun t9 w =>
 run1 Tryz.prog Z (Instr.fieldAt 71 t9 1) w fun t10 w =>
 run1 Tryz.prog Z (Instr.loadAt 53 t10) w fun t11 w =>
 CallV Tryz.prog Z 62 #[t11] w fun t12 w =>
 Q (Value.tuple #[t12, (.int .i64 0)]) w)
def f37.an : An := (.sq .leaf (.sq .leaf (.sq (.sq .leaf (.cn (.sq .leaf .leaf) .leaf)) (.sq .leaf .leaf))))
theorem f37.calls {Z : List PanicEntry → World → Prop} {x0 x1 : Value} {w : World} {Q : Value → World → Prop} (h : f37.sh Z x0 x1 w Q) : CallV Tryz.prog Z 37 #[x0, x1] w Q :=
 cl Tryz.func37 f37.an [x0, x1] (by kernel_rfl) (by kernel_rfl) h

def f39.sh (Z : List PanicEntry → World → Prop) (x0 x1 x2 : Value) (w : World) (Q : Value → World → Prop) : Prop :=
 CallV Tryz.prog Z 61 #[x0, x1] w fun t1 w =>
 run1 Tryz.prog Z (Instr.extract t1 0) w fun t2 w =>
 run1 Tryz.prog Z (Instr.extract t1 1) w fun t3 w =>
 run1 Tryz.prog Z (eqOp .neq 25 false true t3 (.int .i64 0)) w fun t4 w =>
 CondV t4 (
 Q t3 w) (
 run1 Tryz.prog Z (binOp .lss 3 x2 (.int .i64 0)) w fun t5 w =>
 guardW (t5) false (fun k => k (x2) w) (fun t6 w =>
 guardW (t5) false (fun k => k (x0) w) (fun t7 w =>
 guardW (t5) false (fun k => runX Tryz.prog Z (nilChk t7) w k) (fun t8 w =>
 guardW (t5) false (fun k => run1 Tryz.prog Z (Instr.fieldAt 47 t8 0) w k) (fun t9 w =>
 guardW (t5) false (fun k => run1 Tryz.prog Z (Instr.fieldAt 45 t9 0) w k) (fun t10 w =>
 guardW (t5) false (fun k => run1 Tryz.prog Z (Instr.loadAt 43 t10) w k) (fun t11 w =>
 guardW (t5) false (fun k => k (t2) w) (fun t12 w =>
 guardW (t5) false (fun k => run1 Tryz.prog Z (Instr.indexAt 43 t11 t12) w k) (fun t13 w =>
 guardW (t5) false (fun k => run1 Tryz.prog Z (Instr.fieldAt 71 t13 1) w k) (fun t14 w =>
 guardW (t5) false (fun k => run1 Tryz.prog Z (Instr.loadAt 53 t14) w k) (fun t15 w =>
 guardW (t5) false (fun k => run1 Tryz.prog Z (Builtin.len_ #[53] 3 #[t15]) w k) (fun t16 w =>
 guardW (t5) false (fun k => run1 Tryz.prog Z (binOp .gtr 3 t6 t16) w k) (fun t17 w =>
 run1 Tryz.prog Z (pickV t5 (.bool true) t17) w fun t18 w =>
 CondV t18 (
 Q (.int .i64 1) w) (
 CallV Tryz.prog Z 24 #[x0] w fun t19 w =>
 run1 Tryz.prog Z (Op.unary .not t19) w fun t20 w =>
 CondV t20 (
 Q (.int .i64 23) w) (
 Drawn w fun w =>
 PureV Tryz.prog (nilChk x0) fun t21 =>
 Pure1 Tryz.prog (Instr.fieldAt 47 t21 0) fun t22 =>
 Pure1 Tryz.prog (Instr.fieldAt 45 t22 1) fun t23 =>
 Read1 Tryz.prog (Instr.loadAt 3 t23) w fun t24 =>
 PureV Tryz.prog (nilChk x0) fun t25 =>
 Pure1 Tryz.prog (Instr.fieldAt 47 t25 0) fun t26 =>
 Pure1 Tryz.prog (Instr.fieldAt 45 t26 0) fun t27 =>
 Read1 Tryz.prog (Instr.loadAt 43 t27) w fun t28 =>
 Pure1 Tryz.prog (Instr.indexAt 43 t28 t2) fun t29 =>
 Pure1 Tryz.prog (Instr.fieldAt 71 t29 1) fun t30 =>
 Read1 Tryz.prog (Instr.loadAt 53 t30) w fun t31 =>
 Pure1 Tryz.prog (Builtin.len_ #[53] 3 #[t31]) fun t32 =>
 Pure1 Tryz.prog (binOp .sub 3 t32 x2) fun t33 =>
 Pure1 Tryz.prog (binOp .sub 3 t24 t33) fun t34 =>
 PureV Tryz.prog (nilChk x0) fun t35 =>
 Pure1 Tryz.prog (Instr.fieldAt 47 t35 0) fun t36 =>
 Pure1 Tryz.prog (Instr.fieldAt 45 t36 1) fun t37 =>
 run0 Tryz.prog Z (Instr.storeAt 3 t37 t34) w fun w =>
 Drawn w fun w =>
 PureV Tryz.prog (nilChk x0) fun t38 =>
 Pure1 Tryz.prog (Instr.fieldAt 47 t38 0) fun t39 =>
 Pure1 Tryz.prog (Instr.fieldAt 45 t39 0) fun t40 =>
 Read1 Tryz.prog (Instr.loadAt 43 t40) w fun t41 =>
 PureV Tryz.prog (nilChk x0) fun t42 =>
 Pure1 Tryz.prog (Instr.fieldAt 47 t42 0) fun t43 =>
 Pure1 Tryz.prog (Instr.fieldAt 45 t43 0) fun t44 =>
 Read1 Tryz.prog (Instr.loadAt 43 t44) w fun t45 =>
 Pure1 Tryz.prog (Instr.indexAt 43 t45 t2) fun t46 =>
 Pure1 Tryz.prog (Instr.fieldAt 71 t46 1) fun t47 =>
 Read1 Tryz.prog (Instr.loadAt 53 t47) w fun t48 =>
 Pure1 Tryz.prog (Instr.sliceAt 53 t48 none (some x2) none) fun t49 =>
 Pure1 Tryz.prog (Instr.indexAt 43 t41 t2) fun t50 =>
 Pure1 Tryz.prog (Instr.fieldAt 71 t50 1) fun t51 =>
 run0 Tryz.prog Z (Instr.storeAt 53 t51 t49) w fun w =>
 runX Tryz.prog Z (nilChk x0) w fun t52 w =>
 run1 Tryz.prog Z (Instr.fieldAt 47 t52 0) w fun t53 w =>
 run1 Tryz.prog Z (Instr.fieldAt 45 t53 0) w fun t54 w =>
 run1 Tryz.prog Z (Instr.loadAt 43 t54) w fun t55 w =>
 run1 Tryz.prog Z (Instr.indexAt 43 t55 t2) w fun t56 w =>
 run1 Tryz.prog Z (Instr.fieldAt 71 t56 2) w fun t57 w =>
 run0 Tryz.prog Z (Instr.storeAt 3 t57 x2) w fun w =>
 Q (.int .i64 0) w))) w) w) w) w) w) w) w) w) w) w) w) w)
def f39.an : An := (.sq .leaf (.sq .leaf (.sq (.bl (.sq .leaf (.cn (.sq .leaf .leaf) (.sq .leaf (.cn (.sq .leaf .leaf) (.sq .leaf (.cn (.sq .leaf .leaf) .leaf))))))) (.sq (.dr (pl [0, 4, 8, 12, 17, 20, 24, 28, 32, 37, 40, 44, 48, 53, 56, 60, 64, 68, 72, 76, 80, 86] .fin)) (.sq (.dr (pl [0, 4, 8, 12, 17, 20, 24, 28, 32, 36, 41, 44, 48, 52, 57, 60, 64, 68, 72, 78] .fin)) (.sq .leaf (.sq .leaf .leaf)))))))
theorem f39.calls {Z : List PanicEntry → World → Prop} {x0 x1 x2 : Value} {w : World} {Q : Value → World → Prop} (h : f39.sh Z x0 x1 x2 w Q) : CallV Tryz.prog Z 39 #[x0, x1, x2] w Q :=
 cl Tryz.func39 f39.an [x0, x1, x2] (by kernel_rfl) (by kernel_rfl) h

def f40.sh (Z : List PanicEntry → World → Prop) (x0 : Value) (w : World) (Q : Value → World → Prop) : Prop :=
 run1 Tryz.prog Z (eqOp .eql 32 false true x0 (.pointer none)) w fun t1 w =>
 guardW (t1) false (fun k => k (x0) w) (fun t2 w =>
 guardW (t1) false (fun k => runX Tryz.prog Z (nilChk t2) w k) (fun t3 w =>
 guardW (t1) false (fun k => run1 Tryz.prog Z (Instr.fieldAt 39 t3 0) w k) (fun t4 w =>
 guardW (t1) false (fun k => run1 Tryz.prog Z (Instr.loadAt 24 t4) w k) (fun t5 w =>
 guardW (t1) false (fun k => run1 Tryz.prog Z (eqOp .eql 24 false true t5 (.pointer none)) w k) (fun t6 w =>
 run1 Tryz.prog Z (pickV t1 (.bool true) t6) w fun t7 w =>
 Q t7 w) w) w) w) w) w
def f40.an : An := (.sq .leaf (.sq .leaf .leaf))
theorem f40.calls {Z : List PanicEntry → World → Prop} {x0 : Value} {w : World} {Q : Value → World → Prop} (h : f40.sh Z x0 w Q) : CallV Tryz.prog Z 40 #[x0] w Q :=
 cl Tryz.func40 f40.an [x0] (by kernel_rfl) (by kernel_rfl) h

def f41.sh (Z : List PanicEntry → World → Prop) (x0 : Value) (w : World) (Q : Value → World → Prop) : Prop :=
 run1 Tryz.prog Z (Instr.box 60 x0) w fun t1 w =>
 run1 Tryz.prog Z (Instr.alloc 60 true (.tuple #[])) w fun t2 w =>
 run1 Tryz.prog Z (Instr.fieldAt 60 t1 2) w fun t3 w =>
 run1 Tryz.prog Z (Instr.loadAt 58 t3) w fun t4 w =>
 CallV Tryz.prog Z 65 #[t4] w fun t5 w =>
 run1 Tryz.prog Z (Instr.fieldAt 60 t1 2) w fun t6 w =>
 run0 Tryz.prog Z (Instr.storeAt 58 t6 t5) w fun w =>
 run1 Tryz.prog Z (Instr.loadAt 60 t1) w fun t7 w =>
 run0 Tryz.prog Z (Instr.storeAt 60 t2 t7) w fun w =>
 ∃ r_8, (do loadVar 60 (← asAddr t2) : Sem Value).run Tryz.prog w = .ok r_8 w ∧
 Q r_8 w
def f41.an : An := (.sq .leaf (.sq .leaf (.sq .leaf .leaf)))
theorem f41.calls {Z : List PanicEntry → World → Prop} {x0 : Value} {w : World} {Q : Value → World → Prop} (h : f41.sh Z x0 w Q) : CallV Tryz.prog Z 41 #[x0] w Q :=
 cl Tryz.func41 f41.an [x0] (by kernel_rfl) (by kernel_rfl) h

def f42.sh (Z : List PanicEntry → World → Prop) (x0 : Value) (w : World) (Q : Value → World → Prop) : Prop :=
 run1 Tryz.prog Z (eqOp .eql 34 false true x0 (.slice none 0 0)) w fun t1 w =>
 CondV t1 (
 Q (.slice none 0 0) w) (
 run1 Tryz.prog Z (Instr.buildSlice 34 0 #[]) w fun t2 w =>
 run1 Tryz.prog Z (Builtin.append_ #[34, 34] 34 #[t2, x0]) w fun t3 w =>
 Q t3 w)
def f42.an : An := (.sq .leaf (.sq (.sq .leaf (.cn (.sq .leaf .leaf) .leaf)) (.sq .leaf .leaf)))
theorem f42.calls {Z : List PanicEntry → World → Prop} {x0 : Value} {w : World} {Q : Value → World → Prop} (h : f42.sh Z x0 w Q) : CallV Tryz.prog Z 42 #[x0] w Q :=
 cl Tryz.func42 f42.an [x0] (by kernel_rfl) (by kernel_rfl) h

def f43.sh (Z : List PanicEntry → World → Prop) (x0 x1 : Value) (w : World) (Q : Value → World → Prop) : Prop :=
 run1 Tryz.prog Z (eqOp .eql 3 false true x1 (.int .i64 10)) w fun t1 w =>
 CondV t1 (
 run1 Tryz.prog Z (binOp .leq 2 (.int .i64 0) x0) w fun t2 w =>
 guardW (t2) true (fun k => k (x0) w) (fun t3 w =>
 guardW (t2) true (fun k => run1 Tryz.prog Z (binOp .lss 2 t3 (.int .i64 100)) w k) (fun t4 w =>
 run1 Tryz.prog Z (pickV t2 t4 (.bool false)) w fun t5 w =>
 CondV t5 (
 CallV Tryz.prog Z 66 #[x0] w fun t6 w =>
 Q t6 w) (
 run1 Tryz.prog Z (Instr.alloc 114 true (.tuple #[])) w fun t7 w =>
 run1 Tryz.prog Z (convert 2 115 x0) w fun t8 w =>
 ∀ j_9 : Value → World → Prop, (∀ t10 : Value, ∀ w : World, (Env →
 CallV Tryz.prog Z 67 #[t10] w fun t11 w =>
 run1 Tryz.prog Z (binOp .add 3 (.int .i64 1) t11) w fun t12 w =>
 run1 Tryz.prog Z (Instr.sliceAt 114 t7 (some (.int .i64 1)) (some t12) none) w fun t13 w =>
 CallV Tryz.prog Z 68 #[t13, t10] w fun t14 w =>
 run1 Tryz.prog Z (binOp .lss 2 x0 (.int .i64 0)) w fun t15 w =>
 CondV t15 (
 run1 Tryz.prog Z (Instr.indexAt 114 t7 (.int .i64 0)) w fun t16 w =>
 run0 Tryz.prog Z (Instr.storeAt 5 t16 (.int .u8 45)) w fun w =>
 run1 Tryz.prog Z (binOp .add 3 (.int .i64 1) t11) w fun t17 w =>
 run1 Tryz.prog Z (Instr.sliceAt 114 t7 none (some t17) none) w fun t18 w =>
 run1 Tryz.prog Z (convert 53 9 t18) w fun t19 w =>
 Q t19 w) (
 run1 Tryz.prog Z (binOp .add 3 (.int .i64 1) t11) w fun t20 w =>
 run1 Tryz.prog Z (Instr.sliceAt 114 t7 (some (.int .i64 1)) (some t20) none) w fun t21 w =>
 run1 Tryz.prog Z (convert 53 9 t21) w fun t22 w =>
 Q t22 w)) →
 j_9 t10 w) →
 run1 Tryz.prog Z (binOp .lss 2 x0 (.int .i64 0)) w fun t23 w =>
 CondV t23 (
 run1 Tryz.prog Z (Op.unary .neg t8) w fun t24 w =>
 j_9 t24 w) (
 j_9 t8 w))) w) w) (
 run1 Tryz.prog Z (convert 2 115 x0) w fun t25 w =>
 run1 Tryz.prog Z (binOp .lss 2 x0 (.int .i64 0)) w fun t26 w =>
 CallV Tryz.prog Z 69 #[(.slice none 0 0), t25, x1, t26, (.bool false)] w fun t27 w =>
 run1 Tryz.prog Z (Instr.extract t27 0) w fun t28 w =>
 run1 Tryz.prog Z (Instr.extract t27 1) w fun t29 w =>
 Q t29 w)
def f43.an : An := (.sq .leaf (.sq (.sq .leaf (.cn (.sq (.sq .leaf (.cn (.sq .leaf .leaf) .leaf)) (.sq .leaf (.sq .leaf (.sj [6] (.sq .leaf (.cn .leaf .leaf)) (.sq .leaf (.sq .leaf (.sq (.sq .leaf (.cn (.sq .leaf (.sq .leaf .leaf)) .leaf)) (.sq .leaf .leaf)))))))) .leaf)) (.sq .leaf (.sq .leaf .leaf))))
theorem f43.calls {Z : List PanicEntry → World → Prop} {x0 x1 : Value} {w : World} {Q : Value → World → Prop} (h : f43.sh Z x0 x1 w Q) : CallV Tryz.prog Z 43 #[x0, x1] w Q :=
 cl Tryz.func43 f43.an [x0, x1] (by kernel_rfl) (by kernel_rfl) h

def f44.sh (Z : List PanicEntry → World → Prop) (x0 : Value) (w : World) (Q : Value → World → Prop) : Prop :=
 run1 Tryz.prog Z (eqOp .eql 24 false true x0 (.pointer none)) w fun t1 w =>
 guardW (t1) false (fun k => k (x0) w) (fun t2 w =>
 guardW (t1) false (fun k => runX Tryz.prog Z (nilChk t2) w k) (fun t3 w =>
 guardW (t1) false (fun k => run1 Tryz.prog Z (Instr.fieldAt 47 t3 1) w k) (fun t4 w =>
 guardW (t1) false (fun k => run1 Tryz.prog Z (Instr.loadAt 4 t4) w k) (fun t5 w =>
 guardW (t1) false (fun k => run1 Tryz.prog Z (Op.unary .not t5) w k) (fun t6 w =>
 run1 Tryz.prog Z (pickV t1 (.bool true) t6) w fun t7 w =>
 Q t7 w) w) w) w) w) w
def f44.an : An := (.sq .leaf (.sq .leaf .leaf))
theorem f44.calls {Z : List PanicEntry → World → Prop} {x0 : Value} {w : World} {Q : Value → World → Prop} (h : f44.sh Z x0 w Q) : CallV Tryz.prog Z 44 #[x0] w Q :=
 cl Tryz.func44 f44.an [x0] (by kernel_rfl) (by kernel_rfl) h

def f45.sh (Z : List PanicEntry → World → Prop) (x0 : Value) (w : World) (Q : Value → World → Prop) : Prop :=
 run1 Tryz.prog Z (Builtin.len_ #[9] 3 #[x0]) w fun t1 w =>
 ∃ J_2 : Nat → Value → World → Prop, (∃ m, J_2 m (.int .i64 0) w) ∧
 ∀ m_2, ∀ t3 : Value, ∀ w : World, J_2 m_2 t3 w → Env →
 run1 Tryz.prog Z (binOp .lss 3 t3 t1) w fun t4 w =>
 CondV t4 (
 run1 Tryz.prog Z (Instr.index 9 x0 t3) w fun t5 w =>
 run1 Tryz.prog Z (binOp .lss 5 t5 (.int .u8 97)) w fun t6 w =>
 guardW (t6) false (fun k => k (t5) w) (fun t7 w =>
 guardW (t6) false (fun k => run1 Tryz.prog Z (binOp .gtr 5 t7 (.int .u8 122)) w k) (fun t8 w =>
 run1 Tryz.prog Z (pickV t6 (.bool true) t8) w fun t9 w =>
 guardW (t9) true (fun k => k (t5) w) (fun t10 w =>
 guardW (t9) true (fun k => run1 Tryz.prog Z (binOp .lss 5 t10 (.int .u8 48)) w k) (fun t11 w =>
 guardW (t9) true (fun k => k (t11) w) (fun t12 w =>
 guardW (t12) false (fun k => k (t5) w) (fun t13 w =>
 guardW (t12) false (fun k => run1 Tryz.prog Z (binOp .gtr 5 t13 (.int .u8 57)) w k) (fun t14 w =>
 guardW (t9) true (fun k => run1 Tryz.prog Z (pickV t12 (.bool true) t14) w k) (fun t15 w =>
 run1 Tryz.prog Z (pickV t9 t15 (.bool false)) w fun t16 w =>
 guardW (t16) true (fun k => k (t5) w) (fun t17 w =>
 guardW (t16) true (fun k => run1 Tryz.prog Z (eqOp .neq 5 false true t17 (.int .u8 46)) w k) (fun t18 w =>
 run1 Tryz.prog Z (pickV t16 t18 (.bool false)) w fun t19 w =>
 CondV t19 (
 Q (.bool false) w) (
 run1 Tryz.prog Z (binOp .add 3 t3 (.int .i64 1)) w fun t20 w =>
 ∃ n_2, n_2 < m_2 ∧ J_2 n_2 t20 w)) w) w) w) w) w) w) w) w) w) w) (
 run1 Tryz.prog Z (Builtin.len_ #[9] 3 #[x0]) w fun t21 w =>
 run1 Tryz.prog Z (binOp .geq 3 t21 (.int .i64 1)) w fun t22 w =>
 guardW (t22) true (fun k => k (x0) w) (fun t23 w =>
 guardW (t22) true (fun k => run1 Tryz.prog Z (Builtin.len_ #[9] 3 #[t23]) w k) (fun t24 w =>
 guardW (t22) true (fun k => run1 Tryz.prog Z (binOp .leq 3 t24 (.int .i64 24)) w k) (fun t25 w =>
 run1 Tryz.prog Z (pickV t22 t25 (.bool false)) w fun t26 w =>
 Q t26 w) w) w) w)
def f45.an : An := (.sq .leaf (.sq (.sq .leaf (.bl (.lp [7] (.sq .leaf (.sq (.cn .leaf .leaf) (.sq (.bl (.sq .leaf (.sq .leaf (.sq .leaf (.cn (.sq .leaf .leaf) .leaf))))) .leaf)))))) (.sq .leaf .leaf)))
theorem f45.calls {Z : List PanicEntry → World → Prop} {x0 : Value} {w : World} {Q : Value → World → Prop} (h : f45.sh Z x0 w Q) : CallV Tryz.prog Z 45 #[x0] w Q :=
 cl Tryz.func45 f45.an [x0] (by kernel_rfl) (by kernel_rfl) h

def f46.sh (Z : List PanicEntry → World → Prop) (x0 : Value) (w : World) (Q : Value → World → Prop) : Prop :=
 CallV Tryz.prog Z 44 #[x0] w fun t1 w =>
 run1 Tryz.prog Z (Op.unary .not t1) w fun t2 w =>
 CondV t2 (
 runX Tryz.prog Z (nilChk x0) w fun t3 w =>
 run1 Tryz.prog Z (Instr.fieldAt 47 t3 3) w fun t4 w =>
 run0 Tryz.prog Z (Instr.storeAt 4 t4 (.bool false)) w fun w =>
 runX Tryz.prog Z (nilChk x0) w fun t5 w =>
 run1 Tryz.prog Z (Instr.fieldAt 47 t5 4) w fun t6 w =>
 run0 Tryz.prog Z (Instr.storeAt 4 t6 (.bool false)) w fun w =>
 Q (Value.tuple #[]) w) (
 Q (Value.tuple #[]) w)
def f46.an : An := (.sq .leaf (.cn .leaf .leaf))
theorem f46.calls {Z : List PanicEntry → World → Prop} {x0 : Value} {w : World} {Q : Value → World → Prop} (h : f46.sh Z x0 w Q) : CallV Tryz.prog Z 46 #[x0] w Q :=
 cl Tryz.func46 f46.an [x0] (by kernel_rfl) (by kernel_rfl) h

def f47.sh (Z : List PanicEntry → World → Prop) (x0 x1 x2 : Value) (w : World) (Q : Value → World → Prop) : Prop :=
 run1 Tryz.prog Z (Instr.sliceAt 43 x0 (some x1) none none) w fun t1 w =>
 run1 Tryz.prog Z (Builtin.len_ #[43] 3 #[x2]) w fun t2 w =>
 run1 Tryz.prog Z (eqOp .eql 3 false true t2 (.int .i64 0)) w fun t3 w =>
 CondV t3 (
 Q x0 w) (
 run1 Tryz.prog Z (Builtin.len_ #[43] 3 #[x0]) w fun t4 w =>
 run1 Tryz.prog Z (eqOp .eql 3 false false x1 t4) w fun t5 w =>
 CondV t5 (
 run1 Tryz.prog Z (Builtin.append_ #[43, 43] 43 #[x0, x2]) w fun t6 w =>
 Q t6 w) (
 run1 Tryz.prog Z (binOp .add 3 t4 t2) w fun t7 w =>
 run1 Tryz.prog Z (Builtin.cap_ #[43] 3 #[x0]) w fun t8 w =>
 run1 Tryz.prog Z (binOp .gtr 3 t7 t8) w fun t9 w =>
 CondV t9 (
 run1 Tryz.prog Z (Instr.sliceAt 43 x0 none (some x1) none) w fun t10 w =>
 run1 Tryz.prog Z (binOp .add 3 t4 t2) w fun t11 w =>
 run1 Tryz.prog Z (binOp .sub 3 t11 x1) w fun t12 w =>
 run1 Tryz.prog Z (Builtin.append_ #[43, 3] 43 #[t10, t12]) w fun t13 w =>
 run1 Tryz.prog Z (Instr.sliceAt 43 t13 (some x1) none none) w fun t14 w =>
 run1 Tryz.prog Z (Builtin.copy_ #[43, 43] 3 #[t14, x2]) w fun t15 w =>
 Drawn w fun w =>
 Pure1 Tryz.prog (binOp .add 3 x1 t2) fun t16 =>
 Pure1 Tryz.prog (Instr.sliceAt 43 t13 (some t16) none none) fun t17 =>
 Pure1 Tryz.prog (Instr.sliceAt 43 x0 (some x1) none none) fun t18 =>
 run1 Tryz.prog Z (Builtin.copy_ #[43, 43] 3 #[t17, t18]) w fun t19 w =>
 Q t13 w) (
 run1 Tryz.prog Z (binOp .add 3 t4 t2) w fun t20 w =>
 run1 Tryz.prog Z (Instr.sliceAt 43 x0 none (some t20) none) w fun t21 w =>
 run1 Tryz.prog Z (binOp .add 3 x1 t2) w fun t22 w =>
 run1 Tryz.prog Z (Instr.sliceAt 43 t21 (some t22) none none) w fun t23 w =>
 runX Tryz.prog Z (callFunc 70 #[x2, t23]) w fun t24 w =>
 run1 Tryz.prog Z (Op.unary .not t24) w fun t25 w =>
 CondV t25 (
 Drawn w fun w =>
 Pure1 Tryz.prog (binOp .add 3 x1 t2) fun t26 =>
 Pure1 Tryz.prog (Instr.sliceAt 43 t21 (some t26) none none) fun t27 =>
 Pure1 Tryz.prog (Instr.sliceAt 43 t21 (some x1) none none) fun t28 =>
 run1 Tryz.prog Z (Builtin.copy_ #[43, 43] 3 #[t27, t28]) w fun t29 w =>
 run1 Tryz.prog Z (Instr.sliceAt 43 t21 (some x1) none none) w fun t30 w =>
 run1 Tryz.prog Z (Builtin.copy_ #[43, 43] 3 #[t30, x2]) w fun t31 w =>
 Q t21 w) (
 run1 Tryz.prog Z (Instr.sliceAt 43 t21 (some t4) none none) w fun t32 w =>
 run1 Tryz.prog Z (Builtin.copy_ #[43, 43] 3 #[t32, x2]) w fun t33 w =>
 run1 Tryz.prog Z (Instr.sliceAt 43 t21 (some x1) none none) w fun t34 w =>
 CallV Tryz.prog Z 71 #[t34, t2] w fun t35 w =>
 Q t21 w))))
def f47.an : An := (.sq .leaf (.sq .leaf (.sq .leaf (.sq (.sq .leaf (.cn (.sq .leaf .leaf) .leaf)) (.sq .leaf (.sq (.sq .leaf (.cn (.sq .leaf .leaf) .leaf)) (.sq (.sq .leaf (.cn (.sq .leaf (.sq .leaf (.sq (.dr (pl [0, 4, 8, 12, 16, 20, 24, 28, 34] .fin)) (.sq .leaf .leaf)))) .leaf)) (.sq .leaf (.sq (.sq .leaf (.cn (.sq (.dr (pl [0, 4, 8, 12, 16, 20, 24, 28, 34] .fin)) (.sq .leaf (.sq .leaf .leaf))) .leaf)) (.sq .leaf (.sq .leaf (.sq .leaf .leaf))))))))))))
theorem f47.calls {Z : List PanicEntry → World → Prop} {x0 x1 x2 : Value} {w : World} {Q : Value → World → Prop} (h : f47.sh Z x0 x1 x2 w Q) : CallV Tryz.prog Z 47 #[x0, x1, x2] w Q :=
 cl Tryz.func47 f47.an [x0, x1, x2] (by kernel_rfl) (by kernel_rfl) h

def f48.sh (Z : List PanicEntry → World → Prop) (x0 x1 : Value) (w : World) (Q : Value → World → Prop) : Prop :=
 run1 Tryz.prog Z (Instr.box 58 x0) w fun t1 w =>
 run1 Tryz.prog Z (binOp .add 3 x1 (.int .i64 1)) w fun t2 w =>
 run1 Tryz.prog Z (Instr.fieldAt 58 t1 2) w fun t3 w =>
 run1 Tryz.prog Z (Instr.loadAt 53 t3) w fun t4 w =>
 run1 Tryz.prog Z (Builtin.len_ #[53] 3 #[t4]) w fun t5 w =>
 run1 Tryz.prog Z (binOp .add 3 t2 t5) w fun t6 w =>
 run1 Tryz.prog Z (Instr.fieldAt 58 t1 3) w fun t7 w =>
 run1 Tryz.prog Z (Instr.loadAt 54 t7) w fun t8 w =>
 run1 Tryz.prog Z (Builtin.len_ #[54] 3 #[t8]) w fun t9 w =>
 run1 Tryz.prog Z (binOp .add 3 t6 t9) w fun t10 w =>
 run1 Tryz.prog Z (Instr.fieldAt 58 t1 9) w fun t11 w =>
 run1 Tryz.prog Z (Instr.loadAt 55 t11) w fun t12 w =>
 run1 Tryz.prog Z (Builtin.len_ #[55] 3 #[t12]) w fun t13 w =>
 run1 Tryz.prog Z (binOp .add 3 t10 t13) w fun t14 w =>
 ∃ J_15 : Nat → Value → Value → World → Prop, (∃ m, J_15 m t14 (.int .i64 0) w) ∧
 ∀ m_15, ∀ t16 : Value, ∀ t17 : Value, ∀ w : World, J_15 m_15 t16 t17 w → Env →
 run1 Tryz.prog Z (Instr.fieldAt 58 t1 10) w fun t18 w =>
 run1 Tryz.prog Z (Instr.loadAt 56 t18) w fun t19 w =>
 run1 Tryz.prog Z (Builtin.len_ #[56] 3 #[t19]) w fun t20 w =>
 run1 Tryz.prog Z (binOp .lss 3 t17 t20) w fun t21 w =>
 guardW (t21) true (fun k => k (t16) w) (fun t22 w =>
 guardW (t21) true (fun k => run1 Tryz.prog Z (binOp .leq 3 t22 (.int .i64 20000)) w k) (fun t23 w =>
 run1 Tryz.prog Z (pickV t21 t23 (.bool false)) w fun t24 w =>
 CondV t24 (
 run1 Tryz.prog Z (Instr.fieldAt 58 t1 10) w fun t25 w =>
 run1 Tryz.prog Z (Instr.loadAt 56 t25) w fun t26 w =>
 run1 Tryz.prog Z (Instr.indexAt 56 t26 t17) w fun t27 w =>
 run1 Tryz.prog Z (Instr.loadAt 58 t27) w fun t28 w =>
 CallV Tryz.prog Z 48 #[t28, t16] w fun t29 w =>
 run1 Tryz.prog Z (binOp .add 3 t17 (.int .i64 1)) w fun t30 w =>
 ∃ n_15, n_15 < m_15 ∧ J_15 n_15 t29 t30 w) (
 Q t16 w)) w) w
def f48.an : An := (.sq .leaf (.sq .leaf (.sq (.sq .leaf (.bl (.lp [1, 5] (.sq (.sq .leaf (.cn .leaf .leaf)) (.sq (.bl .leaf) .leaf))))) (.sq .leaf .leaf))))
theorem f48.calls {Z : List PanicEntry → World → Prop} {x0 x1 : Value} {w : World} {Q : Value → World → Prop} (h : f48.sh Z x0 x1 w Q) : CallV Tryz.prog Z 48 #[x0, x1] w Q :=
 cl Tryz.func48 f48.an [x0, x1] (by kernel_rfl) (by kernel_rfl) h

def f49.sh (Z : List PanicEntry → World → Prop) (x0 : Value) (w : World) (Q : Value → World → Prop) : Prop :=
 run1 Tryz.prog Z (Instr.box 58 x0) w fun t1 w =>
 run1 Tryz.prog Z (Instr.alloc 58 true (.tuple #[])) w fun t2 w =>
 run1 Tryz.prog Z (Instr.loadAt 58 t1) w fun t3 w =>
 run1 Tryz.prog Z (Instr.alloc 58 true (.tuple #[])) w fun t4 w =>
 run0 Tryz.prog Z (Instr.storeAt 58 t4 t3) w fun w =>
 run1 Tryz.prog Z (Instr.fieldAt 58 t1 2) w fun t5 w =>
 run1 Tryz.prog Z (Instr.loadAt 53 t5) w fun t6 w =>
 CallV Tryz.prog Z 72 #[t6] w fun t7 w =>
 run1 Tryz.prog Z (Instr.fieldAt 58 t4 2) w fun t8 w =>
 run0 Tryz.prog Z (Instr.storeAt 53 t8 t7) w fun w =>
 run1 Tryz.prog Z (Instr.fieldAt 58 t1 3) w fun t9 w =>
 run1 Tryz.prog Z (Instr.loadAt 54 t9) w fun t10 w =>
 CallV Tryz.prog Z 73 #[t10] w fun t11 w =>
 run1 Tryz.prog Z (Instr.fieldAt 58 t4 3) w fun t12 w =>
 run0 Tryz.prog Z (Instr.storeAt 54 t12 t11) w fun w =>
 run1 Tryz.prog Z (Instr.fieldAt 58 t1 9) w fun t13 w =>
 run1 Tryz.prog Z (Instr.loadAt 55 t13) w fun t14 w =>
 CallV Tryz.prog Z 74 #[t14] w fun t15 w =>
 run1 Tryz.prog Z (Instr.fieldAt 58 t4 9) w fun t16 w =>
 run0 Tryz.prog Z (Instr.storeAt 55 t16 t15) w fun w =>
 run1 Tryz.prog Z (Instr.fieldAt 58 t4 10) w fun t17 w =>
 run0 Tryz.prog Z (Instr.storeAt 56 t17 (.slice none 0 0)) w fun w =>
 ∃ J_18 : Nat → Value → World → Prop, (∃ m, J_18 m (.int .i64 0) w) ∧
 ∀ m_18, ∀ t19 : Value, ∀ w : World, J_18 m_18 t19 w → Env →
 run1 Tryz.prog Z (Instr.fieldAt 58 t1 10) w fun t20 w =>
 run1 Tryz.prog Z (Instr.loadAt 56 t20) w fun t21 w =>
 run1 Tryz.prog Z (Builtin.len_ #[56] 3 #[t21]) w fun t22 w =>
 run1 Tryz.prog Z (binOp .lss 3 t19 t22) w fun t23 w =>
 CondV t23 (
 Drawn w fun w =>
 Pure1 Tryz.prog (Instr.fieldAt 58 t4 10) fun t24 =>
 Read1 Tryz.prog (Instr.loadAt 56 t24) w fun t25 =>
 Pure1 Tryz.prog (Instr.fieldAt 58 t1 10) fun t26 =>
 Read1 Tryz.prog (Instr.loadAt 56 t26) w fun t27 =>
 Pure1 Tryz.prog (Instr.indexAt 56 t27 t19) fun t28 =>
 Read1 Tryz.prog (Instr.loadAt 58 t28) w fun t29 =>
 CallV Tryz.prog Z 49 #[t29] w fun t30 w =>
 Still Tryz.prog (nx (Instr.loadAt 56 t26)) t27 w <|
 Still Tryz.prog (nx (Instr.loadAt 56 t24)) t25 w <|
 run1 Tryz.prog Z (Instr.buildSlice 56 1 #[(0, t30)]) w fun t31 w =>
 Still Tryz.prog (nx (Instr.loadAt 56 t26)) t27 w <|
 Still Tryz.prog (nx (Instr.loadAt 56 t24)) t25 w <|
 run1 Tryz.prog Z (Builtin.append_ #[56, 56] 56 #[t25, t31]) w fun t32 w =>
 Still Tryz.prog (nx (Instr.loadAt 56 t26)) t27 w <|
 Pure1 Tryz.prog (Instr.fieldAt 58 t4 10) fun t33 =>
 run0 Tryz.prog Z (Instr.storeAt 56 t33 t32) w fun w =>
 run1 Tryz.prog Z (binOp .add 3 t19 (.int .i64 1)) w fun t34 w =>
 ∃ n_18, n_18 < m_18 ∧ J_18 n_18 t34 w) (
 run1 Tryz.prog Z (Instr.loadAt 58 t4) w fun t35 w =>
 run0 Tryz.prog Z (Instr.storeAt 58 t2 t35) w fun w =>
 ∃ r_36, (do loadVar 58 (← asAddr t2) : Sem Value).run Tryz.prog w = .ok r_36 w ∧
 Q r_36 w)
def f49.an : An := (.sq .leaf (.sq .leaf (.sq .leaf (.sq .leaf (.sq .leaf (.sq .leaf (.sq (.sq .leaf (.bl (.lp [4] (.sq (.sq .leaf (.cn .leaf .leaf)) (.sq (.bl (.dr (pl [0, 5, 8, 13, 16, 20, 25, 30, 34, 38, 40, 46] .fin))) .leaf))))) (.sq .leaf .leaf))))))))
theorem f49.calls {Z : List PanicEntry → World → Prop} {x0 : Value} {w : World} {Q : Value → World → Prop} (h : f49.sh Z x0 w Q) : CallV Tryz.prog Z 49 #[x0] w Q :=
 cl Tryz.func49 f49.an [x0] (by kernel_rfl) (by kernel_rfl) h

def f50.sh (Z : List PanicEntry → World → Prop) (x0 : Value) (w : World) (Q : Value → World → Prop) : Prop :=
 CallV Tryz.prog Z 37 #[x0, (.string { data := #[] })] w fun t1 w =>
 run1 Tryz.prog Z (Instr.extract t1 0) w fun t2 w =>
 run1 Tryz.prog Z (Instr.extract t1 1) w fun t3 w =>
 run1 Tryz.prog Z (eqOp .neq 25 false true t3 (.int .i64 1)) w fun t4 w =>
 Q t4 w
def f50.an : An := (.sq .leaf (.sq .leaf (.sq .leaf .leaf)))
theorem f50.calls {Z : List PanicEntry → World → Prop} {x0 : Value} {w : World} {Q : Value → World → Prop} (h : f50.sh Z x0 w Q) : CallV Tryz.prog Z 50 #[x0] w Q :=
 cl Tryz.func50 f50.an [x0] (by kernel_rfl) (by kernel_rfl) h

def f51.sh (Z : List PanicEntry → World → Prop) (x0 : Value) (w : World) (Q : Value → World → Prop) : Prop :=
 run1 Tryz.prog Z (Instr.box 60 x0) w fun t1 w =>
 run1 Tryz.prog Z (Instr.fieldAt 60 t1 0) w fun t2 w =>
 run1 Tryz.prog Z (Instr.loadAt 37 t2) w fun t3 w =>
 run1 Tryz.prog Z (Instr.alloc 37 true (.tuple #[])) w fun t4 w =>
 run0 Tryz.prog Z (Instr.storeAt 37 t4 t3) w fun w =>
 run1 Tryz.prog Z (Instr.fieldAt 37 t4 0) w fun t5 w =>
 run1 Tryz.prog Z (Instr.loadAt 35 t5) w fun t6 w =>
 run1 Tryz.prog Z (binOp .geq 35 t6 (.int .u32 1)) w fun t7 w =>
 guardW (t7) true (fun k => run1 Tryz.prog Z (Instr.fieldAt 37 t4 0) w k) (fun t8 w =>
 guardW (t7) true (fun k => run1 Tryz.prog Z (Instr.loadAt 35 t8) w k) (fun t9 w =>
 guardW (t7) true (fun k => run1 Tryz.prog Z (binOp .leq 35 t9 (.int .u32 2147483647)) w k) (fun t10 w =>
 run1 Tryz.prog Z (pickV t7 t10 (.bool false)) w fun t11 w =>
 guardW (t11) true (fun k => run1 Tryz.prog Z (Instr.fieldAt 37 t4 1) w k) (fun t12 w =>
 guardW (t11) true (fun k => run1 Tryz.prog Z (Instr.loadAt 35 t12) w k) (fun t13 w =>
 guardW (t11) true (fun k => run1 Tryz.prog Z (binOp .geq 35 t13 (.int .u32 1)) w k) (fun t14 w =>
 run1 Tryz.prog Z (pickV t11 t14 (.bool false)) w fun t15 w =>
 run1 Tryz.prog Z (Instr.loadAt 37 t4) w fun t16 w =>
 run1 Tryz.prog Z (Instr.build 37 #[]) w fun t17 w =>
 run1 Tryz.prog Z (eqOp .neq 37 false false t16 t17) w fun t18 w =>
 guardW (t18) true (fun k => k (t15) w) (fun t19 w =>
 guardW (t18) true (fun k => run1 Tryz.prog Z (Op.unary .not t19) w k) (fun t20 w =>
 run1 Tryz.prog Z (pickV t18 t20 (.bool false)) w fun t21 w =>
 CondV t21 (
 Q (.int .i64 40) w) (
 run1 Tryz.prog Z (Instr.fieldAt 60 t1 1) w fun t22 w =>
 run1 Tryz.prog Z (Instr.fieldAt 52 t22 0) w fun t23 w =>
 run1 Tryz.prog Z (Instr.loadAt 50 t23) w fun t24 w =>
 run1 Tryz.prog Z (binOp .lss 50 t24 (.int .i8 0)) w fun t25 w =>
 guardW (t25) false (fun k => run1 Tryz.prog Z (Instr.fieldAt 60 t1 1) w k) (fun t26 w =>
 guardW (t25) false (fun k => run1 Tryz.prog Z (Instr.fieldAt 52 t26 0) w k) (fun t27 w =>
 guardW (t25) false (fun k => run1 Tryz.prog Z (Instr.loadAt 50 t27) w k) (fun t28 w =>
 guardW (t25) false (fun k => run1 Tryz.prog Z (binOp .geq 50 t28 (.int .i8 7)) w k) (fun t29 w =>
 run1 Tryz.prog Z (pickV t25 (.bool true) t29) w fun t30 w =>
 guardW (t30) false (fun k => run1 Tryz.prog Z (Instr.fieldAt 60 t1 1) w k) (fun t31 w =>
 guardW (t30) false (fun k => run1 Tryz.prog Z (Instr.fieldAt 52 t31 2) w k) (fun t32 w =>
 guardW (t30) false (fun k => run1 Tryz.prog Z (Instr.loadAt 2 t32) w k) (fun t33 w =>
 guardW (t30) false (fun k => run1 Tryz.prog Z (binOp .lss 2 t33 (.int .i64 0)) w k) (fun t34 w =>
 run1 Tryz.prog Z (pickV t30 (.bool true) t34) w fun t35 w =>
 CondV t35 (
 Q (.int .i64 40) w) (
 run1 Tryz.prog Z (Instr.fieldAt 60 t1 2) w fun t36 w =>
 run1 Tryz.prog Z (Instr.fieldAt 58 t36 0) w fun t37 w =>
 run1 Tryz.prog Z (Instr.loadAt 50 t37) w fun t38 w =>
 run1 Tryz.prog Z (binOp .gtr 50 t38 (.int .i8 8)) w fun t39 w =>
 CondV t39 (
 Q (.int .i64 40) w) (
 run1 Tryz.prog Z (Instr.fieldAt 60 t1 2) w fun t40 w =>
 run1 Tryz.prog Z (Instr.loadAt 58 t40) w fun t41 w =>
 CallV Tryz.prog Z 75 #[t41] w fun t42 w =>
 Q t42 w))) w) w) w) w) w) w) w) w)) w) w) w) w) w) w) w) w
def f51.an : An := (.sq .leaf (.sq .leaf (.sq .leaf (.sq (.bl (.sq .leaf (.cn (.sq .leaf .leaf) (.sq .leaf (.cn (.sq .leaf .leaf) (.sq .leaf (.cn (.sq .leaf .leaf) .leaf))))))) (.sq .leaf .leaf)))))
theorem f51.calls {Z : List PanicEntry → World → Prop} {x0 : Value} {w : World} {Q : Value → World → Prop} (h : f51.sh Z x0 w Q) : CallV Tryz.prog Z 51 #[x0] w Q :=
 cl Tryz.func51 f51.an [x0] (by kernel_rfl) (by kernel_rfl) h

def f52.sh (Z : List PanicEntry → World → Prop) (x0 x1 : Value) (w : World) (Q : Value → World → Prop) : Prop :=
 run1 Tryz.prog Z (Instr.box 37 x0) w fun t1 w =>
 run1 Tryz.prog Z (Instr.box 37 x1) w fun t2 w =>
 Drawn w fun w =>
 Pure1 Tryz.prog (Instr.fieldAt 37 t1 0) fun t3 =>
 Read1 Tryz.prog (Instr.loadAt 35 t3) w fun t4 =>
 Pure1 Tryz.prog (Instr.fieldAt 37 t2 0) fun t5 =>
 Read1 Tryz.prog (Instr.loadAt 35 t5) w fun t6 =>
 Pure1 Tryz.prog (Instr.fieldAt 37 t1 1) fun t7 =>
 Read1 Tryz.prog (Instr.loadAt 35 t7) w fun t8 =>
 Pure1 Tryz.prog (Instr.fieldAt 37 t2 1) fun t9 =>
 Read1 Tryz.prog (Instr.loadAt 35 t9) w fun t10 =>
 CallV Tryz.prog Z 77 #[t4, t6] w fun t11 w =>
 Still Tryz.prog (nx (Instr.loadAt 35 t9)) t10 w <|
 Still Tryz.prog (nx (Instr.loadAt 35 t7)) t8 w <|
 CallV Tryz.prog Z 77 #[t8, t10] w fun t12 w =>
 run1 Tryz.prog Z (Instr.buildSlice 80 2 #[(0, t11), (1, t12)]) w fun t13 w =>
 CallV Tryz.prog Z 76 #[t13] w fun t14 w =>
 Q t14 w
def f52.an : An := (.sq .leaf (.sq (.dr (pl [0, 5, 8, 13, 20, 25, 28, 33, 18, 38, 42, 46, 48] .fin)) .leaf))
theorem f52.calls {Z : List PanicEntry → World → Prop} {x0 x1 : Value} {w : World} {Q : Value → World → Prop} (h : f52.sh Z x0 x1 w Q) : CallV Tryz.prog Z 52 #[x0, x1] w Q :=
 cl Tryz.func52 f52.an [x0, x1] (by kernel_rfl) (by kernel_rfl) h

def f53.sh (Z : List PanicEntry → World → Prop) (x0 x1 : Value) (w : World) (Q : Value → World → Prop) : Prop :=
 run1 Tryz.prog Z (Builtin.len_ #[30] 3 #[x0]) w fun t1 w =>
 ∃ J_2 : Nat → Value → World → Prop, (∃ m, J_2 m (.int .i64 0) w) ∧
 ∀ m_2, ∀ t3 : Value, ∀ w : World, J_2 m_2 t3 w → Env →
 run1 Tryz.prog Z (binOp .lss 3 t3 t1) w fun t4 w =>
 CondV t4 (
 run1 Tryz.prog Z (Instr.indexAt 30 x0 t3) w fun t5 w =>
 run1 Tryz.prog Z (Instr.loadAt 60 t5) w fun t6 w =>
 runX Tryz.prog Z (callVal x1 #[t6]) w fun t7 w =>
 CondV t7 (
 Q t3 w) (
 run1 Tryz.prog Z (binOp .add 3 t3 (.int .i64 1)) w fun t8 w =>
 ∃ n_2, n_2 < m_2 ∧ J_2 n_2 t8 w)) (
 Q (.int .i64 (-1)) w)
def f53.an : An := (.sq .leaf (.sq (.sq .leaf (.bl (.lp [8] (.sq .leaf (.sq (.cn .leaf .leaf) (.sq (.bl (.sq .leaf (.sq .leaf (.cn (.sq .leaf .leaf) .leaf)))) .leaf)))))) (.sq .leaf .leaf)))
theorem f53.calls {Z : List PanicEntry → World → Prop} {x0 x1 : Value} {w : World} {Q : Value → World → Prop} (h : f53.sh Z x0 x1 w Q) : CallV Tryz.prog Z 53 #[x0, x1] w Q :=
 cl Tryz.func53 f53.an [x0, x1] (by kernel_rfl) (by kernel_rfl) h

def f54.sh (Z : List PanicEntry → World → Prop) (x0 : Value) (w : World) (Q : Value → World → Prop) : Prop :=
 CallV Tryz.prog Z 44 #[x0] w fun t1 w =>
 CondV t1 (
 Q (.slice none 0 0) w) (
 runX Tryz.prog Z (nilChk x0) w fun t2 w =>
 run1 Tryz.prog Z (Instr.fieldAt 47 t2 0) w fun t3 w =>
 run1 Tryz.prog Z (Instr.fieldAt 45 t3 0) w fun t4 w =>
 run1 Tryz.prog Z (Instr.loadAt 43 t4) w fun t5 w =>
 run1 Tryz.prog Z (Builtin.len_ #[43] 3 #[t5]) w fun t6 w =>
 ∃ J_7 : Nat → Value → Value → World → Prop, (∃ m, J_7 m (.slice none 0 0) (.int .i64 0) w) ∧
 ∀ m_7, ∀ t8 : Value, ∀ t9 : Value, ∀ w : World, J_7 m_7 t8 t9 w → Env →
 run1 Tryz.prog Z (binOp .lss 3 t9 t6) w fun t10 w =>
 CondV t10 (
 run1 Tryz.prog Z (Instr.indexAt 43 t5 t9) w fun t11 w =>
 run1 Tryz.prog Z (Instr.loadAt 71 t11) w fun t12 w =>
 run1 Tryz.prog Z (Instr.alloc 71 true (.tuple #[])) w fun t13 w =>
 run0 Tryz.prog Z (Instr.storeAt 71 t13 t12) w fun w =>
 run1 Tryz.prog Z (Instr.fieldAt 71 t13 0) w fun t14 w =>
 run1 Tryz.prog Z (Instr.loadAt 9 t14) w fun t15 w =>
 run1 Tryz.prog Z (Instr.buildSlice 34 1 #[(0, t15)]) w fun t16 w =>
 run1 Tryz.prog Z (Builtin.append_ #[34, 34] 34 #[t8, t16]) w fun t17 w =>
 run1 Tryz.prog Z (binOp .add 3 t9 (.int .i64 1)) w fun t18 w =>
 ∃ n_7, n_7 < m_7 ∧ J_7 n_7 t17 t18 w) (
 Q t8 w))
def f54.an : An := (.sq .leaf (.sq (.sq .leaf (.cn (.sq .leaf .leaf) .leaf)) (.sq .leaf (.sq (.sq .leaf (.bl (.lp [3, 14] (.sq .leaf (.sq (.cn .leaf .leaf) (.sq (.bl (.sq .leaf .leaf)) .leaf)))))) (.sq .leaf .leaf)))))
theorem f54.calls {Z : List PanicEntry → World → Prop} {x0 : Value} {w : World} {Q : Value → World → Prop} (h : f54.sh Z x0 w Q) : CallV Tryz.prog Z 54 #[x0] w Q :=
 cl Tryz.func54 f54.an [x0] (by kernel_rfl) (by kernel_rfl) h

def f55.sh (Z : List PanicEntry → World → Prop) (x0 x1 : Value) (w : World) (Q : Value → World → Prop) : Prop :=
 CallV Tryz.prog Z 78 #[x0, x1] w fun t1 w =>
 run1 Tryz.prog Z (Instr.extract t1 0) w fun t2 w =>
 run1 Tryz.prog Z (Instr.extract t1 1) w fun t3 w =>
 Q (Value.tuple #[t2, t3]) w
def f55.an : An := (.sq .leaf (.sq .leaf .leaf))
theorem f55.calls {Z : List PanicEntry → World → Prop} {x0 x1 : Value} {w : World} {Q : Value → World → Prop} (h : f55.sh Z x0 x1 w Q) : CallV Tryz.prog Z 55 #[x0, x1] w Q :=
 cl Tryz.func55 f55.an [x0, x1] (by kernel_rfl) (by kernel_rfl) h

def f56.sh (Z : List PanicEntry → World → Prop) (x0 x1 x2 : Value) (w : World) (Q : Value → World → Prop) : Prop :=
 CallV Tryz.prog Z 79 #[x0, x1, x2] w fun t1 w =>
 run1 Tryz.prog Z (Instr.extract t1 0) w fun t2 w =>
 run1 Tryz.prog Z (Instr.extract t1 1) w fun t3 w =>
 run1 Tryz.prog Z (eqOp .neq 99 false true t3 .nilIface) w fun t4 w =>
 CondV t4 (
 CallV Tryz.prog Z 80 #[(.string { data := #[80, 97, 114, 115, 101, 73, 110, 116] }), x0, x1, x2, t3] w fun t5 w =>
 Q (Value.tuple #[t2, t5]) w) (
 Q (Value.tuple #[t2, .nilIface]) w)
def f56.an : An := (.sq .leaf (.sq .leaf (.sq (.sq .leaf (.cn (.sq .leaf .leaf) .leaf)) (.sq .leaf .leaf))))
theorem f56.calls {Z : List PanicEntry → World → Prop} {x0 x1 x2 : Value} {w : World} {Q : Value → World → Prop} (h : f56.sh Z x0 x1 x2 w Q) : CallV Tryz.prog Z 56 #[x0, x1, x2] w Q :=
 cl Tryz.func56 f56.an [x0, x1, x2] (by kernel_rfl) (by kernel_rfl) h

def f58.sh (Z : List PanicEntry → World → Prop) (x0 x1 x2 x3 x4 : Value) (w : World) (Q : Value → World → Prop) : Prop :=
 run1 Tryz.prog Z (Instr.loadAt 25 x0) w fun t1 w =>
 run1 Tryz.prog Z (eqOp .neq 25 false true t1 (.int .i64 0)) w fun t2 w =>
 CondV t2 (
 Q (Value.tuple #[]) w) (
 ∀ j_3 : World → Prop, (∀ w : World, (Env →
 Drawn w fun w =>
 Read1 Tryz.prog (Instr.loadAt 32 x2) w fun t4 =>
 PureV Tryz.prog (nilChk t4) fun t5 =>
 Pure1 Tryz.prog (Instr.fieldAt 39 t5 4) fun t6 =>
 Read1 Tryz.prog (Instr.loadAt 3 t6) w fun t7 =>
 Read1 Tryz.prog (Instr.loadAt 30 x4) w fun t8 =>
 Pure1 Tryz.prog (Builtin.len_ #[30] 3 #[t8]) fun t9 =>
 Pure1 Tryz.prog (binOp .add 3 t7 t9) fun t10 =>
 PureV Tryz.prog (nilChk t4) fun t11 =>
 Pure1 Tryz.prog (Instr.fieldAt 39 t11 4) fun t12 =>
 run0 Tryz.prog Z (Instr.storeAt 3 t12 t10) w fun w =>
 run1 Tryz.prog Z (Instr.loadAt 30 x4) w fun t13 w =>
 run1 Tryz.prog Z (Builtin.len_ #[30] 3 #[t13]) w fun t14 w =>
 ∃ J_15 : Nat → Value → World → Prop, (∃ m, J_15 m (.int .i64 0) w) ∧
 ∀ m_15, ∀ t16 : Value, ∀ w : World, J_15 m_15 t16 w → Env →
 run1 Tryz.prog Z (binOp .lss 3 t16 t14) w fun t17 w =>
 CondV t17 (
 run1 Tryz.prog Z (Instr.indexAt 30 t13 t16) w fun t18 w =>
 run1 Tryz.prog Z (Instr.loadAt 60 t18) w fun t19 w =>
 run1 Tryz.prog Z (Instr.alloc 60 true (.tuple #[])) w fun t20 w =>
 run0 Tryz.prog Z (Instr.storeAt 60 t20 t19) w fun w =>
 Drawn w fun w =>
 Read1 Tryz.prog (Instr.loadAt 32 x2) w fun t21 =>
 Read1 Tryz.prog (Instr.loadAt 32 x2) w fun t22 =>
 PureV Tryz.prog (nilChk t22) fun t23 =>
 Pure1 Tryz.prog (Instr.fieldAt 39 t23 6) fun t24 =>
 Read1 Tryz.prog (Instr.loadAt 30 t24) w fun t25 =>
 Read1 Tryz.prog (Instr.loadAt 60 t20) w fun t26 =>
 CallV Tryz.prog Z 41 #[t26] w fun t27 w =>
 Still Tryz.prog (nx (Instr.loadAt 30 t24)) t25 w <|
 Still Tryz.prog (nx (Instr.loadAt 32 x2)) t22 w <|
 Still Tryz.prog (nx (Instr.loadAt 32 x2)) t21 w <|
 run1 Tryz.prog Z (Instr.buildSlice 30 1 #[(0, t27)]) w fun t28 w =>
 Still Tryz.prog (nx (Instr.loadAt 30 t24)) t25 w <|
 Still Tryz.prog (nx (Instr.loadAt 32 x2)) t22 w <|
 Still Tryz.prog (nx (Instr.loadAt 32 x2)) t21 w <|
 run1 Tryz.prog Z (Builtin.append_ #[30, 30] 30 #[t25, t28]) w fun t29 w =>
 Still Tryz.prog (nx (Instr.loadAt 32 x2)) t22 w <|
 Still Tryz.prog (nx (Instr.loadAt 32 x2)) t21 w <|
 PureV Tryz.prog (nilChk t21) fun t30 =>
 Pure1 Tryz.prog (Instr.fieldAt 39 t30 6) fun t31 =>
 run0 Tryz.prog Z (Instr.storeAt 30 t31 t29) w fun w =>
 run1 Tryz.prog Z (Instr.loadAt 32 x2) w fun t32 w =>
 run1 Tryz.prog Z (Instr.fieldAt 60 t20 0) w fun t33 w =>
 run1 Tryz.prog Z (Instr.loadAt 37 t33) w fun t34 w =>
 runX Tryz.prog Z (nilChk t32) w fun t35 w =>
 run1 Tryz.prog Z (Instr.fieldAt 39 t35 5) w fun t36 w =>
 run0 Tryz.prog Z (Instr.storeAt 37 t36 t34) w fun w =>
 run1 Tryz.prog Z (binOp .add 3 t16 (.int .i64 1)) w fun t37 w =>
 ∃ n_15, n_15 < m_15 ∧ J_15 n_15 t37 w) (
 Q (Value.tuple #[]) w)) →
 j_3 w) →
 run1 Tryz.prog Z (Instr.loadAt 4 x1) w fun t38 w =>
 CondV t38 (
 Drawn w fun w =>
 Read1 Tryz.prog (Instr.loadAt 32 x2) w fun t39 =>
 Read1 Tryz.prog (Instr.loadAt 32 x2) w fun t40 =>
 PureV Tryz.prog (nilChk t40) fun t41 =>
 Pure1 Tryz.prog (Instr.fieldAt 39 t41 3) fun t42 =>
 Read1 Tryz.prog (Instr.loadAt 34 t42) w fun t43 =>
 Read1 Tryz.prog (Instr.loadAt 9 x3) w fun t44 =>
 run1 Tryz.prog Z (Instr.buildSlice 34 1 #[(0, t44)]) w fun t45 w =>
 Still Tryz.prog (nx (Instr.loadAt 34 t42)) t43 w <|
 Still Tryz.prog (nx (Instr.loadAt 32 x2)) t40 w <|
 Still Tryz.prog (nx (Instr.loadAt 32 x2)) t39 w <|
 run1 Tryz.prog Z (Builtin.append_ #[34, 34] 34 #[t43, t45]) w fun t46 w =>
 Still Tryz.prog (nx (Instr.loadAt 32 x2)) t40 w <|
 Still Tryz.prog (nx (Instr.loadAt 32 x2)) t39 w <|
 PureV Tryz.prog (nilChk t39) fun t47 =>
 Pure1 Tryz.prog (Instr.fieldAt 39 t47 3) fun t48 =>
 run0 Tryz.prog Z (Instr.storeAt 34 t48 t46) w fun w =>
 run1 Tryz.prog Z (Instr.loadAt 32 x2) w fun t49 w =>
 runX Tryz.prog Z (nilChk t49) w fun t50 w =>
 run1 Tryz.prog Z (Instr.fieldAt 39 t50 4) w fun t51 w =>
 run0 Tryz.prog Z (Instr.storeAt 3 t51 (.int .i64 0)) w fun w =>
 j_3 w) (
 j_3 w))
def f58.an : An := (.sq (.sq .leaf (.cn .leaf .leaf)) (.sj [] (.sq .leaf (.cn (.sq (.dr (pl [1, 5, 8, 12, 17, 21, 26, 30, 32, 36, 42] .fin)) .leaf) .leaf)) (.sq (.dr (pl [1, 4, 8, 13, 17, 20, 24, 28, 32, 38] .fin)) (.sq .leaf (.bl (.lp [34] (.sq .leaf (.sq (.cn .leaf .leaf) (.sq (.bl (.sq .leaf (.sq (.dr (pl [1, 5, 8, 12, 17, 21, 26, 30, 34, 36, 40, 46] .fin)) .leaf))) .leaf)))))))))
def f59.sh (Z : List PanicEntry → World → Prop) (x0 : Value) (w : World) (Q : Value → World → Prop) : Prop :=
 run1 Tryz.prog Z (Builtin.len_ #[30] 3 #[x0]) w fun t1 w =>
 ∃ J_2 : Nat → Value → Value → World → Prop, (∃ m, J_2 m (.slice none 0 0) (.int .i64 0) w) ∧
 ∀ m_2, ∀ t3 : Value, ∀ t4 : Value, ∀ w : World, J_2 m_2 t3 t4 w → Env →
 run1 Tryz.prog Z (binOp .lss 3 t4 t1) w fun t5 w =>
 CondV t5 (
 run1 Tryz.prog Z (Instr.indexAt 30 x0 t4) w fun t6 w =>
 run1 Tryz.prog Z (Instr.loadAt 60 t6) w fun t7 w =>
 run1 Tryz.prog Z (Instr.alloc 60 true (.tuple #[])) w fun t8 w =>
 run0 Tryz.prog Z (Instr.storeAt 60 t8 t7) w fun w =>
 run1 Tryz.prog Z (Instr.loadAt 60 t8) w fun t9 w =>
 CallV Tryz.prog Z 83 #[t9] w fun t10 w =>
 run1 Tryz.prog Z (Instr.extract t10 0) w fun t11 w =>
 run1 Tryz.prog Z (Instr.extract t10 1) w fun t12 w =>
 CallV Tryz.prog Z 84 #[t11] w fun t13 w =>
 run1 Tryz.prog Z (Instr.extract t13 0) w fun t14 w =>
 run1 Tryz.prog Z (Instr.extract t13 1) w fun t15 w =>
 run1 Tryz.prog Z (Builtin.append_ #[53, 53] 53 #[t3, t14]) w fun t16 w =>
 run1 Tryz.prog Z (binOp .add 3 t4 (.int .i64 1)) w fun t17 w =>
 ∃ n_2, n_2 < m_2 ∧ J_2 n_2 t16 t17 w) (
 Q t3 w)
def f59.an : An := (.sq .leaf (.sq .leaf (.sq (.sq .leaf (.bl (.lp [3, 12] (.sq .leaf (.sq (.cn .leaf .leaf) (.sq (.bl (.sq .leaf (.sq .leaf (.sq .leaf .leaf)))) .leaf)))))) (.sq .leaf .leaf))))
theorem f59.calls {Z : List PanicEntry → World → Prop} {x0 : Value} {w : World} {Q : Value → World → Prop} (h : f59.sh Z x0 w Q) : CallV Tryz.prog Z 59 #[x0] w Q :=
 cl Tryz.func59 f59.an [x0] (by kernel_rfl) (by kernel_rfl) h

def f60.sh (Z : List PanicEntry → World → Prop) (x0 x1 : Value) (w : World) (Q : Value → World → Prop) : Prop :=
 CallV Tryz.prog Z 61 #[x0, x1] w fun t1 w =>
 run1 Tryz.prog Z (Instr.extract t1 0) w fun t2 w =>
 run1 Tryz.prog Z (Instr.extract t1 1) w fun t3 w =>
 run1 Tryz.prog Z (eqOp .neq 25 false true t3 (.int .i64 0)) w fun t4 w =>
 CondV t4 (
 Q t3 w) (
 CallV Tryz.prog Z 24 #[x0] w fun t5 w =>
 run1 Tryz.prog Z (Op.unary .not t5) w fun t6 w =>
 CondV t6 (
 Q (.int .i64 23) w) (
 Drawn w fun w =>
 PureV Tryz.prog (nilChk x0) fun t7 =>
 Pure1 Tryz.prog (Instr.fieldAt 47 t7 0) fun t8 =>
 Pure1 Tryz.prog (Instr.fieldAt 45 t8 0) fun t9 =>
 Read1 Tryz.prog (Instr.loadAt 43 t9) w fun t10 =>
 PureV Tryz.prog (nilChk x0) fun t11 =>
 Pure1 Tryz.prog (Instr.fieldAt 47 t11 0) fun t12 =>
 Pure1 Tryz.prog (Instr.fieldAt 45 t12 0) fun t13 =>
 Read1 Tryz.prog (Instr.loadAt 43 t13) w fun t14 =>
 Pure1 Tryz.prog (Instr.indexAt 43 t14 t2) fun t15 =>
 Pure1 Tryz.prog (Instr.fieldAt 71 t15 1) fun t16 =>
 Read1 Tryz.prog (Instr.loadAt 53 t16) w fun t17 =>
 Pure1 Tryz.prog (Builtin.len_ #[53] 3 #[t17]) fun t18 =>
 Pure1 Tryz.prog (Instr.indexAt 43 t10 t2) fun t19 =>
 Pure1 Tryz.prog (Instr.fieldAt 71 t19 2) fun t20 =>
 run0 Tryz.prog Z (Instr.storeAt 3 t20 t18) w fun w =>
 Q (.int .i64 0) w))
def f60.an : An := (.sq .leaf (.sq .leaf (.sq (.bl (.sq .leaf (.cn (.sq .leaf .leaf) (.sq .leaf (.cn (.sq .leaf .leaf) .leaf))))) (.sq (.dr (pl [0, 4, 8, 12, 17, 20, 24, 28, 32, 36, 41, 44, 48, 52, 57, 60, 64, 68, 74] .fin)) (.sq .leaf .leaf)))))
theorem f60.calls {Z : List PanicEntry → World → Prop} {x0 x1 : Value} {w : World} {Q : Value → World → Prop} (h : f60.sh Z x0 x1 w Q) : CallV Tryz.prog Z 60 #[x0, x1] w Q :=
 cl Tryz.func60 f60.an [x0, x1] (by kernel_rfl) (by kernel_rfl) h

def f61.sh (Z : List PanicEntry → World → Prop) (x0 x1 : Value) (w : World) (Q : Value → World → Prop) : Prop :=
 run1 Tryz.prog Z (Instr.buildSlice 34 1 #[(0, x1)]) w fun t1 w =>
 CallV Tryz.prog Z 22 #[x0, t1] w fun t2 w =>
 run1 Tryz.prog Z (eqOp .neq 25 false true t2 (.int .i64 0)) w fun t3 w =>
 CondV t3 (
 Q (Value.tuple #[(.int .i64 0), t2]) w) (
 runX Tryz.prog Z (nilChk x0) w fun t4 w =>
 run1 Tryz.prog Z (Instr.fieldAt 47 t4 0) w fun t5 w =>
 CallV Tryz.prog Z 23 #[t5, x1] w fun t6 w =>
 run1 Tryz.prog Z (Instr.extract t6 0) w fun t7 w =>
 run1 Tryz.prog Z (Instr.extract t6 1) w fun t8 w =>
 run1 Tryz.prog Z (Op.unary .not t8) w fun t9 w =>
 CondV t9 (
 Q (Value.tuple #[(.int .i64 0), (.int .i64 20)]) w) (
 Q (Value.tuple #[t7, (.int .i64 0)]) w))
def f61.an : An := (.sq .leaf (.sq (.sq .leaf (.sq .leaf (.cn (.sq .leaf .leaf) .leaf))) (.sq .leaf (.sq (.sq .leaf (.cn (.sq .leaf .leaf) .leaf)) (.sq .leaf .leaf)))))
theorem f61.calls {Z : List PanicEntry → World → Prop} {x0 x1 : Value} {w : World} {Q : Value → World → Prop} (h : f61.sh Z x0 x1 w Q) : CallV Tryz.prog Z 61 #[x0, x1] w Q :=
 cl Tryz.func61 f61.an [x0, x1] (by kernel_rfl) (by kernel_rfl) h

def f62.sh (Z : List PanicEntry → World → Prop) (x0 : Value) (w : World) (Q : Value → World → Prop) : Prop :=
 run1 Tryz.prog Z (Builtin.len_ #[53] 3 #[x0]) w fun t1 w =>
 run1 Tryz.prog Z (Instr.makeSlice 53 t1 t1) w fun t2 w =>
 run1 Tryz.prog Z (Builtin.copy_ #[53, 53] 3 #[t2, x0]) w fun t3 w =>
 Q t2 w
def f62.an : An := (.sq .leaf (.sq .leaf (.sq .leaf (.sq .leaf .leaf))))
theorem f62.calls {Z : List PanicEntry → World → Prop} {x0 : Value} {w : World} {Q : Value → World → Prop} (h : f62.sh Z x0 w Q) : CallV Tryz.prog Z 62 #[x0] w Q :=
 cl Tryz.func62 f62.an [x0] (by kernel_rfl) (by kernel_rfl) h

def f63.sh (Z : List PanicEntry → World → Prop) (x0 : Value) (w : World) (Q : Value → World → Prop) : Prop :=
 run1 Tryz.prog Z (Instr.box 53 x0) w fun t1 w =>
 run1 Tryz.prog Z (Instr.loadAt 53 t1) w fun t2 w =>
 CallV Tryz.prog Z 85 #[t2] w fun t3 w =>
 run0 Tryz.prog Z (Instr.storeAt 53 t1 t3) w fun w =>
 run1 Tryz.prog Z (Instr.makeFunc (.func 86) #[] #[t1]) w fun t4 w =>
 Q t4 w
def f63.an : An := (.sq .leaf (.sq .leaf (.sq .leaf .leaf)))
theorem f63.calls {Z : List PanicEntry → World → Prop} {x0 : Value} {w : World} {Q : Value → World → Prop} (h : f63.sh Z x0 w Q) : CallV Tryz.prog Z 63 #[x0] w Q :=
 cl Tryz.func63 f63.an [x0] (by kernel_rfl) (by kernel_rfl) h

def f64.sh (Z : List PanicEntry → World → Prop) (x0 : Value) (w : World) (Q : Value → World → Prop) : Prop :=
 run1 Tryz.prog Z (Instr.alloc 60 true (.tuple #[])) w fun t1 w =>
 CallV Tryz.prog Z 88 #[x0] w fun t2 w =>
 run1 Tryz.prog Z (Instr.alloc 60 true (.tuple #[])) w fun t3 w =>
 CallV Tryz.prog Z 89 #[t2] w fun t4 w =>
 run1 Tryz.prog Z (Instr.fieldAt 60 t3 0) w fun t5 w =>
 run1 Tryz.prog Z (Instr.fieldAt 37 t5 0) w fun t6 w =>
 run0 Tryz.prog Z (Instr.storeAt 35 t6 t4) w fun w =>
 CallV Tryz.prog Z 89 #[t2] w fun t7 w =>
 run1 Tryz.prog Z (Instr.fieldAt 60 t3 0) w fun t8 w =>
 run1 Tryz.prog Z (Instr.fieldAt 37 t8 1) w fun t9 w =>
 run0 Tryz.prog Z (Instr.storeAt 35 t9 t7) w fun w =>
 CallV Tryz.prog Z 90 #[t2] w fun t10 w =>
 run1 Tryz.prog Z (Instr.fieldAt 60 t3 1) w fun t11 w =>
 run1 Tryz.prog Z (Instr.fieldAt 52 t11 0) w fun t12 w =>
 run0 Tryz.prog Z (Instr.storeAt 50 t12 t10) w fun w =>
 CallV Tryz.prog Z 89 #[t2] w fun t13 w =>
 run1 Tryz.prog Z (Instr.fieldAt 60 t3 1) w fun t14 w =>
 run1 Tryz.prog Z (Instr.fieldAt 52 t14 1) w fun t15 w =>
 run0 Tryz.prog Z (Instr.storeAt 35 t15 t13) w fun w =>
 CallV Tryz.prog Z 91 #[t2] w fun t16 w =>
 run1 Tryz.prog Z (Instr.fieldAt 60 t3 1) w fun t17 w =>
 run1 Tryz.prog Z (Instr.fieldAt 52 t17 2) w fun t18 w =>
 run0 Tryz.prog Z (Instr.storeAt 2 t18 t16) w fun w =>
 run1 Tryz.prog Z (Instr.build 140 #[]) w fun t19 w =>
 CallV Tryz.prog Z 92 #[t19, t2] w fun t20 w =>
 run1 Tryz.prog Z (Instr.fieldAt 60 t3 2) w fun t21 w =>
 run0 Tryz.prog Z (Instr.storeAt 58 t21 t20) w fun w =>
 CallV Tryz.prog Z 93 #[t2] w fun t22 w =>
 run1 Tryz.prog Z (eqOp .neq 25 false true t22 (.int .i64 0)) w fun t23 w =>
 guardW (t23) false (fun k => run1 Tryz.prog Z (Instr.loadAt 60 t3) w k) (fun t24 w =>
 guardW (t23) false (fun k => CallV Tryz.prog Z 51 #[t24] w k) (fun t25 w =>
 guardW (t23) false (fun k => run1 Tryz.prog Z (eqOp .neq 25 false true t25 (.int .i64 0)) w k) (fun t26 w =>
 run1 Tryz.prog Z (pickV t23 (.bool true) t26) w fun t27 w =>
 CondV t27 (
 run1 Tryz.prog Z (Instr.build 60 #[]) w fun t28 w =>
 run0 Tryz.prog Z (Instr.storeAt 60 t1 t28) w fun w =>
 ∃ r_29, (do loadVar 60 (← asAddr t1) : Sem Value).run Tryz.prog w = .ok r_29 w ∧
 Q (Value.tuple #[r_29, (.int .i64 40)]) w) (
 run1 Tryz.prog Z (Instr.loadAt 60 t3) w fun t30 w =>
 run0 Tryz.prog Z (Instr.storeAt 60 t1 t30) w fun w =>
 ∃ r_31, (do loadVar 60 (← asAddr t1) : Sem Value).run Tryz.prog w = .ok r_31 w ∧
 Q (Value.tuple #[r_31, (.int .i64 0)]) w)) w) w) w
def f64.an : An := (.sq .leaf (.sq .leaf (.sq .leaf (.sq .leaf (.sq .leaf (.sq .leaf (.sq .leaf (.sq .leaf (.sq .leaf (.sq (.sq .leaf (.cn (.sq .leaf .leaf) .leaf)) (.sq .leaf .leaf)))))))))))
theorem f64.calls {Z : List PanicEntry → World → Prop} {x0 : Value} {w : World} {Q : Value → World → Prop} (h : f64.sh Z x0 w Q) : CallV Tryz.prog Z 64 #[x0] w Q :=
 cl Tryz.func64 f64.an [x0] (by kernel_rfl) (by kernel_rfl) h

def f65.sh (Z : List PanicEntry → World → Prop) (x0 : Value) (w : World) (Q : Value → World → Prop) : Prop :=
 run1 Tryz.prog Z (Instr.box 58 x0) w fun t1 w =>
 run1 Tryz.prog Z (Instr.alloc 58 true (.tuple #[])) w fun t2 w =>
 Drawn w fun w =>
 Pure1 Tryz.prog (Instr.fieldAt 58 t1 2) fun t3 =>
 Read1 Tryz.prog (Instr.loadAt 53 t3) w fun t4 =>
 Pure1 Tryz.prog (Instr.fieldAt 58 t1 3) fun t5 =>
 Read1 Tryz.prog (Instr.loadAt 54 t5) w fun t6 =>
 Pure1 Tryz.prog (Instr.fieldAt 58 t1 9) fun t7 =>
 Read1 Tryz.prog (Instr.loadAt 55 t7) w fun t8 =>
 Pure1 Tryz.prog (Instr.fieldAt 58 t1 10) fun t9 =>
 Read1 Tryz.prog (Instr.loadAt 56 t9) w fun t10 =>
 CallV Tryz.prog Z 94 #[t4] w fun t11 w =>
 Still Tryz.prog (nx (Instr.loadAt 56 t9)) t10 w <|
 Still Tryz.prog (nx (Instr.loadAt 55 t7)) t8 w <|
 Still Tryz.prog (nx (Instr.loadAt 54 t5)) t6 w <|
 Pure1 Tryz.prog (Instr.fieldAt 58 t1 2) fun t12 =>
 CallV Tryz.prog Z 95 #[t6] w fun t13 w =>
 Still Tryz.prog (nx (Instr.loadAt 56 t9)) t10 w <|
 Still Tryz.prog (nx (Instr.loadAt 55 t7)) t8 w <|
 CallV Tryz.prog Z 96 #[t8] w fun t14 w =>
 Still Tryz.prog (nx (Instr.loadAt 56 t9)) t10 w <|
 CallV Tryz.prog Z 97 #[t10] w fun t15 w =>
 run0 Tryz.prog Z (Instr.storeAt 53 t12 t11) w fun w =>
 Pure1 Tryz.prog (Instr.fieldAt 58 t1 3) fun t16 =>
 run0 Tryz.prog Z (Instr.storeAt 54 t16 t13) w fun w =>
 Pure1 Tryz.prog (Instr.fieldAt 58 t1 9) fun t17 =>
 run0 Tryz.prog Z (Instr.storeAt 55 t17 t14) w fun w =>
 Pure1 Tryz.prog (Instr.fieldAt 58 t1 10) fun t18 =>
 run0 Tryz.prog Z (Instr.storeAt 56 t18 t15) w fun w =>
 run1 Tryz.prog Z (Instr.fieldAt 58 t1 10) w fun t19 w =>
 run1 Tryz.prog Z (Instr.loadAt 56 t19) w fun t20 w =>
 run1 Tryz.prog Z (Builtin.len_ #[56] 3 #[t20]) w fun t21 w =>
 ∃ J_22 : Nat → Value → World → Prop, (∃ m, J_22 m (.int .i64 0) w) ∧
 ∀ m_22, ∀ t23 : Value, ∀ w : World, J_22 m_22 t23 w → Env →
 run1 Tryz.prog Z (binOp .lss 3 t23 t21) w fun t24 w =>
 CondV t24 (
 Drawn w fun w =>
 Pure1 Tryz.prog (Instr.fieldAt 58 t1 10) fun t25 =>
 Read1 Tryz.prog (Instr.loadAt 56 t25) w fun t26 =>
 Pure1 Tryz.prog (Instr.fieldAt 58 t1 10) fun t27 =>
 Read1 Tryz.prog (Instr.loadAt 56 t27) w fun t28 =>
 Pure1 Tryz.prog (Instr.indexAt 56 t28 t23) fun t29 =>
 Read1 Tryz.prog (Instr.loadAt 58 t29) w fun t30 =>
 CallV Tryz.prog Z 65 #[t30] w fun t31 w =>
 Still Tryz.prog (nx (Instr.loadAt 56 t27)) t28 w <|
 Still Tryz.prog (nx (Instr.loadAt 56 t25)) t26 w <|
 Pure1 Tryz.prog (Instr.indexAt 56 t26 t23) fun t32 =>
 run0 Tryz.prog Z (Instr.storeAt 58 t32 t31) w fun w =>
 run1 Tryz.prog Z (binOp .add 3 t23 (.int .i64 1)) w fun t33 w =>
 ∃ n_22, n_22 < m_22 ∧ J_22 n_22 t33 w) (
 run1 Tryz.prog Z (Instr.loadAt 58 t1) w fun t34 w =>
 run0 Tryz.prog Z (Instr.storeAt 58 t2 t34) w fun w =>
 ∃ r_35, (do loadVar 58 (← asAddr t2) : Sem Value).run Tryz.prog w = .ok r_35 w ∧
 Q r_35 w)
def f65.an : An := (.sq .leaf (.sq (.dr (pl [0, 5, 12, 17, 24, 29, 36, 41, 10, 48, 22, 34, 46, 54, 56, 62, 64, 70, 72, 78] .fin)) (.sq (.sq .leaf (.bl (.lp [23] (.sq .leaf (.sq (.cn .leaf .leaf) (.sq (.bl (.sq .leaf (.dr (pl [0, 5, 8, 12, 17, 20, 24, 29, 34, 36, 42] .fin)))) .leaf)))))) (.sq .leaf .leaf))))
theorem f65.calls {Z : List PanicEntry → World → Prop} {x0 : Value} {w : World} {Q : Value → World → Prop} (h : f65.sh Z x0 w Q) : CallV Tryz.prog Z 65 #[x0] w Q :=
 cl Tryz.func65 f65.an [x0] (by kernel_rfl) (by kernel_rfl) h

def f69.sh (Z : List PanicEntry → World → Prop) (x0 x1 x2 x3 x4 : Value) (w : World) (Q : Value → World → Prop) : Prop :=
 ∀ j_1 : World → Prop, (∀ w : World, (Env →
 run1 Tryz.prog Z (Instr.alloc 151 true (.tuple #[])) w fun t2 w =>
 ∀ j_3 : Value → World → Prop, (∀ t4 : Value, ∀ w : World, (Env →
 ∀ j_5 : Value → World → Prop, (∀ t6 : Value, ∀ w : World, (Env →
 ∀ j_7 : Value → World → Prop, (∀ t8 : Value, ∀ w : World, (Env →
 CondV x4 (
 run1 Tryz.prog Z (Instr.sliceAt 151 t2 (some t8) none none) w fun t9 w =>
 run1 Tryz.prog Z (Builtin.append_ #[53, 53] 53 #[x0, t9]) w fun t10 w =>
 Q (Value.tuple #[t10, (.string { data := #[] })]) w) (
 run1 Tryz.prog Z (Instr.sliceAt 151 t2 (some t8) none none) w fun t11 w =>
 run1 Tryz.prog Z (convert 53 9 t11) w fun t12 w =>
 Q (Value.tuple #[(.slice none 0 0), t12]) w)) →
 j_7 t8 w) →
 CondV x3 (
 run1 Tryz.prog Z (binOp .sub 3 t6 (.int .i64 1)) w fun t13 w =>
 run1 Tryz.prog Z (Instr.indexAt 151 t2 t13) w fun t14 w =>
 run0 Tryz.prog Z (Instr.storeAt 5 t14 (.int .u8 45)) w fun w =>
 j_7 t13 w) (
 j_7 t6 w)) →
 j_5 t6 w) →
 CallV Tryz.prog Z 101 #[x2] w fun t15 w =>
 CondV t15 (
 run1 Tryz.prog Z (convert 3 130 x2) w fun t16 w =>
 CallV Tryz.prog Z 102 #[t16] w fun t17 w =>
 run1 Tryz.prog Z (convert 3 130 t17) w fun t18 w =>
 run1 Tryz.prog Z (convert 3 115 x2) w fun t19 w =>
 run1 Tryz.prog Z (convert 3 130 x2) w fun t20 w =>
 run1 Tryz.prog Z (binOp .sub 130 t20 (.int .u64 1)) w fun t21 w =>
 ∃ J_22 : Nat → Value → Value → World → Prop, (∃ m, J_22 m t4 (.int .i64 65) w) ∧
 ∀ m_22, ∀ t23 : Value, ∀ t24 : Value, ∀ w : World, J_22 m_22 t23 t24 w → Env →
 run1 Tryz.prog Z (binOp .geq 115 t23 t19) w fun t25 w =>
 CondV t25 (
 run1 Tryz.prog Z (binOp .sub 3 t24 (.int .i64 1)) w fun t26 w =>
 run1 Tryz.prog Z (binOp .and 130 t23 t21) w fun t27 w =>
 run1 Tryz.prog Z (Instr.index 9 (.string { data := #[48, 49, 50, 51, 52, 53, 54, 55, 56, 57, 97, 98, 99, 100, 101, 102, 103, 104, 105, 106, 107, 108, 109, 110, 111, 112, 113, 114, 115, 116, 117, 118, 119, 120, 121, 122] }) t27) w fun t28 w =>
 run1 Tryz.prog Z (Instr.indexAt 151 t2 t26) w fun t29 w =>
 run0 Tryz.prog Z (Instr.storeAt 5 t29 t28) w fun w =>
 run1 Tryz.prog Z (binOp .shr 115 t23 t18) w fun t30 w =>
 ∃ n_22, n_22 < m_22 ∧ J_22 n_22 t30 t26 w) (
 run1 Tryz.prog Z (binOp .sub 3 t24 (.int .i64 1)) w fun t31 w =>
 run1 Tryz.prog Z (Instr.index 9 (.string { data := #[48, 49, 50, 51, 52, 53, 54, 55, 56, 57, 97, 98, 99, 100, 101, 102, 103, 104, 105, 106, 107, 108, 109, 110, 111, 112, 113, 114, 115, 116, 117, 118, 119, 120, 121, 122] }) t23) w fun t32 w =>
 run1 Tryz.prog Z (Instr.indexAt 151 t2 t31) w fun t33 w =>
 run0 Tryz.prog Z (Instr.storeAt 5 t33 t32) w fun w =>
 j_5 t31 w)) (
 run1 Tryz.prog Z (convert 3 115 x2) w fun t34 w =>
 ∃ J_35 : Nat → Value → Value → World → Prop, (∃ m, J_35 m t4 (.int .i64 65) w) ∧
 ∀ m_35, ∀ t36 : Value, ∀ t37 : Value, ∀ w : World, J_35 m_35 t36 t37 w → Env →
 run1 Tryz.prog Z (binOp .geq 115 t36 t34) w fun t38 w =>
 CondV t38 (
 run1 Tryz.prog Z (binOp .sub 3 t37 (.int .i64 1)) w fun t39 w =>
 run1 Tryz.prog Z (binOp .quo 115 t36 t34) w fun t40 w =>
 run1 Tryz.prog Z (binOp .mul 115 t40 t34) w fun t41 w =>
 run1 Tryz.prog Z (binOp .sub 115 t36 t41) w fun t42 w =>
 run1 Tryz.prog Z (Instr.index 9 (.string { data := #[48, 49, 50, 51, 52, 53, 54, 55, 56, 57, 97, 98, 99, 100, 101, 102, 103, 104, 105, 106, 107, 108, 109, 110, 111, 112, 113, 114, 115, 116, 117, 118, 119, 120, 121, 122] }) t42) w fun t43 w =>
 run1 Tryz.prog Z (Instr.indexAt 151 t2 t39) w fun t44 w =>
 run0 Tryz.prog Z (Instr.storeAt 5 t44 t43) w fun w =>
 ∃ n_35, n_35 < m_35 ∧ J_35 n_35 t40 t39 w) (
 run1 Tryz.prog Z (binOp .sub 3 t37 (.int .i64 1)) w fun t45 w =>
 run1 Tryz.prog Z (Instr.index 9 (.string { data := #[48, 49, 50, 51, 52, 53, 54, 55, 56, 57, 97, 98, 99, 100, 101, 102, 103, 104, 105, 106, 107, 108, 109, 110, 111, 112, 113, 114, 115, 116, 117, 118, 119, 120, 121, 122] }) t36) w fun t46 w =>
 run1 Tryz.prog Z (Instr.indexAt 151 t2 t45) w fun t47 w =>
 run0 Tryz.prog Z (Instr.storeAt 5 t47 t46) w fun w =>
 j_5 t45 w))) →
 j_3 t4 w) →
 CondV x3 (
 run1 Tryz.prog Z (Op.unary .neg x1) w fun t48 w =>
 j_3 t48 w) (
 j_3 x1 w)) →
 j_1 w) →
 run1 Tryz.prog Z (binOp .lss 3 x2 (.int .i64 2)) w fun t49 w =>
 guardW (t49) false (fun k => k (x2) w) (fun t50 w =>
 guardW (t49) false (fun k => run1 Tryz.prog Z (eqOp .eql 3 false true t50 (.int .i64 10)) w k) (fun t51 w =>
 run1 Tryz.prog Z (pickV t49 (.bool true) t51) w fun t52 w =>
 guardW (t52) false (fun k => k (x2) w) (fun t53 w =>
 guardW (t52) false (fun k => run1 Tryz.prog Z (binOp .gtr 3 t53 (.int .i64 36)) w k) (fun t54 w =>
 run1 Tryz.prog Z (pickV t52 (.bool true) t54) w fun t55 w =>
 CondV t55 (
 run1 Tryz.prog Z (Instr.makeInterface 9 (.string { data := #[115, 116, 114, 99, 111, 110, 118, 58, 32, 105, 108, 108, 101, 103, 97, 108, 32, 65, 112, 112, 101, 110, 100, 73, 110, 116, 47, 70, 111, 114, 109, 97, 116, 73, 110, 116, 32, 98, 97, 115, 101] })) w fun t56 w =>
 run1 Tryz.prog Z (Instr.panic t56) w fun _ w =>
 j_1 w) (
 j_1 w)) w) w) w) w
def f69.an : An := (.sq .leaf (.sj [] (.sq .leaf (.cn .leaf .leaf)) (.sq .leaf (.sq .leaf (.sj [1] (.sq .leaf (.cn .leaf .leaf)) (.sj [13] (.sq .leaf (.cn (.sq .leaf (.sq .leaf (.sq .leaf (.sq (.bl (.lp [1, 13] (.sq (.sq .leaf (.cn .leaf .leaf)) (.bl (.sq .leaf (.sq .leaf .leaf)))))) (.sq .leaf .leaf))))) (.sq .leaf (.sq (.bl (.lp [1, 13] (.sq (.sq .leaf (.cn .leaf .leaf)) (.bl (.sq .leaf (.sq .leaf (.sq .leaf .leaf))))))) (.sq .leaf .leaf))))) (.sj [13] (.sq .leaf (.cn (.sq .leaf .leaf) .leaf)) (.sq (.sq .leaf (.cn (.sq .leaf .leaf) .leaf)) (.sq .leaf .leaf)))))))))
theorem f69.calls {Z : List PanicEntry → World → Prop} {x0 x1 x2 x3 x4 : Value} {w : World} {Q : Value → World → Prop} (h : f69.sh Z x0 x1 x2 x3 x4 w Q) : CallV Tryz.prog Z 69 #[x0, x1, x2, x3, x4] w Q :=
 cl Tryz.func69 f69.an [x0, x1, x2, x3, x4] (by kernel_rfl) (by kernel_rfl) h

def f72.sh (Z : List PanicEntry → World → Prop) (x0 : Value) (w : World) (Q : Value → World → Prop) : Prop :=
 ∃ J_1 : Nat → Value → Value → World → Prop, (∃ m, J_1 m (.slice none 0 0) (.int .i64 0) w) ∧
 ∀ m_1, ∀ t2 : Value, ∀ t3 : Value, ∀ w : World, J_1 m_1 t2 t3 w → Env →
 run1 Tryz.prog Z (Builtin.len_ #[53] 3 #[x0]) w fun t4 w =>
 run1 Tryz.prog Z (binOp .lss 3 t3 t4) w fun t5 w =>
 CondV t5 (
 run1 Tryz.prog Z (Instr.indexAt 53 x0 t3) w fun t6 w =>
 run1 Tryz.prog Z (Instr.loadAt 5 t6) w fun t7 w =>
 run1 Tryz.prog Z (Instr.buildSlice 53 1 #[(0, t7)]) w fun t8 w =>
 run1 Tryz.prog Z (Builtin.append_ #[53, 53] 53 #[t2, t8]) w fun t9 w =>
 run1 Tryz.prog Z (binOp .add 3 t3 (.int .i64 1)) w fun t10 w =>
 ∃ n_1, n_1 < m_1 ∧ J_1 n_1 t9 t10 w) (
 Q t2 w)
def f72.an : An := (.sq .leaf (.sq .leaf (.sq (.sq .leaf (.bl (.lp [3, 4] (.sq (.sq .leaf (.cn .leaf .leaf)) (.sq (.bl .leaf) .leaf))))) (.sq .leaf .leaf))))
theorem f72.calls {Z : List PanicEntry → World → Prop} {x0 : Value} {w : World} {Q : Value → World → Prop} (h : f72.sh Z x0 w Q) : CallV Tryz.prog Z 72 #[x0] w Q :=
 cl Tryz.func72 f72.an [x0] (by kernel_rfl) (by kernel_rfl) h

def f73.sh (Z : List PanicEntry → World → Prop) (x0 : Value) (w : World) (Q : Value → World → Prop) : Prop :=
 ∃ J_1 : Nat → Value → Value → World → Prop, (∃ m, J_1 m (.slice none 0 0) (.int .i64 0) w) ∧
 ∀ m_1, ∀ t2 : Value, ∀ t3 : Value, ∀ w : World, J_1 m_1 t2 t3 w → Env →
 run1 Tryz.prog Z (Builtin.len_ #[54] 3 #[x0]) w fun t4 w =>
 run1 Tryz.prog Z (binOp .lss 3 t3 t4) w fun t5 w =>
 CondV t5 (
 run1 Tryz.prog Z (Instr.indexAt 54 x0 t3) w fun t6 w =>
 run1 Tryz.prog Z (Instr.loadAt 146 t6) w fun t7 w =>
 run1 Tryz.prog Z (Instr.buildSlice 54 1 #[(0, t7)]) w fun t8 w =>
 run1 Tryz.prog Z (Builtin.append_ #[54, 54] 54 #[t2, t8]) w fun t9 w =>
 run1 Tryz.prog Z (binOp .add 3 t3 (.int .i64 1)) w fun t10 w =>
 ∃ n_1, n_1 < m_1 ∧ J_1 n_1 t9 t10 w) (
 Q t2 w)
def f73.an : An := (.sq .leaf (.sq .leaf (.sq (.sq .leaf (.bl (.lp [3, 4] (.sq (.sq .leaf (.cn .leaf .leaf)) (.sq (.bl .leaf) .leaf))))) (.sq .leaf .leaf))))
theorem f73.calls {Z : List PanicEntry → World → Prop} {x0 : Value} {w : World} {Q : Value → World → Prop} (h : f73.sh Z x0 w Q) : CallV Tryz.prog Z 73 #[x0] w Q :=
 cl Tryz.func73 f73.an [x0] (by kernel_rfl) (by kernel_rfl) h

def f74.sh (Z : List PanicEntry → World → Prop) (x0 : Value) (w : World) (Q : Value → World → Prop) : Prop :=
 ∃ J_1 : Nat → Value → Value → World → Prop, (∃ m, J_1 m (.slice none 0 0) (.int .i64 0) w) ∧
 ∀ m_1, ∀ t2 : Value, ∀ t3 : Value, ∀ w : World, J_1 m_1 t2 t3 w → Env →
 run1 Tryz.prog Z (Builtin.len_ #[55] 3 #[x0]) w fun t4 w =>
 run1 Tryz.prog Z (binOp .lss 3 t3 t4) w fun t5 w =>
 CondV t5 (
 run1 Tryz.prog Z (Instr.indexAt 55 x0 t3) w fun t6 w =>
 run1 Tryz.prog Z (Instr.loadAt 144 t6) w fun t7 w =>
 run1 Tryz.prog Z (Instr.buildSlice 55 1 #[(0, t7)]) w fun t8 w =>
 run1 Tryz.prog Z (Builtin.append_ #[55, 55] 55 #[t2, t8]) w fun t9 w =>
 run1 Tryz.prog Z (binOp .add 3 t3 (.int .i64 1)) w fun t10 w =>
 ∃ n_1, n_1 < m_1 ∧ J_1 n_1 t9 t10 w) (
 Q t2 w)
def f74.an : An := (.sq .leaf (.sq .leaf (.sq (.sq .leaf (.bl (.lp [3, 4] (.sq (.sq .leaf (.cn .leaf .leaf)) (.sq (.bl .leaf) .leaf))))) (.sq .leaf .leaf))))
theorem f74.calls {Z : List PanicEntry → World → Prop} {x0 : Value} {w : World} {Q : Value → World → Prop} (h : f74.sh Z x0 w Q) : CallV Tryz.prog Z 74 #[x0] w Q :=
 cl Tryz.func74 f74.an [x0] (by kernel_rfl) (by kernel_rfl) h

def f75.sh (Z : List PanicEntry → World → Prop) (x0 : Value) (w : World) (Q : Value → World → Prop) : Prop :=
 run1 Tryz.prog Z (Instr.box 58 x0) w fun t1 w =>
 run1 Tryz.prog Z (Instr.fieldAt 58 t1 0) w fun t2 w =>
 run1 Tryz.prog Z (Instr.loadAt 50 t2) w fun t3 w =>
 CallV Tryz.prog Z 104 #[t3] w fun t4 w =>
 run1 Tryz.prog Z (Op.unary .not t4) w fun t5 w =>
 guardW (t5) false (fun k => run1 Tryz.prog Z (Instr.loadAt 58 t1) w k) (fun t6 w =>
 guardW (t5) false (fun k => CallV Tryz.prog Z 105 #[t6] w k) (fun t7 w =>
 guardW (t5) false (fun k => run1 Tryz.prog Z (Op.unary .not t7) w k) (fun t8 w =>
 run1 Tryz.prog Z (pickV t5 (.bool true) t8) w fun t9 w =>
 CondV t9 (
 Q (.int .i64 40) w) (
 run1 Tryz.prog Z (Instr.fieldAt 58 t1 10) w fun t10 w =>
 run1 Tryz.prog Z (Instr.loadAt 56 t10) w fun t11 w =>
 run1 Tryz.prog Z (Builtin.len_ #[56] 3 #[t11]) w fun t12 w =>
 ∃ J_13 : Nat → Value → World → Prop, (∃ m, J_13 m (.int .i64 0) w) ∧
 ∀ m_13, ∀ t14 : Value, ∀ w : World, J_13 m_13 t14 w → Env →
 run1 Tryz.prog Z (binOp .lss 3 t14 t12) w fun t15 w =>
 CondV t15 (
 run1 Tryz.prog Z (Instr.indexAt 56 t11 t14) w fun t16 w =>
 run1 Tryz.prog Z (Instr.loadAt 58 t16) w fun t17 w =>
 run1 Tryz.prog Z (Instr.alloc 58 true (.tuple #[])) w fun t18 w =>
 run0 Tryz.prog Z (Instr.storeAt 58 t18 t17) w fun w =>
 run1 Tryz.prog Z (Instr.loadAt 58 t18) w fun t19 w =>
 CallV Tryz.prog Z 106 #[t19] w fun t20 w =>
 run1 Tryz.prog Z (Op.unary .not t20) w fun t21 w =>
 CondV t21 (
 Q (.int .i64 40) w) (
 run1 Tryz.prog Z (binOp .add 3 t14 (.int .i64 1)) w fun t22 w =>
 ∃ n_13, n_13 < m_13 ∧ J_13 n_13 t22 w)) (
 Q (.int .i64 0) w))) w) w) w
def f75.an : An := (.sq .leaf (.sq (.sq .leaf (.cn (.sq .leaf .leaf) .leaf)) (.sq (.sq .leaf (.bl (.lp [17] (.sq .leaf (.sq (.cn .leaf .leaf) (.sq (.bl (.sq .leaf (.sq .leaf (.cn (.sq .leaf .leaf) .leaf)))) .leaf)))))) (.sq .leaf .leaf))))
theorem f75.calls {Z : List PanicEntry → World → Prop} {x0 : Value} {w : World} {Q : Value → World → Prop} (h : f75.sh Z x0 w Q) : CallV Tryz.prog Z 75 #[x0] w Q :=
 cl Tryz.func75 f75.an [x0] (by kernel_rfl) (by kernel_rfl) h

def f76.sh (Z : List PanicEntry → World → Prop) (x0 : Value) (w : World) (Q : Value → World → Prop) : Prop :=
 run1 Tryz.prog Z (Builtin.len_ #[80] 3 #[x0]) w fun t1 w =>
 ∃ J_2 : Nat → Value → World → Prop, (∃ m, J_2 m (.int .i64 0) w) ∧
 ∀ m_2, ∀ t3 : Value, ∀ w : World, J_2 m_2 t3 w → Env →
 run1 Tryz.prog Z (binOp .lss 3 t3 t1) w fun t4 w =>
 CondV t4 (
 run1 Tryz.prog Z (Instr.indexAt 80 x0 t3) w fun t5 w =>
 run1 Tryz.prog Z (Instr.loadAt 3 t5) w fun t6 w =>
 run1 Tryz.prog Z (eqOp .neq 3 false false t6 (.int .i64 0)) w fun t7 w =>
 CondV t7 (
 Q t6 w) (
 run1 Tryz.prog Z (binOp .add 3 t3 (.int .i64 1)) w fun t8 w =>
 ∃ n_2, n_2 < m_2 ∧ J_2 n_2 t8 w)) (
 Q (.int .i64 0) w)
def f76.an : An := (.sq .leaf (.sq .leaf (.sq (.sq .leaf (.bl (.lp [8] (.sq .leaf (.sq (.cn .leaf .leaf) (.sq (.bl (.sq .leaf (.sq .leaf (.cn (.sq .leaf .leaf) .leaf)))) .leaf)))))) (.sq .leaf .leaf))))
theorem f76.calls {Z : List PanicEntry → World → Prop} {x0 : Value} {w : World} {Q : Value → World → Prop} (h : f76.sh Z x0 w Q) : CallV Tryz.prog Z 76 #[x0] w Q :=
 cl Tryz.func76 f76.an [x0] (by kernel_rfl) (by kernel_rfl) h

def f77.sh (Z : List PanicEntry → World → Prop) (x0 x1 : Value) (w : World) (Q : Value → World → Prop) : Prop :=
 CallV Tryz.prog Z 107 #[x0] w fun t1 w =>
 CallV Tryz.prog Z 107 #[x1] w fun t2 w =>
 CondV t1 (
 CondV t2 (
 Q (.int .i64 0) w) (
 Q (.int .i64 (-1)) w)) (
 CondV t2 (
 Q (.int .i64 1) w) (
 run1 Tryz.prog Z (binOp .lss 35 x0 x1) w fun t3 w =>
 CondV t3 (
 Q (.int .i64 (-1)) w) (
 run1 Tryz.prog Z (binOp .gtr 35 x0 x1) w fun t4 w =>
 CondV t4 (
 Q (.int .i64 1) w) (
 Q (.int .i64 0) w))))
def f77.an : An := (.sq .leaf (.sq .leaf (.sq .leaf (.sq (.sq .leaf (.cn (.sq (.sq .leaf (.cn (.sq .leaf .leaf) .leaf)) (.sq .leaf .leaf)) .leaf)) (.sq (.sq .leaf (.cn (.sq .leaf .leaf) .leaf)) (.sq (.sq .leaf (.cn (.sq .leaf .leaf) .leaf)) (.sq (.sq .leaf (.cn (.sq .leaf .leaf) .leaf)) (.sq .leaf .leaf))))))))
theorem f77.calls {Z : List PanicEntry → World → Prop} {x0 x1 : Value} {w : World} {Q : Value → World → Prop} (h : f77.sh Z x0 x1 w Q) : CallV Tryz.prog Z 77 #[x0, x1] w Q :=
 cl Tryz.func77 f77.an [x0, x1] (by kernel_rfl) (by kernel_rfl) h

def f78.sh (Z : List PanicEntry → World → Prop) (x0 x1 : Value) (w : World) (Q : Value → World → Prop) : Prop :=
 CallV Tryz.prog Z 108 #[x0, x1] w fun t1 w =>
 run1 Tryz.prog Z (Op.unary .not t1) w fun t2 w =>
 CondV t2 (
 Q (Value.tuple #[x0, (.bool false)]) w) (
 run1 Tryz.prog Z (Builtin.len_ #[9] 3 #[x1]) w fun t3 w =>
 run1 Tryz.prog Z (Instr.sliceAt 9 x0 (some t3) none none) w fun t4 w =>
 Q (Value.tuple #[t4, (.bool true)]) w)
def f78.an : An := (.sq .leaf (.sq (.sq .leaf (.cn (.sq .leaf .leaf) .leaf)) (.sq .leaf .leaf)))
theorem f78.calls {Z : List PanicEntry → World → Prop} {x0 x1 : Value} {w : World} {Q : Value → World → Prop} (h : f78.sh Z x0 x1 w Q) : CallV Tryz.prog Z 78 #[x0, x1] w Q :=
 cl Tryz.func78 f78.an [x0, x1] (by kernel_rfl) (by kernel_rfl) h

def f79.sh (Z : List PanicEntry → World → Prop) (x0 x1 x2 : Value) (w : World) (Q : Value → World → Prop) : Prop :=
 run1 Tryz.prog Z (eqOp .eql 9 false true x0 (.string { data := #[] })) w fun t1 w =>
 CondV t1 (
 run1 Tryz.prog Z (Instr.makeInterface 156 (.int .i64 2)) w fun t2 w =>
 Q (Value.tuple #[(.int .i64 0), t2]) w) (
 ∀ j_3 : Value → Value → World → Prop, (∀ t4 : Value, ∀ t5 : Value, ∀ w : World, (Env →
 CallV Tryz.prog Z 109 #[t4, x1, x2] w fun t6 w =>
 run1 Tryz.prog Z (Instr.extract t6 0) w fun t7 w =>
 run1 Tryz.prog Z (Instr.extract t6 1) w fun t8 w =>
 run1 Tryz.prog Z (eqOp .neq 99 false true t8 .nilIface) w fun t9 w =>
 guardW (t9) true (fun k => k (t8) w) (fun t10 w =>
 guardW (t9) true (fun k => run1 Tryz.prog Z (Instr.makeInterface 156 (.int .i64 1)) w k) (fun t11 w =>
 guardW (t9) true (fun k => run1 Tryz.prog Z (eqOp .neq 99 false false t10 t11) w k) (fun t12 w =>
 run1 Tryz.prog Z (pickV t9 t12 (.bool false)) w fun t13 w =>
 CondV t13 (
 Q (Value.tuple #[(.int .i64 0), t8]) w) (
 ∀ j_14 : Value → World → Prop, (∀ t15 : Value, ∀ w : World, (Env →
 run1 Tryz.prog Z (binOp .sub 3 t15 (.int .i64 1)) w fun t16 w =>
 run1 Tryz.prog Z (convert 3 130 t16) w fun t17 w =>
 run1 Tryz.prog Z (binOp .shl 115 (.int .u64 1) t17) w fun t18 w =>
 run1 Tryz.prog Z (Op.unary .not t5) w fun t19 w =>
 guardW (t19) true (fun k => k (t7) w) (fun t20 w =>
 guardW (t19) true (fun k => k (t18) w) (fun t21 w =>
 guardW (t19) true (fun k => run1 Tryz.prog Z (binOp .geq 115 t20 t21) w k) (fun t22 w =>
 run1 Tryz.prog Z (pickV t19 t22 (.bool false)) w fun t23 w =>
 CondV t23 (
 run1 Tryz.prog Z (binOp .sub 115 t18 (.int .u64 1)) w fun t24 w =>
 run1 Tryz.prog Z (convert 115 2 t24) w fun t25 w =>
 run1 Tryz.prog Z (Instr.makeInterface 156 (.int .i64 1)) w fun t26 w =>
 Q (Value.tuple #[t25, t26]) w) (
 guardW (t5) true (fun k => k (t7) w) (fun t27 w =>
 guardW (t5) true (fun k => k (t18) w) (fun t28 w =>
 guardW (t5) true (fun k => run1 Tryz.prog Z (binOp .gtr 115 t27 t28) w k) (fun t29 w =>
 run1 Tryz.prog Z (pickV t5 t29 (.bool false)) w fun t30 w =>
 CondV t30 (
 run1 Tryz.prog Z (convert 115 2 t18) w fun t31 w =>
 run1 Tryz.prog Z (Op.unary .neg t31) w fun t32 w =>
 run1 Tryz.prog Z (Instr.makeInterface 156 (.int .i64 1)) w fun t33 w =>
 Q (Value.tuple #[t32, t33]) w) (
 run1 Tryz.prog Z (convert 115 2 t7) w fun t34 w =>
 ∀ j_35 : Value → World → Prop, (∀ t36 : Value, ∀ w : World, (Env →
 Q (Value.tuple #[t36, .nilIface]) w) →
 j_35 t36 w) →
 CondV t5 (
 run1 Tryz.prog Z (Op.unary .neg t34) w fun t37 w =>
 j_35 t37 w) (
 j_35 t34 w))) w) w) w)) w) w) w) →
 j_14 t15 w) →
 run1 Tryz.prog Z (eqOp .eql 3 false true x2 (.int .i64 0)) w fun t38 w =>
 CondV t38 (
 j_14 (.int .i64 64) w) (
 j_14 x2 w))) w) w) w) →
 j_3 t4 t5 w) →
 run1 Tryz.prog Z (Instr.index 9 x0 (.int .i64 0)) w fun t39 w =>
 run1 Tryz.prog Z (eqOp .eql 5 false true t39 (.int .u8 43)) w fun t40 w =>
 CondV t40 (
 run1 Tryz.prog Z (Instr.sliceAt 9 x0 (some (.int .i64 1)) none none) w fun t41 w =>
 j_3 t41 (.bool false) w) (
 run1 Tryz.prog Z (eqOp .eql 5 false true t39 (.int .u8 45)) w fun t42 w =>
 CondV t42 (
 run1 Tryz.prog Z (Instr.sliceAt 9 x0 (some (.int .i64 1)) none none) w fun t43 w =>
 j_3 t43 (.bool true) w) (
 j_3 x0 (.bool false) w)))
def f79.an : An := (.sq .leaf (.sq (.sq .leaf (.cn (.sq .leaf .leaf) .leaf)) (.sq .leaf (.sj [0, 8] (.sq .leaf (.bl (.sq .leaf (.cn .leaf (.sq .leaf (.cn (.sq .leaf .leaf) .leaf)))))) (.sq .leaf (.sq .leaf (.sq (.sq .leaf (.cn (.sq .leaf .leaf) .leaf)) (.sj [2] (.sq .leaf (.cn .leaf .leaf)) (.sq .leaf (.sq (.sq .leaf (.cn (.sq .leaf .leaf) .leaf)) (.sq (.sq .leaf (.cn (.sq .leaf .leaf) .leaf)) (.sq .leaf (.sj [11] (.sq .leaf (.cn .leaf .leaf)) (.sq .leaf .leaf))))))))))))))
theorem f79.calls {Z : List PanicEntry → World → Prop} {x0 x1 x2 : Value} {w : World} {Q : Value → World → Prop} (h : f79.sh Z x0 x1 x2 w Q) : CallV Tryz.prog Z 79 #[x0, x1, x2] w Q :=
 cl Tryz.func79 f79.an [x0, x1, x2] (by kernel_rfl) (by kernel_rfl) h

def f83.sh (Z : List PanicEntry → World → Prop) (x0 : Value) (w : World) (Q : Value → World → Prop) : Prop :=
 run1 Tryz.prog Z (Instr.box 60 x0) w fun t1 w =>
 run1 Tryz.prog Z (Instr.loadAt 60 t1) w fun t2 w =>
 CallV Tryz.prog Z 51 #[t2] w fun t3 w =>
 run1 Tryz.prog Z (eqOp .neq 25 false true t3 (.int .i64 0)) w fun t4 w =>
 CondV t4 (
 Q (Value.tuple #[(.slice none 0 0), (.int .i64 40)]) w) (
 run1 Tryz.prog Z (Instr.build 173 #[]) w fun t5 w =>
 run1 Tryz.prog Z (Instr.box 173 t5) w fun t6 w =>
 run1 Tryz.prog Z (Instr.fieldAt 60 t1 0) w fun t7 w =>
 run1 Tryz.prog Z (Instr.fieldAt 37 t7 0) w fun t8 w =>
 run1 Tryz.prog Z (Instr.loadAt 35 t8) w fun t9 w =>
 CallV Tryz.prog Z 124 #[t6, t9] w fun t10 w =>
 run1 Tryz.prog Z (Instr.fieldAt 60 t1 0) w fun t11 w =>
 run1 Tryz.prog Z (Instr.fieldAt 37 t11 1) w fun t12 w =>
 run1 Tryz.prog Z (Instr.loadAt 35 t12) w fun t13 w =>
 CallV Tryz.prog Z 124 #[t6, t13] w fun t14 w =>
 run1 Tryz.prog Z (Instr.fieldAt 60 t1 1) w fun t15 w =>
 run1 Tryz.prog Z (Instr.fieldAt 52 t15 0) w fun t16 w =>
 run1 Tryz.prog Z (Instr.loadAt 50 t16) w fun t17 w =>
 CallV Tryz.prog Z 125 #[t6, t17] w fun t18 w =>
 run1 Tryz.prog Z (Instr.fieldAt 60 t1 1) w fun t19 w =>
 run1 Tryz.prog Z (Instr.fieldAt 52 t19 1) w fun t20 w =>
 run1 Tryz.prog Z (Instr.loadAt 35 t20) w fun t21 w =>
 CallV Tryz.prog Z 124 #[t6, t21] w fun t22 w =>
 run1 Tryz.prog Z (Instr.fieldAt 60 t1 1) w fun t23 w =>
 run1 Tryz.prog Z (Instr.fieldAt 52 t23 2) w fun t24 w =>
 run1 Tryz.prog Z (Instr.loadAt 2 t24) w fun t25 w =>
 CallV Tryz.prog Z 126 #[t6, t25] w fun t26 w =>
 run1 Tryz.prog Z (Instr.build 140 #[]) w fun t27 w =>
 run1 Tryz.prog Z (Instr.fieldAt 60 t1 2) w fun t28 w =>
 run1 Tryz.prog Z (Instr.loadAt 58 t28) w fun t29 w =>
 CallV Tryz.prog Z 127 #[t27, t6, t29] w fun t30 w =>
 CallV Tryz.prog Z 128 #[t6] w fun t31 w =>
 Q (Value.tuple #[t31, (.int .i64 0)]) w)
def f83.an : An := (.sq .leaf (.sq (.sq .leaf (.cn (.sq .leaf .leaf) .leaf)) (.sq .leaf (.sq .leaf (.sq .leaf (.sq .leaf (.sq .leaf (.sq .leaf (.sq .leaf (.sq .leaf .leaf))))))))))
theorem f83.calls {Z : List PanicEntry → World → Prop} {x0 : Value} {w : World} {Q : Value → World → Prop} (h : f83.sh Z x0 w Q) : CallV Tryz.prog Z 83 #[x0] w Q :=
 cl Tryz.func83 f83.an [x0] (by kernel_rfl) (by kernel_rfl) h

def f84.sh (Z : List PanicEntry → World → Prop) (x0 : Value) (w : World) (Q : Value → World → Prop) : Prop :=
 run1 Tryz.prog Z (Builtin.len_ #[53] 3 #[x0]) w fun t1 w =>
 run1 Tryz.prog Z (binOp .lss 3 t1 (.int .i64 1)) w fun t2 w =>
 guardW (t2) false (fun k => k (x0) w) (fun t3 w =>
 guardW (t2) false (fun k => run1 Tryz.prog Z (Builtin.len_ #[53] 3 #[t3]) w k) (fun t4 w =>
 guardW (t2) false (fun k => run1 Tryz.prog Z (binOp .gtr 3 t4 (.int .i64 1048576)) w k) (fun t5 w =>
 run1 Tryz.prog Z (pickV t2 (.bool true) t5) w fun t6 w =>
 CondV t6 (
 Q (Value.tuple #[(.slice none 0 0), (.int .i64 30)]) w) (
 run1 Tryz.prog Z (Builtin.len_ #[53] 3 #[x0]) w fun t7 w =>
 run1 Tryz.prog Z (convert 3 35 t7) w fun t8 w =>
 CallV Tryz.prog Z 129 #[t8] w fun t9 w =>
 CallV Tryz.prog Z 130 #[x0] w fun t10 w =>
 CallV Tryz.prog Z 129 #[t10] w fun t11 w =>
 run1 Tryz.prog Z (Instr.alloc 179 true (.tuple #[])) w fun t12 w =>
 run1 Tryz.prog Z (Instr.alloc 179 true (.tuple #[])) w fun t13 w =>
 run0 Tryz.prog Z (Instr.storeAt 179 t12 t9) w fun w =>
 run0 Tryz.prog Z (Instr.storeAt 179 t13 t11) w fun w =>
 run1 Tryz.prog Z (Builtin.len_ #[53] 3 #[x0]) w fun t14 w =>
 run1 Tryz.prog Z (binOp .add 3 (.int .i64 8) t14) w fun t15 w =>
 run1 Tryz.prog Z (binOp .add 3 t15 (.int .i64 1)) w fun t16 w =>
 run1 Tryz.prog Z (Instr.makeSlice 53 (.int .i64 0) t16) w fun t17 w =>
 run1 Tryz.prog Z (Instr.sliceAt 179 t12 none none none) w fun t18 w =>
 run1 Tryz.prog Z (Builtin.append_ #[53, 53] 53 #[t17, t18]) w fun t19 w =>
 run1 Tryz.prog Z (Instr.sliceAt 179 t13 none none none) w fun t20 w =>
 run1 Tryz.prog Z (Builtin.append_ #[53, 53] 53 #[t19, t20]) w fun t21 w =>
 run1 Tryz.prog Z (Builtin.append_ #[53, 53] 53 #[t21, x0]) w fun t22 w =>
 run1 Tryz.prog Z (Instr.buildSlice 53 1 #[(0, (.int .u8 66))]) w fun t23 w =>
 run1 Tryz.prog Z (Builtin.append_ #[53, 53] 53 #[t22, t23]) w fun t24 w =>
 Q (Value.tuple #[t24, (.int .i64 0)]) w)) w) w) w
def f84.an : An := (.sq .leaf (.sq (.sq .leaf (.cn (.sq .leaf .leaf) .leaf)) (.sq .leaf (.sq .leaf (.sq .leaf (.sq .leaf (.sq .leaf (.sq .leaf .leaf))))))))
theorem f84.calls {Z : List PanicEntry → World → Prop} {x0 : Value} {w : World} {Q : Value → World → Prop} (h : f84.sh Z x0 w Q) : CallV Tryz.prog Z 84 #[x0] w Q :=
 cl Tryz.func84 f84.an [x0] (by kernel_rfl) (by kernel_rfl) h

def f85.sh (Z : List PanicEntry → World → Prop) (x0 : Value) (w : World) (Q : Value → World → Prop) : Prop :=
 run1 Tryz.prog Z (Builtin.len_ #[53] 3 #[x0]) w fun t1 w =>
 run1 Tryz.prog Z (Instr.makeSlice 53 t1 t1) w fun t2 w =>
 run1 Tryz.prog Z (Builtin.copy_ #[53, 53] 3 #[t2, x0]) w fun t3 w =>
 Q t2 w
def f85.an : An := (.sq .leaf (.sq .leaf (.sq .leaf (.sq .leaf .leaf))))
theorem f85.calls {Z : List PanicEntry → World → Prop} {x0 : Value} {w : World} {Q : Value → World → Prop} (h : f85.sh Z x0 w Q) : CallV Tryz.prog Z 85 #[x0] w Q :=
 cl Tryz.func85 f85.an [x0] (by kernel_rfl) (by kernel_rfl) h

def f87.sh (Z : List PanicEntry → World → Prop) (x0 : Value) (w : World) (Q : Value → World → Prop) : Prop :=
 run1 Tryz.prog Z (Instr.box 53 x0) w fun t1 w =>
 run1 Tryz.prog Z (Instr.makeFunc (.func 131) #[] #[t1]) w fun t2 w =>
 Q t2 w
def f87.an : An := (.sq .leaf (.sq .leaf .leaf))
theorem f87.calls {Z : List PanicEntry → World → Prop} {x0 : Value} {w : World} {Q : Value → World → Prop} (h : f87.sh Z x0 w Q) : CallV Tryz.prog Z 87 #[x0] w Q :=
 cl Tryz.func87 f87.an [x0] (by kernel_rfl) (by kernel_rfl) h

def f88.sh (Z : List PanicEntry → World → Prop) (x0 : Value) (w : World) (Q : Value → World → Prop) : Prop :=
 run1 Tryz.prog Z (Builtin.append_ #[53, 53] 53 #[(.slice none 0 0), x0]) w fun t1 w =>
 run1 Tryz.prog Z (Instr.build 183 #[(0, (.bool true)), (1, t1)]) w fun t2 w =>
 run1 Tryz.prog Z (Instr.box 183 t2) w fun t3 w =>
 Q t3 w
def f88.an : An := (.sq .leaf (.sq .leaf .leaf))
theorem f88.calls {Z : List PanicEntry → World → Prop} {x0 : Value} {w : World} {Q : Value → World → Prop} (h : f88.sh Z x0 w Q) : CallV Tryz.prog Z 88 #[x0] w Q :=
 cl Tryz.func88 f88.an [x0] (by kernel_rfl) (by kernel_rfl) h

def f89.sh (Z : List PanicEntry → World → Prop) (x0 : Value) (w : World) (Q : Value → World → Prop) : Prop :=
 CallV Tryz.prog Z 133 #[x0, (.int .i64 4)] w fun t1 w =>
 run1 Tryz.prog Z (convert 115 35 t1) w fun t2 w =>
 Q t2 w
def f89.an : An := (.sq .leaf (.sq .leaf .leaf))
theorem f89.calls {Z : List PanicEntry → World → Prop} {x0 : Value} {w : World} {Q : Value → World → Prop} (h : f89.sh Z x0 w Q) : CallV Tryz.prog Z 89 #[x0] w Q :=
 cl Tryz.func89 f89.an [x0] (by kernel_rfl) (by kernel_rfl) h

def f90.sh (Z : List PanicEntry → World → Prop) (x0 : Value) (w : World) (Q : Value → World → Prop) : Prop :=
 CallV Tryz.prog Z 133 #[x0, (.int .i64 1)] w fun t1 w =>
 run1 Tryz.prog Z (convert 115 50 t1) w fun t2 w =>
 Q t2 w
def f90.an : An := (.sq .leaf (.sq .leaf .leaf))
theorem f90.calls {Z : List PanicEntry → World → Prop} {x0 : Value} {w : World} {Q : Value → World → Prop} (h : f90.sh Z x0 w Q) : CallV Tryz.prog Z 90 #[x0] w Q :=
 cl Tryz.func90 f90.an [x0] (by kernel_rfl) (by kernel_rfl) h

def f91.sh (Z : List PanicEntry → World → Prop) (x0 : Value) (w : World) (Q : Value → World → Prop) : Prop :=
 CallV Tryz.prog Z 133 #[x0, (.int .i64 8)] w fun t1 w =>
 run1 Tryz.prog Z (convert 115 2 t1) w fun t2 w =>
 Q t2 w
def f91.an : An := (.sq .leaf (.sq .leaf .leaf))
theorem f91.calls {Z : List PanicEntry → World → Prop} {x0 : Value} {w : World} {Q : Value → World → Prop} (h : f91.sh Z x0 w Q) : CallV Tryz.prog Z 91 #[x0] w Q :=
 cl Tryz.func91 f91.an [x0] (by kernel_rfl) (by kernel_rfl) h

def f92.sh (Z : List PanicEntry → World → Prop) (x0 x1 : Value) (w : World) (Q : Value → World → Prop) : Prop :=
 run1 Tryz.prog Z (Instr.box 140 x0) w fun t1 w =>
 run1 Tryz.prog Z (Instr.alloc 58 true (.tuple #[])) w fun t2 w =>
 CallV Tryz.prog Z 90 #[x1] w fun t3 w =>
 run1 Tryz.prog Z (Instr.build 58 #[(0, t3)]) w fun t4 w =>
 run1 Tryz.prog Z (Instr.alloc 58 true (.tuple #[])) w fun t5 w =>
 run0 Tryz.prog Z (Instr.storeAt 58 t5 t4) w fun w =>
 run1 Tryz.prog Z (Instr.fieldAt 58 t5 0) w fun t6 w =>
 run1 Tryz.prog Z (Instr.loadAt 50 t6) w fun t7 w =>
 CallV Tryz.prog Z 104 #[t7] w fun t8 w =>
 run1 Tryz.prog Z (Op.unary .not t8) w fun t9 w =>
 guardW (t9) false (fun k => run1 Tryz.prog Z (Instr.fieldAt 140 t1 0) w k) (fun t10 w =>
 guardW (t9) false (fun k => run1 Tryz.prog Z (Instr.loadAt 4 t10) w k) (fun t11 w =>
 guardW (t9) false (fun k => k (t11) w) (fun t12 w =>
 guardW (t12) true (fun k => run1 Tryz.prog Z (Instr.fieldAt 58 t5 0) w k) (fun t13 w =>
 guardW (t12) true (fun k => run1 Tryz.prog Z (Instr.loadAt 50 t13) w k) (fun t14 w =>
 guardW (t12) true (fun k => run1 Tryz.prog Z (binOp .gtr 50 t14 (.int .i8 5)) w k) (fun t15 w =>
 guardW (t9) false (fun k => run1 Tryz.prog Z (pickV t12 t15 (.bool false)) w k) (fun t16 w =>
 run1 Tryz.prog Z (pickV t9 (.bool true) t16) w fun t17 w =>
 CondV t17 (
 CallV Tryz.prog Z 134 #[x1, (.int .i64 40)] w fun t18 w =>
 run1 Tryz.prog Z (Instr.build 58 #[]) w fun t19 w =>
 run0 Tryz.prog Z (Instr.storeAt 58 t2 t19) w fun w =>
 ∃ r_20, (do loadVar 58 (← asAddr t2) : Sem Value).run Tryz.prog w = .ok r_20 w ∧
 Q r_20 w) (
 run1 Tryz.prog Z (Instr.loadAt 140 t1) w fun t21 w =>
 run1 Tryz.prog Z (Instr.fieldAt 58 t5 0) w fun t22 w =>
 run1 Tryz.prog Z (Instr.loadAt 50 t22) w fun t23 w =>
 CallV Tryz.prog Z 135 #[t21, t23] w fun t24 w =>
 ∀ j_25 : World → Prop, (∀ w : World, (Env →
 ∀ j_26 : World → Prop, (∀ w : World, (Env →
 ∀ j_27 : World → Prop, (∀ w : World, (Env →
 ∀ j_28 : World → Prop, (∀ w : World, (Env →
 ∀ j_29 : World → Prop, (∀ w : World, (Env →
 ∀ j_30 : World → Prop, (∀ w : World, (Env →
 ∀ j_31 : World → Prop, (∀ w : World, (Env →
 ∀ j_32 : World → Prop, (∀ w : World, (Env →
 ∀ j_33 : World → Prop, (∀ w : World, (Env →
 run1 Tryz.prog Z (Instr.loadAt 58 t5) w fun t34 w =>
 run0 Tryz.prog Z (Instr.storeAt 58 t2 t34) w fun w =>
 ∃ r_35, (do loadVar 58 (← asAddr t2) : Sem Value).run Tryz.prog w = .ok r_35 w ∧
 Q r_35 w) →
 j_33 w) →
 run1 Tryz.prog Z (binOp .and 130 t24 (.int .u64 256)) w fun t36 w =>
 run1 Tryz.prog Z (eqOp .neq 130 false true t36 (.int .u64 0)) w fun t37 w =>
 CondV t37 (
 run1 Tryz.prog Z (Instr.build 140 #[(0, (.bool true))]) w fun t38 w =>
 run1 Tryz.prog Z (Instr.makeFunc (.func 92) #[t38] #[]) w fun t39 w =>
 CallV Tryz.prog Z 144 #[x1, (.int .i64 8), t39] w fun t40 w =>
 run1 Tryz.prog Z (Instr.fieldAt 58 t5 10) w fun t41 w =>
 run0 Tryz.prog Z (Instr.storeAt 56 t41 t40) w fun w =>
 j_33 w) (
 j_33 w)) →
 j_32 w) →
 run1 Tryz.prog Z (binOp .and 130 t24 (.int .u64 128)) w fun t42 w =>
 run1 Tryz.prog Z (eqOp .neq 130 false true t42 (.int .u64 0)) w fun t43 w =>
 CondV t43 (
 CallV Tryz.prog Z 142 #[x1, (.int .i64 4), (.func (.func 143) #[] #[])] w fun t44 w =>
 run1 Tryz.prog Z (Instr.fieldAt 58 t5 9) w fun t45 w =>
 run0 Tryz.prog Z (Instr.storeAt 55 t45 t44) w fun w =>
 j_32 w) (
 j_32 w)) →
 j_31 w) →
 run1 Tryz.prog Z (binOp .and 130 t24 (.int .u64 64)) w fun t46 w =>
 run1 Tryz.prog Z (eqOp .neq 130 false true t46 (.int .u64 0)) w fun t47 w =>
 CondV t47 (
 CallV Tryz.prog Z 140 #[x1] w fun t48 w =>
 run1 Tryz.prog Z (Instr.fieldAt 58 t5 8) w fun t49 w =>
 run0 Tryz.prog Z (Instr.storeAt 21 t49 t48) w fun w =>
 j_31 w) (
 j_31 w)) →
 j_30 w) →
 run1 Tryz.prog Z (binOp .and 130 t24 (.int .u64 32)) w fun t50 w =>
 run1 Tryz.prog Z (eqOp .neq 130 false true t50 (.int .u64 0)) w fun t51 w =>
 CondV t51 (
 CallV Tryz.prog Z 91 #[x1] w fun t52 w =>
 run1 Tryz.prog Z (Instr.fieldAt 58 t5 7) w fun t53 w =>
 run0 Tryz.prog Z (Instr.storeAt 2 t53 t52) w fun w =>
 j_30 w) (
 j_30 w)) →
 j_29 w) →
 run1 Tryz.prog Z (binOp .and 130 t24 (.int .u64 16)) w fun t54 w =>
 run1 Tryz.prog Z (eqOp .neq 130 false true t54 (.int .u64 0)) w fun t55 w =>
 CondV t55 (
 CallV Tryz.prog Z 141 #[x1] w fun t56 w =>
 run1 Tryz.prog Z (Instr.fieldAt 58 t5 5) w fun t57 w =>
 run0 Tryz.prog Z (Instr.storeAt 4 t57 t56) w fun w =>
 CallV Tryz.prog Z 141 #[x1] w fun t58 w =>
 run1 Tryz.prog Z (Instr.fieldAt 58 t5 6) w fun t59 w =>
 run0 Tryz.prog Z (Instr.storeAt 4 t59 t58) w fun w =>
 j_29 w) (
 j_29 w)) →
 j_28 w) →
 run1 Tryz.prog Z (binOp .and 130 t24 (.int .u64 8)) w fun t60 w =>
 run1 Tryz.prog Z (eqOp .neq 130 false true t60 (.int .u64 0)) w fun t61 w =>
 CondV t61 (
 CallV Tryz.prog Z 140 #[x1] w fun t62 w =>
 run1 Tryz.prog Z (Instr.fieldAt 58 t5 4) w fun t63 w =>
 run0 Tryz.prog Z (Instr.storeAt 21 t63 t62) w fun w =>
 j_28 w) (
 j_28 w)) →
 j_27 w) →
 run1 Tryz.prog Z (binOp .and 130 t24 (.int .u64 4)) w fun t64 w =>
 run1 Tryz.prog Z (eqOp .neq 130 false true t64 (.int .u64 0)) w fun t65 w =>
 CondV t65 (
 CallV Tryz.prog Z 138 #[x1, (.int .i64 4), (.func (.func 139) #[] #[])] w fun t66 w =>
 run1 Tryz.prog Z (Instr.fieldAt 58 t5 3) w fun t67 w =>
 run0 Tryz.prog Z (Instr.storeAt 54 t67 t66) w fun w =>
 j_27 w) (
 j_27 w)) →
 j_26 w) →
 run1 Tryz.prog Z (binOp .and 130 t24 (.int .u64 2)) w fun t68 w =>
 run1 Tryz.prog Z (eqOp .neq 130 false true t68 (.int .u64 0)) w fun t69 w =>
 CondV t69 (
 CallV Tryz.prog Z 137 #[x1, (.int .i64 96)] w fun t70 w =>
 run1 Tryz.prog Z (Instr.fieldAt 58 t5 2) w fun t71 w =>
 run0 Tryz.prog Z (Instr.storeAt 53 t71 t70) w fun w =>
 j_26 w) (
 j_26 w)) →
 j_25 w) →
 run1 Tryz.prog Z (binOp .and 130 t24 (.int .u64 1)) w fun t72 w =>
 run1 Tryz.prog Z (eqOp .neq 130 false true t72 (.int .u64 0)) w fun t73 w =>
 CondV t73 (
 CallV Tryz.prog Z 136 #[x1, (.int .i64 64)] w fun t74 w =>
 run1 Tryz.prog Z (Instr.fieldAt 58 t5 1) w fun t75 w =>
 run0 Tryz.prog Z (Instr.storeAt 9 t75 t74) w fun w =>
 j_25 w) (
 j_25 w))) w) w) w) w) w) w) w
def f92.an : An := (.sq .leaf (.sq .leaf (.sq (.sq .leaf (.cn (.sq .leaf (.sq .leaf .leaf)) .leaf)) (.sq .leaf (.sj [] (.sq .leaf (.cn .leaf .leaf)) (.sj [] (.sq .leaf (.cn .leaf .leaf)) (.sj [] (.sq .leaf (.cn .leaf .leaf)) (.sj [] (.sq .leaf (.cn .leaf .leaf)) (.sj [] (.sq .leaf (.cn (.sq .leaf .leaf) .leaf)) (.sj [] (.sq .leaf (.cn .leaf .leaf)) (.sj [] (.sq .leaf (.cn .leaf .leaf)) (.sj [] (.sq .leaf (.cn .leaf .leaf)) (.sj [] (.sq .leaf (.cn .leaf .leaf)) (.sq .leaf .leaf))))))))))))))
theorem f92.calls {Z : List PanicEntry → World → Prop} {x0 x1 : Value} {w : World} {Q : Value → World → Prop} (h : f92.sh Z x0 x1 w Q) : CallV Tryz.prog Z 92 #[x0, x1] w Q :=
 cl Tryz.func92 f92.an [x0, x1] (by kernel_rfl) (by kernel_rfl) h

def f93.sh (Z : List PanicEntry → World → Prop) (x0 : Value) (w : World) (Q : Value → World → Prop) : Prop :=
 CallV Tryz.prog Z 145 #[x0] w fun t1 w =>
 guardW (t1) true (fun k => k (x0) w) (fun t2 w =>
 guardW (t1) true (fun k => runX Tryz.prog Z (nilChk t2) w k) (fun t3 w =>
 guardW (t1) true (fun k => run1 Tryz.prog Z (Instr.fieldAt 183 t3 1) w k) (fun t4 w =>
 guardW (t1) true (fun k => run1 Tryz.prog Z (Instr.loadAt 53 t4) w k) (fun t5 w =>
 guardW (t1) true (fun k => run1 Tryz.prog Z (Builtin.len_ #[53] 3 #[t5]) w k) (fun t6 w =>
 guardW (t1) true (fun k => run1 Tryz.prog Z (binOp .gtr 3 t6 (.int .i64 0)) w k) (fun t7 w =>
 run1 Tryz.prog Z (pickV t1 t7 (.bool false)) w fun t8 w =>
 CondV t8 (
 Q (.int .i64 13) w) (
 CallV Tryz.prog Z 146 #[x0] w fun t9 w =>
 Q t9 w)) w) w) w) w) w) w
def f93.an : An := (.sq .leaf (.sq (.sq .leaf (.cn (.sq .leaf .leaf) .leaf)) (.sq .leaf .leaf)))
theorem f93.calls {Z : List PanicEntry → World → Prop} {x0 : Value} {w : World} {Q : Value → World → Prop} (h : f93.sh Z x0 w Q) : CallV Tryz.prog Z 93 #[x0] w Q :=
 cl Tryz.func93 f93.an [x0] (by kernel_rfl) (by kernel_rfl) h

def f94.sh (Z : List PanicEntry → World → Prop) (x0 : Value) (w : World) (Q : Value → World → Prop) : Prop :=
 run1 Tryz.prog Z (eqOp .eql 53 false true x0 (.slice none 0 0)) w fun t1 w =>
 CondV t1 (
 Q (.slice none 0 0) w) (
 run1 Tryz.prog Z (Instr.buildSlice 53 0 #[]) w fun t2 w =>
 run1 Tryz.prog Z (Builtin.append_ #[53, 53] 53 #[t2, x0]) w fun t3 w =>
 Q t3 w)
def f94.an : An := (.sq .leaf (.sq (.sq .leaf (.cn (.sq .leaf .leaf) .leaf)) (.sq .leaf .leaf)))
theorem f94.calls {Z : List PanicEntry → World → Prop} {x0 : Value} {w : World} {Q : Value → World → Prop} (h : f94.sh Z x0 w Q) : CallV Tryz.prog Z 94 #[x0] w Q :=
 cl Tryz.func94 f94.an [x0] (by kernel_rfl) (by kernel_rfl) h

def f95.sh (Z : List PanicEntry → World → Prop) (x0 : Value) (w : World) (Q : Value → World → Prop) : Prop :=
 run1 Tryz.prog Z (eqOp .eql 54 false true x0 (.slice none 0 0)) w fun t1 w =>
 CondV t1 (
 Q (.slice none 0 0) w) (
 run1 Tryz.prog Z (Instr.buildSlice 54 0 #[]) w fun t2 w =>
 run1 Tryz.prog Z (Builtin.append_ #[54, 54] 54 #[t2, x0]) w fun t3 w =>
 Q t3 w)
def f95.an : An := (.sq .leaf (.sq (.sq .leaf (.cn (.sq .leaf .leaf) .leaf)) (.sq .leaf .leaf)))
theorem f95.calls {Z : List PanicEntry → World → Prop} {x0 : Value} {w : World} {Q : Value → World → Prop} (h : f95.sh Z x0 w Q) : CallV Tryz.prog Z 95 #[x0] w Q :=
 cl Tryz.func95 f95.an [x0] (by kernel_rfl) (by kernel_rfl) h

def f96.sh (Z : List PanicEntry → World → Prop) (x0 : Value) (w : World) (Q : Value → World → Prop) : Prop :=
 run1 Tryz.prog Z (eqOp .eql 55 false true x0 (.slice none 0 0)) w fun t1 w =>
 CondV t1 (
 Q (.slice none 0 0) w) (
 run1 Tryz.prog Z (Instr.buildSlice 55 0 #[]) w fun t2 w =>
 run1 Tryz.prog Z (Builtin.append_ #[55, 55] 55 #[t2, x0]) w fun t3 w =>
 Q t3 w)
def f96.an : An := (.sq .leaf (.sq (.sq .leaf (.cn (.sq .leaf .leaf) .leaf)) (.sq .leaf .leaf)))
theorem f96.calls {Z : List PanicEntry → World → Prop} {x0 : Value} {w : World} {Q : Value → World → Prop} (h : f96.sh Z x0 w Q) : CallV Tryz.prog Z 96 #[x0] w Q :=
 cl Tryz.func96 f96.an [x0] (by kernel_rfl) (by kernel_rfl) h

def f97.sh (Z : List PanicEntry → World → Prop) (x0 : Value) (w : World) (Q : Value → World → Prop) : Prop :=
 run1 Tryz.prog Z (eqOp .eql 56 false true x0 (.slice none 0 0)) w fun t1 w =>
 CondV t1 (
 Q (.slice none 0 0) w) (
 run1 Tryz.prog Z (Instr.buildSlice 56 0 #[]) w fun t2 w =>
 run1 Tryz.prog Z (Builtin.append_ #[56, 56] 56 #[t2, x0]) w fun t3 w =>
 Q t3 w)
def f97.an : An := (.sq .leaf (.sq (.sq .leaf (.cn (.sq .leaf .leaf) .leaf)) (.sq .leaf .leaf)))
theorem f97.calls {Z : List PanicEntry → World → Prop} {x0 : Value} {w : World} {Q : Value → World → Prop} (h : f97.sh Z x0 w Q) : CallV Tryz.prog Z 97 #[x0] w Q :=
 cl Tryz.func97 f97.an [x0] (by kernel_rfl) (by kernel_rfl) h

def f101.sh (Z : List PanicEntry → World → Prop) (x0 : Value) (w : World) (Q : Value → World → Prop) : Prop :=
 run1 Tryz.prog Z (binOp .sub 3 x0 (.int .i64 1)) w fun t1 w =>
 run1 Tryz.prog Z (binOp .and 3 x0 t1) w fun t2 w =>
 run1 Tryz.prog Z (eqOp .eql 3 false true t2 (.int .i64 0)) w fun t3 w =>
 Q t3 w
def f101.an : An := (.sq .leaf (.sq .leaf .leaf))
theorem f101.calls {Z : List PanicEntry → World → Prop} {x0 : Value} {w : World} {Q : Value → World → Prop} (h : f101.sh Z x0 w Q) : CallV Tryz.prog Z 101 #[x0] w Q :=
 cl Tryz.func101 f101.an [x0] (by kernel_rfl) (by kernel_rfl) h

def f102.sh (Z : List PanicEntry → World → Prop) (x0 : Value) (w : World) (Q : Value → World → Prop) : Prop :=
 CondV (.bool false) (
 run1 Tryz.prog Z (convert 130 35 x0) w fun t1 w =>
 CallV Tryz.prog Z 147 #[t1] w fun t2 w =>
 Q t2 w) (
 CallV Tryz.prog Z 148 #[x0] w fun t3 w =>
 Q t3 w)
def f102.an : An := (.sq .leaf (.sq (.cn (.sq .leaf .leaf) .leaf) (.sq .leaf .leaf)))
theorem f102.calls {Z : List PanicEntry → World → Prop} {x0 : Value} {w : World} {Q : Value → World → Prop} (h : f102.sh Z x0 w Q) : CallV Tryz.prog Z 102 #[x0] w Q :=
 cl Tryz.func102 f102.an [x0] (by kernel_rfl) (by kernel_rfl) h

def f104.sh (Z : List PanicEntry → World → Prop) (x0 : Value) (w : World) (Q : Value → World → Prop) : Prop :=
 run1 Tryz.prog Z (binOp .geq 50 x0 (.int .i8 1)) w fun t1 w =>
 guardW (t1) true (fun k => k (x0) w) (fun t2 w =>
 guardW (t1) true (fun k => run1 Tryz.prog Z (binOp .leq 50 t2 (.int .i8 12)) w k) (fun t3 w =>
 run1 Tryz.prog Z (pickV t1 t3 (.bool false)) w fun t4 w =>
 Q t4 w) w) w
def f104.an : An := (.sq .leaf (.sq .leaf .leaf))
theorem f104.calls {Z : List PanicEntry → World → Prop} {x0 : Value} {w : World} {Q : Value → World → Prop} (h : f104.sh Z x0 w Q) : CallV Tryz.prog Z 104 #[x0] w Q :=
 cl Tryz.func104 f104.an [x0] (by kernel_rfl) (by kernel_rfl) h

def f105.sh (Z : List PanicEntry → World → Prop) (x0 : Value) (w : World) (Q : Value → World → Prop) : Prop :=
 run1 Tryz.prog Z (Instr.box 58 x0) w fun t1 w =>
 run1 Tryz.prog Z (Instr.fieldAt 58 t1 0) w fun t2 w =>
 run1 Tryz.prog Z (Instr.loadAt 50 t2) w fun t3 w =>
 run1 Tryz.prog Z (Instr.indexAt 195 (.pointer (some ⟨1, 0, none⟩)) t3) w fun t4 w =>
 run1 Tryz.prog Z (Instr.loadAt 130 t4) w fun t5 w =>
 run1 Tryz.prog Z (Instr.alloc 130 true (.tuple #[])) w fun t6 w =>
 run0 Tryz.prog Z (Instr.storeAt 130 t6 t5) w fun w =>
 run1 Tryz.prog Z (Instr.makeFunc (.func 150) #[] #[t6]) w fun t7 w =>
 ∀ j_8 : World → Prop, (∀ w : World, (Env →
 run1 Tryz.prog Z (Instr.fieldAt 58 t1 3) w fun t9 w =>
 run1 Tryz.prog Z (Instr.loadAt 54 t9) w fun t10 w =>
 run1 Tryz.prog Z (Builtin.len_ #[54] 3 #[t10]) w fun t11 w =>
 ∃ J_12 : Nat → Value → World → Prop, (∃ m, J_12 m (.int .i64 0) w) ∧
 ∀ m_12, ∀ t13 : Value, ∀ w : World, J_12 m_12 t13 w → Env →
 run1 Tryz.prog Z (binOp .lss 3 t13 t11) w fun t14 w =>
 CondV t14 (
 run1 Tryz.prog Z (Instr.indexAt 54 t10 t13) w fun t15 w =>
 run1 Tryz.prog Z (Instr.loadAt 146 t15) w fun t16 w =>
 run1 Tryz.prog Z (Instr.alloc 146 true (.tuple #[])) w fun t17 w =>
 run0 Tryz.prog Z (Instr.storeAt 146 t17 t16) w fun w =>
 run1 Tryz.prog Z (Instr.fieldAt 146 t17 1) w fun t18 w =>
 run1 Tryz.prog Z (Instr.loadAt 144 t18) w fun t19 w =>
 CallV Tryz.prog Z 151 #[t19] w fun t20 w =>
 run1 Tryz.prog Z (Op.unary .not t20) w fun t21 w =>
 CondV t21 (
 Q (.bool false) w) (
 run1 Tryz.prog Z (binOp .add 3 t13 (.int .i64 1)) w fun t22 w =>
 ∃ n_12, n_12 < m_12 ∧ J_12 n_12 t22 w)) (
 run1 Tryz.prog Z (Instr.fieldAt 58 t1 9) w fun t23 w =>
 run1 Tryz.prog Z (Instr.loadAt 55 t23) w fun t24 w =>
 CallV Tryz.prog Z 152 #[t24, (.func (.func 153) #[] #[])] w fun t25 w =>
 run1 Tryz.prog Z (Op.unary .not t25) w fun t26 w =>
 Q t26 w)) →
 j_8 w) →
 ∀ j_27 : Value → World → Prop, (∀ t28 : Value, ∀ w : World, (Env →
 CondV t28 (
 Q (.bool false) w) (
 ∀ j_29 : Value → World → Prop, (∀ t30 : Value, ∀ w : World, (Env →
 CondV t30 (
 Q (.bool false) w) (
 ∀ j_31 : Value → World → Prop, (∀ t32 : Value, ∀ w : World, (Env →
 CondV t32 (
 Q (.bool false) w) (
 ∀ j_33 : Value → World → Prop, (∀ t34 : Value, ∀ w : World, (Env →
 CondV t34 (
 Q (.bool false) w) (
 j_8 w)) →
 j_33 t34 w) →
 run1 Tryz.prog Z (Instr.fieldAt 58 t1 7) w fun t35 w =>
 run1 Tryz.prog Z (Instr.loadAt 2 t35) w fun t36 w =>
 run1 Tryz.prog Z (binOp .lss 2 t36 (.int .i64 0)) w fun t37 w =>
 CondV t37 (
 j_33 t37 w) (
 run1 Tryz.prog Z (Instr.fieldAt 58 t1 0) w fun t38 w =>
 run1 Tryz.prog Z (Instr.loadAt 50 t38) w fun t39 w =>
 run1 Tryz.prog Z (eqOp .eql 50 false true t39 (.int .i8 8)) w fun t40 w =>
 guardW (t40) true (fun k => run1 Tryz.prog Z (Instr.fieldAt 58 t1 7) w k) (fun t41 w =>
 guardW (t40) true (fun k => run1 Tryz.prog Z (Instr.loadAt 2 t41) w k) (fun t42 w =>
 guardW (t40) true (fun k => run1 Tryz.prog Z (eqOp .eql 2 false true t42 (.int .i64 0)) w k) (fun t43 w =>
 run1 Tryz.prog Z (pickV t40 t43 (.bool false)) w fun t44 w =>
 CondV t44 (
 j_33 t44 w) (
 runX Tryz.prog Z (callVal t7 #[(.int .u64 64)]) w fun t45 w =>
 guardW (t45) true (fun k => run1 Tryz.prog Z (Instr.fieldAt 58 t1 8) w k) (fun t46 w =>
 guardW (t45) true (fun k => run1 Tryz.prog Z (Instr.loadAt 21 t46) w k) (fun t47 w =>
 guardW (t45) true (fun k => run1 Tryz.prog Z (binOp .lss 21 t47 (.int .i32 1)) w k) (fun t48 w =>
 guardW (t45) true (fun k => k (t48) w) (fun t49 w =>
 guardW (t49) false (fun k => run1 Tryz.prog Z (Instr.fieldAt 58 t1 8) w k) (fun t50 w =>
 guardW (t49) false (fun k => run1 Tryz.prog Z (Instr.loadAt 21 t50) w k) (fun t51 w =>
 guardW (t49) false (fun k => run1 Tryz.prog Z (binOp .gtr 21 t51 (.int .i32 1000)) w k) (fun t52 w =>
 guardW (t45) true (fun k => run1 Tryz.prog Z (pickV t49 (.bool true) t52) w k) (fun t53 w =>
 run1 Tryz.prog Z (pickV t45 t53 (.bool false)) w fun t54 w =>
 CondV t54 (
 j_33 t54 w) (
 runX Tryz.prog Z (callVal t7 #[(.int .u64 256)]) w fun t55 w =>
 guardW (t55) true (fun k => run1 Tryz.prog Z (Instr.fieldAt 58 t1 10) w k) (fun t56 w =>
 guardW (t55) true (fun k => run1 Tryz.prog Z (Instr.loadAt 56 t56) w k) (fun t57 w =>
 guardW (t55) true (fun k => run1 Tryz.prog Z (Builtin.len_ #[56] 3 #[t57]) w k) (fun t58 w =>
 guardW (t55) true (fun k => run1 Tryz.prog Z (eqOp .eql 3 false true t58 (.int .i64 0)) w k) (fun t59 w =>
 run1 Tryz.prog Z (pickV t55 t59 (.bool false)) w fun t60 w =>
 j_33 t60 w) w) w) w) w)) w) w) w) w) w) w) w) w)) w) w) w))) →
 j_31 t32 w) →
 run1 Tryz.prog Z (Instr.fieldAt 58 t1 1) w fun t61 w =>
 run1 Tryz.prog Z (Instr.loadAt 9 t61) w fun t62 w =>
 run1 Tryz.prog Z (Builtin.len_ #[9] 3 #[t62]) w fun t63 w =>
 run1 Tryz.prog Z (binOp .gtr 3 t63 (.int .i64 64)) w fun t64 w =>
 CondV t64 (
 j_31 t64 w) (
 run1 Tryz.prog Z (Instr.fieldAt 58 t1 2) w fun t65 w =>
 run1 Tryz.prog Z (Instr.loadAt 53 t65) w fun t66 w =>
 run1 Tryz.prog Z (Builtin.len_ #[53] 3 #[t66]) w fun t67 w =>
 run1 Tryz.prog Z (binOp .gtr 3 t67 (.int .i64 96)) w fun t68 w =>
 CondV t68 (
 j_31 t68 w) (
 run1 Tryz.prog Z (Instr.fieldAt 58 t1 3) w fun t69 w =>
 run1 Tryz.prog Z (Instr.loadAt 54 t69) w fun t70 w =>
 run1 Tryz.prog Z (Builtin.len_ #[54] 3 #[t70]) w fun t71 w =>
 run1 Tryz.prog Z (binOp .gtr 3 t71 (.int .i64 4)) w fun t72 w =>
 CondV t72 (
 j_31 t72 w) (
 run1 Tryz.prog Z (Instr.fieldAt 58 t1 9) w fun t73 w =>
 run1 Tryz.prog Z (Instr.loadAt 55 t73) w fun t74 w =>
 run1 Tryz.prog Z (Builtin.len_ #[55] 3 #[t74]) w fun t75 w =>
 run1 Tryz.prog Z (binOp .gtr 3 t75 (.int .i64 4)) w fun t76 w =>
 CondV t76 (
 j_31 t76 w) (
 run1 Tryz.prog Z (Instr.fieldAt 58 t1 10) w fun t77 w =>
 run1 Tryz.prog Z (Instr.loadAt 56 t77) w fun t78 w =>
 run1 Tryz.prog Z (Builtin.len_ #[56] 3 #[t78]) w fun t79 w =>
 run1 Tryz.prog Z (binOp .gtr 3 t79 (.int .i64 8)) w fun t80 w =>
 j_31 t80 w)))))) →
 j_29 t30 w) →
 runX Tryz.prog Z (callVal t7 #[(.int .u64 16)]) w fun t81 w =>
 run1 Tryz.prog Z (Op.unary .not t81) w fun t82 w =>
 guardW (t82) true (fun k => run1 Tryz.prog Z (Instr.fieldAt 58 t1 5) w k) (fun t83 w =>
 guardW (t82) true (fun k => run1 Tryz.prog Z (Instr.loadAt 4 t83) w k) (fun t84 w =>
 guardW (t82) true (fun k => k (t84) w) (fun t85 w =>
 guardW (t85) false (fun k => run1 Tryz.prog Z (Instr.fieldAt 58 t1 6) w k) (fun t86 w =>
 guardW (t85) false (fun k => run1 Tryz.prog Z (Instr.loadAt 4 t86) w k) (fun t87 w =>
 guardW (t82) true (fun k => run1 Tryz.prog Z (pickV t85 (.bool true) t87) w k) (fun t88 w =>
 run1 Tryz.prog Z (pickV t82 t88 (.bool false)) w fun t89 w =>
 CondV t89 (
 j_29 t89 w) (
 runX Tryz.prog Z (callVal t7 #[(.int .u64 32)]) w fun t90 w =>
 run1 Tryz.prog Z (Op.unary .not t90) w fun t91 w =>
 guardW (t91) true (fun k => run1 Tryz.prog Z (Instr.fieldAt 58 t1 7) w k) (fun t92 w =>
 guardW (t91) true (fun k => run1 Tryz.prog Z (Instr.loadAt 2 t92) w k) (fun t93 w =>
 guardW (t91) true (fun k => run1 Tryz.prog Z (eqOp .neq 2 false true t93 (.int .i64 0)) w k) (fun t94 w =>
 run1 Tryz.prog Z (pickV t91 t94 (.bool false)) w fun t95 w =>
 CondV t95 (
 j_29 t95 w) (
 runX Tryz.prog Z (callVal t7 #[(.int .u64 64)]) w fun t96 w =>
 run1 Tryz.prog Z (Op.unary .not t96) w fun t97 w =>
 guardW (t97) true (fun k => run1 Tryz.prog Z (Instr.fieldAt 58 t1 8) w k) (fun t98 w =>
 guardW (t97) true (fun k => run1 Tryz.prog Z (Instr.loadAt 21 t98) w k) (fun t99 w =>
 guardW (t97) true (fun k => run1 Tryz.prog Z (eqOp .neq 21 false true t99 (.int .i32 0)) w k) (fun t100 w =>
 run1 Tryz.prog Z (pickV t97 t100 (.bool false)) w fun t101 w =>
 CondV t101 (
 j_29 t101 w) (
 runX Tryz.prog Z (callVal t7 #[(.int .u64 128)]) w fun t102 w =>
 run1 Tryz.prog Z (Op.unary .not t102) w fun t103 w =>
 guardW (t103) true (fun k => run1 Tryz.prog Z (Instr.fieldAt 58 t1 9) w k) (fun t104 w =>
 guardW (t103) true (fun k => run1 Tryz.prog Z (Instr.loadAt 55 t104) w k) (fun t105 w =>
 guardW (t103) true (fun k => run1 Tryz.prog Z (Builtin.len_ #[55] 3 #[t105]) w k) (fun t106 w =>
 guardW (t103) true (fun k => run1 Tryz.prog Z (binOp .gtr 3 t106 (.int .i64 0)) w k) (fun t107 w =>
 run1 Tryz.prog Z (pickV t103 t107 (.bool false)) w fun t108 w =>
 CondV t108 (
 j_29 t108 w) (
 runX Tryz.prog Z (callVal t7 #[(.int .u64 256)]) w fun t109 w =>
 run1 Tryz.prog Z (Op.unary .not t109) w fun t110 w =>
 guardW (t110) true (fun k => run1 Tryz.prog Z (Instr.fieldAt 58 t1 10) w k) (fun t111 w =>
 guardW (t110) true (fun k => run1 Tryz.prog Z (Instr.loadAt 56 t111) w k) (fun t112 w =>
 guardW (t110) true (fun k => run1 Tryz.prog Z (Builtin.len_ #[56] 3 #[t112]) w k) (fun t113 w =>
 guardW (t110) true (fun k => run1 Tryz.prog Z (binOp .gtr 3 t113 (.int .i64 0)) w k) (fun t114 w =>
 run1 Tryz.prog Z (pickV t110 t114 (.bool false)) w fun t115 w =>
 j_29 t115 w) w) w) w) w)) w) w) w) w)) w) w) w)) w) w) w)) w) w) w) w) w) w)) →
 j_27 t28 w) →
 runX Tryz.prog Z (callVal t7 #[(.int .u64 1)]) w fun t116 w =>
 run1 Tryz.prog Z (Op.unary .not t116) w fun t117 w =>
 guardW (t117) true (fun k => run1 Tryz.prog Z (Instr.fieldAt 58 t1 1) w k) (fun t118 w =>
 guardW (t117) true (fun k => run1 Tryz.prog Z (Instr.loadAt 9 t118) w k) (fun t119 w =>
 guardW (t117) true (fun k => run1 Tryz.prog Z (eqOp .neq 9 false true t119 (.string { data := #[] })) w k) (fun t120 w =>
 run1 Tryz.prog Z (pickV t117 t120 (.bool false)) w fun t121 w =>
 CondV t121 (
 j_27 t121 w) (
 runX Tryz.prog Z (callVal t7 #[(.int .u64 2)]) w fun t122 w =>
 run1 Tryz.prog Z (Op.unary .not t122) w fun t123 w =>
 guardW (t123) true (fun k => run1 Tryz.prog Z (Instr.fieldAt 58 t1 2) w k) (fun t124 w =>
 guardW (t123) true (fun k => run1 Tryz.prog Z (Instr.loadAt 53 t124) w k) (fun t125 w =>
 guardW (t123) true (fun k => run1 Tryz.prog Z (Builtin.len_ #[53] 3 #[t125]) w k) (fun t126 w =>
 guardW (t123) true (fun k => run1 Tryz.prog Z (binOp .gtr 3 t126 (.int .i64 0)) w k) (fun t127 w =>
 run1 Tryz.prog Z (pickV t123 t127 (.bool false)) w fun t128 w =>
 CondV t128 (
 j_27 t128 w) (
 runX Tryz.prog Z (callVal t7 #[(.int .u64 4)]) w fun t129 w =>
 run1 Tryz.prog Z (Op.unary .not t129) w fun t130 w =>
 guardW (t130) true (fun k => run1 Tryz.prog Z (Instr.fieldAt 58 t1 3) w k) (fun t131 w =>
 guardW (t130) true (fun k => run1 Tryz.prog Z (Instr.loadAt 54 t131) w k) (fun t132 w =>
 guardW (t130) true (fun k => run1 Tryz.prog Z (Builtin.len_ #[54] 3 #[t132]) w k) (fun t133 w =>
 guardW (t130) true (fun k => run1 Tryz.prog Z (binOp .gtr 3 t133 (.int .i64 0)) w k) (fun t134 w =>
 run1 Tryz.prog Z (pickV t130 t134 (.bool false)) w fun t135 w =>
 CondV t135 (
 j_27 t135 w) (
 runX Tryz.prog Z (callVal t7 #[(.int .u64 8)]) w fun t136 w =>
 run1 Tryz.prog Z (Op.unary .not t136) w fun t137 w =>
 guardW (t137) true (fun k => run1 Tryz.prog Z (Instr.fieldAt 58 t1 4) w k) (fun t138 w =>
 guardW (t137) true (fun k => run1 Tryz.prog Z (Instr.loadAt 21 t138) w k) (fun t139 w =>
 guardW (t137) true (fun k => run1 Tryz.prog Z (eqOp .neq 21 false true t139 (.int .i32 0)) w k) (fun t140 w =>
 run1 Tryz.prog Z (pickV t137 t140 (.bool false)) w fun t141 w =>
 j_27 t141 w) w) w) w)) w) w) w) w)) w) w) w) w)) w) w) w
def f105.an : An := (.sq .leaf (.sq .leaf (.sq .leaf (.sj [] (.bl (.sj [12] (.sq .leaf (.cn .leaf (.sq .leaf (.cn .leaf (.sq .leaf (.cn .leaf .leaf)))))) (.cn (.sq .leaf .leaf) (.sj [47] (.sq .leaf (.cn .leaf (.sq .leaf (.cn .leaf (.sq .leaf (.cn .leaf (.sq .leaf (.cn .leaf .leaf)))))))) (.cn (.sq .leaf .leaf) (.sj [93] (.sq .leaf (.cn .leaf (.sq .leaf (.cn .leaf (.sq .leaf (.cn .leaf (.sq .leaf (.cn .leaf .leaf)))))))) (.cn (.sq .leaf .leaf) (.sj [114] (.sq .leaf (.cn .leaf (.sq .leaf (.cn .leaf (.sq .leaf (.cn .leaf .leaf)))))) (.cn (.sq .leaf .leaf) .leaf))))))))) (.sq (.sq .leaf (.bl (.lp [149] (.sq .leaf (.sq (.cn .leaf .leaf) (.sq (.bl (.sq .leaf (.sq .leaf (.cn (.sq .leaf .leaf) .leaf)))) .leaf)))))) (.sq .leaf .leaf))))))
theorem f105.calls {Z : List PanicEntry → World → Prop} {x0 : Value} {w : World} {Q : Value → World → Prop} (h : f105.sh Z x0 w Q) : CallV Tryz.prog Z 105 #[x0] w Q :=
 cl Tryz.func105 f105.an [x0] (by kernel_rfl) (by kernel_rfl) h

def f106.sh (Z : List PanicEntry → World → Prop) (x0 : Value) (w : World) (Q : Value → World → Prop) : Prop :=
 run1 Tryz.prog Z (Instr.box 58 x0) w fun t1 w =>
 run1 Tryz.prog Z (Instr.fieldAt 58 t1 0) w fun t2 w =>
 run1 Tryz.prog Z (Instr.loadAt 50 t2) w fun t3 w =>
 run1 Tryz.prog Z (binOp .geq 50 t3 (.int .i8 1)) w fun t4 w =>
 guardW (t4) true (fun k => run1 Tryz.prog Z (Instr.fieldAt 58 t1 0) w k) (fun t5 w =>
 guardW (t4) true (fun k => run1 Tryz.prog Z (Instr.loadAt 50 t5) w k) (fun t6 w =>
 guardW (t4) true (fun k => run1 Tryz.prog Z (binOp .leq 50 t6 (.int .i8 5)) w k) (fun t7 w =>
 run1 Tryz.prog Z (pickV t4 t7 (.bool false)) w fun t8 w =>
 guardW (t8) true (fun k => run1 Tryz.prog Z (Instr.fieldAt 58 t1 7) w k) (fun t9 w =>
 guardW (t8) true (fun k => run1 Tryz.prog Z (Instr.loadAt 2 t9) w k) (fun t10 w =>
 guardW (t8) true (fun k => run1 Tryz.prog Z (eqOp .eql 2 false true t10 (.int .i64 0)) w k) (fun t11 w =>
 run1 Tryz.prog Z (pickV t8 t11 (.bool false)) w fun t12 w =>
 guardW (t12) true (fun k => run1 Tryz.prog Z (Instr.fieldAt 58 t1 9) w k) (fun t13 w =>
 guardW (t12) true (fun k => run1 Tryz.prog Z (Instr.loadAt 55 t13) w k) (fun t14 w =>
 guardW (t12) true (fun k => run1 Tryz.prog Z (Builtin.len_ #[55] 3 #[t14]) w k) (fun t15 w =>
 guardW (t12) true (fun k => run1 Tryz.prog Z (eqOp .eql 3 false true t15 (.int .i64 0)) w k) (fun t16 w =>
 run1 Tryz.prog Z (pickV t12 t16 (.bool false)) w fun t17 w =>
 guardW (t17) true (fun k => run1 Tryz.prog Z (Instr.loadAt 58 t1) w k) (fun t18 w =>
 guardW (t17) true (fun k => CallV Tryz.prog Z 105 #[t18] w k) (fun t19 w =>
 run1 Tryz.prog Z (pickV t17 t19 (.bool false)) w fun t20 w =>
 Q t20 w) w) w) w) w) w) w) w) w) w) w) w) w
def f106.an : An := (.sq .leaf (.sq .leaf .leaf))
theorem f106.calls {Z : List PanicEntry → World → Prop} {x0 : Value} {w : World} {Q : Value → World → Prop} (h : f106.sh Z x0 w Q) : CallV Tryz.prog Z 106 #[x0] w Q :=
 cl Tryz.func106 f106.an [x0] (by kernel_rfl) (by kernel_rfl) h

def f107.sh (Z : List PanicEntry → World → Prop) (x0 : Value) (w : World) (Q : Value → World → Prop) : Prop :=
 run1 Tryz.prog Z (eqOp .neq 35 false false x0 x0) w fun t1 w =>
 Q t1 w
def f107.an : An := (.sq .leaf (.sq .leaf .leaf))
theorem f107.calls {Z : List PanicEntry → World → Prop} {x0 : Value} {w : World} {Q : Value → World → Prop} (h : f107.sh Z x0 w Q) : CallV Tryz.prog Z 107 #[x0] w Q :=
 cl Tryz.func107 f107.an [x0] (by kernel_rfl) (by kernel_rfl) h

def f108.sh (Z : List PanicEntry → World → Prop) (x0 x1 : Value) (w : World) (Q : Value → World → Prop) : Prop :=
 run1 Tryz.prog Z (Builtin.len_ #[9] 3 #[x0]) w fun t1 w =>
 run1 Tryz.prog Z (Builtin.len_ #[9] 3 #[x1]) w fun t2 w =>
 run1 Tryz.prog Z (binOp .geq 3 t1 t2) w fun t3 w =>
 guardW (t3) true (fun k => k (x0) w) (fun t4 w =>
 guardW (t3) true (fun k => k (x1) w) (fun t5 w =>
 guardW (t3) true (fun k => run1 Tryz.prog Z (Builtin.len_ #[9] 3 #[t5]) w k) (fun t6 w =>
 guardW (t3) true (fun k => run1 Tryz.prog Z (Instr.sliceAt 9 t4 none (some t6) none) w k) (fun t7 w =>
 guardW (t3) true (fun k => k (x1) w) (fun t8 w =>
 guardW (t3) true (fun k => run1 Tryz.prog Z (eqOp .eql 9 false false t7 t8) w k) (fun t9 w =>
 run1 Tryz.prog Z (pickV t3 t9 (.bool false)) w fun t10 w =>
 Q t10 w) w) w) w) w) w) w
def f108.an : An := (.sq .leaf (.sq .leaf .leaf))
theorem f108.calls {Z : List PanicEntry → World → Prop} {x0 x1 : Value} {w : World} {Q : Value → World → Prop} (h : f108.sh Z x0 x1 w Q) : CallV Tryz.prog Z 108 #[x0, x1] w Q :=
 cl Tryz.func108 f108.an [x0, x1] (by kernel_rfl) (by kernel_rfl) h

end Go.Proofs.YtbccccpdnaeomaaGreatDoor
