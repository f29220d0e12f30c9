import Derived.Test.YtfijkedmbaghmaaGreatDoorShBase
set_option linter.unusedVariables false
namespace Go.Proofs.YtfijkedmbaghmaaGreatDoor
open Go.Sh
def f5.sh (Z : List PanicEntry → World → Prop) (x0 x1 x2 : Value) (w : World) (Q : Value → World → Prop) : Prop :=
 run1 Tryz.prog Z (Instr.box 39 x0) w fun t1 w =>
 run1 Tryz.prog Z (Instr.loadAt 39 t1) w fun t2 w =>
 CallV Tryz.prog Z 7 #[t2] w fun t3 w =>
 CondV t3 (
 Q (.bool true) w) (
 CallV Tryz.prog Z 8 #[] w fun t4 w =>
 run1 Tryz.prog Z (Instr.loadAt 39 t1) w fun t5 w =>
 CallV Tryz.prog Z 11 #[t5] w fun t6 w =>
 run1 Tryz.prog Z (Instr.extract t6 0) w fun t7 w =>
 run1 Tryz.prog Z (Instr.extract t6 1) w fun t8 w =>
 run1 Tryz.prog Z (eqOp .eql 43 false true t8 (.int .i64 0)) w fun t9 w =>
 run1 Tryz.prog Z (Instr.loadAt 39 t1) w fun t10 w =>
 CallV Tryz.prog Z 13 #[t10] w fun t11 w =>
 run1 Tryz.prog Z (eqOp .eql 43 false true t11 (.int .i64 0)) w fun t12 w =>
 run1 Tryz.prog Z (eqOp .neq 4 false false t9 t12) w fun t13 w =>
 guardW (t13) false (fun k => k (t4) w) (fun t14 w =>
 guardW (t13) false (fun k => run1 Tryz.prog Z (Op.unary .not t14) w k) (fun t15 w =>
 run1 Tryz.prog Z (pickV t13 (.bool true) t15) w fun t16 w =>
 CondV t16 (
 Q (.bool false) w) (
 run1 Tryz.prog Z (eqOp .neq 43 false true t8 (.int .i64 0)) w fun t17 w =>
 CondV t17 (
 run1 Tryz.prog Z (Builtin.len_ #[30] 3 #[t7]) w fun t18 w =>
 run1 Tryz.prog Z (eqOp .eql 3 false true t18 (.int .i64 0)) w fun t19 w =>
 Q t19 w) (
 CallV Tryz.prog Z 23 #[t7] w fun t20 w =>
 run1 Tryz.prog Z (Instr.extract t20 0) w fun t21 w =>
 run1 Tryz.prog Z (Instr.extract t20 1) w fun t22 w =>
 run1 Tryz.prog Z (Instr.alloc 39 true (.tuple #[])) w fun t23 w =>
 run0 Tryz.prog Z (Instr.storeAt 39 t23 t21) w fun w =>
 run1 Tryz.prog Z (eqOp .neq 43 false true t22 (.int .i64 0)) w fun t24 w =>
 guardW (t24) false (fun k => run1 Tryz.prog Z (Instr.loadAt 39 t1) w k) (fun t25 w =>
 guardW (t24) false (fun k => run1 Tryz.prog Z (Instr.loadAt 39 t23) w k) (fun t26 w =>
 guardW (t24) false (fun k => CallV Tryz.prog Z 15 #[t25, t26] w k) (fun t27 w =>
 guardW (t24) false (fun k => run1 Tryz.prog Z (Op.unary .not t27) w k) (fun t28 w =>
 run1 Tryz.prog Z (pickV t24 (.bool true) t28) w fun t29 w =>
 CondV t29 (
 Q (.bool false) w) (
 run1 Tryz.prog Z (eqOp .eql 5 false true x2 (.int .u8 0)) w fun t30 w =>
 guardW (t30) false (fun k => k (x1) w) (fun t31 w =>
 guardW (t30) false (fun k => run1 Tryz.prog Z (binOp .lss 3 t31 (.int .i64 0)) w k) (fun t32 w =>
 run1 Tryz.prog Z (pickV t30 (.bool true) t32) w fun t33 w =>
 guardW (t33) false (fun k => k (x1) w) (fun t34 w =>
 guardW (t33) false (fun k => k (t7) w) (fun t35 w =>
 guardW (t33) false (fun k => run1 Tryz.prog Z (Builtin.len_ #[30] 3 #[t35]) w k) (fun t36 w =>
 guardW (t33) false (fun k => run1 Tryz.prog Z (binOp .geq 3 t34 t36) w k) (fun t37 w =>
 run1 Tryz.prog Z (pickV t33 (.bool true) t37) w fun t38 w =>
 CondV t38 (
 Q (.bool true) w) (
 run1 Tryz.prog Z (Instr.indexAt 30 t7 x1) w fun t39 w =>
 run1 Tryz.prog Z (Instr.loadAt 5 t39) w fun t40 w =>
 run1 Tryz.prog Z (binOp .xor 5 t40 x2) w fun t41 w =>
 run1 Tryz.prog Z (Instr.indexAt 30 t7 x1) w fun t42 w =>
 run0 Tryz.prog Z (Instr.storeAt 5 t42 t41) w fun w =>
 CallV Tryz.prog Z 23 #[t7] w fun t43 w =>
 run1 Tryz.prog Z (Instr.extract t43 0) w fun t44 w =>
 run1 Tryz.prog Z (Instr.extract t43 1) w fun t45 w =>
 run1 Tryz.prog Z (Instr.alloc 39 true (.tuple #[])) w fun t46 w =>
 run0 Tryz.prog Z (Instr.storeAt 39 t46 t44) w fun w =>
 run1 Tryz.prog Z (eqOp .eql 43 false true t45 (.int .i64 150)) w fun t47 w =>
 guardW (t47) true (fun k => run1 Tryz.prog Z (Instr.loadAt 39 t46) w k) (fun t48 w =>
 guardW (t47) true (fun k => run1 Tryz.prog Z (Instr.build 39 #[]) w k) (fun t49 w =>
 guardW (t47) true (fun k => CallV Tryz.prog Z 15 #[t48, t49] w k) (fun t50 w =>
 run1 Tryz.prog Z (pickV t47 t50 (.bool false)) w fun t51 w =>
 Q t51 w) w) w) w)) w) w) w) w) w) w)) w) w) w) w))) w) w)
def f5.an : An := (.sq .leaf (.sq (.sq .leaf (.cn (.sq .leaf .leaf) .leaf)) (.sq .leaf (.sq .leaf (.sq (.sq .leaf (.cn (.sq .leaf .leaf) .leaf)) (.sq (.sq .leaf (.cn (.sq .leaf .leaf) .leaf)) (.sq .leaf (.sq (.sq .leaf (.cn (.sq .leaf .leaf) .leaf)) (.sq (.sq .leaf (.cn (.sq .leaf .leaf) .leaf)) (.sq .leaf (.sq .leaf (.sq .leaf .leaf))))))))))))
theorem f5.calls {Z : List PanicEntry → World → Prop} {x0 x1 x2 : Value} {w : World} {Q : Value → World → Prop} (h : f5.sh Z x0 x1 x2 w Q) : CallV Tryz.prog Z 5 #[x0, x1, x2] w Q :=
 cl Tryz.func5 f5.an [x0, x1, x2] (by kernel_rfl) (by kernel_rfl) h

def f7.sh (Z : List PanicEntry → World → Prop) (x0 : Value) (w : World) (Q : Value → World → Prop) : Prop :=
 run1 Tryz.prog Z (Instr.box 39 x0) w fun t1 w =>
 run1 Tryz.prog Z (Instr.fieldAt 39 t1 11) w fun t2 w =>
 run1 Tryz.prog Z (Instr.loadAt 30 t2) w fun t3 w =>
 run1 Tryz.prog Z (Builtin.len_ #[30] 3 #[t3]) w fun t4 w =>
 run1 Tryz.prog Z (binOp .gtr 3 t4 (.int .i64 536870911)) w fun t5 w =>
 guardW (t5) false (fun k => run1 Tryz.prog Z (Instr.fieldAt 39 t1 10) w k) (fun t6 w =>
 guardW (t5) false (fun k => run1 Tryz.prog Z (Instr.fieldAt 37 t6 2) w k) (fun t7 w =>
 guardW (t5) false (fun k => run1 Tryz.prog Z (Instr.loadAt 35 t7) w k) (fun t8 w =>
 guardW (t5) false (fun k => CallV Tryz.prog Z 25 #[t8] w k) (fun t9 w =>
 run1 Tryz.prog Z (pickV t5 (.bool true) t9) w fun t10 w =>
 Q t10 w) w) w) w) w
def f7.an : An := (.sq .leaf (.sq .leaf .leaf))
theorem f7.calls {Z : List PanicEntry → World → Prop} {x0 : Value} {w : World} {Q : Value → World → Prop} (h : f7.sh Z x0 w Q) : CallV Tryz.prog Z 7 #[x0] w Q :=
 cl Tryz.func7 f7.an [x0] (by kernel_rfl) (by kernel_rfl) h

def f8.sh (Z : List PanicEntry → World → Prop) (w : World) (Q : Value → World → Prop) : Prop :=
 run1 Tryz.prog Z (Instr.build 25 #[(0, (.int .u32 3)), (1, (.int .u32 1))]) w fun t1 w =>
 run1 Tryz.prog Z (Instr.build 39 #[(0, (.int .i8 1)), (1, t1), (4, (.int .u32 2))]) w fun t2 w =>
 run1 Tryz.prog Z (Instr.alloc 39 true (.tuple #[])) w fun t3 w =>
 run0 Tryz.prog Z (Instr.storeAt 39 t3 t2) w fun w =>
 run1 Tryz.prog Z (Instr.loadAt 39 t3) w fun t4 w =>
 CallV Tryz.prog Z 11 #[t4] w fun t5 w =>
 run1 Tryz.prog Z (Instr.extract t5 0) w fun t6 w =>
 run1 Tryz.prog Z (Instr.extract t5 1) w fun t7 w =>
 run1 Tryz.prog Z (Instr.buildSlice 30 17 #[(0, (.int .u8 0)), (1, (.int .u8 60)), (2, (.int .u8 0)), (3, (.int .u8 8)), (4, (.int .u8 1)), (5, (.int .u8 0)), (6, (.int .u8 0)), (7, (.int .u8 0)), (8, (.int .u8 3)), (9, (.int .u8 0)), (10, (.int .u8 0)), (11, (.int .u8 0)), (12, (.int .u8 1)), (13, (.int .u8 0)), (14, (.int .u8 0)), (15, (.int .u8 0)), (16, (.int .u8 2))]) w fun t8 w =>
 CallV Tryz.prog Z 23 #[t8] w fun t9 w =>
 run1 Tryz.prog Z (Instr.extract t9 0) w fun t10 w =>
 run1 Tryz.prog Z (Instr.extract t9 1) w fun t11 w =>
 run1 Tryz.prog Z (Instr.alloc 39 true (.tuple #[])) w fun t12 w =>
 run0 Tryz.prog Z (Instr.storeAt 39 t12 t10) w fun w =>
 run1 Tryz.prog Z (eqOp .eql 43 false true t7 (.int .i64 0)) w fun t13 w =>
 guardW (t13) true (fun k => k (t11) w) (fun t14 w =>
 guardW (t13) true (fun k => run1 Tryz.prog Z (eqOp .eql 43 false true t14 (.int .i64 0)) w k) (fun t15 w =>
 run1 Tryz.prog Z (pickV t13 t15 (.bool false)) w fun t16 w =>
 guardW (t16) true (fun k => k (t6) w) (fun t17 w =>
 guardW (t16) true (fun k => run1 Tryz.prog Z (Builtin.len_ #[30] 3 #[t17]) w k) (fun t18 w =>
 guardW (t16) true (fun k => run1 Tryz.prog Z (eqOp .eql 3 false true t18 (.int .i64 17)) w k) (fun t19 w =>
 run1 Tryz.prog Z (pickV t16 t19 (.bool false)) w fun t20 w =>
 guardW (t20) true (fun k => run1 Tryz.prog Z (Instr.loadAt 39 t3) w k) (fun t21 w =>
 guardW (t20) true (fun k => run1 Tryz.prog Z (Instr.loadAt 39 t12) w k) (fun t22 w =>
 guardW (t20) true (fun k => CallV Tryz.prog Z 15 #[t21, t22] w k) (fun t23 w =>
 run1 Tryz.prog Z (pickV t20 t23 (.bool false)) w fun t24 w =>
 Q t24 w) w) w) w) w) w) w) w) w
def f8.an : An := (.sq .leaf (.sq .leaf (.sq .leaf (.sq .leaf (.sq .leaf .leaf)))))
theorem f8.calls {Z : List PanicEntry → World → Prop} {w : World} {Q : Value → World → Prop} (h : f8.sh Z  w Q) : CallV Tryz.prog Z 8 #[] w Q :=
 cl Tryz.func8 f8.an [] (by kernel_rfl) (by kernel_rfl) h

def f11.sh (Z : List PanicEntry → World → Prop) (x0 : Value) (w : World) (Q : Value → World → Prop) : Prop :=
 run1 Tryz.prog Z (Instr.box 39 x0) w fun t1 w =>
 run1 Tryz.prog Z (Instr.loadAt 39 t1) w fun t2 w =>
 CallV Tryz.prog Z 12 #[t2] w fun t3 w =>
 run1 Tryz.prog Z (eqOp .neq 43 false true t3 (.int .i64 0)) w fun t4 w =>
 CondV t4 (
 Q (Value.tuple #[(.slice none 0 0), (.int .i64 150)]) w) (
 run1 Tryz.prog Z (Instr.fieldAt 39 t1 0) w fun t5 w =>
 run1 Tryz.prog Z (Instr.loadAt 22 t5) w fun t6 w =>
 CallV Tryz.prog Z 29 #[t6] w fun t7 w =>
 run1 Tryz.prog Z (Instr.extract t7 0) w fun t8 w =>
 run1 Tryz.prog Z (Instr.extract t7 1) w fun t9 w =>
 run1 Tryz.prog Z (Instr.build 88 #[]) w fun t10 w =>
 run1 Tryz.prog Z (Instr.box 88 t10) w fun t11 w =>
 run1 Tryz.prog Z (Instr.fieldAt 39 t1 0) w fun t12 w =>
 run1 Tryz.prog Z (Instr.loadAt 22 t12) w fun t13 w =>
 CallV Tryz.prog Z 30 #[t11, t13] w fun t14 w =>
 CallV Tryz.prog Z 31 #[] w fun t15 w =>
 run1 Tryz.prog Z (Builtin.len_ #[90] 3 #[t15]) w fun t16 w =>
 ∃ J_17 : Nat → Value → World → Prop, (∃ m, J_17 m (.int .i64 0) w) ∧
 ∀ m_17, ∀ t18 : Value, ∀ w : World, J_17 m_17 t18 w → Env →
 run1 Tryz.prog Z (binOp .lss 3 t18 t16) w fun t19 w =>
 CondV t19 (
 ∀ j_20 : World → Prop, (∀ w : World, (Env →
 run1 Tryz.prog Z (binOp .add 3 t18 (.int .i64 1)) w fun t21 w =>
 ∃ n_17, n_17 < m_17 ∧ J_17 n_17 t21 w) →
 j_20 w) →
 run1 Tryz.prog Z (Instr.indexAt 90 t15 t18) w fun t22 w =>
 run1 Tryz.prog Z (Instr.loadAt 96 t22) w fun t23 w =>
 run1 Tryz.prog Z (Instr.alloc 96 true (.tuple #[])) w fun t24 w =>
 run0 Tryz.prog Z (Instr.storeAt 96 t24 t23) w fun w =>
 run1 Tryz.prog Z (Instr.fieldAt 96 t24 0) w fun t25 w =>
 run1 Tryz.prog Z (Instr.loadAt 3 t25) w fun t26 w =>
 run1 Tryz.prog Z (binOp .and 3 t8 t26) w fun t27 w =>
 run1 Tryz.prog Z (eqOp .neq 3 false true t27 (.int .i64 0)) w fun t28 w =>
 CondV t28 (
 run1 Tryz.prog Z (Instr.fieldAt 96 t24 1) w fun t29 w =>
 run1 Tryz.prog Z (Instr.loadAt 92 t29) w fun t30 w =>
 runX Tryz.prog Z (callVal t30 #[t11, t1]) w fun t31 w =>
 j_20 w) (
 j_20 w)) (
 CallV Tryz.prog Z 32 #[t11] w fun t32 w =>
 run1 Tryz.prog Z (Instr.build 88 #[]) w fun t33 w =>
 run1 Tryz.prog Z (Instr.box 88 t33) w fun t34 w =>
 CallV Tryz.prog Z 34 #[t32] w fun t35 w =>
 CallV Tryz.prog Z 33 #[t34, t35] w fun t36 w =>
 CallV Tryz.prog Z 35 #[t34, t32] w fun t37 w =>
 CallV Tryz.prog Z 32 #[t34] w fun t38 w =>
 Q (Value.tuple #[t38, (.int .i64 0)]) w))
def f11.an : An := (.sq .leaf (.sq (.sq .leaf (.cn (.sq .leaf .leaf) .leaf)) (.sq .leaf (.sq .leaf (.sq .leaf (.sq (.sq .leaf (.bl (.lp [28] (.sq .leaf (.sq (.cn .leaf .leaf) (.sj [] (.bl (.sq .leaf (.sq .leaf (.cn .leaf .leaf)))) .leaf)))))) (.sq .leaf (.sq .leaf (.sq .leaf (.sq .leaf (.sq .leaf .leaf)))))))))))
theorem f11.calls {Z : List PanicEntry → World → Prop} {x0 : Value} {w : World} {Q : Value → World → Prop} (h : f11.sh Z x0 w Q) : CallV Tryz.prog Z 11 #[x0] w Q :=
 cl Tryz.func11 f11.an [x0] (by kernel_rfl) (by kernel_rfl) h

def f12.sh (Z : List PanicEntry → World → Prop) (x0 : Value) (w : World) (Q : Value → World → Prop) : Prop :=
 run1 Tryz.prog Z (Instr.box 39 x0) w fun t1 w =>
 run1 Tryz.prog Z (Instr.fieldAt 39 t1 0) w fun t2 w =>
 run1 Tryz.prog Z (Instr.loadAt 22 t2) w fun t3 w =>
 CallV Tryz.prog Z 29 #[t3] w fun t4 w =>
 run1 Tryz.prog Z (Instr.extract t4 0) w fun t5 w =>
 run1 Tryz.prog Z (Instr.extract t4 1) w fun t6 w =>
 run1 Tryz.prog Z (Op.unary .not t6) w fun t7 w =>
 guardW (t7) false (fun k => run1 Tryz.prog Z (Instr.loadAt 39 t1) w k) (fun t8 w =>
 guardW (t7) false (fun k => k (t5) w) (fun t9 w =>
 guardW (t7) false (fun k => CallV Tryz.prog Z 36 #[t8, t9] w k) (fun t10 w =>
 guardW (t7) false (fun k => run1 Tryz.prog Z (Op.unary .not t10) w k) (fun t11 w =>
 run1 Tryz.prog Z (pickV t7 (.bool true) t11) w fun t12 w =>
 CondV t12 (
 Q (.int .i64 150) w) (
 CallV Tryz.prog Z 31 #[] w fun t13 w =>
 run1 Tryz.prog Z (Builtin.len_ #[90] 3 #[t13]) w fun t14 w =>
 ∃ J_15 : Nat → Value → World → Prop, (∃ m, J_15 m (.int .i64 0) w) ∧
 ∀ m_15, ∀ t16 : Value, ∀ w : World, J_15 m_15 t16 w → Env →
 run1 Tryz.prog Z (binOp .lss 3 t16 t14) w fun t17 w =>
 CondV t17 (
 run1 Tryz.prog Z (Instr.indexAt 90 t13 t16) w fun t18 w =>
 run1 Tryz.prog Z (Instr.loadAt 96 t18) w fun t19 w =>
 run1 Tryz.prog Z (Instr.alloc 96 true (.tuple #[])) w fun t20 w =>
 run0 Tryz.prog Z (Instr.storeAt 96 t20 t19) w fun w =>
 run1 Tryz.prog Z (Instr.fieldAt 96 t20 0) w fun t21 w =>
 run1 Tryz.prog Z (Instr.loadAt 3 t21) w fun t22 w =>
 run1 Tryz.prog Z (binOp .and 3 t5 t22) w fun t23 w =>
 run1 Tryz.prog Z (eqOp .neq 3 false true t23 (.int .i64 0)) w fun t24 w =>
 guardW (t24) true (fun k => run1 Tryz.prog Z (Instr.fieldAt 96 t20 3) w k) (fun t25 w =>
 guardW (t24) true (fun k => run1 Tryz.prog Z (Instr.loadAt 94 t25) w k) (fun t26 w =>
 guardW (t24) true (fun k => runX Tryz.prog Z (callVal t26 #[t1]) w k) (fun t27 w =>
 guardW (t24) true (fun k => run1 Tryz.prog Z (Op.unary .not t27) w k) (fun t28 w =>
 run1 Tryz.prog Z (pickV t24 t28 (.bool false)) w fun t29 w =>
 CondV t29 (
 Q (.int .i64 150) w) (
 run1 Tryz.prog Z (binOp .add 3 t16 (.int .i64 1)) w fun t30 w =>
 ∃ n_15, n_15 < m_15 ∧ J_15 n_15 t30 w)) w) w) w) w) (
 Q (.int .i64 0) w))) w) w) w) w
def f12.an : An := (.sq .leaf (.sq .leaf (.sq (.sq .leaf (.cn (.sq .leaf .leaf) .leaf)) (.sq (.sq .leaf (.bl (.lp [23] (.sq .leaf (.sq (.cn .leaf .leaf) (.sq (.bl (.sq .leaf (.sq .leaf (.cn (.sq .leaf .leaf) .leaf)))) .leaf)))))) (.sq .leaf .leaf)))))
theorem f12.calls {Z : List PanicEntry → World → Prop} {x0 : Value} {w : World} {Q : Value → World → Prop} (h : f12.sh Z x0 w Q) : CallV Tryz.prog Z 12 #[x0] w Q :=
 cl Tryz.func12 f12.an [x0] (by kernel_rfl) (by kernel_rfl) h

def f13.sh (Z : List PanicEntry → World → Prop) (x0 : Value) (w : World) (Q : Value → World → Prop) : Prop :=
 run1 Tryz.prog Z (Instr.box 39 x0) w fun t1 w =>
 run1 Tryz.prog Z (Instr.fieldAt 39 t1 0) w fun t2 w =>
 run1 Tryz.prog Z (Instr.loadAt 22 t2) w fun t3 w =>
 CallV Tryz.prog Z 37 #[t3] w fun t4 w =>
 Drawn w fun w =>
 Pure1 Tryz.prog (Instr.fieldAt 39 t1 1) fun t5 =>
 Read1 Tryz.prog (Instr.loadAt 25 t5) w fun t6 =>
 CallV Tryz.prog Z 39 #[t4, (.int .u8 99)] w fun t7 w =>
 Still Tryz.prog (nx (Instr.loadAt 25 t5)) t6 w <|
 CallV Tryz.prog Z 38 #[t6, t7] w fun t8 w =>
 Drawn w fun w =>
 Pure1 Tryz.prog (Instr.fieldAt 39 t1 2) fun t9 =>
 Read1 Tryz.prog (Instr.loadAt 25 t9) w fun t10 =>
 CallV Tryz.prog Z 39 #[t4, (.int .u8 108)] w fun t11 w =>
 Still Tryz.prog (nx (Instr.loadAt 25 t9)) t10 w <|
 CallV Tryz.prog Z 38 #[t10, t11] w fun t12 w =>
 Drawn w fun w =>
 Pure1 Tryz.prog (Instr.fieldAt 39 t1 6) fun t13 =>
 Read1 Tryz.prog (Instr.loadAt 27 t13) w fun t14 =>
 CallV Tryz.prog Z 39 #[t4, (.int .u8 122)] w fun t15 w =>
 Still Tryz.prog (nx (Instr.loadAt 27 t13)) t14 w <|
 CallV Tryz.prog Z 40 #[t14, t15] w fun t16 w =>
 Drawn w fun w =>
 Pure1 Tryz.prog (Instr.fieldAt 39 t1 7) fun t17 =>
 Read1 Tryz.prog (Instr.loadAt 27 t17) w fun t18 =>
 CallV Tryz.prog Z 39 #[t4, (.int .u8 118)] w fun t19 w =>
 Still Tryz.prog (nx (Instr.loadAt 27 t17)) t18 w <|
 CallV Tryz.prog Z 40 #[t18, t19] w fun t20 w =>
 run1 Tryz.prog Z (eqOp .eql 9 false true t4 (.string { data := #[] })) w fun t21 w =>
 guardW (t21) false (fun k => k (t8) w) (fun t22 w =>
 guardW (t21) false (fun k => run1 Tryz.prog Z (Op.unary .not t22) w k) (fun t23 w =>
 run1 Tryz.prog Z (pickV t21 (.bool true) t23) w fun t24 w =>
 guardW (t24) false (fun k => k (t12) w) (fun t25 w =>
 guardW (t24) false (fun k => run1 Tryz.prog Z (Op.unary .not t25) w k) (fun t26 w =>
 run1 Tryz.prog Z (pickV t24 (.bool true) t26) w fun t27 w =>
 guardW (t27) false (fun k => k (t16) w) (fun t28 w =>
 guardW (t27) false (fun k => run1 Tryz.prog Z (Op.unary .not t28) w k) (fun t29 w =>
 run1 Tryz.prog Z (pickV t27 (.bool true) t29) w fun t30 w =>
 guardW (t30) false (fun k => k (t20) w) (fun t31 w =>
 guardW (t30) false (fun k => run1 Tryz.prog Z (Op.unary .not t31) w k) (fun t32 w =>
 run1 Tryz.prog Z (pickV t30 (.bool true) t32) w fun t33 w =>
 guardW (t33) false (fun k => run1 Tryz.prog Z (Instr.fieldAt 39 t1 3) w k) (fun t34 w =>
 guardW (t33) false (fun k => run1 Tryz.prog Z (Instr.loadAt 2 t34) w k) (fun t35 w =>
 guardW (t33) false (fun k => run1 Tryz.prog Z (binOp .lss 2 t35 (.int .i64 0)) w k) (fun t36 w =>
 run1 Tryz.prog Z (pickV t33 (.bool true) t36) w fun t37 w =>
 guardW (t37) false (fun k => run1 Tryz.prog Z (Instr.fieldAt 39 t1 3) w k) (fun t38 w =>
 guardW (t37) false (fun k => run1 Tryz.prog Z (Instr.loadAt 2 t38) w k) (fun t39 w =>
 guardW (t37) false (fun k => run1 Tryz.prog Z (binOp .gtr 2 t39 (.int .i64 0)) w k) (fun t40 w =>
 guardW (t37) false (fun k => k (t40) w) (fun t41 w =>
 guardW (t41) true (fun k => k (t4) w) (fun t42 w =>
 guardW (t41) true (fun k => CallV Tryz.prog Z 39 #[t42, (.int .u8 112)] w k) (fun t43 w =>
 guardW (t41) true (fun k => run1 Tryz.prog Z (Op.unary .not t43) w k) (fun t44 w =>
 guardW (t37) false (fun k => run1 Tryz.prog Z (pickV t41 t44 (.bool false)) w k) (fun t45 w =>
 run1 Tryz.prog Z (pickV t37 (.bool true) t45) w fun t46 w =>
 CondV t46 (
 Q (.int .i64 150) w) (
 ∀ j_47 : Value → World → Prop, (∀ t48 : Value, ∀ w : World, (Env →
 ∀ j_49 : Value → Value → World → Prop, (∀ t50 : Value, ∀ t51 : Value, ∀ w : World, (Env →
 run1 Tryz.prog Z (Instr.fieldAt 39 t1 4) w fun t52 w =>
 run1 Tryz.prog Z (Instr.loadAt 23 t52) w fun t53 w =>
 run1 Tryz.prog Z (binOp .lss 23 t53 t50) w fun t54 w =>
 guardW (t54) false (fun k => run1 Tryz.prog Z (Instr.fieldAt 39 t1 4) w k) (fun t55 w =>
 guardW (t54) false (fun k => run1 Tryz.prog Z (Instr.loadAt 23 t55) w k) (fun t56 w =>
 guardW (t54) false (fun k => k (t51) w) (fun t57 w =>
 guardW (t54) false (fun k => run1 Tryz.prog Z (binOp .gtr 23 t56 t57) w k) (fun t58 w =>
 run1 Tryz.prog Z (pickV t54 (.bool true) t58) w fun t59 w =>
 guardW (t59) false (fun k => run1 Tryz.prog Z (Instr.fieldAt 39 t1 5) w k) (fun t60 w =>
 guardW (t59) false (fun k => run1 Tryz.prog Z (Instr.loadAt 23 t60) w k) (fun t61 w =>
 guardW (t59) false (fun k => run1 Tryz.prog Z (binOp .gtr 23 t61 (.int .u32 2147483647)) w k) (fun t62 w =>
 run1 Tryz.prog Z (pickV t59 (.bool true) t62) w fun t63 w =>
 guardW (t63) false (fun k => run1 Tryz.prog Z (Instr.fieldAt 39 t1 5) w k) (fun t64 w =>
 guardW (t63) false (fun k => run1 Tryz.prog Z (Instr.loadAt 23 t64) w k) (fun t65 w =>
 guardW (t63) false (fun k => run1 Tryz.prog Z (binOp .gtr 23 t65 (.int .u32 0)) w k) (fun t66 w =>
 guardW (t63) false (fun k => k (t66) w) (fun t67 w =>
 guardW (t67) true (fun k => k (t4) w) (fun t68 w =>
 guardW (t67) true (fun k => CallV Tryz.prog Z 39 #[t68, (.int .u8 117)] w k) (fun t69 w =>
 guardW (t67) true (fun k => run1 Tryz.prog Z (Op.unary .not t69) w k) (fun t70 w =>
 guardW (t63) false (fun k => run1 Tryz.prog Z (pickV t67 t70 (.bool false)) w k) (fun t71 w =>
 run1 Tryz.prog Z (pickV t63 (.bool true) t71) w fun t72 w =>
 guardW (t72) false (fun k => run1 Tryz.prog Z (Instr.fieldAt 39 t1 8) w k) (fun t73 w =>
 guardW (t72) false (fun k => run1 Tryz.prog Z (Instr.loadAt 4 t73) w k) (fun t74 w =>
 guardW (t72) false (fun k => k (t74) w) (fun t75 w =>
 guardW (t75) true (fun k => k (t4) w) (fun t76 w =>
 guardW (t75) true (fun k => CallV Tryz.prog Z 39 #[t76, (.int .u8 111)] w k) (fun t77 w =>
 guardW (t75) true (fun k => run1 Tryz.prog Z (Op.unary .not t77) w k) (fun t78 w =>
 guardW (t72) false (fun k => run1 Tryz.prog Z (pickV t75 t78 (.bool false)) w k) (fun t79 w =>
 run1 Tryz.prog Z (pickV t72 (.bool true) t79) w fun t80 w =>
 guardW (t80) false (fun k => run1 Tryz.prog Z (Instr.fieldAt 39 t1 9) w k) (fun t81 w =>
 guardW (t80) false (fun k => run1 Tryz.prog Z (Instr.loadAt 4 t81) w k) (fun t82 w =>
 guardW (t80) false (fun k => k (t82) w) (fun t83 w =>
 guardW (t83) true (fun k => k (t4) w) (fun t84 w =>
 guardW (t83) true (fun k => CallV Tryz.prog Z 39 #[t84, (.int .u8 102)] w k) (fun t85 w =>
 guardW (t83) true (fun k => run1 Tryz.prog Z (Op.unary .not t85) w k) (fun t86 w =>
 guardW (t80) false (fun k => run1 Tryz.prog Z (pickV t83 t86 (.bool false)) w k) (fun t87 w =>
 run1 Tryz.prog Z (pickV t80 (.bool true) t87) w fun t88 w =>
 CondV t88 (
 Q (.int .i64 150) w) (
 Drawn w fun w =>
 Pure1 Tryz.prog (Instr.fieldAt 39 t1 12) fun t89 =>
 Read1 Tryz.prog (Instr.loadAt 2 t89) w fun t90 =>
 Pure1 Tryz.prog (eqOp .neq 2 false true t90 (.int .i64 0)) fun t91 =>
 CallV Tryz.prog Z 39 #[t4, (.int .u8 115)] w fun t92 w =>
 Still Tryz.prog (nx (Instr.loadAt 2 t89)) t90 w <|
 Pure1 Tryz.prog (eqOp .neq 4 false false t92 t91) fun t93 =>
 guardV (t93) false (fun k => Pure1 Tryz.prog (Instr.fieldAt 39 t1 12) k) (fun t94 =>
 guardV (t93) false (fun k => Read1 Tryz.prog (Instr.loadAt 2 t94) w k) (fun t95 =>
 guardV (t93) false (fun k => Pure1 Tryz.prog (binOp .lss 2 t95 (.int .i64 0)) k) (fun t96 =>
 Pure1 Tryz.prog (pickV t93 (.bool true) t96) fun t97 =>
 guardV (t97) false (fun k => k (t4)) (fun t98 =>
 guardV (t97) false (fun k => Pure1 Tryz.prog (Instr.fieldAt 39 t1 11) k) (fun t99 =>
 guardV (t97) false (fun k => Read1 Tryz.prog (Instr.loadAt 30 t99) w k) (fun t100 =>
 guardV (t97) false (fun k => Pure1 Tryz.prog (Builtin.len_ #[30] 3 #[t100]) k) (fun t101 =>
 guardV (t97) false (fun k => Pure1 Tryz.prog (binOp .gtr 3 t101 (.int .i64 0)) k) (fun t102 =>
 guardW (t97) false (fun k => CallV Tryz.prog Z 39 #[t98, (.int .u8 98)] w k) (fun t103 w =>
 Still Tryz.prog (gSem (t97) false (nx (Instr.loadAt 30 t99))) t100 w <|
 Still Tryz.prog (gSem (t93) false (nx (Instr.loadAt 2 t94))) t95 w <|
 Still Tryz.prog (nx (Instr.loadAt 2 t89)) t90 w <|
 guardV (t97) false (fun k => Pure1 Tryz.prog (eqOp .neq 4 false false t103 t102) k) (fun t104 =>
 Pure1 Tryz.prog (pickV t97 (.bool true) t104) fun t105 =>
 guardV (t105) false (fun k => Pure1 Tryz.prog (Instr.fieldAt 39 t1 11) k) (fun t106 =>
 guardV (t105) false (fun k => Read1 Tryz.prog (Instr.loadAt 30 t106) w k) (fun t107 =>
 guardV (t105) false (fun k => Pure1 Tryz.prog (Builtin.len_ #[30] 3 #[t107]) k) (fun t108 =>
 guardV (t105) false (fun k => Pure1 Tryz.prog (binOp .gtr 3 t108 (.int .i64 4096)) k) (fun t109 =>
 Pure1 Tryz.prog (pickV t105 (.bool true) t109) fun t110 =>
 CondV t110 (
 Q (.int .i64 150) w) (
 run1 Tryz.prog Z (Instr.fieldAt 39 t1 0) w fun t111 w =>
 run1 Tryz.prog Z (Instr.loadAt 22 t111) w fun t112 w =>
 run1 Tryz.prog Z (eqOp .eql 22 false true t112 (.int .i8 11)) w fun t113 w =>
 guardW (t113) false (fun k => run1 Tryz.prog Z (Instr.fieldAt 39 t1 0) w k) (fun t114 w =>
 guardW (t113) false (fun k => run1 Tryz.prog Z (Instr.loadAt 22 t114) w k) (fun t115 w =>
 guardW (t113) false (fun k => run1 Tryz.prog Z (eqOp .eql 22 false true t115 (.int .i8 12)) w k) (fun t116 w =>
 run1 Tryz.prog Z (pickV t113 (.bool true) t116) w fun t117 w =>
 guardW (t117) true (fun k => run1 Tryz.prog Z (Instr.fieldAt 39 t1 6) w k) (fun t118 w =>
 guardW (t117) true (fun k => run1 Tryz.prog Z (Instr.fieldAt 27 t118 1) w k) (fun t119 w =>
 guardW (t117) true (fun k => run1 Tryz.prog Z (Instr.loadAt 23 t119) w k) (fun t120 w =>
 guardW (t117) true (fun k => run1 Tryz.prog Z (eqOp .eql 23 false true t120 (.int .u32 0)) w k) (fun t121 w =>
 run1 Tryz.prog Z (pickV t117 t121 (.bool false)) w fun t122 w =>
 CondV t122 (
 Q (.int .i64 150) w) (
 CallV Tryz.prog Z 39 #[t4, (.int .u8 116)] w fun t123 w =>
 run1 Tryz.prog Z (Op.unary .not t123) w fun t124 w =>
 CondV t124 (
 run1 Tryz.prog Z (Instr.fieldAt 39 t1 10) w fun t125 w =>
 run1 Tryz.prog Z (Instr.loadAt 37 t125) w fun t126 w =>
 run1 Tryz.prog Z (Instr.build 37 #[]) w fun t127 w =>
 CallV Tryz.prog Z 41 #[t126, t127] w fun t128 w =>
 run1 Tryz.prog Z (Op.unary .not t128) w fun t129 w =>
 CondV t129 (
 Q (.int .i64 150) w) (
 Q (.int .i64 0) w)) (
 run1 Tryz.prog Z (Instr.fieldAt 39 t1 10) w fun t130 w =>
 run1 Tryz.prog Z (Instr.loadAt 37 t130) w fun t131 w =>
 CallV Tryz.prog Z 42 #[t131] w fun t132 w =>
 run1 Tryz.prog Z (Instr.fieldAt 39 t1 10) w fun t133 w =>
 run1 Tryz.prog Z (Instr.fieldAt 37 t133 0) w fun t134 w =>
 run1 Tryz.prog Z (Instr.loadAt 27 t134) w fun t135 w =>
 run1 Tryz.prog Z (Instr.fieldAt 39 t1 7) w fun t136 w =>
 run1 Tryz.prog Z (Instr.loadAt 27 t136) w fun t137 w =>
 CallV Tryz.prog Z 43 #[t135, t137] w fun t138 w =>
 run1 Tryz.prog Z (binOp .gtr 3 t138 (.int .i64 0)) w fun t139 w =>
 run1 Tryz.prog Z (eqOp .neq 43 false true t132 (.int .i64 0)) w fun t140 w =>
 guardW (t140) false (fun k => run1 Tryz.prog Z (Instr.fieldAt 39 t1 0) w k) (fun t141 w =>
 guardW (t140) false (fun k => run1 Tryz.prog Z (Instr.loadAt 22 t141) w k) (fun t142 w =>
 guardW (t140) false (fun k => run1 Tryz.prog Z (eqOp .neq 22 false true t142 (.int .i8 13)) w k) (fun t143 w =>
 guardW (t140) false (fun k => k (t143) w) (fun t144 w =>
 guardW (t144) true (fun k => k (t139) w) (fun t145 w =>
 guardW (t144) true (fun k => run1 Tryz.prog Z (Op.unary .not t145) w k) (fun t146 w =>
 guardW (t140) false (fun k => run1 Tryz.prog Z (pickV t144 t146 (.bool false)) w k) (fun t147 w =>
 run1 Tryz.prog Z (pickV t140 (.bool true) t147) w fun t148 w =>
 guardW (t148) false (fun k => run1 Tryz.prog Z (Instr.fieldAt 39 t1 0) w k) (fun t149 w =>
 guardW (t148) false (fun k => run1 Tryz.prog Z (Instr.loadAt 22 t149) w k) (fun t150 w =>
 guardW (t148) false (fun k => run1 Tryz.prog Z (eqOp .eql 22 false true t150 (.int .i8 13)) w k) (fun t151 w =>
 guardW (t148) false (fun k => k (t151) w) (fun t152 w =>
 guardW (t152) true (fun k => run1 Tryz.prog Z (Instr.fieldAt 39 t1 10) w k) (fun t153 w =>
 guardW (t152) true (fun k => run1 Tryz.prog Z (Instr.fieldAt 37 t153 0) w k) (fun t154 w =>
 guardW (t152) true (fun k => run1 Tryz.prog Z (Instr.fieldAt 27 t154 1) w k) (fun t155 w =>
 guardW (t152) true (fun k => run1 Tryz.prog Z (Instr.loadAt 23 t155) w k) (fun t156 w =>
 guardW (t152) true (fun k => run1 Tryz.prog Z (eqOp .neq 23 false true t156 (.int .u32 0)) w k) (fun t157 w =>
 guardW (t152) true (fun k => k (t157) w) (fun t158 w =>
 guardW (t158) false (fun k => run1 Tryz.prog Z (Instr.fieldAt 39 t1 10) w k) (fun t159 w =>
 guardW (t158) false (fun k => run1 Tryz.prog Z (Instr.fieldAt 37 t159 1) w k) (fun t160 w =>
 guardW (t158) false (fun k => run1 Tryz.prog Z (Instr.fieldAt 29 t160 2) w k) (fun t161 w =>
 guardW (t158) false (fun k => run1 Tryz.prog Z (Instr.loadAt 2 t161) w k) (fun t162 w =>
 guardW (t158) false (fun k => run1 Tryz.prog Z (binOp .lss 2 t162 (.int .i64 1)) w k) (fun t163 w =>
 guardW (t152) true (fun k => run1 Tryz.prog Z (pickV t158 (.bool true) t163) w k) (fun t164 w =>
 guardW (t148) false (fun k => run1 Tryz.prog Z (pickV t152 t164 (.bool false)) w k) (fun t165 w =>
 run1 Tryz.prog Z (pickV t148 (.bool true) t165) w fun t166 w =>
 CondV t166 (
 Q (.int .i64 150) w) (
 Q (.int .i64 0) w)) w) w) w) w) w) w) w) w) w) w) w) w) w) w) w) w) w) w) w) w) w) w) w) w))) w) w) w) w) w) w) w))))))) w)))))))))) w) w) w) w) w) w) w) w) w) w) w) w) w) w) w) w) w) w) w) w) w) w) w) w) w) w) w) w) w) →
 j_49 t50 t51 w) →
 CallV Tryz.prog Z 39 #[t4, (.int .u8 101)] w fun t167 w =>
 run1 Tryz.prog Z (Op.unary .not t167) w fun t168 w =>
 CondV t168 (
 j_49 (.int .u32 0) (.int .u32 0) w) (
 j_49 t48 (.int .u32 2147483647) w)) →
 j_47 t48 w) →
 run1 Tryz.prog Z (Instr.fieldAt 39 t1 0) w fun t169 w =>
 run1 Tryz.prog Z (Instr.loadAt 22 t169) w fun t170 w =>
 run1 Tryz.prog Z (eqOp .eql 22 false true t170 (.int .i8 1)) w fun t171 w =>
 CondV t171 (
 j_47 (.int .u32 0) w) (
 j_47 (.int .u32 1) w))) w) w) w) w) w) w) w) w) w) w) w) w) w) w) w) w) w) w) w
def f13.an : An := (.sq .leaf (.sq .leaf (.sq (.dr (pl [0, 5, 8, 14, 18, 20] .fin)) (.sq (.dr (pl [0, 5, 8, 14, 18, 20] .fin)) (.sq (.dr (pl [0, 5, 8, 14, 18, 20] .fin)) (.sq (.dr (pl [0, 5, 8, 14, 18, 20] .fin)) (.sq (.sq .leaf (.cn (.sq .leaf .leaf) .leaf)) (.sq .leaf (.sq .leaf (.sj [8] (.sq .leaf (.cn .leaf .leaf)) (.sj [8, 9] (.sq .leaf (.cn (.sq .leaf .leaf) .leaf)) (.sq (.sq .leaf (.cn (.sq .leaf .leaf) .leaf)) (.sq (.sq (.dr (pl [0, 8, 13, 16, 6, 20, 24, 28, 33, 36, 40, 44, 48, 56, 61, 64, 68, 54, 72, 76, 80, 84, 89, 92, 96, 100] .fin)) (.cn (.sq .leaf .leaf) .leaf)) (.sq (.sq .leaf (.cn (.sq .leaf .leaf) .leaf)) (.sq (.sq .leaf (.cn (.sq .leaf (.sq (.sq .leaf (.cn (.sq .leaf .leaf) .leaf)) (.sq .leaf .leaf))) .leaf)) (.sq .leaf (.sq .leaf (.sq (.sq .leaf (.cn (.sq .leaf .leaf) .leaf)) (.sq .leaf .leaf)))))))))))))))))))
theorem f13.calls {Z : List PanicEntry → World → Prop} {x0 : Value} {w : World} {Q : Value → World → Prop} (h : f13.sh Z x0 w Q) : CallV Tryz.prog Z 13 #[x0] w Q :=
 cl Tryz.func13 f13.an [x0] (by kernel_rfl) (by kernel_rfl) h

def f14.sh (Z : List PanicEntry → World → Prop) (x0 x1 : Value) (w : World) (Q : Value → World → Prop) : Prop :=
 run1 Tryz.prog Z (Builtin.len_ #[30] 3 #[x0]) w fun t1 w =>
 run1 Tryz.prog Z (Builtin.len_ #[30] 3 #[x1]) w fun t2 w =>
 run1 Tryz.prog Z (eqOp .neq 3 false false t1 t2) w fun t3 w =>
 CondV t3 (
 Q (.bool false) w) (
 ∃ J_4 : Nat → Value → World → Prop, (∃ m, J_4 m (.int .i64 0) w) ∧
 ∀ m_4, ∀ t5 : Value, ∀ w : World, J_4 m_4 t5 w → Env →
 run1 Tryz.prog Z (Builtin.len_ #[30] 3 #[x0]) w fun t6 w =>
 run1 Tryz.prog Z (binOp .lss 3 t5 t6) w fun t7 w =>
 CondV t7 (
 Drawn w fun w =>
 Pure1 Tryz.prog (Instr.indexAt 30 x0 t5) fun t8 =>
 Read1 Tryz.prog (Instr.loadAt 5 t8) w fun t9 =>
 Pure1 Tryz.prog (Instr.indexAt 30 x1 t5) fun t10 =>
 Read1 Tryz.prog (Instr.loadAt 5 t10) w fun t11 =>
 Pure1 Tryz.prog (eqOp .neq 5 false false t9 t11) fun t12 =>
 CondV t12 (
 Q (.bool false) w) (
 run1 Tryz.prog Z (binOp .add 3 t5 (.int .i64 1)) w fun t13 w =>
 ∃ n_4, n_4 < m_4 ∧ J_4 n_4 t13 w)) (
 Q (.bool true) w))
def f14.an : An := (.sq .leaf (.sq (.sq .leaf (.cn (.sq .leaf .leaf) .leaf)) (.sq (.sq .leaf (.bl (.lp [5] (.sq (.sq .leaf (.cn .leaf .leaf)) (.sq (.bl (.sq (.dr (pl [0, 4, 8, 13, 16, 20, 24, 29, 32] .fin)) (.cn (.sq .leaf .leaf) .leaf))) .leaf))))) (.sq .leaf .leaf))))
theorem f14.calls {Z : List PanicEntry → World → Prop} {x0 x1 : Value} {w : World} {Q : Value → World → Prop} (h : f14.sh Z x0 x1 w Q) : CallV Tryz.prog Z 14 #[x0, x1] w Q :=
 cl Tryz.func14 f14.an [x0, x1] (by kernel_rfl) (by kernel_rfl) h

def f15.sh (Z : List PanicEntry → World → Prop) (x0 x1 : Value) (w : World) (Q : Value → World → Prop) : Prop :=
 run1 Tryz.prog Z (Instr.box 39 x0) w fun t1 w =>
 run1 Tryz.prog Z (Instr.box 39 x1) w fun t2 w =>
 run1 Tryz.prog Z (Instr.fieldAt 39 t1 0) w fun t3 w =>
 run1 Tryz.prog Z (Instr.loadAt 22 t3) w fun t4 w =>
 run1 Tryz.prog Z (Instr.fieldAt 39 t2 0) w fun t5 w =>
 run1 Tryz.prog Z (Instr.loadAt 22 t5) w fun t6 w =>
 run1 Tryz.prog Z (eqOp .neq 22 false false t4 t6) w fun t7 w =>
 guardW (t7) false (fun k => run1 Tryz.prog Z (Instr.fieldAt 39 t1 1) w k) (fun t8 w =>
 guardW (t7) false (fun k => run1 Tryz.prog Z (Instr.loadAt 25 t8) w k) (fun t9 w =>
 guardW (t7) false (fun k => run1 Tryz.prog Z (Instr.fieldAt 39 t2 1) w k) (fun t10 w =>
 guardW (t7) false (fun k => run1 Tryz.prog Z (Instr.loadAt 25 t10) w k) (fun t11 w =>
 guardW (t7) false (fun k => run1 Tryz.prog Z (eqOp .neq 25 false false t9 t11) w k) (fun t12 w =>
 run1 Tryz.prog Z (pickV t7 (.bool true) t12) w fun t13 w =>
 guardW (t13) false (fun k => run1 Tryz.prog Z (Instr.fieldAt 39 t1 2) w k) (fun t14 w =>
 guardW (t13) false (fun k => run1 Tryz.prog Z (Instr.loadAt 25 t14) w k) (fun t15 w =>
 guardW (t13) false (fun k => run1 Tryz.prog Z (Instr.fieldAt 39 t2 2) w k) (fun t16 w =>
 guardW (t13) false (fun k => run1 Tryz.prog Z (Instr.loadAt 25 t16) w k) (fun t17 w =>
 guardW (t13) false (fun k => run1 Tryz.prog Z (eqOp .neq 25 false false t15 t17) w k) (fun t18 w =>
 run1 Tryz.prog Z (pickV t13 (.bool true) t18) w fun t19 w =>
 guardW (t19) false (fun k => run1 Tryz.prog Z (Instr.fieldAt 39 t1 3) w k) (fun t20 w =>
 guardW (t19) false (fun k => run1 Tryz.prog Z (Instr.loadAt 2 t20) w k) (fun t21 w =>
 guardW (t19) false (fun k => run1 Tryz.prog Z (Instr.fieldAt 39 t2 3) w k) (fun t22 w =>
 guardW (t19) false (fun k => run1 Tryz.prog Z (Instr.loadAt 2 t22) w k) (fun t23 w =>
 guardW (t19) false (fun k => run1 Tryz.prog Z (eqOp .neq 2 false false t21 t23) w k) (fun t24 w =>
 run1 Tryz.prog Z (pickV t19 (.bool true) t24) w fun t25 w =>
 guardW (t25) false (fun k => run1 Tryz.prog Z (Instr.fieldAt 39 t1 4) w k) (fun t26 w =>
 guardW (t25) false (fun k => run1 Tryz.prog Z (Instr.loadAt 23 t26) w k) (fun t27 w =>
 guardW (t25) false (fun k => run1 Tryz.prog Z (Instr.fieldAt 39 t2 4) w k) (fun t28 w =>
 guardW (t25) false (fun k => run1 Tryz.prog Z (Instr.loadAt 23 t28) w k) (fun t29 w =>
 guardW (t25) false (fun k => run1 Tryz.prog Z (eqOp .neq 23 false false t27 t29) w k) (fun t30 w =>
 run1 Tryz.prog Z (pickV t25 (.bool true) t30) w fun t31 w =>
 guardW (t31) false (fun k => run1 Tryz.prog Z (Instr.fieldAt 39 t1 5) w k) (fun t32 w =>
 guardW (t31) false (fun k => run1 Tryz.prog Z (Instr.loadAt 23 t32) w k) (fun t33 w =>
 guardW (t31) false (fun k => run1 Tryz.prog Z (Instr.fieldAt 39 t2 5) w k) (fun t34 w =>
 guardW (t31) false (fun k => run1 Tryz.prog Z (Instr.loadAt 23 t34) w k) (fun t35 w =>
 guardW (t31) false (fun k => run1 Tryz.prog Z (eqOp .neq 23 false false t33 t35) w k) (fun t36 w =>
 run1 Tryz.prog Z (pickV t31 (.bool true) t36) w fun t37 w =>
 guardW (t37) false (fun k => run1 Tryz.prog Z (Instr.fieldAt 39 t1 6) w k) (fun t38 w =>
 guardW (t37) false (fun k => run1 Tryz.prog Z (Instr.loadAt 27 t38) w k) (fun t39 w =>
 guardW (t37) false (fun k => run1 Tryz.prog Z (Instr.fieldAt 39 t2 6) w k) (fun t40 w =>
 guardW (t37) false (fun k => run1 Tryz.prog Z (Instr.loadAt 27 t40) w k) (fun t41 w =>
 guardW (t37) false (fun k => run1 Tryz.prog Z (eqOp .neq 27 false false t39 t41) w k) (fun t42 w =>
 run1 Tryz.prog Z (pickV t37 (.bool true) t42) w fun t43 w =>
 guardW (t43) false (fun k => run1 Tryz.prog Z (Instr.fieldAt 39 t1 7) w k) (fun t44 w =>
 guardW (t43) false (fun k => run1 Tryz.prog Z (Instr.loadAt 27 t44) w k) (fun t45 w =>
 guardW (t43) false (fun k => run1 Tryz.prog Z (Instr.fieldAt 39 t2 7) w k) (fun t46 w =>
 guardW (t43) false (fun k => run1 Tryz.prog Z (Instr.loadAt 27 t46) w k) (fun t47 w =>
 guardW (t43) false (fun k => run1 Tryz.prog Z (eqOp .neq 27 false false t45 t47) w k) (fun t48 w =>
 run1 Tryz.prog Z (pickV t43 (.bool true) t48) w fun t49 w =>
 CondV t49 (
 Q (.bool false) w) (
 run1 Tryz.prog Z (Instr.fieldAt 39 t1 8) w fun t50 w =>
 run1 Tryz.prog Z (Instr.loadAt 4 t50) w fun t51 w =>
 run1 Tryz.prog Z (Instr.fieldAt 39 t2 8) w fun t52 w =>
 run1 Tryz.prog Z (Instr.loadAt 4 t52) w fun t53 w =>
 run1 Tryz.prog Z (eqOp .eql 4 false false t51 t53) w fun t54 w =>
 guardW (t54) true (fun k => run1 Tryz.prog Z (Instr.fieldAt 39 t1 9) w k) (fun t55 w =>
 guardW (t54) true (fun k => run1 Tryz.prog Z (Instr.loadAt 4 t55) w k) (fun t56 w =>
 guardW (t54) true (fun k => run1 Tryz.prog Z (Instr.fieldAt 39 t2 9) w k) (fun t57 w =>
 guardW (t54) true (fun k => run1 Tryz.prog Z (Instr.loadAt 4 t57) w k) (fun t58 w =>
 guardW (t54) true (fun k => run1 Tryz.prog Z (eqOp .eql 4 false false t56 t58) w k) (fun t59 w =>
 run1 Tryz.prog Z (pickV t54 t59 (.bool false)) w fun t60 w =>
 guardW (t60) true (fun k => run1 Tryz.prog Z (Instr.fieldAt 39 t1 12) w k) (fun t61 w =>
 guardW (t60) true (fun k => run1 Tryz.prog Z (Instr.loadAt 2 t61) w k) (fun t62 w =>
 guardW (t60) true (fun k => run1 Tryz.prog Z (Instr.fieldAt 39 t2 12) w k) (fun t63 w =>
 guardW (t60) true (fun k => run1 Tryz.prog Z (Instr.loadAt 2 t63) w k) (fun t64 w =>
 guardW (t60) true (fun k => run1 Tryz.prog Z (eqOp .eql 2 false false t62 t64) w k) (fun t65 w =>
 run1 Tryz.prog Z (pickV t60 t65 (.bool false)) w fun t66 w =>
 guardW (t66) true (fun k => run1 Tryz.prog Z (Instr.fieldAt 39 t1 10) w k) (fun t67 w =>
 guardW (t66) true (fun k => run1 Tryz.prog Z (Instr.loadAt 37 t67) w k) (fun t68 w =>
 guardW (t66) true (fun k => run1 Tryz.prog Z (Instr.fieldAt 39 t2 10) w k) (fun t69 w =>
 guardW (t66) true (fun k => run1 Tryz.prog Z (Instr.loadAt 37 t69) w k) (fun t70 w =>
 guardW (t66) true (fun k => CallV Tryz.prog Z 41 #[t68, t70] w k) (fun t71 w =>
 run1 Tryz.prog Z (pickV t66 t71 (.bool false)) w fun t72 w =>
 guardW (t72) true (fun k => run1 Tryz.prog Z (Instr.fieldAt 39 t1 11) w k) (fun t73 w =>
 guardW (t72) true (fun k => run1 Tryz.prog Z (Instr.loadAt 30 t73) w k) (fun t74 w =>
 guardW (t72) true (fun k => run1 Tryz.prog Z (Instr.fieldAt 39 t2 11) w k) (fun t75 w =>
 guardW (t72) true (fun k => run1 Tryz.prog Z (Instr.loadAt 30 t75) w k) (fun t76 w =>
 guardW (t72) true (fun k => CallV Tryz.prog Z 14 #[t74, t76] w k) (fun t77 w =>
 run1 Tryz.prog Z (pickV t72 t77 (.bool false)) w fun t78 w =>
 Q t78 w) w) w) w) w) w) w) w) w) w) w) w) w) w) w) w) w) w) w) w) w)) w) w) w) w) w) w) w) w) w) w) w) w) w) w) w) w) w) w) w) w) w) w) w) w) w) w) w) w) w) w) w) w) w) w) w
def f15.an : An := (.sq .leaf (.sq (.sq .leaf (.cn (.sq .leaf .leaf) .leaf)) (.sq .leaf .leaf)))
theorem f15.calls {Z : List PanicEntry → World → Prop} {x0 x1 : Value} {w : World} {Q : Value → World → Prop} (h : f15.sh Z x0 x1 w Q) : CallV Tryz.prog Z 15 #[x0, x1] w Q :=
 cl Tryz.func15 f15.an [x0, x1] (by kernel_rfl) (by kernel_rfl) h

def f25.sh (Z : List PanicEntry → World → Prop) (x0 : Value) (w : World) (Q : Value → World → Prop) : Prop :=
 run1 Tryz.prog Z (Instr.box 35 x0) w fun t1 w =>
 run1 Tryz.prog Z (Instr.loadAt 35 t1) w fun t2 w =>
 CallV Tryz.prog Z 79 #[t2] w fun t3 w =>
 run1 Tryz.prog Z (binOp .gtr 3 t3 (.int .i64 20000)) w fun t4 w =>
 Q t4 w
def f25.an : An := (.sq .leaf (.sq .leaf .leaf))
theorem f25.calls {Z : List PanicEntry → World → Prop} {x0 : Value} {w : World} {Q : Value → World → Prop} (h : f25.sh Z x0 w Q) : CallV Tryz.prog Z 25 #[x0] w Q :=
 cl Tryz.func25 f25.an [x0] (by kernel_rfl) (by kernel_rfl) h

def f29.sh (Z : List PanicEntry → World → Prop) (x0 : Value) (w : World) (Q : Value → World → Prop) : Prop :=
 run1 Tryz.prog Z (binOp .lss 22 x0 (.int .i8 1)) w fun t1 w =>
 guardW (t1) false (fun k => k (x0) w) (fun t2 w =>
 guardW (t1) false (fun k => run1 Tryz.prog Z (binOp .gtr 22 t2 (.int .i8 14)) w k) (fun t3 w =>
 run1 Tryz.prog Z (pickV t1 (.bool true) t3) w fun t4 w =>
 CondV t4 (
 Q (Value.tuple #[(.int .i64 0), (.bool false)]) w) (
 run1 Tryz.prog Z (Instr.indexAt 145 (.pointer (some ⟨0, 0, none⟩)) x0) w fun t5 w =>
 run1 Tryz.prog Z (Instr.loadAt 3 t5) w fun t6 w =>
 Q (Value.tuple #[t6, (.bool true)]) w)) w) w
def f29.an : An := (.sq .leaf (.sq (.sq .leaf (.cn (.sq .leaf .leaf) .leaf)) (.sq .leaf .leaf)))
theorem f29.calls {Z : List PanicEntry → World → Prop} {x0 : Value} {w : World} {Q : Value → World → Prop} (h : f29.sh Z x0 w Q) : CallV Tryz.prog Z 29 #[x0] w Q :=
 cl Tryz.func29 f29.an [x0] (by kernel_rfl) (by kernel_rfl) h

def f30.sh (Z : List PanicEntry → World → Prop) (x0 x1 : Value) (w : World) (Q : Value → World → Prop) : Prop :=
 run1 Tryz.prog Z (convert 22 147 x1) w fun t1 w =>
 CallV Tryz.prog Z 83 #[x0, t1, (.int .i64 1)] w fun t2 w =>
 Q (Value.tuple #[]) w
def f30.an : An := .leaf
theorem f30.calls {Z : List PanicEntry → World → Prop} {x0 x1 : Value} {w : World} {Q : Value → World → Prop} (h : f30.sh Z x0 x1 w Q) : CallV Tryz.prog Z 30 #[x0, x1] w Q :=
 cl Tryz.func30 f30.an [x0, x1] (by kernel_rfl) (by kernel_rfl) h

def f31.sh (Z : List PanicEntry → World → Prop) (w : World) (Q : Value → World → Prop) : Prop :=
 CallV Tryz.prog Z 85 #[] w fun t1 w =>
 run1 Tryz.prog Z (Instr.build 96 #[(0, (.int .i64 8)), (1, (.func (.func 86) #[] #[])), (2, (.func (.func 87) #[] #[])), (3, (.func (.func 88) #[] #[]))]) w fun t2 w =>
 run1 Tryz.prog Z (Instr.build 96 #[(0, (.int .i64 16)), (1, (.func (.func 89) #[] #[])), (2, (.func (.func 90) #[] #[])), (3, (.func (.func 91) #[] #[]))]) w fun t3 w =>
 run1 Tryz.prog Z (Instr.build 96 #[(0, (.int .i64 32)), (1, (.func (.func 92) #[] #[])), (2, (.func (.func 94) #[] #[])), (3, (.func (.func 96) #[] #[]))]) w fun t4 w =>
 run1 Tryz.prog Z (Instr.build 96 #[(0, (.int .i64 64)), (1, (.func (.func 97) #[] #[])), (2, (.func (.func 98) #[] #[])), (3, (.func (.func 99) #[] #[]))]) w fun t5 w =>
 run1 Tryz.prog Z (Instr.build 96 #[(0, (.int .i64 128)), (1, (.func (.func 101) #[] #[])), (2, (.func (.func 103) #[] #[])), (3, (.func (.func 84) #[] #[]))]) w fun t6 w =>
 run1 Tryz.prog Z (Instr.build 96 #[(0, (.int .i64 256)), (1, (.func (.func 105) #[] #[])), (2, (.func (.func 106) #[] #[])), (3, (.func (.func 84) #[] #[]))]) w fun t7 w =>
 run1 Tryz.prog Z (Instr.build 96 #[(0, (.int .i64 512)), (1, (.func (.func 107) #[] #[])), (2, (.func (.func 108) #[] #[])), (3, (.func (.func 109) #[] #[]))]) w fun t8 w =>
 run1 Tryz.prog Z (Instr.build 96 #[(0, (.int .i64 1024)), (1, (.func (.func 110) #[] #[])), (2, (.func (.func 112) #[] #[])), (3, (.func (.func 114) #[] #[]))]) w fun t9 w =>
 run1 Tryz.prog Z (Instr.build 96 #[(0, (.int .i64 2048)), (1, (.func (.func 115) #[] #[])), (2, (.func (.func 117) #[] #[])), (3, (.func (.func 119) #[] #[]))]) w fun t10 w =>
 run1 Tryz.prog Z (Instr.buildSlice 90 9 #[(0, t2), (1, t3), (2, t4), (3, t5), (4, t6), (5, t7), (6, t8), (7, t9), (8, t10)]) w fun t11 w =>
 run1 Tryz.prog Z (Builtin.append_ #[90, 90] 90 #[t1, t11]) w fun t12 w =>
 Q t12 w
def f31.an : An := (.sq .leaf (.sq .leaf (.sq .leaf .leaf)))
theorem f31.calls {Z : List PanicEntry → World → Prop} {w : World} {Q : Value → World → Prop} (h : f31.sh Z  w Q) : CallV Tryz.prog Z 31 #[] w Q :=
 cl Tryz.func31 f31.an [] (by kernel_rfl) (by kernel_rfl) h

def f32.sh (Z : List PanicEntry → World → Prop) (x0 : Value) (w : World) (Q : Value → World → Prop) : Prop :=
 run1 Tryz.prog Z (eqOp .eql 86 false true x0 (.pointer none)) w fun t1 w =>
 CondV t1 (
 Q (.slice none 0 0) w) (
 runX Tryz.prog Z (nilChk x0) w fun t2 w =>
 run1 Tryz.prog Z (Instr.fieldAt 88 t2 0) w fun t3 w =>
 run1 Tryz.prog Z (Instr.loadAt 30 t3) w fun t4 w =>
 run1 Tryz.prog Z (Builtin.append_ #[30, 30] 30 #[(.slice none 0 0), t4]) w fun t5 w =>
 Q t5 w)
def f32.an : An := (.sq .leaf (.sq (.sq .leaf (.cn (.sq .leaf .leaf) .leaf)) (.sq .leaf .leaf)))
theorem f32.calls {Z : List PanicEntry → World → Prop} {x0 : Value} {w : World} {Q : Value → World → Prop} (h : f32.sh Z x0 w Q) : CallV Tryz.prog Z 32 #[x0] w Q :=
 cl Tryz.func32 f32.an [x0] (by kernel_rfl) (by kernel_rfl) h

def f33.sh (Z : List PanicEntry → World → Prop) (x0 x1 : Value) (w : World) (Q : Value → World → Prop) : Prop :=
 run1 Tryz.prog Z (convert 23 147 x1) w fun t1 w =>
 CallV Tryz.prog Z 83 #[x0, t1, (.int .i64 4)] w fun t2 w =>
 Q (Value.tuple #[]) w
def f33.an : An := .leaf
theorem f33.calls {Z : List PanicEntry → World → Prop} {x0 x1 : Value} {w : World} {Q : Value → World → Prop} (h : f33.sh Z x0 x1 w Q) : CallV Tryz.prog Z 33 #[x0, x1] w Q :=
 cl Tryz.func33 f33.an [x0, x1] (by kernel_rfl) (by kernel_rfl) h

def f34.sh (Z : List PanicEntry → World → Prop) (x0 : Value) (w : World) (Q : Value → World → Prop) : Prop :=
 run1 Tryz.prog Z (Builtin.len_ #[30] 3 #[x0]) w fun t1 w =>
 ∃ J_2 : Nat → Value → Value → Value → World → Prop, (∃ m, J_2 m (.int .u32 1) (.int .u32 0) (.int .i64 0) w) ∧
 ∀ m_2, ∀ t3 : Value, ∀ t4 : Value, ∀ t5 : Value, ∀ w : World, J_2 m_2 t3 t4 t5 w → Env →
 run1 Tryz.prog Z (binOp .lss 3 t5 t1) w fun t6 w =>
 CondV t6 (
 run1 Tryz.prog Z (Instr.indexAt 30 x0 t5) w fun t7 w =>
 run1 Tryz.prog Z (Instr.loadAt 5 t7) w fun t8 w =>
 run1 Tryz.prog Z (convert 5 23 t8) w fun t9 w =>
 run1 Tryz.prog Z (binOp .add 23 t3 t9) w fun t10 w =>
 run1 Tryz.prog Z (binOp .rem 23 t10 (.int .u32 65521)) w fun t11 w =>
 run1 Tryz.prog Z (binOp .add 23 t4 t11) w fun t12 w =>
 run1 Tryz.prog Z (binOp .rem 23 t12 (.int .u32 65521)) w fun t13 w =>
 run1 Tryz.prog Z (binOp .add 3 t5 (.int .i64 1)) w fun t14 w =>
 ∃ n_2, n_2 < m_2 ∧ J_2 n_2 t11 t13 t14 w) (
 run1 Tryz.prog Z (binOp .shl 23 t4 (.int .u64 16)) w fun t15 w =>
 run1 Tryz.prog Z (binOp .or 23 t15 t3) w fun t16 w =>
 Q t16 w)
def f34.an : An := (.sq .leaf (.sq .leaf (.sq (.sq .leaf (.bl (.lp [3, 4, 9] (.sq .leaf (.sq (.cn .leaf .leaf) (.sq (.bl (.sq .leaf (.sq .leaf .leaf))) .leaf)))))) (.sq .leaf .leaf))))
theorem f34.calls {Z : List PanicEntry → World → Prop} {x0 : Value} {w : World} {Q : Value → World → Prop} (h : f34.sh Z x0 w Q) : CallV Tryz.prog Z 34 #[x0] w Q :=
 cl Tryz.func34 f34.an [x0] (by kernel_rfl) (by kernel_rfl) h

def f35.sh (Z : List PanicEntry → World → Prop) (x0 x1 : Value) (w : World) (Q : Value → World → Prop) : Prop :=
 run1 Tryz.prog Z (eqOp .neq 86 false true x0 (.pointer none)) w fun t1 w =>
 CondV t1 (
 runX Tryz.prog Z (nilChk x0) w fun t2 w =>
 run1 Tryz.prog Z (Instr.fieldAt 88 t2 0) w fun t3 w =>
 run1 Tryz.prog Z (Instr.loadAt 30 t3) w fun t4 w =>
 run1 Tryz.prog Z (Builtin.append_ #[30, 30] 30 #[t4, x1]) w fun t5 w =>
 runX Tryz.prog Z (nilChk x0) w fun t6 w =>
 run1 Tryz.prog Z (Instr.fieldAt 88 t6 0) w fun t7 w =>
 run0 Tryz.prog Z (Instr.storeAt 30 t7 t5) w fun w =>
 Q (Value.tuple #[]) w) (
 Q (Value.tuple #[]) w)
def f35.an : An := (.sq .leaf (.cn .leaf .leaf))
theorem f35.calls {Z : List PanicEntry → World → Prop} {x0 x1 : Value} {w : World} {Q : Value → World → Prop} (h : f35.sh Z x0 x1 w Q) : CallV Tryz.prog Z 35 #[x0, x1] w Q :=
 cl Tryz.func35 f35.an [x0, x1] (by kernel_rfl) (by kernel_rfl) h

def f36.sh (Z : List PanicEntry → World → Prop) (x0 x1 : Value) (w : World) (Q : Value → World → Prop) : Prop :=
 run1 Tryz.prog Z (Instr.box 39 x0) w fun t1 w =>
 run1 Tryz.prog Z (Instr.box 3 x1) w fun t2 w =>
 run1 Tryz.prog Z (Instr.loadAt 3 t2) w fun t3 w =>
 run1 Tryz.prog Z (binOp .and 3 t3 (.int .i64 512)) w fun t4 w =>
 run1 Tryz.prog Z (eqOp .eql 3 false true t4 (.int .i64 0)) w fun t5 w =>
 guardW (t5) true (fun k => run1 Tryz.prog Z (Instr.fieldAt 39 t1 10) w k) (fun t6 w =>
 guardW (t5) true (fun k => run1 Tryz.prog Z (Instr.loadAt 37 t6) w k) (fun t7 w =>
 guardW (t5) true (fun k => run1 Tryz.prog Z (Instr.build 37 #[]) w k) (fun t8 w =>
 guardW (t5) true (fun k => CallV Tryz.prog Z 120 #[t7, t8] w k) (fun t9 w =>
 guardW (t5) true (fun k => run1 Tryz.prog Z (Op.unary .not t9) w k) (fun t10 w =>
 run1 Tryz.prog Z (pickV t5 t10 (.bool false)) w fun t11 w =>
 guardW (t11) false (fun k => run1 Tryz.prog Z (Instr.loadAt 3 t2) w k) (fun t12 w =>
 guardW (t11) false (fun k => run1 Tryz.prog Z (binOp .and 3 t12 (.int .i64 1024)) w k) (fun t13 w =>
 guardW (t11) false (fun k => run1 Tryz.prog Z (eqOp .eql 3 false true t13 (.int .i64 0)) w k) (fun t14 w =>
 guardW (t11) false (fun k => k (t14) w) (fun t15 w =>
 guardW (t15) true (fun k => run1 Tryz.prog Z (Instr.fieldAt 39 t1 11) w k) (fun t16 w =>
 guardW (t15) true (fun k => run1 Tryz.prog Z (Instr.loadAt 30 t16) w k) (fun t17 w =>
 guardW (t15) true (fun k => run1 Tryz.prog Z (Builtin.len_ #[30] 3 #[t17]) w k) (fun t18 w =>
 guardW (t15) true (fun k => run1 Tryz.prog Z (binOp .gtr 3 t18 (.int .i64 0)) w k) (fun t19 w =>
 guardW (t11) false (fun k => run1 Tryz.prog Z (pickV t15 t19 (.bool false)) w k) (fun t20 w =>
 run1 Tryz.prog Z (pickV t11 (.bool true) t20) w fun t21 w =>
 CondV t21 (
 Q (.bool false) w) (
 run1 Tryz.prog Z (Instr.alloc 157 true (.tuple #[])) w fun t22 w =>
 run1 Tryz.prog Z (Instr.makeFunc (.func 121) #[] #[t2]) w fun t23 w =>
 run1 Tryz.prog Z (Instr.makeFunc (.func 122) #[] #[t1, t22]) w fun t24 w =>
 runX Tryz.prog Z (callVal t23 #[(.int .i64 1), t24]) w fun t25 w =>
 run1 Tryz.prog Z (Instr.makeFunc (.func 123) #[] #[t1, t22]) w fun t26 w =>
 runX Tryz.prog Z (callVal t23 #[(.int .i64 2), t26]) w fun t27 w =>
 run1 Tryz.prog Z (Instr.makeFunc (.func 124) #[] #[t1, t22]) w fun t28 w =>
 runX Tryz.prog Z (callVal t23 #[(.int .i64 4), t28]) w fun t29 w =>
 run1 Tryz.prog Z (Instr.makeFunc (.func 125) #[] #[t1, t22]) w fun t30 w =>
 runX Tryz.prog Z (callVal t23 #[(.int .i64 2048), t30]) w fun t31 w =>
 run1 Tryz.prog Z (Instr.makeFunc (.func 126) #[] #[t1, t22]) w fun t32 w =>
 runX Tryz.prog Z (callVal t23 #[(.int .i64 8), t32]) w fun t33 w =>
 run1 Tryz.prog Z (Instr.makeFunc (.func 127) #[] #[t1, t22]) w fun t34 w =>
 runX Tryz.prog Z (callVal t23 #[(.int .i64 16), t34]) w fun t35 w =>
 run1 Tryz.prog Z (Instr.makeFunc (.func 128) #[] #[t1, t22]) w fun t36 w =>
 runX Tryz.prog Z (callVal t23 #[(.int .i64 32), t36]) w fun t37 w =>
 run1 Tryz.prog Z (Instr.makeFunc (.func 129) #[] #[t1, t22]) w fun t38 w =>
 runX Tryz.prog Z (callVal t23 #[(.int .i64 64), t38]) w fun t39 w =>
 run1 Tryz.prog Z (Instr.makeFunc (.func 130) #[] #[t1, t22]) w fun t40 w =>
 runX Tryz.prog Z (callVal t23 #[(.int .i64 128), t40]) w fun t41 w =>
 run1 Tryz.prog Z (Instr.makeFunc (.func 131) #[] #[t1, t22]) w fun t42 w =>
 runX Tryz.prog Z (callVal t23 #[(.int .i64 256), t42]) w fun t43 w =>
 run1 Tryz.prog Z (Instr.loadAt 157 t22) w fun t44 w =>
 run1 Tryz.prog Z (Instr.build 157 #[]) w fun t45 w =>
 run1 Tryz.prog Z (eqOp .eql 157 false false t44 t45) w fun t46 w =>
 Q t46 w)) w) w) w) w) w) w) w) w) w) w) w) w) w) w
def f36.an : An := (.sq .leaf (.sq (.sq .leaf (.cn (.sq .leaf .leaf) .leaf)) (.sq .leaf (.sq .leaf (.sq .leaf (.sq .leaf (.sq .leaf (.sq .leaf (.sq .leaf (.sq .leaf (.sq .leaf (.sq .leaf (.sq .leaf (.sq .leaf (.sq .leaf .leaf)))))))))))))))
theorem f36.calls {Z : List PanicEntry → World → Prop} {x0 x1 : Value} {w : World} {Q : Value → World → Prop} (h : f36.sh Z x0 x1 w Q) : CallV Tryz.prog Z 36 #[x0, x1] w Q :=
 cl Tryz.func36 f36.an [x0, x1] (by kernel_rfl) (by kernel_rfl) h

def f37.sh (Z : List PanicEntry → World → Prop) (x0 : Value) (w : World) (Q : Value → World → Prop) : Prop :=
 ∀ j_1 : World → Prop, (∀ w : World, (Env →
 Q (.string { data := #[] }) w) →
 j_1 w) →
 run1 Tryz.prog Z (eqOp .eql 22 false true x0 (.int .i8 1)) w fun t2 w =>
 CondV t2 (
 Q (.string { data := #[99, 101] }) w) (
 ∀ j_3 : Value → World → Prop, (∀ t4 : Value, ∀ w : World, (Env →
 CondV t4 (
 Q (.string { data := #[99, 108, 112, 101] }) w) (
 run1 Tryz.prog Z (eqOp .eql 22 false true x0 (.int .i8 3)) w fun t5 w =>
 CondV t5 (
 Q (.string { data := #[99, 108, 112, 101, 117, 122, 111] }) w) (
 ∀ j_6 : Value → World → Prop, (∀ t7 : Value, ∀ w : World, (Env →
 CondV t7 (
 Q (.string { data := #[99, 108, 112, 122] }) w) (
 ∀ j_8 : Value → World → Prop, (∀ t9 : Value, ∀ w : World, (Env →
 CondV t9 (
 Q (.string { data := #[99, 108, 112, 118, 116] }) w) (
 run1 Tryz.prog Z (eqOp .eql 22 false true x0 (.int .i8 6)) w fun t10 w =>
 CondV t10 (
 Q (.string { data := #[99, 108, 112, 102, 98] }) w) (
 run1 Tryz.prog Z (eqOp .eql 22 false true x0 (.int .i8 7)) w fun t11 w =>
 CondV t11 (
 Q (.string { data := #[99, 108, 112, 101, 122] }) w) (
 run1 Tryz.prog Z (eqOp .eql 22 false true x0 (.int .i8 13)) w fun t12 w =>
 CondV t12 (
 Q (.string { data := #[99, 108, 112, 116] }) w) (
 run1 Tryz.prog Z (eqOp .eql 22 false true x0 (.int .i8 14)) w fun t13 w =>
 CondV t13 (
 Q (.string { data := #[99, 108, 112, 115] }) w) (
 j_1 w)))))) →
 j_8 t9 w) →
 run1 Tryz.prog Z (eqOp .eql 22 false true x0 (.int .i8 5)) w fun t14 w =>
 CondV t14 (
 j_8 t14 w) (
 run1 Tryz.prog Z (eqOp .eql 22 false true x0 (.int .i8 10)) w fun t15 w =>
 j_8 t15 w))) →
 j_6 t7 w) →
 run1 Tryz.prog Z (eqOp .eql 22 false true x0 (.int .i8 4)) w fun t16 w =>
 CondV t16 (
 j_6 t16 w) (
 run1 Tryz.prog Z (eqOp .eql 22 false true x0 (.int .i8 9)) w fun t17 w =>
 CondV t17 (
 j_6 t17 w) (
 run1 Tryz.prog Z (eqOp .eql 22 false true x0 (.int .i8 11)) w fun t18 w =>
 CondV t18 (
 j_6 t18 w) (
 run1 Tryz.prog Z (eqOp .eql 22 false true x0 (.int .i8 12)) w fun t19 w =>
 j_6 t19 w)))))) →
 j_3 t4 w) →
 run1 Tryz.prog Z (eqOp .eql 22 false true x0 (.int .i8 2)) w fun t20 w =>
 CondV t20 (
 j_3 t20 w) (
 run1 Tryz.prog Z (eqOp .eql 22 false true x0 (.int .i8 8)) w fun t21 w =>
 j_3 t21 w))
def f37.an : An := (.sq .leaf (.sj [] (.sq .leaf (.bl (.sq .leaf (.cn (.sq .leaf .leaf) (.sj [6] (.sq .leaf (.cn .leaf .leaf)) (.cn (.sq .leaf .leaf) (.sq .leaf (.cn (.sq .leaf .leaf) (.sj [11] (.sq .leaf (.cn .leaf (.sq .leaf (.cn .leaf (.sq .leaf (.cn .leaf .leaf)))))) (.cn (.sq .leaf .leaf) (.sj [16] (.sq .leaf (.cn .leaf .leaf)) (.cn (.sq .leaf .leaf) (.sq .leaf (.cn (.sq .leaf .leaf) (.sq .leaf (.cn (.sq .leaf .leaf) (.sq .leaf (.cn (.sq .leaf .leaf) (.sq .leaf (.cn (.sq .leaf .leaf) .leaf)))))))))))))))))))) (.sq .leaf .leaf)))
theorem f37.calls {Z : List PanicEntry → World → Prop} {x0 : Value} {w : World} {Q : Value → World → Prop} (h : f37.sh Z x0 w Q) : CallV Tryz.prog Z 37 #[x0] w Q :=
 cl Tryz.func37 f37.an [x0] (by kernel_rfl) (by kernel_rfl) h

def f38.sh (Z : List PanicEntry → World → Prop) (x0 x1 : Value) (w : World) (Q : Value → World → Prop) : Prop :=
 run1 Tryz.prog Z (Instr.box 25 x0) w fun t1 w =>
 CondV x1 (
 run1 Tryz.prog Z (Instr.fieldAt 25 t1 0) w fun t2 w =>
 run1 Tryz.prog Z (Instr.loadAt 23 t2) w fun t3 w =>
 run1 Tryz.prog Z (binOp .gtr 23 t3 (.int .u32 0)) w fun t4 w =>
 guardW (t4) true (fun k => run1 Tryz.prog Z (Instr.fieldAt 25 t1 1) w k) (fun t5 w =>
 guardW (t4) true (fun k => run1 Tryz.prog Z (Instr.loadAt 23 t5) w k) (fun t6 w =>
 guardW (t4) true (fun k => run1 Tryz.prog Z (binOp .gtr 23 t6 (.int .u32 0)) w k) (fun t7 w =>
 run1 Tryz.prog Z (pickV t4 t7 (.bool false)) w fun t8 w =>
 Q t8 w) w) w) w) (
 run1 Tryz.prog Z (Instr.fieldAt 25 t1 0) w fun t9 w =>
 run1 Tryz.prog Z (Instr.loadAt 23 t9) w fun t10 w =>
 run1 Tryz.prog Z (eqOp .eql 23 false true t10 (.int .u32 0)) w fun t11 w =>
 guardW (t11) true (fun k => run1 Tryz.prog Z (Instr.fieldAt 25 t1 1) w k) (fun t12 w =>
 guardW (t11) true (fun k => run1 Tryz.prog Z (Instr.loadAt 23 t12) w k) (fun t13 w =>
 guardW (t11) true (fun k => run1 Tryz.prog Z (eqOp .eql 23 false true t13 (.int .u32 0)) w k) (fun t14 w =>
 run1 Tryz.prog Z (pickV t11 t14 (.bool false)) w fun t15 w =>
 Q t15 w) w) w) w)
def f38.an : An := (.sq .leaf (.sq (.sq .leaf (.cn (.sq .leaf .leaf) .leaf)) (.sq .leaf .leaf)))
theorem f38.calls {Z : List PanicEntry → World → Prop} {x0 x1 : Value} {w : World} {Q : Value → World → Prop} (h : f38.sh Z x0 x1 w Q) : CallV Tryz.prog Z 38 #[x0, x1] w Q :=
 cl Tryz.func38 f38.an [x0, x1] (by kernel_rfl) (by kernel_rfl) h

def f39.sh (Z : List PanicEntry → World → Prop) (x0 x1 : Value) (w : World) (Q : Value → World → Prop) : Prop :=
 ∃ J_1 : Nat → Value → World → Prop, (∃ m, J_1 m (.int .i64 0) w) ∧
 ∀ m_1, ∀ t2 : Value, ∀ w : World, J_1 m_1 t2 w → Env →
 run1 Tryz.prog Z (Builtin.len_ #[9] 3 #[x0]) w fun t3 w =>
 run1 Tryz.prog Z (binOp .lss 3 t2 t3) w fun t4 w =>
 CondV t4 (
 run1 Tryz.prog Z (Instr.index 9 x0 t2) w fun t5 w =>
 run1 Tryz.prog Z (eqOp .eql 5 false false t5 x1) w fun t6 w =>
 CondV t6 (
 Q (.bool true) w) (
 run1 Tryz.prog Z (binOp .add 3 t2 (.int .i64 1)) w fun t7 w =>
 ∃ n_1, n_1 < m_1 ∧ J_1 n_1 t7 w)) (
 Q (.bool false) w)
def f39.an : An := (.sq .leaf (.sq (.sq .leaf (.bl (.lp [5] (.sq (.sq .leaf (.cn .leaf .leaf)) (.sq (.bl (.sq .leaf (.cn (.sq .leaf .leaf) .leaf))) .leaf))))) (.sq .leaf .leaf)))
theorem f39.calls {Z : List PanicEntry → World → Prop} {x0 x1 : Value} {w : World} {Q : Value → World → Prop} (h : f39.sh Z x0 x1 w Q) : CallV Tryz.prog Z 39 #[x0, x1] w Q :=
 cl Tryz.func39 f39.an [x0, x1] (by kernel_rfl) (by kernel_rfl) h

def f40.sh (Z : List PanicEntry → World → Prop) (x0 x1 : Value) (w : World) (Q : Value → World → Prop) : Prop :=
 run1 Tryz.prog Z (Instr.box 27 x0) w fun t1 w =>
 run1 Tryz.prog Z (Instr.fieldAt 27 t1 0) w fun t2 w =>
 run1 Tryz.prog Z (Instr.loadAt 23 t2) w fun t3 w =>
 run1 Tryz.prog Z (eqOp .eql 23 false true t3 (.int .u32 0)) w fun t4 w =>
 guardW (t4) true (fun k => run1 Tryz.prog Z (Instr.fieldAt 27 t1 1) w k) (fun t5 w =>
 guardW (t4) true (fun k => run1 Tryz.prog Z (Instr.loadAt 23 t5) w k) (fun t6 w =>
 guardW (t4) true (fun k => run1 Tryz.prog Z (eqOp .eql 23 false true t6 (.int .u32 0)) w k) (fun t7 w =>
 run1 Tryz.prog Z (pickV t4 t7 (.bool false)) w fun t8 w =>
 guardW (t8) false (fun k => k (x1) w) (fun t9 w =>
 guardW (t8) false (fun k => k (t9) w) (fun t10 w =>
 guardW (t10) true (fun k => run1 Tryz.prog Z (Instr.fieldAt 27 t1 0) w k) (fun t11 w =>
 guardW (t10) true (fun k => run1 Tryz.prog Z (Instr.loadAt 23 t11) w k) (fun t12 w =>
 guardW (t10) true (fun k => run1 Tryz.prog Z (binOp .gtr 23 t12 (.int .u32 0)) w k) (fun t13 w =>
 guardW (t8) false (fun k => run1 Tryz.prog Z (pickV t10 t13 (.bool false)) w k) (fun t14 w =>
 guardW (t8) false (fun k => k (t14) w) (fun t15 w =>
 guardW (t15) true (fun k => run1 Tryz.prog Z (Instr.fieldAt 27 t1 0) w k) (fun t16 w =>
 guardW (t15) true (fun k => run1 Tryz.prog Z (Instr.loadAt 23 t16) w k) (fun t17 w =>
 guardW (t15) true (fun k => run1 Tryz.prog Z (binOp .leq 23 t17 (.int .u32 2147483647)) w k) (fun t18 w =>
 guardW (t8) false (fun k => run1 Tryz.prog Z (pickV t15 t18 (.bool false)) w k) (fun t19 w =>
 guardW (t8) false (fun k => k (t19) w) (fun t20 w =>
 guardW (t20) true (fun k => run1 Tryz.prog Z (Instr.fieldAt 27 t1 1) w k) (fun t21 w =>
 guardW (t20) true (fun k => run1 Tryz.prog Z (Instr.loadAt 23 t21) w k) (fun t22 w =>
 guardW (t20) true (fun k => run1 Tryz.prog Z (binOp .gtr 23 t22 (.int .u32 0)) w k) (fun t23 w =>
 guardW (t8) false (fun k => run1 Tryz.prog Z (pickV t20 t23 (.bool false)) w k) (fun t24 w =>
 run1 Tryz.prog Z (pickV t8 (.bool true) t24) w fun t25 w =>
 Q t25 w) w) w) w) w) w) w) w) w) w) w) w) w) w) w) w) w) w) w) w
def f40.an : An := (.sq .leaf (.sq .leaf (.sq .leaf .leaf)))
theorem f40.calls {Z : List PanicEntry → World → Prop} {x0 x1 : Value} {w : World} {Q : Value → World → Prop} (h : f40.sh Z x0 x1 w Q) : CallV Tryz.prog Z 40 #[x0, x1] w Q :=
 cl Tryz.func40 f40.an [x0, x1] (by kernel_rfl) (by kernel_rfl) h

def f41.sh (Z : List PanicEntry → World → Prop) (x0 x1 : Value) (w : World) (Q : Value → World → Prop) : Prop :=
 run1 Tryz.prog Z (Instr.box 37 x0) w fun t1 w =>
 run1 Tryz.prog Z (Instr.box 37 x1) w fun t2 w =>
 run1 Tryz.prog Z (Instr.fieldAt 37 t1 0) w fun t3 w =>
 run1 Tryz.prog Z (Instr.loadAt 27 t3) w fun t4 w =>
 run1 Tryz.prog Z (Instr.fieldAt 37 t2 0) w fun t5 w =>
 run1 Tryz.prog Z (Instr.loadAt 27 t5) w fun t6 w =>
 run1 Tryz.prog Z (eqOp .eql 27 false false t4 t6) w fun t7 w =>
 guardW (t7) true (fun k => run1 Tryz.prog Z (Instr.fieldAt 37 t1 1) w k) (fun t8 w =>
 guardW (t7) true (fun k => run1 Tryz.prog Z (Instr.loadAt 29 t8) w k) (fun t9 w =>
 guardW (t7) true (fun k => run1 Tryz.prog Z (Instr.fieldAt 37 t2 1) w k) (fun t10 w =>
 guardW (t7) true (fun k => run1 Tryz.prog Z (Instr.loadAt 29 t10) w k) (fun t11 w =>
 guardW (t7) true (fun k => run1 Tryz.prog Z (eqOp .eql 29 false false t9 t11) w k) (fun t12 w =>
 run1 Tryz.prog Z (pickV t7 t12 (.bool false)) w fun t13 w =>
 guardW (t13) true (fun k => run1 Tryz.prog Z (Instr.fieldAt 37 t1 2) w k) (fun t14 w =>
 guardW (t13) true (fun k => run1 Tryz.prog Z (Instr.loadAt 35 t14) w k) (fun t15 w =>
 guardW (t13) true (fun k => run1 Tryz.prog Z (Instr.fieldAt 37 t2 2) w k) (fun t16 w =>
 guardW (t13) true (fun k => run1 Tryz.prog Z (Instr.loadAt 35 t16) w k) (fun t17 w =>
 guardW (t13) true (fun k => CallV Tryz.prog Z 132 #[t15, t17] w k) (fun t18 w =>
 run1 Tryz.prog Z (pickV t13 t18 (.bool false)) w fun t19 w =>
 Q t19 w) w) w) w) w) w) w) w) w) w) w
def f41.an : An := (.sq .leaf (.sq .leaf .leaf))
theorem f41.calls {Z : List PanicEntry → World → Prop} {x0 x1 : Value} {w : World} {Q : Value → World → Prop} (h : f41.sh Z x0 x1 w Q) : CallV Tryz.prog Z 41 #[x0, x1] w Q :=
 cl Tryz.func41 f41.an [x0, x1] (by kernel_rfl) (by kernel_rfl) h

def f42.sh (Z : List PanicEntry → World → Prop) (x0 : Value) (w : World) (Q : Value → World → Prop) : Prop :=
 run1 Tryz.prog Z (Instr.box 37 x0) w fun t1 w =>
 run1 Tryz.prog Z (Instr.fieldAt 37 t1 0) w fun t2 w =>
 run1 Tryz.prog Z (Instr.fieldAt 27 t2 0) w fun t3 w =>
 run1 Tryz.prog Z (Instr.loadAt 23 t3) w fun t4 w =>
 run1 Tryz.prog Z (eqOp .eql 23 false true t4 (.int .u32 0)) w fun t5 w =>
 guardW (t5) true (fun k => run1 Tryz.prog Z (Instr.fieldAt 37 t1 0) w k) (fun t6 w =>
 guardW (t5) true (fun k => run1 Tryz.prog Z (Instr.fieldAt 27 t6 1) w k) (fun t7 w =>
 guardW (t5) true (fun k => run1 Tryz.prog Z (Instr.loadAt 23 t7) w k) (fun t8 w =>
 guardW (t5) true (fun k => run1 Tryz.prog Z (eqOp .eql 23 false true t8 (.int .u32 0)) w k) (fun t9 w =>
 run1 Tryz.prog Z (pickV t5 t9 (.bool false)) w fun t10 w =>
 run1 Tryz.prog Z (Instr.fieldAt 37 t1 0) w fun t11 w =>
 run1 Tryz.prog Z (Instr.fieldAt 27 t11 0) w fun t12 w =>
 run1 Tryz.prog Z (Instr.loadAt 23 t12) w fun t13 w =>
 run1 Tryz.prog Z (eqOp .neq 23 false true t13 (.int .u32 0)) w fun t14 w =>
 guardW (t14) true (fun k => run1 Tryz.prog Z (Instr.fieldAt 37 t1 0) w k) (fun t15 w =>
 guardW (t14) true (fun k => run1 Tryz.prog Z (Instr.fieldAt 27 t15 0) w k) (fun t16 w =>
 guardW (t14) true (fun k => run1 Tryz.prog Z (Instr.loadAt 23 t16) w k) (fun t17 w =>
 guardW (t14) true (fun k => run1 Tryz.prog Z (convert 23 2 t17) w k) (fun t18 w =>
 guardW (t14) true (fun k => run1 Tryz.prog Z (binOp .leq 2 t18 (.int .i64 2147483647)) w k) (fun t19 w =>
 run1 Tryz.prog Z (pickV t14 t19 (.bool false)) w fun t20 w =>
 guardW (t20) true (fun k => run1 Tryz.prog Z (Instr.fieldAt 37 t1 0) w k) (fun t21 w =>
 guardW (t20) true (fun k => run1 Tryz.prog Z (Instr.fieldAt 27 t21 1) w k) (fun t22 w =>
 guardW (t20) true (fun k => run1 Tryz.prog Z (Instr.loadAt 23 t22) w k) (fun t23 w =>
 guardW (t20) true (fun k => run1 Tryz.prog Z (eqOp .neq 23 false true t23 (.int .u32 0)) w k) (fun t24 w =>
 run1 Tryz.prog Z (pickV t20 t24 (.bool false)) w fun t25 w =>
 run1 Tryz.prog Z (Op.unary .not t10) w fun t26 w =>
 guardW (t26) true (fun k => k (t25) w) (fun t27 w =>
 guardW (t26) true (fun k => run1 Tryz.prog Z (Op.unary .not t27) w k) (fun t28 w =>
 run1 Tryz.prog Z (pickV t26 t28 (.bool false)) w fun t29 w =>
 CondV t29 (
 Q (.int .i64 40) w) (
 run1 Tryz.prog Z (Instr.fieldAt 37 t1 1) w fun t30 w =>
 run1 Tryz.prog Z (Instr.fieldAt 29 t30 0) w fun t31 w =>
 run1 Tryz.prog Z (Instr.loadAt 22 t31) w fun t32 w =>
 run1 Tryz.prog Z (binOp .lss 22 t32 (.int .i8 0)) w fun t33 w =>
 guardW (t33) false (fun k => run1 Tryz.prog Z (Instr.fieldAt 37 t1 1) w k) (fun t34 w =>
 guardW (t33) false (fun k => run1 Tryz.prog Z (Instr.fieldAt 29 t34 0) w k) (fun t35 w =>
 guardW (t33) false (fun k => run1 Tryz.prog Z (Instr.loadAt 22 t35) w k) (fun t36 w =>
 guardW (t33) false (fun k => run1 Tryz.prog Z (binOp .gtr 22 t36 (.int .i8 6)) w k) (fun t37 w =>
 run1 Tryz.prog Z (pickV t33 (.bool true) t37) w fun t38 w =>
 guardW (t38) false (fun k => run1 Tryz.prog Z (Instr.fieldAt 37 t1 1) w k) (fun t39 w =>
 guardW (t38) false (fun k => run1 Tryz.prog Z (Instr.fieldAt 29 t39 2) w k) (fun t40 w =>
 guardW (t38) false (fun k => run1 Tryz.prog Z (Instr.loadAt 2 t40) w k) (fun t41 w =>
 guardW (t38) false (fun k => run1 Tryz.prog Z (binOp .lss 2 t41 (.int .i64 0)) w k) (fun t42 w =>
 run1 Tryz.prog Z (pickV t38 (.bool true) t42) w fun t43 w =>
 guardW (t43) false (fun k => run1 Tryz.prog Z (Instr.fieldAt 37 t1 2) w k) (fun t44 w =>
 guardW (t43) false (fun k => run1 Tryz.prog Z (Instr.fieldAt 35 t44 0) w k) (fun t45 w =>
 guardW (t43) false (fun k => run1 Tryz.prog Z (Instr.loadAt 22 t45) w k) (fun t46 w =>
 guardW (t43) false (fun k => run1 Tryz.prog Z (binOp .gtr 22 t46 (.int .i8 8)) w k) (fun t47 w =>
 run1 Tryz.prog Z (pickV t43 (.bool true) t47) w fun t48 w =>
 CondV t48 (
 Q (.int .i64 40) w) (
 run1 Tryz.prog Z (Instr.fieldAt 37 t1 2) w fun t49 w =>
 run1 Tryz.prog Z (Instr.loadAt 35 t49) w fun t50 w =>
 CallV Tryz.prog Z 133 #[t50] w fun t51 w =>
 Q t51 w)) w) w) w) w) w) w) w) w) w) w) w) w)) w) w) w) w) w) w) w) w) w) w) w) w) w) w) w
def f42.an : An := (.sq .leaf (.sq .leaf (.sq .leaf (.sq (.sq .leaf (.cn (.sq .leaf .leaf) .leaf)) (.sq (.sq .leaf (.cn (.sq .leaf .leaf) .leaf)) (.sq .leaf .leaf))))))
theorem f42.calls {Z : List PanicEntry → World → Prop} {x0 : Value} {w : World} {Q : Value → World → Prop} (h : f42.sh Z x0 w Q) : CallV Tryz.prog Z 42 #[x0] w Q :=
 cl Tryz.func42 f42.an [x0] (by kernel_rfl) (by kernel_rfl) h

def f43.sh (Z : List PanicEntry → World → Prop) (x0 x1 : Value) (w : World) (Q : Value → World → Prop) : Prop :=
 run1 Tryz.prog Z (Instr.box 27 x0) w fun t1 w =>
 run1 Tryz.prog Z (Instr.box 27 x1) w fun t2 w =>
 run1 Tryz.prog Z (Instr.fieldAt 27 t1 0) w fun t3 w =>
 run1 Tryz.prog Z (Instr.loadAt 23 t3) w fun t4 w =>
 run1 Tryz.prog Z (Instr.fieldAt 27 t2 0) w fun t5 w =>
 run1 Tryz.prog Z (Instr.loadAt 23 t5) w fun t6 w =>
 run1 Tryz.prog Z (binOp .lss 23 t4 t6) w fun t7 w =>
 guardW (t7) false (fun k => run1 Tryz.prog Z (Instr.fieldAt 27 t1 0) w k) (fun t8 w =>
 guardW (t7) false (fun k => run1 Tryz.prog Z (Instr.loadAt 23 t8) w k) (fun t9 w =>
 guardW (t7) false (fun k => run1 Tryz.prog Z (Instr.fieldAt 27 t2 0) w k) (fun t10 w =>
 guardW (t7) false (fun k => run1 Tryz.prog Z (Instr.loadAt 23 t10) w k) (fun t11 w =>
 guardW (t7) false (fun k => run1 Tryz.prog Z (eqOp .eql 23 false false t9 t11) w k) (fun t12 w =>
 guardW (t7) false (fun k => k (t12) w) (fun t13 w =>
 guardW (t13) true (fun k => run1 Tryz.prog Z (Instr.fieldAt 27 t1 1) w k) (fun t14 w =>
 guardW (t13) true (fun k => run1 Tryz.prog Z (Instr.loadAt 23 t14) w k) (fun t15 w =>
 guardW (t13) true (fun k => run1 Tryz.prog Z (Instr.fieldAt 27 t2 1) w k) (fun t16 w =>
 guardW (t13) true (fun k => run1 Tryz.prog Z (Instr.loadAt 23 t16) w k) (fun t17 w =>
 guardW (t13) true (fun k => run1 Tryz.prog Z (binOp .lss 23 t15 t17) w k) (fun t18 w =>
 guardW (t7) false (fun k => run1 Tryz.prog Z (pickV t13 t18 (.bool false)) w k) (fun t19 w =>
 run1 Tryz.prog Z (pickV t7 (.bool true) t19) w fun t20 w =>
 CondV t20 (
 Q (.int .i64 (-1)) w) (
 run1 Tryz.prog Z (Instr.loadAt 27 t1) w fun t21 w =>
 run1 Tryz.prog Z (Instr.loadAt 27 t2) w fun t22 w =>
 run1 Tryz.prog Z (eqOp .eql 27 false false t21 t22) w fun t23 w =>
 CondV t23 (
 Q (.int .i64 0) w) (
 Q (.int .i64 1) w))) w) w) w) w) w) w) w) w) w) w) w) w
def f43.an : An := (.sq .leaf (.sq (.bl (.sq .leaf (.cn (.sq .leaf .leaf) (.sq .leaf (.cn (.sq .leaf .leaf) .leaf))))) (.sq .leaf .leaf)))
theorem f43.calls {Z : List PanicEntry → World → Prop} {x0 x1 : Value} {w : World} {Q : Value → World → Prop} (h : f43.sh Z x0 x1 w Q) : CallV Tryz.prog Z 43 #[x0, x1] w Q :=
 cl Tryz.func43 f43.an [x0, x1] (by kernel_rfl) (by kernel_rfl) h

def f74.sh (Z : List PanicEntry → World → Prop) (x0 : Value) (w : World) (Q : Value → World → Prop) : Prop :=
 run1 Tryz.prog Z (Builtin.append_ #[30, 30] 30 #[(.slice none 0 0), x0]) w fun t1 w =>
 run1 Tryz.prog Z (Instr.build 239 #[(0, (.bool true)), (1, t1)]) w fun t2 w =>
 run1 Tryz.prog Z (Instr.box 239 t2) w fun t3 w =>
 Q t3 w
def f74.an : An := (.sq .leaf (.sq .leaf .leaf))
theorem f74.calls {Z : List PanicEntry → World → Prop} {x0 : Value} {w : World} {Q : Value → World → Prop} (h : f74.sh Z x0 w Q) : CallV Tryz.prog Z 74 #[x0] w Q :=
 cl Tryz.func74 f74.an [x0] (by kernel_rfl) (by kernel_rfl) h

def f75.sh (Z : List PanicEntry → World → Prop) (x0 : Value) (w : World) (Q : Value → World → Prop) : Prop :=
 CallV Tryz.prog Z 169 #[x0, (.int .i64 4)] w fun t1 w =>
 run1 Tryz.prog Z (convert 147 23 t1) w fun t2 w =>
 Q t2 w
def f75.an : An := (.sq .leaf (.sq .leaf .leaf))
theorem f75.calls {Z : List PanicEntry → World → Prop} {x0 : Value} {w : World} {Q : Value → World → Prop} (h : f75.sh Z x0 w Q) : CallV Tryz.prog Z 75 #[x0] w Q :=
 cl Tryz.func75 f75.an [x0] (by kernel_rfl) (by kernel_rfl) h

def f76.sh (Z : List PanicEntry → World → Prop) (x0 : Value) (w : World) (Q : Value → World → Prop) : Prop :=
 CallV Tryz.prog Z 170 #[x0] w fun t1 w =>
 CondV t1 (
 Q (.int .i64 1) w) (
 runX Tryz.prog Z (nilChk x0) w fun t2 w =>
 run1 Tryz.prog Z (Instr.fieldAt 239 t2 2) w fun t3 w =>
 run1 Tryz.prog Z (Instr.loadAt 43 t3) w fun t4 w =>
 Q t4 w)
def f76.an : An := (.sq .leaf (.sq (.sq .leaf (.cn (.sq .leaf .leaf) .leaf)) (.sq .leaf .leaf)))
theorem f76.calls {Z : List PanicEntry → World → Prop} {x0 : Value} {w : World} {Q : Value → World → Prop} (h : f76.sh Z x0 w Q) : CallV Tryz.prog Z 76 #[x0] w Q :=
 cl Tryz.func76 f76.an [x0] (by kernel_rfl) (by kernel_rfl) h

def f77.sh (Z : List PanicEntry → World → Prop) (x0 : Value) (w : World) (Q : Value → World → Prop) : Prop :=
 CallV Tryz.prog Z 169 #[x0, (.int .i64 1)] w fun t1 w =>
 run1 Tryz.prog Z (convert 147 22 t1) w fun t2 w =>
 Q t2 w
def f77.an : An := (.sq .leaf (.sq .leaf .leaf))
theorem f77.calls {Z : List PanicEntry → World → Prop} {x0 : Value} {w : World} {Q : Value → World → Prop} (h : f77.sh Z x0 w Q) : CallV Tryz.prog Z 77 #[x0] w Q :=
 cl Tryz.func77 f77.an [x0] (by kernel_rfl) (by kernel_rfl) h

def f78.sh (Z : List PanicEntry → World → Prop) (x0 : Value) (w : World) (Q : Value → World → Prop) : Prop :=
 CallV Tryz.prog Z 171 #[x0] w fun t1 w =>
 guardW (t1) true (fun k => k (x0) w) (fun t2 w =>
 guardW (t1) true (fun k => runX Tryz.prog Z (nilChk t2) w k) (fun t3 w =>
 guardW (t1) true (fun k => run1 Tryz.prog Z (Instr.fieldAt 239 t3 1) w k) (fun t4 w =>
 guardW (t1) true (fun k => run1 Tryz.prog Z (Instr.loadAt 30 t4) w k) (fun t5 w =>
 guardW (t1) true (fun k => run1 Tryz.prog Z (Builtin.len_ #[30] 3 #[t5]) w k) (fun t6 w =>
 guardW (t1) true (fun k => run1 Tryz.prog Z (binOp .gtr 3 t6 (.int .i64 0)) w k) (fun t7 w =>
 run1 Tryz.prog Z (pickV t1 t7 (.bool false)) w fun t8 w =>
 CondV t8 (
 Q (.int .i64 13) w) (
 CallV Tryz.prog Z 76 #[x0] w fun t9 w =>
 Q t9 w)) w) w) w) w) w) w
def f78.an : An := (.sq .leaf (.sq (.sq .leaf (.cn (.sq .leaf .leaf) .leaf)) (.sq .leaf .leaf)))
theorem f78.calls {Z : List PanicEntry → World → Prop} {x0 : Value} {w : World} {Q : Value → World → Prop} (h : f78.sh Z x0 w Q) : CallV Tryz.prog Z 78 #[x0] w Q :=
 cl Tryz.func78 f78.an [x0] (by kernel_rfl) (by kernel_rfl) h

def f79.sh (Z : List PanicEntry → World → Prop) (x0 : Value) (w : World) (Q : Value → World → Prop) : Prop :=
 run1 Tryz.prog Z (Instr.box 35 x0) w fun t1 w =>
 run1 Tryz.prog Z (Instr.loadAt 35 t1) w fun t2 w =>
 CallV Tryz.prog Z 172 #[t2, (.int .i64 0)] w fun t3 w =>
 Q t3 w
def f79.an : An := (.sq .leaf (.sq .leaf .leaf))
theorem f79.calls {Z : List PanicEntry → World → Prop} {x0 : Value} {w : World} {Q : Value → World → Prop} (h : f79.sh Z x0 w Q) : CallV Tryz.prog Z 79 #[x0] w Q :=
 cl Tryz.func79 f79.an [x0] (by kernel_rfl) (by kernel_rfl) h

def f83.sh (Z : List PanicEntry → World → Prop) (x0 x1 x2 : Value) (w : World) (Q : Value → World → Prop) : Prop :=
 run1 Tryz.prog Z (eqOp .eql 86 false true x0 (.pointer none)) w fun t1 w =>
 CondV t1 (
 Q (Value.tuple #[]) w) (
 run1 Tryz.prog Z (binOp .sub 3 x2 (.int .i64 1)) w fun t2 w =>
 ∃ J_3 : Nat → Value → World → Prop, (∃ m, J_3 m t2 w) ∧
 ∀ m_3, ∀ t4 : Value, ∀ w : World, J_3 m_3 t4 w → Env →
 run1 Tryz.prog Z (binOp .geq 3 t4 (.int .i64 0)) w fun t5 w =>
 CondV t5 (
 Drawn w fun w =>
 PureV Tryz.prog (nilChk x0) fun t6 =>
 Pure1 Tryz.prog (Instr.fieldAt 88 t6 0) fun t7 =>
 Read1 Tryz.prog (Instr.loadAt 30 t7) w fun t8 =>
 Pure1 Tryz.prog (binOp .mul 3 (.int .i64 8) t4) fun t9 =>
 Pure1 Tryz.prog (binOp .shr 147 x1 t9) fun t10 =>
 Pure1 Tryz.prog (convert 147 5 t10) fun t11 =>
 run1 Tryz.prog Z (Instr.buildSlice 30 1 #[(0, t11)]) w fun t12 w =>
 Still Tryz.prog (nx (Instr.loadAt 30 t7)) t8 w <|
 run1 Tryz.prog Z (Builtin.append_ #[30, 30] 30 #[t8, t12]) w fun t13 w =>
 PureV Tryz.prog (nilChk x0) fun t14 =>
 Pure1 Tryz.prog (Instr.fieldAt 88 t14 0) fun t15 =>
 run0 Tryz.prog Z (Instr.storeAt 30 t15 t13) w fun w =>
 run1 Tryz.prog Z (binOp .sub 3 t4 (.int .i64 1)) w fun t16 w =>
 ∃ n_3, n_3 < m_3 ∧ J_3 n_3 t16 w) (
 Q (Value.tuple #[]) w))
def f83.an : An := (.sq (.sq .leaf (.cn .leaf .leaf)) (.sq .leaf (.bl (.lp [6] (.sq (.sq .leaf (.cn .leaf .leaf)) (.sq (.bl (.dr (pl [0, 4, 8, 12, 17, 20, 24, 28, 32, 36, 42, 46, 48, 52, 58] .fin))) .leaf))))))
theorem f83.calls {Z : List PanicEntry → World → Prop} {x0 x1 x2 : Value} {w : World} {Q : Value → World → Prop} (h : f83.sh Z x0 x1 x2 w Q) : CallV Tryz.prog Z 83 #[x0, x1, x2] w Q :=
 cl Tryz.func83 f83.an [x0, x1, x2] (by kernel_rfl) (by kernel_rfl) h

def f84.sh (Z : List PanicEntry → World → Prop) (x0 : Value) (w : World) (Q : Value → World → Prop) : Prop :=
 Q (.bool true) w
def f84.an : An := (.sq .leaf (.sq .leaf .leaf))
theorem f84.calls {Z : List PanicEntry → World → Prop} {x0 : Value} {w : World} {Q : Value → World → Prop} (h : f84.sh Z x0 w Q) : CallV Tryz.prog Z 84 #[x0] w Q :=
 cl Tryz.func84 f84.an [x0] (by kernel_rfl) (by kernel_rfl) h

def f85.sh (Z : List PanicEntry → World → Prop) (w : World) (Q : Value → World → Prop) : Prop :=
 run1 Tryz.prog Z (Instr.build 96 #[(0, (.int .i64 1)), (1, (.func (.func 181) #[] #[])), (2, (.func (.func 183) #[] #[])), (3, (.func (.func 185) #[] #[]))]) w fun t1 w =>
 run1 Tryz.prog Z (Instr.build 96 #[(0, (.int .i64 2)), (1, (.func (.func 187) #[] #[])), (2, (.func (.func 188) #[] #[])), (3, (.func (.func 189) #[] #[]))]) w fun t2 w =>
 run1 Tryz.prog Z (Instr.build 96 #[(0, (.int .i64 4)), (1, (.func (.func 190) #[] #[])), (2, (.func (.func 191) #[] #[])), (3, (.func (.func 192) #[] #[]))]) w fun t3 w =>
 run1 Tryz.prog Z (Instr.buildSlice 90 3 #[(0, t1), (1, t2), (2, t3)]) w fun t4 w =>
 Q t4 w
def f85.an : An := (.sq .leaf (.sq .leaf .leaf))
theorem f85.calls {Z : List PanicEntry → World → Prop} {w : World} {Q : Value → World → Prop} (h : f85.sh Z  w Q) : CallV Tryz.prog Z 85 #[] w Q :=
 cl Tryz.func85 f85.an [] (by kernel_rfl) (by kernel_rfl) h

def f86.sh (Z : List PanicEntry → World → Prop) (x0 x1 : Value) (w : World) (Q : Value → World → Prop) : Prop :=
 runX Tryz.prog Z (nilChk x1) w fun t1 w =>
 run1 Tryz.prog Z (Instr.fieldAt 39 t1 4) w fun t2 w =>
 run1 Tryz.prog Z (Instr.loadAt 23 t2) w fun t3 w =>
 CallV Tryz.prog Z 33 #[x0, t3] w fun t4 w =>
 Q (Value.tuple #[]) w
def f86.an : An := .leaf
theorem f86.calls {Z : List PanicEntry → World → Prop} {x0 x1 : Value} {w : World} {Q : Value → World → Prop} (h : f86.sh Z x0 x1 w Q) : CallV Tryz.prog Z 86 #[x0, x1] w Q :=
 cl Tryz.func86 f86.an [x0, x1] (by kernel_rfl) (by kernel_rfl) h

def f87.sh (Z : List PanicEntry → World → Prop) (x0 x1 : Value) (w : World) (Q : Value → World → Prop) : Prop :=
 CallV Tryz.prog Z 75 #[x0] w fun t1 w =>
 runX Tryz.prog Z (nilChk x1) w fun t2 w =>
 run1 Tryz.prog Z (Instr.fieldAt 39 t2 4) w fun t3 w =>
 run0 Tryz.prog Z (Instr.storeAt 23 t3 t1) w fun w =>
 Q (Value.tuple #[]) w
def f87.an : An := .leaf
theorem f87.calls {Z : List PanicEntry → World → Prop} {x0 x1 : Value} {w : World} {Q : Value → World → Prop} (h : f87.sh Z x0 x1 w Q) : CallV Tryz.prog Z 87 #[x0, x1] w Q :=
 cl Tryz.func87 f87.an [x0, x1] (by kernel_rfl) (by kernel_rfl) h

def f88.sh (Z : List PanicEntry → World → Prop) (x0 : Value) (w : World) (Q : Value → World → Prop) : Prop :=
 runX Tryz.prog Z (nilChk x0) w fun t1 w =>
 run1 Tryz.prog Z (Instr.fieldAt 39 t1 4) w fun t2 w =>
 run1 Tryz.prog Z (Instr.loadAt 23 t2) w fun t3 w =>
 run1 Tryz.prog Z (binOp .leq 23 t3 (.int .u32 2147483647)) w fun t4 w =>
 guardW (t4) true (fun k => k (x0) w) (fun t5 w =>
 guardW (t4) true (fun k => runX Tryz.prog Z (nilChk t5) w k) (fun t6 w =>
 guardW (t4) true (fun k => run1 Tryz.prog Z (Instr.fieldAt 39 t6 4) w k) (fun t7 w =>
 guardW (t4) true (fun k => run1 Tryz.prog Z (Instr.loadAt 23 t7) w k) (fun t8 w =>
 guardW (t4) true (fun k => run1 Tryz.prog Z (binOp .gtr 23 t8 (.int .u32 0)) w k) (fun t9 w =>
 guardW (t4) true (fun k => k (t9) w) (fun t10 w =>
 guardW (t10) false (fun k => k (x0) w) (fun t11 w =>
 guardW (t10) false (fun k => runX Tryz.prog Z (nilChk t11) w k) (fun t12 w =>
 guardW (t10) false (fun k => run1 Tryz.prog Z (Instr.fieldAt 39 t12 0) w k) (fun t13 w =>
 guardW (t10) false (fun k => run1 Tryz.prog Z (Instr.loadAt 22 t13) w k) (fun t14 w =>
 guardW (t10) false (fun k => run1 Tryz.prog Z (eqOp .eql 22 false true t14 (.int .i8 1)) w k) (fun t15 w =>
 guardW (t4) true (fun k => run1 Tryz.prog Z (pickV t10 (.bool true) t15) w k) (fun t16 w =>
 run1 Tryz.prog Z (pickV t4 t16 (.bool false)) w fun t17 w =>
 Q t17 w) w) w) w) w) w) w) w) w) w) w) w) w
def f88.an : An := (.sq .leaf (.sq .leaf .leaf))
theorem f88.calls {Z : List PanicEntry → World → Prop} {x0 : Value} {w : World} {Q : Value → World → Prop} (h : f88.sh Z x0 w Q) : CallV Tryz.prog Z 88 #[x0] w Q :=
 cl Tryz.func88 f88.an [x0] (by kernel_rfl) (by kernel_rfl) h

def f89.sh (Z : List PanicEntry → World → Prop) (x0 x1 : Value) (w : World) (Q : Value → World → Prop) : Prop :=
 runX Tryz.prog Z (nilChk x1) w fun t1 w =>
 run1 Tryz.prog Z (Instr.fieldAt 39 t1 5) w fun t2 w =>
 run1 Tryz.prog Z (Instr.loadAt 23 t2) w fun t3 w =>
 CallV Tryz.prog Z 33 #[x0, t3] w fun t4 w =>
 Q (Value.tuple #[]) w
def f89.an : An := .leaf
theorem f89.calls {Z : List PanicEntry → World → Prop} {x0 x1 : Value} {w : World} {Q : Value → World → Prop} (h : f89.sh Z x0 x1 w Q) : CallV Tryz.prog Z 89 #[x0, x1] w Q :=
 cl Tryz.func89 f89.an [x0, x1] (by kernel_rfl) (by kernel_rfl) h

def f90.sh (Z : List PanicEntry → World → Prop) (x0 x1 : Value) (w : World) (Q : Value → World → Prop) : Prop :=
 CallV Tryz.prog Z 75 #[x0] w fun t1 w =>
 runX Tryz.prog Z (nilChk x1) w fun t2 w =>
 run1 Tryz.prog Z (Instr.fieldAt 39 t2 5) w fun t3 w =>
 run0 Tryz.prog Z (Instr.storeAt 23 t3 t1) w fun w =>
 Q (Value.tuple #[]) w
def f90.an : An := .leaf
theorem f90.calls {Z : List PanicEntry → World → Prop} {x0 x1 : Value} {w : World} {Q : Value → World → Prop} (h : f90.sh Z x0 x1 w Q) : CallV Tryz.prog Z 90 #[x0, x1] w Q :=
 cl Tryz.func90 f90.an [x0, x1] (by kernel_rfl) (by kernel_rfl) h

def f91.sh (Z : List PanicEntry → World → Prop) (x0 : Value) (w : World) (Q : Value → World → Prop) : Prop :=
 runX Tryz.prog Z (nilChk x0) w fun t1 w =>
 run1 Tryz.prog Z (Instr.fieldAt 39 t1 5) w fun t2 w =>
 run1 Tryz.prog Z (Instr.loadAt 23 t2) w fun t3 w =>
 run1 Tryz.prog Z (binOp .leq 23 t3 (.int .u32 2147483647)) w fun t4 w =>
 Q t4 w
def f91.an : An := (.sq .leaf (.sq .leaf .leaf))
theorem f91.calls {Z : List PanicEntry → World → Prop} {x0 : Value} {w : World} {Q : Value → World → Prop} (h : f91.sh Z x0 w Q) : CallV Tryz.prog Z 91 #[x0] w Q :=
 cl Tryz.func91 f91.an [x0] (by kernel_rfl) (by kernel_rfl) h

def f92.sh (Z : List PanicEntry → World → Prop) (x0 x1 : Value) (w : World) (Q : Value → World → Prop) : Prop :=
 runX Tryz.prog Z (nilChk x1) w fun t1 w =>
 run1 Tryz.prog Z (Instr.fieldAt 39 t1 6) w fun t2 w =>
 run1 Tryz.prog Z (Instr.loadAt 27 t2) w fun t3 w =>
 CallV Tryz.prog Z 93 #[x0, t3] w fun t4 w =>
 Q (Value.tuple #[]) w
def f92.an : An := .leaf
theorem f92.calls {Z : List PanicEntry → World → Prop} {x0 x1 : Value} {w : World} {Q : Value → World → Prop} (h : f92.sh Z x0 x1 w Q) : CallV Tryz.prog Z 92 #[x0, x1] w Q :=
 cl Tryz.func92 f92.an [x0, x1] (by kernel_rfl) (by kernel_rfl) h

def f93.sh (Z : List PanicEntry → World → Prop) (x0 x1 : Value) (w : World) (Q : Value → World → Prop) : Prop :=
 run1 Tryz.prog Z (Instr.box 27 x1) w fun t1 w =>
 run1 Tryz.prog Z (Instr.fieldAt 27 t1 0) w fun t2 w =>
 run1 Tryz.prog Z (Instr.loadAt 23 t2) w fun t3 w =>
 CallV Tryz.prog Z 33 #[x0, t3] w fun t4 w =>
 run1 Tryz.prog Z (Instr.fieldAt 27 t1 1) w fun t5 w =>
 run1 Tryz.prog Z (Instr.loadAt 23 t5) w fun t6 w =>
 CallV Tryz.prog Z 33 #[x0, t6] w fun t7 w =>
 Q (Value.tuple #[]) w
def f93.an : An := (.sq .leaf (.sq .leaf .leaf))
theorem f93.calls {Z : List PanicEntry → World → Prop} {x0 x1 : Value} {w : World} {Q : Value → World → Prop} (h : f93.sh Z x0 x1 w Q) : CallV Tryz.prog Z 93 #[x0, x1] w Q :=
 cl Tryz.func93 f93.an [x0, x1] (by kernel_rfl) (by kernel_rfl) h

def f94.sh (Z : List PanicEntry → World → Prop) (x0 x1 : Value) (w : World) (Q : Value → World → Prop) : Prop :=
 CallV Tryz.prog Z 95 #[x0] w fun t1 w =>
 runX Tryz.prog Z (nilChk x1) w fun t2 w =>
 run1 Tryz.prog Z (Instr.fieldAt 39 t2 6) w fun t3 w =>
 run0 Tryz.prog Z (Instr.storeAt 27 t3 t1) w fun w =>
 Q (Value.tuple #[]) w
def f94.an : An := .leaf
theorem f94.calls {Z : List PanicEntry → World → Prop} {x0 x1 : Value} {w : World} {Q : Value → World → Prop} (h : f94.sh Z x0 x1 w Q) : CallV Tryz.prog Z 94 #[x0, x1] w Q :=
 cl Tryz.func94 f94.an [x0, x1] (by kernel_rfl) (by kernel_rfl) h

def f95.sh (Z : List PanicEntry → World → Prop) (x0 : Value) (w : World) (Q : Value → World → Prop) : Prop :=
 run1 Tryz.prog Z (Instr.alloc 27 true (.tuple #[])) w fun t1 w =>
 CallV Tryz.prog Z 75 #[x0] w fun t2 w =>
 CallV Tryz.prog Z 75 #[x0] w fun t3 w =>
 run1 Tryz.prog Z (Instr.build 27 #[(0, t2), (1, t3)]) w fun t4 w =>
 run0 Tryz.prog Z (Instr.storeAt 27 t1 t4) w fun w =>
 ∃ r_5, (do loadVar 27 (← asAddr t1) : Sem Value).run Tryz.prog w = .ok r_5 w ∧
 Q r_5 w
def f95.an : An := (.sq .leaf (.sq .leaf .leaf))
theorem f95.calls {Z : List PanicEntry → World → Prop} {x0 : Value} {w : World} {Q : Value → World → Prop} (h : f95.sh Z x0 w Q) : CallV Tryz.prog Z 95 #[x0] w Q :=
 cl Tryz.func95 f95.an [x0] (by kernel_rfl) (by kernel_rfl) h

def f96.sh (Z : List PanicEntry → World → Prop) (x0 : Value) (w : World) (Q : Value → World → Prop) : Prop :=
 runX Tryz.prog Z (nilChk x0) w fun t1 w =>
 run1 Tryz.prog Z (Instr.fieldAt 39 t1 0) w fun t2 w =>
 run1 Tryz.prog Z (Instr.loadAt 22 t2) w fun t3 w =>
 run1 Tryz.prog Z (eqOp .neq 22 false true t3 (.int .i8 11)) w fun t4 w =>
 guardW (t4) true (fun k => k (x0) w) (fun t5 w =>
 guardW (t4) true (fun k => runX Tryz.prog Z (nilChk t5) w k) (fun t6 w =>
 guardW (t4) true (fun k => run1 Tryz.prog Z (Instr.fieldAt 39 t6 0) w k) (fun t7 w =>
 guardW (t4) true (fun k => run1 Tryz.prog Z (Instr.loadAt 22 t7) w k) (fun t8 w =>
 guardW (t4) true (fun k => run1 Tryz.prog Z (eqOp .neq 22 false true t8 (.int .i8 12)) w k) (fun t9 w =>
 run1 Tryz.prog Z (pickV t4 t9 (.bool false)) w fun t10 w =>
 guardW (t10) false (fun k => k (x0) w) (fun t11 w =>
 guardW (t10) false (fun k => runX Tryz.prog Z (nilChk t11) w k) (fun t12 w =>
 guardW (t10) false (fun k => run1 Tryz.prog Z (Instr.fieldAt 39 t12 6) w k) (fun t13 w =>
 guardW (t10) false (fun k => run1 Tryz.prog Z (Instr.loadAt 27 t13) w k) (fun t14 w =>
 guardW (t10) false (fun k => run1 Tryz.prog Z (Instr.build 27 #[]) w k) (fun t15 w =>
 guardW (t10) false (fun k => run1 Tryz.prog Z (eqOp .neq 27 false false t14 t15) w k) (fun t16 w =>
 run1 Tryz.prog Z (pickV t10 (.bool true) t16) w fun t17 w =>
 guardW (t17) true (fun k => k (x0) w) (fun t18 w =>
 guardW (t17) true (fun k => runX Tryz.prog Z (nilChk t18) w k) (fun t19 w =>
 guardW (t17) true (fun k => run1 Tryz.prog Z (Instr.fieldAt 39 t19 6) w k) (fun t20 w =>
 guardW (t17) true (fun k => run1 Tryz.prog Z (Instr.loadAt 27 t20) w k) (fun t21 w =>
 guardW (t17) true (fun k => CallV Tryz.prog Z 100 #[t21] w k) (fun t22 w =>
 run1 Tryz.prog Z (pickV t17 t22 (.bool false)) w fun t23 w =>
 Q t23 w) w) w) w) w) w) w) w) w) w) w) w) w) w) w) w) w
def f96.an : An := (.sq .leaf (.sq .leaf (.sq .leaf .leaf)))
theorem f96.calls {Z : List PanicEntry → World → Prop} {x0 : Value} {w : World} {Q : Value → World → Prop} (h : f96.sh Z x0 w Q) : CallV Tryz.prog Z 96 #[x0] w Q :=
 cl Tryz.func96 f96.an [x0] (by kernel_rfl) (by kernel_rfl) h

def f97.sh (Z : List PanicEntry → World → Prop) (x0 x1 : Value) (w : World) (Q : Value → World → Prop) : Prop :=
 runX Tryz.prog Z (nilChk x1) w fun t1 w =>
 run1 Tryz.prog Z (Instr.fieldAt 39 t1 7) w fun t2 w =>
 run1 Tryz.prog Z (Instr.loadAt 27 t2) w fun t3 w =>
 CallV Tryz.prog Z 93 #[x0, t3] w fun t4 w =>
 Q (Value.tuple #[]) w
def f97.an : An := .leaf
theorem f97.calls {Z : List PanicEntry → World → Prop} {x0 x1 : Value} {w : World} {Q : Value → World → Prop} (h : f97.sh Z x0 x1 w Q) : CallV Tryz.prog Z 97 #[x0, x1] w Q :=
 cl Tryz.func97 f97.an [x0, x1] (by kernel_rfl) (by kernel_rfl) h

def f98.sh (Z : List PanicEntry → World → Prop) (x0 x1 : Value) (w : World) (Q : Value → World → Prop) : Prop :=
 CallV Tryz.prog Z 95 #[x0] w fun t1 w =>
 runX Tryz.prog Z (nilChk x1) w fun t2 w =>
 run1 Tryz.prog Z (Instr.fieldAt 39 t2 7) w fun t3 w =>
 run0 Tryz.prog Z (Instr.storeAt 27 t3 t1) w fun w =>
 Q (Value.tuple #[]) w
def f98.an : An := .leaf
theorem f98.calls {Z : List PanicEntry → World → Prop} {x0 x1 : Value} {w : World} {Q : Value → World → Prop} (h : f98.sh Z x0 x1 w Q) : CallV Tryz.prog Z 98 #[x0, x1] w Q :=
 cl Tryz.func98 f98.an [x0, x1] (by kernel_rfl) (by kernel_rfl) h

def f99.sh (Z : List PanicEntry → World → Prop) (x0 : Value) (w : World) (Q : Value → World → Prop) : Prop :=
 runX Tryz.prog Z (nilChk x0) w fun t1 w =>
 run1 Tryz.prog Z (Instr.fieldAt 39 t1 7) w fun t2 w =>
 run1 Tryz.prog Z (Instr.loadAt 27 t2) w fun t3 w =>
 CallV Tryz.prog Z 100 #[t3] w fun t4 w =>
 Q t4 w
def f99.an : An := (.sq .leaf (.sq .leaf .leaf))
theorem f99.calls {Z : List PanicEntry → World → Prop} {x0 : Value} {w : World} {Q : Value → World → Prop} (h : f99.sh Z x0 w Q) : CallV Tryz.prog Z 99 #[x0] w Q :=
 cl Tryz.func99 f99.an [x0] (by kernel_rfl) (by kernel_rfl) h

def f100.sh (Z : List PanicEntry → World → Prop) (x0 : Value) (w : World) (Q : Value → World → Prop) : Prop :=
 run1 Tryz.prog Z (Instr.box 27 x0) w fun t1 w =>
 run1 Tryz.prog Z (Instr.loadAt 27 t1) w fun t2 w =>
 run1 Tryz.prog Z (Instr.build 27 #[]) w fun t3 w =>
 run1 Tryz.prog Z (eqOp .eql 27 false false t2 t3) w fun t4 w =>
 guardW (t4) false (fun k => run1 Tryz.prog Z (Instr.fieldAt 27 t1 0) w k) (fun t5 w =>
 guardW (t4) false (fun k => run1 Tryz.prog Z (Instr.loadAt 23 t5) w k) (fun t6 w =>
 guardW (t4) false (fun k => run1 Tryz.prog Z (binOp .gtr 23 t6 (.int .u32 0)) w k) (fun t7 w =>
 guardW (t4) false (fun k => k (t7) w) (fun t8 w =>
 guardW (t8) true (fun k => run1 Tryz.prog Z (Instr.fieldAt 27 t1 0) w k) (fun t9 w =>
 guardW (t8) true (fun k => run1 Tryz.prog Z (Instr.loadAt 23 t9) w k) (fun t10 w =>
 guardW (t8) true (fun k => run1 Tryz.prog Z (binOp .leq 23 t10 (.int .u32 2147483647)) w k) (fun t11 w =>
 guardW (t4) false (fun k => run1 Tryz.prog Z (pickV t8 t11 (.bool false)) w k) (fun t12 w =>
 guardW (t4) false (fun k => k (t12) w) (fun t13 w =>
 guardW (t13) true (fun k => run1 Tryz.prog Z (Instr.fieldAt 27 t1 1) w k) (fun t14 w =>
 guardW (t13) true (fun k => run1 Tryz.prog Z (Instr.loadAt 23 t14) w k) (fun t15 w =>
 guardW (t13) true (fun k => run1 Tryz.prog Z (binOp .gtr 23 t15 (.int .u32 0)) w k) (fun t16 w =>
 guardW (t4) false (fun k => run1 Tryz.prog Z (pickV t13 t16 (.bool false)) w k) (fun t17 w =>
 run1 Tryz.prog Z (pickV t4 (.bool true) t17) w fun t18 w =>
 Q t18 w) w) w) w) w) w) w) w) w) w) w) w) w) w
def f100.an : An := (.sq .leaf (.sq .leaf .leaf))
theorem f100.calls {Z : List PanicEntry → World → Prop} {x0 : Value} {w : World} {Q : Value → World → Prop} (h : f100.sh Z x0 w Q) : CallV Tryz.prog Z 100 #[x0] w Q :=
 cl Tryz.func100 f100.an [x0] (by kernel_rfl) (by kernel_rfl) h

def f101.sh (Z : List PanicEntry → World → Prop) (x0 x1 : Value) (w : World) (Q : Value → World → Prop) : Prop :=
 runX Tryz.prog Z (nilChk x1) w fun t1 w =>
 run1 Tryz.prog Z (Instr.fieldAt 39 t1 8) w fun t2 w =>
 run1 Tryz.prog Z (Instr.loadAt 4 t2) w fun t3 w =>
 CallV Tryz.prog Z 102 #[x0, t3] w fun t4 w =>
 Q (Value.tuple #[]) w
def f101.an : An := .leaf
theorem f101.calls {Z : List PanicEntry → World → Prop} {x0 x1 : Value} {w : World} {Q : Value → World → Prop} (h : f101.sh Z x0 x1 w Q) : CallV Tryz.prog Z 101 #[x0, x1] w Q :=
 cl Tryz.func101 f101.an [x0, x1] (by kernel_rfl) (by kernel_rfl) h

def f102.sh (Z : List PanicEntry → World → Prop) (x0 x1 : Value) (w : World) (Q : Value → World → Prop) : Prop :=
 ∀ j_1 : Value → World → Prop, (∀ t2 : Value, ∀ w : World, (Env →
 CallV Tryz.prog Z 83 #[x0, t2, (.int .i64 1)] w fun t3 w =>
 Q (Value.tuple #[]) w) →
 j_1 t2 w) →
 CondV x1 (
 j_1 (.int .u64 1) w) (
 j_1 (.int .u64 0) w)
def f102.an : An := (.sq .leaf (.sj [4] (.sq .leaf (.cn .leaf .leaf)) .leaf))
theorem f102.calls {Z : List PanicEntry → World → Prop} {x0 x1 : Value} {w : World} {Q : Value → World → Prop} (h : f102.sh Z x0 x1 w Q) : CallV Tryz.prog Z 102 #[x0, x1] w Q :=
 cl Tryz.func102 f102.an [x0, x1] (by kernel_rfl) (by kernel_rfl) h

def f103.sh (Z : List PanicEntry → World → Prop) (x0 x1 : Value) (w : World) (Q : Value → World → Prop) : Prop :=
 CallV Tryz.prog Z 104 #[x0] w fun t1 w =>
 runX Tryz.prog Z (nilChk x1) w fun t2 w =>
 run1 Tryz.prog Z (Instr.fieldAt 39 t2 8) w fun t3 w =>
 run0 Tryz.prog Z (Instr.storeAt 4 t3 t1) w fun w =>
 Q (Value.tuple #[]) w
def f103.an : An := .leaf
theorem f103.calls {Z : List PanicEntry → World → Prop} {x0 x1 : Value} {w : World} {Q : Value → World → Prop} (h : f103.sh Z x0 x1 w Q) : CallV Tryz.prog Z 103 #[x0, x1] w Q :=
 cl Tryz.func103 f103.an [x0, x1] (by kernel_rfl) (by kernel_rfl) h

def f104.sh (Z : List PanicEntry → World → Prop) (x0 : Value) (w : World) (Q : Value → World → Prop) : Prop :=
 CallV Tryz.prog Z 193 #[x0, (.int .i64 1)] w fun t1 w =>
 run1 Tryz.prog Z (Instr.extract t1 0) w fun t2 w =>
 run1 Tryz.prog Z (Instr.extract t1 1) w fun t3 w =>
 run1 Tryz.prog Z (Op.unary .not t3) w fun t4 w =>
 CondV t4 (
 Q (.bool false) w) (
 run1 Tryz.prog Z (Instr.indexAt 30 t2 (.int .i64 0)) w fun t5 w =>
 run1 Tryz.prog Z (Instr.loadAt 5 t5) w fun t6 w =>
 run1 Tryz.prog Z (binOp .gtr 5 t6 (.int .u8 1)) w fun t7 w =>
 CondV t7 (
 runX Tryz.prog Z (nilChk x0) w fun t8 w =>
 run1 Tryz.prog Z (Instr.fieldAt 239 t8 2) w fun t9 w =>
 run0 Tryz.prog Z (Instr.storeAt 43 t9 (.int .i64 12)) w fun w =>
 Q (.bool false) w) (
 runX Tryz.prog Z (nilChk x0) w fun t10 w =>
 run1 Tryz.prog Z (Instr.fieldAt 239 t10 1) w fun t11 w =>
 run1 Tryz.prog Z (Instr.loadAt 30 t11) w fun t12 w =>
 run1 Tryz.prog Z (Instr.sliceAt 30 t12 (some (.int .i64 1)) none none) w fun t13 w =>
 runX Tryz.prog Z (nilChk x0) w fun t14 w =>
 run1 Tryz.prog Z (Instr.fieldAt 239 t14 1) w fun t15 w =>
 run0 Tryz.prog Z (Instr.storeAt 30 t15 t13) w fun w =>
 run1 Tryz.prog Z (Instr.indexAt 30 t2 (.int .i64 0)) w fun t16 w =>
 run1 Tryz.prog Z (Instr.loadAt 5 t16) w fun t17 w =>
 run1 Tryz.prog Z (eqOp .eql 5 false true t17 (.int .u8 1)) w fun t18 w =>
 Q t18 w))
def f104.an : An := (.sq .leaf (.sq .leaf (.sq (.sq .leaf (.cn (.sq .leaf .leaf) .leaf)) (.sq (.sq .leaf (.cn (.sq .leaf (.sq .leaf .leaf)) .leaf)) (.sq .leaf (.sq .leaf .leaf))))))
theorem f104.calls {Z : List PanicEntry → World → Prop} {x0 : Value} {w : World} {Q : Value → World → Prop} (h : f104.sh Z x0 w Q) : CallV Tryz.prog Z 104 #[x0] w Q :=
 cl Tryz.func104 f104.an [x0] (by kernel_rfl) (by kernel_rfl) h

def f105.sh (Z : List PanicEntry → World → Prop) (x0 x1 : Value) (w : World) (Q : Value → World → Prop) : Prop :=
 runX Tryz.prog Z (nilChk x1) w fun t1 w =>
 run1 Tryz.prog Z (Instr.fieldAt 39 t1 9) w fun t2 w =>
 run1 Tryz.prog Z (Instr.loadAt 4 t2) w fun t3 w =>
 CallV Tryz.prog Z 102 #[x0, t3] w fun t4 w =>
 Q (Value.tuple #[]) w
def f105.an : An := .leaf
theorem f105.calls {Z : List PanicEntry → World → Prop} {x0 x1 : Value} {w : World} {Q : Value → World → Prop} (h : f105.sh Z x0 x1 w Q) : CallV Tryz.prog Z 105 #[x0, x1] w Q :=
 cl Tryz.func105 f105.an [x0, x1] (by kernel_rfl) (by kernel_rfl) h

def f106.sh (Z : List PanicEntry → World → Prop) (x0 x1 : Value) (w : World) (Q : Value → World → Prop) : Prop :=
 CallV Tryz.prog Z 104 #[x0] w fun t1 w =>
 runX Tryz.prog Z (nilChk x1) w fun t2 w =>
 run1 Tryz.prog Z (Instr.fieldAt 39 t2 9) w fun t3 w =>
 run0 Tryz.prog Z (Instr.storeAt 4 t3 t1) w fun w =>
 Q (Value.tuple #[]) w
def f106.an : An := .leaf
theorem f106.calls {Z : List PanicEntry → World → Prop} {x0 x1 : Value} {w : World} {Q : Value → World → Prop} (h : f106.sh Z x0 x1 w Q) : CallV Tryz.prog Z 106 #[x0, x1] w Q :=
 cl Tryz.func106 f106.an [x0, x1] (by kernel_rfl) (by kernel_rfl) h

def f107.sh (Z : List PanicEntry → World → Prop) (x0 x1 : Value) (w : World) (Q : Value → World → Prop) : Prop :=
 runX Tryz.prog Z (nilChk x1) w fun t1 w =>
 run1 Tryz.prog Z (Instr.fieldAt 39 t1 10) w fun t2 w =>
 run1 Tryz.prog Z (Instr.loadAt 37 t2) w fun t3 w =>
 CallV Tryz.prog Z 194 #[t3] w fun t4 w =>
 run1 Tryz.prog Z (Instr.extract t4 0) w fun t5 w =>
 run1 Tryz.prog Z (Instr.extract t4 1) w fun t6 w =>
 ∀ j_7 : World → Prop, (∀ w : World, (Env →
 CallV Tryz.prog Z 111 #[x0, t5] w fun t8 w =>
 Q (Value.tuple #[]) w) →
 j_7 w) →
 run1 Tryz.prog Z (eqOp .neq 43 false true t6 (.int .i64 0)) w fun t9 w =>
 CondV t9 (
 run1 Tryz.prog Z (Instr.build 134 #[]) w fun t10 w =>
 run1 Tryz.prog Z (Instr.makeInterface 134 t10) w fun t11 w =>
 run1 Tryz.prog Z (Instr.panic t11) w fun _ w =>
 j_7 w) (
 j_7 w)
def f107.an : An := (.sq .leaf (.sj [] (.sq .leaf (.cn .leaf .leaf)) .leaf))
theorem f107.calls {Z : List PanicEntry → World → Prop} {x0 x1 : Value} {w : World} {Q : Value → World → Prop} (h : f107.sh Z x0 x1 w Q) : CallV Tryz.prog Z 107 #[x0, x1] w Q :=
 cl Tryz.func107 f107.an [x0, x1] (by kernel_rfl) (by kernel_rfl) h

def f108.sh (Z : List PanicEntry → World → Prop) (x0 x1 : Value) (w : World) (Q : Value → World → Prop) : Prop :=
 CallV Tryz.prog Z 113 #[x0, (.int .i64 4096)] w fun t1 w =>
 CallV Tryz.prog Z 195 #[t1] w fun t2 w =>
 run1 Tryz.prog Z (Instr.extract t2 0) w fun t3 w =>
 run1 Tryz.prog Z (Instr.extract t2 1) w fun t4 w =>
 run1 Tryz.prog Z (Instr.alloc 37 true (.tuple #[])) w fun t5 w =>
 run0 Tryz.prog Z (Instr.storeAt 37 t5 t3) w fun w =>
 ∀ j_6 : World → Prop, (∀ w : World, (Env →
 run1 Tryz.prog Z (Instr.loadAt 37 t5) w fun t7 w =>
 runX Tryz.prog Z (nilChk x1) w fun t8 w =>
 run1 Tryz.prog Z (Instr.fieldAt 39 t8 10) w fun t9 w =>
 run0 Tryz.prog Z (Instr.storeAt 37 t9 t7) w fun w =>
 Q (Value.tuple #[]) w) →
 j_6 w) →
 run1 Tryz.prog Z (eqOp .neq 43 false true t4 (.int .i64 0)) w fun t10 w =>
 CondV t10 (
 run1 Tryz.prog Z (Instr.build 134 #[]) w fun t11 w =>
 run1 Tryz.prog Z (Instr.makeInterface 134 t11) w fun t12 w =>
 run1 Tryz.prog Z (Instr.panic t12) w fun _ w =>
 j_6 w) (
 j_6 w)
def f108.an : An := (.sq .leaf (.sj [] (.sq .leaf (.cn .leaf .leaf)) .leaf))
theorem f108.calls {Z : List PanicEntry → World → Prop} {x0 x1 : Value} {w : World} {Q : Value → World → Prop} (h : f108.sh Z x0 x1 w Q) : CallV Tryz.prog Z 108 #[x0, x1] w Q :=
 cl Tryz.func108 f108.an [x0, x1] (by kernel_rfl) (by kernel_rfl) h

def f109.sh (Z : List PanicEntry → World → Prop) (x0 : Value) (w : World) (Q : Value → World → Prop) : Prop :=
 runX Tryz.prog Z (nilChk x0) w fun t1 w =>
 run1 Tryz.prog Z (Instr.fieldAt 39 t1 10) w fun t2 w =>
 run1 Tryz.prog Z (Instr.loadAt 37 t2) w fun t3 w =>
 CallV Tryz.prog Z 196 #[t3] w fun t4 w =>
 run1 Tryz.prog Z (eqOp .neq 43 false true t4 (.int .i64 0)) w fun t5 w =>
 CondV t5 (
 Q (.bool false) w) (
 runX Tryz.prog Z (nilChk x0) w fun t6 w =>
 run1 Tryz.prog Z (Instr.fieldAt 39 t6 0) w fun t7 w =>
 run1 Tryz.prog Z (Instr.loadAt 22 t7) w fun t8 w =>
 run1 Tryz.prog Z (eqOp .eql 22 false true t8 (.int .i8 13)) w fun t9 w =>
 CondV t9 (
 runX Tryz.prog Z (nilChk x0) w fun t10 w =>
 run1 Tryz.prog Z (Instr.fieldAt 39 t10 10) w fun t11 w =>
 run1 Tryz.prog Z (Instr.fieldAt 37 t11 0) w fun t12 w =>
 run1 Tryz.prog Z (Instr.loadAt 27 t12) w fun t13 w =>
 run1 Tryz.prog Z (Instr.build 27 #[]) w fun t14 w =>
 run1 Tryz.prog Z (eqOp .eql 27 false false t13 t14) w fun t15 w =>
 guardW (t15) true (fun k => k (x0) w) (fun t16 w =>
 guardW (t15) true (fun k => runX Tryz.prog Z (nilChk t16) w k) (fun t17 w =>
 guardW (t15) true (fun k => run1 Tryz.prog Z (Instr.fieldAt 39 t17 10) w k) (fun t18 w =>
 guardW (t15) true (fun k => run1 Tryz.prog Z (Instr.fieldAt 37 t18 1) w k) (fun t19 w =>
 guardW (t15) true (fun k => run1 Tryz.prog Z (Instr.fieldAt 29 t19 2) w k) (fun t20 w =>
 guardW (t15) true (fun k => run1 Tryz.prog Z (Instr.loadAt 2 t20) w k) (fun t21 w =>
 guardW (t15) true (fun k => run1 Tryz.prog Z (binOp .gtr 2 t21 (.int .i64 0)) w k) (fun t22 w =>
 run1 Tryz.prog Z (pickV t15 t22 (.bool false)) w fun t23 w =>
 Q t23 w) w) w) w) w) w) w) w) (
 Drawn w fun w =>
 PureV Tryz.prog (nilChk x0) fun t24 =>
 Pure1 Tryz.prog (Instr.fieldAt 39 t24 7) fun t25 =>
 Read1 Tryz.prog (Instr.loadAt 27 t25) w fun t26 =>
 PureV Tryz.prog (nilChk x0) fun t27 =>
 Pure1 Tryz.prog (Instr.fieldAt 39 t27 10) fun t28 =>
 Pure1 Tryz.prog (Instr.fieldAt 37 t28 0) fun t29 =>
 Read1 Tryz.prog (Instr.loadAt 27 t29) w fun t30 =>
 CallV Tryz.prog Z 197 #[t26, t30] w fun t31 w =>
 Pure1 Tryz.prog (binOp .lss 3 t31 (.int .i64 0)) fun t32 =>
 Q t32 w))
def f109.an : An := (.sq .leaf (.sq (.sq .leaf (.cn (.sq .leaf .leaf) .leaf)) (.sq (.sq .leaf (.cn (.sq .leaf .leaf) .leaf)) (.sq (.dr (pl [0, 4, 8, 13, 16, 20, 24, 28, 33, 38, 40, 44] .fin)) .leaf))))
theorem f109.calls {Z : List PanicEntry → World → Prop} {x0 : Value} {w : World} {Q : Value → World → Prop} (h : f109.sh Z x0 w Q) : CallV Tryz.prog Z 109 #[x0] w Q :=
 cl Tryz.func109 f109.an [x0] (by kernel_rfl) (by kernel_rfl) h

def f110.sh (Z : List PanicEntry → World → Prop) (x0 x1 : Value) (w : World) (Q : Value → World → Prop) : Prop :=
 runX Tryz.prog Z (nilChk x1) w fun t1 w =>
 run1 Tryz.prog Z (Instr.fieldAt 39 t1 11) w fun t2 w =>
 run1 Tryz.prog Z (Instr.loadAt 30 t2) w fun t3 w =>
 CallV Tryz.prog Z 111 #[x0, t3] w fun t4 w =>
 Q (Value.tuple #[]) w
def f110.an : An := .leaf
theorem f110.calls {Z : List PanicEntry → World → Prop} {x0 x1 : Value} {w : World} {Q : Value → World → Prop} (h : f110.sh Z x0 x1 w Q) : CallV Tryz.prog Z 110 #[x0, x1] w Q :=
 cl Tryz.func110 f110.an [x0, x1] (by kernel_rfl) (by kernel_rfl) h

def f111.sh (Z : List PanicEntry → World → Prop) (x0 x1 : Value) (w : World) (Q : Value → World → Prop) : Prop :=
 run1 Tryz.prog Z (eqOp .eql 86 false true x0 (.pointer none)) w fun t1 w =>
 CondV t1 (
 Q (Value.tuple #[]) w) (
 run1 Tryz.prog Z (Builtin.len_ #[30] 3 #[x1]) w fun t2 w =>
 run1 Tryz.prog Z (convert 3 21 t2) w fun t3 w =>
 CallV Tryz.prog Z 198 #[x0, t3] w fun t4 w =>
 CallV Tryz.prog Z 35 #[x0, x1] w fun t5 w =>
 Q (Value.tuple #[]) w)
def f111.an : An := (.sq (.sq .leaf (.cn .leaf .leaf)) (.sq .leaf .leaf))
theorem f111.calls {Z : List PanicEntry → World → Prop} {x0 x1 : Value} {w : World} {Q : Value → World → Prop} (h : f111.sh Z x0 x1 w Q) : CallV Tryz.prog Z 111 #[x0, x1] w Q :=
 cl Tryz.func111 f111.an [x0, x1] (by kernel_rfl) (by kernel_rfl) h

def f112.sh (Z : List PanicEntry → World → Prop) (x0 x1 : Value) (w : World) (Q : Value → World → Prop) : Prop :=
 CallV Tryz.prog Z 113 #[x0, (.int .i64 4096)] w fun t1 w =>
 runX Tryz.prog Z (nilChk x1) w fun t2 w =>
 run1 Tryz.prog Z (Instr.fieldAt 39 t2 11) w fun t3 w =>
 run0 Tryz.prog Z (Instr.storeAt 30 t3 t1) w fun w =>
 Q (Value.tuple #[]) w
def f112.an : An := .leaf
theorem f112.calls {Z : List PanicEntry → World → Prop} {x0 x1 : Value} {w : World} {Q : Value → World → Prop} (h : f112.sh Z x0 x1 w Q) : CallV Tryz.prog Z 112 #[x0, x1] w Q :=
 cl Tryz.func112 f112.an [x0, x1] (by kernel_rfl) (by kernel_rfl) h

def f113.sh (Z : List PanicEntry → World → Prop) (x0 x1 : Value) (w : World) (Q : Value → World → Prop) : Prop :=
 CallV Tryz.prog Z 199 #[x0, x1] w fun t1 w =>
 run1 Tryz.prog Z (Builtin.append_ #[30, 30] 30 #[(.slice none 0 0), t1]) w fun t2 w =>
 Q t2 w
def f113.an : An := (.sq .leaf (.sq .leaf .leaf))
theorem f113.calls {Z : List PanicEntry → World → Prop} {x0 x1 : Value} {w : World} {Q : Value → World → Prop} (h : f113.sh Z x0 x1 w Q) : CallV Tryz.prog Z 113 #[x0, x1] w Q :=
 cl Tryz.func113 f113.an [x0, x1] (by kernel_rfl) (by kernel_rfl) h

def f114.sh (Z : List PanicEntry → World → Prop) (x0 : Value) (w : World) (Q : Value → World → Prop) : Prop :=
 runX Tryz.prog Z (nilChk x0) w fun t1 w =>
 run1 Tryz.prog Z (Instr.fieldAt 39 t1 11) w fun t2 w =>
 run1 Tryz.prog Z (Instr.loadAt 30 t2) w fun t3 w =>
 run1 Tryz.prog Z (Builtin.len_ #[30] 3 #[t3]) w fun t4 w =>
 run1 Tryz.prog Z (binOp .gtr 3 t4 (.int .i64 0)) w fun t5 w =>
 guardW (t5) true (fun k => k (x0) w) (fun t6 w =>
 guardW (t5) true (fun k => runX Tryz.prog Z (nilChk t6) w k) (fun t7 w =>
 guardW (t5) true (fun k => run1 Tryz.prog Z (Instr.fieldAt 39 t7 11) w k) (fun t8 w =>
 guardW (t5) true (fun k => run1 Tryz.prog Z (Instr.loadAt 30 t8) w k) (fun t9 w =>
 guardW (t5) true (fun k => run1 Tryz.prog Z (Builtin.len_ #[30] 3 #[t9]) w k) (fun t10 w =>
 guardW (t5) true (fun k => run1 Tryz.prog Z (binOp .leq 3 t10 (.int .i64 4096)) w k) (fun t11 w =>
 run1 Tryz.prog Z (pickV t5 t11 (.bool false)) w fun t12 w =>
 Q t12 w) w) w) w) w) w) w
def f114.an : An := (.sq .leaf (.sq .leaf .leaf))
theorem f114.calls {Z : List PanicEntry → World → Prop} {x0 : Value} {w : World} {Q : Value → World → Prop} (h : f114.sh Z x0 w Q) : CallV Tryz.prog Z 114 #[x0] w Q :=
 cl Tryz.func114 f114.an [x0] (by kernel_rfl) (by kernel_rfl) h

def f115.sh (Z : List PanicEntry → World → Prop) (x0 x1 : Value) (w : World) (Q : Value → World → Prop) : Prop :=
 runX Tryz.prog Z (nilChk x1) w fun t1 w =>
 run1 Tryz.prog Z (Instr.fieldAt 39 t1 12) w fun t2 w =>
 run1 Tryz.prog Z (Instr.loadAt 2 t2) w fun t3 w =>
 CallV Tryz.prog Z 116 #[x0, t3] w fun t4 w =>
 Q (Value.tuple #[]) w
def f115.an : An := .leaf
theorem f115.calls {Z : List PanicEntry → World → Prop} {x0 x1 : Value} {w : World} {Q : Value → World → Prop} (h : f115.sh Z x0 x1 w Q) : CallV Tryz.prog Z 115 #[x0, x1] w Q :=
 cl Tryz.func115 f115.an [x0, x1] (by kernel_rfl) (by kernel_rfl) h

def f116.sh (Z : List PanicEntry → World → Prop) (x0 x1 : Value) (w : World) (Q : Value → World → Prop) : Prop :=
 run1 Tryz.prog Z (convert 2 147 x1) w fun t1 w =>
 CallV Tryz.prog Z 83 #[x0, t1, (.int .i64 8)] w fun t2 w =>
 Q (Value.tuple #[]) w
def f116.an : An := .leaf
theorem f116.calls {Z : List PanicEntry → World → Prop} {x0 x1 : Value} {w : World} {Q : Value → World → Prop} (h : f116.sh Z x0 x1 w Q) : CallV Tryz.prog Z 116 #[x0, x1] w Q :=
 cl Tryz.func116 f116.an [x0, x1] (by kernel_rfl) (by kernel_rfl) h

def f117.sh (Z : List PanicEntry → World → Prop) (x0 x1 : Value) (w : World) (Q : Value → World → Prop) : Prop :=
 CallV Tryz.prog Z 118 #[x0] w fun t1 w =>
 runX Tryz.prog Z (nilChk x1) w fun t2 w =>
 run1 Tryz.prog Z (Instr.fieldAt 39 t2 12) w fun t3 w =>
 run0 Tryz.prog Z (Instr.storeAt 2 t3 t1) w fun w =>
 Q (Value.tuple #[]) w
def f117.an : An := .leaf
theorem f117.calls {Z : List PanicEntry → World → Prop} {x0 x1 : Value} {w : World} {Q : Value → World → Prop} (h : f117.sh Z x0 x1 w Q) : CallV Tryz.prog Z 117 #[x0, x1] w Q :=
 cl Tryz.func117 f117.an [x0, x1] (by kernel_rfl) (by kernel_rfl) h

def f118.sh (Z : List PanicEntry → World → Prop) (x0 : Value) (w : World) (Q : Value → World → Prop) : Prop :=
 CallV Tryz.prog Z 169 #[x0, (.int .i64 8)] w fun t1 w =>
 run1 Tryz.prog Z (convert 147 2 t1) w fun t2 w =>
 Q t2 w
def f118.an : An := (.sq .leaf (.sq .leaf .leaf))
theorem f118.calls {Z : List PanicEntry → World → Prop} {x0 : Value} {w : World} {Q : Value → World → Prop} (h : f118.sh Z x0 w Q) : CallV Tryz.prog Z 118 #[x0] w Q :=
 cl Tryz.func118 f118.an [x0] (by kernel_rfl) (by kernel_rfl) h

def f119.sh (Z : List PanicEntry → World → Prop) (x0 : Value) (w : World) (Q : Value → World → Prop) : Prop :=
 runX Tryz.prog Z (nilChk x0) w fun t1 w =>
 run1 Tryz.prog Z (Instr.fieldAt 39 t1 12) w fun t2 w =>
 run1 Tryz.prog Z (Instr.loadAt 2 t2) w fun t3 w =>
 run1 Tryz.prog Z (binOp .gtr 2 t3 (.int .i64 0)) w fun t4 w =>
 Q t4 w
def f119.an : An := (.sq .leaf (.sq .leaf .leaf))
theorem f119.calls {Z : List PanicEntry → World → Prop} {x0 : Value} {w : World} {Q : Value → World → Prop} (h : f119.sh Z x0 w Q) : CallV Tryz.prog Z 119 #[x0] w Q :=
 cl Tryz.func119 f119.an [x0] (by kernel_rfl) (by kernel_rfl) h

def f120.sh (Z : List PanicEntry → World → Prop) (x0 x1 : Value) (w : World) (Q : Value → World → Prop) : Prop :=
 run1 Tryz.prog Z (Instr.box 37 x0) w fun t1 w =>
 run1 Tryz.prog Z (Instr.box 37 x1) w fun t2 w =>
 run1 Tryz.prog Z (Instr.fieldAt 37 t1 0) w fun t3 w =>
 run1 Tryz.prog Z (Instr.loadAt 27 t3) w fun t4 w =>
 run1 Tryz.prog Z (Instr.fieldAt 37 t2 0) w fun t5 w =>
 run1 Tryz.prog Z (Instr.loadAt 27 t5) w fun t6 w =>
 run1 Tryz.prog Z (eqOp .eql 27 false false t4 t6) w fun t7 w =>
 guardW (t7) true (fun k => run1 Tryz.prog Z (Instr.fieldAt 37 t1 1) w k) (fun t8 w =>
 guardW (t7) true (fun k => run1 Tryz.prog Z (Instr.loadAt 29 t8) w k) (fun t9 w =>
 guardW (t7) true (fun k => run1 Tryz.prog Z (Instr.fieldAt 37 t2 1) w k) (fun t10 w =>
 guardW (t7) true (fun k => run1 Tryz.prog Z (Instr.loadAt 29 t10) w k) (fun t11 w =>
 guardW (t7) true (fun k => run1 Tryz.prog Z (eqOp .eql 29 false false t9 t11) w k) (fun t12 w =>
 run1 Tryz.prog Z (pickV t7 t12 (.bool false)) w fun t13 w =>
 guardW (t13) true (fun k => run1 Tryz.prog Z (Instr.fieldAt 37 t1 2) w k) (fun t14 w =>
 guardW (t13) true (fun k => run1 Tryz.prog Z (Instr.loadAt 35 t14) w k) (fun t15 w =>
 guardW (t13) true (fun k => run1 Tryz.prog Z (Instr.fieldAt 37 t2 2) w k) (fun t16 w =>
 guardW (t13) true (fun k => run1 Tryz.prog Z (Instr.loadAt 35 t16) w k) (fun t17 w =>
 guardW (t13) true (fun k => CallV Tryz.prog Z 200 #[t15, t17] w k) (fun t18 w =>
 run1 Tryz.prog Z (pickV t13 t18 (.bool false)) w fun t19 w =>
 Q t19 w) w) w) w) w) w) w) w) w) w) w
def f120.an : An := (.sq .leaf (.sq .leaf .leaf))
theorem f120.calls {Z : List PanicEntry → World → Prop} {x0 x1 : Value} {w : World} {Q : Value → World → Prop} (h : f120.sh Z x0 x1 w Q) : CallV Tryz.prog Z 120 #[x0, x1] w Q :=
 cl Tryz.func120 f120.an [x0, x1] (by kernel_rfl) (by kernel_rfl) h

def f121.sh (Z : List PanicEntry → World → Prop) (x0 x1 x2 : Value) (w : World) (Q : Value → World → Prop) : Prop :=
 run1 Tryz.prog Z (Instr.loadAt 3 x2) w fun t1 w =>
 run1 Tryz.prog Z (binOp .and 3 t1 x0) w fun t2 w =>
 run1 Tryz.prog Z (eqOp .eql 3 false true t2 (.int .i64 0)) w fun t3 w =>
 CondV t3 (
 runX Tryz.prog Z (callVal x1 #[]) w fun t4 w =>
 Q (Value.tuple #[]) w) (
 Q (Value.tuple #[]) w)
def f121.an : An := (.sq .leaf (.cn .leaf .leaf))
theorem f121.calls {Z : List PanicEntry → World → Prop} {x0 x1 x2 : Value} {w : World} {Q : Value → World → Prop} (h : f121.sh Z x0 x1 x2 w Q) : CallV Tryz.prog Z 121 #[x0, x1, x2] w Q :=
 cl Tryz.func121 f121.an [x0, x1, x2] (by kernel_rfl) (by kernel_rfl) h

def f122.sh (Z : List PanicEntry → World → Prop) (x0 x1 : Value) (w : World) (Q : Value → World → Prop) : Prop :=
 run1 Tryz.prog Z (Instr.fieldAt 39 x0 1) w fun t1 w =>
 run1 Tryz.prog Z (Instr.loadAt 25 t1) w fun t2 w =>
 run1 Tryz.prog Z (Instr.fieldAt 157 x1 0) w fun t3 w =>
 run0 Tryz.prog Z (Instr.storeAt 25 t3 t2) w fun w =>
 Q (Value.tuple #[]) w
def f122.an : An := .leaf
theorem f122.calls {Z : List PanicEntry → World → Prop} {x0 x1 : Value} {w : World} {Q : Value → World → Prop} (h : f122.sh Z x0 x1 w Q) : CallV Tryz.prog Z 122 #[x0, x1] w Q :=
 cl Tryz.func122 f122.an [x0, x1] (by kernel_rfl) (by kernel_rfl) h

def f123.sh (Z : List PanicEntry → World → Prop) (x0 x1 : Value) (w : World) (Q : Value → World → Prop) : Prop :=
 run1 Tryz.prog Z (Instr.fieldAt 39 x0 2) w fun t1 w =>
 run1 Tryz.prog Z (Instr.loadAt 25 t1) w fun t2 w =>
 run1 Tryz.prog Z (Instr.fieldAt 157 x1 1) w fun t3 w =>
 run0 Tryz.prog Z (Instr.storeAt 25 t3 t2) w fun w =>
 Q (Value.tuple #[]) w
def f123.an : An := .leaf
theorem f123.calls {Z : List PanicEntry → World → Prop} {x0 x1 : Value} {w : World} {Q : Value → World → Prop} (h : f123.sh Z x0 x1 w Q) : CallV Tryz.prog Z 123 #[x0, x1] w Q :=
 cl Tryz.func123 f123.an [x0, x1] (by kernel_rfl) (by kernel_rfl) h

def f124.sh (Z : List PanicEntry → World → Prop) (x0 x1 : Value) (w : World) (Q : Value → World → Prop) : Prop :=
 run1 Tryz.prog Z (Instr.fieldAt 39 x0 3) w fun t1 w =>
 run1 Tryz.prog Z (Instr.loadAt 2 t1) w fun t2 w =>
 run1 Tryz.prog Z (Instr.fieldAt 157 x1 2) w fun t3 w =>
 run0 Tryz.prog Z (Instr.storeAt 2 t3 t2) w fun w =>
 Q (Value.tuple #[]) w
def f124.an : An := .leaf
theorem f124.calls {Z : List PanicEntry → World → Prop} {x0 x1 : Value} {w : World} {Q : Value → World → Prop} (h : f124.sh Z x0 x1 w Q) : CallV Tryz.prog Z 124 #[x0, x1] w Q :=
 cl Tryz.func124 f124.an [x0, x1] (by kernel_rfl) (by kernel_rfl) h

def f125.sh (Z : List PanicEntry → World → Prop) (x0 x1 : Value) (w : World) (Q : Value → World → Prop) : Prop :=
 run1 Tryz.prog Z (Instr.fieldAt 39 x0 12) w fun t1 w =>
 run1 Tryz.prog Z (Instr.loadAt 2 t1) w fun t2 w =>
 run1 Tryz.prog Z (Instr.fieldAt 157 x1 3) w fun t3 w =>
 run0 Tryz.prog Z (Instr.storeAt 2 t3 t2) w fun w =>
 Q (Value.tuple #[]) w
def f125.an : An := .leaf
theorem f125.calls {Z : List PanicEntry → World → Prop} {x0 x1 : Value} {w : World} {Q : Value → World → Prop} (h : f125.sh Z x0 x1 w Q) : CallV Tryz.prog Z 125 #[x0, x1] w Q :=
 cl Tryz.func125 f125.an [x0, x1] (by kernel_rfl) (by kernel_rfl) h

def f126.sh (Z : List PanicEntry → World → Prop) (x0 x1 : Value) (w : World) (Q : Value → World → Prop) : Prop :=
 run1 Tryz.prog Z (Instr.fieldAt 39 x0 4) w fun t1 w =>
 run1 Tryz.prog Z (Instr.loadAt 23 t1) w fun t2 w =>
 run1 Tryz.prog Z (Instr.fieldAt 157 x1 4) w fun t3 w =>
 run0 Tryz.prog Z (Instr.storeAt 23 t3 t2) w fun w =>
 Q (Value.tuple #[]) w
def f126.an : An := .leaf
theorem f126.calls {Z : List PanicEntry → World → Prop} {x0 x1 : Value} {w : World} {Q : Value → World → Prop} (h : f126.sh Z x0 x1 w Q) : CallV Tryz.prog Z 126 #[x0, x1] w Q :=
 cl Tryz.func126 f126.an [x0, x1] (by kernel_rfl) (by kernel_rfl) h

def f127.sh (Z : List PanicEntry → World → Prop) (x0 x1 : Value) (w : World) (Q : Value → World → Prop) : Prop :=
 run1 Tryz.prog Z (Instr.fieldAt 39 x0 5) w fun t1 w =>
 run1 Tryz.prog Z (Instr.loadAt 23 t1) w fun t2 w =>
 run1 Tryz.prog Z (Instr.fieldAt 157 x1 5) w fun t3 w =>
 run0 Tryz.prog Z (Instr.storeAt 23 t3 t2) w fun w =>
 Q (Value.tuple #[]) w
def f127.an : An := .leaf
theorem f127.calls {Z : List PanicEntry → World → Prop} {x0 x1 : Value} {w : World} {Q : Value → World → Prop} (h : f127.sh Z x0 x1 w Q) : CallV Tryz.prog Z 127 #[x0, x1] w Q :=
 cl Tryz.func127 f127.an [x0, x1] (by kernel_rfl) (by kernel_rfl) h

def f128.sh (Z : List PanicEntry → World → Prop) (x0 x1 : Value) (w : World) (Q : Value → World → Prop) : Prop :=
 run1 Tryz.prog Z (Instr.fieldAt 39 x0 6) w fun t1 w =>
 run1 Tryz.prog Z (Instr.loadAt 27 t1) w fun t2 w =>
 run1 Tryz.prog Z (Instr.fieldAt 157 x1 6) w fun t3 w =>
 run0 Tryz.prog Z (Instr.storeAt 27 t3 t2) w fun w =>
 Q (Value.tuple #[]) w
def f128.an : An := .leaf
theorem f128.calls {Z : List PanicEntry → World → Prop} {x0 x1 : Value} {w : World} {Q : Value → World → Prop} (h : f128.sh Z x0 x1 w Q) : CallV Tryz.prog Z 128 #[x0, x1] w Q :=
 cl Tryz.func128 f128.an [x0, x1] (by kernel_rfl) (by kernel_rfl) h

def f129.sh (Z : List PanicEntry → World → Prop) (x0 x1 : Value) (w : World) (Q : Value → World → Prop) : Prop :=
 run1 Tryz.prog Z (Instr.fieldAt 39 x0 7) w fun t1 w =>
 run1 Tryz.prog Z (Instr.loadAt 27 t1) w fun t2 w =>
 run1 Tryz.prog Z (Instr.fieldAt 157 x1 7) w fun t3 w =>
 run0 Tryz.prog Z (Instr.storeAt 27 t3 t2) w fun w =>
 Q (Value.tuple #[]) w
def f129.an : An := .leaf
theorem f129.calls {Z : List PanicEntry → World → Prop} {x0 x1 : Value} {w : World} {Q : Value → World → Prop} (h : f129.sh Z x0 x1 w Q) : CallV Tryz.prog Z 129 #[x0, x1] w Q :=
 cl Tryz.func129 f129.an [x0, x1] (by kernel_rfl) (by kernel_rfl) h

def f130.sh (Z : List PanicEntry → World → Prop) (x0 x1 : Value) (w : World) (Q : Value → World → Prop) : Prop :=
 run1 Tryz.prog Z (Instr.fieldAt 39 x0 8) w fun t1 w =>
 run1 Tryz.prog Z (Instr.loadAt 4 t1) w fun t2 w =>
 run1 Tryz.prog Z (Instr.fieldAt 157 x1 8) w fun t3 w =>
 run0 Tryz.prog Z (Instr.storeAt 4 t3 t2) w fun w =>
 Q (Value.tuple #[]) w
def f130.an : An := .leaf
theorem f130.calls {Z : List PanicEntry → World → Prop} {x0 x1 : Value} {w : World} {Q : Value → World → Prop} (h : f130.sh Z x0 x1 w Q) : CallV Tryz.prog Z 130 #[x0, x1] w Q :=
 cl Tryz.func130 f130.an [x0, x1] (by kernel_rfl) (by kernel_rfl) h

def f131.sh (Z : List PanicEntry → World → Prop) (x0 x1 : Value) (w : World) (Q : Value → World → Prop) : Prop :=
 run1 Tryz.prog Z (Instr.fieldAt 39 x0 9) w fun t1 w =>
 run1 Tryz.prog Z (Instr.loadAt 4 t1) w fun t2 w =>
 run1 Tryz.prog Z (Instr.fieldAt 157 x1 9) w fun t3 w =>
 run0 Tryz.prog Z (Instr.storeAt 4 t3 t2) w fun w =>
 Q (Value.tuple #[]) w
def f131.an : An := .leaf
theorem f131.calls {Z : List PanicEntry → World → Prop} {x0 x1 : Value} {w : World} {Q : Value → World → Prop} (h : f131.sh Z x0 x1 w Q) : CallV Tryz.prog Z 131 #[x0, x1] w Q :=
 cl Tryz.func131 f131.an [x0, x1] (by kernel_rfl) (by kernel_rfl) h

def f132.sh (Z : List PanicEntry → World → Prop) (x0 x1 : Value) (w : World) (Q : Value → World → Prop) : Prop :=
 run1 Tryz.prog Z (Instr.box 35 x0) w fun t1 w =>
 run1 Tryz.prog Z (Instr.box 35 x1) w fun t2 w =>
 run1 Tryz.prog Z (Instr.fieldAt 35 t1 0) w fun t3 w =>
 run1 Tryz.prog Z (Instr.loadAt 22 t3) w fun t4 w =>
 run1 Tryz.prog Z (Instr.fieldAt 35 t2 0) w fun t5 w =>
 run1 Tryz.prog Z (Instr.loadAt 22 t5) w fun t6 w =>
 run1 Tryz.prog Z (eqOp .neq 22 false false t4 t6) w fun t7 w =>
 guardW (t7) false (fun k => run1 Tryz.prog Z (Instr.fieldAt 35 t1 1) w k) (fun t8 w =>
 guardW (t7) false (fun k => run1 Tryz.prog Z (Instr.loadAt 9 t8) w k) (fun t9 w =>
 guardW (t7) false (fun k => run1 Tryz.prog Z (Instr.fieldAt 35 t2 1) w k) (fun t10 w =>
 guardW (t7) false (fun k => run1 Tryz.prog Z (Instr.loadAt 9 t10) w k) (fun t11 w =>
 guardW (t7) false (fun k => run1 Tryz.prog Z (eqOp .neq 9 false false t9 t11) w k) (fun t12 w =>
 run1 Tryz.prog Z (pickV t7 (.bool true) t12) w fun t13 w =>
 guardW (t13) false (fun k => run1 Tryz.prog Z (Instr.fieldAt 35 t1 4) w k) (fun t14 w =>
 guardW (t13) false (fun k => run1 Tryz.prog Z (Instr.loadAt 21 t14) w k) (fun t15 w =>
 guardW (t13) false (fun k => run1 Tryz.prog Z (Instr.fieldAt 35 t2 4) w k) (fun t16 w =>
 guardW (t13) false (fun k => run1 Tryz.prog Z (Instr.loadAt 21 t16) w k) (fun t17 w =>
 guardW (t13) false (fun k => run1 Tryz.prog Z (eqOp .neq 21 false false t15 t17) w k) (fun t18 w =>
 run1 Tryz.prog Z (pickV t13 (.bool true) t18) w fun t19 w =>
 guardW (t19) false (fun k => run1 Tryz.prog Z (Instr.fieldAt 35 t1 5) w k) (fun t20 w =>
 guardW (t19) false (fun k => run1 Tryz.prog Z (Instr.loadAt 4 t20) w k) (fun t21 w =>
 guardW (t19) false (fun k => run1 Tryz.prog Z (Instr.fieldAt 35 t2 5) w k) (fun t22 w =>
 guardW (t19) false (fun k => run1 Tryz.prog Z (Instr.loadAt 4 t22) w k) (fun t23 w =>
 guardW (t19) false (fun k => run1 Tryz.prog Z (eqOp .neq 4 false false t21 t23) w k) (fun t24 w =>
 run1 Tryz.prog Z (pickV t19 (.bool true) t24) w fun t25 w =>
 guardW (t25) false (fun k => run1 Tryz.prog Z (Instr.fieldAt 35 t1 6) w k) (fun t26 w =>
 guardW (t25) false (fun k => run1 Tryz.prog Z (Instr.loadAt 4 t26) w k) (fun t27 w =>
 guardW (t25) false (fun k => run1 Tryz.prog Z (Instr.fieldAt 35 t2 6) w k) (fun t28 w =>
 guardW (t25) false (fun k => run1 Tryz.prog Z (Instr.loadAt 4 t28) w k) (fun t29 w =>
 guardW (t25) false (fun k => run1 Tryz.prog Z (eqOp .neq 4 false false t27 t29) w k) (fun t30 w =>
 run1 Tryz.prog Z (pickV t25 (.bool true) t30) w fun t31 w =>
 guardW (t31) false (fun k => run1 Tryz.prog Z (Instr.fieldAt 35 t1 7) w k) (fun t32 w =>
 guardW (t31) false (fun k => run1 Tryz.prog Z (Instr.loadAt 2 t32) w k) (fun t33 w =>
 guardW (t31) false (fun k => run1 Tryz.prog Z (Instr.fieldAt 35 t2 7) w k) (fun t34 w =>
 guardW (t31) false (fun k => run1 Tryz.prog Z (Instr.loadAt 2 t34) w k) (fun t35 w =>
 guardW (t31) false (fun k => run1 Tryz.prog Z (eqOp .neq 2 false false t33 t35) w k) (fun t36 w =>
 run1 Tryz.prog Z (pickV t31 (.bool true) t36) w fun t37 w =>
 guardW (t37) false (fun k => run1 Tryz.prog Z (Instr.fieldAt 35 t1 8) w k) (fun t38 w =>
 guardW (t37) false (fun k => run1 Tryz.prog Z (Instr.loadAt 21 t38) w k) (fun t39 w =>
 guardW (t37) false (fun k => run1 Tryz.prog Z (Instr.fieldAt 35 t2 8) w k) (fun t40 w =>
 guardW (t37) false (fun k => run1 Tryz.prog Z (Instr.loadAt 21 t40) w k) (fun t41 w =>
 guardW (t37) false (fun k => run1 Tryz.prog Z (eqOp .neq 21 false false t39 t41) w k) (fun t42 w =>
 run1 Tryz.prog Z (pickV t37 (.bool true) t42) w fun t43 w =>
 CondV t43 (
 Q (.bool false) w) (
 run1 Tryz.prog Z (Instr.fieldAt 35 t1 2) w fun t44 w =>
 run1 Tryz.prog Z (Instr.loadAt 30 t44) w fun t45 w =>
 run1 Tryz.prog Z (Instr.fieldAt 35 t2 2) w fun t46 w =>
 run1 Tryz.prog Z (Instr.loadAt 30 t46) w fun t47 w =>
 CallV Tryz.prog Z 14 #[t45, t47] w fun t48 w =>
 run1 Tryz.prog Z (Op.unary .not t48) w fun t49 w =>
 guardW (t49) false (fun k => run1 Tryz.prog Z (Instr.fieldAt 35 t1 3) w k) (fun t50 w =>
 guardW (t49) false (fun k => run1 Tryz.prog Z (Instr.loadAt 31 t50) w k) (fun t51 w =>
 guardW (t49) false (fun k => run1 Tryz.prog Z (Instr.fieldAt 35 t2 3) w k) (fun t52 w =>
 guardW (t49) false (fun k => run1 Tryz.prog Z (Instr.loadAt 31 t52) w k) (fun t53 w =>
 guardW (t49) false (fun k => CallV Tryz.prog Z 201 #[t51, t53] w k) (fun t54 w =>
 guardW (t49) false (fun k => run1 Tryz.prog Z (Op.unary .not t54) w k) (fun t55 w =>
 run1 Tryz.prog Z (pickV t49 (.bool true) t55) w fun t56 w =>
 guardW (t56) false (fun k => run1 Tryz.prog Z (Instr.fieldAt 35 t1 9) w k) (fun t57 w =>
 guardW (t56) false (fun k => run1 Tryz.prog Z (Instr.loadAt 32 t57) w k) (fun t58 w =>
 guardW (t56) false (fun k => run1 Tryz.prog Z (Instr.fieldAt 35 t2 9) w k) (fun t59 w =>
 guardW (t56) false (fun k => run1 Tryz.prog Z (Instr.loadAt 32 t59) w k) (fun t60 w =>
 guardW (t56) false (fun k => CallV Tryz.prog Z 202 #[t58, t60] w k) (fun t61 w =>
 guardW (t56) false (fun k => run1 Tryz.prog Z (Op.unary .not t61) w k) (fun t62 w =>
 run1 Tryz.prog Z (pickV t56 (.bool true) t62) w fun t63 w =>
 guardW (t63) false (fun k => run1 Tryz.prog Z (Instr.fieldAt 35 t1 10) w k) (fun t64 w =>
 guardW (t63) false (fun k => run1 Tryz.prog Z (Instr.loadAt 33 t64) w k) (fun t65 w =>
 guardW (t63) false (fun k => run1 Tryz.prog Z (Builtin.len_ #[33] 3 #[t65]) w k) (fun t66 w =>
 guardW (t63) false (fun k => run1 Tryz.prog Z (Instr.fieldAt 35 t2 10) w k) (fun t67 w =>
 guardW (t63) false (fun k => run1 Tryz.prog Z (Instr.loadAt 33 t67) w k) (fun t68 w =>
 guardW (t63) false (fun k => run1 Tryz.prog Z (Builtin.len_ #[33] 3 #[t68]) w k) (fun t69 w =>
 guardW (t63) false (fun k => run1 Tryz.prog Z (eqOp .neq 3 false false t66 t69) w k) (fun t70 w =>
 run1 Tryz.prog Z (pickV t63 (.bool true) t70) w fun t71 w =>
 CondV t71 (
 Q (.bool false) w) (
 ∃ J_72 : Nat → Value → World → Prop, (∃ m, J_72 m (.int .i64 0) w) ∧
 ∀ m_72, ∀ t73 : Value, ∀ w : World, J_72 m_72 t73 w → Env →
 run1 Tryz.prog Z (Instr.fieldAt 35 t1 10) w fun t74 w =>
 run1 Tryz.prog Z (Instr.loadAt 33 t74) w fun t75 w =>
 run1 Tryz.prog Z (Builtin.len_ #[33] 3 #[t75]) w fun t76 w =>
 run1 Tryz.prog Z (binOp .lss 3 t73 t76) w fun t77 w =>
 CondV t77 (
 Drawn w fun w =>
 Pure1 Tryz.prog (Instr.fieldAt 35 t1 10) fun t78 =>
 Read1 Tryz.prog (Instr.loadAt 33 t78) w fun t79 =>
 Pure1 Tryz.prog (Instr.indexAt 33 t79 t73) fun t80 =>
 Read1 Tryz.prog (Instr.loadAt 35 t80) w fun t81 =>
 Pure1 Tryz.prog (Instr.fieldAt 35 t2 10) fun t82 =>
 Read1 Tryz.prog (Instr.loadAt 33 t82) w fun t83 =>
 Pure1 Tryz.prog (Instr.indexAt 33 t83 t73) fun t84 =>
 Read1 Tryz.prog (Instr.loadAt 35 t84) w fun t85 =>
 CallV Tryz.prog Z 132 #[t81, t85] w fun t86 w =>
 Still Tryz.prog (nx (Instr.loadAt 33 t82)) t83 w <|
 Still Tryz.prog (nx (Instr.loadAt 33 t78)) t79 w <|
 Pure1 Tryz.prog (Op.unary .not t86) fun t87 =>
 CondV t87 (
 Q (.bool false) w) (
 run1 Tryz.prog Z (binOp .add 3 t73 (.int .i64 1)) w fun t88 w =>
 ∃ n_72, n_72 < m_72 ∧ J_72 n_72 t88 w)) (
 Q (.bool true) w))) w) w) w) w) w) w) w) w) w) w) w) w) w) w) w) w) w) w) w)) w) w) w) w) w) w) w) w) w) w) w) w) w) w) w) w) w) w) w) w) w) w) w) w) w) w) w) w) w) w
def f132.an : An := (.sq .leaf (.sq (.sq .leaf (.cn (.sq .leaf .leaf) .leaf)) (.sq (.sq .leaf (.cn (.sq .leaf .leaf) .leaf)) (.sq (.sq .leaf (.bl (.lp [5] (.sq (.sq .leaf (.cn .leaf .leaf)) (.sq (.bl (.sq (.dr (pl [0, 5, 8, 12, 17, 20, 25, 28, 32, 37, 42, 44] .fin)) (.cn (.sq .leaf .leaf) .leaf))) .leaf))))) (.sq .leaf .leaf)))))
theorem f132.calls {Z : List PanicEntry → World → Prop} {x0 x1 : Value} {w : World} {Q : Value → World → Prop} (h : f132.sh Z x0 x1 w Q) : CallV Tryz.prog Z 132 #[x0, x1] w Q :=
 cl Tryz.func132 f132.an [x0, x1] (by kernel_rfl) (by kernel_rfl) h

def f133.sh (Z : List PanicEntry → World → Prop) (x0 : Value) (w : World) (Q : Value → World → Prop) : Prop :=
 run1 Tryz.prog Z (Instr.box 35 x0) w fun t1 w =>
 run1 Tryz.prog Z (Instr.loadAt 35 t1) w fun t2 w =>
 CallV Tryz.prog Z 203 #[t2] w fun t3 w =>
 run1 Tryz.prog Z (Op.unary .not t3) w fun t4 w =>
 CondV t4 (
 Q (.int .i64 40) w) (
 ∃ J_5 : Nat → Value → World → Prop, (∃ m, J_5 m (.int .i64 0) w) ∧
 ∀ m_5, ∀ t6 : Value, ∀ w : World, J_5 m_5 t6 w → Env →
 run1 Tryz.prog Z (Instr.fieldAt 35 t1 10) w fun t7 w =>
 run1 Tryz.prog Z (Instr.loadAt 33 t7) w fun t8 w =>
 run1 Tryz.prog Z (Builtin.len_ #[33] 3 #[t8]) w fun t9 w =>
 run1 Tryz.prog Z (binOp .lss 3 t6 t9) w fun t10 w =>
 CondV t10 (
 run1 Tryz.prog Z (Instr.fieldAt 35 t1 10) w fun t11 w =>
 run1 Tryz.prog Z (Instr.loadAt 33 t11) w fun t12 w =>
 run1 Tryz.prog Z (Instr.indexAt 33 t12 t6) w fun t13 w =>
 run1 Tryz.prog Z (Instr.loadAt 35 t13) w fun t14 w =>
 run1 Tryz.prog Z (Instr.alloc 35 true (.tuple #[])) w fun t15 w =>
 run0 Tryz.prog Z (Instr.storeAt 35 t15 t14) w fun w =>
 run1 Tryz.prog Z (Instr.fieldAt 35 t15 0) w fun t16 w =>
 run1 Tryz.prog Z (Instr.loadAt 22 t16) w fun t17 w =>
 run1 Tryz.prog Z (binOp .lss 22 t17 (.int .i8 1)) w fun t18 w =>
 guardW (t18) false (fun k => run1 Tryz.prog Z (Instr.fieldAt 35 t15 0) w k) (fun t19 w =>
 guardW (t18) false (fun k => run1 Tryz.prog Z (Instr.loadAt 22 t19) w k) (fun t20 w =>
 guardW (t18) false (fun k => run1 Tryz.prog Z (binOp .gtr 22 t20 (.int .i8 5)) w k) (fun t21 w =>
 run1 Tryz.prog Z (pickV t18 (.bool true) t21) w fun t22 w =>
 guardW (t22) false (fun k => run1 Tryz.prog Z (Instr.fieldAt 35 t15 7) w k) (fun t23 w =>
 guardW (t22) false (fun k => run1 Tryz.prog Z (Instr.loadAt 2 t23) w k) (fun t24 w =>
 guardW (t22) false (fun k => run1 Tryz.prog Z (eqOp .neq 2 false true t24 (.int .i64 0)) w k) (fun t25 w =>
 run1 Tryz.prog Z (pickV t22 (.bool true) t25) w fun t26 w =>
 guardW (t26) false (fun k => run1 Tryz.prog Z (Instr.fieldAt 35 t15 9) w k) (fun t27 w =>
 guardW (t26) false (fun k => run1 Tryz.prog Z (Instr.loadAt 32 t27) w k) (fun t28 w =>
 guardW (t26) false (fun k => run1 Tryz.prog Z (Builtin.len_ #[32] 3 #[t28]) w k) (fun t29 w =>
 guardW (t26) false (fun k => run1 Tryz.prog Z (eqOp .neq 3 false true t29 (.int .i64 0)) w k) (fun t30 w =>
 run1 Tryz.prog Z (pickV t26 (.bool true) t30) w fun t31 w =>
 guardW (t31) false (fun k => run1 Tryz.prog Z (Instr.loadAt 35 t15) w k) (fun t32 w =>
 guardW (t31) false (fun k => CallV Tryz.prog Z 203 #[t32] w k) (fun t33 w =>
 guardW (t31) false (fun k => run1 Tryz.prog Z (Op.unary .not t33) w k) (fun t34 w =>
 run1 Tryz.prog Z (pickV t31 (.bool true) t34) w fun t35 w =>
 CondV t35 (
 Q (.int .i64 40) w) (
 run1 Tryz.prog Z (binOp .add 3 t6 (.int .i64 1)) w fun t36 w =>
 ∃ n_5, n_5 < m_5 ∧ J_5 n_5 t36 w)) w) w) w) w) w) w) w) w) w) w) w) w) w) (
 Q (.int .i64 0) w))
def f133.an : An := (.sq .leaf (.sq (.sq .leaf (.cn (.sq .leaf .leaf) .leaf)) (.sq (.sq .leaf (.bl (.lp [3] (.sq (.sq .leaf (.cn .leaf .leaf)) (.sq (.bl (.sq .leaf (.sq .leaf (.cn (.sq .leaf .leaf) .leaf)))) .leaf))))) (.sq .leaf .leaf))))
theorem f133.calls {Z : List PanicEntry → World → Prop} {x0 : Value} {w : World} {Q : Value → World → Prop} (h : f133.sh Z x0 w Q) : CallV Tryz.prog Z 133 #[x0] w Q :=
 cl Tryz.func133 f133.an [x0] (by kernel_rfl) (by kernel_rfl) h

end Go.Proofs.YtfijkedmbaghmaaGreatDoor
