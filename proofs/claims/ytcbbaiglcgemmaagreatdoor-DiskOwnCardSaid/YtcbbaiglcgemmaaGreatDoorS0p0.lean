import Derived.Test.YtcbbaiglcgemmaaGreatDoorShBase
set_option linter.unusedVariables false
namespace Go.Proofs.YtcbbaiglcgemmaaGreatDoor
open Go.Sh
def f3.sh (Z : List PanicEntry → World → Prop) (x0 x1 : Value) (w : World) (Q : Value → World → Prop) : Prop :=
 CallV Tryz.prog Z 4 #[x1] w fun t1 w =>
 CondV t1 (
 Q (.bool true) w) (
 CallV Tryz.prog Z 5 #[x0, x1] w fun t2 w =>
 run1 Tryz.prog Z (Instr.extract t2 0) w fun t3 w =>
 run1 Tryz.prog Z (Instr.extract t2 1) w fun t4 w =>
 CallV Tryz.prog Z 6 #[x0, x1] w fun t5 w =>
 run1 Tryz.prog Z (Instr.extract t5 0) w fun t6 w =>
 run1 Tryz.prog Z (Instr.extract t5 1) w fun t7 w =>
 run1 Tryz.prog Z (eqOp .neq 25 false false t4 t7) w fun t8 w =>
 guardW (t8) false (fun k => k (t3) w) (fun t9 w =>
 guardW (t8) false (fun k => run1 Tryz.prog Z (eqOp .eql 24 false true t9 (.pointer none)) w k) (fun t10 w =>
 guardW (t8) false (fun k => k (t6) w) (fun t11 w =>
 guardW (t8) false (fun k => run1 Tryz.prog Z (eqOp .eql 28 false true t11 (.pointer none)) w k) (fun t12 w =>
 guardW (t8) false (fun k => run1 Tryz.prog Z (eqOp .neq 4 false false t10 t12) w k) (fun t13 w =>
 run1 Tryz.prog Z (pickV t8 (.bool true) t13) w fun t14 w =>
 CondV t14 (
 Q (.bool false) w) (
 run1 Tryz.prog Z (eqOp .eql 24 false true t3 (.pointer none)) w fun t15 w =>
 CondV t15 (
 CallV Tryz.prog Z 7 #[] w fun t16 w =>
 Q t16 w) (
 run1 Tryz.prog Z (Instr.build 55 #[]) w fun t17 w =>
 run1 Tryz.prog Z (Instr.box 55 t17) w fun t18 w =>
 CallV Tryz.prog Z 8 #[t6] w fun t19 w =>
 ∃ J_20 : Nat → Value → Value → World → Prop, (∃ m, J_20 m (.slice none 0 0) (.int .i64 0) w) ∧
 ∀ m_20, ∀ t21 : Value, ∀ t22 : Value, ∀ w : World, J_20 m_20 t21 t22 w → Env →
 run1 Tryz.prog Z (Builtin.len_ #[56] 3 #[t19]) w fun t23 w =>
 run1 Tryz.prog Z (binOp .lss 3 t22 t23) w fun t24 w =>
 CondV t24 (
 run1 Tryz.prog Z (Instr.indexAt 56 t19 t22) w fun t25 w =>
 run1 Tryz.prog Z (Instr.loadAt 9 t25) w fun t26 w =>
 CallV Tryz.prog Z 9 #[t3, t26] w fun t27 w =>
 run1 Tryz.prog Z (Instr.extract t27 0) w fun t28 w =>
 run1 Tryz.prog Z (Instr.extract t27 1) w fun t29 w =>
 CallV Tryz.prog Z 10 #[t18, t28] w fun t30 w =>
 run1 Tryz.prog Z (Instr.indexAt 56 t19 t22) w fun t31 w =>
 run1 Tryz.prog Z (Instr.loadAt 9 t31) w fun t32 w =>
 CallV Tryz.prog Z 9 #[t3, t32] w fun t33 w =>
 run1 Tryz.prog Z (Instr.extract t33 0) w fun t34 w =>
 run1 Tryz.prog Z (Instr.extract t33 1) w fun t35 w =>
 run1 Tryz.prog Z (Instr.buildSlice 33 1 #[(0, t34)]) w fun t36 w =>
 run1 Tryz.prog Z (Builtin.append_ #[33, 33] 33 #[t21, t36]) w fun t37 w =>
 run1 Tryz.prog Z (binOp .add 3 t22 (.int .i64 1)) w fun t38 w =>
 ∃ n_20, n_20 < m_20 ∧ J_20 n_20 t37 t38 w) (
 CallV Tryz.prog Z 12 #[t3] w fun t39 w =>
 CallV Tryz.prog Z 11 #[t18, t39] w fun t40 w =>
 CallV Tryz.prog Z 14 #[t3] w fun t41 w =>
 CallV Tryz.prog Z 13 #[t18, t41] w fun t42 w =>
 CallV Tryz.prog Z 12 #[t3] w fun t43 w =>
 CallV Tryz.prog Z 14 #[t3] w fun t44 w =>
 CallV Tryz.prog Z 15 #[t18] w fun t45 w =>
 run1 Tryz.prog Z (Op.unary .not t45) w fun t46 w =>
 CondV t46 (
 Q (.bool false) w) (
 ∃ J_47 : Nat → Value → World → Prop, (∃ m, J_47 m (.int .i64 0) w) ∧
 ∀ m_47, ∀ t48 : Value, ∀ w : World, J_47 m_47 t48 w → Env →
 run1 Tryz.prog Z (Builtin.len_ #[56] 3 #[t19]) w fun t49 w =>
 run1 Tryz.prog Z (binOp .lss 3 t48 t49) w fun t50 w =>
 CondV t50 (
 run1 Tryz.prog Z (Instr.indexAt 56 t19 t48) w fun t51 w =>
 run1 Tryz.prog Z (Instr.loadAt 9 t51) w fun t52 w =>
 CallV Tryz.prog Z 16 #[t6, t52] w fun t53 w =>
 run1 Tryz.prog Z (Instr.extract t53 0) w fun t54 w =>
 run1 Tryz.prog Z (Instr.extract t53 1) w fun t55 w =>
 run1 Tryz.prog Z (Instr.indexAt 33 t21 t48) w fun t56 w =>
 run1 Tryz.prog Z (Instr.loadAt 58 t56) w fun t57 w =>
 CallV Tryz.prog Z 17 #[t57, t54] w fun t58 w =>
 run1 Tryz.prog Z (Op.unary .not t58) w fun t59 w =>
 CondV t59 (
 Q (.bool false) w) (
 run1 Tryz.prog Z (binOp .add 3 t48 (.int .i64 1)) w fun t60 w =>
 ∃ n_47, n_47 < m_47 ∧ J_47 n_47 t60 w)) (
 CallV Tryz.prog Z 18 #[t43, t19] w fun t61 w =>
 guardW (t61) true (fun k => k (t44) w) (fun t62 w =>
 guardW (t61) true (fun k => k (t6) w) (fun t63 w =>
 guardW (t61) true (fun k => CallV Tryz.prog Z 20 #[t63] w k) (fun t64 w =>
 guardW (t61) true (fun k => CallV Tryz.prog Z 19 #[t62, t64] w k) (fun t65 w =>
 run1 Tryz.prog Z (pickV t61 t65 (.bool false)) w fun t66 w =>
 guardW (t66) true (fun k => k (t3) w) (fun t67 w =>
 guardW (t66) true (fun k => k (t6) w) (fun t68 w =>
 guardW (t66) true (fun k => CallV Tryz.prog Z 21 #[t67, t68] w k) (fun t69 w =>
 run1 Tryz.prog Z (pickV t66 t69 (.bool false)) w fun t70 w =>
 Q t70 w) w) w) w) w) w) w) w)))))) w) w) w) w) w)
def f3.an : An := (.sq .leaf (.sq (.sq .leaf (.cn (.sq .leaf .leaf) .leaf)) (.sq .leaf (.sq .leaf (.sq (.sq .leaf (.cn (.sq .leaf .leaf) .leaf)) (.sq (.sq .leaf (.cn (.sq .leaf .leaf) .leaf)) (.sq .leaf (.sq .leaf (.sq .leaf (.sq (.sq .leaf (.bl (.lp [10, 12] (.sq (.sq .leaf (.cn .leaf .leaf)) (.sq (.bl (.sq .leaf (.sq .leaf (.sq .leaf .leaf)))) .leaf))))) (.sq .leaf (.sq .leaf (.sq .leaf (.sq .leaf (.sq (.sq .leaf (.cn (.sq .leaf .leaf) .leaf)) (.sq (.sq .leaf (.bl (.lp [19] (.sq (.sq .leaf (.cn .leaf .leaf)) (.sq (.bl (.sq .leaf (.sq .leaf (.cn (.sq .leaf .leaf) .leaf)))) .leaf))))) (.sq .leaf .leaf)))))))))))))))))
theorem f3.calls {Z : List PanicEntry → World → Prop} {x0 x1 : Value} {w : World} {Q : Value → World → Prop} (h : f3.sh Z x0 x1 w Q) : CallV Tryz.prog Z 3 #[x0, x1] w Q :=
 cl Tryz.func3 f3.an [x0, x1] (by kernel_rfl) (by kernel_rfl) h

def f4.sh (Z : List PanicEntry → World → Prop) (x0 : Value) (w : World) (Q : Value → World → Prop) : Prop :=
 run1 Tryz.prog Z (Builtin.len_ #[22] 3 #[x0]) w fun t1 w =>
 ∃ J_2 : Nat → Value → Value → World → Prop, (∃ m, J_2 m t1 (.int .i64 0) w) ∧
 ∀ m_2, ∀ t3 : Value, ∀ t4 : Value, ∀ w : World, J_2 m_2 t3 t4 w → Env →
 run1 Tryz.prog Z (Builtin.len_ #[22] 3 #[x0]) w fun t5 w =>
 run1 Tryz.prog Z (binOp .lss 3 t4 t5) w fun t6 w =>
 guardW (t6) true (fun k => k (t3) w) (fun t7 w =>
 guardW (t6) true (fun k => run1 Tryz.prog Z (binOp .lss 3 t7 (.int .i64 2147483647)) w k) (fun t8 w =>
 run1 Tryz.prog Z (pickV t6 t8 (.bool false)) w fun t9 w =>
 CondV t9 (
 Drawn w fun w =>
 Pure1 Tryz.prog (Instr.indexAt 22 x0 t4) fun t10 =>
 Pure1 Tryz.prog (Instr.fieldAt 71 t10 1) fun t11 =>
 Read1 Tryz.prog (Instr.loadAt 58 t11) w fun t12 =>
 Pure1 Tryz.prog (Builtin.len_ #[58] 3 #[t12]) fun t13 =>
 Pure1 Tryz.prog (binOp .add 3 t3 t13) fun t14 =>
 Pure1 Tryz.prog (Instr.indexAt 22 x0 t4) fun t15 =>
 Pure1 Tryz.prog (Instr.fieldAt 71 t15 0) fun t16 =>
 Read1 Tryz.prog (Instr.loadAt 9 t16) w fun t17 =>
 Pure1 Tryz.prog (Builtin.len_ #[9] 3 #[t17]) fun t18 =>
 Pure1 Tryz.prog (binOp .add 3 t14 t18) fun t19 =>
 run1 Tryz.prog Z (binOp .add 3 t4 (.int .i64 1)) w fun t20 w =>
 ∃ n_2, n_2 < m_2 ∧ J_2 n_2 t19 t20 w) (
 run1 Tryz.prog Z (binOp .geq 3 t3 (.int .i64 2147483647)) w fun t21 w =>
 Q t21 w)) w) w
def f4.an : An := (.sq .leaf (.sq .leaf (.sq (.sq .leaf (.bl (.lp [3, 4] (.sq (.sq .leaf (.cn .leaf .leaf)) (.sq (.bl (.dr (pl [0, 4, 8, 12, 16, 21, 24, 28, 32, 36, 40, 44, 49, 52, 56, 60] .fin))) .leaf))))) (.sq .leaf .leaf))))
theorem f4.calls {Z : List PanicEntry → World → Prop} {x0 : Value} {w : World} {Q : Value → World → Prop} (h : f4.sh Z x0 w Q) : CallV Tryz.prog Z 4 #[x0] w Q :=
 cl Tryz.func4 f4.an [x0] (by kernel_rfl) (by kernel_rfl) h

def f5.sh (Z : List PanicEntry → World → Prop) (x0 x1 : Value) (w : World) (Q : Value → World → Prop) : Prop :=
 CallV Tryz.prog Z 22 #[x0] w fun t1 w =>
 run1 Tryz.prog Z (Instr.extract t1 0) w fun t2 w =>
 run1 Tryz.prog Z (Instr.extract t1 1) w fun t3 w =>
 run1 Tryz.prog Z (eqOp .neq 25 false true t3 (.int .i64 0)) w fun t4 w =>
 CondV t4 (
 Q (Value.tuple #[(.pointer none), t3]) w) (
 run1 Tryz.prog Z (Builtin.len_ #[22] 3 #[x1]) w fun t5 w =>
 ∃ J_6 : Nat → Value → World → Prop, (∃ m, J_6 m (.int .i64 0) w) ∧
 ∀ m_6, ∀ t7 : Value, ∀ w : World, J_6 m_6 t7 w → Env →
 run1 Tryz.prog Z (binOp .lss 3 t7 t5) w fun t8 w =>
 CondV t8 (
 run1 Tryz.prog Z (Instr.indexAt 22 x1 t7) w fun t9 w =>
 run1 Tryz.prog Z (Instr.loadAt 71 t9) w fun t10 w =>
 run1 Tryz.prog Z (Instr.alloc 71 true (.tuple #[])) w fun t11 w =>
 run0 Tryz.prog Z (Instr.storeAt 71 t11 t10) w fun w =>
 Drawn w fun w =>
 PureV Tryz.prog (nilChk t2) fun t12 =>
 Pure1 Tryz.prog (Instr.fieldAt 79 t12 0) fun t13 =>
 Pure1 Tryz.prog (Instr.fieldAt 71 t11 0) fun t14 =>
 Read1 Tryz.prog (Instr.loadAt 9 t14) w fun t15 =>
 CallV Tryz.prog Z 23 #[t13, t15] w fun t16 w =>
 Pure1 Tryz.prog (Instr.extract t16 0) fun t17 =>
 Pure1 Tryz.prog (Instr.extract t16 1) fun t18 =>
 run1 Tryz.prog Z (Instr.fieldAt 71 t11 0) w fun t19 w =>
 run1 Tryz.prog Z (Instr.loadAt 9 t19) w fun t20 w =>
 CallV Tryz.prog Z 24 #[t20] w fun t21 w =>
 run1 Tryz.prog Z (Op.unary .not t21) w fun t22 w =>
 guardW (t22) false (fun k => k (t18) w) (fun t23 w =>
 run1 Tryz.prog Z (pickV t22 (.bool true) t23) w fun t24 w =>
 guardW (t24) false (fun k => k (t7) w) (fun t25 w =>
 guardW (t24) false (fun k => run1 Tryz.prog Z (binOp .geq 3 t25 (.int .i64 64)) w k) (fun t26 w =>
 run1 Tryz.prog Z (pickV t24 (.bool true) t26) w fun t27 w =>
 CondV t27 (
 Q (Value.tuple #[(.pointer none), (.int .i64 22)]) w) (
 run1 Tryz.prog Z (Instr.fieldAt 71 t11 2) w fun t28 w =>
 run1 Tryz.prog Z (Instr.loadAt 3 t28) w fun t29 w =>
 run1 Tryz.prog Z (binOp .lss 3 t29 (.int .i64 0)) w fun t30 w =>
 guardW (t30) false (fun k => run1 Tryz.prog Z (Instr.fieldAt 71 t11 2) w k) (fun t31 w =>
 guardW (t30) false (fun k => run1 Tryz.prog Z (Instr.loadAt 3 t31) w k) (fun t32 w =>
 guardW (t30) false (fun k => run1 Tryz.prog Z (Instr.fieldAt 71 t11 1) w k) (fun t33 w =>
 guardW (t30) false (fun k => run1 Tryz.prog Z (Instr.loadAt 58 t33) w k) (fun t34 w =>
 guardW (t30) false (fun k => run1 Tryz.prog Z (Builtin.len_ #[58] 3 #[t34]) w k) (fun t35 w =>
 guardW (t30) false (fun k => run1 Tryz.prog Z (binOp .gtr 3 t32 t35) w k) (fun t36 w =>
 run1 Tryz.prog Z (pickV t30 (.bool true) t36) w fun t37 w =>
 CondV t37 (
 Q (Value.tuple #[(.pointer none), (.int .i64 1)]) w) (
 Drawn w fun w =>
 PureV Tryz.prog (nilChk t2) fun t38 =>
 Pure1 Tryz.prog (Instr.fieldAt 79 t38 0) fun t39 =>
 Pure1 Tryz.prog (Instr.fieldAt 77 t39 1) fun t40 =>
 Read1 Tryz.prog (Instr.loadAt 3 t40) w fun t41 =>
 Pure1 Tryz.prog (Instr.fieldAt 71 t11 1) fun t42 =>
 Read1 Tryz.prog (Instr.loadAt 58 t42) w fun t43 =>
 Pure1 Tryz.prog (Builtin.len_ #[58] 3 #[t43]) fun t44 =>
 Pure1 Tryz.prog (binOp .add 3 t41 t44) fun t45 =>
 Pure1 Tryz.prog (binOp .gtr 3 t45 x0) fun t46 =>
 CondV t46 (
 Q (Value.tuple #[(.pointer none), (.int .i64 21)]) w) (
 Drawn w fun w =>
 PureV Tryz.prog (nilChk t2) fun t47 =>
 Pure1 Tryz.prog (Instr.fieldAt 79 t47 0) fun t48 =>
 Pure1 Tryz.prog (Instr.fieldAt 71 t11 0) fun t49 =>
 Read1 Tryz.prog (Instr.loadAt 9 t49) w fun t50 =>
 CallV Tryz.prog Z 25 #[t48, t50] w fun t51 w =>
 Drawn w fun w =>
 PureV Tryz.prog (nilChk t2) fun t52 =>
 Pure1 Tryz.prog (Instr.fieldAt 79 t52 0) fun t53 =>
 Pure1 Tryz.prog (Instr.fieldAt 77 t53 0) fun t54 =>
 Read1 Tryz.prog (Instr.loadAt 75 t54) w fun t55 =>
 Pure1 Tryz.prog (Instr.fieldAt 71 t11 1) fun t56 =>
 Read1 Tryz.prog (Instr.loadAt 58 t56) w fun t57 =>
 run1 Tryz.prog Z (Builtin.append_ #[58, 58] 58 #[(.slice none 0 0), t57]) w fun t58 w =>
 Still Tryz.prog (nx (Instr.loadAt 75 t54)) t55 w <|
 Pure1 Tryz.prog (Instr.indexAt 75 t55 t51) fun t59 =>
 Pure1 Tryz.prog (Instr.fieldAt 83 t59 1) fun t60 =>
 run0 Tryz.prog Z (Instr.storeAt 58 t60 t58) w fun w =>
 Drawn w fun w =>
 PureV Tryz.prog (nilChk t2) fun t61 =>
 Pure1 Tryz.prog (Instr.fieldAt 79 t61 0) fun t62 =>
 Pure1 Tryz.prog (Instr.fieldAt 77 t62 0) fun t63 =>
 Read1 Tryz.prog (Instr.loadAt 75 t63) w fun t64 =>
 Pure1 Tryz.prog (Instr.fieldAt 71 t11 2) fun t65 =>
 Read1 Tryz.prog (Instr.loadAt 3 t65) w fun t66 =>
 Pure1 Tryz.prog (Instr.indexAt 75 t64 t51) fun t67 =>
 Pure1 Tryz.prog (Instr.fieldAt 83 t67 2) fun t68 =>
 run0 Tryz.prog Z (Instr.storeAt 3 t68 t66) w fun w =>
 Drawn w fun w =>
 PureV Tryz.prog (nilChk t2) fun t69 =>
 Pure1 Tryz.prog (Instr.fieldAt 79 t69 0) fun t70 =>
 Pure1 Tryz.prog (Instr.fieldAt 77 t70 1) fun t71 =>
 Read1 Tryz.prog (Instr.loadAt 3 t71) w fun t72 =>
 Pure1 Tryz.prog (Instr.fieldAt 71 t11 1) fun t73 =>
 Read1 Tryz.prog (Instr.loadAt 58 t73) w fun t74 =>
 Pure1 Tryz.prog (Builtin.len_ #[58] 3 #[t74]) fun t75 =>
 Pure1 Tryz.prog (binOp .add 3 t72 t75) fun t76 =>
 PureV Tryz.prog (nilChk t2) fun t77 =>
 Pure1 Tryz.prog (Instr.fieldAt 79 t77 0) fun t78 =>
 Pure1 Tryz.prog (Instr.fieldAt 77 t78 1) fun t79 =>
 run0 Tryz.prog Z (Instr.storeAt 3 t79 t76) w fun w =>
 run1 Tryz.prog Z (binOp .add 3 t7 (.int .i64 1)) w fun t80 w =>
 ∃ n_6, n_6 < m_6 ∧ J_6 n_6 t80 w))) w) w) w) w) w) w)) w) w) w) (
 Q (Value.tuple #[t2, (.int .i64 0)]) w))
def f5.an : An := (.sq .leaf (.sq .leaf (.sq (.sq .leaf (.cn (.sq .leaf .leaf) .leaf)) (.sq (.sq .leaf (.bl (.lp [23] (.sq .leaf (.sq (.cn .leaf .leaf) (.sq (.bl (.sq .leaf (.sq (.dr (pl [0, 4, 8, 12, 17, 22, 24, 28, 32, 36, 40] .fin)) (.sq (.bl (.sq .leaf (.cn (.sq .leaf .leaf) (.sq .leaf (.cn (.sq .leaf .leaf) (.sq (.dr (pl [0, 4, 8, 12, 17, 20, 25, 28, 32, 36, 40, 44] .fin)) (.cn (.sq .leaf .leaf) .leaf))))))) (.sq (.dr (pl [0, 4, 8, 12, 17, 22, 24] .fin)) (.sq (.dr (pl [0, 4, 8, 12, 17, 20, 24, 29, 34, 36, 40, 46] .fin)) (.sq (.dr (pl [0, 4, 8, 12, 17, 20, 24, 29, 32, 36, 42] .fin)) (.dr (pl [0, 4, 8, 12, 17, 20, 25, 28, 32, 36, 40, 44, 50] .fin))))))))) .leaf)))))) (.sq .leaf .leaf)))))
theorem f5.calls {Z : List PanicEntry → World → Prop} {x0 x1 : Value} {w : World} {Q : Value → World → Prop} (h : f5.sh Z x0 x1 w Q) : CallV Tryz.prog Z 5 #[x0, x1] w Q :=
 cl Tryz.func5 f5.an [x0, x1] (by kernel_rfl) (by kernel_rfl) h

def f6.sh (Z : List PanicEntry → World → Prop) (x0 x1 : Value) (w : World) (Q : Value → World → Prop) : Prop :=
 CallV Tryz.prog Z 26 #[x0] w fun t1 w =>
 run1 Tryz.prog Z (Instr.extract t1 0) w fun t2 w =>
 run1 Tryz.prog Z (Instr.extract t1 1) w fun t3 w =>
 run1 Tryz.prog Z (eqOp .neq 25 false true t3 (.int .i64 0)) w fun t4 w =>
 CondV t4 (
 Q (Value.tuple #[(.pointer none), t3]) w) (
 ∃ J_5 : Nat → Value → World → Prop, (∃ m, J_5 m (.int .i64 0) w) ∧
 ∀ m_5, ∀ t6 : Value, ∀ w : World, J_5 m_5 t6 w → Env →
 run1 Tryz.prog Z (Builtin.len_ #[22] 3 #[x1]) w fun t7 w =>
 run1 Tryz.prog Z (binOp .lss 3 t6 t7) w fun t8 w =>
 CondV t8 (
 run1 Tryz.prog Z (Instr.indexAt 22 x1 t6) w fun t9 w =>
 run1 Tryz.prog Z (Instr.loadAt 71 t9) w fun t10 w =>
 run1 Tryz.prog Z (Instr.alloc 71 true (.tuple #[])) w fun t11 w =>
 run0 Tryz.prog Z (Instr.storeAt 71 t11 t10) w fun w =>
 run1 Tryz.prog Z (Instr.fieldAt 71 t11 0) w fun t12 w =>
 run1 Tryz.prog Z (Instr.loadAt 9 t12) w fun t13 w =>
 CallV Tryz.prog Z 27 #[t13] w fun t14 w =>
 run1 Tryz.prog Z (Op.unary .not t14) w fun t15 w =>
 guardW (t15) false (fun k => k (t2) w) (fun t16 w =>
 guardW (t15) false (fun k => run1 Tryz.prog Z (Instr.fieldAt 71 t11 0) w k) (fun t17 w =>
 guardW (t15) false (fun k => run1 Tryz.prog Z (Instr.loadAt 9 t17) w k) (fun t18 w =>
 guardW (t15) false (fun k => CallV Tryz.prog Z 28 #[t16, t18] w k) (fun t19 w =>
 guardW (t15) false (fun k => run1 Tryz.prog Z (binOp .geq 3 t19 (.int .i64 0)) w k) (fun t20 w =>
 run1 Tryz.prog Z (pickV t15 (.bool true) t20) w fun t21 w =>
 guardW (t21) false (fun k => k (t6) w) (fun t22 w =>
 guardW (t21) false (fun k => run1 Tryz.prog Z (binOp .geq 3 t22 (.int .i64 64)) w k) (fun t23 w =>
 run1 Tryz.prog Z (pickV t21 (.bool true) t23) w fun t24 w =>
 CondV t24 (
 Q (Value.tuple #[(.pointer none), (.int .i64 22)]) w) (
 run1 Tryz.prog Z (Instr.fieldAt 71 t11 2) w fun t25 w =>
 run1 Tryz.prog Z (Instr.loadAt 3 t25) w fun t26 w =>
 run1 Tryz.prog Z (binOp .lss 3 t26 (.int .i64 0)) w fun t27 w =>
 guardW (t27) false (fun k => run1 Tryz.prog Z (Instr.fieldAt 71 t11 2) w k) (fun t28 w =>
 guardW (t27) false (fun k => run1 Tryz.prog Z (Instr.loadAt 3 t28) w k) (fun t29 w =>
 guardW (t27) false (fun k => run1 Tryz.prog Z (Instr.fieldAt 71 t11 1) w k) (fun t30 w =>
 guardW (t27) false (fun k => run1 Tryz.prog Z (Instr.loadAt 58 t30) w k) (fun t31 w =>
 guardW (t27) false (fun k => run1 Tryz.prog Z (Builtin.len_ #[58] 3 #[t31]) w k) (fun t32 w =>
 guardW (t27) false (fun k => run1 Tryz.prog Z (binOp .gtr 3 t29 t32) w k) (fun t33 w =>
 run1 Tryz.prog Z (pickV t27 (.bool true) t33) w fun t34 w =>
 CondV t34 (
 Q (Value.tuple #[(.pointer none), (.int .i64 1)]) w) (
 Drawn w fun w =>
 PureV Tryz.prog (nilChk t2) fun t35 =>
 Pure1 Tryz.prog (Instr.fieldAt 87 t35 1) fun t36 =>
 Read1 Tryz.prog (Instr.loadAt 22 t36) w fun t37 =>
 Pure1 Tryz.prog (Instr.fieldAt 71 t11 1) fun t38 =>
 Read1 Tryz.prog (Instr.loadAt 58 t38) w fun t39 =>
 Pure1 Tryz.prog (Builtin.len_ #[58] 3 #[t39]) fun t40 =>
 CallV Tryz.prog Z 29 #[t37] w fun t41 w =>
 Still Tryz.prog (nx (Instr.loadAt 58 t38)) t39 w <|
 Pure1 Tryz.prog (binOp .add 3 t41 t40) fun t42 =>
 Pure1 Tryz.prog (binOp .gtr 3 t42 x0) fun t43 =>
 CondV t43 (
 Q (Value.tuple #[(.pointer none), (.int .i64 21)]) w) (
 Drawn w fun w =>
 PureV Tryz.prog (nilChk t2) fun t44 =>
 Pure1 Tryz.prog (Instr.fieldAt 87 t44 1) fun t45 =>
 Read1 Tryz.prog (Instr.loadAt 22 t45) w fun t46 =>
 Pure1 Tryz.prog (Instr.fieldAt 71 t11 0) fun t47 =>
 Read1 Tryz.prog (Instr.loadAt 9 t47) w fun t48 =>
 Pure1 Tryz.prog (Instr.fieldAt 71 t11 1) fun t49 =>
 Read1 Tryz.prog (Instr.loadAt 58 t49) w fun t50 =>
 Pure1 Tryz.prog (Instr.fieldAt 71 t11 2) fun t51 =>
 Read1 Tryz.prog (Instr.loadAt 3 t51) w fun t52 =>
 CallV Tryz.prog Z 31 #[t50] w fun t53 w =>
 Still Tryz.prog (nx (Instr.loadAt 3 t51)) t52 w <|
 Still Tryz.prog (nx (Instr.loadAt 9 t47)) t48 w <|
 Still Tryz.prog (nx (Instr.loadAt 22 t45)) t46 w <|
 Pure1 Tryz.prog (Instr.build 71 #[(0, t48), (1, t53), (2, t52)]) fun t54 =>
 CallV Tryz.prog Z 30 #[t46, t54] w fun t55 w =>
 Still Tryz.prog (nx (Instr.loadAt 3 t51)) t52 w <|
 Still Tryz.prog (nx (Instr.loadAt 9 t47)) t48 w <|
 PureV Tryz.prog (nilChk t2) fun t56 =>
 Pure1 Tryz.prog (Instr.fieldAt 87 t56 1) fun t57 =>
 run0 Tryz.prog Z (Instr.storeAt 22 t57 t55) w fun w =>
 run1 Tryz.prog Z (binOp .add 3 t6 (.int .i64 1)) w fun t58 w =>
 ∃ n_5, n_5 < m_5 ∧ J_5 n_5 t58 w))) w) w) w) w) w) w)) w) w) w) w) w) w) w) (
 Q (Value.tuple #[t2, (.int .i64 0)]) w))
def f6.an : An := (.sq .leaf (.sq .leaf (.sq (.sq .leaf (.cn (.sq .leaf .leaf) .leaf)) (.sq (.sq .leaf (.bl (.lp [8] (.sq (.sq .leaf (.cn .leaf .leaf)) (.sq (.bl (.sq .leaf (.sq (.sq .leaf (.cn (.sq .leaf .leaf) .leaf)) (.sq (.sq .leaf (.cn (.sq .leaf .leaf) .leaf)) (.sq (.sq (.dr (pl [0, 4, 8, 13, 20, 25, 28, 36, 18, 32, 40] .fin)) (.cn (.sq .leaf .leaf) .leaf)) (.dr (pl [0, 4, 8, 12, 17, 20, 25, 28, 33, 40, 45, 38, 48, 54, 56, 60, 66] .fin))))))) .leaf))))) (.sq .leaf .leaf)))))
theorem f6.calls {Z : List PanicEntry → World → Prop} {x0 x1 : Value} {w : World} {Q : Value → World → Prop} (h : f6.sh Z x0 x1 w Q) : CallV Tryz.prog Z 6 #[x0, x1] w Q :=
 cl Tryz.func6 f6.an [x0, x1] (by kernel_rfl) (by kernel_rfl) h

def f7.sh (Z : List PanicEntry → World → Prop) (w : World) (Q : Value → World → Prop) : Prop :=
 CallV Tryz.prog Z 22 #[(.int .i64 10)] w fun t1 w =>
 run1 Tryz.prog Z (Instr.extract t1 0) w fun t2 w =>
 run1 Tryz.prog Z (Instr.extract t1 1) w fun t3 w =>
 run1 Tryz.prog Z (eqOp .neq 25 false true t3 (.int .i64 0)) w fun t4 w =>
 guardW (t4) false (fun k => k (t2) w) (fun t5 w =>
 guardW (t4) false (fun k => run1 Tryz.prog Z (eqOp .eql 24 false true t5 (.pointer none)) w k) (fun t6 w =>
 run1 Tryz.prog Z (pickV t4 (.bool true) t6) w fun t7 w =>
 CondV t7 (
 Q (.bool false) w) (
 run1 Tryz.prog Z (Instr.buildSlice 58 3 #[(0, (.int .u8 97)), (1, (.int .u8 98)), (2, (.int .u8 99))]) w fun t8 w =>
 run1 Tryz.prog Z (convert 58 58 t8) w fun t9 w =>
 CallV Tryz.prog Z 32 #[t2, (.string { data := #[97] }), t9] w fun t10 w =>
 CallV Tryz.prog Z 33 #[t2, (.string { data := #[97] })] w fun t11 w =>
 run1 Tryz.prog Z (Instr.buildSlice 58 1 #[(0, (.int .u8 100))]) w fun t12 w =>
 run1 Tryz.prog Z (convert 58 58 t12) w fun t13 w =>
 CallV Tryz.prog Z 32 #[t2, (.string { data := #[97] }), t13] w fun t14 w =>
 CallV Tryz.prog Z 34 #[t2] w fun t15 w =>
 CallV Tryz.prog Z 35 #[t2, (.slice none 0 0)] w fun t16 w =>
 CallV Tryz.prog Z 9 #[t2, (.string { data := #[97] })] w fun t17 w =>
 run1 Tryz.prog Z (Instr.extract t17 0) w fun t18 w =>
 run1 Tryz.prog Z (Instr.extract t17 1) w fun t19 w =>
 run1 Tryz.prog Z (eqOp .eql 25 false true t10 (.int .i64 0)) w fun t20 w =>
 guardW (t20) true (fun k => k (t11) w) (fun t21 w =>
 guardW (t20) true (fun k => run1 Tryz.prog Z (eqOp .eql 25 false true t21 (.int .i64 0)) w k) (fun t22 w =>
 run1 Tryz.prog Z (pickV t20 t22 (.bool false)) w fun t23 w =>
 guardW (t23) true (fun k => k (t14) w) (fun t24 w =>
 guardW (t23) true (fun k => run1 Tryz.prog Z (eqOp .eql 25 false true t24 (.int .i64 0)) w k) (fun t25 w =>
 run1 Tryz.prog Z (pickV t23 t25 (.bool false)) w fun t26 w =>
 guardW (t26) true (fun k => k (t19) w) (fun t27 w =>
 guardW (t26) true (fun k => run1 Tryz.prog Z (eqOp .eql 25 false true t27 (.int .i64 0)) w k) (fun t28 w =>
 run1 Tryz.prog Z (pickV t26 t28 (.bool false)) w fun t29 w =>
 guardW (t29) true (fun k => k (t18) w) (fun t30 w =>
 guardW (t29) true (fun k => run1 Tryz.prog Z (convert 58 9 t30) w k) (fun t31 w =>
 guardW (t29) true (fun k => run1 Tryz.prog Z (eqOp .eql 9 false true t31 (.string { data := #[97, 98, 99] })) w k) (fun t32 w =>
 run1 Tryz.prog Z (pickV t29 t32 (.bool false)) w fun t33 w =>
 Q t33 w) w) w) w) w) w) w) w) w) w)) w) w
def f7.an : An := (.sq .leaf (.sq .leaf (.sq (.sq .leaf (.cn (.sq .leaf .leaf) .leaf)) (.sq .leaf (.sq .leaf (.sq .leaf (.sq .leaf (.sq .leaf (.sq .leaf (.sq .leaf .leaf))))))))))
theorem f7.calls {Z : List PanicEntry → World → Prop} {w : World} {Q : Value → World → Prop} (h : f7.sh Z  w Q) : CallV Tryz.prog Z 7 #[] w Q :=
 cl Tryz.func7 f7.an [] (by kernel_rfl) (by kernel_rfl) h

def f8.sh (Z : List PanicEntry → World → Prop) (x0 : Value) (w : World) (Q : Value → World → Prop) : Prop :=
 ∃ J_1 : Nat → Value → Value → World → Prop, (∃ m, J_1 m (.slice none 0 0) (.int .i64 0) w) ∧
 ∀ m_1, ∀ t2 : Value, ∀ t3 : Value, ∀ w : World, J_1 m_1 t2 t3 w → Env →
 runX Tryz.prog Z (nilChk x0) w fun t4 w =>
 run1 Tryz.prog Z (Instr.fieldAt 87 t4 1) w fun t5 w =>
 run1 Tryz.prog Z (Instr.loadAt 22 t5) w fun t6 w =>
 run1 Tryz.prog Z (Builtin.len_ #[22] 3 #[t6]) w fun t7 w =>
 run1 Tryz.prog Z (binOp .lss 3 t3 t7) w fun t8 w =>
 CondV t8 (
 runX Tryz.prog Z (nilChk x0) w fun t9 w =>
 run1 Tryz.prog Z (Instr.fieldAt 87 t9 1) w fun t10 w =>
 run1 Tryz.prog Z (Instr.loadAt 22 t10) w fun t11 w =>
 run1 Tryz.prog Z (Instr.indexAt 22 t11 t3) w fun t12 w =>
 run1 Tryz.prog Z (Instr.fieldAt 71 t12 0) w fun t13 w =>
 run1 Tryz.prog Z (Instr.loadAt 9 t13) w fun t14 w =>
 run1 Tryz.prog Z (Instr.buildSlice 56 1 #[(0, t14)]) w fun t15 w =>
 run1 Tryz.prog Z (Builtin.append_ #[56, 56] 56 #[t2, t15]) w fun t16 w =>
 run1 Tryz.prog Z (binOp .add 3 t3 (.int .i64 1)) w fun t17 w =>
 ∃ n_1, n_1 < m_1 ∧ J_1 n_1 t16 t17 w) (
 Q t2 w)
def f8.an : An := (.sq .leaf (.sq .leaf (.sq (.sq .leaf (.bl (.lp [3, 4] (.sq (.sq .leaf (.cn .leaf .leaf)) (.sq (.bl .leaf) .leaf))))) (.sq .leaf .leaf))))
theorem f8.calls {Z : List PanicEntry → World → Prop} {x0 : Value} {w : World} {Q : Value → World → Prop} (h : f8.sh Z x0 w Q) : CallV Tryz.prog Z 8 #[x0] w Q :=
 cl Tryz.func8 f8.an [x0] (by kernel_rfl) (by kernel_rfl) h

def f9.sh (Z : List PanicEntry → World → Prop) (x0 x1 : Value) (w : World) (Q : Value → World → Prop) : Prop :=
 CallV Tryz.prog Z 36 #[x0, x1] w fun t1 w =>
 run1 Tryz.prog Z (Instr.extract t1 0) w fun t2 w =>
 run1 Tryz.prog Z (Instr.extract t1 1) w fun t3 w =>
 run1 Tryz.prog Z (eqOp .neq 25 false true t3 (.int .i64 0)) w fun t4 w =>
 CondV t4 (
 Q (Value.tuple #[(.slice none 0 0), t3]) w) (
 runX Tryz.prog Z (nilChk x0) w fun t5 w =>
 run1 Tryz.prog Z (Instr.fieldAt 79 t5 0) w fun t6 w =>
 run1 Tryz.prog Z (Instr.fieldAt 77 t6 0) w fun t7 w =>
 run1 Tryz.prog Z (Instr.loadAt 75 t7) w fun t8 w =>
 run1 Tryz.prog Z (Instr.indexAt 75 t8 t2) w fun t9 w =>
 run1 Tryz.prog Z (Instr.fieldAt 83 t9 1) w fun t10 w =>
 run1 Tryz.prog Z (Instr.loadAt 58 t10) w fun t11 w =>
 CallV Tryz.prog Z 37 #[t11] w fun t12 w =>
 Q (Value.tuple #[t12, (.int .i64 0)]) w)
def f9.an : An := (.sq .leaf (.sq .leaf (.sq (.sq .leaf (.cn (.sq .leaf .leaf) .leaf)) (.sq .leaf .leaf))))
theorem f9.calls {Z : List PanicEntry → World → Prop} {x0 x1 : Value} {w : World} {Q : Value → World → Prop} (h : f9.sh Z x0 x1 w Q) : CallV Tryz.prog Z 9 #[x0, x1] w Q :=
 cl Tryz.func9 f9.an [x0, x1] (by kernel_rfl) (by kernel_rfl) h

def f10.sh (Z : List PanicEntry → World → Prop) (x0 x1 : Value) (w : World) (Q : Value → World → Prop) : Prop :=
 runX Tryz.prog Z (nilChk x0) w fun t1 w =>
 run1 Tryz.prog Z (Instr.fieldAt 55 t1 0) w fun t2 w =>
 run1 Tryz.prog Z (Instr.loadAt 33 t2) w fun t3 w =>
 run1 Tryz.prog Z (Builtin.len_ #[33] 3 #[t3]) w fun t4 w =>
 run1 Tryz.prog Z (binOp .lss 3 t4 (.int .i64 600)) w fun t5 w =>
 CondV t5 (
 runX Tryz.prog Z (nilChk x0) w fun t6 w =>
 run1 Tryz.prog Z (Instr.fieldAt 55 t6 0) w fun t7 w =>
 run1 Tryz.prog Z (Instr.loadAt 33 t7) w fun t8 w =>
 run1 Tryz.prog Z (Instr.buildSlice 33 1 #[(0, x1)]) w fun t9 w =>
 run1 Tryz.prog Z (Builtin.append_ #[33, 33] 33 #[t8, t9]) w fun t10 w =>
 runX Tryz.prog Z (nilChk x0) w fun t11 w =>
 run1 Tryz.prog Z (Instr.fieldAt 55 t11 0) w fun t12 w =>
 run0 Tryz.prog Z (Instr.storeAt 33 t12 t10) w fun w =>
 Q (Value.tuple #[]) w) (
 Q (Value.tuple #[]) w)
def f10.an : An := (.sq .leaf (.cn .leaf .leaf))
theorem f10.calls {Z : List PanicEntry → World → Prop} {x0 x1 : Value} {w : World} {Q : Value → World → Prop} (h : f10.sh Z x0 x1 w Q) : CallV Tryz.prog Z 10 #[x0, x1] w Q :=
 cl Tryz.func10 f10.an [x0, x1] (by kernel_rfl) (by kernel_rfl) h

def f11.sh (Z : List PanicEntry → World → Prop) (x0 x1 : Value) (w : World) (Q : Value → World → Prop) : Prop :=
 runX Tryz.prog Z (nilChk x0) w fun t1 w =>
 run1 Tryz.prog Z (Instr.fieldAt 55 t1 2) w fun t2 w =>
 run1 Tryz.prog Z (Instr.loadAt 35 t2) w fun t3 w =>
 run1 Tryz.prog Z (Builtin.len_ #[35] 3 #[t3]) w fun t4 w =>
 run1 Tryz.prog Z (binOp .lss 3 t4 (.int .i64 600)) w fun t5 w =>
 CondV t5 (
 runX Tryz.prog Z (nilChk x0) w fun t6 w =>
 run1 Tryz.prog Z (Instr.fieldAt 55 t6 2) w fun t7 w =>
 run1 Tryz.prog Z (Instr.loadAt 35 t7) w fun t8 w =>
 run1 Tryz.prog Z (Instr.buildSlice 35 1 #[(0, x1)]) w fun t9 w =>
 run1 Tryz.prog Z (Builtin.append_ #[35, 35] 35 #[t8, t9]) w fun t10 w =>
 runX Tryz.prog Z (nilChk x0) w fun t11 w =>
 run1 Tryz.prog Z (Instr.fieldAt 55 t11 2) w fun t12 w =>
 run0 Tryz.prog Z (Instr.storeAt 35 t12 t10) w fun w =>
 Q (Value.tuple #[]) w) (
 Q (Value.tuple #[]) w)
def f11.an : An := (.sq .leaf (.cn .leaf .leaf))
theorem f11.calls {Z : List PanicEntry → World → Prop} {x0 x1 : Value} {w : World} {Q : Value → World → Prop} (h : f11.sh Z x0 x1 w Q) : CallV Tryz.prog Z 11 #[x0, x1] w Q :=
 cl Tryz.func11 f11.an [x0, x1] (by kernel_rfl) (by kernel_rfl) h

def f12.sh (Z : List PanicEntry → World → Prop) (x0 : Value) (w : World) (Q : Value → World → Prop) : Prop :=
 CallV Tryz.prog Z 38 #[x0] w fun t1 w =>
 CondV t1 (
 Q (.slice none 0 0) w) (
 runX Tryz.prog Z (nilChk x0) w fun t2 w =>
 run1 Tryz.prog Z (Instr.fieldAt 79 t2 0) w fun t3 w =>
 run1 Tryz.prog Z (Instr.fieldAt 77 t3 0) w fun t4 w =>
 run1 Tryz.prog Z (Instr.loadAt 75 t4) w fun t5 w =>
 run1 Tryz.prog Z (Builtin.len_ #[75] 3 #[t5]) w fun t6 w =>
 ∃ J_7 : Nat → Value → Value → World → Prop, (∃ m, J_7 m (.slice none 0 0) (.int .i64 0) w) ∧
 ∀ m_7, ∀ t8 : Value, ∀ t9 : Value, ∀ w : World, J_7 m_7 t8 t9 w → Env →
 run1 Tryz.prog Z (binOp .lss 3 t9 t6) w fun t10 w =>
 CondV t10 (
 run1 Tryz.prog Z (Instr.indexAt 75 t5 t9) w fun t11 w =>
 run1 Tryz.prog Z (Instr.loadAt 83 t11) w fun t12 w =>
 run1 Tryz.prog Z (Instr.alloc 83 true (.tuple #[])) w fun t13 w =>
 run0 Tryz.prog Z (Instr.storeAt 83 t13 t12) w fun w =>
 run1 Tryz.prog Z (Instr.fieldAt 83 t13 0) w fun t14 w =>
 run1 Tryz.prog Z (Instr.loadAt 9 t14) w fun t15 w =>
 run1 Tryz.prog Z (Instr.buildSlice 56 1 #[(0, t15)]) w fun t16 w =>
 run1 Tryz.prog Z (Builtin.append_ #[56, 56] 56 #[t8, t16]) w fun t17 w =>
 run1 Tryz.prog Z (binOp .add 3 t9 (.int .i64 1)) w fun t18 w =>
 ∃ n_7, n_7 < m_7 ∧ J_7 n_7 t17 t18 w) (
 Q t8 w))
def f12.an : An := (.sq .leaf (.sq (.sq .leaf (.cn (.sq .leaf .leaf) .leaf)) (.sq .leaf (.sq (.sq .leaf (.bl (.lp [3, 14] (.sq .leaf (.sq (.cn .leaf .leaf) (.sq (.bl (.sq .leaf .leaf)) .leaf)))))) (.sq .leaf .leaf)))))
theorem f12.calls {Z : List PanicEntry → World → Prop} {x0 : Value} {w : World} {Q : Value → World → Prop} (h : f12.sh Z x0 w Q) : CallV Tryz.prog Z 12 #[x0] w Q :=
 cl Tryz.func12 f12.an [x0] (by kernel_rfl) (by kernel_rfl) h

def f13.sh (Z : List PanicEntry → World → Prop) (x0 x1 : Value) (w : World) (Q : Value → World → Prop) : Prop :=
 ∀ j_1 : World → Prop, (∀ w : World, (Env →
 ∃ J_2 : Nat → Value → World → Prop, (∃ m, J_2 m (.int .i64 0) w) ∧
 ∀ m_2, ∀ t3 : Value, ∀ w : World, J_2 m_2 t3 w → Env →
 run1 Tryz.prog Z (Builtin.len_ #[22] 3 #[x1]) w fun t4 w =>
 run1 Tryz.prog Z (binOp .lss 3 t3 t4) w fun t5 w =>
 guardW (t5) true (fun k => k (t3) w) (fun t6 w =>
 guardW (t5) true (fun k => run1 Tryz.prog Z (binOp .lss 3 t6 (.int .i64 600)) w k) (fun t7 w =>
 run1 Tryz.prog Z (pickV t5 t7 (.bool false)) w fun t8 w =>
 CondV t8 (
 run1 Tryz.prog Z (Instr.indexAt 22 x1 t3) w fun t9 w =>
 run1 Tryz.prog Z (Instr.fieldAt 71 t9 1) w fun t10 w =>
 run1 Tryz.prog Z (Instr.loadAt 58 t10) w fun t11 w =>
 CallV Tryz.prog Z 10 #[x0, t11] w fun t12 w =>
 run1 Tryz.prog Z (binOp .add 3 t3 (.int .i64 1)) w fun t13 w =>
 ∃ n_2, n_2 < m_2 ∧ J_2 n_2 t13 w) (
 Q (Value.tuple #[]) w)) w) w) →
 j_1 w) →
 runX Tryz.prog Z (nilChk x0) w fun t14 w =>
 run1 Tryz.prog Z (Instr.fieldAt 55 t14 12) w fun t15 w =>
 run1 Tryz.prog Z (Instr.loadAt 45 t15) w fun t16 w =>
 run1 Tryz.prog Z (Builtin.len_ #[45] 3 #[t16]) w fun t17 w =>
 run1 Tryz.prog Z (binOp .lss 3 t17 (.int .i64 600)) w fun t18 w =>
 CondV t18 (
 runX Tryz.prog Z (nilChk x0) w fun t19 w =>
 run1 Tryz.prog Z (Instr.fieldAt 55 t19 12) w fun t20 w =>
 run1 Tryz.prog Z (Instr.loadAt 45 t20) w fun t21 w =>
 run1 Tryz.prog Z (Instr.buildSlice 45 1 #[(0, x1)]) w fun t22 w =>
 run1 Tryz.prog Z (Builtin.append_ #[45, 45] 45 #[t21, t22]) w fun t23 w =>
 runX Tryz.prog Z (nilChk x0) w fun t24 w =>
 run1 Tryz.prog Z (Instr.fieldAt 55 t24 12) w fun t25 w =>
 run0 Tryz.prog Z (Instr.storeAt 45 t25 t23) w fun w =>
 j_1 w) (
 j_1 w)
def f13.an : An := (.sj [] (.sq .leaf (.cn .leaf .leaf)) (.sq .leaf (.bl (.lp [4] (.sq (.sq .leaf (.cn .leaf .leaf)) (.sq (.bl .leaf) .leaf))))))
theorem f13.calls {Z : List PanicEntry → World → Prop} {x0 x1 : Value} {w : World} {Q : Value → World → Prop} (h : f13.sh Z x0 x1 w Q) : CallV Tryz.prog Z 13 #[x0, x1] w Q :=
 cl Tryz.func13 f13.an [x0, x1] (by kernel_rfl) (by kernel_rfl) h

def f14.sh (Z : List PanicEntry → World → Prop) (x0 : Value) (w : World) (Q : Value → World → Prop) : Prop :=
 CallV Tryz.prog Z 38 #[x0] w fun t1 w =>
 CondV t1 (
 Q (.slice none 0 0) w) (
 runX Tryz.prog Z (nilChk x0) w fun t2 w =>
 run1 Tryz.prog Z (Instr.fieldAt 79 t2 0) w fun t3 w =>
 run1 Tryz.prog Z (Instr.fieldAt 77 t3 0) w fun t4 w =>
 run1 Tryz.prog Z (Instr.loadAt 75 t4) w fun t5 w =>
 run1 Tryz.prog Z (Builtin.len_ #[75] 3 #[t5]) w fun t6 w =>
 ∃ J_7 : Nat → Value → Value → World → Prop, (∃ m, J_7 m (.slice none 0 0) (.int .i64 0) w) ∧
 ∀ m_7, ∀ t8 : Value, ∀ t9 : Value, ∀ w : World, J_7 m_7 t8 t9 w → Env →
 run1 Tryz.prog Z (binOp .lss 3 t9 t6) w fun t10 w =>
 CondV t10 (
 run1 Tryz.prog Z (Instr.indexAt 75 t5 t9) w fun t11 w =>
 run1 Tryz.prog Z (Instr.loadAt 83 t11) w fun t12 w =>
 run1 Tryz.prog Z (Instr.alloc 83 true (.tuple #[])) w fun t13 w =>
 run0 Tryz.prog Z (Instr.storeAt 83 t13 t12) w fun w =>
 Drawn w fun w =>
 Pure1 Tryz.prog (Instr.fieldAt 83 t13 0) fun t14 =>
 Read1 Tryz.prog (Instr.loadAt 9 t14) w fun t15 =>
 Pure1 Tryz.prog (Instr.fieldAt 83 t13 1) fun t16 =>
 Read1 Tryz.prog (Instr.loadAt 58 t16) w fun t17 =>
 Pure1 Tryz.prog (Instr.fieldAt 83 t13 2) fun t18 =>
 Read1 Tryz.prog (Instr.loadAt 3 t18) w fun t19 =>
 CallV Tryz.prog Z 37 #[t17] w fun t20 w =>
 Still Tryz.prog (nx (Instr.loadAt 3 t18)) t19 w <|
 Still Tryz.prog (nx (Instr.loadAt 9 t14)) t15 w <|
 Pure1 Tryz.prog (Instr.build 71 #[(0, t15), (1, t20), (2, t19)]) fun t21 =>
 run1 Tryz.prog Z (Instr.buildSlice 22 1 #[(0, t21)]) w fun t22 w =>
 Still Tryz.prog (nx (Instr.loadAt 3 t18)) t19 w <|
 Still Tryz.prog (nx (Instr.loadAt 9 t14)) t15 w <|
 run1 Tryz.prog Z (Builtin.append_ #[22, 22] 22 #[t8, t22]) w fun t23 w =>
 Still Tryz.prog (nx (Instr.loadAt 3 t18)) t19 w <|
 Still Tryz.prog (nx (Instr.loadAt 9 t14)) t15 w <|
 run1 Tryz.prog Z (binOp .add 3 t9 (.int .i64 1)) w fun t24 w =>
 ∃ n_7, n_7 < m_7 ∧ J_7 n_7 t23 t24 w) (
 Q t8 w))
def f14.an : An := (.sq .leaf (.sq (.sq .leaf (.cn (.sq .leaf .leaf) .leaf)) (.sq .leaf (.sq (.sq .leaf (.bl (.lp [3, 14] (.sq .leaf (.sq (.cn .leaf .leaf) (.sq (.bl (.sq .leaf (.dr (pl [0, 4, 9, 12, 17, 24, 29, 22, 32, 38, 42, 44] .fin)))) .leaf)))))) (.sq .leaf .leaf)))))
theorem f14.calls {Z : List PanicEntry → World → Prop} {x0 : Value} {w : World} {Q : Value → World → Prop} (h : f14.sh Z x0 w Q) : CallV Tryz.prog Z 14 #[x0] w Q :=
 cl Tryz.func14 f14.an [x0] (by kernel_rfl) (by kernel_rfl) h

def f15.sh (Z : List PanicEntry → World → Prop) (x0 : Value) (w : World) (Q : Value → World → Prop) : Prop :=
 runX Tryz.prog Z (nilChk x0) w fun t1 w =>
 run1 Tryz.prog Z (Instr.fieldAt 55 t1 0) w fun t2 w =>
 run1 Tryz.prog Z (Instr.loadAt 33 t2) w fun t3 w =>
 CallV Tryz.prog Z 39 #[t3] w fun t4 w =>
 runX Tryz.prog Z (nilChk x0) w fun t5 w =>
 run1 Tryz.prog Z (Instr.fieldAt 55 t5 1) w fun t6 w =>
 run1 Tryz.prog Z (Instr.loadAt 34 t6) w fun t7 w =>
 CallV Tryz.prog Z 40 #[t7] w fun t8 w =>
 runX Tryz.prog Z (nilChk x0) w fun t9 w =>
 run1 Tryz.prog Z (Instr.fieldAt 55 t9 2) w fun t10 w =>
 run1 Tryz.prog Z (Instr.loadAt 35 t10) w fun t11 w =>
 CallV Tryz.prog Z 41 #[t11] w fun t12 w =>
 runX Tryz.prog Z (nilChk x0) w fun t13 w =>
 run1 Tryz.prog Z (Instr.fieldAt 55 t13 3) w fun t14 w =>
 run1 Tryz.prog Z (Instr.loadAt 36 t14) w fun t15 w =>
 CallV Tryz.prog Z 42 #[t15] w fun t16 w =>
 runX Tryz.prog Z (nilChk x0) w fun t17 w =>
 run1 Tryz.prog Z (Instr.fieldAt 55 t17 4) w fun t18 w =>
 run1 Tryz.prog Z (Instr.loadAt 37 t18) w fun t19 w =>
 CallV Tryz.prog Z 43 #[t19] w fun t20 w =>
 runX Tryz.prog Z (nilChk x0) w fun t21 w =>
 run1 Tryz.prog Z (Instr.fieldAt 55 t21 5) w fun t22 w =>
 run1 Tryz.prog Z (Instr.loadAt 38 t22) w fun t23 w =>
 CallV Tryz.prog Z 44 #[t23] w fun t24 w =>
 runX Tryz.prog Z (nilChk x0) w fun t25 w =>
 run1 Tryz.prog Z (Instr.fieldAt 55 t25 6) w fun t26 w =>
 run1 Tryz.prog Z (Instr.loadAt 39 t26) w fun t27 w =>
 CallV Tryz.prog Z 45 #[t27] w fun t28 w =>
 runX Tryz.prog Z (nilChk x0) w fun t29 w =>
 run1 Tryz.prog Z (Instr.fieldAt 55 t29 7) w fun t30 w =>
 run1 Tryz.prog Z (Instr.loadAt 40 t30) w fun t31 w =>
 CallV Tryz.prog Z 46 #[t31] w fun t32 w =>
 runX Tryz.prog Z (nilChk x0) w fun t33 w =>
 run1 Tryz.prog Z (Instr.fieldAt 55 t33 8) w fun t34 w =>
 run1 Tryz.prog Z (Instr.loadAt 41 t34) w fun t35 w =>
 CallV Tryz.prog Z 47 #[t35] w fun t36 w =>
 runX Tryz.prog Z (nilChk x0) w fun t37 w =>
 run1 Tryz.prog Z (Instr.fieldAt 55 t37 9) w fun t38 w =>
 run1 Tryz.prog Z (Instr.loadAt 42 t38) w fun t39 w =>
 CallV Tryz.prog Z 48 #[t39] w fun t40 w =>
 runX Tryz.prog Z (nilChk x0) w fun t41 w =>
 run1 Tryz.prog Z (Instr.fieldAt 55 t41 10) w fun t42 w =>
 run1 Tryz.prog Z (Instr.loadAt 43 t42) w fun t43 w =>
 CallV Tryz.prog Z 49 #[t43] w fun t44 w =>
 runX Tryz.prog Z (nilChk x0) w fun t45 w =>
 run1 Tryz.prog Z (Instr.fieldAt 55 t45 11) w fun t46 w =>
 run1 Tryz.prog Z (Instr.loadAt 44 t46) w fun t47 w =>
 CallV Tryz.prog Z 50 #[t47] w fun t48 w =>
 runX Tryz.prog Z (nilChk x0) w fun t49 w =>
 run1 Tryz.prog Z (Instr.fieldAt 55 t49 12) w fun t50 w =>
 run1 Tryz.prog Z (Instr.loadAt 45 t50) w fun t51 w =>
 CallV Tryz.prog Z 51 #[t51] w fun t52 w =>
 runX Tryz.prog Z (nilChk x0) w fun t53 w =>
 run1 Tryz.prog Z (Instr.fieldAt 55 t53 13) w fun t54 w =>
 run1 Tryz.prog Z (Instr.loadAt 46 t54) w fun t55 w =>
 CallV Tryz.prog Z 52 #[t55] w fun t56 w =>
 runX Tryz.prog Z (nilChk x0) w fun t57 w =>
 run1 Tryz.prog Z (Instr.fieldAt 55 t57 14) w fun t58 w =>
 run1 Tryz.prog Z (Instr.loadAt 47 t58) w fun t59 w =>
 CallV Tryz.prog Z 53 #[t59] w fun t60 w =>
 runX Tryz.prog Z (nilChk x0) w fun t61 w =>
 run1 Tryz.prog Z (Instr.fieldAt 55 t61 15) w fun t62 w =>
 run1 Tryz.prog Z (Instr.loadAt 48 t62) w fun t63 w =>
 CallV Tryz.prog Z 54 #[t63] w fun t64 w =>
 runX Tryz.prog Z (nilChk x0) w fun t65 w =>
 run1 Tryz.prog Z (Instr.fieldAt 55 t65 16) w fun t66 w =>
 run1 Tryz.prog Z (Instr.loadAt 49 t66) w fun t67 w =>
 CallV Tryz.prog Z 55 #[t67] w fun t68 w =>
 runX Tryz.prog Z (nilChk x0) w fun t69 w =>
 run1 Tryz.prog Z (Instr.fieldAt 55 t69 17) w fun t70 w =>
 run1 Tryz.prog Z (Instr.loadAt 50 t70) w fun t71 w =>
 CallV Tryz.prog Z 56 #[t71] w fun t72 w =>
 runX Tryz.prog Z (nilChk x0) w fun t73 w =>
 run1 Tryz.prog Z (Instr.fieldAt 55 t73 18) w fun t74 w =>
 run1 Tryz.prog Z (Instr.loadAt 51 t74) w fun t75 w =>
 CallV Tryz.prog Z 57 #[t75] w fun t76 w =>
 runX Tryz.prog Z (nilChk x0) w fun t77 w =>
 run1 Tryz.prog Z (Instr.fieldAt 55 t77 19) w fun t78 w =>
 run1 Tryz.prog Z (Instr.loadAt 52 t78) w fun t79 w =>
 CallV Tryz.prog Z 58 #[t79] w fun t80 w =>
 runX Tryz.prog Z (nilChk x0) w fun t81 w =>
 run1 Tryz.prog Z (Instr.fieldAt 55 t81 20) w fun t82 w =>
 run1 Tryz.prog Z (Instr.loadAt 53 t82) w fun t83 w =>
 CallV Tryz.prog Z 59 #[t83] w fun t84 w =>
 guardW (t4) true (fun k => k (t8) w) (fun t85 w =>
 run1 Tryz.prog Z (pickV t4 t85 (.bool false)) w fun t86 w =>
 guardW (t86) true (fun k => k (t12) w) (fun t87 w =>
 run1 Tryz.prog Z (pickV t86 t87 (.bool false)) w fun t88 w =>
 guardW (t88) true (fun k => k (t16) w) (fun t89 w =>
 run1 Tryz.prog Z (pickV t88 t89 (.bool false)) w fun t90 w =>
 guardW (t90) true (fun k => k (t20) w) (fun t91 w =>
 run1 Tryz.prog Z (pickV t90 t91 (.bool false)) w fun t92 w =>
 guardW (t92) true (fun k => k (t24) w) (fun t93 w =>
 run1 Tryz.prog Z (pickV t92 t93 (.bool false)) w fun t94 w =>
 guardW (t94) true (fun k => k (t28) w) (fun t95 w =>
 run1 Tryz.prog Z (pickV t94 t95 (.bool false)) w fun t96 w =>
 guardW (t96) true (fun k => k (t32) w) (fun t97 w =>
 run1 Tryz.prog Z (pickV t96 t97 (.bool false)) w fun t98 w =>
 guardW (t98) true (fun k => k (t36) w) (fun t99 w =>
 run1 Tryz.prog Z (pickV t98 t99 (.bool false)) w fun t100 w =>
 guardW (t100) true (fun k => k (t40) w) (fun t101 w =>
 run1 Tryz.prog Z (pickV t100 t101 (.bool false)) w fun t102 w =>
 guardW (t102) true (fun k => k (t44) w) (fun t103 w =>
 run1 Tryz.prog Z (pickV t102 t103 (.bool false)) w fun t104 w =>
 guardW (t104) true (fun k => k (t48) w) (fun t105 w =>
 run1 Tryz.prog Z (pickV t104 t105 (.bool false)) w fun t106 w =>
 guardW (t106) true (fun k => k (t52) w) (fun t107 w =>
 run1 Tryz.prog Z (pickV t106 t107 (.bool false)) w fun t108 w =>
 guardW (t108) true (fun k => k (t56) w) (fun t109 w =>
 run1 Tryz.prog Z (pickV t108 t109 (.bool false)) w fun t110 w =>
 guardW (t110) true (fun k => k (t60) w) (fun t111 w =>
 run1 Tryz.prog Z (pickV t110 t111 (.bool false)) w fun t112 w =>
 guardW (t112) true (fun k => k (t64) w) (fun t113 w =>
 run1 Tryz.prog Z (pickV t112 t113 (.bool false)) w fun t114 w =>
 guardW (t114) true (fun k => k (t68) w) (fun t115 w =>
 run1 Tryz.prog Z (pickV t114 t115 (.bool false)) w fun t116 w =>
 guardW (t116) true (fun k => k (t72) w) (fun t117 w =>
 run1 Tryz.prog Z (pickV t116 t117 (.bool false)) w fun t118 w =>
 guardW (t118) true (fun k => k (t76) w) (fun t119 w =>
 run1 Tryz.prog Z (pickV t118 t119 (.bool false)) w fun t120 w =>
 guardW (t120) true (fun k => k (t80) w) (fun t121 w =>
 run1 Tryz.prog Z (pickV t120 t121 (.bool false)) w fun t122 w =>
 guardW (t122) true (fun k => k (t84) w) (fun t123 w =>
 run1 Tryz.prog Z (pickV t122 t123 (.bool false)) w fun t124 w =>
 Q t124 w) w) w) w) w) w) w) w) w) w) w) w) w) w) w) w) w) w) w) w) w
def f15.an : An := (.sq .leaf (.sq .leaf (.sq .leaf (.sq .leaf (.sq .leaf (.sq .leaf (.sq .leaf (.sq .leaf (.sq .leaf (.sq .leaf (.sq .leaf (.sq .leaf (.sq .leaf (.sq .leaf (.sq .leaf (.sq .leaf (.sq .leaf (.sq .leaf (.sq .leaf (.sq .leaf (.sq .leaf (.sq .leaf (.sq .leaf .leaf)))))))))))))))))))))))
theorem f15.calls {Z : List PanicEntry → World → Prop} {x0 : Value} {w : World} {Q : Value → World → Prop} (h : f15.sh Z x0 w Q) : CallV Tryz.prog Z 15 #[x0] w Q :=
 cl Tryz.func15 f15.an [x0] (by kernel_rfl) (by kernel_rfl) h

def f16.sh (Z : List PanicEntry → World → Prop) (x0 x1 : Value) (w : World) (Q : Value → World → Prop) : Prop :=
 CallV Tryz.prog Z 60 #[x0, x1] w fun t1 w =>
 run1 Tryz.prog Z (Instr.extract t1 0) w fun t2 w =>
 run1 Tryz.prog Z (Instr.extract t1 1) w fun t3 w =>
 run1 Tryz.prog Z (eqOp .neq 25 false true t3 (.int .i64 0)) w fun t4 w =>
 CondV t4 (
 Q (Value.tuple #[(.slice none 0 0), t3]) w) (
 runX Tryz.prog Z (nilChk x0) w fun t5 w =>
 run1 Tryz.prog Z (Instr.fieldAt 87 t5 1) w fun t6 w =>
 run1 Tryz.prog Z (Instr.loadAt 22 t6) w fun t7 w =>
 run1 Tryz.prog Z (Instr.indexAt 22 t7 t2) w fun t8 w =>
 run1 Tryz.prog Z (Instr.fieldAt 71 t8 1) w fun t9 w =>
 run1 Tryz.prog Z (Instr.loadAt 58 t9) w fun t10 w =>
 CallV Tryz.prog Z 31 #[t10] w fun t11 w =>
 Q (Value.tuple #[t11, (.int .i64 0)]) w)
def f16.an : An := (.sq .leaf (.sq .leaf (.sq (.sq .leaf (.cn (.sq .leaf .leaf) .leaf)) (.sq .leaf .leaf))))
theorem f16.calls {Z : List PanicEntry → World → Prop} {x0 x1 : Value} {w : World} {Q : Value → World → Prop} (h : f16.sh Z x0 x1 w Q) : CallV Tryz.prog Z 16 #[x0, x1] w Q :=
 cl Tryz.func16 f16.an [x0, x1] (by kernel_rfl) (by kernel_rfl) h

def f17.sh (Z : List PanicEntry → World → Prop) (x0 x1 : Value) (w : World) (Q : Value → World → Prop) : Prop :=
 run1 Tryz.prog Z (Builtin.len_ #[58] 3 #[x0]) w fun t1 w =>
 run1 Tryz.prog Z (Builtin.len_ #[58] 3 #[x1]) w fun t2 w =>
 run1 Tryz.prog Z (eqOp .neq 3 false false t1 t2) w fun t3 w =>
 CondV t3 (
 Q (.bool false) w) (
 ∃ J_4 : Nat → Value → World → Prop, (∃ m, J_4 m (.int .i64 0) w) ∧
 ∀ m_4, ∀ t5 : Value, ∀ w : World, J_4 m_4 t5 w → Env →
 run1 Tryz.prog Z (Builtin.len_ #[58] 3 #[x0]) w fun t6 w =>
 run1 Tryz.prog Z (binOp .lss 3 t5 t6) w fun t7 w =>
 CondV t7 (
 Drawn w fun w =>
 Pure1 Tryz.prog (Instr.indexAt 58 x0 t5) fun t8 =>
 Read1 Tryz.prog (Instr.loadAt 5 t8) w fun t9 =>
 Pure1 Tryz.prog (Instr.indexAt 58 x1 t5) fun t10 =>
 Read1 Tryz.prog (Instr.loadAt 5 t10) w fun t11 =>
 Pure1 Tryz.prog (eqOp .neq 5 false false t9 t11) fun t12 =>
 CondV t12 (
 Q (.bool false) w) (
 run1 Tryz.prog Z (binOp .add 3 t5 (.int .i64 1)) w fun t13 w =>
 ∃ n_4, n_4 < m_4 ∧ J_4 n_4 t13 w)) (
 Q (.bool true) w))
def f17.an : An := (.sq .leaf (.sq (.sq .leaf (.cn (.sq .leaf .leaf) .leaf)) (.sq (.sq .leaf (.bl (.lp [5] (.sq (.sq .leaf (.cn .leaf .leaf)) (.sq (.bl (.sq (.dr (pl [0, 4, 8, 13, 16, 20, 24, 29, 32] .fin)) (.cn (.sq .leaf .leaf) .leaf))) .leaf))))) (.sq .leaf .leaf))))
theorem f17.calls {Z : List PanicEntry → World → Prop} {x0 x1 : Value} {w : World} {Q : Value → World → Prop} (h : f17.sh Z x0 x1 w Q) : CallV Tryz.prog Z 17 #[x0, x1] w Q :=
 cl Tryz.func17 f17.an [x0, x1] (by kernel_rfl) (by kernel_rfl) h

def f18.sh (Z : List PanicEntry → World → Prop) (x0 x1 : Value) (w : World) (Q : Value → World → Prop) : Prop :=
 run1 Tryz.prog Z (Builtin.len_ #[56] 3 #[x0]) w fun t1 w =>
 run1 Tryz.prog Z (Builtin.len_ #[56] 3 #[x1]) w fun t2 w =>
 run1 Tryz.prog Z (eqOp .neq 3 false false t1 t2) w fun t3 w =>
 CondV t3 (
 Q (.bool false) w) (
 ∃ J_4 : Nat → Value → World → Prop, (∃ m, J_4 m (.int .i64 0) w) ∧
 ∀ m_4, ∀ t5 : Value, ∀ w : World, J_4 m_4 t5 w → Env →
 run1 Tryz.prog Z (Builtin.len_ #[56] 3 #[x0]) w fun t6 w =>
 run1 Tryz.prog Z (binOp .lss 3 t5 t6) w fun t7 w =>
 CondV t7 (
 Drawn w fun w =>
 Pure1 Tryz.prog (Instr.indexAt 56 x0 t5) fun t8 =>
 Read1 Tryz.prog (Instr.loadAt 9 t8) w fun t9 =>
 Pure1 Tryz.prog (Instr.indexAt 56 x1 t5) fun t10 =>
 Read1 Tryz.prog (Instr.loadAt 9 t10) w fun t11 =>
 Pure1 Tryz.prog (eqOp .neq 9 false false t9 t11) fun t12 =>
 CondV t12 (
 Q (.bool false) w) (
 run1 Tryz.prog Z (binOp .add 3 t5 (.int .i64 1)) w fun t13 w =>
 ∃ n_4, n_4 < m_4 ∧ J_4 n_4 t13 w)) (
 Q (.bool true) w))
def f18.an : An := (.sq .leaf (.sq (.sq .leaf (.cn (.sq .leaf .leaf) .leaf)) (.sq (.sq .leaf (.bl (.lp [5] (.sq (.sq .leaf (.cn .leaf .leaf)) (.sq (.bl (.sq (.dr (pl [0, 4, 8, 13, 16, 20, 24, 29, 32] .fin)) (.cn (.sq .leaf .leaf) .leaf))) .leaf))))) (.sq .leaf .leaf))))
theorem f18.calls {Z : List PanicEntry → World → Prop} {x0 x1 : Value} {w : World} {Q : Value → World → Prop} (h : f18.sh Z x0 x1 w Q) : CallV Tryz.prog Z 18 #[x0, x1] w Q :=
 cl Tryz.func18 f18.an [x0, x1] (by kernel_rfl) (by kernel_rfl) h

def f19.sh (Z : List PanicEntry → World → Prop) (x0 x1 : Value) (w : World) (Q : Value → World → Prop) : Prop :=
 run1 Tryz.prog Z (Builtin.len_ #[22] 3 #[x0]) w fun t1 w =>
 run1 Tryz.prog Z (Builtin.len_ #[22] 3 #[x1]) w fun t2 w =>
 run1 Tryz.prog Z (eqOp .neq 3 false false t1 t2) w fun t3 w =>
 CondV t3 (
 Q (.bool false) w) (
 ∃ J_4 : Nat → Value → World → Prop, (∃ m, J_4 m (.int .i64 0) w) ∧
 ∀ m_4, ∀ t5 : Value, ∀ w : World, J_4 m_4 t5 w → Env →
 run1 Tryz.prog Z (Builtin.len_ #[22] 3 #[x0]) w fun t6 w =>
 run1 Tryz.prog Z (binOp .lss 3 t5 t6) w fun t7 w =>
 CondV t7 (
 Drawn w fun w =>
 Pure1 Tryz.prog (Instr.indexAt 22 x0 t5) fun t8 =>
 Pure1 Tryz.prog (Instr.fieldAt 71 t8 0) fun t9 =>
 Read1 Tryz.prog (Instr.loadAt 9 t9) w fun t10 =>
 Pure1 Tryz.prog (Instr.indexAt 22 x1 t5) fun t11 =>
 Pure1 Tryz.prog (Instr.fieldAt 71 t11 0) fun t12 =>
 Read1 Tryz.prog (Instr.loadAt 9 t12) w fun t13 =>
 Pure1 Tryz.prog (eqOp .neq 9 false false t10 t13) fun t14 =>
 guardV (t14) false (fun k => k (x0)) (fun t15 =>
 guardV (t14) false (fun k => k (t5)) (fun t16 =>
 guardV (t14) false (fun k => Pure1 Tryz.prog (Instr.indexAt 22 t15 t16) k) (fun t17 =>
 guardV (t14) false (fun k => Pure1 Tryz.prog (Instr.fieldAt 71 t17 2) k) (fun t18 =>
 guardV (t14) false (fun k => Read1 Tryz.prog (Instr.loadAt 3 t18) w k) (fun t19 =>
 guardV (t14) false (fun k => k (x1)) (fun t20 =>
 guardV (t14) false (fun k => k (t5)) (fun t21 =>
 guardV (t14) false (fun k => Pure1 Tryz.prog (Instr.indexAt 22 t20 t21) k) (fun t22 =>
 guardV (t14) false (fun k => Pure1 Tryz.prog (Instr.fieldAt 71 t22 2) k) (fun t23 =>
 guardV (t14) false (fun k => Read1 Tryz.prog (Instr.loadAt 3 t23) w k) (fun t24 =>
 guardV (t14) false (fun k => Pure1 Tryz.prog (eqOp .neq 3 false false t19 t24) k) (fun t25 =>
 Pure1 Tryz.prog (pickV t14 (.bool true) t25) fun t26 =>
 guardV (t26) false (fun k => k (x0)) (fun t27 =>
 guardV (t26) false (fun k => k (t5)) (fun t28 =>
 guardV (t26) false (fun k => Pure1 Tryz.prog (Instr.indexAt 22 t27 t28) k) (fun t29 =>
 guardV (t26) false (fun k => Pure1 Tryz.prog (Instr.fieldAt 71 t29 1) k) (fun t30 =>
 guardV (t26) false (fun k => Read1 Tryz.prog (Instr.loadAt 58 t30) w k) (fun t31 =>
 guardV (t26) false (fun k => k (x1)) (fun t32 =>
 guardV (t26) false (fun k => k (t5)) (fun t33 =>
 guardV (t26) false (fun k => Pure1 Tryz.prog (Instr.indexAt 22 t32 t33) k) (fun t34 =>
 guardV (t26) false (fun k => Pure1 Tryz.prog (Instr.fieldAt 71 t34 1) k) (fun t35 =>
 guardV (t26) false (fun k => Read1 Tryz.prog (Instr.loadAt 58 t35) w k) (fun t36 =>
 guardW (t26) false (fun k => CallV Tryz.prog Z 17 #[t31, t36] w k) (fun t37 w =>
 Still Tryz.prog (gSem (t14) false (nx (Instr.loadAt 3 t23))) t24 w <|
 Still Tryz.prog (gSem (t14) false (nx (Instr.loadAt 3 t18))) t19 w <|
 Still Tryz.prog (nx (Instr.loadAt 9 t12)) t13 w <|
 Still Tryz.prog (nx (Instr.loadAt 9 t9)) t10 w <|
 guardV (t26) false (fun k => Pure1 Tryz.prog (Op.unary .not t37) k) (fun t38 =>
 Pure1 Tryz.prog (pickV t26 (.bool true) t38) fun t39 =>
 CondV t39 (
 Q (.bool false) w) (
 run1 Tryz.prog Z (binOp .add 3 t5 (.int .i64 1)) w fun t40 w =>
 ∃ n_4, n_4 < m_4 ∧ J_4 n_4 t40 w))) w)))))))))))))))))))))) (
 Q (.bool true) w))
def f19.an : An := (.sq .leaf (.sq (.sq .leaf (.cn (.sq .leaf .leaf) .leaf)) (.sq (.sq .leaf (.bl (.lp [5] (.sq (.sq .leaf (.cn .leaf .leaf)) (.sq (.bl (.sq (.dr (pl [0, 4, 8, 12, 17, 20, 24, 28, 32, 37, 40, 44, 48, 52, 56, 60, 65, 68, 72, 76, 80, 85, 88, 92, 96, 100, 104, 108, 112, 117, 120, 124, 128, 132, 137, 142, 144, 148] .fin)) (.cn (.sq .leaf .leaf) .leaf))) .leaf))))) (.sq .leaf .leaf))))
theorem f19.calls {Z : List PanicEntry → World → Prop} {x0 x1 : Value} {w : World} {Q : Value → World → Prop} (h : f19.sh Z x0 x1 w Q) : CallV Tryz.prog Z 19 #[x0, x1] w Q :=
 cl Tryz.func19 f19.an [x0, x1] (by kernel_rfl) (by kernel_rfl) h

def f20.sh (Z : List PanicEntry → World → Prop) (x0 : Value) (w : World) (Q : Value → World → Prop) : Prop :=
 runX Tryz.prog Z (nilChk x0) w fun t1 w =>
 run1 Tryz.prog Z (Instr.fieldAt 87 t1 1) w fun t2 w =>
 run1 Tryz.prog Z (Instr.loadAt 22 t2) w fun t3 w =>
 CallV Tryz.prog Z 61 #[t3] w fun t4 w =>
 Q t4 w
def f20.an : An := (.sq .leaf (.sq .leaf .leaf))
theorem f20.calls {Z : List PanicEntry → World → Prop} {x0 : Value} {w : World} {Q : Value → World → Prop} (h : f20.sh Z x0 w Q) : CallV Tryz.prog Z 20 #[x0] w Q :=
 cl Tryz.func20 f20.an [x0] (by kernel_rfl) (by kernel_rfl) h

def f21.sh (Z : List PanicEntry → World → Prop) (x0 x1 : Value) (w : World) (Q : Value → World → Prop) : Prop :=
 CallV Tryz.prog Z 62 #[x0] w fun t1 w =>
 CallV Tryz.prog Z 63 #[x0] w fun t2 w =>
 CallV Tryz.prog Z 64 #[x0] w fun t3 w =>
 CallV Tryz.prog Z 12 #[x0] w fun t4 w =>
 CallV Tryz.prog Z 14 #[x0] w fun t5 w =>
 runX Tryz.prog Z (nilChk x1) w fun t6 w =>
 run1 Tryz.prog Z (Instr.fieldAt 87 t6 2) w fun t7 w =>
 run1 Tryz.prog Z (Instr.loadAt 4 t7) w fun t8 w =>
 run1 Tryz.prog Z (eqOp .eql 4 false false t1 t8) w fun t9 w =>
 guardW (t9) true (fun k => k (t2) w) (fun t10 w =>
 guardW (t9) true (fun k => k (x1) w) (fun t11 w =>
 guardW (t9) true (fun k => runX Tryz.prog Z (nilChk t11) w k) (fun t12 w =>
 guardW (t9) true (fun k => run1 Tryz.prog Z (Instr.fieldAt 87 t12 1) w k) (fun t13 w =>
 guardW (t9) true (fun k => run1 Tryz.prog Z (Instr.loadAt 22 t13) w k) (fun t14 w =>
 guardW (t9) true (fun k => CallV Tryz.prog Z 29 #[t14] w k) (fun t15 w =>
 guardW (t9) true (fun k => run1 Tryz.prog Z (eqOp .eql 3 false false t10 t15) w k) (fun t16 w =>
 run1 Tryz.prog Z (pickV t9 t16 (.bool false)) w fun t17 w =>
 guardW (t17) true (fun k => k (t3) w) (fun t18 w =>
 guardW (t17) true (fun k => k (x1) w) (fun t19 w =>
 guardW (t17) true (fun k => runX Tryz.prog Z (nilChk t19) w k) (fun t20 w =>
 guardW (t17) true (fun k => run1 Tryz.prog Z (Instr.fieldAt 87 t20 5) w k) (fun t21 w =>
 guardW (t17) true (fun k => run1 Tryz.prog Z (Instr.loadAt 3 t21) w k) (fun t22 w =>
 guardW (t17) true (fun k => run1 Tryz.prog Z (eqOp .eql 3 false false t18 t22) w k) (fun t23 w =>
 run1 Tryz.prog Z (pickV t17 t23 (.bool false)) w fun t24 w =>
 guardW (t24) true (fun k => k (t4) w) (fun t25 w =>
 guardW (t24) true (fun k => k (x1) w) (fun t26 w =>
 guardW (t24) true (fun k => CallV Tryz.prog Z 8 #[t26] w k) (fun t27 w =>
 guardW (t24) true (fun k => CallV Tryz.prog Z 18 #[t25, t27] w k) (fun t28 w =>
 run1 Tryz.prog Z (pickV t24 t28 (.bool false)) w fun t29 w =>
 guardW (t29) true (fun k => k (t5) w) (fun t30 w =>
 guardW (t29) true (fun k => k (x1) w) (fun t31 w =>
 guardW (t29) true (fun k => CallV Tryz.prog Z 20 #[t31] w k) (fun t32 w =>
 guardW (t29) true (fun k => CallV Tryz.prog Z 19 #[t30, t32] w k) (fun t33 w =>
 run1 Tryz.prog Z (pickV t29 t33 (.bool false)) w fun t34 w =>
 Q t34 w) w) w) w) w) w) w) w) w) w) w) w) w) w) w) w) w) w) w) w) w) w
def f21.an : An := (.sq .leaf (.sq .leaf (.sq .leaf (.sq .leaf (.sq .leaf (.sq .leaf (.sq .leaf .leaf)))))))
theorem f21.calls {Z : List PanicEntry → World → Prop} {x0 x1 : Value} {w : World} {Q : Value → World → Prop} (h : f21.sh Z x0 x1 w Q) : CallV Tryz.prog Z 21 #[x0, x1] w Q :=
 cl Tryz.func21 f21.an [x0, x1] (by kernel_rfl) (by kernel_rfl) h

def f22.sh (Z : List PanicEntry → World → Prop) (x0 : Value) (w : World) (Q : Value → World → Prop) : Prop :=
 run1 Tryz.prog Z (binOp .lss 3 x0 (.int .i64 0)) w fun t1 w =>
 guardW (t1) false (fun k => k (x0) w) (fun t2 w =>
 guardW (t1) false (fun k => run1 Tryz.prog Z (binOp .gtr 3 t2 (.int .i64 16777216)) w k) (fun t3 w =>
 run1 Tryz.prog Z (pickV t1 (.bool true) t3) w fun t4 w =>
 CondV t4 (
 Q (Value.tuple #[(.pointer none), (.int .i64 1)]) w) (
 run1 Tryz.prog Z (Instr.build 79 #[(1, (.bool true)), (2, x0), (3, (.bool true))]) w fun t5 w =>
 run1 Tryz.prog Z (Instr.box 79 t5) w fun t6 w =>
 Q (Value.tuple #[t6, (.int .i64 0)]) w)) w) w
def f22.an : An := (.sq .leaf (.sq (.sq .leaf (.cn (.sq .leaf .leaf) .leaf)) (.sq .leaf .leaf)))
theorem f22.calls {Z : List PanicEntry → World → Prop} {x0 : Value} {w : World} {Q : Value → World → Prop} (h : f22.sh Z x0 w Q) : CallV Tryz.prog Z 22 #[x0] w Q :=
 cl Tryz.func22 f22.an [x0] (by kernel_rfl) (by kernel_rfl) h

def f23.sh (Z : List PanicEntry → World → Prop) (x0 x1 : Value) (w : World) (Q : Value → World → Prop) : Prop :=
 Drawn w fun w =>
 PureV Tryz.prog (nilChk x0) fun t1 =>
 Pure1 Tryz.prog (Instr.fieldAt 77 t1 0) fun t2 =>
 Read1 Tryz.prog (Instr.loadAt 75 t2) w fun t3 =>
 Pure1 Tryz.prog (Builtin.len_ #[75] 3 #[t3]) fun t4 =>
 ∃ J_5 : Nat → Value → Value → World → Prop, (∃ m, J_5 m (.int .i64 0) t4 w) ∧
 ∀ m_5, ∀ t6 : Value, ∀ t7 : Value, ∀ w : World, J_5 m_5 t6 t7 w → Env →
 run1 Tryz.prog Z (binOp .lss 3 t6 t7) w fun t8 w =>
 CondV t8 (
 run1 Tryz.prog Z (binOp .add 3 t6 t7) w fun t9 w =>
 run1 Tryz.prog Z (binOp .quo 3 t9 (.int .i64 2)) w fun t10 w =>
 runX Tryz.prog Z (nilChk x0) w fun t11 w =>
 run1 Tryz.prog Z (Instr.fieldAt 77 t11 0) w fun t12 w =>
 run1 Tryz.prog Z (Instr.loadAt 75 t12) w fun t13 w =>
 run1 Tryz.prog Z (Instr.indexAt 75 t13 t10) w fun t14 w =>
 run1 Tryz.prog Z (Instr.fieldAt 83 t14 0) w fun t15 w =>
 run1 Tryz.prog Z (Instr.loadAt 9 t15) w fun t16 w =>
 run1 Tryz.prog Z (binOp .lss 9 t16 x1) w fun t17 w =>
 CondV t17 (
 run1 Tryz.prog Z (binOp .add 3 t10 (.int .i64 1)) w fun t18 w =>
 ∃ n_5, n_5 < m_5 ∧ J_5 n_5 t18 t7 w) (
 ∃ n_5, n_5 < m_5 ∧ J_5 n_5 t6 t10 w)) (
 Drawn w fun w =>
 PureV Tryz.prog (nilChk x0) fun t19 =>
 Pure1 Tryz.prog (Instr.fieldAt 77 t19 0) fun t20 =>
 Read1 Tryz.prog (Instr.loadAt 75 t20) w fun t21 =>
 Pure1 Tryz.prog (Builtin.len_ #[75] 3 #[t21]) fun t22 =>
 Pure1 Tryz.prog (binOp .lss 3 t6 t22) fun t23 =>
 guardV (t23) true (fun k => k (x0)) (fun t24 =>
 guardV (t23) true (fun k => PureV Tryz.prog (nilChk t24) k) (fun t25 =>
 guardV (t23) true (fun k => Pure1 Tryz.prog (Instr.fieldAt 77 t25 0) k) (fun t26 =>
 guardV (t23) true (fun k => Read1 Tryz.prog (Instr.loadAt 75 t26) w k) (fun t27 =>
 guardV (t23) true (fun k => k (t6)) (fun t28 =>
 guardV (t23) true (fun k => Pure1 Tryz.prog (Instr.indexAt 75 t27 t28) k) (fun t29 =>
 guardV (t23) true (fun k => Pure1 Tryz.prog (Instr.fieldAt 83 t29 0) k) (fun t30 =>
 guardV (t23) true (fun k => Read1 Tryz.prog (Instr.loadAt 9 t30) w k) (fun t31 =>
 guardV (t23) true (fun k => k (x1)) (fun t32 =>
 guardV (t23) true (fun k => Pure1 Tryz.prog (eqOp .eql 9 false false t31 t32) k) (fun t33 =>
 Pure1 Tryz.prog (pickV t23 t33 (.bool false)) fun t34 =>
 Q (Value.tuple #[t6, t34]) w)))))))))))
def f23.an : An := (.sq .leaf (.sq (.dr (pl [0, 4, 8, 13, 16, 20, 24] .fin)) (.sq (.bl (.lp [6, 7] (.sq (.sq .leaf (.cn .leaf .leaf)) (.bl (.sq .leaf (.sq .leaf (.cn .leaf .leaf))))))) (.sq (.dr (pl [0, 4, 8, 12, 16, 21, 24, 28, 32, 36, 40, 44, 49, 52, 56, 60, 65, 68, 72, 76, 80, 84] .fin)) .leaf))))
theorem f23.calls {Z : List PanicEntry → World → Prop} {x0 x1 : Value} {w : World} {Q : Value → World → Prop} (h : f23.sh Z x0 x1 w Q) : CallV Tryz.prog Z 23 #[x0, x1] w Q :=
 cl Tryz.func23 f23.an [x0, x1] (by kernel_rfl) (by kernel_rfl) h

def f24.sh (Z : List PanicEntry → World → Prop) (x0 : Value) (w : World) (Q : Value → World → Prop) : Prop :=
 run1 Tryz.prog Z (Builtin.len_ #[9] 3 #[x0]) w fun t1 w =>
 ∃ J_2 : Nat → Value → World → Prop, (∃ m, J_2 m (.int .i64 0) w) ∧
 ∀ m_2, ∀ t3 : Value, ∀ w : World, J_2 m_2 t3 w → Env →
 run1 Tryz.prog Z (binOp .lss 3 t3 t1) w fun t4 w =>
 CondV t4 (
 run1 Tryz.prog Z (Instr.index 9 x0 t3) w fun t5 w =>
 run1 Tryz.prog Z (binOp .lss 5 t5 (.int .u8 97)) w fun t6 w =>
 guardW (t6) false (fun k => k (t5) w) (fun t7 w =>
 guardW (t6) false (fun k => run1 Tryz.prog Z (binOp .gtr 5 t7 (.int .u8 122)) w k) (fun t8 w =>
 run1 Tryz.prog Z (pickV t6 (.bool true) t8) w fun t9 w =>
 guardW (t9) true (fun k => k (t5) w) (fun t10 w =>
 guardW (t9) true (fun k => run1 Tryz.prog Z (binOp .lss 5 t10 (.int .u8 48)) w k) (fun t11 w =>
 guardW (t9) true (fun k => k (t11) w) (fun t12 w =>
 guardW (t12) false (fun k => k (t5) w) (fun t13 w =>
 guardW (t12) false (fun k => run1 Tryz.prog Z (binOp .gtr 5 t13 (.int .u8 57)) w k) (fun t14 w =>
 guardW (t9) true (fun k => run1 Tryz.prog Z (pickV t12 (.bool true) t14) w k) (fun t15 w =>
 run1 Tryz.prog Z (pickV t9 t15 (.bool false)) w fun t16 w =>
 guardW (t16) true (fun k => k (t5) w) (fun t17 w =>
 guardW (t16) true (fun k => run1 Tryz.prog Z (eqOp .neq 5 false true t17 (.int .u8 46)) w k) (fun t18 w =>
 run1 Tryz.prog Z (pickV t16 t18 (.bool false)) w fun t19 w =>
 CondV t19 (
 Q (.bool false) w) (
 run1 Tryz.prog Z (binOp .add 3 t3 (.int .i64 1)) w fun t20 w =>
 ∃ n_2, n_2 < m_2 ∧ J_2 n_2 t20 w)) w) w) w) w) w) w) w) w) w) w) (
 run1 Tryz.prog Z (Builtin.len_ #[9] 3 #[x0]) w fun t21 w =>
 run1 Tryz.prog Z (binOp .geq 3 t21 (.int .i64 1)) w fun t22 w =>
 guardW (t22) true (fun k => k (x0) w) (fun t23 w =>
 guardW (t22) true (fun k => run1 Tryz.prog Z (Builtin.len_ #[9] 3 #[t23]) w k) (fun t24 w =>
 guardW (t22) true (fun k => run1 Tryz.prog Z (binOp .leq 3 t24 (.int .i64 24)) w k) (fun t25 w =>
 run1 Tryz.prog Z (pickV t22 t25 (.bool false)) w fun t26 w =>
 Q t26 w) w) w) w)
def f24.an : An := (.sq .leaf (.sq (.sq .leaf (.bl (.lp [7] (.sq .leaf (.sq (.cn .leaf .leaf) (.sq (.bl (.sq .leaf (.sq .leaf (.sq .leaf (.cn (.sq .leaf .leaf) .leaf))))) .leaf)))))) (.sq .leaf .leaf)))
theorem f24.calls {Z : List PanicEntry → World → Prop} {x0 : Value} {w : World} {Q : Value → World → Prop} (h : f24.sh Z x0 w Q) : CallV Tryz.prog Z 24 #[x0] w Q :=
 cl Tryz.func24 f24.an [x0] (by kernel_rfl) (by kernel_rfl) h

def f25.sh (Z : List PanicEntry → World → Prop) (x0 x1 : Value) (w : World) (Q : Value → World → Prop) : Prop :=
 CallV Tryz.prog Z 23 #[x0, x1] w fun t1 w =>
 run1 Tryz.prog Z (Instr.extract t1 0) w fun t2 w =>
 run1 Tryz.prog Z (Instr.extract t1 1) w fun t3 w =>
 ∀ j_4 : World → Prop, (∀ w : World, (Env →
 Q t2 w) →
 j_4 w) →
 run1 Tryz.prog Z (Op.unary .not t3) w fun t5 w =>
 CondV t5 (
 runX Tryz.prog Z (nilChk x0) w fun t6 w =>
 run1 Tryz.prog Z (Instr.fieldAt 77 t6 0) w fun t7 w =>
 run1 Tryz.prog Z (Instr.loadAt 75 t7) w fun t8 w =>
 run1 Tryz.prog Z (Instr.build 83 #[(0, x1)]) w fun t9 w =>
 run1 Tryz.prog Z (Instr.buildSlice 75 1 #[(0, t9)]) w fun t10 w =>
 CallV Tryz.prog Z 65 #[t8, t2, t10] w fun t11 w =>
 runX Tryz.prog Z (nilChk x0) w fun t12 w =>
 run1 Tryz.prog Z (Instr.fieldAt 77 t12 0) w fun t13 w =>
 run0 Tryz.prog Z (Instr.storeAt 75 t13 t11) w fun w =>
 j_4 w) (
 j_4 w)
def f25.an : An := (.sq .leaf (.sq .leaf (.sj [] (.sq .leaf (.cn .leaf .leaf)) (.sq .leaf .leaf))))
theorem f25.calls {Z : List PanicEntry → World → Prop} {x0 x1 : Value} {w : World} {Q : Value → World → Prop} (h : f25.sh Z x0 x1 w Q) : CallV Tryz.prog Z 25 #[x0, x1] w Q :=
 cl Tryz.func25 f25.an [x0, x1] (by kernel_rfl) (by kernel_rfl) h

def f26.sh (Z : List PanicEntry → World → Prop) (x0 : Value) (w : World) (Q : Value → World → Prop) : Prop :=
 run1 Tryz.prog Z (binOp .lss 3 x0 (.int .i64 0)) w fun t1 w =>
 guardW (t1) false (fun k => k (x0) w) (fun t2 w =>
 guardW (t1) false (fun k => run1 Tryz.prog Z (binOp .gtr 3 t2 (.int .i64 16777216)) w k) (fun t3 w =>
 run1 Tryz.prog Z (pickV t1 (.bool true) t3) w fun t4 w =>
 CondV t4 (
 Q (Value.tuple #[(.pointer none), (.int .i64 1)]) w) (
 run1 Tryz.prog Z (Instr.build 87 #[(0, x0), (2, (.bool true))]) w fun t5 w =>
 run1 Tryz.prog Z (Instr.box 87 t5) w fun t6 w =>
 Q (Value.tuple #[t6, (.int .i64 0)]) w)) w) w
def f26.an : An := (.sq .leaf (.sq (.sq .leaf (.cn (.sq .leaf .leaf) .leaf)) (.sq .leaf .leaf)))
theorem f26.calls {Z : List PanicEntry → World → Prop} {x0 : Value} {w : World} {Q : Value → World → Prop} (h : f26.sh Z x0 w Q) : CallV Tryz.prog Z 26 #[x0] w Q :=
 cl Tryz.func26 f26.an [x0] (by kernel_rfl) (by kernel_rfl) h

def f27.sh (Z : List PanicEntry → World → Prop) (x0 : Value) (w : World) (Q : Value → World → Prop) : Prop :=
 ∃ J_1 : Nat → Value → World → Prop, (∃ m, J_1 m (.int .i64 0) w) ∧
 ∀ m_1, ∀ t2 : Value, ∀ w : World, J_1 m_1 t2 w → Env →
 run1 Tryz.prog Z (Builtin.len_ #[9] 3 #[x0]) w fun t3 w =>
 run1 Tryz.prog Z (binOp .lss 3 t2 t3) w fun t4 w =>
 CondV t4 (
 run1 Tryz.prog Z (Instr.index 9 x0 t2) w fun t5 w =>
 run1 Tryz.prog Z (binOp .geq 5 t5 (.int .u8 97)) w fun t6 w =>
 guardW (t6) true (fun k => k (x0) w) (fun t7 w =>
 guardW (t6) true (fun k => k (t2) w) (fun t8 w =>
 guardW (t6) true (fun k => run1 Tryz.prog Z (Instr.index 9 t7 t8) w k) (fun t9 w =>
 guardW (t6) true (fun k => run1 Tryz.prog Z (binOp .leq 5 t9 (.int .u8 122)) w k) (fun t10 w =>
 run1 Tryz.prog Z (pickV t6 t10 (.bool false)) w fun t11 w =>
 run1 Tryz.prog Z (Instr.index 9 x0 t2) w fun t12 w =>
 run1 Tryz.prog Z (binOp .geq 5 t12 (.int .u8 48)) w fun t13 w =>
 guardW (t13) true (fun k => k (x0) w) (fun t14 w =>
 guardW (t13) true (fun k => k (t2) w) (fun t15 w =>
 guardW (t13) true (fun k => run1 Tryz.prog Z (Instr.index 9 t14 t15) w k) (fun t16 w =>
 guardW (t13) true (fun k => run1 Tryz.prog Z (binOp .leq 5 t16 (.int .u8 57)) w k) (fun t17 w =>
 run1 Tryz.prog Z (pickV t13 t17 (.bool false)) w fun t18 w =>
 run1 Tryz.prog Z (Op.unary .not t11) w fun t19 w =>
 guardW (t19) true (fun k => k (t18) w) (fun t20 w =>
 guardW (t19) true (fun k => run1 Tryz.prog Z (Op.unary .not t20) w k) (fun t21 w =>
 run1 Tryz.prog Z (pickV t19 t21 (.bool false)) w fun t22 w =>
 guardW (t22) true (fun k => k (x0) w) (fun t23 w =>
 guardW (t22) true (fun k => k (t2) w) (fun t24 w =>
 guardW (t22) true (fun k => run1 Tryz.prog Z (Instr.index 9 t23 t24) w k) (fun t25 w =>
 guardW (t22) true (fun k => run1 Tryz.prog Z (eqOp .neq 5 false true t25 (.int .u8 46)) w k) (fun t26 w =>
 run1 Tryz.prog Z (pickV t22 t26 (.bool false)) w fun t27 w =>
 CondV t27 (
 Q (.bool false) w) (
 run1 Tryz.prog Z (binOp .add 3 t2 (.int .i64 1)) w fun t28 w =>
 ∃ n_1, n_1 < m_1 ∧ J_1 n_1 t28 w)) w) w) w) w) w) w) w) w) w) w) w) w) w) w) (
 run1 Tryz.prog Z (Builtin.len_ #[9] 3 #[x0]) w fun t29 w =>
 run1 Tryz.prog Z (binOp .geq 3 t29 (.int .i64 1)) w fun t30 w =>
 guardW (t30) true (fun k => k (x0) w) (fun t31 w =>
 guardW (t30) true (fun k => run1 Tryz.prog Z (Builtin.len_ #[9] 3 #[t31]) w k) (fun t32 w =>
 guardW (t30) true (fun k => run1 Tryz.prog Z (binOp .leq 3 t32 (.int .i64 24)) w k) (fun t33 w =>
 run1 Tryz.prog Z (pickV t30 t33 (.bool false)) w fun t34 w =>
 Q t34 w) w) w) w)
def f27.an : An := (.sq .leaf (.sq (.sq .leaf (.bl (.lp [3] (.sq (.sq .leaf (.cn .leaf .leaf)) (.sq (.bl (.sq .leaf (.sq .leaf (.sq .leaf (.cn (.sq .leaf .leaf) .leaf))))) .leaf))))) (.sq .leaf .leaf)))
theorem f27.calls {Z : List PanicEntry → World → Prop} {x0 : Value} {w : World} {Q : Value → World → Prop} (h : f27.sh Z x0 w Q) : CallV Tryz.prog Z 27 #[x0] w Q :=
 cl Tryz.func27 f27.an [x0] (by kernel_rfl) (by kernel_rfl) h

def f28.sh (Z : List PanicEntry → World → Prop) (x0 x1 : Value) (w : World) (Q : Value → World → Prop) : Prop :=
 ∃ J_1 : Nat → Value → World → Prop, (∃ m, J_1 m (.int .i64 0) w) ∧
 ∀ m_1, ∀ t2 : Value, ∀ w : World, J_1 m_1 t2 w → Env →
 runX Tryz.prog Z (nilChk x0) w fun t3 w =>
 run1 Tryz.prog Z (Instr.fieldAt 87 t3 1) w fun t4 w =>
 run1 Tryz.prog Z (Instr.loadAt 22 t4) w fun t5 w =>
 run1 Tryz.prog Z (Builtin.len_ #[22] 3 #[t5]) w fun t6 w =>
 run1 Tryz.prog Z (binOp .lss 3 t2 t6) w fun t7 w =>
 CondV t7 (
 runX Tryz.prog Z (nilChk x0) w fun t8 w =>
 run1 Tryz.prog Z (Instr.fieldAt 87 t8 1) w fun t9 w =>
 run1 Tryz.prog Z (Instr.loadAt 22 t9) w fun t10 w =>
 run1 Tryz.prog Z (Instr.indexAt 22 t10 t2) w fun t11 w =>
 run1 Tryz.prog Z (Instr.fieldAt 71 t11 0) w fun t12 w =>
 run1 Tryz.prog Z (Instr.loadAt 9 t12) w fun t13 w =>
 run1 Tryz.prog Z (eqOp .eql 9 false false t13 x1) w fun t14 w =>
 CondV t14 (
 Q t2 w) (
 run1 Tryz.prog Z (binOp .add 3 t2 (.int .i64 1)) w fun t15 w =>
 ∃ n_1, n_1 < m_1 ∧ J_1 n_1 t15 w)) (
 Q (.int .i64 (-1)) w)
def f28.an : An := (.sq .leaf (.sq (.sq .leaf (.bl (.lp [5] (.sq (.sq .leaf (.cn .leaf .leaf)) (.sq (.bl (.sq .leaf (.cn (.sq .leaf .leaf) .leaf))) .leaf))))) (.sq .leaf .leaf)))
theorem f28.calls {Z : List PanicEntry → World → Prop} {x0 x1 : Value} {w : World} {Q : Value → World → Prop} (h : f28.sh Z x0 x1 w Q) : CallV Tryz.prog Z 28 #[x0, x1] w Q :=
 cl Tryz.func28 f28.an [x0, x1] (by kernel_rfl) (by kernel_rfl) h

def f29.sh (Z : List PanicEntry → World → Prop) (x0 : Value) (w : World) (Q : Value → World → Prop) : Prop :=
 ∃ J_1 : Nat → Value → Value → World → Prop, (∃ m, J_1 m (.int .i64 0) (.int .i64 0) w) ∧
 ∀ m_1, ∀ t2 : Value, ∀ t3 : Value, ∀ w : World, J_1 m_1 t2 t3 w → Env →
 run1 Tryz.prog Z (Builtin.len_ #[22] 3 #[x0]) w fun t4 w =>
 run1 Tryz.prog Z (binOp .lss 3 t3 t4) w fun t5 w =>
 CondV t5 (
 run1 Tryz.prog Z (Instr.indexAt 22 x0 t3) w fun t6 w =>
 run1 Tryz.prog Z (Instr.fieldAt 71 t6 1) w fun t7 w =>
 run1 Tryz.prog Z (Instr.loadAt 58 t7) w fun t8 w =>
 run1 Tryz.prog Z (Builtin.len_ #[58] 3 #[t8]) w fun t9 w =>
 run1 Tryz.prog Z (binOp .add 3 t2 t9) w fun t10 w =>
 run1 Tryz.prog Z (binOp .add 3 t3 (.int .i64 1)) w fun t11 w =>
 ∃ n_1, n_1 < m_1 ∧ J_1 n_1 t10 t11 w) (
 Q t2 w)
def f29.an : An := (.sq .leaf (.sq .leaf (.sq (.sq .leaf (.bl (.lp [3, 4] (.sq (.sq .leaf (.cn .leaf .leaf)) (.sq (.bl .leaf) .leaf))))) (.sq .leaf .leaf))))
theorem f29.calls {Z : List PanicEntry → World → Prop} {x0 : Value} {w : World} {Q : Value → World → Prop} (h : f29.sh Z x0 w Q) : CallV Tryz.prog Z 29 #[x0] w Q :=
 cl Tryz.func29 f29.an [x0] (by kernel_rfl) (by kernel_rfl) h

def f30.sh (Z : List PanicEntry → World → Prop) (x0 x1 : Value) (w : World) (Q : Value → World → Prop) : Prop :=
 run1 Tryz.prog Z (Instr.box 71 x1) w fun t1 w =>
 ∃ J_2 : Nat → Value → Value → Value → World → Prop, (∃ m, J_2 m (.slice none 0 0) (.bool false) (.int .i64 0) w) ∧
 ∀ m_2, ∀ t3 : Value, ∀ t4 : Value, ∀ t5 : Value, ∀ w : World, J_2 m_2 t3 t4 t5 w → Env →
 run1 Tryz.prog Z (Builtin.len_ #[22] 3 #[x0]) w fun t6 w =>
 run1 Tryz.prog Z (binOp .lss 3 t5 t6) w fun t7 w =>
 CondV t7 (
 ∀ j_8 : Value → Value → World → Prop, (∀ t9 : Value, ∀ t10 : Value, ∀ w : World, (Env →
 run1 Tryz.prog Z (binOp .add 3 t5 (.int .i64 1)) w fun t11 w =>
 ∃ n_2, n_2 < m_2 ∧ J_2 n_2 t9 t10 t11 w) →
 j_8 t9 t10 w) →
 ∀ j_12 : Value → Value → World → Prop, (∀ t13 : Value, ∀ t14 : Value, ∀ w : World, (Env →
 run1 Tryz.prog Z (Instr.indexAt 22 x0 t5) w fun t15 w =>
 run1 Tryz.prog Z (Instr.loadAt 71 t15) w fun t16 w =>
 run1 Tryz.prog Z (Instr.buildSlice 22 1 #[(0, t16)]) w fun t17 w =>
 run1 Tryz.prog Z (Builtin.append_ #[22, 22] 22 #[t13, t17]) w fun t18 w =>
 j_8 t18 t14 w) →
 j_12 t13 t14 w) →
 Drawn w fun w =>
 Pure1 Tryz.prog (Op.unary .not t4) fun t19 =>
 guardV (t19) true (fun k => Pure1 Tryz.prog (Instr.fieldAt 71 t1 0) k) (fun t20 =>
 guardV (t19) true (fun k => Read1 Tryz.prog (Instr.loadAt 9 t20) w k) (fun t21 =>
 guardV (t19) true (fun k => k (x0)) (fun t22 =>
 guardV (t19) true (fun k => k (t5)) (fun t23 =>
 guardV (t19) true (fun k => Pure1 Tryz.prog (Instr.indexAt 22 t22 t23) k) (fun t24 =>
 guardV (t19) true (fun k => Pure1 Tryz.prog (Instr.fieldAt 71 t24 0) k) (fun t25 =>
 guardV (t19) true (fun k => Read1 Tryz.prog (Instr.loadAt 9 t25) w k) (fun t26 =>
 guardV (t19) true (fun k => Pure1 Tryz.prog (binOp .lss 9 t21 t26) k) (fun t27 =>
 Pure1 Tryz.prog (pickV t19 t27 (.bool false)) fun t28 =>
 CondV t28 (
 run1 Tryz.prog Z (Instr.loadAt 71 t1) w fun t29 w =>
 run1 Tryz.prog Z (Instr.buildSlice 22 1 #[(0, t29)]) w fun t30 w =>
 run1 Tryz.prog Z (Builtin.append_ #[22, 22] 22 #[t3, t30]) w fun t31 w =>
 j_12 t31 (.bool true) w) (
 j_12 t3 t4 w)))))))))) (
 ∀ j_32 : Value → World → Prop, (∀ t33 : Value, ∀ w : World, (Env →
 Q t33 w) →
 j_32 t33 w) →
 run1 Tryz.prog Z (Op.unary .not t4) w fun t34 w =>
 CondV t34 (
 run1 Tryz.prog Z (Instr.loadAt 71 t1) w fun t35 w =>
 run1 Tryz.prog Z (Instr.buildSlice 22 1 #[(0, t35)]) w fun t36 w =>
 run1 Tryz.prog Z (Builtin.append_ #[22, 22] 22 #[t3, t36]) w fun t37 w =>
 j_32 t37 w) (
 j_32 t3 w))
def f30.an : An := (.sq .leaf (.sq .leaf (.sq .leaf (.sq (.sq .leaf (.bl (.lp [5, 6, 7] (.sq (.sq .leaf (.cn .leaf .leaf)) (.sj [5, 6] (.bl (.sj [5, 6] (.sq (.dr (pl [0, 4, 8, 12, 17, 20, 24, 28, 32, 37, 40, 44] .fin)) (.cn (.sq .leaf .leaf) .leaf)) .leaf)) .leaf))))) (.sj [5] (.sq .leaf (.cn .leaf .leaf)) (.sq .leaf .leaf))))))
theorem f30.calls {Z : List PanicEntry → World → Prop} {x0 x1 : Value} {w : World} {Q : Value → World → Prop} (h : f30.sh Z x0 x1 w Q) : CallV Tryz.prog Z 30 #[x0, x1] w Q :=
 cl Tryz.func30 f30.an [x0, x1] (by kernel_rfl) (by kernel_rfl) h

def f31.sh (Z : List PanicEntry → World → Prop) (x0 : Value) (w : World) (Q : Value → World → Prop) : Prop :=
 ∃ J_1 : Nat → Value → Value → World → Prop, (∃ m, J_1 m (.slice none 0 0) (.int .i64 0) w) ∧
 ∀ m_1, ∀ t2 : Value, ∀ t3 : Value, ∀ w : World, J_1 m_1 t2 t3 w → Env →
 run1 Tryz.prog Z (Builtin.len_ #[58] 3 #[x0]) w fun t4 w =>
 run1 Tryz.prog Z (binOp .lss 3 t3 t4) w fun t5 w =>
 CondV t5 (
 run1 Tryz.prog Z (Instr.indexAt 58 x0 t3) w fun t6 w =>
 run1 Tryz.prog Z (Instr.loadAt 5 t6) w fun t7 w =>
 run1 Tryz.prog Z (Instr.buildSlice 58 1 #[(0, t7)]) w fun t8 w =>
 run1 Tryz.prog Z (Builtin.append_ #[58, 58] 58 #[t2, t8]) w fun t9 w =>
 run1 Tryz.prog Z (binOp .add 3 t3 (.int .i64 1)) w fun t10 w =>
 ∃ n_1, n_1 < m_1 ∧ J_1 n_1 t9 t10 w) (
 Q t2 w)
def f31.an : An := (.sq .leaf (.sq .leaf (.sq (.sq .leaf (.bl (.lp [3, 4] (.sq (.sq .leaf (.cn .leaf .leaf)) (.sq (.bl .leaf) .leaf))))) (.sq .leaf .leaf))))
theorem f31.calls {Z : List PanicEntry → World → Prop} {x0 : Value} {w : World} {Q : Value → World → Prop} (h : f31.sh Z x0 w Q) : CallV Tryz.prog Z 31 #[x0] w Q :=
 cl Tryz.func31 f31.an [x0] (by kernel_rfl) (by kernel_rfl) h

def f32.sh (Z : List PanicEntry → World → Prop) (x0 x1 x2 : Value) (w : World) (Q : Value → World → Prop) : Prop :=
 run1 Tryz.prog Z (Instr.buildSlice 56 1 #[(0, x1)]) w fun t1 w =>
 CallV Tryz.prog Z 66 #[x0, t1] w fun t2 w =>
 run1 Tryz.prog Z (eqOp .neq 25 false true t2 (.int .i64 0)) w fun t3 w =>
 CondV t3 (
 Q t2 w) (
 runX Tryz.prog Z (nilChk x0) w fun t4 w =>
 run1 Tryz.prog Z (Instr.fieldAt 79 t4 0) w fun t5 w =>
 CallV Tryz.prog Z 23 #[t5, x1] w fun t6 w =>
 run1 Tryz.prog Z (Instr.extract t6 0) w fun t7 w =>
 run1 Tryz.prog Z (Instr.extract t6 1) w fun t8 w =>
 run1 Tryz.prog Z (Op.unary .not t8) w fun t9 w =>
 guardW (t9) true (fun k => k (x0) w) (fun t10 w =>
 guardW (t9) true (fun k => runX Tryz.prog Z (nilChk t10) w k) (fun t11 w =>
 guardW (t9) true (fun k => run1 Tryz.prog Z (Instr.fieldAt 79 t11 0) w k) (fun t12 w =>
 guardW (t9) true (fun k => run1 Tryz.prog Z (Instr.fieldAt 77 t12 0) w k) (fun t13 w =>
 guardW (t9) true (fun k => run1 Tryz.prog Z (Instr.loadAt 75 t13) w k) (fun t14 w =>
 guardW (t9) true (fun k => run1 Tryz.prog Z (Builtin.len_ #[75] 3 #[t14]) w k) (fun t15 w =>
 guardW (t9) true (fun k => run1 Tryz.prog Z (binOp .geq 3 t15 (.int .i64 64)) w k) (fun t16 w =>
 run1 Tryz.prog Z (pickV t9 t16 (.bool false)) w fun t17 w =>
 CondV t17 (
 Q (.int .i64 22) w) (
 Drawn w fun w =>
 Pure1 Tryz.prog (Builtin.len_ #[58] 3 #[x2]) fun t18 =>
 PureV Tryz.prog (nilChk x0) fun t19 =>
 Pure1 Tryz.prog (Instr.fieldAt 79 t19 2) fun t20 =>
 Read1 Tryz.prog (Instr.loadAt 3 t20) w fun t21 =>
 PureV Tryz.prog (nilChk x0) fun t22 =>
 Pure1 Tryz.prog (Instr.fieldAt 79 t22 0) fun t23 =>
 Pure1 Tryz.prog (Instr.fieldAt 77 t23 1) fun t24 =>
 Read1 Tryz.prog (Instr.loadAt 3 t24) w fun t25 =>
 Pure1 Tryz.prog (binOp .sub 3 t21 t25) fun t26 =>
 Pure1 Tryz.prog (binOp .gtr 3 t18 t26) fun t27 =>
 CondV t27 (
 Q (.int .i64 21) w) (
 CallV Tryz.prog Z 67 #[x0] w fun t28 w =>
 run1 Tryz.prog Z (Op.unary .not t28) w fun t29 w =>
 CondV t29 (
 Q (.int .i64 23) w) (
 runX Tryz.prog Z (nilChk x0) w fun t30 w =>
 run1 Tryz.prog Z (Instr.fieldAt 79 t30 0) w fun t31 w =>
 CallV Tryz.prog Z 25 #[t31, x1] w fun t32 w =>
 Drawn w fun w =>
 PureV Tryz.prog (nilChk x0) fun t33 =>
 Pure1 Tryz.prog (Instr.fieldAt 79 t33 0) fun t34 =>
 Pure1 Tryz.prog (Instr.fieldAt 77 t34 0) fun t35 =>
 Read1 Tryz.prog (Instr.loadAt 75 t35) w fun t36 =>
 PureV Tryz.prog (nilChk x0) fun t37 =>
 Pure1 Tryz.prog (Instr.fieldAt 79 t37 0) fun t38 =>
 Pure1 Tryz.prog (Instr.fieldAt 77 t38 0) fun t39 =>
 Read1 Tryz.prog (Instr.loadAt 75 t39) w fun t40 =>
 Pure1 Tryz.prog (Instr.indexAt 75 t40 t32) fun t41 =>
 Pure1 Tryz.prog (Instr.fieldAt 83 t41 1) fun t42 =>
 Read1 Tryz.prog (Instr.loadAt 58 t42) w fun t43 =>
 run1 Tryz.prog Z (Builtin.append_ #[58, 58] 58 #[t43, x2]) w fun t44 w =>
 Still Tryz.prog (nx (Instr.loadAt 75 t39)) t40 w <|
 Still Tryz.prog (nx (Instr.loadAt 75 t35)) t36 w <|
 Pure1 Tryz.prog (Instr.indexAt 75 t36 t32) fun t45 =>
 Pure1 Tryz.prog (Instr.fieldAt 83 t45 1) fun t46 =>
 run0 Tryz.prog Z (Instr.storeAt 58 t46 t44) w fun w =>
 runX Tryz.prog Z (nilChk x0) w fun t47 w =>
 run1 Tryz.prog Z (Instr.fieldAt 79 t47 0) w fun t48 w =>
 run1 Tryz.prog Z (Instr.fieldAt 77 t48 1) w fun t49 w =>
 run1 Tryz.prog Z (Instr.loadAt 3 t49) w fun t50 w =>
 run1 Tryz.prog Z (Builtin.len_ #[58] 3 #[x2]) w fun t51 w =>
 run1 Tryz.prog Z (binOp .add 3 t50 t51) w fun t52 w =>
 runX Tryz.prog Z (nilChk x0) w fun t53 w =>
 run1 Tryz.prog Z (Instr.fieldAt 79 t53 0) w fun t54 w =>
 run1 Tryz.prog Z (Instr.fieldAt 77 t54 1) w fun t55 w =>
 run0 Tryz.prog Z (Instr.storeAt 3 t55 t52) w fun w =>
 Q (.int .i64 0) w)))) w) w) w) w) w) w) w)
def f32.an : An := (.sq .leaf (.sq (.sq .leaf (.sq .leaf (.cn (.sq .leaf .leaf) .leaf))) (.sq .leaf (.sq (.bl (.sq .leaf (.cn (.sq .leaf .leaf) (.sq (.dr (pl [0, 4, 8, 12, 16, 21, 24, 28, 32, 36, 41, 44, 48, 52] .fin)) (.cn (.sq .leaf .leaf) (.sq .leaf (.cn (.sq .leaf .leaf) .leaf))))))) (.sq .leaf (.sq (.dr (pl [0, 4, 8, 12, 17, 20, 24, 28, 32, 36, 41, 44, 48, 52, 57, 60, 66, 68, 72, 78] .fin)) (.sq .leaf (.sq .leaf .leaf))))))))
theorem f32.calls {Z : List PanicEntry → World → Prop} {x0 x1 x2 : Value} {w : World} {Q : Value → World → Prop} (h : f32.sh Z x0 x1 x2 w Q) : CallV Tryz.prog Z 32 #[x0, x1, x2] w Q :=
 cl Tryz.func32 f32.an [x0, x1, x2] (by kernel_rfl) (by kernel_rfl) h

def f33.sh (Z : List PanicEntry → World → Prop) (x0 x1 : Value) (w : World) (Q : Value → World → Prop) : Prop :=
 CallV Tryz.prog Z 36 #[x0, x1] w fun t1 w =>
 run1 Tryz.prog Z (Instr.extract t1 0) w fun t2 w =>
 run1 Tryz.prog Z (Instr.extract t1 1) w fun t3 w =>
 run1 Tryz.prog Z (eqOp .neq 25 false true t3 (.int .i64 0)) w fun t4 w =>
 CondV t4 (
 Q t3 w) (
 CallV Tryz.prog Z 67 #[x0] w fun t5 w =>
 run1 Tryz.prog Z (Op.unary .not t5) w fun t6 w =>
 CondV t6 (
 Q (.int .i64 23) w) (
 Drawn w fun w =>
 PureV Tryz.prog (nilChk x0) fun t7 =>
 Pure1 Tryz.prog (Instr.fieldAt 79 t7 0) fun t8 =>
 Pure1 Tryz.prog (Instr.fieldAt 77 t8 0) fun t9 =>
 Read1 Tryz.prog (Instr.loadAt 75 t9) w fun t10 =>
 PureV Tryz.prog (nilChk x0) fun t11 =>
 Pure1 Tryz.prog (Instr.fieldAt 79 t11 0) fun t12 =>
 Pure1 Tryz.prog (Instr.fieldAt 77 t12 0) fun t13 =>
 Read1 Tryz.prog (Instr.loadAt 75 t13) w fun t14 =>
 Pure1 Tryz.prog (Instr.indexAt 75 t14 t2) fun t15 =>
 Pure1 Tryz.prog (Instr.fieldAt 83 t15 1) fun t16 =>
 Read1 Tryz.prog (Instr.loadAt 58 t16) w fun t17 =>
 Pure1 Tryz.prog (Builtin.len_ #[58] 3 #[t17]) fun t18 =>
 Pure1 Tryz.prog (Instr.indexAt 75 t10 t2) fun t19 =>
 Pure1 Tryz.prog (Instr.fieldAt 83 t19 2) fun t20 =>
 run0 Tryz.prog Z (Instr.storeAt 3 t20 t18) w fun w =>
 Q (.int .i64 0) w))
def f33.an : An := (.sq .leaf (.sq .leaf (.sq (.bl (.sq .leaf (.cn (.sq .leaf .leaf) (.sq .leaf (.cn (.sq .leaf .leaf) .leaf))))) (.sq (.dr (pl [0, 4, 8, 12, 17, 20, 24, 28, 32, 36, 41, 44, 48, 52, 57, 60, 64, 68, 74] .fin)) (.sq .leaf .leaf)))))
theorem f33.calls {Z : List PanicEntry → World → Prop} {x0 x1 : Value} {w : World} {Q : Value → World → Prop} (h : f33.sh Z x0 x1 w Q) : CallV Tryz.prog Z 33 #[x0, x1] w Q :=
 cl Tryz.func33 f33.an [x0, x1] (by kernel_rfl) (by kernel_rfl) h

def f34.sh (Z : List PanicEntry → World → Prop) (x0 : Value) (w : World) (Q : Value → World → Prop) : Prop :=
 CallV Tryz.prog Z 38 #[x0] w fun t1 w =>
 run1 Tryz.prog Z (Op.unary .not t1) w fun t2 w =>
 CondV t2 (
 runX Tryz.prog Z (nilChk x0) w fun t3 w =>
 run1 Tryz.prog Z (Instr.fieldAt 79 t3 3) w fun t4 w =>
 run0 Tryz.prog Z (Instr.storeAt 4 t4 (.bool false)) w fun w =>
 runX Tryz.prog Z (nilChk x0) w fun t5 w =>
 run1 Tryz.prog Z (Instr.fieldAt 79 t5 4) w fun t6 w =>
 run0 Tryz.prog Z (Instr.storeAt 4 t6 (.bool false)) w fun w =>
 Q (Value.tuple #[]) w) (
 Q (Value.tuple #[]) w)
def f34.an : An := (.sq .leaf (.cn .leaf .leaf))
theorem f34.calls {Z : List PanicEntry → World → Prop} {x0 : Value} {w : World} {Q : Value → World → Prop} (h : f34.sh Z x0 w Q) : CallV Tryz.prog Z 34 #[x0] w Q :=
 cl Tryz.func34 f34.an [x0] (by kernel_rfl) (by kernel_rfl) h

def f35.sh (Z : List PanicEntry → World → Prop) (x0 x1 : Value) (w : World) (Q : Value → World → Prop) : Prop :=
 CallV Tryz.prog Z 38 #[x0] w fun t1 w =>
 guardW (t1) false (fun k => k (x0) w) (fun t2 w =>
 guardW (t1) false (fun k => runX Tryz.prog Z (nilChk t2) w k) (fun t3 w =>
 guardW (t1) false (fun k => run1 Tryz.prog Z (Instr.fieldAt 79 t3 3) w k) (fun t4 w =>
 guardW (t1) false (fun k => run1 Tryz.prog Z (Instr.loadAt 4 t4) w k) (fun t5 w =>
 run1 Tryz.prog Z (pickV t1 (.bool true) t5) w fun t6 w =>
 CondV t6 (
 Q (Value.tuple #[]) w) (
 runX Tryz.prog Z (nilChk x0) w fun t7 w =>
 run1 Tryz.prog Z (Instr.fieldAt 79 t7 3) w fun t8 w =>
 run0 Tryz.prog Z (Instr.storeAt 4 t8 (.bool true)) w fun w =>
 runX Tryz.prog Z (nilChk x0) w fun t9 w =>
 run1 Tryz.prog Z (Instr.fieldAt 79 t9 0) w fun t10 w =>
 run1 Tryz.prog Z (Instr.fieldAt 77 t10 0) w fun t11 w =>
 run1 Tryz.prog Z (Instr.loadAt 75 t11) w fun t12 w =>
 run1 Tryz.prog Z (Builtin.len_ #[75] 3 #[t12]) w fun t13 w =>
 ∃ J_14 : Nat → Value → World → Prop, (∃ m, J_14 m (.int .i64 0) w) ∧
 ∀ m_14, ∀ t15 : Value, ∀ w : World, J_14 m_14 t15 w → Env →
 run1 Tryz.prog Z (binOp .lss 3 t15 t13) w fun t16 w =>
 CondV t16 (
 ∀ j_17 : World → Prop, (∀ w : World, (Env →
 run1 Tryz.prog Z (binOp .add 3 t15 (.int .i64 1)) w fun t18 w =>
 ∃ n_14, n_14 < m_14 ∧ J_14 n_14 t18 w) →
 j_17 w) →
 runX Tryz.prog Z (nilChk x0) w fun t19 w =>
 run1 Tryz.prog Z (Instr.fieldAt 79 t19 0) w fun t20 w =>
 run1 Tryz.prog Z (Instr.fieldAt 77 t20 0) w fun t21 w =>
 run1 Tryz.prog Z (Instr.loadAt 75 t21) w fun t22 w =>
 run1 Tryz.prog Z (Instr.indexAt 75 t22 t15) w fun t23 w =>
 Drawn w fun w =>
 PureV Tryz.prog (nilChk t23) fun t24 =>
 Pure1 Tryz.prog (Instr.fieldAt 83 t24 1) fun t25 =>
 Read1 Tryz.prog (Instr.loadAt 58 t25) w fun t26 =>
 Pure1 Tryz.prog (Builtin.len_ #[58] 3 #[t26]) fun t27 =>
 PureV Tryz.prog (nilChk t23) fun t28 =>
 Pure1 Tryz.prog (Instr.fieldAt 83 t28 2) fun t29 =>
 Read1 Tryz.prog (Instr.loadAt 3 t29) w fun t30 =>
 Pure1 Tryz.prog (binOp .sub 3 t27 t30) fun t31 =>
 ∀ j_32 : Value → World → Prop, (∀ t33 : Value, ∀ w : World, (Env →
 runX Tryz.prog Z (nilChk t23) w fun t34 w =>
 run1 Tryz.prog Z (Instr.fieldAt 83 t34 2) w fun t35 w =>
 run1 Tryz.prog Z (Instr.loadAt 3 t35) w fun t36 w =>
 run1 Tryz.prog Z (binOp .add 3 t36 t33) w fun t37 w =>
 runX Tryz.prog Z (nilChk t23) w fun t38 w =>
 run1 Tryz.prog Z (Instr.fieldAt 83 t38 2) w fun t39 w =>
 run0 Tryz.prog Z (Instr.storeAt 3 t39 t37) w fun w =>
 Drawn w fun w =>
 PureV Tryz.prog (nilChk t23) fun t40 =>
 Pure1 Tryz.prog (Instr.fieldAt 83 t40 1) fun t41 =>
 Read1 Tryz.prog (Instr.loadAt 58 t41) w fun t42 =>
 PureV Tryz.prog (nilChk t23) fun t43 =>
 Pure1 Tryz.prog (Instr.fieldAt 83 t43 2) fun t44 =>
 Read1 Tryz.prog (Instr.loadAt 3 t44) w fun t45 =>
 Pure1 Tryz.prog (Instr.sliceAt 58 t42 none (some t45) none) fun t46 =>
 PureV Tryz.prog (nilChk t23) fun t47 =>
 Pure1 Tryz.prog (Instr.fieldAt 83 t47 1) fun t48 =>
 run0 Tryz.prog Z (Instr.storeAt 58 t48 t46) w fun w =>
 runX Tryz.prog Z (nilChk x0) w fun t49 w =>
 run1 Tryz.prog Z (Instr.fieldAt 79 t49 0) w fun t50 w =>
 run1 Tryz.prog Z (Instr.fieldAt 77 t50 1) w fun t51 w =>
 run1 Tryz.prog Z (Instr.loadAt 3 t51) w fun t52 w =>
 run1 Tryz.prog Z (binOp .sub 3 t31 t33) w fun t53 w =>
 run1 Tryz.prog Z (binOp .sub 3 t52 t53) w fun t54 w =>
 runX Tryz.prog Z (nilChk x0) w fun t55 w =>
 run1 Tryz.prog Z (Instr.fieldAt 79 t55 0) w fun t56 w =>
 run1 Tryz.prog Z (Instr.fieldAt 77 t56 1) w fun t57 w =>
 run0 Tryz.prog Z (Instr.storeAt 3 t57 t54) w fun w =>
 j_17 w) →
 j_32 t33 w) →
 run1 Tryz.prog Z (Builtin.len_ #[121] 3 #[x1]) w fun t58 w =>
 run1 Tryz.prog Z (binOp .lss 3 t15 t58) w fun t59 w =>
 CondV t59 (
 run1 Tryz.prog Z (Instr.indexAt 121 x1 t15) w fun t60 w =>
 run1 Tryz.prog Z (Instr.loadAt 3 t60) w fun t61 w =>
 run1 Tryz.prog Z (Builtin.min_ #[3, 3] 3 #[t31, t61]) w fun t62 w =>
 run1 Tryz.prog Z (Builtin.max_ #[3, 3] 3 #[(.int .i64 0), t62]) w fun t63 w =>
 j_32 t63 w) (
 j_32 (.int .i64 0) w)) (
 Q (Value.tuple #[]) w))) w) w) w) w
def f35.an : An := (.sq (.sq .leaf (.cn .leaf .leaf)) (.sq .leaf (.sq .leaf (.bl (.lp [25] (.sq .leaf (.sq (.cn .leaf .leaf) (.sj [] (.bl (.sq .leaf (.sq .leaf (.sq (.dr (pl [0, 4, 8, 13, 16, 20, 24, 28, 33, 36, 40] .fin)) (.sq .leaf (.sj [7] (.sq .leaf (.cn .leaf .leaf)) (.sq .leaf (.sq (.dr (pl [0, 4, 8, 12, 17, 20, 24, 28, 33, 36, 40, 44, 50] .fin)) .leaf)))))))) .leaf))))))))
theorem f35.calls {Z : List PanicEntry → World → Prop} {x0 x1 : Value} {w : World} {Q : Value → World → Prop} (h : f35.sh Z x0 x1 w Q) : CallV Tryz.prog Z 35 #[x0, x1] w Q :=
 cl Tryz.func35 f35.an [x0, x1] (by kernel_rfl) (by kernel_rfl) h

def f36.sh (Z : List PanicEntry → World → Prop) (x0 x1 : Value) (w : World) (Q : Value → World → Prop) : Prop :=
 run1 Tryz.prog Z (Instr.buildSlice 56 1 #[(0, x1)]) w fun t1 w =>
 CallV Tryz.prog Z 66 #[x0, t1] w fun t2 w =>
 run1 Tryz.prog Z (eqOp .neq 25 false true t2 (.int .i64 0)) w fun t3 w =>
 CondV t3 (
 Q (Value.tuple #[(.int .i64 0), t2]) w) (
 runX Tryz.prog Z (nilChk x0) w fun t4 w =>
 run1 Tryz.prog Z (Instr.fieldAt 79 t4 0) w fun t5 w =>
 CallV Tryz.prog Z 23 #[t5, x1] w fun t6 w =>
 run1 Tryz.prog Z (Instr.extract t6 0) w fun t7 w =>
 run1 Tryz.prog Z (Instr.extract t6 1) w fun t8 w =>
 run1 Tryz.prog Z (Op.unary .not t8) w fun t9 w =>
 CondV t9 (
 Q (Value.tuple #[(.int .i64 0), (.int .i64 20)]) w) (
 Q (Value.tuple #[t7, (.int .i64 0)]) w))
def f36.an : An := (.sq .leaf (.sq (.sq .leaf (.sq .leaf (.cn (.sq .leaf .leaf) .leaf))) (.sq .leaf (.sq (.sq .leaf (.cn (.sq .leaf .leaf) .leaf)) (.sq .leaf .leaf)))))
theorem f36.calls {Z : List PanicEntry → World → Prop} {x0 x1 : Value} {w : World} {Q : Value → World → Prop} (h : f36.sh Z x0 x1 w Q) : CallV Tryz.prog Z 36 #[x0, x1] w Q :=
 cl Tryz.func36 f36.an [x0, x1] (by kernel_rfl) (by kernel_rfl) h

def f37.sh (Z : List PanicEntry → World → Prop) (x0 : Value) (w : World) (Q : Value → World → Prop) : Prop :=
 run1 Tryz.prog Z (Builtin.len_ #[58] 3 #[x0]) w fun t1 w =>
 run1 Tryz.prog Z (Instr.makeSlice 58 t1 t1) w fun t2 w =>
 run1 Tryz.prog Z (Builtin.copy_ #[58, 58] 3 #[t2, x0]) w fun t3 w =>
 Q t2 w
def f37.an : An := (.sq .leaf (.sq .leaf (.sq .leaf (.sq .leaf .leaf))))
theorem f37.calls {Z : List PanicEntry → World → Prop} {x0 : Value} {w : World} {Q : Value → World → Prop} (h : f37.sh Z x0 w Q) : CallV Tryz.prog Z 37 #[x0] w Q :=
 cl Tryz.func37 f37.an [x0] (by kernel_rfl) (by kernel_rfl) h

def f38.sh (Z : List PanicEntry → World → Prop) (x0 : Value) (w : World) (Q : Value → World → Prop) : Prop :=
 run1 Tryz.prog Z (eqOp .eql 24 false true x0 (.pointer none)) w fun t1 w =>
 guardW (t1) false (fun k => k (x0) w) (fun t2 w =>
 guardW (t1) false (fun k => runX Tryz.prog Z (nilChk t2) w k) (fun t3 w =>
 guardW (t1) false (fun k => run1 Tryz.prog Z (Instr.fieldAt 79 t3 1) w k) (fun t4 w =>
 guardW (t1) false (fun k => run1 Tryz.prog Z (Instr.loadAt 4 t4) w k) (fun t5 w =>
 guardW (t1) false (fun k => run1 Tryz.prog Z (Op.unary .not t5) w k) (fun t6 w =>
 run1 Tryz.prog Z (pickV t1 (.bool true) t6) w fun t7 w =>
 Q t7 w) w) w) w) w) w
def f38.an : An := (.sq .leaf (.sq .leaf .leaf))
theorem f38.calls {Z : List PanicEntry → World → Prop} {x0 : Value} {w : World} {Q : Value → World → Prop} (h : f38.sh Z x0 w Q) : CallV Tryz.prog Z 38 #[x0] w Q :=
 cl Tryz.func38 f38.an [x0] (by kernel_rfl) (by kernel_rfl) h

def f39.sh (Z : List PanicEntry → World → Prop) (x0 : Value) (w : World) (Q : Value → World → Prop) : Prop :=
 ∃ J_1 : Nat → Value → World → Prop, (∃ m, J_1 m (.int .i64 1) w) ∧
 ∀ m_1, ∀ t2 : Value, ∀ w : World, J_1 m_1 t2 w → Env →
 run1 Tryz.prog Z (eqOp .eql 3 false true t2 (.int .i64 1)) w fun t3 w =>
 guardW (t3) false (fun k => k (t2) w) (fun t4 w =>
 guardW (t3) false (fun k => k (x0) w) (fun t5 w =>
 guardW (t3) false (fun k => run1 Tryz.prog Z (Builtin.len_ #[33] 3 #[t5]) w k) (fun t6 w =>
 guardW (t3) false (fun k => run1 Tryz.prog Z (binOp .leq 3 t4 t6) w k) (fun t7 w =>
 run1 Tryz.prog Z (pickV t3 (.bool true) t7) w fun t8 w =>
 CondV t8 (
 ∃ J_9 : Nat → Value → World → Prop, (∃ m, J_9 m (.int .i64 0) w) ∧
 ∀ m_9, ∀ t10 : Value, ∀ w : World, J_9 m_9 t10 w → Env →
 run1 Tryz.prog Z (Builtin.len_ #[33] 3 #[x0]) w fun t11 w =>
 run1 Tryz.prog Z (binOp .lss 3 t10 t11) w fun t12 w =>
 CondV t12 (
 ∃ J_13 : Nat → Value → World → Prop, (∃ m, J_13 m (.int .i64 0) w) ∧
 ∀ m_13, ∀ t14 : Value, ∀ w : World, J_13 m_13 t14 w → Env →
 run1 Tryz.prog Z (Instr.indexAt 33 x0 t10) w fun t15 w =>
 run1 Tryz.prog Z (Instr.loadAt 58 t15) w fun t16 w =>
 run1 Tryz.prog Z (Builtin.len_ #[58] 3 #[t16]) w fun t17 w =>
 run1 Tryz.prog Z (binOp .lss 3 t14 t17) w fun t18 w =>
 CondV t18 (
 Drawn w fun w =>
 Pure1 Tryz.prog (Instr.indexAt 33 x0 t10) fun t19 =>
 Read1 Tryz.prog (Instr.loadAt 58 t19) w fun t20 =>
 Pure1 Tryz.prog (binOp .quo 3 t10 t2) fun t21 =>
 Pure1 Tryz.prog (binOp .rem 3 t21 (.int .i64 100)) fun t22 =>
 Pure1 Tryz.prog (convert 3 5 t22) fun t23 =>
 Pure1 Tryz.prog (Instr.indexAt 58 t20 t14) fun t24 =>
 run0 Tryz.prog Z (Instr.storeAt 5 t24 t23) w fun w =>
 run1 Tryz.prog Z (binOp .add 3 t14 (.int .i64 1)) w fun t25 w =>
 ∃ n_13, n_13 < m_13 ∧ J_13 n_13 t25 w) (
 run1 Tryz.prog Z (binOp .add 3 t10 (.int .i64 1)) w fun t26 w =>
 ∃ n_9, n_9 < m_9 ∧ J_9 n_9 t26 w)) (
 CallV Tryz.prog Z 68 #[x0, t2, (.int .i64 1)] w fun t27 w =>
 guardW (t27) true (fun k => k (x0) w) (fun t28 w =>
 guardW (t27) true (fun k => k (t2) w) (fun t29 w =>
 guardW (t27) true (fun k => CallV Tryz.prog Z 68 #[t28, t29, (.int .i64 64)] w k) (fun t30 w =>
 run1 Tryz.prog Z (pickV t27 t30 (.bool false)) w fun t31 w =>
 run1 Tryz.prog Z (Op.unary .not t31) w fun t32 w =>
 CondV t32 (
 Q (.bool false) w) (
 run1 Tryz.prog Z (binOp .mul 3 t2 (.int .i64 100)) w fun t33 w =>
 ∃ n_1, n_1 < m_1 ∧ J_1 n_1 t33 w)) w) w) w)) (
 Q (.bool true) w)) w) w) w) w
def f39.an : An := (.sq .leaf (.sq (.sq .leaf (.bl (.lp [3] (.sq (.sq .leaf (.cn .leaf .leaf)) (.sq (.bl (.sq (.sq .leaf (.bl (.lp [4] (.sq (.sq .leaf (.cn .leaf .leaf)) (.sq (.bl (.sq .leaf (.bl (.lp [5] (.sq (.sq .leaf (.cn .leaf .leaf)) (.sq (.bl (.dr (pl [0, 4, 8, 13, 16, 20, 24, 28, 32, 36, 40, 46] .fin))) .leaf)))))) .leaf))))) (.sq .leaf (.sq .leaf (.cn (.sq .leaf .leaf) .leaf))))) .leaf))))) (.sq .leaf .leaf)))
theorem f39.calls {Z : List PanicEntry → World → Prop} {x0 : Value} {w : World} {Q : Value → World → Prop} (h : f39.sh Z x0 w Q) : CallV Tryz.prog Z 39 #[x0] w Q :=
 cl Tryz.func39 f39.an [x0] (by kernel_rfl) (by kernel_rfl) h

def f40.sh (Z : List PanicEntry → World → Prop) (x0 : Value) (w : World) (Q : Value → World → Prop) : Prop :=
 ∃ J_1 : Nat → Value → World → Prop, (∃ m, J_1 m (.int .i64 0) w) ∧
 ∀ m_1, ∀ t2 : Value, ∀ w : World, J_1 m_1 t2 w → Env →
 run1 Tryz.prog Z (Builtin.len_ #[34] 3 #[x0]) w fun t3 w =>
 run1 Tryz.prog Z (binOp .lss 3 t2 t3) w fun t4 w =>
 CondV t4 (
 ∃ J_5 : Nat → Value → World → Prop, (∃ m, J_5 m (.int .i64 0) w) ∧
 ∀ m_5, ∀ t6 : Value, ∀ w : World, J_5 m_5 t6 w → Env →
 run1 Tryz.prog Z (Instr.indexAt 34 x0 t2) w fun t7 w =>
 run1 Tryz.prog Z (Instr.loadAt 121 t7) w fun t8 w =>
 run1 Tryz.prog Z (Builtin.len_ #[121] 3 #[t8]) w fun t9 w =>
 run1 Tryz.prog Z (binOp .lss 3 t6 t9) w fun t10 w =>
 CondV t10 (
 run1 Tryz.prog Z (Instr.indexAt 34 x0 t2) w fun t11 w =>
 run1 Tryz.prog Z (Instr.loadAt 121 t11) w fun t12 w =>
 run1 Tryz.prog Z (binOp .sub 3 (.int .i64 (-1000000)) t2) w fun t13 w =>
 run1 Tryz.prog Z (Instr.indexAt 121 t12 t6) w fun t14 w =>
 run0 Tryz.prog Z (Instr.storeAt 3 t14 t13) w fun w =>
 run1 Tryz.prog Z (binOp .add 3 t6 (.int .i64 1)) w fun t15 w =>
 ∃ n_5, n_5 < m_5 ∧ J_5 n_5 t15 w) (
 run1 Tryz.prog Z (binOp .add 3 t2 (.int .i64 1)) w fun t16 w =>
 ∃ n_1, n_1 < m_1 ∧ J_1 n_1 t16 w)) (
 CallV Tryz.prog Z 69 #[x0, (.int .i64 1)] w fun t17 w =>
 CallV Tryz.prog Z 69 #[x0, (.int .i64 24)] w fun t18 w =>
 guardW (t17) true (fun k => k (t18) w) (fun t19 w =>
 run1 Tryz.prog Z (pickV t17 t19 (.bool false)) w fun t20 w =>
 Q t20 w) w)
def f40.an : An := (.sq .leaf (.sq (.sq .leaf (.bl (.lp [3] (.sq (.sq .leaf (.cn .leaf .leaf)) (.sq (.bl (.sq .leaf (.bl (.lp [4] (.sq (.sq .leaf (.cn .leaf .leaf)) (.sq (.bl .leaf) .leaf)))))) .leaf))))) (.sq .leaf (.sq .leaf (.sq .leaf .leaf)))))
theorem f40.calls {Z : List PanicEntry → World → Prop} {x0 : Value} {w : World} {Q : Value → World → Prop} (h : f40.sh Z x0 w Q) : CallV Tryz.prog Z 40 #[x0] w Q :=
 cl Tryz.func40 f40.an [x0] (by kernel_rfl) (by kernel_rfl) h

def f41.sh (Z : List PanicEntry → World → Prop) (x0 : Value) (w : World) (Q : Value → World → Prop) : Prop :=
 ∃ J_1 : Nat → Value → World → Prop, (∃ m, J_1 m (.int .i64 0) w) ∧
 ∀ m_1, ∀ t2 : Value, ∀ w : World, J_1 m_1 t2 w → Env →
 run1 Tryz.prog Z (Builtin.len_ #[35] 3 #[x0]) w fun t3 w =>
 run1 Tryz.prog Z (binOp .lss 3 t2 t3) w fun t4 w =>
 CondV t4 (
 ∃ J_5 : Nat → Value → World → Prop, (∃ m, J_5 m (.int .i64 0) w) ∧
 ∀ m_5, ∀ t6 : Value, ∀ w : World, J_5 m_5 t6 w → Env →
 run1 Tryz.prog Z (Instr.indexAt 35 x0 t2) w fun t7 w =>
 run1 Tryz.prog Z (Instr.loadAt 56 t7) w fun t8 w =>
 run1 Tryz.prog Z (Builtin.len_ #[56] 3 #[t8]) w fun t9 w =>
 run1 Tryz.prog Z (binOp .lss 3 t6 t9) w fun t10 w =>
 CondV t10 (
 Drawn w fun w =>
 Pure1 Tryz.prog (Instr.indexAt 35 x0 t2) fun t11 =>
 Read1 Tryz.prog (Instr.loadAt 56 t11) w fun t12 =>
 Pure1 Tryz.prog (binOp .sub 3 (.int .i64 (-1000000)) t2) fun t13 =>
 CallV Tryz.prog Z 70 #[t13] w fun t14 w =>
 Still Tryz.prog (nx (Instr.loadAt 56 t11)) t12 w <|
 Pure1 Tryz.prog (Instr.indexAt 56 t12 t6) fun t15 =>
 run0 Tryz.prog Z (Instr.storeAt 9 t15 t14) w fun w =>
 run1 Tryz.prog Z (binOp .add 3 t6 (.int .i64 1)) w fun t16 w =>
 ∃ n_5, n_5 < m_5 ∧ J_5 n_5 t16 w) (
 run1 Tryz.prog Z (binOp .add 3 t2 (.int .i64 1)) w fun t17 w =>
 ∃ n_1, n_1 < m_1 ∧ J_1 n_1 t17 w)) (
 CallV Tryz.prog Z 71 #[x0, (.int .i64 1)] w fun t18 w =>
 CallV Tryz.prog Z 71 #[x0, (.int .i64 24)] w fun t19 w =>
 guardW (t18) true (fun k => k (t19) w) (fun t20 w =>
 run1 Tryz.prog Z (pickV t18 t20 (.bool false)) w fun t21 w =>
 Q t21 w) w)
def f41.an : An := (.sq .leaf (.sq (.sq .leaf (.bl (.lp [3] (.sq (.sq .leaf (.cn .leaf .leaf)) (.sq (.bl (.sq .leaf (.bl (.lp [4] (.sq (.sq .leaf (.cn .leaf .leaf)) (.sq (.bl (.dr (pl [0, 4, 8, 13, 16, 20, 24, 30, 32, 38] .fin))) .leaf)))))) .leaf))))) (.sq .leaf (.sq .leaf (.sq .leaf .leaf)))))
theorem f41.calls {Z : List PanicEntry → World → Prop} {x0 : Value} {w : World} {Q : Value → World → Prop} (h : f41.sh Z x0 w Q) : CallV Tryz.prog Z 41 #[x0] w Q :=
 cl Tryz.func41 f41.an [x0] (by kernel_rfl) (by kernel_rfl) h

def f42.sh (Z : List PanicEntry → World → Prop) (x0 : Value) (w : World) (Q : Value → World → Prop) : Prop :=
 ∃ J_1 : Nat → Value → World → Prop, (∃ m, J_1 m (.int .i64 0) w) ∧
 ∀ m_1, ∀ t2 : Value, ∀ w : World, J_1 m_1 t2 w → Env →
 run1 Tryz.prog Z (Builtin.len_ #[36] 3 #[x0]) w fun t3 w =>
 run1 Tryz.prog Z (binOp .lss 3 t2 t3) w fun t4 w =>
 CondV t4 (
 ∃ J_5 : Nat → Value → World → Prop, (∃ m, J_5 m (.int .i64 0) w) ∧
 ∀ m_5, ∀ t6 : Value, ∀ w : World, J_5 m_5 t6 w → Env →
 run1 Tryz.prog Z (Instr.indexAt 36 x0 t2) w fun t7 w =>
 run1 Tryz.prog Z (Instr.loadAt 33 t7) w fun t8 w =>
 run1 Tryz.prog Z (Builtin.len_ #[33] 3 #[t8]) w fun t9 w =>
 run1 Tryz.prog Z (binOp .lss 3 t6 t9) w fun t10 w =>
 CondV t10 (
 Drawn w fun w =>
 Pure1 Tryz.prog (Instr.indexAt 36 x0 t2) fun t11 =>
 Read1 Tryz.prog (Instr.loadAt 33 t11) w fun t12 =>
 Pure1 Tryz.prog (binOp .sub 3 (.int .i64 (-1000000)) t2) fun t13 =>
 CallV Tryz.prog Z 70 #[t13] w fun t14 w =>
 Still Tryz.prog (nx (Instr.loadAt 33 t11)) t12 w <|
 run1 Tryz.prog Z (convert 9 58 t14) w fun t15 w =>
 Still Tryz.prog (nx (Instr.loadAt 33 t11)) t12 w <|
 Pure1 Tryz.prog (Instr.indexAt 33 t12 t6) fun t16 =>
 run0 Tryz.prog Z (Instr.storeAt 58 t16 t15) w fun w =>
 run1 Tryz.prog Z (binOp .add 3 t6 (.int .i64 1)) w fun t17 w =>
 ∃ n_5, n_5 < m_5 ∧ J_5 n_5 t17 w) (
 run1 Tryz.prog Z (binOp .add 3 t2 (.int .i64 1)) w fun t18 w =>
 ∃ n_1, n_1 < m_1 ∧ J_1 n_1 t18 w)) (
 CallV Tryz.prog Z 72 #[x0, (.int .i64 1)] w fun t19 w =>
 CallV Tryz.prog Z 72 #[x0, (.int .i64 24)] w fun t20 w =>
 guardW (t19) true (fun k => k (t20) w) (fun t21 w =>
 run1 Tryz.prog Z (pickV t19 t21 (.bool false)) w fun t22 w =>
 Q t22 w) w)
def f42.an : An := (.sq .leaf (.sq (.sq .leaf (.bl (.lp [3] (.sq (.sq .leaf (.cn .leaf .leaf)) (.sq (.bl (.sq .leaf (.bl (.lp [4] (.sq (.sq .leaf (.cn .leaf .leaf)) (.sq (.bl (.dr (pl [0, 4, 8, 13, 16, 20, 24, 30, 34, 36, 42] .fin))) .leaf)))))) .leaf))))) (.sq .leaf (.sq .leaf (.sq .leaf .leaf)))))
theorem f42.calls {Z : List PanicEntry → World → Prop} {x0 : Value} {w : World} {Q : Value → World → Prop} (h : f42.sh Z x0 w Q) : CallV Tryz.prog Z 42 #[x0] w Q :=
 cl Tryz.func42 f42.an [x0] (by kernel_rfl) (by kernel_rfl) h

def f43.sh (Z : List PanicEntry → World → Prop) (x0 : Value) (w : World) (Q : Value → World → Prop) : Prop :=
 ∃ J_1 : Nat → Value → World → Prop, (∃ m, J_1 m (.int .i64 0) w) ∧
 ∀ m_1, ∀ t2 : Value, ∀ w : World, J_1 m_1 t2 w → Env →
 run1 Tryz.prog Z (Builtin.len_ #[37] 3 #[x0]) w fun t3 w =>
 run1 Tryz.prog Z (binOp .lss 3 t2 t3) w fun t4 w =>
 CondV t4 (
 ∃ J_5 : Nat → Value → World → Prop, (∃ m, J_5 m (.int .i64 0) w) ∧
 ∀ m_5, ∀ t6 : Value, ∀ w : World, J_5 m_5 t6 w → Env →
 run1 Tryz.prog Z (Instr.indexAt 37 x0 t2) w fun t7 w =>
 run1 Tryz.prog Z (Instr.loadAt 128 t7) w fun t8 w =>
 run1 Tryz.prog Z (Builtin.len_ #[128] 3 #[t8]) w fun t9 w =>
 run1 Tryz.prog Z (binOp .lss 3 t6 t9) w fun t10 w =>
 CondV t10 (
 Drawn w fun w =>
 Pure1 Tryz.prog (Instr.indexAt 37 x0 t2) fun t11 =>
 Read1 Tryz.prog (Instr.loadAt 128 t11) w fun t12 =>
 Pure1 Tryz.prog (binOp .sub 3 (.int .i64 (-1000000)) t2) fun t13 =>
 CallV Tryz.prog Z 70 #[t13] w fun t14 w =>
 Still Tryz.prog (nx (Instr.loadAt 128 t11)) t12 w <|
 Pure1 Tryz.prog (Instr.build 130 #[(1, t14)]) fun t15 =>
 Pure1 Tryz.prog (Instr.indexAt 128 t12 t6) fun t16 =>
 run0 Tryz.prog Z (Instr.storeAt 130 t16 t15) w fun w =>
 run1 Tryz.prog Z (binOp .add 3 t6 (.int .i64 1)) w fun t17 w =>
 ∃ n_5, n_5 < m_5 ∧ J_5 n_5 t17 w) (
 run1 Tryz.prog Z (binOp .add 3 t2 (.int .i64 1)) w fun t18 w =>
 ∃ n_1, n_1 < m_1 ∧ J_1 n_1 t18 w)) (
 CallV Tryz.prog Z 73 #[x0, (.int .i64 1)] w fun t19 w =>
 CallV Tryz.prog Z 73 #[x0, (.int .i64 24)] w fun t20 w =>
 guardW (t19) true (fun k => k (t20) w) (fun t21 w =>
 run1 Tryz.prog Z (pickV t19 t21 (.bool false)) w fun t22 w =>
 Q t22 w) w)
def f43.an : An := (.sq .leaf (.sq (.sq .leaf (.bl (.lp [3] (.sq (.sq .leaf (.cn .leaf .leaf)) (.sq (.bl (.sq .leaf (.bl (.lp [4] (.sq (.sq .leaf (.cn .leaf .leaf)) (.sq (.bl (.dr (pl [0, 4, 8, 13, 16, 20, 24, 30, 32, 36, 42] .fin))) .leaf)))))) .leaf))))) (.sq .leaf (.sq .leaf (.sq .leaf .leaf)))))
theorem f43.calls {Z : List PanicEntry → World → Prop} {x0 : Value} {w : World} {Q : Value → World → Prop} (h : f43.sh Z x0 w Q) : CallV Tryz.prog Z 43 #[x0] w Q :=
 cl Tryz.func43 f43.an [x0] (by kernel_rfl) (by kernel_rfl) h

def f44.sh (Z : List PanicEntry → World → Prop) (x0 : Value) (w : World) (Q : Value → World → Prop) : Prop :=
 ∃ J_1 : Nat → Value → World → Prop, (∃ m, J_1 m (.int .i64 0) w) ∧
 ∀ m_1, ∀ t2 : Value, ∀ w : World, J_1 m_1 t2 w → Env →
 run1 Tryz.prog Z (Builtin.len_ #[38] 3 #[x0]) w fun t3 w =>
 run1 Tryz.prog Z (binOp .lss 3 t2 t3) w fun t4 w =>
 CondV t4 (
 ∃ J_5 : Nat → Value → World → Prop, (∃ m, J_5 m (.int .i64 0) w) ∧
 ∀ m_5, ∀ t6 : Value, ∀ w : World, J_5 m_5 t6 w → Env →
 run1 Tryz.prog Z (Instr.indexAt 38 x0 t2) w fun t7 w =>
 run1 Tryz.prog Z (Instr.loadAt 132 t7) w fun t8 w =>
 run1 Tryz.prog Z (Builtin.len_ #[132] 3 #[t8]) w fun t9 w =>
 run1 Tryz.prog Z (binOp .lss 3 t6 t9) w fun t10 w =>
 CondV t10 (
 Drawn w fun w =>
 Pure1 Tryz.prog (Instr.indexAt 38 x0 t2) fun t11 =>
 Read1 Tryz.prog (Instr.loadAt 132 t11) w fun t12 =>
 Pure1 Tryz.prog (binOp .sub 3 (.int .i64 (-1000000)) t2) fun t13 =>
 CallV Tryz.prog Z 70 #[t13] w fun t14 w =>
 Still Tryz.prog (nx (Instr.loadAt 132 t11)) t12 w <|
 Pure1 Tryz.prog (Instr.build 130 #[(1, t14)]) fun t15 =>
 Pure1 Tryz.prog (Instr.build 135 #[(1, t15)]) fun t16 =>
 Pure1 Tryz.prog (Instr.indexAt 132 t12 t6) fun t17 =>
 run0 Tryz.prog Z (Instr.storeAt 135 t17 t16) w fun w =>
 run1 Tryz.prog Z (binOp .add 3 t6 (.int .i64 1)) w fun t18 w =>
 ∃ n_5, n_5 < m_5 ∧ J_5 n_5 t18 w) (
 run1 Tryz.prog Z (binOp .add 3 t2 (.int .i64 1)) w fun t19 w =>
 ∃ n_1, n_1 < m_1 ∧ J_1 n_1 t19 w)) (
 CallV Tryz.prog Z 74 #[x0, (.int .i64 1)] w fun t20 w =>
 CallV Tryz.prog Z 74 #[x0, (.int .i64 24)] w fun t21 w =>
 guardW (t20) true (fun k => k (t21) w) (fun t22 w =>
 run1 Tryz.prog Z (pickV t20 t22 (.bool false)) w fun t23 w =>
 Q t23 w) w)
def f44.an : An := (.sq .leaf (.sq (.sq .leaf (.bl (.lp [3] (.sq (.sq .leaf (.cn .leaf .leaf)) (.sq (.bl (.sq .leaf (.bl (.lp [4] (.sq (.sq .leaf (.cn .leaf .leaf)) (.sq (.bl (.dr (pl [0, 4, 8, 13, 16, 20, 24, 30, 32, 36, 40, 46] .fin))) .leaf)))))) .leaf))))) (.sq .leaf (.sq .leaf (.sq .leaf .leaf)))))
theorem f44.calls {Z : List PanicEntry → World → Prop} {x0 : Value} {w : World} {Q : Value → World → Prop} (h : f44.sh Z x0 w Q) : CallV Tryz.prog Z 44 #[x0] w Q :=
 cl Tryz.func44 f44.an [x0] (by kernel_rfl) (by kernel_rfl) h

def f45.sh (Z : List PanicEntry → World → Prop) (x0 : Value) (w : World) (Q : Value → World → Prop) : Prop :=
 ∃ J_1 : Nat → Value → World → Prop, (∃ m, J_1 m (.int .i64 0) w) ∧
 ∀ m_1, ∀ t2 : Value, ∀ w : World, J_1 m_1 t2 w → Env →
 run1 Tryz.prog Z (Builtin.len_ #[39] 3 #[x0]) w fun t3 w =>
 run1 Tryz.prog Z (binOp .lss 3 t2 t3) w fun t4 w =>
 CondV t4 (
 ∃ J_5 : Nat → Value → World → Prop, (∃ m, J_5 m (.int .i64 0) w) ∧
 ∀ m_5, ∀ t6 : Value, ∀ w : World, J_5 m_5 t6 w → Env →
 run1 Tryz.prog Z (Instr.indexAt 39 x0 t2) w fun t7 w =>
 run1 Tryz.prog Z (Instr.loadAt 137 t7) w fun t8 w =>
 run1 Tryz.prog Z (Builtin.len_ #[137] 3 #[t8]) w fun t9 w =>
 run1 Tryz.prog Z (binOp .lss 3 t6 t9) w fun t10 w =>
 CondV t10 (
 run1 Tryz.prog Z (Instr.indexAt 39 x0 t2) w fun t11 w =>
 run1 Tryz.prog Z (Instr.loadAt 137 t11) w fun t12 w =>
 run1 Tryz.prog Z (binOp .sub 3 (.int .i64 (-1000000)) t2) w fun t13 w =>
 run1 Tryz.prog Z (Instr.build 139 #[(7, t13)]) w fun t14 w =>
 run1 Tryz.prog Z (Instr.indexAt 137 t12 t6) w fun t15 w =>
 run0 Tryz.prog Z (Instr.storeAt 139 t15 t14) w fun w =>
 run1 Tryz.prog Z (binOp .add 3 t6 (.int .i64 1)) w fun t16 w =>
 ∃ n_5, n_5 < m_5 ∧ J_5 n_5 t16 w) (
 run1 Tryz.prog Z (binOp .add 3 t2 (.int .i64 1)) w fun t17 w =>
 ∃ n_1, n_1 < m_1 ∧ J_1 n_1 t17 w)) (
 CallV Tryz.prog Z 75 #[x0, (.int .i64 1)] w fun t18 w =>
 CallV Tryz.prog Z 75 #[x0, (.int .i64 24)] w fun t19 w =>
 guardW (t18) true (fun k => k (t19) w) (fun t20 w =>
 run1 Tryz.prog Z (pickV t18 t20 (.bool false)) w fun t21 w =>
 Q t21 w) w)
def f45.an : An := (.sq .leaf (.sq (.sq .leaf (.bl (.lp [3] (.sq (.sq .leaf (.cn .leaf .leaf)) (.sq (.bl (.sq .leaf (.bl (.lp [4] (.sq (.sq .leaf (.cn .leaf .leaf)) (.sq (.bl .leaf) .leaf)))))) .leaf))))) (.sq .leaf (.sq .leaf (.sq .leaf .leaf)))))
theorem f45.calls {Z : List PanicEntry → World → Prop} {x0 : Value} {w : World} {Q : Value → World → Prop} (h : f45.sh Z x0 w Q) : CallV Tryz.prog Z 45 #[x0] w Q :=
 cl Tryz.func45 f45.an [x0] (by kernel_rfl) (by kernel_rfl) h

def f46.sh (Z : List PanicEntry → World → Prop) (x0 : Value) (w : World) (Q : Value → World → Prop) : Prop :=
 ∃ J_1 : Nat → Value → World → Prop, (∃ m, J_1 m (.int .i64 0) w) ∧
 ∀ m_1, ∀ t2 : Value, ∀ w : World, J_1 m_1 t2 w → Env →
 run1 Tryz.prog Z (Builtin.len_ #[40] 3 #[x0]) w fun t3 w =>
 run1 Tryz.prog Z (binOp .lss 3 t2 t3) w fun t4 w =>
 CondV t4 (
 ∃ J_5 : Nat → Value → World → Prop, (∃ m, J_5 m (.int .i64 0) w) ∧
 ∀ m_5, ∀ t6 : Value, ∀ w : World, J_5 m_5 t6 w → Env →
 run1 Tryz.prog Z (Instr.indexAt 40 x0 t2) w fun t7 w =>
 run1 Tryz.prog Z (Instr.loadAt 141 t7) w fun t8 w =>
 run1 Tryz.prog Z (Builtin.len_ #[141] 3 #[t8]) w fun t9 w =>
 run1 Tryz.prog Z (binOp .lss 3 t6 t9) w fun t10 w =>
 CondV t10 (
 run1 Tryz.prog Z (Instr.indexAt 40 x0 t2) w fun t11 w =>
 run1 Tryz.prog Z (Instr.loadAt 141 t11) w fun t12 w =>
 run1 Tryz.prog Z (binOp .sub 3 (.int .i64 (-1000000)) t2) w fun t13 w =>
 run1 Tryz.prog Z (Instr.build 144 #[(2, t13)]) w fun t14 w =>
 run1 Tryz.prog Z (Instr.build 148 #[(1, t14)]) w fun t15 w =>
 run1 Tryz.prog Z (Instr.indexAt 141 t12 t6) w fun t16 w =>
 run0 Tryz.prog Z (Instr.storeAt 148 t16 t15) w fun w =>
 run1 Tryz.prog Z (binOp .add 3 t6 (.int .i64 1)) w fun t17 w =>
 ∃ n_5, n_5 < m_5 ∧ J_5 n_5 t17 w) (
 run1 Tryz.prog Z (binOp .add 3 t2 (.int .i64 1)) w fun t18 w =>
 ∃ n_1, n_1 < m_1 ∧ J_1 n_1 t18 w)) (
 CallV Tryz.prog Z 76 #[x0, (.int .i64 1)] w fun t19 w =>
 CallV Tryz.prog Z 76 #[x0, (.int .i64 24)] w fun t20 w =>
 guardW (t19) true (fun k => k (t20) w) (fun t21 w =>
 run1 Tryz.prog Z (pickV t19 t21 (.bool false)) w fun t22 w =>
 Q t22 w) w)
def f46.an : An := (.sq .leaf (.sq (.sq .leaf (.bl (.lp [3] (.sq (.sq .leaf (.cn .leaf .leaf)) (.sq (.bl (.sq .leaf (.bl (.lp [4] (.sq (.sq .leaf (.cn .leaf .leaf)) (.sq (.bl .leaf) .leaf)))))) .leaf))))) (.sq .leaf (.sq .leaf (.sq .leaf .leaf)))))
theorem f46.calls {Z : List PanicEntry → World → Prop} {x0 : Value} {w : World} {Q : Value → World → Prop} (h : f46.sh Z x0 w Q) : CallV Tryz.prog Z 46 #[x0] w Q :=
 cl Tryz.func46 f46.an [x0] (by kernel_rfl) (by kernel_rfl) h

def f47.sh (Z : List PanicEntry → World → Prop) (x0 : Value) (w : World) (Q : Value → World → Prop) : Prop :=
 ∃ J_1 : Nat → Value → World → Prop, (∃ m, J_1 m (.int .i64 0) w) ∧
 ∀ m_1, ∀ t2 : Value, ∀ w : World, J_1 m_1 t2 w → Env →
 run1 Tryz.prog Z (Builtin.len_ #[41] 3 #[x0]) w fun t3 w =>
 run1 Tryz.prog Z (binOp .lss 3 t2 t3) w fun t4 w =>
 CondV t4 (
 ∃ J_5 : Nat → Value → World → Prop, (∃ m, J_5 m (.int .i64 0) w) ∧
 ∀ m_5, ∀ t6 : Value, ∀ w : World, J_5 m_5 t6 w → Env →
 run1 Tryz.prog Z (Instr.indexAt 41 x0 t2) w fun t7 w =>
 run1 Tryz.prog Z (Instr.loadAt 150 t7) w fun t8 w =>
 run1 Tryz.prog Z (Builtin.len_ #[150] 3 #[t8]) w fun t9 w =>
 run1 Tryz.prog Z (binOp .lss 3 t6 t9) w fun t10 w =>
 CondV t10 (
 run1 Tryz.prog Z (Instr.indexAt 41 x0 t2) w fun t11 w =>
 run1 Tryz.prog Z (Instr.loadAt 150 t11) w fun t12 w =>
 run1 Tryz.prog Z (binOp .sub 3 (.int .i64 (-1000000)) t2) w fun t13 w =>
 run1 Tryz.prog Z (Instr.build 154 #[(6, t13)]) w fun t14 w =>
 run1 Tryz.prog Z (Instr.indexAt 150 t12 t6) w fun t15 w =>
 run0 Tryz.prog Z (Instr.storeAt 154 t15 t14) w fun w =>
 run1 Tryz.prog Z (binOp .add 3 t6 (.int .i64 1)) w fun t16 w =>
 ∃ n_5, n_5 < m_5 ∧ J_5 n_5 t16 w) (
 run1 Tryz.prog Z (binOp .add 3 t2 (.int .i64 1)) w fun t17 w =>
 ∃ n_1, n_1 < m_1 ∧ J_1 n_1 t17 w)) (
 CallV Tryz.prog Z 77 #[x0, (.int .i64 1)] w fun t18 w =>
 CallV Tryz.prog Z 77 #[x0, (.int .i64 24)] w fun t19 w =>
 guardW (t18) true (fun k => k (t19) w) (fun t20 w =>
 run1 Tryz.prog Z (pickV t18 t20 (.bool false)) w fun t21 w =>
 Q t21 w) w)
def f47.an : An := (.sq .leaf (.sq (.sq .leaf (.bl (.lp [3] (.sq (.sq .leaf (.cn .leaf .leaf)) (.sq (.bl (.sq .leaf (.bl (.lp [4] (.sq (.sq .leaf (.cn .leaf .leaf)) (.sq (.bl .leaf) .leaf)))))) .leaf))))) (.sq .leaf (.sq .leaf (.sq .leaf .leaf)))))
theorem f47.calls {Z : List PanicEntry → World → Prop} {x0 : Value} {w : World} {Q : Value → World → Prop} (h : f47.sh Z x0 w Q) : CallV Tryz.prog Z 47 #[x0] w Q :=
 cl Tryz.func47 f47.an [x0] (by kernel_rfl) (by kernel_rfl) h

def f48.sh (Z : List PanicEntry → World → Prop) (x0 : Value) (w : World) (Q : Value → World → Prop) : Prop :=
 ∃ J_1 : Nat → Value → World → Prop, (∃ m, J_1 m (.int .i64 0) w) ∧
 ∀ m_1, ∀ t2 : Value, ∀ w : World, J_1 m_1 t2 w → Env →
 run1 Tryz.prog Z (Builtin.len_ #[42] 3 #[x0]) w fun t3 w =>
 run1 Tryz.prog Z (binOp .lss 3 t2 t3) w fun t4 w =>
 CondV t4 (
 ∃ J_5 : Nat → Value → World → Prop, (∃ m, J_5 m (.int .i64 0) w) ∧
 ∀ m_5, ∀ t6 : Value, ∀ w : World, J_5 m_5 t6 w → Env →
 run1 Tryz.prog Z (Instr.indexAt 42 x0 t2) w fun t7 w =>
 run1 Tryz.prog Z (Instr.loadAt 156 t7) w fun t8 w =>
 run1 Tryz.prog Z (Builtin.len_ #[156] 3 #[t8]) w fun t9 w =>
 run1 Tryz.prog Z (binOp .lss 3 t6 t9) w fun t10 w =>
 CondV t10 (
 Drawn w fun w =>
 Pure1 Tryz.prog (Instr.indexAt 42 x0 t2) fun t11 =>
 Read1 Tryz.prog (Instr.loadAt 156 t11) w fun t12 =>
 Pure1 Tryz.prog (binOp .sub 3 (.int .i64 (-1000000)) t2) fun t13 =>
 CallV Tryz.prog Z 70 #[t13] w fun t14 w =>
 Still Tryz.prog (nx (Instr.loadAt 156 t11)) t12 w <|
 Pure1 Tryz.prog (Instr.build 158 #[(0, t14)]) fun t15 =>
 Pure1 Tryz.prog (Instr.indexAt 156 t12 t6) fun t16 =>
 run0 Tryz.prog Z (Instr.storeAt 158 t16 t15) w fun w =>
 run1 Tryz.prog Z (binOp .add 3 t6 (.int .i64 1)) w fun t17 w =>
 ∃ n_5, n_5 < m_5 ∧ J_5 n_5 t17 w) (
 run1 Tryz.prog Z (binOp .add 3 t2 (.int .i64 1)) w fun t18 w =>
 ∃ n_1, n_1 < m_1 ∧ J_1 n_1 t18 w)) (
 CallV Tryz.prog Z 78 #[x0, (.int .i64 1)] w fun t19 w =>
 CallV Tryz.prog Z 78 #[x0, (.int .i64 24)] w fun t20 w =>
 guardW (t19) true (fun k => k (t20) w) (fun t21 w =>
 run1 Tryz.prog Z (pickV t19 t21 (.bool false)) w fun t22 w =>
 Q t22 w) w)
def f48.an : An := (.sq .leaf (.sq (.sq .leaf (.bl (.lp [3] (.sq (.sq .leaf (.cn .leaf .leaf)) (.sq (.bl (.sq .leaf (.bl (.lp [4] (.sq (.sq .leaf (.cn .leaf .leaf)) (.sq (.bl (.dr (pl [0, 4, 8, 13, 16, 20, 24, 30, 32, 36, 42] .fin))) .leaf)))))) .leaf))))) (.sq .leaf (.sq .leaf (.sq .leaf .leaf)))))
theorem f48.calls {Z : List PanicEntry → World → Prop} {x0 : Value} {w : World} {Q : Value → World → Prop} (h : f48.sh Z x0 w Q) : CallV Tryz.prog Z 48 #[x0] w Q :=
 cl Tryz.func48 f48.an [x0] (by kernel_rfl) (by kernel_rfl) h

def f49.sh (Z : List PanicEntry → World → Prop) (x0 : Value) (w : World) (Q : Value → World → Prop) : Prop :=
 ∃ J_1 : Nat → Value → World → Prop, (∃ m, J_1 m (.int .i64 0) w) ∧
 ∀ m_1, ∀ t2 : Value, ∀ w : World, J_1 m_1 t2 w → Env →
 run1 Tryz.prog Z (Builtin.len_ #[43] 3 #[x0]) w fun t3 w =>
 run1 Tryz.prog Z (binOp .lss 3 t2 t3) w fun t4 w =>
 CondV t4 (
 ∃ J_5 : Nat → Value → World → Prop, (∃ m, J_5 m (.int .i64 0) w) ∧
 ∀ m_5, ∀ t6 : Value, ∀ w : World, J_5 m_5 t6 w → Env →
 run1 Tryz.prog Z (Instr.indexAt 43 x0 t2) w fun t7 w =>
 run1 Tryz.prog Z (Instr.loadAt 160 t7) w fun t8 w =>
 run1 Tryz.prog Z (Builtin.len_ #[160] 3 #[t8]) w fun t9 w =>
 run1 Tryz.prog Z (binOp .lss 3 t6 t9) w fun t10 w =>
 CondV t10 (
 run1 Tryz.prog Z (Instr.indexAt 43 x0 t2) w fun t11 w =>
 run1 Tryz.prog Z (Instr.loadAt 160 t11) w fun t12 w =>
 run1 Tryz.prog Z (binOp .sub 3 (.int .i64 (-1000000)) t2) w fun t13 w =>
 run1 Tryz.prog Z (Instr.build 162 #[(0, t13)]) w fun t14 w =>
 run1 Tryz.prog Z (Instr.indexAt 160 t12 t6) w fun t15 w =>
 run0 Tryz.prog Z (Instr.storeAt 162 t15 t14) w fun w =>
 run1 Tryz.prog Z (binOp .add 3 t6 (.int .i64 1)) w fun t16 w =>
 ∃ n_5, n_5 < m_5 ∧ J_5 n_5 t16 w) (
 run1 Tryz.prog Z (binOp .add 3 t2 (.int .i64 1)) w fun t17 w =>
 ∃ n_1, n_1 < m_1 ∧ J_1 n_1 t17 w)) (
 CallV Tryz.prog Z 79 #[x0, (.int .i64 1)] w fun t18 w =>
 CallV Tryz.prog Z 79 #[x0, (.int .i64 24)] w fun t19 w =>
 guardW (t18) true (fun k => k (t19) w) (fun t20 w =>
 run1 Tryz.prog Z (pickV t18 t20 (.bool false)) w fun t21 w =>
 Q t21 w) w)
def f49.an : An := (.sq .leaf (.sq (.sq .leaf (.bl (.lp [3] (.sq (.sq .leaf (.cn .leaf .leaf)) (.sq (.bl (.sq .leaf (.bl (.lp [4] (.sq (.sq .leaf (.cn .leaf .leaf)) (.sq (.bl .leaf) .leaf)))))) .leaf))))) (.sq .leaf (.sq .leaf (.sq .leaf .leaf)))))
theorem f49.calls {Z : List PanicEntry → World → Prop} {x0 : Value} {w : World} {Q : Value → World → Prop} (h : f49.sh Z x0 w Q) : CallV Tryz.prog Z 49 #[x0] w Q :=
 cl Tryz.func49 f49.an [x0] (by kernel_rfl) (by kernel_rfl) h

def f50.sh (Z : List PanicEntry → World → Prop) (x0 : Value) (w : World) (Q : Value → World → Prop) : Prop :=
 ∃ J_1 : Nat → Value → World → Prop, (∃ m, J_1 m (.int .i64 0) w) ∧
 ∀ m_1, ∀ t2 : Value, ∀ w : World, J_1 m_1 t2 w → Env →
 run1 Tryz.prog Z (Builtin.len_ #[44] 3 #[x0]) w fun t3 w =>
 run1 Tryz.prog Z (binOp .lss 3 t2 t3) w fun t4 w =>
 CondV t4 (
 ∃ J_5 : Nat → Value → World → Prop, (∃ m, J_5 m (.int .i64 0) w) ∧
 ∀ m_5, ∀ t6 : Value, ∀ w : World, J_5 m_5 t6 w → Env →
 run1 Tryz.prog Z (Instr.indexAt 44 x0 t2) w fun t7 w =>
 run1 Tryz.prog Z (Instr.loadAt 164 t7) w fun t8 w =>
 run1 Tryz.prog Z (Builtin.len_ #[164] 3 #[t8]) w fun t9 w =>
 run1 Tryz.prog Z (binOp .lss 3 t6 t9) w fun t10 w =>
 CondV t10 (
 Drawn w fun w =>
 Pure1 Tryz.prog (Instr.indexAt 44 x0 t2) fun t11 =>
 Read1 Tryz.prog (Instr.loadAt 164 t11) w fun t12 =>
 Pure1 Tryz.prog (binOp .sub 3 (.int .i64 (-1000000)) t2) fun t13 =>
 CallV Tryz.prog Z 70 #[t13] w fun t14 w =>
 Still Tryz.prog (nx (Instr.loadAt 164 t11)) t12 w <|
 Pure1 Tryz.prog (Instr.build 166 #[(1, t14)]) fun t15 =>
 Pure1 Tryz.prog (Instr.indexAt 164 t12 t6) fun t16 =>
 run0 Tryz.prog Z (Instr.storeAt 166 t16 t15) w fun w =>
 run1 Tryz.prog Z (binOp .add 3 t6 (.int .i64 1)) w fun t17 w =>
 ∃ n_5, n_5 < m_5 ∧ J_5 n_5 t17 w) (
 run1 Tryz.prog Z (binOp .add 3 t2 (.int .i64 1)) w fun t18 w =>
 ∃ n_1, n_1 < m_1 ∧ J_1 n_1 t18 w)) (
 CallV Tryz.prog Z 80 #[x0, (.int .i64 1)] w fun t19 w =>
 CallV Tryz.prog Z 80 #[x0, (.int .i64 24)] w fun t20 w =>
 guardW (t19) true (fun k => k (t20) w) (fun t21 w =>
 run1 Tryz.prog Z (pickV t19 t21 (.bool false)) w fun t22 w =>
 Q t22 w) w)
def f50.an : An := (.sq .leaf (.sq (.sq .leaf (.bl (.lp [3] (.sq (.sq .leaf (.cn .leaf .leaf)) (.sq (.bl (.sq .leaf (.bl (.lp [4] (.sq (.sq .leaf (.cn .leaf .leaf)) (.sq (.bl (.dr (pl [0, 4, 8, 13, 16, 20, 24, 30, 32, 36, 42] .fin))) .leaf)))))) .leaf))))) (.sq .leaf (.sq .leaf (.sq .leaf .leaf)))))
theorem f50.calls {Z : List PanicEntry → World → Prop} {x0 : Value} {w : World} {Q : Value → World → Prop} (h : f50.sh Z x0 w Q) : CallV Tryz.prog Z 50 #[x0] w Q :=
 cl Tryz.func50 f50.an [x0] (by kernel_rfl) (by kernel_rfl) h

def f51.sh (Z : List PanicEntry → World → Prop) (x0 : Value) (w : World) (Q : Value → World → Prop) : Prop :=
 ∃ J_1 : Nat → Value → World → Prop, (∃ m, J_1 m (.int .i64 0) w) ∧
 ∀ m_1, ∀ t2 : Value, ∀ w : World, J_1 m_1 t2 w → Env →
 run1 Tryz.prog Z (Builtin.len_ #[45] 3 #[x0]) w fun t3 w =>
 run1 Tryz.prog Z (binOp .lss 3 t2 t3) w fun t4 w =>
 CondV t4 (
 ∃ J_5 : Nat → Value → World → Prop, (∃ m, J_5 m (.int .i64 0) w) ∧
 ∀ m_5, ∀ t6 : Value, ∀ w : World, J_5 m_5 t6 w → Env →
 run1 Tryz.prog Z (Instr.indexAt 45 x0 t2) w fun t7 w =>
 run1 Tryz.prog Z (Instr.loadAt 22 t7) w fun t8 w =>
 run1 Tryz.prog Z (Builtin.len_ #[22] 3 #[t8]) w fun t9 w =>
 run1 Tryz.prog Z (binOp .lss 3 t6 t9) w fun t10 w =>
 CondV t10 (
 Drawn w fun w =>
 Pure1 Tryz.prog (Instr.indexAt 45 x0 t2) fun t11 =>
 Read1 Tryz.prog (Instr.loadAt 22 t11) w fun t12 =>
 Pure1 Tryz.prog (binOp .sub 3 (.int .i64 (-1000000)) t2) fun t13 =>
 CallV Tryz.prog Z 70 #[t13] w fun t14 w =>
 Still Tryz.prog (nx (Instr.loadAt 22 t11)) t12 w <|
 Pure1 Tryz.prog (Instr.build 71 #[(0, t14)]) fun t15 =>
 Pure1 Tryz.prog (Instr.indexAt 22 t12 t6) fun t16 =>
 run0 Tryz.prog Z (Instr.storeAt 71 t16 t15) w fun w =>
 run1 Tryz.prog Z (binOp .add 3 t6 (.int .i64 1)) w fun t17 w =>
 ∃ n_5, n_5 < m_5 ∧ J_5 n_5 t17 w) (
 run1 Tryz.prog Z (binOp .add 3 t2 (.int .i64 1)) w fun t18 w =>
 ∃ n_1, n_1 < m_1 ∧ J_1 n_1 t18 w)) (
 CallV Tryz.prog Z 81 #[x0, (.int .i64 1)] w fun t19 w =>
 CallV Tryz.prog Z 81 #[x0, (.int .i64 24)] w fun t20 w =>
 guardW (t19) true (fun k => k (t20) w) (fun t21 w =>
 run1 Tryz.prog Z (pickV t19 t21 (.bool false)) w fun t22 w =>
 Q t22 w) w)
def f51.an : An := (.sq .leaf (.sq (.sq .leaf (.bl (.lp [3] (.sq (.sq .leaf (.cn .leaf .leaf)) (.sq (.bl (.sq .leaf (.bl (.lp [4] (.sq (.sq .leaf (.cn .leaf .leaf)) (.sq (.bl (.dr (pl [0, 4, 8, 13, 16, 20, 24, 30, 32, 36, 42] .fin))) .leaf)))))) .leaf))))) (.sq .leaf (.sq .leaf (.sq .leaf .leaf)))))
theorem f51.calls {Z : List PanicEntry → World → Prop} {x0 : Value} {w : World} {Q : Value → World → Prop} (h : f51.sh Z x0 w Q) : CallV Tryz.prog Z 51 #[x0] w Q :=
 cl Tryz.func51 f51.an [x0] (by kernel_rfl) (by kernel_rfl) h

def f52.sh (Z : List PanicEntry → World → Prop) (x0 : Value) (w : World) (Q : Value → World → Prop) : Prop :=
 ∃ J_1 : Nat → Value → World → Prop, (∃ m, J_1 m (.int .i64 0) w) ∧
 ∀ m_1, ∀ t2 : Value, ∀ w : World, J_1 m_1 t2 w → Env →
 run1 Tryz.prog Z (Builtin.len_ #[46] 3 #[x0]) w fun t3 w =>
 run1 Tryz.prog Z (binOp .lss 3 t2 t3) w fun t4 w =>
 CondV t4 (
 ∃ J_5 : Nat → Value → World → Prop, (∃ m, J_5 m (.int .i64 0) w) ∧
 ∀ m_5, ∀ t6 : Value, ∀ w : World, J_5 m_5 t6 w → Env →
 run1 Tryz.prog Z (Instr.indexAt 46 x0 t2) w fun t7 w =>
 run1 Tryz.prog Z (Instr.loadAt 169 t7) w fun t8 w =>
 run1 Tryz.prog Z (Builtin.len_ #[169] 3 #[t8]) w fun t9 w =>
 run1 Tryz.prog Z (binOp .lss 3 t6 t9) w fun t10 w =>
 CondV t10 (
 run1 Tryz.prog Z (Instr.indexAt 46 x0 t2) w fun t11 w =>
 run1 Tryz.prog Z (Instr.loadAt 169 t11) w fun t12 w =>
 run1 Tryz.prog Z (binOp .sub 3 (.int .i64 (-1000000)) t2) w fun t13 w =>
 run1 Tryz.prog Z (Instr.build 173 #[(3, t13)]) w fun t14 w =>
 run1 Tryz.prog Z (Instr.indexAt 169 t12 t6) w fun t15 w =>
 run0 Tryz.prog Z (Instr.storeAt 173 t15 t14) w fun w =>
 run1 Tryz.prog Z (binOp .add 3 t6 (.int .i64 1)) w fun t16 w =>
 ∃ n_5, n_5 < m_5 ∧ J_5 n_5 t16 w) (
 run1 Tryz.prog Z (binOp .add 3 t2 (.int .i64 1)) w fun t17 w =>
 ∃ n_1, n_1 < m_1 ∧ J_1 n_1 t17 w)) (
 CallV Tryz.prog Z 82 #[x0, (.int .i64 1)] w fun t18 w =>
 CallV Tryz.prog Z 82 #[x0, (.int .i64 24)] w fun t19 w =>
 guardW (t18) true (fun k => k (t19) w) (fun t20 w =>
 run1 Tryz.prog Z (pickV t18 t20 (.bool false)) w fun t21 w =>
 Q t21 w) w)
def f52.an : An := (.sq .leaf (.sq (.sq .leaf (.bl (.lp [3] (.sq (.sq .leaf (.cn .leaf .leaf)) (.sq (.bl (.sq .leaf (.bl (.lp [4] (.sq (.sq .leaf (.cn .leaf .leaf)) (.sq (.bl .leaf) .leaf)))))) .leaf))))) (.sq .leaf (.sq .leaf (.sq .leaf .leaf)))))
theorem f52.calls {Z : List PanicEntry → World → Prop} {x0 : Value} {w : World} {Q : Value → World → Prop} (h : f52.sh Z x0 w Q) : CallV Tryz.prog Z 52 #[x0] w Q :=
 cl Tryz.func52 f52.an [x0] (by kernel_rfl) (by kernel_rfl) h

def f53.sh (Z : List PanicEntry → World → Prop) (x0 : Value) (w : World) (Q : Value → World → Prop) : Prop :=
 ∃ J_1 : Nat → Value → World → Prop, (∃ m, J_1 m (.int .i64 0) w) ∧
 ∀ m_1, ∀ t2 : Value, ∀ w : World, J_1 m_1 t2 w → Env →
 run1 Tryz.prog Z (Builtin.len_ #[47] 3 #[x0]) w fun t3 w =>
 run1 Tryz.prog Z (binOp .lss 3 t2 t3) w fun t4 w =>
 CondV t4 (
 ∃ J_5 : Nat → Value → World → Prop, (∃ m, J_5 m (.int .i64 0) w) ∧
 ∀ m_5, ∀ t6 : Value, ∀ w : World, J_5 m_5 t6 w → Env →
 run1 Tryz.prog Z (Instr.indexAt 47 x0 t2) w fun t7 w =>
 run1 Tryz.prog Z (Instr.loadAt 175 t7) w fun t8 w =>
 run1 Tryz.prog Z (Builtin.len_ #[175] 3 #[t8]) w fun t9 w =>
 run1 Tryz.prog Z (binOp .lss 3 t6 t9) w fun t10 w =>
 CondV t10 (
 Drawn w fun w =>
 Pure1 Tryz.prog (Instr.indexAt 47 x0 t2) fun t11 =>
 Read1 Tryz.prog (Instr.loadAt 175 t11) w fun t12 =>
 Pure1 Tryz.prog (binOp .sub 3 (.int .i64 (-1000000)) t2) fun t13 =>
 CallV Tryz.prog Z 70 #[t13] w fun t14 w =>
 Still Tryz.prog (nx (Instr.loadAt 175 t11)) t12 w <|
 run1 Tryz.prog Z (convert 9 58 t14) w fun t15 w =>
 Still Tryz.prog (nx (Instr.loadAt 175 t11)) t12 w <|
 Pure1 Tryz.prog (Instr.build 177 #[(2, t15)]) fun t16 =>
 Pure1 Tryz.prog (Instr.indexAt 175 t12 t6) fun t17 =>
 run0 Tryz.prog Z (Instr.storeAt 177 t17 t16) w fun w =>
 run1 Tryz.prog Z (binOp .add 3 t6 (.int .i64 1)) w fun t18 w =>
 ∃ n_5, n_5 < m_5 ∧ J_5 n_5 t18 w) (
 run1 Tryz.prog Z (binOp .add 3 t2 (.int .i64 1)) w fun t19 w =>
 ∃ n_1, n_1 < m_1 ∧ J_1 n_1 t19 w)) (
 CallV Tryz.prog Z 83 #[x0, (.int .i64 1)] w fun t20 w =>
 CallV Tryz.prog Z 83 #[x0, (.int .i64 24)] w fun t21 w =>
 guardW (t20) true (fun k => k (t21) w) (fun t22 w =>
 run1 Tryz.prog Z (pickV t20 t22 (.bool false)) w fun t23 w =>
 Q t23 w) w)
def f53.an : An := (.sq .leaf (.sq (.sq .leaf (.bl (.lp [3] (.sq (.sq .leaf (.cn .leaf .leaf)) (.sq (.bl (.sq .leaf (.bl (.lp [4] (.sq (.sq .leaf (.cn .leaf .leaf)) (.sq (.bl (.dr (pl [0, 4, 8, 13, 16, 20, 24, 30, 34, 36, 40, 46] .fin))) .leaf)))))) .leaf))))) (.sq .leaf (.sq .leaf (.sq .leaf .leaf)))))
theorem f53.calls {Z : List PanicEntry → World → Prop} {x0 : Value} {w : World} {Q : Value → World → Prop} (h : f53.sh Z x0 w Q) : CallV Tryz.prog Z 53 #[x0] w Q :=
 cl Tryz.func53 f53.an [x0] (by kernel_rfl) (by kernel_rfl) h

def f54.sh (Z : List PanicEntry → World → Prop) (x0 : Value) (w : World) (Q : Value → World → Prop) : Prop :=
 ∃ J_1 : Nat → Value → World → Prop, (∃ m, J_1 m (.int .i64 0) w) ∧
 ∀ m_1, ∀ t2 : Value, ∀ w : World, J_1 m_1 t2 w → Env →
 run1 Tryz.prog Z (Builtin.len_ #[48] 3 #[x0]) w fun t3 w =>
 run1 Tryz.prog Z (binOp .lss 3 t2 t3) w fun t4 w =>
 CondV t4 (
 ∃ J_5 : Nat → Value → World → Prop, (∃ m, J_5 m (.int .i64 0) w) ∧
 ∀ m_5, ∀ t6 : Value, ∀ w : World, J_5 m_5 t6 w → Env →
 run1 Tryz.prog Z (Instr.indexAt 48 x0 t2) w fun t7 w =>
 run1 Tryz.prog Z (Instr.loadAt 179 t7) w fun t8 w =>
 run1 Tryz.prog Z (Builtin.len_ #[179] 3 #[t8]) w fun t9 w =>
 run1 Tryz.prog Z (binOp .lss 3 t6 t9) w fun t10 w =>
 CondV t10 (
 run1 Tryz.prog Z (Instr.indexAt 48 x0 t2) w fun t11 w =>
 run1 Tryz.prog Z (Instr.loadAt 179 t11) w fun t12 w =>
 run1 Tryz.prog Z (binOp .sub 3 (.int .i64 (-1000000)) t2) w fun t13 w =>
 run1 Tryz.prog Z (Instr.build 181 #[(0, t13)]) w fun t14 w =>
 run1 Tryz.prog Z (Instr.indexAt 179 t12 t6) w fun t15 w =>
 run0 Tryz.prog Z (Instr.storeAt 181 t15 t14) w fun w =>
 run1 Tryz.prog Z (binOp .add 3 t6 (.int .i64 1)) w fun t16 w =>
 ∃ n_5, n_5 < m_5 ∧ J_5 n_5 t16 w) (
 run1 Tryz.prog Z (binOp .add 3 t2 (.int .i64 1)) w fun t17 w =>
 ∃ n_1, n_1 < m_1 ∧ J_1 n_1 t17 w)) (
 CallV Tryz.prog Z 84 #[x0, (.int .i64 1)] w fun t18 w =>
 CallV Tryz.prog Z 84 #[x0, (.int .i64 24)] w fun t19 w =>
 guardW (t18) true (fun k => k (t19) w) (fun t20 w =>
 run1 Tryz.prog Z (pickV t18 t20 (.bool false)) w fun t21 w =>
 Q t21 w) w)
def f54.an : An := (.sq .leaf (.sq (.sq .leaf (.bl (.lp [3] (.sq (.sq .leaf (.cn .leaf .leaf)) (.sq (.bl (.sq .leaf (.bl (.lp [4] (.sq (.sq .leaf (.cn .leaf .leaf)) (.sq (.bl .leaf) .leaf)))))) .leaf))))) (.sq .leaf (.sq .leaf (.sq .leaf .leaf)))))
theorem f54.calls {Z : List PanicEntry → World → Prop} {x0 : Value} {w : World} {Q : Value → World → Prop} (h : f54.sh Z x0 w Q) : CallV Tryz.prog Z 54 #[x0] w Q :=
 cl Tryz.func54 f54.an [x0] (by kernel_rfl) (by kernel_rfl) h

def f55.sh (Z : List PanicEntry → World → Prop) (x0 : Value) (w : World) (Q : Value → World → Prop) : Prop :=
 ∃ J_1 : Nat → Value → World → Prop, (∃ m, J_1 m (.int .i64 0) w) ∧
 ∀ m_1, ∀ t2 : Value, ∀ w : World, J_1 m_1 t2 w → Env →
 run1 Tryz.prog Z (Builtin.len_ #[49] 3 #[x0]) w fun t3 w =>
 run1 Tryz.prog Z (binOp .lss 3 t2 t3) w fun t4 w =>
 CondV t4 (
 ∃ J_5 : Nat → Value → World → Prop, (∃ m, J_5 m (.int .i64 0) w) ∧
 ∀ m_5, ∀ t6 : Value, ∀ w : World, J_5 m_5 t6 w → Env →
 run1 Tryz.prog Z (Instr.indexAt 49 x0 t2) w fun t7 w =>
 run1 Tryz.prog Z (Instr.loadAt 183 t7) w fun t8 w =>
 run1 Tryz.prog Z (Builtin.len_ #[183] 3 #[t8]) w fun t9 w =>
 run1 Tryz.prog Z (binOp .lss 3 t6 t9) w fun t10 w =>
 CondV t10 (
 run1 Tryz.prog Z (Instr.indexAt 49 x0 t2) w fun t11 w =>
 run1 Tryz.prog Z (Instr.loadAt 183 t11) w fun t12 w =>
 run1 Tryz.prog Z (binOp .sub 3 (.int .i64 (-1000000)) t2) w fun t13 w =>
 run1 Tryz.prog Z (Instr.build 181 #[(0, t13)]) w fun t14 w =>
 run1 Tryz.prog Z (Instr.build 185 #[(0, t14)]) w fun t15 w =>
 run1 Tryz.prog Z (Instr.indexAt 183 t12 t6) w fun t16 w =>
 run0 Tryz.prog Z (Instr.storeAt 185 t16 t15) w fun w =>
 run1 Tryz.prog Z (binOp .add 3 t6 (.int .i64 1)) w fun t17 w =>
 ∃ n_5, n_5 < m_5 ∧ J_5 n_5 t17 w) (
 run1 Tryz.prog Z (binOp .add 3 t2 (.int .i64 1)) w fun t18 w =>
 ∃ n_1, n_1 < m_1 ∧ J_1 n_1 t18 w)) (
 CallV Tryz.prog Z 85 #[x0, (.int .i64 1)] w fun t19 w =>
 CallV Tryz.prog Z 85 #[x0, (.int .i64 24)] w fun t20 w =>
 guardW (t19) true (fun k => k (t20) w) (fun t21 w =>
 run1 Tryz.prog Z (pickV t19 t21 (.bool false)) w fun t22 w =>
 Q t22 w) w)
def f55.an : An := (.sq .leaf (.sq (.sq .leaf (.bl (.lp [3] (.sq (.sq .leaf (.cn .leaf .leaf)) (.sq (.bl (.sq .leaf (.bl (.lp [4] (.sq (.sq .leaf (.cn .leaf .leaf)) (.sq (.bl .leaf) .leaf)))))) .leaf))))) (.sq .leaf (.sq .leaf (.sq .leaf .leaf)))))
theorem f55.calls {Z : List PanicEntry → World → Prop} {x0 : Value} {w : World} {Q : Value → World → Prop} (h : f55.sh Z x0 w Q) : CallV Tryz.prog Z 55 #[x0] w Q :=
 cl Tryz.func55 f55.an [x0] (by kernel_rfl) (by kernel_rfl) h

def f56.sh (Z : List PanicEntry → World → Prop) (x0 : Value) (w : World) (Q : Value → World → Prop) : Prop :=
 ∃ J_1 : Nat → Value → World → Prop, (∃ m, J_1 m (.int .i64 0) w) ∧
 ∀ m_1, ∀ t2 : Value, ∀ w : World, J_1 m_1 t2 w → Env →
 run1 Tryz.prog Z (Builtin.len_ #[50] 3 #[x0]) w fun t3 w =>
 run1 Tryz.prog Z (binOp .lss 3 t2 t3) w fun t4 w =>
 CondV t4 (
 ∃ J_5 : Nat → Value → World → Prop, (∃ m, J_5 m (.int .i64 0) w) ∧
 ∀ m_5, ∀ t6 : Value, ∀ w : World, J_5 m_5 t6 w → Env →
 run1 Tryz.prog Z (Instr.indexAt 50 x0 t2) w fun t7 w =>
 run1 Tryz.prog Z (Instr.loadAt 187 t7) w fun t8 w =>
 run1 Tryz.prog Z (Builtin.len_ #[187] 3 #[t8]) w fun t9 w =>
 run1 Tryz.prog Z (binOp .lss 3 t6 t9) w fun t10 w =>
 CondV t10 (
 run1 Tryz.prog Z (Instr.indexAt 50 x0 t2) w fun t11 w =>
 run1 Tryz.prog Z (Instr.loadAt 187 t11) w fun t12 w =>
 run1 Tryz.prog Z (binOp .sub 3 (.int .i64 (-1000000)) t2) w fun t13 w =>
 run1 Tryz.prog Z (Instr.build 189 #[(6, t13)]) w fun t14 w =>
 run1 Tryz.prog Z (Instr.indexAt 187 t12 t6) w fun t15 w =>
 run0 Tryz.prog Z (Instr.storeAt 189 t15 t14) w fun w =>
 run1 Tryz.prog Z (binOp .add 3 t6 (.int .i64 1)) w fun t16 w =>
 ∃ n_5, n_5 < m_5 ∧ J_5 n_5 t16 w) (
 run1 Tryz.prog Z (binOp .add 3 t2 (.int .i64 1)) w fun t17 w =>
 ∃ n_1, n_1 < m_1 ∧ J_1 n_1 t17 w)) (
 CallV Tryz.prog Z 86 #[x0, (.int .i64 1)] w fun t18 w =>
 CallV Tryz.prog Z 86 #[x0, (.int .i64 24)] w fun t19 w =>
 guardW (t18) true (fun k => k (t19) w) (fun t20 w =>
 run1 Tryz.prog Z (pickV t18 t20 (.bool false)) w fun t21 w =>
 Q t21 w) w)
def f56.an : An := (.sq .leaf (.sq (.sq .leaf (.bl (.lp [3] (.sq (.sq .leaf (.cn .leaf .leaf)) (.sq (.bl (.sq .leaf (.bl (.lp [4] (.sq (.sq .leaf (.cn .leaf .leaf)) (.sq (.bl .leaf) .leaf)))))) .leaf))))) (.sq .leaf (.sq .leaf (.sq .leaf .leaf)))))
theorem f56.calls {Z : List PanicEntry → World → Prop} {x0 : Value} {w : World} {Q : Value → World → Prop} (h : f56.sh Z x0 w Q) : CallV Tryz.prog Z 56 #[x0] w Q :=
 cl Tryz.func56 f56.an [x0] (by kernel_rfl) (by kernel_rfl) h

def f57.sh (Z : List PanicEntry → World → Prop) (x0 : Value) (w : World) (Q : Value → World → Prop) : Prop :=
 ∃ J_1 : Nat → Value → World → Prop, (∃ m, J_1 m (.int .i64 0) w) ∧
 ∀ m_1, ∀ t2 : Value, ∀ w : World, J_1 m_1 t2 w → Env →
 run1 Tryz.prog Z (Builtin.len_ #[51] 3 #[x0]) w fun t3 w =>
 run1 Tryz.prog Z (binOp .lss 3 t2 t3) w fun t4 w =>
 CondV t4 (
 ∃ J_5 : Nat → Value → World → Prop, (∃ m, J_5 m (.int .i64 0) w) ∧
 ∀ m_5, ∀ t6 : Value, ∀ w : World, J_5 m_5 t6 w → Env →
 run1 Tryz.prog Z (Instr.indexAt 51 x0 t2) w fun t7 w =>
 run1 Tryz.prog Z (Instr.loadAt 191 t7) w fun t8 w =>
 run1 Tryz.prog Z (Builtin.len_ #[191] 3 #[t8]) w fun t9 w =>
 run1 Tryz.prog Z (binOp .lss 3 t6 t9) w fun t10 w =>
 CondV t10 (
 Drawn w fun w =>
 Pure1 Tryz.prog (Instr.indexAt 51 x0 t2) fun t11 =>
 Read1 Tryz.prog (Instr.loadAt 191 t11) w fun t12 =>
 Pure1 Tryz.prog (binOp .sub 3 (.int .i64 (-1000000)) t2) fun t13 =>
 CallV Tryz.prog Z 70 #[t13] w fun t14 w =>
 Still Tryz.prog (nx (Instr.loadAt 191 t11)) t12 w <|
 run1 Tryz.prog Z (convert 9 58 t14) w fun t15 w =>
 Still Tryz.prog (nx (Instr.loadAt 191 t11)) t12 w <|
 Pure1 Tryz.prog (Instr.build 193 #[(1, t15)]) fun t16 =>
 Pure1 Tryz.prog (Instr.indexAt 191 t12 t6) fun t17 =>
 run0 Tryz.prog Z (Instr.storeAt 193 t17 t16) w fun w =>
 run1 Tryz.prog Z (binOp .add 3 t6 (.int .i64 1)) w fun t18 w =>
 ∃ n_5, n_5 < m_5 ∧ J_5 n_5 t18 w) (
 run1 Tryz.prog Z (binOp .add 3 t2 (.int .i64 1)) w fun t19 w =>
 ∃ n_1, n_1 < m_1 ∧ J_1 n_1 t19 w)) (
 CallV Tryz.prog Z 87 #[x0, (.int .i64 1)] w fun t20 w =>
 CallV Tryz.prog Z 87 #[x0, (.int .i64 24)] w fun t21 w =>
 guardW (t20) true (fun k => k (t21) w) (fun t22 w =>
 run1 Tryz.prog Z (pickV t20 t22 (.bool false)) w fun t23 w =>
 Q t23 w) w)
def f57.an : An := (.sq .leaf (.sq (.sq .leaf (.bl (.lp [3] (.sq (.sq .leaf (.cn .leaf .leaf)) (.sq (.bl (.sq .leaf (.bl (.lp [4] (.sq (.sq .leaf (.cn .leaf .leaf)) (.sq (.bl (.dr (pl [0, 4, 8, 13, 16, 20, 24, 30, 34, 36, 40, 46] .fin))) .leaf)))))) .leaf))))) (.sq .leaf (.sq .leaf (.sq .leaf .leaf)))))
theorem f57.calls {Z : List PanicEntry → World → Prop} {x0 : Value} {w : World} {Q : Value → World → Prop} (h : f57.sh Z x0 w Q) : CallV Tryz.prog Z 57 #[x0] w Q :=
 cl Tryz.func57 f57.an [x0] (by kernel_rfl) (by kernel_rfl) h

def f58.sh (Z : List PanicEntry → World → Prop) (x0 : Value) (w : World) (Q : Value → World → Prop) : Prop :=
 ∃ J_1 : Nat → Value → World → Prop, (∃ m, J_1 m (.int .i64 0) w) ∧
 ∀ m_1, ∀ t2 : Value, ∀ w : World, J_1 m_1 t2 w → Env →
 run1 Tryz.prog Z (Builtin.len_ #[52] 3 #[x0]) w fun t3 w =>
 run1 Tryz.prog Z (binOp .lss 3 t2 t3) w fun t4 w =>
 CondV t4 (
 ∃ J_5 : Nat → Value → World → Prop, (∃ m, J_5 m (.int .i64 0) w) ∧
 ∀ m_5, ∀ t6 : Value, ∀ w : World, J_5 m_5 t6 w → Env →
 run1 Tryz.prog Z (Instr.indexAt 52 x0 t2) w fun t7 w =>
 run1 Tryz.prog Z (Instr.loadAt 195 t7) w fun t8 w =>
 run1 Tryz.prog Z (Builtin.len_ #[195] 3 #[t8]) w fun t9 w =>
 run1 Tryz.prog Z (binOp .lss 3 t6 t9) w fun t10 w =>
 CondV t10 (
 run1 Tryz.prog Z (Instr.indexAt 52 x0 t2) w fun t11 w =>
 run1 Tryz.prog Z (Instr.loadAt 195 t11) w fun t12 w =>
 run1 Tryz.prog Z (binOp .sub 3 (.int .i64 (-1000000)) t2) w fun t13 w =>
 run1 Tryz.prog Z (Instr.build 197 #[(4, t13)]) w fun t14 w =>
 run1 Tryz.prog Z (Instr.indexAt 195 t12 t6) w fun t15 w =>
 run0 Tryz.prog Z (Instr.storeAt 197 t15 t14) w fun w =>
 run1 Tryz.prog Z (binOp .add 3 t6 (.int .i64 1)) w fun t16 w =>
 ∃ n_5, n_5 < m_5 ∧ J_5 n_5 t16 w) (
 run1 Tryz.prog Z (binOp .add 3 t2 (.int .i64 1)) w fun t17 w =>
 ∃ n_1, n_1 < m_1 ∧ J_1 n_1 t17 w)) (
 CallV Tryz.prog Z 88 #[x0, (.int .i64 1)] w fun t18 w =>
 CallV Tryz.prog Z 88 #[x0, (.int .i64 24)] w fun t19 w =>
 guardW (t18) true (fun k => k (t19) w) (fun t20 w =>
 run1 Tryz.prog Z (pickV t18 t20 (.bool false)) w fun t21 w =>
 Q t21 w) w)
def f58.an : An := (.sq .leaf (.sq (.sq .leaf (.bl (.lp [3] (.sq (.sq .leaf (.cn .leaf .leaf)) (.sq (.bl (.sq .leaf (.bl (.lp [4] (.sq (.sq .leaf (.cn .leaf .leaf)) (.sq (.bl .leaf) .leaf)))))) .leaf))))) (.sq .leaf (.sq .leaf (.sq .leaf .leaf)))))
theorem f58.calls {Z : List PanicEntry → World → Prop} {x0 : Value} {w : World} {Q : Value → World → Prop} (h : f58.sh Z x0 w Q) : CallV Tryz.prog Z 58 #[x0] w Q :=
 cl Tryz.func58 f58.an [x0] (by kernel_rfl) (by kernel_rfl) h

def f59.sh (Z : List PanicEntry → World → Prop) (x0 : Value) (w : World) (Q : Value → World → Prop) : Prop :=
 ∃ J_1 : Nat → Value → World → Prop, (∃ m, J_1 m (.int .i64 0) w) ∧
 ∀ m_1, ∀ t2 : Value, ∀ w : World, J_1 m_1 t2 w → Env →
 run1 Tryz.prog Z (Builtin.len_ #[53] 3 #[x0]) w fun t3 w =>
 run1 Tryz.prog Z (binOp .lss 3 t2 t3) w fun t4 w =>
 CondV t4 (
 ∃ J_5 : Nat → Value → World → Prop, (∃ m, J_5 m (.int .i64 0) w) ∧
 ∀ m_5, ∀ t6 : Value, ∀ w : World, J_5 m_5 t6 w → Env →
 run1 Tryz.prog Z (Instr.indexAt 53 x0 t2) w fun t7 w =>
 run1 Tryz.prog Z (Instr.loadAt 50 t7) w fun t8 w =>
 run1 Tryz.prog Z (Builtin.len_ #[50] 3 #[t8]) w fun t9 w =>
 run1 Tryz.prog Z (binOp .lss 3 t6 t9) w fun t10 w =>
 CondV t10 (
 run1 Tryz.prog Z (Instr.indexAt 53 x0 t2) w fun t11 w =>
 run1 Tryz.prog Z (Instr.loadAt 50 t11) w fun t12 w =>
 run1 Tryz.prog Z (binOp .sub 3 (.int .i64 (-1000000)) t2) w fun t13 w =>
 run1 Tryz.prog Z (Instr.build 189 #[(6, t13)]) w fun t14 w =>
 run1 Tryz.prog Z (Instr.buildSlice 187 1 #[(0, t14)]) w fun t15 w =>
 run1 Tryz.prog Z (Instr.indexAt 50 t12 t6) w fun t16 w =>
 run0 Tryz.prog Z (Instr.storeAt 187 t16 t15) w fun w =>
 run1 Tryz.prog Z (binOp .add 3 t6 (.int .i64 1)) w fun t17 w =>
 ∃ n_5, n_5 < m_5 ∧ J_5 n_5 t17 w) (
 run1 Tryz.prog Z (binOp .add 3 t2 (.int .i64 1)) w fun t18 w =>
 ∃ n_1, n_1 < m_1 ∧ J_1 n_1 t18 w)) (
 CallV Tryz.prog Z 89 #[x0, (.int .i64 1)] w fun t19 w =>
 CallV Tryz.prog Z 89 #[x0, (.int .i64 24)] w fun t20 w =>
 guardW (t19) true (fun k => k (t20) w) (fun t21 w =>
 run1 Tryz.prog Z (pickV t19 t21 (.bool false)) w fun t22 w =>
 Q t22 w) w)
def f59.an : An := (.sq .leaf (.sq (.sq .leaf (.bl (.lp [3] (.sq (.sq .leaf (.cn .leaf .leaf)) (.sq (.bl (.sq .leaf (.bl (.lp [4] (.sq (.sq .leaf (.cn .leaf .leaf)) (.sq (.bl .leaf) .leaf)))))) .leaf))))) (.sq .leaf (.sq .leaf (.sq .leaf .leaf)))))
theorem f59.calls {Z : List PanicEntry → World → Prop} {x0 : Value} {w : World} {Q : Value → World → Prop} (h : f59.sh Z x0 w Q) : CallV Tryz.prog Z 59 #[x0] w Q :=
 cl Tryz.func59 f59.an [x0] (by kernel_rfl) (by kernel_rfl) h

def f60.sh (Z : List PanicEntry → World → Prop) (x0 x1 : Value) (w : World) (Q : Value → World → Prop) : Prop :=
 runX Tryz.prog Z (nilChk x0) w fun t1 w =>
 run1 Tryz.prog Z (Instr.fieldAt 87 t1 2) w fun t2 w =>
 run1 Tryz.prog Z (Instr.loadAt 4 t2) w fun t3 w =>
 run1 Tryz.prog Z (Op.unary .not t3) w fun t4 w =>
 CondV t4 (
 Q (Value.tuple #[(.int .i64 0), (.int .i64 23)]) w) (
 CallV Tryz.prog Z 27 #[x1] w fun t5 w =>
 run1 Tryz.prog Z (Op.unary .not t5) w fun t6 w =>
 CondV t6 (
 Q (Value.tuple #[(.int .i64 0), (.int .i64 22)]) w) (
 CallV Tryz.prog Z 28 #[x0, x1] w fun t7 w =>
 run1 Tryz.prog Z (binOp .lss 3 t7 (.int .i64 0)) w fun t8 w =>
 CondV t8 (
 Q (Value.tuple #[(.int .i64 0), (.int .i64 20)]) w) (
 Q (Value.tuple #[t7, (.int .i64 0)]) w)))
def f60.an : An := (.sq .leaf (.sq (.sq .leaf (.cn (.sq .leaf .leaf) .leaf)) (.sq (.sq .leaf (.cn (.sq .leaf .leaf) .leaf)) (.sq .leaf (.sq (.sq .leaf (.cn (.sq .leaf .leaf) .leaf)) (.sq .leaf .leaf))))))
theorem f60.calls {Z : List PanicEntry → World → Prop} {x0 x1 : Value} {w : World} {Q : Value → World → Prop} (h : f60.sh Z x0 x1 w Q) : CallV Tryz.prog Z 60 #[x0, x1] w Q :=
 cl Tryz.func60 f60.an [x0, x1] (by kernel_rfl) (by kernel_rfl) h

def f61.sh (Z : List PanicEntry → World → Prop) (x0 : Value) (w : World) (Q : Value → World → Prop) : Prop :=
 ∃ J_1 : Nat → Value → Value → World → Prop, (∃ m, J_1 m (.slice none 0 0) (.int .i64 0) w) ∧
 ∀ m_1, ∀ t2 : Value, ∀ t3 : Value, ∀ w : World, J_1 m_1 t2 t3 w → Env →
 run1 Tryz.prog Z (Builtin.len_ #[22] 3 #[x0]) w fun t4 w =>
 run1 Tryz.prog Z (binOp .lss 3 t3 t4) w fun t5 w =>
 CondV t5 (
 run1 Tryz.prog Z (Instr.indexAt 22 x0 t3) w fun t6 w =>
 run1 Tryz.prog Z (Instr.loadAt 71 t6) w fun t7 w =>
 run1 Tryz.prog Z (Instr.alloc 71 true (.tuple #[])) w fun t8 w =>
 run0 Tryz.prog Z (Instr.storeAt 71 t8 t7) w fun w =>
 run1 Tryz.prog Z (Instr.fieldAt 71 t8 1) w fun t9 w =>
 run1 Tryz.prog Z (Instr.loadAt 58 t9) w fun t10 w =>
 CallV Tryz.prog Z 31 #[t10] w fun t11 w =>
 run1 Tryz.prog Z (Instr.fieldAt 71 t8 1) w fun t12 w =>
 run0 Tryz.prog Z (Instr.storeAt 58 t12 t11) w fun w =>
 run1 Tryz.prog Z (Instr.loadAt 71 t8) w fun t13 w =>
 run1 Tryz.prog Z (Instr.buildSlice 22 1 #[(0, t13)]) w fun t14 w =>
 run1 Tryz.prog Z (Builtin.append_ #[22, 22] 22 #[t2, t14]) w fun t15 w =>
 run1 Tryz.prog Z (binOp .add 3 t3 (.int .i64 1)) w fun t16 w =>
 ∃ n_1, n_1 < m_1 ∧ J_1 n_1 t15 t16 w) (
 Q t2 w)
def f61.an : An := (.sq .leaf (.sq .leaf (.sq (.sq .leaf (.bl (.lp [3, 4] (.sq (.sq .leaf (.cn .leaf .leaf)) (.sq (.bl (.sq .leaf (.sq .leaf .leaf))) .leaf))))) (.sq .leaf .leaf))))
theorem f61.calls {Z : List PanicEntry → World → Prop} {x0 : Value} {w : World} {Q : Value → World → Prop} (h : f61.sh Z x0 w Q) : CallV Tryz.prog Z 61 #[x0] w Q :=
 cl Tryz.func61 f61.an [x0] (by kernel_rfl) (by kernel_rfl) h

def f62.sh (Z : List PanicEntry → World → Prop) (x0 : Value) (w : World) (Q : Value → World → Prop) : Prop :=
 CallV Tryz.prog Z 38 #[x0] w fun t1 w =>
 run1 Tryz.prog Z (Op.unary .not t1) w fun t2 w =>
 guardW (t2) true (fun k => k (x0) w) (fun t3 w =>
 guardW (t2) true (fun k => runX Tryz.prog Z (nilChk t3) w k) (fun t4 w =>
 guardW (t2) true (fun k => run1 Tryz.prog Z (Instr.fieldAt 79 t4 3) w k) (fun t5 w =>
 guardW (t2) true (fun k => run1 Tryz.prog Z (Instr.loadAt 4 t5) w k) (fun t6 w =>
 run1 Tryz.prog Z (pickV t2 t6 (.bool false)) w fun t7 w =>
 Q t7 w) w) w) w) w
def f62.an : An := (.sq .leaf (.sq .leaf .leaf))
theorem f62.calls {Z : List PanicEntry → World → Prop} {x0 : Value} {w : World} {Q : Value → World → Prop} (h : f62.sh Z x0 w Q) : CallV Tryz.prog Z 62 #[x0] w Q :=
 cl Tryz.func62 f62.an [x0] (by kernel_rfl) (by kernel_rfl) h

def f63.sh (Z : List PanicEntry → World → Prop) (x0 : Value) (w : World) (Q : Value → World → Prop) : Prop :=
 CallV Tryz.prog Z 38 #[x0] w fun t1 w =>
 CondV t1 (
 Q (.int .i64 0) w) (
 runX Tryz.prog Z (nilChk x0) w fun t2 w =>
 run1 Tryz.prog Z (Instr.fieldAt 79 t2 0) w fun t3 w =>
 run1 Tryz.prog Z (Instr.fieldAt 77 t3 1) w fun t4 w =>
 run1 Tryz.prog Z (Instr.loadAt 3 t4) w fun t5 w =>
 Q t5 w)
def f63.an : An := (.sq .leaf (.sq (.sq .leaf (.cn (.sq .leaf .leaf) .leaf)) (.sq .leaf .leaf)))
theorem f63.calls {Z : List PanicEntry → World → Prop} {x0 : Value} {w : World} {Q : Value → World → Prop} (h : f63.sh Z x0 w Q) : CallV Tryz.prog Z 63 #[x0] w Q :=
 cl Tryz.func63 f63.an [x0] (by kernel_rfl) (by kernel_rfl) h

def f64.sh (Z : List PanicEntry → World → Prop) (x0 : Value) (w : World) (Q : Value → World → Prop) : Prop :=
 CallV Tryz.prog Z 38 #[x0] w fun t1 w =>
 CondV t1 (
 Q (.int .i64 0) w) (
 runX Tryz.prog Z (nilChk x0) w fun t2 w =>
 run1 Tryz.prog Z (Instr.fieldAt 79 t2 6) w fun t3 w =>
 run1 Tryz.prog Z (Instr.loadAt 3 t3) w fun t4 w =>
 Q t4 w)
def f64.an : An := (.sq .leaf (.sq (.sq .leaf (.cn (.sq .leaf .leaf) .leaf)) (.sq .leaf .leaf)))
theorem f64.calls {Z : List PanicEntry → World → Prop} {x0 : Value} {w : World} {Q : Value → World → Prop} (h : f64.sh Z x0 w Q) : CallV Tryz.prog Z 64 #[x0] w Q :=
 cl Tryz.func64 f64.an [x0] (by kernel_rfl) (by kernel_rfl) h

def f65.sh (Z : List PanicEntry → World → Prop) (x0 x1 x2 : Value) (w : World) (Q : Value → World → Prop) : Prop :=
 run1 Tryz.prog Z (Instr.sliceAt 75 x0 (some x1) none none) w fun t1 w =>
 run1 Tryz.prog Z (Builtin.len_ #[75] 3 #[x2]) w fun t2 w =>
 run1 Tryz.prog Z (eqOp .eql 3 false true t2 (.int .i64 0)) w fun t3 w =>
 CondV t3 (
 Q x0 w) (
 run1 Tryz.prog Z (Builtin.len_ #[75] 3 #[x0]) w fun t4 w =>
 run1 Tryz.prog Z (eqOp .eql 3 false false x1 t4) w fun t5 w =>
 CondV t5 (
 run1 Tryz.prog Z (Builtin.append_ #[75, 75] 75 #[x0, x2]) w fun t6 w =>
 Q t6 w) (
 run1 Tryz.prog Z (binOp .add 3 t4 t2) w fun t7 w =>
 run1 Tryz.prog Z (Builtin.cap_ #[75] 3 #[x0]) w fun t8 w =>
 run1 Tryz.prog Z (binOp .gtr 3 t7 t8) w fun t9 w =>
 CondV t9 (
 run1 Tryz.prog Z (Instr.sliceAt 75 x0 none (some x1) none) w fun t10 w =>
 run1 Tryz.prog Z (binOp .add 3 t4 t2) w fun t11 w =>
 run1 Tryz.prog Z (binOp .sub 3 t11 x1) w fun t12 w =>
 run1 Tryz.prog Z (Builtin.append_ #[75, 3] 75 #[t10, t12]) w fun t13 w =>
 run1 Tryz.prog Z (Instr.sliceAt 75 t13 (some x1) none none) w fun t14 w =>
 run1 Tryz.prog Z (Builtin.copy_ #[75, 75] 3 #[t14, x2]) w fun t15 w =>
 Drawn w fun w =>
 Pure1 Tryz.prog (binOp .add 3 x1 t2) fun t16 =>
 Pure1 Tryz.prog (Instr.sliceAt 75 t13 (some t16) none none) fun t17 =>
 Pure1 Tryz.prog (Instr.sliceAt 75 x0 (some x1) none none) fun t18 =>
 run1 Tryz.prog Z (Builtin.copy_ #[75, 75] 3 #[t17, t18]) w fun t19 w =>
 Q t13 w) (
 run1 Tryz.prog Z (binOp .add 3 t4 t2) w fun t20 w =>
 run1 Tryz.prog Z (Instr.sliceAt 75 x0 none (some t20) none) w fun t21 w =>
 run1 Tryz.prog Z (binOp .add 3 x1 t2) w fun t22 w =>
 run1 Tryz.prog Z (Instr.sliceAt 75 t21 (some t22) none none) w fun t23 w =>
 runX Tryz.prog Z (callFunc 90 #[x2, t23]) w fun t24 w =>
 run1 Tryz.prog Z (Op.unary .not t24) w fun t25 w =>
 CondV t25 (
 Drawn w fun w =>
 Pure1 Tryz.prog (binOp .add 3 x1 t2) fun t26 =>
 Pure1 Tryz.prog (Instr.sliceAt 75 t21 (some t26) none none) fun t27 =>
 Pure1 Tryz.prog (Instr.sliceAt 75 t21 (some x1) none none) fun t28 =>
 run1 Tryz.prog Z (Builtin.copy_ #[75, 75] 3 #[t27, t28]) w fun t29 w =>
 run1 Tryz.prog Z (Instr.sliceAt 75 t21 (some x1) none none) w fun t30 w =>
 run1 Tryz.prog Z (Builtin.copy_ #[75, 75] 3 #[t30, x2]) w fun t31 w =>
 Q t21 w) (
 run1 Tryz.prog Z (Instr.sliceAt 75 t21 (some t4) none none) w fun t32 w =>
 run1 Tryz.prog Z (Builtin.copy_ #[75, 75] 3 #[t32, x2]) w fun t33 w =>
 run1 Tryz.prog Z (Instr.sliceAt 75 t21 (some x1) none none) w fun t34 w =>
 CallV Tryz.prog Z 91 #[t34, t2] w fun t35 w =>
 Q t21 w))))
def f65.an : An := (.sq .leaf (.sq .leaf (.sq .leaf (.sq (.sq .leaf (.cn (.sq .leaf .leaf) .leaf)) (.sq .leaf (.sq (.sq .leaf (.cn (.sq .leaf .leaf) .leaf)) (.sq (.sq .leaf (.cn (.sq .leaf (.sq .leaf (.sq (.dr (pl [0, 4, 8, 12, 16, 20, 24, 28, 34] .fin)) (.sq .leaf .leaf)))) .leaf)) (.sq .leaf (.sq (.sq .leaf (.cn (.sq (.dr (pl [0, 4, 8, 12, 16, 20, 24, 28, 34] .fin)) (.sq .leaf (.sq .leaf .leaf))) .leaf)) (.sq .leaf (.sq .leaf (.sq .leaf .leaf))))))))))))
theorem f65.calls {Z : List PanicEntry → World → Prop} {x0 x1 x2 : Value} {w : World} {Q : Value → World → Prop} (h : f65.sh Z x0 x1 x2 w Q) : CallV Tryz.prog Z 65 #[x0, x1, x2] w Q :=
 cl Tryz.func65 f65.an [x0, x1, x2] (by kernel_rfl) (by kernel_rfl) h

def f66.sh (Z : List PanicEntry → World → Prop) (x0 x1 : Value) (w : World) (Q : Value → World → Prop) : Prop :=
 CallV Tryz.prog Z 38 #[x0] w fun t1 w =>
 CondV t1 (
 Q (.int .i64 1) w) (
 runX Tryz.prog Z (nilChk x0) w fun t2 w =>
 run1 Tryz.prog Z (Instr.fieldAt 79 t2 3) w fun t3 w =>
 run1 Tryz.prog Z (Instr.loadAt 4 t3) w fun t4 w =>
 run1 Tryz.prog Z (Op.unary .not t4) w fun t5 w =>
 CondV t5 (
 Q (.int .i64 23) w) (
 run1 Tryz.prog Z (Builtin.len_ #[56] 3 #[x1]) w fun t6 w =>
 ∃ J_7 : Nat → Value → World → Prop, (∃ m, J_7 m (.int .i64 0) w) ∧
 ∀ m_7, ∀ t8 : Value, ∀ w : World, J_7 m_7 t8 w → Env →
 run1 Tryz.prog Z (binOp .lss 3 t8 t6) w fun t9 w =>
 CondV t9 (
 run1 Tryz.prog Z (Instr.indexAt 56 x1 t8) w fun t10 w =>
 run1 Tryz.prog Z (Instr.loadAt 9 t10) w fun t11 w =>
 CallV Tryz.prog Z 24 #[t11] w fun t12 w =>
 run1 Tryz.prog Z (Op.unary .not t12) w fun t13 w =>
 CondV t13 (
 Q (.int .i64 22) w) (
 run1 Tryz.prog Z (binOp .add 3 t8 (.int .i64 1)) w fun t14 w =>
 ∃ n_7, n_7 < m_7 ∧ J_7 n_7 t14 w)) (
 Q (.int .i64 0) w)))
def f66.an : An := (.sq .leaf (.sq (.bl (.sq .leaf (.cn (.sq .leaf .leaf) (.sq .leaf (.cn (.sq .leaf .leaf) .leaf))))) (.sq (.sq .leaf (.bl (.lp [18] (.sq .leaf (.sq (.cn .leaf .leaf) (.sq (.bl (.sq .leaf (.sq .leaf (.cn (.sq .leaf .leaf) .leaf)))) .leaf)))))) (.sq .leaf .leaf))))
theorem f66.calls {Z : List PanicEntry → World → Prop} {x0 x1 : Value} {w : World} {Q : Value → World → Prop} (h : f66.sh Z x0 x1 w Q) : CallV Tryz.prog Z 66 #[x0, x1] w Q :=
 cl Tryz.func66 f66.an [x0, x1] (by kernel_rfl) (by kernel_rfl) h

def f67.sh (Z : List PanicEntry → World → Prop) (x0 : Value) (w : World) (Q : Value → World → Prop) : Prop :=
 runX Tryz.prog Z (nilChk x0) w fun t1 w =>
 run1 Tryz.prog Z (Instr.fieldAt 79 t1 4) w fun t2 w =>
 run1 Tryz.prog Z (Instr.loadAt 4 t2) w fun t3 w =>
 guardW (t3) true (fun k => k (x0) w) (fun t4 w =>
 guardW (t3) true (fun k => runX Tryz.prog Z (nilChk t4) w k) (fun t5 w =>
 guardW (t3) true (fun k => run1 Tryz.prog Z (Instr.fieldAt 79 t5 5) w k) (fun t6 w =>
 guardW (t3) true (fun k => run1 Tryz.prog Z (Instr.loadAt 3 t6) w k) (fun t7 w =>
 guardW (t3) true (fun k => run1 Tryz.prog Z (eqOp .eql 3 false true t7 (.int .i64 0)) w k) (fun t8 w =>
 run1 Tryz.prog Z (pickV t3 t8 (.bool false)) w fun t9 w =>
 CondV t9 (
 CallV Tryz.prog Z 34 #[x0] w fun t10 w =>
 Q (.bool false) w) (
 runX Tryz.prog Z (nilChk x0) w fun t11 w =>
 run1 Tryz.prog Z (Instr.fieldAt 79 t11 5) w fun t12 w =>
 run1 Tryz.prog Z (Instr.loadAt 3 t12) w fun t13 w =>
 run1 Tryz.prog Z (binOp .sub 3 t13 (.int .i64 1)) w fun t14 w =>
 runX Tryz.prog Z (nilChk x0) w fun t15 w =>
 run1 Tryz.prog Z (Instr.fieldAt 79 t15 5) w fun t16 w =>
 run0 Tryz.prog Z (Instr.storeAt 3 t16 t14) w fun w =>
 runX Tryz.prog Z (nilChk x0) w fun t17 w =>
 run1 Tryz.prog Z (Instr.fieldAt 79 t17 6) w fun t18 w =>
 run1 Tryz.prog Z (Instr.loadAt 3 t18) w fun t19 w =>
 run1 Tryz.prog Z (binOp .add 3 t19 (.int .i64 1)) w fun t20 w =>
 runX Tryz.prog Z (nilChk x0) w fun t21 w =>
 run1 Tryz.prog Z (Instr.fieldAt 79 t21 6) w fun t22 w =>
 run0 Tryz.prog Z (Instr.storeAt 3 t22 t20) w fun w =>
 Q (.bool true) w)) w) w) w) w) w
def f67.an : An := (.sq .leaf (.sq (.sq .leaf (.cn (.sq .leaf (.sq .leaf .leaf)) .leaf)) (.sq .leaf (.sq .leaf (.sq .leaf .leaf)))))
theorem f67.calls {Z : List PanicEntry → World → Prop} {x0 : Value} {w : World} {Q : Value → World → Prop} (h : f67.sh Z x0 w Q) : CallV Tryz.prog Z 67 #[x0] w Q :=
 cl Tryz.func67 f67.an [x0] (by kernel_rfl) (by kernel_rfl) h

def f68.sh (Z : List PanicEntry → World → Prop) (x0 x1 x2 : Value) (w : World) (Q : Value → World → Prop) : Prop :=
 ∃ J_1 : Nat → Value → Value → World → Prop, (∃ m, J_1 m (.slice none 0 0) (.int .i64 0) w) ∧
 ∀ m_1, ∀ t2 : Value, ∀ t3 : Value, ∀ w : World, J_1 m_1 t2 t3 w → Env →
 run1 Tryz.prog Z (Builtin.len_ #[33] 3 #[x0]) w fun t4 w =>
 run1 Tryz.prog Z (binOp .lss 3 t3 t4) w fun t5 w =>
 CondV t5 (
 run1 Tryz.prog Z (Instr.indexAt 33 x0 t3) w fun t6 w =>
 run1 Tryz.prog Z (Instr.loadAt 58 t6) w fun t7 w =>
 ∃ J_8 : Nat → Value → Value → World → Prop, (∃ m, J_8 m t7 (.int .i64 0) w) ∧
 ∀ m_8, ∀ t9 : Value, ∀ t10 : Value, ∀ w : World, J_8 m_8 t9 t10 w → Env →
 run1 Tryz.prog Z (binOp .lss 3 t10 x2) w fun t11 w =>
 CondV t11 (
 run1 Tryz.prog Z (binOp .quo 3 t3 x1) w fun t12 w =>
 run1 Tryz.prog Z (binOp .rem 3 t12 (.int .i64 100)) w fun t13 w =>
 run1 Tryz.prog Z (binOp .add 3 (.int .i64 100) t13) w fun t14 w =>
 run1 Tryz.prog Z (convert 3 5 t14) w fun t15 w =>
 run1 Tryz.prog Z (Instr.buildSlice 58 1 #[(0, t15)]) w fun t16 w =>
 run1 Tryz.prog Z (Builtin.append_ #[58, 58] 58 #[t9, t16]) w fun t17 w =>
 run1 Tryz.prog Z (binOp .add 3 t10 (.int .i64 1)) w fun t18 w =>
 ∃ n_8, n_8 < m_8 ∧ J_8 n_8 t17 t18 w) (
 run1 Tryz.prog Z (Instr.buildSlice 33 1 #[(0, t9)]) w fun t19 w =>
 run1 Tryz.prog Z (Builtin.append_ #[33, 33] 33 #[t2, t19]) w fun t20 w =>
 run1 Tryz.prog Z (binOp .add 3 t3 (.int .i64 1)) w fun t21 w =>
 ∃ n_1, n_1 < m_1 ∧ J_1 n_1 t20 t21 w)) (
 ∃ J_22 : Nat → Value → World → Prop, (∃ m, J_22 m (.int .i64 0) w) ∧
 ∀ m_22, ∀ t23 : Value, ∀ w : World, J_22 m_22 t23 w → Env →
 run1 Tryz.prog Z (Builtin.len_ #[33] 3 #[x0]) w fun t24 w =>
 run1 Tryz.prog Z (binOp .lss 3 t23 t24) w fun t25 w =>
 CondV t25 (
 run1 Tryz.prog Z (Instr.indexAt 33 x0 t23) w fun t26 w =>
 run1 Tryz.prog Z (Instr.loadAt 58 t26) w fun t27 w =>
 run1 Tryz.prog Z (Builtin.len_ #[58] 3 #[t27]) w fun t28 w =>
 ∃ J_29 : Nat → Value → World → Prop, (∃ m, J_29 m (.int .i64 0) w) ∧
 ∀ m_29, ∀ t30 : Value, ∀ w : World, J_29 m_29 t30 w → Env →
 run1 Tryz.prog Z (binOp .add 3 t28 x2) w fun t31 w =>
 run1 Tryz.prog Z (binOp .lss 3 t30 t31) w fun t32 w =>
 CondV t32 (
 Drawn w fun w =>
 Pure1 Tryz.prog (binOp .lss 3 t30 t28) fun t33 =>
 guardV (t33) true (fun k => k (x0)) (fun t34 =>
 guardV (t33) true (fun k => k (t23)) (fun t35 =>
 guardV (t33) true (fun k => Pure1 Tryz.prog (Instr.indexAt 33 t34 t35) k) (fun t36 =>
 guardV (t33) true (fun k => Read1 Tryz.prog (Instr.loadAt 58 t36) w k) (fun t37 =>
 guardV (t33) true (fun k => k (t30)) (fun t38 =>
 guardV (t33) true (fun k => Pure1 Tryz.prog (Instr.indexAt 58 t37 t38) k) (fun t39 =>
 guardV (t33) true (fun k => Read1 Tryz.prog (Instr.loadAt 5 t39) w k) (fun t40 =>
 guardV (t33) true (fun k => k (t23)) (fun t41 =>
 guardV (t33) true (fun k => k (x1)) (fun t42 =>
 guardV (t33) true (fun k => Pure1 Tryz.prog (binOp .quo 3 t41 t42) k) (fun t43 =>
 guardV (t33) true (fun k => Pure1 Tryz.prog (binOp .rem 3 t43 (.int .i64 100)) k) (fun t44 =>
 guardV (t33) true (fun k => Pure1 Tryz.prog (convert 3 5 t44) k) (fun t45 =>
 guardV (t33) true (fun k => Pure1 Tryz.prog (eqOp .neq 5 false false t40 t45) k) (fun t46 =>
 guardV (t33) true (fun k => k (t46)) (fun t47 =>
 guardV (t47) false (fun k => k (t2)) (fun t48 =>
 guardV (t47) false (fun k => k (t23)) (fun t49 =>
 guardV (t47) false (fun k => Pure1 Tryz.prog (Instr.indexAt 33 t48 t49) k) (fun t50 =>
 guardV (t47) false (fun k => Read1 Tryz.prog (Instr.loadAt 58 t50) w k) (fun t51 =>
 guardV (t47) false (fun k => k (t30)) (fun t52 =>
 guardV (t47) false (fun k => Pure1 Tryz.prog (Instr.indexAt 58 t51 t52) k) (fun t53 =>
 guardV (t47) false (fun k => Read1 Tryz.prog (Instr.loadAt 5 t53) w k) (fun t54 =>
 guardV (t47) false (fun k => k (t23)) (fun t55 =>
 guardV (t47) false (fun k => k (x1)) (fun t56 =>
 guardV (t47) false (fun k => Pure1 Tryz.prog (binOp .quo 3 t55 t56) k) (fun t57 =>
 guardV (t47) false (fun k => Pure1 Tryz.prog (binOp .rem 3 t57 (.int .i64 100)) k) (fun t58 =>
 guardV (t47) false (fun k => Pure1 Tryz.prog (convert 3 5 t58) k) (fun t59 =>
 guardV (t47) false (fun k => Pure1 Tryz.prog (eqOp .neq 5 false false t54 t59) k) (fun t60 =>
 guardV (t33) true (fun k => Pure1 Tryz.prog (pickV t47 (.bool true) t60) k) (fun t61 =>
 Pure1 Tryz.prog (pickV t33 t61 (.bool false)) fun t62 =>
 guardV (t62) false (fun k => k (t30)) (fun t63 =>
 guardV (t62) false (fun k => k (t28)) (fun t64 =>
 guardV (t62) false (fun k => Pure1 Tryz.prog (binOp .geq 3 t63 t64) k) (fun t65 =>
 guardV (t62) false (fun k => k (t65)) (fun t66 =>
 guardV (t66) true (fun k => k (t2)) (fun t67 =>
 guardV (t66) true (fun k => k (t23)) (fun t68 =>
 guardV (t66) true (fun k => Pure1 Tryz.prog (Instr.indexAt 33 t67 t68) k) (fun t69 =>
 guardV (t66) true (fun k => Read1 Tryz.prog (Instr.loadAt 58 t69) w k) (fun t70 =>
 guardV (t66) true (fun k => k (t30)) (fun t71 =>
 guardV (t66) true (fun k => Pure1 Tryz.prog (Instr.indexAt 58 t70 t71) k) (fun t72 =>
 guardV (t66) true (fun k => Read1 Tryz.prog (Instr.loadAt 5 t72) w k) (fun t73 =>
 guardV (t66) true (fun k => k (t23)) (fun t74 =>
 guardV (t66) true (fun k => k (x1)) (fun t75 =>
 guardV (t66) true (fun k => Pure1 Tryz.prog (binOp .quo 3 t74 t75) k) (fun t76 =>
 guardV (t66) true (fun k => Pure1 Tryz.prog (binOp .rem 3 t76 (.int .i64 100)) k) (fun t77 =>
 guardV (t66) true (fun k => Pure1 Tryz.prog (binOp .add 3 (.int .i64 100) t77) k) (fun t78 =>
 guardV (t66) true (fun k => Pure1 Tryz.prog (convert 3 5 t78) k) (fun t79 =>
 guardV (t66) true (fun k => Pure1 Tryz.prog (eqOp .neq 5 false false t73 t79) k) (fun t80 =>
 guardV (t62) false (fun k => Pure1 Tryz.prog (pickV t66 t80 (.bool false)) k) (fun t81 =>
 Pure1 Tryz.prog (pickV t62 (.bool true) t81) fun t82 =>
 CondV t82 (
 Q (.bool false) w) (
 run1 Tryz.prog Z (binOp .add 3 t30 (.int .i64 1)) w fun t83 w =>
 ∃ n_29, n_29 < m_29 ∧ J_29 n_29 t83 w))))))))))))))))))))))))))))))))))))))))))))))))) (
 run1 Tryz.prog Z (binOp .add 3 t23 (.int .i64 1)) w fun t84 w =>
 ∃ n_22, n_22 < m_22 ∧ J_22 n_22 t84 w)) (
 Q (.bool true) w))
def f68.an : An := (.sq .leaf (.sq .leaf (.sq (.sq .leaf (.bl (.lp [7, 8] (.sq (.sq .leaf (.cn .leaf .leaf)) (.sq (.bl (.sq .leaf (.sq (.sq .leaf (.bl (.lp [9, 10] (.sq (.sq .leaf (.cn .leaf .leaf)) (.sq (.bl .leaf) .leaf))))) .leaf))) .leaf))))) (.sq (.sq .leaf (.bl (.lp [11] (.sq (.sq .leaf (.cn .leaf .leaf)) (.sq (.bl (.sq .leaf (.sq .leaf (.bl (.lp [13] (.sq (.sq .leaf (.cn .leaf .leaf)) (.sq (.bl (.sq (.dr (pl [0, 4, 8, 12, 16, 20, 24, 29, 32, 36, 41, 44, 48, 52, 56, 60, 64, 68, 72, 76, 80, 85, 88, 92, 97, 100, 104, 108, 112, 116, 120, 124, 128, 132, 136, 140, 144, 148, 152, 156, 160, 165, 168, 172, 177, 180, 184, 188, 192, 196, 200, 204, 208, 212] .fin)) (.cn (.sq .leaf .leaf) .leaf))) .leaf))))))) .leaf))))) (.sq .leaf .leaf)))))
theorem f68.calls {Z : List PanicEntry → World → Prop} {x0 x1 x2 : Value} {w : World} {Q : Value → World → Prop} (h : f68.sh Z x0 x1 x2 w Q) : CallV Tryz.prog Z 68 #[x0, x1, x2] w Q :=
 cl Tryz.func68 f68.an [x0, x1, x2] (by kernel_rfl) (by kernel_rfl) h

def f69.sh (Z : List PanicEntry → World → Prop) (x0 x1 : Value) (w : World) (Q : Value → World → Prop) : Prop :=
 ∃ J_1 : Nat → Value → Value → World → Prop, (∃ m, J_1 m (.slice none 0 0) (.int .i64 0) w) ∧
 ∀ m_1, ∀ t2 : Value, ∀ t3 : Value, ∀ w : World, J_1 m_1 t2 t3 w → Env →
 run1 Tryz.prog Z (Builtin.len_ #[34] 3 #[x0]) w fun t4 w =>
 run1 Tryz.prog Z (binOp .lss 3 t3 t4) w fun t5 w =>
 CondV t5 (
 run1 Tryz.prog Z (Instr.indexAt 34 x0 t3) w fun t6 w =>
 run1 Tryz.prog Z (Instr.loadAt 121 t6) w fun t7 w =>
 ∃ J_8 : Nat → Value → Value → World → Prop, (∃ m, J_8 m t7 (.int .i64 0) w) ∧
 ∀ m_8, ∀ t9 : Value, ∀ t10 : Value, ∀ w : World, J_8 m_8 t9 t10 w → Env →
 run1 Tryz.prog Z (binOp .lss 3 t10 x1) w fun t11 w =>
 CondV t11 (
 run1 Tryz.prog Z (binOp .sub 3 (.int .i64 (-2000000)) t3) w fun t12 w =>
 run1 Tryz.prog Z (Instr.buildSlice 121 1 #[(0, t12)]) w fun t13 w =>
 run1 Tryz.prog Z (Builtin.append_ #[121, 121] 121 #[t9, t13]) w fun t14 w =>
 run1 Tryz.prog Z (binOp .add 3 t10 (.int .i64 1)) w fun t15 w =>
 ∃ n_8, n_8 < m_8 ∧ J_8 n_8 t14 t15 w) (
 run1 Tryz.prog Z (Instr.buildSlice 34 1 #[(0, t9)]) w fun t16 w =>
 run1 Tryz.prog Z (Builtin.append_ #[34, 34] 34 #[t2, t16]) w fun t17 w =>
 run1 Tryz.prog Z (binOp .add 3 t3 (.int .i64 1)) w fun t18 w =>
 ∃ n_1, n_1 < m_1 ∧ J_1 n_1 t17 t18 w)) (
 ∃ J_19 : Nat → Value → World → Prop, (∃ m, J_19 m (.int .i64 0) w) ∧
 ∀ m_19, ∀ t20 : Value, ∀ w : World, J_19 m_19 t20 w → Env →
 run1 Tryz.prog Z (Builtin.len_ #[34] 3 #[x0]) w fun t21 w =>
 run1 Tryz.prog Z (binOp .lss 3 t20 t21) w fun t22 w =>
 CondV t22 (
 run1 Tryz.prog Z (Instr.indexAt 34 x0 t20) w fun t23 w =>
 run1 Tryz.prog Z (Instr.loadAt 121 t23) w fun t24 w =>
 run1 Tryz.prog Z (Builtin.len_ #[121] 3 #[t24]) w fun t25 w =>
 ∃ J_26 : Nat → Value → World → Prop, (∃ m, J_26 m (.int .i64 0) w) ∧
 ∀ m_26, ∀ t27 : Value, ∀ w : World, J_26 m_26 t27 w → Env →
 run1 Tryz.prog Z (binOp .add 3 t25 x1) w fun t28 w =>
 run1 Tryz.prog Z (binOp .lss 3 t27 t28) w fun t29 w =>
 CondV t29 (
 run1 Tryz.prog Z (binOp .lss 3 t27 t25) w fun t30 w =>
 guardW (t30) true (fun k => k (x0) w) (fun t31 w =>
 guardW (t30) true (fun k => k (t20) w) (fun t32 w =>
 guardW (t30) true (fun k => run1 Tryz.prog Z (Instr.indexAt 34 t31 t32) w k) (fun t33 w =>
 guardW (t30) true (fun k => run1 Tryz.prog Z (Instr.loadAt 121 t33) w k) (fun t34 w =>
 guardW (t30) true (fun k => k (t27) w) (fun t35 w =>
 guardW (t30) true (fun k => run1 Tryz.prog Z (Instr.indexAt 121 t34 t35) w k) (fun t36 w =>
 guardW (t30) true (fun k => run1 Tryz.prog Z (Instr.loadAt 3 t36) w k) (fun t37 w =>
 guardW (t30) true (fun k => k (t20) w) (fun t38 w =>
 guardW (t30) true (fun k => run1 Tryz.prog Z (binOp .sub 3 (.int .i64 (-1000000)) t38) w k) (fun t39 w =>
 guardW (t30) true (fun k => run1 Tryz.prog Z (eqOp .eql 3 false false t37 t39) w k) (fun t40 w =>
 guardW (t30) true (fun k => run1 Tryz.prog Z (Op.unary .not t40) w k) (fun t41 w =>
 run1 Tryz.prog Z (pickV t30 t41 (.bool false)) w fun t42 w =>
 guardW (t42) false (fun k => k (t27) w) (fun t43 w =>
 guardW (t42) false (fun k => k (t25) w) (fun t44 w =>
 guardW (t42) false (fun k => run1 Tryz.prog Z (binOp .lss 3 t43 t44) w k) (fun t45 w =>
 guardW (t42) false (fun k => k (t45) w) (fun t46 w =>
 guardW (t46) true (fun k => k (t2) w) (fun t47 w =>
 guardW (t46) true (fun k => k (t20) w) (fun t48 w =>
 guardW (t46) true (fun k => run1 Tryz.prog Z (Instr.indexAt 34 t47 t48) w k) (fun t49 w =>
 guardW (t46) true (fun k => run1 Tryz.prog Z (Instr.loadAt 121 t49) w k) (fun t50 w =>
 guardW (t46) true (fun k => k (t27) w) (fun t51 w =>
 guardW (t46) true (fun k => run1 Tryz.prog Z (Instr.indexAt 121 t50 t51) w k) (fun t52 w =>
 guardW (t46) true (fun k => run1 Tryz.prog Z (Instr.loadAt 3 t52) w k) (fun t53 w =>
 guardW (t46) true (fun k => k (t20) w) (fun t54 w =>
 guardW (t46) true (fun k => run1 Tryz.prog Z (binOp .sub 3 (.int .i64 (-1000000)) t54) w k) (fun t55 w =>
 guardW (t46) true (fun k => run1 Tryz.prog Z (eqOp .eql 3 false false t53 t55) w k) (fun t56 w =>
 guardW (t46) true (fun k => run1 Tryz.prog Z (Op.unary .not t56) w k) (fun t57 w =>
 guardW (t42) false (fun k => run1 Tryz.prog Z (pickV t46 t57 (.bool false)) w k) (fun t58 w =>
 run1 Tryz.prog Z (pickV t42 (.bool true) t58) w fun t59 w =>
 guardW (t59) false (fun k => k (t27) w) (fun t60 w =>
 guardW (t59) false (fun k => k (t25) w) (fun t61 w =>
 guardW (t59) false (fun k => run1 Tryz.prog Z (binOp .geq 3 t60 t61) w k) (fun t62 w =>
 guardW (t59) false (fun k => k (t62) w) (fun t63 w =>
 guardW (t63) true (fun k => k (t2) w) (fun t64 w =>
 guardW (t63) true (fun k => k (t20) w) (fun t65 w =>
 guardW (t63) true (fun k => run1 Tryz.prog Z (Instr.indexAt 34 t64 t65) w k) (fun t66 w =>
 guardW (t63) true (fun k => run1 Tryz.prog Z (Instr.loadAt 121 t66) w k) (fun t67 w =>
 guardW (t63) true (fun k => k (t27) w) (fun t68 w =>
 guardW (t63) true (fun k => run1 Tryz.prog Z (Instr.indexAt 121 t67 t68) w k) (fun t69 w =>
 guardW (t63) true (fun k => run1 Tryz.prog Z (Instr.loadAt 3 t69) w k) (fun t70 w =>
 guardW (t63) true (fun k => k (t20) w) (fun t71 w =>
 guardW (t63) true (fun k => run1 Tryz.prog Z (binOp .sub 3 (.int .i64 (-2000000)) t71) w k) (fun t72 w =>
 guardW (t63) true (fun k => run1 Tryz.prog Z (eqOp .eql 3 false false t70 t72) w k) (fun t73 w =>
 guardW (t63) true (fun k => run1 Tryz.prog Z (Op.unary .not t73) w k) (fun t74 w =>
 guardW (t59) false (fun k => run1 Tryz.prog Z (pickV t63 t74 (.bool false)) w k) (fun t75 w =>
 run1 Tryz.prog Z (pickV t59 (.bool true) t75) w fun t76 w =>
 CondV t76 (
 Q (.bool false) w) (
 run1 Tryz.prog Z (binOp .add 3 t27 (.int .i64 1)) w fun t77 w =>
 ∃ n_26, n_26 < m_26 ∧ J_26 n_26 t77 w)) w) w) w) w) w) w) w) w) w) w) w) w) w) w) w) w) w) w) w) w) w) w) w) w) w) w) w) w) w) w) w) w) w) w) w) w) w) w) w) w) w) w) w) (
 run1 Tryz.prog Z (binOp .add 3 t20 (.int .i64 1)) w fun t78 w =>
 ∃ n_19, n_19 < m_19 ∧ J_19 n_19 t78 w)) (
 Q (.bool true) w))
def f69.an : An := (.sq .leaf (.sq .leaf (.sq (.sq .leaf (.bl (.lp [5, 6] (.sq (.sq .leaf (.cn .leaf .leaf)) (.sq (.bl (.sq .leaf (.sq (.sq .leaf (.bl (.lp [7, 8] (.sq (.sq .leaf (.cn .leaf .leaf)) (.sq (.bl .leaf) .leaf))))) .leaf))) .leaf))))) (.sq (.sq .leaf (.bl (.lp [9] (.sq (.sq .leaf (.cn .leaf .leaf)) (.sq (.bl (.sq .leaf (.sq .leaf (.bl (.lp [11] (.sq (.sq .leaf (.cn .leaf .leaf)) (.sq (.bl (.sq .leaf (.cn (.sq .leaf .leaf) .leaf))) .leaf))))))) .leaf))))) (.sq .leaf .leaf)))))
theorem f69.calls {Z : List PanicEntry → World → Prop} {x0 x1 : Value} {w : World} {Q : Value → World → Prop} (h : f69.sh Z x0 x1 w Q) : CallV Tryz.prog Z 69 #[x0, x1] w Q :=
 cl Tryz.func69 f69.an [x0, x1] (by kernel_rfl) (by kernel_rfl) h

def f70.sh (Z : List PanicEntry → World → Prop) (x0 : Value) (w : World) (Q : Value → World → Prop) : Prop :=
 CallV Tryz.prog Z 92 #[x0] w fun t1 w =>
 run1 Tryz.prog Z (binOp .add 9 (.string { data := #[33] }) t1) w fun t2 w =>
 Q t2 w
def f70.an : An := (.sq .leaf (.sq .leaf .leaf))
theorem f70.calls {Z : List PanicEntry → World → Prop} {x0 : Value} {w : World} {Q : Value → World → Prop} (h : f70.sh Z x0 w Q) : CallV Tryz.prog Z 70 #[x0] w Q :=
 cl Tryz.func70 f70.an [x0] (by kernel_rfl) (by kernel_rfl) h

def f71.sh (Z : List PanicEntry → World → Prop) (x0 x1 : Value) (w : World) (Q : Value → World → Prop) : Prop :=
 ∃ J_1 : Nat → Value → Value → World → Prop, (∃ m, J_1 m (.slice none 0 0) (.int .i64 0) w) ∧
 ∀ m_1, ∀ t2 : Value, ∀ t3 : Value, ∀ w : World, J_1 m_1 t2 t3 w → Env →
 run1 Tryz.prog Z (Builtin.len_ #[35] 3 #[x0]) w fun t4 w =>
 run1 Tryz.prog Z (binOp .lss 3 t3 t4) w fun t5 w =>
 CondV t5 (
 run1 Tryz.prog Z (Instr.indexAt 35 x0 t3) w fun t6 w =>
 run1 Tryz.prog Z (Instr.loadAt 56 t6) w fun t7 w =>
 ∃ J_8 : Nat → Value → Value → World → Prop, (∃ m, J_8 m t7 (.int .i64 0) w) ∧
 ∀ m_8, ∀ t9 : Value, ∀ t10 : Value, ∀ w : World, J_8 m_8 t9 t10 w → Env →
 run1 Tryz.prog Z (binOp .lss 3 t10 x1) w fun t11 w =>
 CondV t11 (
 run1 Tryz.prog Z (binOp .sub 3 (.int .i64 (-2000000)) t3) w fun t12 w =>
 CallV Tryz.prog Z 70 #[t12] w fun t13 w =>
 run1 Tryz.prog Z (Instr.buildSlice 56 1 #[(0, t13)]) w fun t14 w =>
 run1 Tryz.prog Z (Builtin.append_ #[56, 56] 56 #[t9, t14]) w fun t15 w =>
 run1 Tryz.prog Z (binOp .add 3 t10 (.int .i64 1)) w fun t16 w =>
 ∃ n_8, n_8 < m_8 ∧ J_8 n_8 t15 t16 w) (
 run1 Tryz.prog Z (Instr.buildSlice 35 1 #[(0, t9)]) w fun t17 w =>
 run1 Tryz.prog Z (Builtin.append_ #[35, 35] 35 #[t2, t17]) w fun t18 w =>
 run1 Tryz.prog Z (binOp .add 3 t3 (.int .i64 1)) w fun t19 w =>
 ∃ n_1, n_1 < m_1 ∧ J_1 n_1 t18 t19 w)) (
 ∃ J_20 : Nat → Value → World → Prop, (∃ m, J_20 m (.int .i64 0) w) ∧
 ∀ m_20, ∀ t21 : Value, ∀ w : World, J_20 m_20 t21 w → Env →
 run1 Tryz.prog Z (Builtin.len_ #[35] 3 #[x0]) w fun t22 w =>
 run1 Tryz.prog Z (binOp .lss 3 t21 t22) w fun t23 w =>
 CondV t23 (
 run1 Tryz.prog Z (Instr.indexAt 35 x0 t21) w fun t24 w =>
 run1 Tryz.prog Z (Instr.loadAt 56 t24) w fun t25 w =>
 run1 Tryz.prog Z (Builtin.len_ #[56] 3 #[t25]) w fun t26 w =>
 ∃ J_27 : Nat → Value → World → Prop, (∃ m, J_27 m (.int .i64 0) w) ∧
 ∀ m_27, ∀ t28 : Value, ∀ w : World, J_27 m_27 t28 w → Env →
 run1 Tryz.prog Z (binOp .add 3 t26 x1) w fun t29 w =>
 run1 Tryz.prog Z (binOp .lss 3 t28 t29) w fun t30 w =>
 CondV t30 (
 Drawn w fun w =>
 Pure1 Tryz.prog (binOp .lss 3 t28 t26) fun t31 =>
 guardV (t31) true (fun k => k (x0)) (fun t32 =>
 guardV (t31) true (fun k => k (t21)) (fun t33 =>
 guardV (t31) true (fun k => Pure1 Tryz.prog (Instr.indexAt 35 t32 t33) k) (fun t34 =>
 guardV (t31) true (fun k => Read1 Tryz.prog (Instr.loadAt 56 t34) w k) (fun t35 =>
 guardV (t31) true (fun k => k (t28)) (fun t36 =>
 guardV (t31) true (fun k => Pure1 Tryz.prog (Instr.indexAt 56 t35 t36) k) (fun t37 =>
 guardV (t31) true (fun k => Read1 Tryz.prog (Instr.loadAt 9 t37) w k) (fun t38 =>
 guardV (t31) true (fun k => k (t21)) (fun t39 =>
 guardV (t31) true (fun k => Pure1 Tryz.prog (binOp .sub 3 (.int .i64 (-1000000)) t39) k) (fun t40 =>
 guardW (t31) true (fun k => CallV Tryz.prog Z 70 #[t40] w k) (fun t41 w =>
 Still Tryz.prog (gSem (t31) true (nx (Instr.loadAt 9 t37))) t38 w <|
 Still Tryz.prog (gSem (t31) true (nx (Instr.loadAt 56 t34))) t35 w <|
 guardV (t31) true (fun k => Pure1 Tryz.prog (eqOp .eql 9 false false t38 t41) k) (fun t42 =>
 guardV (t31) true (fun k => Pure1 Tryz.prog (Op.unary .not t42) k) (fun t43 =>
 Pure1 Tryz.prog (pickV t31 t43 (.bool false)) fun t44 =>
 guardV (t44) false (fun k => k (t28)) (fun t45 =>
 guardV (t44) false (fun k => k (t26)) (fun t46 =>
 guardV (t44) false (fun k => Pure1 Tryz.prog (binOp .lss 3 t45 t46) k) (fun t47 =>
 guardV (t44) false (fun k => k (t47)) (fun t48 =>
 guardV (t48) true (fun k => k (t2)) (fun t49 =>
 guardV (t48) true (fun k => k (t21)) (fun t50 =>
 guardV (t48) true (fun k => Pure1 Tryz.prog (Instr.indexAt 35 t49 t50) k) (fun t51 =>
 guardV (t48) true (fun k => Read1 Tryz.prog (Instr.loadAt 56 t51) w k) (fun t52 =>
 guardV (t48) true (fun k => k (t28)) (fun t53 =>
 guardV (t48) true (fun k => Pure1 Tryz.prog (Instr.indexAt 56 t52 t53) k) (fun t54 =>
 guardV (t48) true (fun k => Read1 Tryz.prog (Instr.loadAt 9 t54) w k) (fun t55 =>
 guardV (t48) true (fun k => k (t21)) (fun t56 =>
 guardV (t48) true (fun k => Pure1 Tryz.prog (binOp .sub 3 (.int .i64 (-1000000)) t56) k) (fun t57 =>
 guardW (t48) true (fun k => CallV Tryz.prog Z 70 #[t57] w k) (fun t58 w =>
 Still Tryz.prog (gSem (t48) true (nx (Instr.loadAt 9 t54))) t55 w <|
 Still Tryz.prog (gSem (t48) true (nx (Instr.loadAt 56 t51))) t52 w <|
 Still Tryz.prog (gSem (t31) true (nx (Instr.loadAt 9 t37))) t38 w <|
 Still Tryz.prog (gSem (t31) true (nx (Instr.loadAt 56 t34))) t35 w <|
 guardV (t48) true (fun k => Pure1 Tryz.prog (eqOp .eql 9 false false t55 t58) k) (fun t59 =>
 guardV (t48) true (fun k => Pure1 Tryz.prog (Op.unary .not t59) k) (fun t60 =>
 guardV (t44) false (fun k => Pure1 Tryz.prog (pickV t48 t60 (.bool false)) k) (fun t61 =>
 Pure1 Tryz.prog (pickV t44 (.bool true) t61) fun t62 =>
 guardV (t62) false (fun k => k (t28)) (fun t63 =>
 guardV (t62) false (fun k => k (t26)) (fun t64 =>
 guardV (t62) false (fun k => Pure1 Tryz.prog (binOp .geq 3 t63 t64) k) (fun t65 =>
 guardV (t62) false (fun k => k (t65)) (fun t66 =>
 guardV (t66) true (fun k => k (t2)) (fun t67 =>
 guardV (t66) true (fun k => k (t21)) (fun t68 =>
 guardV (t66) true (fun k => Pure1 Tryz.prog (Instr.indexAt 35 t67 t68) k) (fun t69 =>
 guardV (t66) true (fun k => Read1 Tryz.prog (Instr.loadAt 56 t69) w k) (fun t70 =>
 guardV (t66) true (fun k => k (t28)) (fun t71 =>
 guardV (t66) true (fun k => Pure1 Tryz.prog (Instr.indexAt 56 t70 t71) k) (fun t72 =>
 guardV (t66) true (fun k => Read1 Tryz.prog (Instr.loadAt 9 t72) w k) (fun t73 =>
 guardV (t66) true (fun k => k (t21)) (fun t74 =>
 guardV (t66) true (fun k => Pure1 Tryz.prog (binOp .sub 3 (.int .i64 (-2000000)) t74) k) (fun t75 =>
 guardW (t66) true (fun k => CallV Tryz.prog Z 70 #[t75] w k) (fun t76 w =>
 Still Tryz.prog (gSem (t66) true (nx (Instr.loadAt 9 t72))) t73 w <|
 Still Tryz.prog (gSem (t66) true (nx (Instr.loadAt 56 t69))) t70 w <|
 Still Tryz.prog (gSem (t48) true (nx (Instr.loadAt 9 t54))) t55 w <|
 Still Tryz.prog (gSem (t48) true (nx (Instr.loadAt 56 t51))) t52 w <|
 Still Tryz.prog (gSem (t31) true (nx (Instr.loadAt 9 t37))) t38 w <|
 Still Tryz.prog (gSem (t31) true (nx (Instr.loadAt 56 t34))) t35 w <|
 guardV (t66) true (fun k => Pure1 Tryz.prog (eqOp .eql 9 false false t73 t76) k) (fun t77 =>
 guardV (t66) true (fun k => Pure1 Tryz.prog (Op.unary .not t77) k) (fun t78 =>
 guardV (t62) false (fun k => Pure1 Tryz.prog (pickV t66 t78 (.bool false)) k) (fun t79 =>
 Pure1 Tryz.prog (pickV t62 (.bool true) t79) fun t80 =>
 CondV t80 (
 Q (.bool false) w) (
 run1 Tryz.prog Z (binOp .add 3 t28 (.int .i64 1)) w fun t81 w =>
 ∃ n_27, n_27 < m_27 ∧ J_27 n_27 t81 w))))) w))))))))))))))))) w)))))))))))))))) w)))))))))) (
 run1 Tryz.prog Z (binOp .add 3 t21 (.int .i64 1)) w fun t82 w =>
 ∃ n_20, n_20 < m_20 ∧ J_20 n_20 t82 w)) (
 Q (.bool true) w))
def f71.an : An := (.sq .leaf (.sq .leaf (.sq (.sq .leaf (.bl (.lp [5, 6] (.sq (.sq .leaf (.cn .leaf .leaf)) (.sq (.bl (.sq .leaf (.sq (.sq .leaf (.bl (.lp [7, 8] (.sq (.sq .leaf (.cn .leaf .leaf)) (.sq (.bl .leaf) .leaf))))) .leaf))) .leaf))))) (.sq (.sq .leaf (.bl (.lp [9] (.sq (.sq .leaf (.cn .leaf .leaf)) (.sq (.bl (.sq .leaf (.sq .leaf (.bl (.lp [11] (.sq (.sq .leaf (.cn .leaf .leaf)) (.sq (.bl (.sq (.dr (pl [0, 4, 8, 12, 16, 20, 24, 29, 32, 36, 41, 44, 48, 54, 56, 60, 64, 68, 72, 76, 80, 84, 88, 92, 96, 101, 104, 108, 113, 116, 120, 126, 128, 132, 136, 140, 144, 148, 152, 156, 160, 164, 168, 172, 177, 180, 184, 189, 192, 196, 202, 204, 208, 212, 216] .fin)) (.cn (.sq .leaf .leaf) .leaf))) .leaf))))))) .leaf))))) (.sq .leaf .leaf)))))
theorem f71.calls {Z : List PanicEntry → World → Prop} {x0 x1 : Value} {w : World} {Q : Value → World → Prop} (h : f71.sh Z x0 x1 w Q) : CallV Tryz.prog Z 71 #[x0, x1] w Q :=
 cl Tryz.func71 f71.an [x0, x1] (by kernel_rfl) (by kernel_rfl) h

def f72.sh (Z : List PanicEntry → World → Prop) (x0 x1 : Value) (w : World) (Q : Value → World → Prop) : Prop :=
 ∃ J_1 : Nat → Value → Value → World → Prop, (∃ m, J_1 m (.slice none 0 0) (.int .i64 0) w) ∧
 ∀ m_1, ∀ t2 : Value, ∀ t3 : Value, ∀ w : World, J_1 m_1 t2 t3 w → Env →
 run1 Tryz.prog Z (Builtin.len_ #[36] 3 #[x0]) w fun t4 w =>
 run1 Tryz.prog Z (binOp .lss 3 t3 t4) w fun t5 w =>
 CondV t5 (
 run1 Tryz.prog Z (Instr.indexAt 36 x0 t3) w fun t6 w =>
 run1 Tryz.prog Z (Instr.loadAt 33 t6) w fun t7 w =>
 ∃ J_8 : Nat → Value → Value → World → Prop, (∃ m, J_8 m t7 (.int .i64 0) w) ∧
 ∀ m_8, ∀ t9 : Value, ∀ t10 : Value, ∀ w : World, J_8 m_8 t9 t10 w → Env →
 run1 Tryz.prog Z (binOp .lss 3 t10 x1) w fun t11 w =>
 CondV t11 (
 run1 Tryz.prog Z (binOp .sub 3 (.int .i64 (-2000000)) t3) w fun t12 w =>
 CallV Tryz.prog Z 70 #[t12] w fun t13 w =>
 run1 Tryz.prog Z (convert 9 58 t13) w fun t14 w =>
 run1 Tryz.prog Z (Instr.buildSlice 33 1 #[(0, t14)]) w fun t15 w =>
 run1 Tryz.prog Z (Builtin.append_ #[33, 33] 33 #[t9, t15]) w fun t16 w =>
 run1 Tryz.prog Z (binOp .add 3 t10 (.int .i64 1)) w fun t17 w =>
 ∃ n_8, n_8 < m_8 ∧ J_8 n_8 t16 t17 w) (
 run1 Tryz.prog Z (Instr.buildSlice 36 1 #[(0, t9)]) w fun t18 w =>
 run1 Tryz.prog Z (Builtin.append_ #[36, 36] 36 #[t2, t18]) w fun t19 w =>
 run1 Tryz.prog Z (binOp .add 3 t3 (.int .i64 1)) w fun t20 w =>
 ∃ n_1, n_1 < m_1 ∧ J_1 n_1 t19 t20 w)) (
 ∃ J_21 : Nat → Value → World → Prop, (∃ m, J_21 m (.int .i64 0) w) ∧
 ∀ m_21, ∀ t22 : Value, ∀ w : World, J_21 m_21 t22 w → Env →
 run1 Tryz.prog Z (Builtin.len_ #[36] 3 #[x0]) w fun t23 w =>
 run1 Tryz.prog Z (binOp .lss 3 t22 t23) w fun t24 w =>
 CondV t24 (
 run1 Tryz.prog Z (Instr.indexAt 36 x0 t22) w fun t25 w =>
 run1 Tryz.prog Z (Instr.loadAt 33 t25) w fun t26 w =>
 run1 Tryz.prog Z (Builtin.len_ #[33] 3 #[t26]) w fun t27 w =>
 ∃ J_28 : Nat → Value → World → Prop, (∃ m, J_28 m (.int .i64 0) w) ∧
 ∀ m_28, ∀ t29 : Value, ∀ w : World, J_28 m_28 t29 w → Env →
 run1 Tryz.prog Z (binOp .add 3 t27 x1) w fun t30 w =>
 run1 Tryz.prog Z (binOp .lss 3 t29 t30) w fun t31 w =>
 CondV t31 (
 Drawn w fun w =>
 Pure1 Tryz.prog (binOp .lss 3 t29 t27) fun t32 =>
 guardV (t32) true (fun k => k (x0)) (fun t33 =>
 guardV (t32) true (fun k => k (t22)) (fun t34 =>
 guardV (t32) true (fun k => Pure1 Tryz.prog (Instr.indexAt 36 t33 t34) k) (fun t35 =>
 guardV (t32) true (fun k => Read1 Tryz.prog (Instr.loadAt 33 t35) w k) (fun t36 =>
 guardV (t32) true (fun k => k (t29)) (fun t37 =>
 guardV (t32) true (fun k => Pure1 Tryz.prog (Instr.indexAt 33 t36 t37) k) (fun t38 =>
 guardV (t32) true (fun k => Read1 Tryz.prog (Instr.loadAt 58 t38) w k) (fun t39 =>
 guardV (t32) true (fun k => Read1 Tryz.prog (convert 58 9 t39) w k) (fun t40 =>
 guardV (t32) true (fun k => k (t22)) (fun t41 =>
 guardV (t32) true (fun k => Pure1 Tryz.prog (binOp .sub 3 (.int .i64 (-1000000)) t41) k) (fun t42 =>
 guardW (t32) true (fun k => CallV Tryz.prog Z 70 #[t42] w k) (fun t43 w =>
 Still Tryz.prog (gSem (t32) true (nx (convert 58 9 t39))) t40 w <|
 Still Tryz.prog (gSem (t32) true (nx (Instr.loadAt 58 t38))) t39 w <|
 Still Tryz.prog (gSem (t32) true (nx (Instr.loadAt 33 t35))) t36 w <|
 guardV (t32) true (fun k => Pure1 Tryz.prog (eqOp .eql 9 false false t40 t43) k) (fun t44 =>
 guardV (t32) true (fun k => Pure1 Tryz.prog (Op.unary .not t44) k) (fun t45 =>
 Pure1 Tryz.prog (pickV t32 t45 (.bool false)) fun t46 =>
 guardV (t46) false (fun k => k (t29)) (fun t47 =>
 guardV (t46) false (fun k => k (t27)) (fun t48 =>
 guardV (t46) false (fun k => Pure1 Tryz.prog (binOp .lss 3 t47 t48) k) (fun t49 =>
 guardV (t46) false (fun k => k (t49)) (fun t50 =>
 guardV (t50) true (fun k => k (t2)) (fun t51 =>
 guardV (t50) true (fun k => k (t22)) (fun t52 =>
 guardV (t50) true (fun k => Pure1 Tryz.prog (Instr.indexAt 36 t51 t52) k) (fun t53 =>
 guardV (t50) true (fun k => Read1 Tryz.prog (Instr.loadAt 33 t53) w k) (fun t54 =>
 guardV (t50) true (fun k => k (t29)) (fun t55 =>
 guardV (t50) true (fun k => Pure1 Tryz.prog (Instr.indexAt 33 t54 t55) k) (fun t56 =>
 guardV (t50) true (fun k => Read1 Tryz.prog (Instr.loadAt 58 t56) w k) (fun t57 =>
 guardV (t50) true (fun k => Read1 Tryz.prog (convert 58 9 t57) w k) (fun t58 =>
 guardV (t50) true (fun k => k (t22)) (fun t59 =>
 guardV (t50) true (fun k => Pure1 Tryz.prog (binOp .sub 3 (.int .i64 (-1000000)) t59) k) (fun t60 =>
 guardW (t50) true (fun k => CallV Tryz.prog Z 70 #[t60] w k) (fun t61 w =>
 Still Tryz.prog (gSem (t50) true (nx (convert 58 9 t57))) t58 w <|
 Still Tryz.prog (gSem (t50) true (nx (Instr.loadAt 58 t56))) t57 w <|
 Still Tryz.prog (gSem (t50) true (nx (Instr.loadAt 33 t53))) t54 w <|
 Still Tryz.prog (gSem (t32) true (nx (convert 58 9 t39))) t40 w <|
 Still Tryz.prog (gSem (t32) true (nx (Instr.loadAt 58 t38))) t39 w <|
 Still Tryz.prog (gSem (t32) true (nx (Instr.loadAt 33 t35))) t36 w <|
 guardV (t50) true (fun k => Pure1 Tryz.prog (eqOp .eql 9 false false t58 t61) k) (fun t62 =>
 guardV (t50) true (fun k => Pure1 Tryz.prog (Op.unary .not t62) k) (fun t63 =>
 guardV (t46) false (fun k => Pure1 Tryz.prog (pickV t50 t63 (.bool false)) k) (fun t64 =>
 Pure1 Tryz.prog (pickV t46 (.bool true) t64) fun t65 =>
 guardV (t65) false (fun k => k (t29)) (fun t66 =>
 guardV (t65) false (fun k => k (t27)) (fun t67 =>
 guardV (t65) false (fun k => Pure1 Tryz.prog (binOp .geq 3 t66 t67) k) (fun t68 =>
 guardV (t65) false (fun k => k (t68)) (fun t69 =>
 guardV (t69) true (fun k => k (t2)) (fun t70 =>
 guardV (t69) true (fun k => k (t22)) (fun t71 =>
 guardV (t69) true (fun k => Pure1 Tryz.prog (Instr.indexAt 36 t70 t71) k) (fun t72 =>
 guardV (t69) true (fun k => Read1 Tryz.prog (Instr.loadAt 33 t72) w k) (fun t73 =>
 guardV (t69) true (fun k => k (t29)) (fun t74 =>
 guardV (t69) true (fun k => Pure1 Tryz.prog (Instr.indexAt 33 t73 t74) k) (fun t75 =>
 guardV (t69) true (fun k => Read1 Tryz.prog (Instr.loadAt 58 t75) w k) (fun t76 =>
 guardV (t69) true (fun k => Read1 Tryz.prog (convert 58 9 t76) w k) (fun t77 =>
 guardV (t69) true (fun k => k (t22)) (fun t78 =>
 guardV (t69) true (fun k => Pure1 Tryz.prog (binOp .sub 3 (.int .i64 (-2000000)) t78) k) (fun t79 =>
 guardW (t69) true (fun k => CallV Tryz.prog Z 70 #[t79] w k) (fun t80 w =>
 Still Tryz.prog (gSem (t69) true (nx (convert 58 9 t76))) t77 w <|
 Still Tryz.prog (gSem (t69) true (nx (Instr.loadAt 58 t75))) t76 w <|
 Still Tryz.prog (gSem (t69) true (nx (Instr.loadAt 33 t72))) t73 w <|
 Still Tryz.prog (gSem (t50) true (nx (convert 58 9 t57))) t58 w <|
 Still Tryz.prog (gSem (t50) true (nx (Instr.loadAt 58 t56))) t57 w <|
 Still Tryz.prog (gSem (t50) true (nx (Instr.loadAt 33 t53))) t54 w <|
 Still Tryz.prog (gSem (t32) true (nx (convert 58 9 t39))) t40 w <|
 Still Tryz.prog (gSem (t32) true (nx (Instr.loadAt 58 t38))) t39 w <|
 Still Tryz.prog (gSem (t32) true (nx (Instr.loadAt 33 t35))) t36 w <|
 guardV (t69) true (fun k => Pure1 Tryz.prog (eqOp .eql 9 false false t77 t80) k) (fun t81 =>
 guardV (t69) true (fun k => Pure1 Tryz.prog (Op.unary .not t81) k) (fun t82 =>
 guardV (t65) false (fun k => Pure1 Tryz.prog (pickV t69 t82 (.bool false)) k) (fun t83 =>
 Pure1 Tryz.prog (pickV t65 (.bool true) t83) fun t84 =>
 CondV t84 (
 Q (.bool false) w) (
 run1 Tryz.prog Z (binOp .add 3 t29 (.int .i64 1)) w fun t85 w =>
 ∃ n_28, n_28 < m_28 ∧ J_28 n_28 t85 w))))) w)))))))))))))))))) w))))))))))))))))) w))))))))))) (
 run1 Tryz.prog Z (binOp .add 3 t22 (.int .i64 1)) w fun t86 w =>
 ∃ n_21, n_21 < m_21 ∧ J_21 n_21 t86 w)) (
 Q (.bool true) w))
def f72.an : An := (.sq .leaf (.sq .leaf (.sq (.sq .leaf (.bl (.lp [5, 6] (.sq (.sq .leaf (.cn .leaf .leaf)) (.sq (.bl (.sq .leaf (.sq (.sq .leaf (.bl (.lp [7, 8] (.sq (.sq .leaf (.cn .leaf .leaf)) (.sq (.bl .leaf) .leaf))))) .leaf))) .leaf))))) (.sq (.sq .leaf (.bl (.lp [9] (.sq (.sq .leaf (.cn .leaf .leaf)) (.sq (.bl (.sq .leaf (.sq .leaf (.bl (.lp [11] (.sq (.sq .leaf (.cn .leaf .leaf)) (.sq (.bl (.sq (.dr (pl [0, 4, 8, 12, 16, 20, 24, 29, 32, 36, 41, 45, 48, 52, 58, 60, 64, 68, 72, 76, 80, 84, 88, 92, 96, 100, 105, 108, 112, 117, 121, 124, 128, 134, 136, 140, 144, 148, 152, 156, 160, 164, 168, 172, 176, 180, 185, 188, 192, 197, 201, 204, 208, 214, 216, 220, 224, 228] .fin)) (.cn (.sq .leaf .leaf) .leaf))) .leaf))))))) .leaf))))) (.sq .leaf .leaf)))))
theorem f72.calls {Z : List PanicEntry → World → Prop} {x0 x1 : Value} {w : World} {Q : Value → World → Prop} (h : f72.sh Z x0 x1 w Q) : CallV Tryz.prog Z 72 #[x0, x1] w Q :=
 cl Tryz.func72 f72.an [x0, x1] (by kernel_rfl) (by kernel_rfl) h

def f73.sh (Z : List PanicEntry → World → Prop) (x0 x1 : Value) (w : World) (Q : Value → World → Prop) : Prop :=
 ∃ J_1 : Nat → Value → Value → World → Prop, (∃ m, J_1 m (.slice none 0 0) (.int .i64 0) w) ∧
 ∀ m_1, ∀ t2 : Value, ∀ t3 : Value, ∀ w : World, J_1 m_1 t2 t3 w → Env →
 run1 Tryz.prog Z (Builtin.len_ #[37] 3 #[x0]) w fun t4 w =>
 run1 Tryz.prog Z (binOp .lss 3 t3 t4) w fun t5 w =>
 CondV t5 (
 run1 Tryz.prog Z (Instr.indexAt 37 x0 t3) w fun t6 w =>
 run1 Tryz.prog Z (Instr.loadAt 128 t6) w fun t7 w =>
 ∃ J_8 : Nat → Value → Value → World → Prop, (∃ m, J_8 m t7 (.int .i64 0) w) ∧
 ∀ m_8, ∀ t9 : Value, ∀ t10 : Value, ∀ w : World, J_8 m_8 t9 t10 w → Env →
 run1 Tryz.prog Z (binOp .lss 3 t10 x1) w fun t11 w =>
 CondV t11 (
 run1 Tryz.prog Z (binOp .sub 3 (.int .i64 (-2000000)) t3) w fun t12 w =>
 CallV Tryz.prog Z 70 #[t12] w fun t13 w =>
 run1 Tryz.prog Z (Instr.build 130 #[(1, t13)]) w fun t14 w =>
 run1 Tryz.prog Z (Instr.buildSlice 128 1 #[(0, t14)]) w fun t15 w =>
 run1 Tryz.prog Z (Builtin.append_ #[128, 128] 128 #[t9, t15]) w fun t16 w =>
 run1 Tryz.prog Z (binOp .add 3 t10 (.int .i64 1)) w fun t17 w =>
 ∃ n_8, n_8 < m_8 ∧ J_8 n_8 t16 t17 w) (
 run1 Tryz.prog Z (Instr.buildSlice 37 1 #[(0, t9)]) w fun t18 w =>
 run1 Tryz.prog Z (Builtin.append_ #[37, 37] 37 #[t2, t18]) w fun t19 w =>
 run1 Tryz.prog Z (binOp .add 3 t3 (.int .i64 1)) w fun t20 w =>
 ∃ n_1, n_1 < m_1 ∧ J_1 n_1 t19 t20 w)) (
 ∃ J_21 : Nat → Value → World → Prop, (∃ m, J_21 m (.int .i64 0) w) ∧
 ∀ m_21, ∀ t22 : Value, ∀ w : World, J_21 m_21 t22 w → Env →
 run1 Tryz.prog Z (Builtin.len_ #[37] 3 #[x0]) w fun t23 w =>
 run1 Tryz.prog Z (binOp .lss 3 t22 t23) w fun t24 w =>
 CondV t24 (
 run1 Tryz.prog Z (Instr.indexAt 37 x0 t22) w fun t25 w =>
 run1 Tryz.prog Z (Instr.loadAt 128 t25) w fun t26 w =>
 run1 Tryz.prog Z (Builtin.len_ #[128] 3 #[t26]) w fun t27 w =>
 ∃ J_28 : Nat → Value → World → Prop, (∃ m, J_28 m (.int .i64 0) w) ∧
 ∀ m_28, ∀ t29 : Value, ∀ w : World, J_28 m_28 t29 w → Env →
 run1 Tryz.prog Z (binOp .add 3 t27 x1) w fun t30 w =>
 run1 Tryz.prog Z (binOp .lss 3 t29 t30) w fun t31 w =>
 CondV t31 (
 Drawn w fun w =>
 Pure1 Tryz.prog (binOp .lss 3 t29 t27) fun t32 =>
 guardV (t32) true (fun k => k (x0)) (fun t33 =>
 guardV (t32) true (fun k => k (t22)) (fun t34 =>
 guardV (t32) true (fun k => Pure1 Tryz.prog (Instr.indexAt 37 t33 t34) k) (fun t35 =>
 guardV (t32) true (fun k => Read1 Tryz.prog (Instr.loadAt 128 t35) w k) (fun t36 =>
 guardV (t32) true (fun k => k (t29)) (fun t37 =>
 guardV (t32) true (fun k => Pure1 Tryz.prog (Instr.indexAt 128 t36 t37) k) (fun t38 =>
 guardV (t32) true (fun k => Pure1 Tryz.prog (Instr.fieldAt 130 t38 1) k) (fun t39 =>
 guardV (t32) true (fun k => Read1 Tryz.prog (Instr.loadAt 9 t39) w k) (fun t40 =>
 guardV (t32) true (fun k => k (t22)) (fun t41 =>
 guardV (t32) true (fun k => Pure1 Tryz.prog (binOp .sub 3 (.int .i64 (-1000000)) t41) k) (fun t42 =>
 guardW (t32) true (fun k => CallV Tryz.prog Z 70 #[t42] w k) (fun t43 w =>
 Still Tryz.prog (gSem (t32) true (nx (Instr.loadAt 9 t39))) t40 w <|
 Still Tryz.prog (gSem (t32) true (nx (Instr.loadAt 128 t35))) t36 w <|
 guardV (t32) true (fun k => Pure1 Tryz.prog (eqOp .eql 9 false false t40 t43) k) (fun t44 =>
 guardV (t32) true (fun k => Pure1 Tryz.prog (Op.unary .not t44) k) (fun t45 =>
 Pure1 Tryz.prog (pickV t32 t45 (.bool false)) fun t46 =>
 guardV (t46) false (fun k => k (t29)) (fun t47 =>
 guardV (t46) false (fun k => k (t27)) (fun t48 =>
 guardV (t46) false (fun k => Pure1 Tryz.prog (binOp .lss 3 t47 t48) k) (fun t49 =>
 guardV (t46) false (fun k => k (t49)) (fun t50 =>
 guardV (t50) true (fun k => k (t2)) (fun t51 =>
 guardV (t50) true (fun k => k (t22)) (fun t52 =>
 guardV (t50) true (fun k => Pure1 Tryz.prog (Instr.indexAt 37 t51 t52) k) (fun t53 =>
 guardV (t50) true (fun k => Read1 Tryz.prog (Instr.loadAt 128 t53) w k) (fun t54 =>
 guardV (t50) true (fun k => k (t29)) (fun t55 =>
 guardV (t50) true (fun k => Pure1 Tryz.prog (Instr.indexAt 128 t54 t55) k) (fun t56 =>
 guardV (t50) true (fun k => Pure1 Tryz.prog (Instr.fieldAt 130 t56 1) k) (fun t57 =>
 guardV (t50) true (fun k => Read1 Tryz.prog (Instr.loadAt 9 t57) w k) (fun t58 =>
 guardV (t50) true (fun k => k (t22)) (fun t59 =>
 guardV (t50) true (fun k => Pure1 Tryz.prog (binOp .sub 3 (.int .i64 (-1000000)) t59) k) (fun t60 =>
 guardW (t50) true (fun k => CallV Tryz.prog Z 70 #[t60] w k) (fun t61 w =>
 Still Tryz.prog (gSem (t50) true (nx (Instr.loadAt 9 t57))) t58 w <|
 Still Tryz.prog (gSem (t50) true (nx (Instr.loadAt 128 t53))) t54 w <|
 Still Tryz.prog (gSem (t32) true (nx (Instr.loadAt 9 t39))) t40 w <|
 Still Tryz.prog (gSem (t32) true (nx (Instr.loadAt 128 t35))) t36 w <|
 guardV (t50) true (fun k => Pure1 Tryz.prog (eqOp .eql 9 false false t58 t61) k) (fun t62 =>
 guardV (t50) true (fun k => Pure1 Tryz.prog (Op.unary .not t62) k) (fun t63 =>
 guardV (t46) false (fun k => Pure1 Tryz.prog (pickV t50 t63 (.bool false)) k) (fun t64 =>
 Pure1 Tryz.prog (pickV t46 (.bool true) t64) fun t65 =>
 guardV (t65) false (fun k => k (t29)) (fun t66 =>
 guardV (t65) false (fun k => k (t27)) (fun t67 =>
 guardV (t65) false (fun k => Pure1 Tryz.prog (binOp .geq 3 t66 t67) k) (fun t68 =>
 guardV (t65) false (fun k => k (t68)) (fun t69 =>
 guardV (t69) true (fun k => k (t2)) (fun t70 =>
 guardV (t69) true (fun k => k (t22)) (fun t71 =>
 guardV (t69) true (fun k => Pure1 Tryz.prog (Instr.indexAt 37 t70 t71) k) (fun t72 =>
 guardV (t69) true (fun k => Read1 Tryz.prog (Instr.loadAt 128 t72) w k) (fun t73 =>
 guardV (t69) true (fun k => k (t29)) (fun t74 =>
 guardV (t69) true (fun k => Pure1 Tryz.prog (Instr.indexAt 128 t73 t74) k) (fun t75 =>
 guardV (t69) true (fun k => Pure1 Tryz.prog (Instr.fieldAt 130 t75 1) k) (fun t76 =>
 guardV (t69) true (fun k => Read1 Tryz.prog (Instr.loadAt 9 t76) w k) (fun t77 =>
 guardV (t69) true (fun k => k (t22)) (fun t78 =>
 guardV (t69) true (fun k => Pure1 Tryz.prog (binOp .sub 3 (.int .i64 (-2000000)) t78) k) (fun t79 =>
 guardW (t69) true (fun k => CallV Tryz.prog Z 70 #[t79] w k) (fun t80 w =>
 Still Tryz.prog (gSem (t69) true (nx (Instr.loadAt 9 t76))) t77 w <|
 Still Tryz.prog (gSem (t69) true (nx (Instr.loadAt 128 t72))) t73 w <|
 Still Tryz.prog (gSem (t50) true (nx (Instr.loadAt 9 t57))) t58 w <|
 Still Tryz.prog (gSem (t50) true (nx (Instr.loadAt 128 t53))) t54 w <|
 Still Tryz.prog (gSem (t32) true (nx (Instr.loadAt 9 t39))) t40 w <|
 Still Tryz.prog (gSem (t32) true (nx (Instr.loadAt 128 t35))) t36 w <|
 guardV (t69) true (fun k => Pure1 Tryz.prog (eqOp .eql 9 false false t77 t80) k) (fun t81 =>
 guardV (t69) true (fun k => Pure1 Tryz.prog (Op.unary .not t81) k) (fun t82 =>
 guardV (t65) false (fun k => Pure1 Tryz.prog (pickV t69 t82 (.bool false)) k) (fun t83 =>
 Pure1 Tryz.prog (pickV t65 (.bool true) t83) fun t84 =>
 CondV t84 (
 Q (.bool false) w) (
 run1 Tryz.prog Z (binOp .add 3 t29 (.int .i64 1)) w fun t85 w =>
 ∃ n_28, n_28 < m_28 ∧ J_28 n_28 t85 w))))) w)))))))))))))))))) w))))))))))))))))) w))))))))))) (
 run1 Tryz.prog Z (binOp .add 3 t22 (.int .i64 1)) w fun t86 w =>
 ∃ n_21, n_21 < m_21 ∧ J_21 n_21 t86 w)) (
 Q (.bool true) w))
def f73.an : An := (.sq .leaf (.sq .leaf (.sq (.sq .leaf (.bl (.lp [5, 6] (.sq (.sq .leaf (.cn .leaf .leaf)) (.sq (.bl (.sq .leaf (.sq (.sq .leaf (.bl (.lp [7, 8] (.sq (.sq .leaf (.cn .leaf .leaf)) (.sq (.bl .leaf) .leaf))))) .leaf))) .leaf))))) (.sq (.sq .leaf (.bl (.lp [9] (.sq (.sq .leaf (.cn .leaf .leaf)) (.sq (.bl (.sq .leaf (.sq .leaf (.bl (.lp [11] (.sq (.sq .leaf (.cn .leaf .leaf)) (.sq (.bl (.sq (.dr (pl [0, 4, 8, 12, 16, 20, 24, 29, 32, 36, 40, 45, 48, 52, 58, 60, 64, 68, 72, 76, 80, 84, 88, 92, 96, 100, 105, 108, 112, 116, 121, 124, 128, 134, 136, 140, 144, 148, 152, 156, 160, 164, 168, 172, 176, 180, 185, 188, 192, 196, 201, 204, 208, 214, 216, 220, 224, 228] .fin)) (.cn (.sq .leaf .leaf) .leaf))) .leaf))))))) .leaf))))) (.sq .leaf .leaf)))))
theorem f73.calls {Z : List PanicEntry → World → Prop} {x0 x1 : Value} {w : World} {Q : Value → World → Prop} (h : f73.sh Z x0 x1 w Q) : CallV Tryz.prog Z 73 #[x0, x1] w Q :=
 cl Tryz.func73 f73.an [x0, x1] (by kernel_rfl) (by kernel_rfl) h

def f74.sh (Z : List PanicEntry → World → Prop) (x0 x1 : Value) (w : World) (Q : Value → World → Prop) : Prop :=
 ∃ J_1 : Nat → Value → Value → World → Prop, (∃ m, J_1 m (.slice none 0 0) (.int .i64 0) w) ∧
 ∀ m_1, ∀ t2 : Value, ∀ t3 : Value, ∀ w : World, J_1 m_1 t2 t3 w → Env →
 run1 Tryz.prog Z (Builtin.len_ #[38] 3 #[x0]) w fun t4 w =>
 run1 Tryz.prog Z (binOp .lss 3 t3 t4) w fun t5 w =>
 CondV t5 (
 run1 Tryz.prog Z (Instr.indexAt 38 x0 t3) w fun t6 w =>
 run1 Tryz.prog Z (Instr.loadAt 132 t6) w fun t7 w =>
 ∃ J_8 : Nat → Value → Value → World → Prop, (∃ m, J_8 m t7 (.int .i64 0) w) ∧
 ∀ m_8, ∀ t9 : Value, ∀ t10 : Value, ∀ w : World, J_8 m_8 t9 t10 w → Env →
 run1 Tryz.prog Z (binOp .lss 3 t10 x1) w fun t11 w =>
 CondV t11 (
 run1 Tryz.prog Z (binOp .sub 3 (.int .i64 (-2000000)) t3) w fun t12 w =>
 CallV Tryz.prog Z 70 #[t12] w fun t13 w =>
 run1 Tryz.prog Z (Instr.build 130 #[(1, t13)]) w fun t14 w =>
 run1 Tryz.prog Z (Instr.build 135 #[(1, t14)]) w fun t15 w =>
 run1 Tryz.prog Z (Instr.buildSlice 132 1 #[(0, t15)]) w fun t16 w =>
 run1 Tryz.prog Z (Builtin.append_ #[132, 132] 132 #[t9, t16]) w fun t17 w =>
 run1 Tryz.prog Z (binOp .add 3 t10 (.int .i64 1)) w fun t18 w =>
 ∃ n_8, n_8 < m_8 ∧ J_8 n_8 t17 t18 w) (
 run1 Tryz.prog Z (Instr.buildSlice 38 1 #[(0, t9)]) w fun t19 w =>
 run1 Tryz.prog Z (Builtin.append_ #[38, 38] 38 #[t2, t19]) w fun t20 w =>
 run1 Tryz.prog Z (binOp .add 3 t3 (.int .i64 1)) w fun t21 w =>
 ∃ n_1, n_1 < m_1 ∧ J_1 n_1 t20 t21 w)) (
 ∃ J_22 : Nat → Value → World → Prop, (∃ m, J_22 m (.int .i64 0) w) ∧
 ∀ m_22, ∀ t23 : Value, ∀ w : World, J_22 m_22 t23 w → Env →
 run1 Tryz.prog Z (Builtin.len_ #[38] 3 #[x0]) w fun t24 w =>
 run1 Tryz.prog Z (binOp .lss 3 t23 t24) w fun t25 w =>
 CondV t25 (
 run1 Tryz.prog Z (Instr.indexAt 38 x0 t23) w fun t26 w =>
 run1 Tryz.prog Z (Instr.loadAt 132 t26) w fun t27 w =>
 run1 Tryz.prog Z (Builtin.len_ #[132] 3 #[t27]) w fun t28 w =>
 ∃ J_29 : Nat → Value → World → Prop, (∃ m, J_29 m (.int .i64 0) w) ∧
 ∀ m_29, ∀ t30 : Value, ∀ w : World, J_29 m_29 t30 w → Env →
 run1 Tryz.prog Z (binOp .add 3 t28 x1) w fun t31 w =>
 run1 Tryz.prog Z (binOp .lss 3 t30 t31) w fun t32 w =>
 CondV t32 (
 Drawn w fun w =>
 Pure1 Tryz.prog (binOp .lss 3 t30 t28) fun t33 =>
 guardV (t33) true (fun k => k (x0)) (fun t34 =>
 guardV (t33) true (fun k => k (t23)) (fun t35 =>
 guardV (t33) true (fun k => Pure1 Tryz.prog (Instr.indexAt 38 t34 t35) k) (fun t36 =>
 guardV (t33) true (fun k => Read1 Tryz.prog (Instr.loadAt 132 t36) w k) (fun t37 =>
 guardV (t33) true (fun k => k (t30)) (fun t38 =>
 guardV (t33) true (fun k => Pure1 Tryz.prog (Instr.indexAt 132 t37 t38) k) (fun t39 =>
 guardV (t33) true (fun k => Pure1 Tryz.prog (Instr.fieldAt 135 t39 1) k) (fun t40 =>
 guardV (t33) true (fun k => Pure1 Tryz.prog (Instr.fieldAt 130 t40 1) k) (fun t41 =>
 guardV (t33) true (fun k => Read1 Tryz.prog (Instr.loadAt 9 t41) w k) (fun t42 =>
 guardV (t33) true (fun k => k (t23)) (fun t43 =>
 guardV (t33) true (fun k => Pure1 Tryz.prog (binOp .sub 3 (.int .i64 (-1000000)) t43) k) (fun t44 =>
 guardW (t33) true (fun k => CallV Tryz.prog Z 70 #[t44] w k) (fun t45 w =>
 Still Tryz.prog (gSem (t33) true (nx (Instr.loadAt 9 t41))) t42 w <|
 Still Tryz.prog (gSem (t33) true (nx (Instr.loadAt 132 t36))) t37 w <|
 guardV (t33) true (fun k => Pure1 Tryz.prog (eqOp .eql 9 false false t42 t45) k) (fun t46 =>
 guardV (t33) true (fun k => Pure1 Tryz.prog (Op.unary .not t46) k) (fun t47 =>
 Pure1 Tryz.prog (pickV t33 t47 (.bool false)) fun t48 =>
 guardV (t48) false (fun k => k (t30)) (fun t49 =>
 guardV (t48) false (fun k => k (t28)) (fun t50 =>
 guardV (t48) false (fun k => Pure1 Tryz.prog (binOp .lss 3 t49 t50) k) (fun t51 =>
 guardV (t48) false (fun k => k (t51)) (fun t52 =>
 guardV (t52) true (fun k => k (t2)) (fun t53 =>
 guardV (t52) true (fun k => k (t23)) (fun t54 =>
 guardV (t52) true (fun k => Pure1 Tryz.prog (Instr.indexAt 38 t53 t54) k) (fun t55 =>
 guardV (t52) true (fun k => Read1 Tryz.prog (Instr.loadAt 132 t55) w k) (fun t56 =>
 guardV (t52) true (fun k => k (t30)) (fun t57 =>
 guardV (t52) true (fun k => Pure1 Tryz.prog (Instr.indexAt 132 t56 t57) k) (fun t58 =>
 guardV (t52) true (fun k => Pure1 Tryz.prog (Instr.fieldAt 135 t58 1) k) (fun t59 =>
 guardV (t52) true (fun k => Pure1 Tryz.prog (Instr.fieldAt 130 t59 1) k) (fun t60 =>
 guardV (t52) true (fun k => Read1 Tryz.prog (Instr.loadAt 9 t60) w k) (fun t61 =>
 guardV (t52) true (fun k => k (t23)) (fun t62 =>
 guardV (t52) true (fun k => Pure1 Tryz.prog (binOp .sub 3 (.int .i64 (-1000000)) t62) k) (fun t63 =>
 guardW (t52) true (fun k => CallV Tryz.prog Z 70 #[t63] w k) (fun t64 w =>
 Still Tryz.prog (gSem (t52) true (nx (Instr.loadAt 9 t60))) t61 w <|
 Still Tryz.prog (gSem (t52) true (nx (Instr.loadAt 132 t55))) t56 w <|
 Still Tryz.prog (gSem (t33) true (nx (Instr.loadAt 9 t41))) t42 w <|
 Still Tryz.prog (gSem (t33) true (nx (Instr.loadAt 132 t36))) t37 w <|
 guardV (t52) true (fun k => Pure1 Tryz.prog (eqOp .eql 9 false false t61 t64) k) (fun t65 =>
 guardV (t52) true (fun k => Pure1 Tryz.prog (Op.unary .not t65) k) (fun t66 =>
 guardV (t48) false (fun k => Pure1 Tryz.prog (pickV t52 t66 (.bool false)) k) (fun t67 =>
 Pure1 Tryz.prog (pickV t48 (.bool true) t67) fun t68 =>
 guardV (t68) false (fun k => k (t30)) (fun t69 =>
 guardV (t68) false (fun k => k (t28)) (fun t70 =>
 guardV (t68) false (fun k => Pure1 Tryz.prog (binOp .geq 3 t69 t70) k) (fun t71 =>
 guardV (t68) false (fun k => k (t71)) (fun t72 =>
 guardV (t72) true (fun k => k (t2)) (fun t73 =>
 guardV (t72) true (fun k => k (t23)) (fun t74 =>
 guardV (t72) true (fun k => Pure1 Tryz.prog (Instr.indexAt 38 t73 t74) k) (fun t75 =>
 guardV (t72) true (fun k => Read1 Tryz.prog (Instr.loadAt 132 t75) w k) (fun t76 =>
 guardV (t72) true (fun k => k (t30)) (fun t77 =>
 guardV (t72) true (fun k => Pure1 Tryz.prog (Instr.indexAt 132 t76 t77) k) (fun t78 =>
 guardV (t72) true (fun k => Pure1 Tryz.prog (Instr.fieldAt 135 t78 1) k) (fun t79 =>
 guardV (t72) true (fun k => Pure1 Tryz.prog (Instr.fieldAt 130 t79 1) k) (fun t80 =>
 guardV (t72) true (fun k => Read1 Tryz.prog (Instr.loadAt 9 t80) w k) (fun t81 =>
 guardV (t72) true (fun k => k (t23)) (fun t82 =>
 guardV (t72) true (fun k => Pure1 Tryz.prog (binOp .sub 3 (.int .i64 (-2000000)) t82) k) (fun t83 =>
 guardW (t72) true (fun k => CallV Tryz.prog Z 70 #[t83] w k) (fun t84 w =>
 Still Tryz.prog (gSem (t72) true (nx (Instr.loadAt 9 t80))) t81 w <|
 Still Tryz.prog (gSem (t72) true (nx (Instr.loadAt 132 t75))) t76 w <|
 Still Tryz.prog (gSem (t52) true (nx (Instr.loadAt 9 t60))) t61 w <|
 Still Tryz.prog (gSem (t52) true (nx (Instr.loadAt 132 t55))) t56 w <|
 Still Tryz.prog (gSem (t33) true (nx (Instr.loadAt 9 t41))) t42 w <|
 Still Tryz.prog (gSem (t33) true (nx (Instr.loadAt 132 t36))) t37 w <|
 guardV (t72) true (fun k => Pure1 Tryz.prog (eqOp .eql 9 false false t81 t84) k) (fun t85 =>
 guardV (t72) true (fun k => Pure1 Tryz.prog (Op.unary .not t85) k) (fun t86 =>
 guardV (t68) false (fun k => Pure1 Tryz.prog (pickV t72 t86 (.bool false)) k) (fun t87 =>
 Pure1 Tryz.prog (pickV t68 (.bool true) t87) fun t88 =>
 CondV t88 (
 Q (.bool false) w) (
 run1 Tryz.prog Z (binOp .add 3 t30 (.int .i64 1)) w fun t89 w =>
 ∃ n_29, n_29 < m_29 ∧ J_29 n_29 t89 w))))) w))))))))))))))))))) w)))))))))))))))))) w)))))))))))) (
 run1 Tryz.prog Z (binOp .add 3 t23 (.int .i64 1)) w fun t90 w =>
 ∃ n_22, n_22 < m_22 ∧ J_22 n_22 t90 w)) (
 Q (.bool true) w))
def f74.an : An := (.sq .leaf (.sq .leaf (.sq (.sq .leaf (.bl (.lp [5, 6] (.sq (.sq .leaf (.cn .leaf .leaf)) (.sq (.bl (.sq .leaf (.sq (.sq .leaf (.bl (.lp [7, 8] (.sq (.sq .leaf (.cn .leaf .leaf)) (.sq (.bl .leaf) .leaf))))) .leaf))) .leaf))))) (.sq (.sq .leaf (.bl (.lp [9] (.sq (.sq .leaf (.cn .leaf .leaf)) (.sq (.bl (.sq .leaf (.sq .leaf (.bl (.lp [11] (.sq (.sq .leaf (.cn .leaf .leaf)) (.sq (.bl (.sq (.dr (pl [0, 4, 8, 12, 16, 20, 24, 29, 32, 36, 40, 44, 49, 52, 56, 62, 64, 68, 72, 76, 80, 84, 88, 92, 96, 100, 104, 109, 112, 116, 120, 124, 129, 132, 136, 142, 144, 148, 152, 156, 160, 164, 168, 172, 176, 180, 184, 188, 193, 196, 200, 204, 208, 213, 216, 220, 226, 228, 232, 236, 240] .fin)) (.cn (.sq .leaf .leaf) .leaf))) .leaf))))))) .leaf))))) (.sq .leaf .leaf)))))
theorem f74.calls {Z : List PanicEntry → World → Prop} {x0 x1 : Value} {w : World} {Q : Value → World → Prop} (h : f74.sh Z x0 x1 w Q) : CallV Tryz.prog Z 74 #[x0, x1] w Q :=
 cl Tryz.func74 f74.an [x0, x1] (by kernel_rfl) (by kernel_rfl) h

def f75.sh (Z : List PanicEntry → World → Prop) (x0 x1 : Value) (w : World) (Q : Value → World → Prop) : Prop :=
 ∃ J_1 : Nat → Value → Value → World → Prop, (∃ m, J_1 m (.slice none 0 0) (.int .i64 0) w) ∧
 ∀ m_1, ∀ t2 : Value, ∀ t3 : Value, ∀ w : World, J_1 m_1 t2 t3 w → Env →
 run1 Tryz.prog Z (Builtin.len_ #[39] 3 #[x0]) w fun t4 w =>
 run1 Tryz.prog Z (binOp .lss 3 t3 t4) w fun t5 w =>
 CondV t5 (
 run1 Tryz.prog Z (Instr.indexAt 39 x0 t3) w fun t6 w =>
 run1 Tryz.prog Z (Instr.loadAt 137 t6) w fun t7 w =>
 ∃ J_8 : Nat → Value → Value → World → Prop, (∃ m, J_8 m t7 (.int .i64 0) w) ∧
 ∀ m_8, ∀ t9 : Value, ∀ t10 : Value, ∀ w : World, J_8 m_8 t9 t10 w → Env →
 run1 Tryz.prog Z (binOp .lss 3 t10 x1) w fun t11 w =>
 CondV t11 (
 run1 Tryz.prog Z (binOp .sub 3 (.int .i64 (-2000000)) t3) w fun t12 w =>
 run1 Tryz.prog Z (Instr.build 139 #[(7, t12)]) w fun t13 w =>
 run1 Tryz.prog Z (Instr.buildSlice 137 1 #[(0, t13)]) w fun t14 w =>
 run1 Tryz.prog Z (Builtin.append_ #[137, 137] 137 #[t9, t14]) w fun t15 w =>
 run1 Tryz.prog Z (binOp .add 3 t10 (.int .i64 1)) w fun t16 w =>
 ∃ n_8, n_8 < m_8 ∧ J_8 n_8 t15 t16 w) (
 run1 Tryz.prog Z (Instr.buildSlice 39 1 #[(0, t9)]) w fun t17 w =>
 run1 Tryz.prog Z (Builtin.append_ #[39, 39] 39 #[t2, t17]) w fun t18 w =>
 run1 Tryz.prog Z (binOp .add 3 t3 (.int .i64 1)) w fun t19 w =>
 ∃ n_1, n_1 < m_1 ∧ J_1 n_1 t18 t19 w)) (
 ∃ J_20 : Nat → Value → World → Prop, (∃ m, J_20 m (.int .i64 0) w) ∧
 ∀ m_20, ∀ t21 : Value, ∀ w : World, J_20 m_20 t21 w → Env →
 run1 Tryz.prog Z (Builtin.len_ #[39] 3 #[x0]) w fun t22 w =>
 run1 Tryz.prog Z (binOp .lss 3 t21 t22) w fun t23 w =>
 CondV t23 (
 run1 Tryz.prog Z (Instr.indexAt 39 x0 t21) w fun t24 w =>
 run1 Tryz.prog Z (Instr.loadAt 137 t24) w fun t25 w =>
 run1 Tryz.prog Z (Builtin.len_ #[137] 3 #[t25]) w fun t26 w =>
 ∃ J_27 : Nat → Value → World → Prop, (∃ m, J_27 m (.int .i64 0) w) ∧
 ∀ m_27, ∀ t28 : Value, ∀ w : World, J_27 m_27 t28 w → Env →
 run1 Tryz.prog Z (binOp .add 3 t26 x1) w fun t29 w =>
 run1 Tryz.prog Z (binOp .lss 3 t28 t29) w fun t30 w =>
 CondV t30 (
 run1 Tryz.prog Z (binOp .lss 3 t28 t26) w fun t31 w =>
 guardW (t31) true (fun k => k (x0) w) (fun t32 w =>
 guardW (t31) true (fun k => k (t21) w) (fun t33 w =>
 guardW (t31) true (fun k => run1 Tryz.prog Z (Instr.indexAt 39 t32 t33) w k) (fun t34 w =>
 guardW (t31) true (fun k => run1 Tryz.prog Z (Instr.loadAt 137 t34) w k) (fun t35 w =>
 guardW (t31) true (fun k => k (t28) w) (fun t36 w =>
 guardW (t31) true (fun k => run1 Tryz.prog Z (Instr.indexAt 137 t35 t36) w k) (fun t37 w =>
 guardW (t31) true (fun k => run1 Tryz.prog Z (Instr.fieldAt 139 t37 7) w k) (fun t38 w =>
 guardW (t31) true (fun k => run1 Tryz.prog Z (Instr.loadAt 2 t38) w k) (fun t39 w =>
 guardW (t31) true (fun k => k (t21) w) (fun t40 w =>
 guardW (t31) true (fun k => run1 Tryz.prog Z (binOp .sub 3 (.int .i64 (-1000000)) t40) w k) (fun t41 w =>
 guardW (t31) true (fun k => run1 Tryz.prog Z (eqOp .eql 2 false false t39 t41) w k) (fun t42 w =>
 guardW (t31) true (fun k => run1 Tryz.prog Z (Op.unary .not t42) w k) (fun t43 w =>
 run1 Tryz.prog Z (pickV t31 t43 (.bool false)) w fun t44 w =>
 guardW (t44) false (fun k => k (t28) w) (fun t45 w =>
 guardW (t44) false (fun k => k (t26) w) (fun t46 w =>
 guardW (t44) false (fun k => run1 Tryz.prog Z (binOp .lss 3 t45 t46) w k) (fun t47 w =>
 guardW (t44) false (fun k => k (t47) w) (fun t48 w =>
 guardW (t48) true (fun k => k (t2) w) (fun t49 w =>
 guardW (t48) true (fun k => k (t21) w) (fun t50 w =>
 guardW (t48) true (fun k => run1 Tryz.prog Z (Instr.indexAt 39 t49 t50) w k) (fun t51 w =>
 guardW (t48) true (fun k => run1 Tryz.prog Z (Instr.loadAt 137 t51) w k) (fun t52 w =>
 guardW (t48) true (fun k => k (t28) w) (fun t53 w =>
 guardW (t48) true (fun k => run1 Tryz.prog Z (Instr.indexAt 137 t52 t53) w k) (fun t54 w =>
 guardW (t48) true (fun k => run1 Tryz.prog Z (Instr.fieldAt 139 t54 7) w k) (fun t55 w =>
 guardW (t48) true (fun k => run1 Tryz.prog Z (Instr.loadAt 2 t55) w k) (fun t56 w =>
 guardW (t48) true (fun k => k (t21) w) (fun t57 w =>
 guardW (t48) true (fun k => run1 Tryz.prog Z (binOp .sub 3 (.int .i64 (-1000000)) t57) w k) (fun t58 w =>
 guardW (t48) true (fun k => run1 Tryz.prog Z (eqOp .eql 2 false false t56 t58) w k) (fun t59 w =>
 guardW (t48) true (fun k => run1 Tryz.prog Z (Op.unary .not t59) w k) (fun t60 w =>
 guardW (t44) false (fun k => run1 Tryz.prog Z (pickV t48 t60 (.bool false)) w k) (fun t61 w =>
 run1 Tryz.prog Z (pickV t44 (.bool true) t61) w fun t62 w =>
 guardW (t62) false (fun k => k (t28) w) (fun t63 w =>
 guardW (t62) false (fun k => k (t26) w) (fun t64 w =>
 guardW (t62) false (fun k => run1 Tryz.prog Z (binOp .geq 3 t63 t64) w k) (fun t65 w =>
 guardW (t62) false (fun k => k (t65) w) (fun t66 w =>
 guardW (t66) true (fun k => k (t2) w) (fun t67 w =>
 guardW (t66) true (fun k => k (t21) w) (fun t68 w =>
 guardW (t66) true (fun k => run1 Tryz.prog Z (Instr.indexAt 39 t67 t68) w k) (fun t69 w =>
 guardW (t66) true (fun k => run1 Tryz.prog Z (Instr.loadAt 137 t69) w k) (fun t70 w =>
 guardW (t66) true (fun k => k (t28) w) (fun t71 w =>
 guardW (t66) true (fun k => run1 Tryz.prog Z (Instr.indexAt 137 t70 t71) w k) (fun t72 w =>
 guardW (t66) true (fun k => run1 Tryz.prog Z (Instr.fieldAt 139 t72 7) w k) (fun t73 w =>
 guardW (t66) true (fun k => run1 Tryz.prog Z (Instr.loadAt 2 t73) w k) (fun t74 w =>
 guardW (t66) true (fun k => k (t21) w) (fun t75 w =>
 guardW (t66) true (fun k => run1 Tryz.prog Z (binOp .sub 3 (.int .i64 (-2000000)) t75) w k) (fun t76 w =>
 guardW (t66) true (fun k => run1 Tryz.prog Z (eqOp .eql 2 false false t74 t76) w k) (fun t77 w =>
 guardW (t66) true (fun k => run1 Tryz.prog Z (Op.unary .not t77) w k) (fun t78 w =>
 guardW (t62) false (fun k => run1 Tryz.prog Z (pickV t66 t78 (.bool false)) w k) (fun t79 w =>
 run1 Tryz.prog Z (pickV t62 (.bool true) t79) w fun t80 w =>
 CondV t80 (
 Q (.bool false) w) (
 run1 Tryz.prog Z (binOp .add 3 t28 (.int .i64 1)) w fun t81 w =>
 ∃ n_27, n_27 < m_27 ∧ J_27 n_27 t81 w)) w) w) w) w) w) w) w) w) w) w) w) w) w) w) w) w) w) w) w) w) w) w) w) w) w) w) w) w) w) w) w) w) w) w) w) w) w) w) w) w) w) w) w) w) w) w) (
 run1 Tryz.prog Z (binOp .add 3 t21 (.int .i64 1)) w fun t82 w =>
 ∃ n_20, n_20 < m_20 ∧ J_20 n_20 t82 w)) (
 Q (.bool true) w))
def f75.an : An := (.sq .leaf (.sq .leaf (.sq (.sq .leaf (.bl (.lp [5, 6] (.sq (.sq .leaf (.cn .leaf .leaf)) (.sq (.bl (.sq .leaf (.sq (.sq .leaf (.bl (.lp [7, 8] (.sq (.sq .leaf (.cn .leaf .leaf)) (.sq (.bl .leaf) .leaf))))) .leaf))) .leaf))))) (.sq (.sq .leaf (.bl (.lp [9] (.sq (.sq .leaf (.cn .leaf .leaf)) (.sq (.bl (.sq .leaf (.sq .leaf (.bl (.lp [11] (.sq (.sq .leaf (.cn .leaf .leaf)) (.sq (.bl (.sq .leaf (.cn (.sq .leaf .leaf) .leaf))) .leaf))))))) .leaf))))) (.sq .leaf .leaf)))))
theorem f75.calls {Z : List PanicEntry → World → Prop} {x0 x1 : Value} {w : World} {Q : Value → World → Prop} (h : f75.sh Z x0 x1 w Q) : CallV Tryz.prog Z 75 #[x0, x1] w Q :=
 cl Tryz.func75 f75.an [x0, x1] (by kernel_rfl) (by kernel_rfl) h

def f76.sh (Z : List PanicEntry → World → Prop) (x0 x1 : Value) (w : World) (Q : Value → World → Prop) : Prop :=
 ∃ J_1 : Nat → Value → Value → World → Prop, (∃ m, J_1 m (.slice none 0 0) (.int .i64 0) w) ∧
 ∀ m_1, ∀ t2 : Value, ∀ t3 : Value, ∀ w : World, J_1 m_1 t2 t3 w → Env →
 run1 Tryz.prog Z (Builtin.len_ #[40] 3 #[x0]) w fun t4 w =>
 run1 Tryz.prog Z (binOp .lss 3 t3 t4) w fun t5 w =>
 CondV t5 (
 run1 Tryz.prog Z (Instr.indexAt 40 x0 t3) w fun t6 w =>
 run1 Tryz.prog Z (Instr.loadAt 141 t6) w fun t7 w =>
 ∃ J_8 : Nat → Value → Value → World → Prop, (∃ m, J_8 m t7 (.int .i64 0) w) ∧
 ∀ m_8, ∀ t9 : Value, ∀ t10 : Value, ∀ w : World, J_8 m_8 t9 t10 w → Env →
 run1 Tryz.prog Z (binOp .lss 3 t10 x1) w fun t11 w =>
 CondV t11 (
 run1 Tryz.prog Z (binOp .sub 3 (.int .i64 (-2000000)) t3) w fun t12 w =>
 run1 Tryz.prog Z (Instr.build 144 #[(2, t12)]) w fun t13 w =>
 run1 Tryz.prog Z (Instr.build 148 #[(1, t13)]) w fun t14 w =>
 run1 Tryz.prog Z (Instr.buildSlice 141 1 #[(0, t14)]) w fun t15 w =>
 run1 Tryz.prog Z (Builtin.append_ #[141, 141] 141 #[t9, t15]) w fun t16 w =>
 run1 Tryz.prog Z (binOp .add 3 t10 (.int .i64 1)) w fun t17 w =>
 ∃ n_8, n_8 < m_8 ∧ J_8 n_8 t16 t17 w) (
 run1 Tryz.prog Z (Instr.buildSlice 40 1 #[(0, t9)]) w fun t18 w =>
 run1 Tryz.prog Z (Builtin.append_ #[40, 40] 40 #[t2, t18]) w fun t19 w =>
 run1 Tryz.prog Z (binOp .add 3 t3 (.int .i64 1)) w fun t20 w =>
 ∃ n_1, n_1 < m_1 ∧ J_1 n_1 t19 t20 w)) (
 ∃ J_21 : Nat → Value → World → Prop, (∃ m, J_21 m (.int .i64 0) w) ∧
 ∀ m_21, ∀ t22 : Value, ∀ w : World, J_21 m_21 t22 w → Env →
 run1 Tryz.prog Z (Builtin.len_ #[40] 3 #[x0]) w fun t23 w =>
 run1 Tryz.prog Z (binOp .lss 3 t22 t23) w fun t24 w =>
 CondV t24 (
 run1 Tryz.prog Z (Instr.indexAt 40 x0 t22) w fun t25 w =>
 run1 Tryz.prog Z (Instr.loadAt 141 t25) w fun t26 w =>
 run1 Tryz.prog Z (Builtin.len_ #[141] 3 #[t26]) w fun t27 w =>
 ∃ J_28 : Nat → Value → World → Prop, (∃ m, J_28 m (.int .i64 0) w) ∧
 ∀ m_28, ∀ t29 : Value, ∀ w : World, J_28 m_28 t29 w → Env →
 run1 Tryz.prog Z (binOp .add 3 t27 x1) w fun t30 w =>
 run1 Tryz.prog Z (binOp .lss 3 t29 t30) w fun t31 w =>
 CondV t31 (
 run1 Tryz.prog Z (binOp .lss 3 t29 t27) w fun t32 w =>
 guardW (t32) true (fun k => k (x0) w) (fun t33 w =>
 guardW (t32) true (fun k => k (t22) w) (fun t34 w =>
 guardW (t32) true (fun k => run1 Tryz.prog Z (Instr.indexAt 40 t33 t34) w k) (fun t35 w =>
 guardW (t32) true (fun k => run1 Tryz.prog Z (Instr.loadAt 141 t35) w k) (fun t36 w =>
 guardW (t32) true (fun k => k (t29) w) (fun t37 w =>
 guardW (t32) true (fun k => run1 Tryz.prog Z (Instr.indexAt 141 t36 t37) w k) (fun t38 w =>
 guardW (t32) true (fun k => run1 Tryz.prog Z (Instr.fieldAt 148 t38 1) w k) (fun t39 w =>
 guardW (t32) true (fun k => run1 Tryz.prog Z (Instr.fieldAt 144 t39 2) w k) (fun t40 w =>
 guardW (t32) true (fun k => run1 Tryz.prog Z (Instr.loadAt 2 t40) w k) (fun t41 w =>
 guardW (t32) true (fun k => k (t22) w) (fun t42 w =>
 guardW (t32) true (fun k => run1 Tryz.prog Z (binOp .sub 3 (.int .i64 (-1000000)) t42) w k) (fun t43 w =>
 guardW (t32) true (fun k => run1 Tryz.prog Z (eqOp .eql 2 false false t41 t43) w k) (fun t44 w =>
 guardW (t32) true (fun k => run1 Tryz.prog Z (Op.unary .not t44) w k) (fun t45 w =>
 run1 Tryz.prog Z (pickV t32 t45 (.bool false)) w fun t46 w =>
 guardW (t46) false (fun k => k (t29) w) (fun t47 w =>
 guardW (t46) false (fun k => k (t27) w) (fun t48 w =>
 guardW (t46) false (fun k => run1 Tryz.prog Z (binOp .lss 3 t47 t48) w k) (fun t49 w =>
 guardW (t46) false (fun k => k (t49) w) (fun t50 w =>
 guardW (t50) true (fun k => k (t2) w) (fun t51 w =>
 guardW (t50) true (fun k => k (t22) w) (fun t52 w =>
 guardW (t50) true (fun k => run1 Tryz.prog Z (Instr.indexAt 40 t51 t52) w k) (fun t53 w =>
 guardW (t50) true (fun k => run1 Tryz.prog Z (Instr.loadAt 141 t53) w k) (fun t54 w =>
 guardW (t50) true (fun k => k (t29) w) (fun t55 w =>
 guardW (t50) true (fun k => run1 Tryz.prog Z (Instr.indexAt 141 t54 t55) w k) (fun t56 w =>
 guardW (t50) true (fun k => run1 Tryz.prog Z (Instr.fieldAt 148 t56 1) w k) (fun t57 w =>
 guardW (t50) true (fun k => run1 Tryz.prog Z (Instr.fieldAt 144 t57 2) w k) (fun t58 w =>
 guardW (t50) true (fun k => run1 Tryz.prog Z (Instr.loadAt 2 t58) w k) (fun t59 w =>
 guardW (t50) true (fun k => k (t22) w) (fun t60 w =>
 guardW (t50) true (fun k => run1 Tryz.prog Z (binOp .sub 3 (.int .i64 (-1000000)) t60) w k) (fun t61 w =>
 guardW (t50) true (fun k => run1 Tryz.prog Z (eqOp .eql 2 false false t59 t61) w k) (fun t62 w =>
 guardW (t50) true (fun k => run1 Tryz.prog Z (Op.unary .not t62) w k) (fun t63 w =>
 guardW (t46) false (fun k => run1 Tryz.prog Z (pickV t50 t63 (.bool false)) w k) (fun t64 w =>
 run1 Tryz.prog Z (pickV t46 (.bool true) t64) w fun t65 w =>
 guardW (t65) false (fun k => k (t29) w) (fun t66 w =>
 guardW (t65) false (fun k => k (t27) w) (fun t67 w =>
 guardW (t65) false (fun k => run1 Tryz.prog Z (binOp .geq 3 t66 t67) w k) (fun t68 w =>
 guardW (t65) false (fun k => k (t68) w) (fun t69 w =>
 guardW (t69) true (fun k => k (t2) w) (fun t70 w =>
 guardW (t69) true (fun k => k (t22) w) (fun t71 w =>
 guardW (t69) true (fun k => run1 Tryz.prog Z (Instr.indexAt 40 t70 t71) w k) (fun t72 w =>
 guardW (t69) true (fun k => run1 Tryz.prog Z (Instr.loadAt 141 t72) w k) (fun t73 w =>
 guardW (t69) true (fun k => k (t29) w) (fun t74 w =>
 guardW (t69) true (fun k => run1 Tryz.prog Z (Instr.indexAt 141 t73 t74) w k) (fun t75 w =>
 guardW (t69) true (fun k => run1 Tryz.prog Z (Instr.fieldAt 148 t75 1) w k) (fun t76 w =>
 guardW (t69) true (fun k => run1 Tryz.prog Z (Instr.fieldAt 144 t76 2) w k) (fun t77 w =>
 guardW (t69) true (fun k => run1 Tryz.prog Z (Instr.loadAt 2 t77) w k) (fun t78 w =>
 guardW (t69) true (fun k => k (t22) w) (fun t79 w =>
 guardW (t69) true (fun k => run1 Tryz.prog Z (binOp .sub 3 (.int .i64 (-2000000)) t79) w k) (fun t80 w =>
 guardW (t69) true (fun k => run1 Tryz.prog Z (eqOp .eql 2 false false t78 t80) w k) (fun t81 w =>
 guardW (t69) true (fun k => run1 Tryz.prog Z (Op.unary .not t81) w k) (fun t82 w =>
 guardW (t65) false (fun k => run1 Tryz.prog Z (pickV t69 t82 (.bool false)) w k) (fun t83 w =>
 run1 Tryz.prog Z (pickV t65 (.bool true) t83) w fun t84 w =>
 CondV t84 (
 Q (.bool false) w) (
 run1 Tryz.prog Z (binOp .add 3 t29 (.int .i64 1)) w fun t85 w =>
 ∃ n_28, n_28 < m_28 ∧ J_28 n_28 t85 w)) w) w) w) w) w) w) w) w) w) w) w) w) w) w) w) w) w) w) w) w) w) w) w) w) w) w) w) w) w) w) w) w) w) w) w) w) w) w) w) w) w) w) w) w) w) w) w) w) w) (
 run1 Tryz.prog Z (binOp .add 3 t22 (.int .i64 1)) w fun t86 w =>
 ∃ n_21, n_21 < m_21 ∧ J_21 n_21 t86 w)) (
 Q (.bool true) w))
def f76.an : An := (.sq .leaf (.sq .leaf (.sq (.sq .leaf (.bl (.lp [5, 6] (.sq (.sq .leaf (.cn .leaf .leaf)) (.sq (.bl (.sq .leaf (.sq (.sq .leaf (.bl (.lp [7, 8] (.sq (.sq .leaf (.cn .leaf .leaf)) (.sq (.bl .leaf) .leaf))))) .leaf))) .leaf))))) (.sq (.sq .leaf (.bl (.lp [9] (.sq (.sq .leaf (.cn .leaf .leaf)) (.sq (.bl (.sq .leaf (.sq .leaf (.bl (.lp [11] (.sq (.sq .leaf (.cn .leaf .leaf)) (.sq (.bl (.sq .leaf (.cn (.sq .leaf .leaf) .leaf))) .leaf))))))) .leaf))))) (.sq .leaf .leaf)))))
theorem f76.calls {Z : List PanicEntry → World → Prop} {x0 x1 : Value} {w : World} {Q : Value → World → Prop} (h : f76.sh Z x0 x1 w Q) : CallV Tryz.prog Z 76 #[x0, x1] w Q :=
 cl Tryz.func76 f76.an [x0, x1] (by kernel_rfl) (by kernel_rfl) h

end Go.Proofs.YtcbbaiglcgemmaaGreatDoor
