import Derived.Test.YtcbbaiglcgemmaaGreatDoorShBase
set_option linter.unusedVariables false
namespace Go.Proofs.YtcbbaiglcgemmaaGreatDoor
open Go.Sh
def f77.sh (Z : List PanicEntry → World → Prop) (x0 x1 : Value) (w : World) (Q : Value → World → Prop) : Prop :=
 ∃ J_1 : Nat → Value → Value → World → Prop, (∃ m, J_1 m (.slice none 0 0) (.int .i64 0) w) ∧
 ∀ m_1, ∀ t2 : Value, ∀ t3 : Value, ∀ w : World, J_1 m_1 t2 t3 w → Env →
 run1 Tryz.prog Z (Builtin.len_ #[41] 3 #[x0]) w fun t4 w =>
 run1 Tryz.prog Z (binOp .lss 3 t3 t4) w fun t5 w =>
 CondV t5 (
 run1 Tryz.prog Z (Instr.indexAt 41 x0 t3) w fun t6 w =>
 run1 Tryz.prog Z (Instr.loadAt 150 t6) w fun t7 w =>
 ∃ J_8 : Nat → Value → Value → World → Prop, (∃ m, J_8 m t7 (.int .i64 0) w) ∧
 ∀ m_8, ∀ t9 : Value, ∀ t10 : Value, ∀ w : World, J_8 m_8 t9 t10 w → Env →
 run1 Tryz.prog Z (binOp .lss 3 t10 x1) w fun t11 w =>
 CondV t11 (
 run1 Tryz.prog Z (binOp .sub 3 (.int .i64 (-2000000)) t3) w fun t12 w =>
 run1 Tryz.prog Z (Instr.build 154 #[(6, t12)]) w fun t13 w =>
 run1 Tryz.prog Z (Instr.buildSlice 150 1 #[(0, t13)]) w fun t14 w =>
 run1 Tryz.prog Z (Builtin.append_ #[150, 150] 150 #[t9, t14]) w fun t15 w =>
 run1 Tryz.prog Z (binOp .add 3 t10 (.int .i64 1)) w fun t16 w =>
 ∃ n_8, n_8 < m_8 ∧ J_8 n_8 t15 t16 w) (
 run1 Tryz.prog Z (Instr.buildSlice 41 1 #[(0, t9)]) w fun t17 w =>
 run1 Tryz.prog Z (Builtin.append_ #[41, 41] 41 #[t2, t17]) w fun t18 w =>
 run1 Tryz.prog Z (binOp .add 3 t3 (.int .i64 1)) w fun t19 w =>
 ∃ n_1, n_1 < m_1 ∧ J_1 n_1 t18 t19 w)) (
 ∃ J_20 : Nat → Value → World → Prop, (∃ m, J_20 m (.int .i64 0) w) ∧
 ∀ m_20, ∀ t21 : Value, ∀ w : World, J_20 m_20 t21 w → Env →
 run1 Tryz.prog Z (Builtin.len_ #[41] 3 #[x0]) w fun t22 w =>
 run1 Tryz.prog Z (binOp .lss 3 t21 t22) w fun t23 w =>
 CondV t23 (
 run1 Tryz.prog Z (Instr.indexAt 41 x0 t21) w fun t24 w =>
 run1 Tryz.prog Z (Instr.loadAt 150 t24) w fun t25 w =>
 run1 Tryz.prog Z (Builtin.len_ #[150] 3 #[t25]) w fun t26 w =>
 ∃ J_27 : Nat → Value → World → Prop, (∃ m, J_27 m (.int .i64 0) w) ∧
 ∀ m_27, ∀ t28 : Value, ∀ w : World, J_27 m_27 t28 w → Env →
 run1 Tryz.prog Z (binOp .add 3 t26 x1) w fun t29 w =>
 run1 Tryz.prog Z (binOp .lss 3 t28 t29) w fun t30 w =>
 CondV t30 (
 run1 Tryz.prog Z (binOp .lss 3 t28 t26) w fun t31 w =>
 guardW (t31) true (fun k => k (x0) w) (fun t32 w =>
 guardW (t31) true (fun k => k (t21) w) (fun t33 w =>
 guardW (t31) true (fun k => run1 Tryz.prog Z (Instr.indexAt 41 t32 t33) w k) (fun t34 w =>
 guardW (t31) true (fun k => run1 Tryz.prog Z (Instr.loadAt 150 t34) w k) (fun t35 w =>
 guardW (t31) true (fun k => k (t28) w) (fun t36 w =>
 guardW (t31) true (fun k => run1 Tryz.prog Z (Instr.indexAt 150 t35 t36) w k) (fun t37 w =>
 guardW (t31) true (fun k => run1 Tryz.prog Z (Instr.fieldAt 154 t37 6) w k) (fun t38 w =>
 guardW (t31) true (fun k => run1 Tryz.prog Z (Instr.loadAt 2 t38) w k) (fun t39 w =>
 guardW (t31) true (fun k => k (t21) w) (fun t40 w =>
 guardW (t31) true (fun k => run1 Tryz.prog Z (binOp .sub 3 (.int .i64 (-1000000)) t40) w k) (fun t41 w =>
 guardW (t31) true (fun k => run1 Tryz.prog Z (eqOp .eql 2 false false t39 t41) w k) (fun t42 w =>
 guardW (t31) true (fun k => run1 Tryz.prog Z (Op.unary .not t42) w k) (fun t43 w =>
 run1 Tryz.prog Z (pickV t31 t43 (.bool false)) w fun t44 w =>
 guardW (t44) false (fun k => k (t28) w) (fun t45 w =>
 guardW (t44) false (fun k => k (t26) w) (fun t46 w =>
 guardW (t44) false (fun k => run1 Tryz.prog Z (binOp .lss 3 t45 t46) w k) (fun t47 w =>
 guardW (t44) false (fun k => k (t47) w) (fun t48 w =>
 guardW (t48) true (fun k => k (t2) w) (fun t49 w =>
 guardW (t48) true (fun k => k (t21) w) (fun t50 w =>
 guardW (t48) true (fun k => run1 Tryz.prog Z (Instr.indexAt 41 t49 t50) w k) (fun t51 w =>
 guardW (t48) true (fun k => run1 Tryz.prog Z (Instr.loadAt 150 t51) w k) (fun t52 w =>
 guardW (t48) true (fun k => k (t28) w) (fun t53 w =>
 guardW (t48) true (fun k => run1 Tryz.prog Z (Instr.indexAt 150 t52 t53) w k) (fun t54 w =>
 guardW (t48) true (fun k => run1 Tryz.prog Z (Instr.fieldAt 154 t54 6) w k) (fun t55 w =>
 guardW (t48) true (fun k => run1 Tryz.prog Z (Instr.loadAt 2 t55) w k) (fun t56 w =>
 guardW (t48) true (fun k => k (t21) w) (fun t57 w =>
 guardW (t48) true (fun k => run1 Tryz.prog Z (binOp .sub 3 (.int .i64 (-1000000)) t57) w k) (fun t58 w =>
 guardW (t48) true (fun k => run1 Tryz.prog Z (eqOp .eql 2 false false t56 t58) w k) (fun t59 w =>
 guardW (t48) true (fun k => run1 Tryz.prog Z (Op.unary .not t59) w k) (fun t60 w =>
 guardW (t44) false (fun k => run1 Tryz.prog Z (pickV t48 t60 (.bool false)) w k) (fun t61 w =>
 run1 Tryz.prog Z (pickV t44 (.bool true) t61) w fun t62 w =>
 guardW (t62) false (fun k => k (t28) w) (fun t63 w =>
 guardW (t62) false (fun k => k (t26) w) (fun t64 w =>
 guardW (t62) false (fun k => run1 Tryz.prog Z (binOp .geq 3 t63 t64) w k) (fun t65 w =>
 guardW (t62) false (fun k => k (t65) w) (fun t66 w =>
 guardW (t66) true (fun k => k (t2) w) (fun t67 w =>
 guardW (t66) true (fun k => k (t21) w) (fun t68 w =>
 guardW (t66) true (fun k => run1 Tryz.prog Z (Instr.indexAt 41 t67 t68) w k) (fun t69 w =>
 guardW (t66) true (fun k => run1 Tryz.prog Z (Instr.loadAt 150 t69) w k) (fun t70 w =>
 guardW (t66) true (fun k => k (t28) w) (fun t71 w =>
 guardW (t66) true (fun k => run1 Tryz.prog Z (Instr.indexAt 150 t70 t71) w k) (fun t72 w =>
 guardW (t66) true (fun k => run1 Tryz.prog Z (Instr.fieldAt 154 t72 6) w k) (fun t73 w =>
 guardW (t66) true (fun k => run1 Tryz.prog Z (Instr.loadAt 2 t73) w k) (fun t74 w =>
 guardW (t66) true (fun k => k (t21) w) (fun t75 w =>
 guardW (t66) true (fun k => run1 Tryz.prog Z (binOp .sub 3 (.int .i64 (-2000000)) t75) w k) (fun t76 w =>
 guardW (t66) true (fun k => run1 Tryz.prog Z (eqOp .eql 2 false false t74 t76) w k) (fun t77 w =>
 guardW (t66) true (fun k => run1 Tryz.prog Z (Op.unary .not t77) w k) (fun t78 w =>
 guardW (t62) false (fun k => run1 Tryz.prog Z (pickV t66 t78 (.bool false)) w k) (fun t79 w =>
 run1 Tryz.prog Z (pickV t62 (.bool true) t79) w fun t80 w =>
 CondV t80 (
 Q (.bool false) w) (
 run1 Tryz.prog Z (binOp .add 3 t28 (.int .i64 1)) w fun t81 w =>
 ∃ n_27, n_27 < m_27 ∧ J_27 n_27 t81 w)) w) w) w) w) w) w) w) w) w) w) w) w) w) w) w) w) w) w) w) w) w) w) w) w) w) w) w) w) w) w) w) w) w) w) w) w) w) w) w) w) w) w) w) w) w) w) (
 run1 Tryz.prog Z (binOp .add 3 t21 (.int .i64 1)) w fun t82 w =>
 ∃ n_20, n_20 < m_20 ∧ J_20 n_20 t82 w)) (
 Q (.bool true) w))
def f77.an : An := (.sq .leaf (.sq .leaf (.sq (.sq .leaf (.bl (.lp [5, 6] (.sq (.sq .leaf (.cn .leaf .leaf)) (.sq (.bl (.sq .leaf (.sq (.sq .leaf (.bl (.lp [7, 8] (.sq (.sq .leaf (.cn .leaf .leaf)) (.sq (.bl .leaf) .leaf))))) .leaf))) .leaf))))) (.sq (.sq .leaf (.bl (.lp [9] (.sq (.sq .leaf (.cn .leaf .leaf)) (.sq (.bl (.sq .leaf (.sq .leaf (.bl (.lp [11] (.sq (.sq .leaf (.cn .leaf .leaf)) (.sq (.bl (.sq .leaf (.cn (.sq .leaf .leaf) .leaf))) .leaf))))))) .leaf))))) (.sq .leaf .leaf)))))
theorem f77.calls {Z : List PanicEntry → World → Prop} {x0 x1 : Value} {w : World} {Q : Value → World → Prop} (h : f77.sh Z x0 x1 w Q) : CallV Tryz.prog Z 77 #[x0, x1] w Q :=
 cl Tryz.func77 f77.an [x0, x1] (by kernel_rfl) (by kernel_rfl) h

def f78.sh (Z : List PanicEntry → World → Prop) (x0 x1 : Value) (w : World) (Q : Value → World → Prop) : Prop :=
 ∃ J_1 : Nat → Value → Value → World → Prop, (∃ m, J_1 m (.slice none 0 0) (.int .i64 0) w) ∧
 ∀ m_1, ∀ t2 : Value, ∀ t3 : Value, ∀ w : World, J_1 m_1 t2 t3 w → Env →
 run1 Tryz.prog Z (Builtin.len_ #[42] 3 #[x0]) w fun t4 w =>
 run1 Tryz.prog Z (binOp .lss 3 t3 t4) w fun t5 w =>
 CondV t5 (
 run1 Tryz.prog Z (Instr.indexAt 42 x0 t3) w fun t6 w =>
 run1 Tryz.prog Z (Instr.loadAt 156 t6) w fun t7 w =>
 ∃ J_8 : Nat → Value → Value → World → Prop, (∃ m, J_8 m t7 (.int .i64 0) w) ∧
 ∀ m_8, ∀ t9 : Value, ∀ t10 : Value, ∀ w : World, J_8 m_8 t9 t10 w → Env →
 run1 Tryz.prog Z (binOp .lss 3 t10 x1) w fun t11 w =>
 CondV t11 (
 run1 Tryz.prog Z (binOp .sub 3 (.int .i64 (-2000000)) t3) w fun t12 w =>
 CallV Tryz.prog Z 70 #[t12] w fun t13 w =>
 run1 Tryz.prog Z (Instr.build 158 #[(0, t13)]) w fun t14 w =>
 run1 Tryz.prog Z (Instr.buildSlice 156 1 #[(0, t14)]) w fun t15 w =>
 run1 Tryz.prog Z (Builtin.append_ #[156, 156] 156 #[t9, t15]) w fun t16 w =>
 run1 Tryz.prog Z (binOp .add 3 t10 (.int .i64 1)) w fun t17 w =>
 ∃ n_8, n_8 < m_8 ∧ J_8 n_8 t16 t17 w) (
 run1 Tryz.prog Z (Instr.buildSlice 42 1 #[(0, t9)]) w fun t18 w =>
 run1 Tryz.prog Z (Builtin.append_ #[42, 42] 42 #[t2, t18]) w fun t19 w =>
 run1 Tryz.prog Z (binOp .add 3 t3 (.int .i64 1)) w fun t20 w =>
 ∃ n_1, n_1 < m_1 ∧ J_1 n_1 t19 t20 w)) (
 ∃ J_21 : Nat → Value → World → Prop, (∃ m, J_21 m (.int .i64 0) w) ∧
 ∀ m_21, ∀ t22 : Value, ∀ w : World, J_21 m_21 t22 w → Env →
 run1 Tryz.prog Z (Builtin.len_ #[42] 3 #[x0]) w fun t23 w =>
 run1 Tryz.prog Z (binOp .lss 3 t22 t23) w fun t24 w =>
 CondV t24 (
 run1 Tryz.prog Z (Instr.indexAt 42 x0 t22) w fun t25 w =>
 run1 Tryz.prog Z (Instr.loadAt 156 t25) w fun t26 w =>
 run1 Tryz.prog Z (Builtin.len_ #[156] 3 #[t26]) w fun t27 w =>
 ∃ J_28 : Nat → Value → World → Prop, (∃ m, J_28 m (.int .i64 0) w) ∧
 ∀ m_28, ∀ t29 : Value, ∀ w : World, J_28 m_28 t29 w → Env →
 run1 Tryz.prog Z (binOp .add 3 t27 x1) w fun t30 w =>
 run1 Tryz.prog Z (binOp .lss 3 t29 t30) w fun t31 w =>
 CondV t31 (
 Drawn w fun w =>
 Pure1 Tryz.prog (binOp .lss 3 t29 t27) fun t32 =>
 guardV (t32) true (fun k => k (x0)) (fun t33 =>
 guardV (t32) true (fun k => k (t22)) (fun t34 =>
 guardV (t32) true (fun k => Pure1 Tryz.prog (Instr.indexAt 42 t33 t34) k) (fun t35 =>
 guardV (t32) true (fun k => Read1 Tryz.prog (Instr.loadAt 156 t35) w k) (fun t36 =>
 guardV (t32) true (fun k => k (t29)) (fun t37 =>
 guardV (t32) true (fun k => Pure1 Tryz.prog (Instr.indexAt 156 t36 t37) k) (fun t38 =>
 guardV (t32) true (fun k => Pure1 Tryz.prog (Instr.fieldAt 158 t38 0) k) (fun t39 =>
 guardV (t32) true (fun k => Read1 Tryz.prog (Instr.loadAt 9 t39) w k) (fun t40 =>
 guardV (t32) true (fun k => k (t22)) (fun t41 =>
 guardV (t32) true (fun k => Pure1 Tryz.prog (binOp .sub 3 (.int .i64 (-1000000)) t41) k) (fun t42 =>
 guardW (t32) true (fun k => CallV Tryz.prog Z 70 #[t42] w k) (fun t43 w =>
 Still Tryz.prog (gSem (t32) true (nx (Instr.loadAt 9 t39))) t40 w <|
 Still Tryz.prog (gSem (t32) true (nx (Instr.loadAt 156 t35))) t36 w <|
 guardV (t32) true (fun k => Pure1 Tryz.prog (eqOp .eql 9 false false t40 t43) k) (fun t44 =>
 guardV (t32) true (fun k => Pure1 Tryz.prog (Op.unary .not t44) k) (fun t45 =>
 Pure1 Tryz.prog (pickV t32 t45 (.bool false)) fun t46 =>
 guardV (t46) false (fun k => k (t29)) (fun t47 =>
 guardV (t46) false (fun k => k (t27)) (fun t48 =>
 guardV (t46) false (fun k => Pure1 Tryz.prog (binOp .lss 3 t47 t48) k) (fun t49 =>
 guardV (t46) false (fun k => k (t49)) (fun t50 =>
 guardV (t50) true (fun k => k (t2)) (fun t51 =>
 guardV (t50) true (fun k => k (t22)) (fun t52 =>
 guardV (t50) true (fun k => Pure1 Tryz.prog (Instr.indexAt 42 t51 t52) k) (fun t53 =>
 guardV (t50) true (fun k => Read1 Tryz.prog (Instr.loadAt 156 t53) w k) (fun t54 =>
 guardV (t50) true (fun k => k (t29)) (fun t55 =>
 guardV (t50) true (fun k => Pure1 Tryz.prog (Instr.indexAt 156 t54 t55) k) (fun t56 =>
 guardV (t50) true (fun k => Pure1 Tryz.prog (Instr.fieldAt 158 t56 0) k) (fun t57 =>
 guardV (t50) true (fun k => Read1 Tryz.prog (Instr.loadAt 9 t57) w k) (fun t58 =>
 guardV (t50) true (fun k => k (t22)) (fun t59 =>
 guardV (t50) true (fun k => Pure1 Tryz.prog (binOp .sub 3 (.int .i64 (-1000000)) t59) k) (fun t60 =>
 guardW (t50) true (fun k => CallV Tryz.prog Z 70 #[t60] w k) (fun t61 w =>
 Still Tryz.prog (gSem (t50) true (nx (Instr.loadAt 9 t57))) t58 w <|
 Still Tryz.prog (gSem (t50) true (nx (Instr.loadAt 156 t53))) t54 w <|
 Still Tryz.prog (gSem (t32) true (nx (Instr.loadAt 9 t39))) t40 w <|
 Still Tryz.prog (gSem (t32) true (nx (Instr.loadAt 156 t35))) t36 w <|
 guardV (t50) true (fun k => Pure1 Tryz.prog (eqOp .eql 9 false false t58 t61) k) (fun t62 =>
 guardV (t50) true (fun k => Pure1 Tryz.prog (Op.unary .not t62) k) (fun t63 =>
 guardV (t46) false (fun k => Pure1 Tryz.prog (pickV t50 t63 (.bool false)) k) (fun t64 =>
 Pure1 Tryz.prog (pickV t46 (.bool true) t64) fun t65 =>
 guardV (t65) false (fun k => k (t29)) (fun t66 =>
 guardV (t65) false (fun k => k (t27)) (fun t67 =>
 guardV (t65) false (fun k => Pure1 Tryz.prog (binOp .geq 3 t66 t67) k) (fun t68 =>
 guardV (t65) false (fun k => k (t68)) (fun t69 =>
 guardV (t69) true (fun k => k (t2)) (fun t70 =>
 guardV (t69) true (fun k => k (t22)) (fun t71 =>
 guardV (t69) true (fun k => Pure1 Tryz.prog (Instr.indexAt 42 t70 t71) k) (fun t72 =>
 guardV (t69) true (fun k => Read1 Tryz.prog (Instr.loadAt 156 t72) w k) (fun t73 =>
 guardV (t69) true (fun k => k (t29)) (fun t74 =>
 guardV (t69) true (fun k => Pure1 Tryz.prog (Instr.indexAt 156 t73 t74) k) (fun t75 =>
 guardV (t69) true (fun k => Pure1 Tryz.prog (Instr.fieldAt 158 t75 0) k) (fun t76 =>
 guardV (t69) true (fun k => Read1 Tryz.prog (Instr.loadAt 9 t76) w k) (fun t77 =>
 guardV (t69) true (fun k => k (t22)) (fun t78 =>
 guardV (t69) true (fun k => Pure1 Tryz.prog (binOp .sub 3 (.int .i64 (-2000000)) t78) k) (fun t79 =>
 guardW (t69) true (fun k => CallV Tryz.prog Z 70 #[t79] w k) (fun t80 w =>
 Still Tryz.prog (gSem (t69) true (nx (Instr.loadAt 9 t76))) t77 w <|
 Still Tryz.prog (gSem (t69) true (nx (Instr.loadAt 156 t72))) t73 w <|
 Still Tryz.prog (gSem (t50) true (nx (Instr.loadAt 9 t57))) t58 w <|
 Still Tryz.prog (gSem (t50) true (nx (Instr.loadAt 156 t53))) t54 w <|
 Still Tryz.prog (gSem (t32) true (nx (Instr.loadAt 9 t39))) t40 w <|
 Still Tryz.prog (gSem (t32) true (nx (Instr.loadAt 156 t35))) t36 w <|
 guardV (t69) true (fun k => Pure1 Tryz.prog (eqOp .eql 9 false false t77 t80) k) (fun t81 =>
 guardV (t69) true (fun k => Pure1 Tryz.prog (Op.unary .not t81) k) (fun t82 =>
 guardV (t65) false (fun k => Pure1 Tryz.prog (pickV t69 t82 (.bool false)) k) (fun t83 =>
 Pure1 Tryz.prog (pickV t65 (.bool true) t83) fun t84 =>
 CondV t84 (
 Q (.bool false) w) (
 run1 Tryz.prog Z (binOp .add 3 t29 (.int .i64 1)) w fun t85 w =>
 ∃ n_28, n_28 < m_28 ∧ J_28 n_28 t85 w))))) w)))))))))))))))))) w))))))))))))))))) w))))))))))) (
 run1 Tryz.prog Z (binOp .add 3 t22 (.int .i64 1)) w fun t86 w =>
 ∃ n_21, n_21 < m_21 ∧ J_21 n_21 t86 w)) (
 Q (.bool true) w))
def f78.an : An := (.sq .leaf (.sq .leaf (.sq (.sq .leaf (.bl (.lp [5, 6] (.sq (.sq .leaf (.cn .leaf .leaf)) (.sq (.bl (.sq .leaf (.sq (.sq .leaf (.bl (.lp [7, 8] (.sq (.sq .leaf (.cn .leaf .leaf)) (.sq (.bl .leaf) .leaf))))) .leaf))) .leaf))))) (.sq (.sq .leaf (.bl (.lp [9] (.sq (.sq .leaf (.cn .leaf .leaf)) (.sq (.bl (.sq .leaf (.sq .leaf (.bl (.lp [11] (.sq (.sq .leaf (.cn .leaf .leaf)) (.sq (.bl (.sq (.dr (pl [0, 4, 8, 12, 16, 20, 24, 29, 32, 36, 40, 45, 48, 52, 58, 60, 64, 68, 72, 76, 80, 84, 88, 92, 96, 100, 105, 108, 112, 116, 121, 124, 128, 134, 136, 140, 144, 148, 152, 156, 160, 164, 168, 172, 176, 180, 185, 188, 192, 196, 201, 204, 208, 214, 216, 220, 224, 228] .fin)) (.cn (.sq .leaf .leaf) .leaf))) .leaf))))))) .leaf))))) (.sq .leaf .leaf)))))
theorem f78.calls {Z : List PanicEntry → World → Prop} {x0 x1 : Value} {w : World} {Q : Value → World → Prop} (h : f78.sh Z x0 x1 w Q) : CallV Tryz.prog Z 78 #[x0, x1] w Q :=
 cl Tryz.func78 f78.an [x0, x1] (by kernel_rfl) (by kernel_rfl) h

def f79.sh (Z : List PanicEntry → World → Prop) (x0 x1 : Value) (w : World) (Q : Value → World → Prop) : Prop :=
 ∃ J_1 : Nat → Value → Value → World → Prop, (∃ m, J_1 m (.slice none 0 0) (.int .i64 0) w) ∧
 ∀ m_1, ∀ t2 : Value, ∀ t3 : Value, ∀ w : World, J_1 m_1 t2 t3 w → Env →
 run1 Tryz.prog Z (Builtin.len_ #[43] 3 #[x0]) w fun t4 w =>
 run1 Tryz.prog Z (binOp .lss 3 t3 t4) w fun t5 w =>
 CondV t5 (
 run1 Tryz.prog Z (Instr.indexAt 43 x0 t3) w fun t6 w =>
 run1 Tryz.prog Z (Instr.loadAt 160 t6) w fun t7 w =>
 ∃ J_8 : Nat → Value → Value → World → Prop, (∃ m, J_8 m t7 (.int .i64 0) w) ∧
 ∀ m_8, ∀ t9 : Value, ∀ t10 : Value, ∀ w : World, J_8 m_8 t9 t10 w → Env →
 run1 Tryz.prog Z (binOp .lss 3 t10 x1) w fun t11 w =>
 CondV t11 (
 run1 Tryz.prog Z (binOp .sub 3 (.int .i64 (-2000000)) t3) w fun t12 w =>
 run1 Tryz.prog Z (Instr.build 162 #[(0, t12)]) w fun t13 w =>
 run1 Tryz.prog Z (Instr.buildSlice 160 1 #[(0, t13)]) w fun t14 w =>
 run1 Tryz.prog Z (Builtin.append_ #[160, 160] 160 #[t9, t14]) w fun t15 w =>
 run1 Tryz.prog Z (binOp .add 3 t10 (.int .i64 1)) w fun t16 w =>
 ∃ n_8, n_8 < m_8 ∧ J_8 n_8 t15 t16 w) (
 run1 Tryz.prog Z (Instr.buildSlice 43 1 #[(0, t9)]) w fun t17 w =>
 run1 Tryz.prog Z (Builtin.append_ #[43, 43] 43 #[t2, t17]) w fun t18 w =>
 run1 Tryz.prog Z (binOp .add 3 t3 (.int .i64 1)) w fun t19 w =>
 ∃ n_1, n_1 < m_1 ∧ J_1 n_1 t18 t19 w)) (
 ∃ J_20 : Nat → Value → World → Prop, (∃ m, J_20 m (.int .i64 0) w) ∧
 ∀ m_20, ∀ t21 : Value, ∀ w : World, J_20 m_20 t21 w → Env →
 run1 Tryz.prog Z (Builtin.len_ #[43] 3 #[x0]) w fun t22 w =>
 run1 Tryz.prog Z (binOp .lss 3 t21 t22) w fun t23 w =>
 CondV t23 (
 run1 Tryz.prog Z (Instr.indexAt 43 x0 t21) w fun t24 w =>
 run1 Tryz.prog Z (Instr.loadAt 160 t24) w fun t25 w =>
 run1 Tryz.prog Z (Builtin.len_ #[160] 3 #[t25]) w fun t26 w =>
 ∃ J_27 : Nat → Value → World → Prop, (∃ m, J_27 m (.int .i64 0) w) ∧
 ∀ m_27, ∀ t28 : Value, ∀ w : World, J_27 m_27 t28 w → Env →
 run1 Tryz.prog Z (binOp .add 3 t26 x1) w fun t29 w =>
 run1 Tryz.prog Z (binOp .lss 3 t28 t29) w fun t30 w =>
 CondV t30 (
 run1 Tryz.prog Z (binOp .lss 3 t28 t26) w fun t31 w =>
 guardW (t31) true (fun k => k (x0) w) (fun t32 w =>
 guardW (t31) true (fun k => k (t21) w) (fun t33 w =>
 guardW (t31) true (fun k => run1 Tryz.prog Z (Instr.indexAt 43 t32 t33) w k) (fun t34 w =>
 guardW (t31) true (fun k => run1 Tryz.prog Z (Instr.loadAt 160 t34) w k) (fun t35 w =>
 guardW (t31) true (fun k => k (t28) w) (fun t36 w =>
 guardW (t31) true (fun k => run1 Tryz.prog Z (Instr.indexAt 160 t35 t36) w k) (fun t37 w =>
 guardW (t31) true (fun k => run1 Tryz.prog Z (Instr.fieldAt 162 t37 0) w k) (fun t38 w =>
 guardW (t31) true (fun k => run1 Tryz.prog Z (Instr.loadAt 2 t38) w k) (fun t39 w =>
 guardW (t31) true (fun k => k (t21) w) (fun t40 w =>
 guardW (t31) true (fun k => run1 Tryz.prog Z (binOp .sub 3 (.int .i64 (-1000000)) t40) w k) (fun t41 w =>
 guardW (t31) true (fun k => run1 Tryz.prog Z (eqOp .eql 2 false false t39 t41) w k) (fun t42 w =>
 guardW (t31) true (fun k => run1 Tryz.prog Z (Op.unary .not t42) w k) (fun t43 w =>
 run1 Tryz.prog Z (pickV t31 t43 (.bool false)) w fun t44 w =>
 guardW (t44) false (fun k => k (t28) w) (fun t45 w =>
 guardW (t44) false (fun k => k (t26) w) (fun t46 w =>
 guardW (t44) false (fun k => run1 Tryz.prog Z (binOp .lss 3 t45 t46) w k) (fun t47 w =>
 guardW (t44) false (fun k => k (t47) w) (fun t48 w =>
 guardW (t48) true (fun k => k (t2) w) (fun t49 w =>
 guardW (t48) true (fun k => k (t21) w) (fun t50 w =>
 guardW (t48) true (fun k => run1 Tryz.prog Z (Instr.indexAt 43 t49 t50) w k) (fun t51 w =>
 guardW (t48) true (fun k => run1 Tryz.prog Z (Instr.loadAt 160 t51) w k) (fun t52 w =>
 guardW (t48) true (fun k => k (t28) w) (fun t53 w =>
 guardW (t48) true (fun k => run1 Tryz.prog Z (Instr.indexAt 160 t52 t53) w k) (fun t54 w =>
 guardW (t48) true (fun k => run1 Tryz.prog Z (Instr.fieldAt 162 t54 0) w k) (fun t55 w =>
 guardW (t48) true (fun k => run1 Tryz.prog Z (Instr.loadAt 2 t55) w k) (fun t56 w =>
 guardW (t48) true (fun k => k (t21) w) (fun t57 w =>
 guardW (t48) true (fun k => run1 Tryz.prog Z (binOp .sub 3 (.int .i64 (-1000000)) t57) w k) (fun t58 w =>
 guardW (t48) true (fun k => run1 Tryz.prog Z (eqOp .eql 2 false false t56 t58) w k) (fun t59 w =>
 guardW (t48) true (fun k => run1 Tryz.prog Z (Op.unary .not t59) w k) (fun t60 w =>
 guardW (t44) false (fun k => run1 Tryz.prog Z (pickV t48 t60 (.bool false)) w k) (fun t61 w =>
 run1 Tryz.prog Z (pickV t44 (.bool true) t61) w fun t62 w =>
 guardW (t62) false (fun k => k (t28) w) (fun t63 w =>
 guardW (t62) false (fun k => k (t26) w) (fun t64 w =>
 guardW (t62) false (fun k => run1 Tryz.prog Z (binOp .geq 3 t63 t64) w k) (fun t65 w =>
 guardW (t62) false (fun k => k (t65) w) (fun t66 w =>
 guardW (t66) true (fun k => k (t2) w) (fun t67 w =>
 guardW (t66) true (fun k => k (t21) w) (fun t68 w =>
 guardW (t66) true (fun k => run1 Tryz.prog Z (Instr.indexAt 43 t67 t68) w k) (fun t69 w =>
 guardW (t66) true (fun k => run1 Tryz.prog Z (Instr.loadAt 160 t69) w k) (fun t70 w =>
 guardW (t66) true (fun k => k (t28) w) (fun t71 w =>
 guardW (t66) true (fun k => run1 Tryz.prog Z (Instr.indexAt 160 t70 t71) w k) (fun t72 w =>
 guardW (t66) true (fun k => run1 Tryz.prog Z (Instr.fieldAt 162 t72 0) w k) (fun t73 w =>
 guardW (t66) true (fun k => run1 Tryz.prog Z (Instr.loadAt 2 t73) w k) (fun t74 w =>
 guardW (t66) true (fun k => k (t21) w) (fun t75 w =>
 guardW (t66) true (fun k => run1 Tryz.prog Z (binOp .sub 3 (.int .i64 (-2000000)) t75) w k) (fun t76 w =>
 guardW (t66) true (fun k => run1 Tryz.prog Z (eqOp .eql 2 false false t74 t76) w k) (fun t77 w =>
 guardW (t66) true (fun k => run1 Tryz.prog Z (Op.unary .not t77) w k) (fun t78 w =>
 guardW (t62) false (fun k => run1 Tryz.prog Z (pickV t66 t78 (.bool false)) w k) (fun t79 w =>
 run1 Tryz.prog Z (pickV t62 (.bool true) t79) w fun t80 w =>
 CondV t80 (
 Q (.bool false) w) (
 run1 Tryz.prog Z (binOp .add 3 t28 (.int .i64 1)) w fun t81 w =>
 ∃ n_27, n_27 < m_27 ∧ J_27 n_27 t81 w)) w) w) w) w) w) w) w) w) w) w) w) w) w) w) w) w) w) w) w) w) w) w) w) w) w) w) w) w) w) w) w) w) w) w) w) w) w) w) w) w) w) w) w) w) w) w) (
 run1 Tryz.prog Z (binOp .add 3 t21 (.int .i64 1)) w fun t82 w =>
 ∃ n_20, n_20 < m_20 ∧ J_20 n_20 t82 w)) (
 Q (.bool true) w))
def f79.an : An := (.sq .leaf (.sq .leaf (.sq (.sq .leaf (.bl (.lp [5, 6] (.sq (.sq .leaf (.cn .leaf .leaf)) (.sq (.bl (.sq .leaf (.sq (.sq .leaf (.bl (.lp [7, 8] (.sq (.sq .leaf (.cn .leaf .leaf)) (.sq (.bl .leaf) .leaf))))) .leaf))) .leaf))))) (.sq (.sq .leaf (.bl (.lp [9] (.sq (.sq .leaf (.cn .leaf .leaf)) (.sq (.bl (.sq .leaf (.sq .leaf (.bl (.lp [11] (.sq (.sq .leaf (.cn .leaf .leaf)) (.sq (.bl (.sq .leaf (.cn (.sq .leaf .leaf) .leaf))) .leaf))))))) .leaf))))) (.sq .leaf .leaf)))))
theorem f79.calls {Z : List PanicEntry → World → Prop} {x0 x1 : Value} {w : World} {Q : Value → World → Prop} (h : f79.sh Z x0 x1 w Q) : CallV Tryz.prog Z 79 #[x0, x1] w Q :=
 cl Tryz.func79 f79.an [x0, x1] (by kernel_rfl) (by kernel_rfl) h

def f80.sh (Z : List PanicEntry → World → Prop) (x0 x1 : Value) (w : World) (Q : Value → World → Prop) : Prop :=
 ∃ J_1 : Nat → Value → Value → World → Prop, (∃ m, J_1 m (.slice none 0 0) (.int .i64 0) w) ∧
 ∀ m_1, ∀ t2 : Value, ∀ t3 : Value, ∀ w : World, J_1 m_1 t2 t3 w → Env →
 run1 Tryz.prog Z (Builtin.len_ #[44] 3 #[x0]) w fun t4 w =>
 run1 Tryz.prog Z (binOp .lss 3 t3 t4) w fun t5 w =>
 CondV t5 (
 run1 Tryz.prog Z (Instr.indexAt 44 x0 t3) w fun t6 w =>
 run1 Tryz.prog Z (Instr.loadAt 164 t6) w fun t7 w =>
 ∃ J_8 : Nat → Value → Value → World → Prop, (∃ m, J_8 m t7 (.int .i64 0) w) ∧
 ∀ m_8, ∀ t9 : Value, ∀ t10 : Value, ∀ w : World, J_8 m_8 t9 t10 w → Env →
 run1 Tryz.prog Z (binOp .lss 3 t10 x1) w fun t11 w =>
 CondV t11 (
 run1 Tryz.prog Z (binOp .sub 3 (.int .i64 (-2000000)) t3) w fun t12 w =>
 CallV Tryz.prog Z 70 #[t12] w fun t13 w =>
 run1 Tryz.prog Z (Instr.build 166 #[(1, t13)]) w fun t14 w =>
 run1 Tryz.prog Z (Instr.buildSlice 164 1 #[(0, t14)]) w fun t15 w =>
 run1 Tryz.prog Z (Builtin.append_ #[164, 164] 164 #[t9, t15]) w fun t16 w =>
 run1 Tryz.prog Z (binOp .add 3 t10 (.int .i64 1)) w fun t17 w =>
 ∃ n_8, n_8 < m_8 ∧ J_8 n_8 t16 t17 w) (
 run1 Tryz.prog Z (Instr.buildSlice 44 1 #[(0, t9)]) w fun t18 w =>
 run1 Tryz.prog Z (Builtin.append_ #[44, 44] 44 #[t2, t18]) w fun t19 w =>
 run1 Tryz.prog Z (binOp .add 3 t3 (.int .i64 1)) w fun t20 w =>
 ∃ n_1, n_1 < m_1 ∧ J_1 n_1 t19 t20 w)) (
 ∃ J_21 : Nat → Value → World → Prop, (∃ m, J_21 m (.int .i64 0) w) ∧
 ∀ m_21, ∀ t22 : Value, ∀ w : World, J_21 m_21 t22 w → Env →
 run1 Tryz.prog Z (Builtin.len_ #[44] 3 #[x0]) w fun t23 w =>
 run1 Tryz.prog Z (binOp .lss 3 t22 t23) w fun t24 w =>
 CondV t24 (
 run1 Tryz.prog Z (Instr.indexAt 44 x0 t22) w fun t25 w =>
 run1 Tryz.prog Z (Instr.loadAt 164 t25) w fun t26 w =>
 run1 Tryz.prog Z (Builtin.len_ #[164] 3 #[t26]) w fun t27 w =>
 ∃ J_28 : Nat → Value → World → Prop, (∃ m, J_28 m (.int .i64 0) w) ∧
 ∀ m_28, ∀ t29 : Value, ∀ w : World, J_28 m_28 t29 w → Env →
 run1 Tryz.prog Z (binOp .add 3 t27 x1) w fun t30 w =>
 run1 Tryz.prog Z (binOp .lss 3 t29 t30) w fun t31 w =>
 CondV t31 (
 Drawn w fun w =>
 Pure1 Tryz.prog (binOp .lss 3 t29 t27) fun t32 =>
 guardV (t32) true (fun k => k (x0)) (fun t33 =>
 guardV (t32) true (fun k => k (t22)) (fun t34 =>
 guardV (t32) true (fun k => Pure1 Tryz.prog (Instr.indexAt 44 t33 t34) k) (fun t35 =>
 guardV (t32) true (fun k => Read1 Tryz.prog (Instr.loadAt 164 t35) w k) (fun t36 =>
 guardV (t32) true (fun k => k (t29)) (fun t37 =>
 guardV (t32) true (fun k => Pure1 Tryz.prog (Instr.indexAt 164 t36 t37) k) (fun t38 =>
 guardV (t32) true (fun k => Pure1 Tryz.prog (Instr.fieldAt 166 t38 1) k) (fun t39 =>
 guardV (t32) true (fun k => Read1 Tryz.prog (Instr.loadAt 9 t39) w k) (fun t40 =>
 guardV (t32) true (fun k => k (t22)) (fun t41 =>
 guardV (t32) true (fun k => Pure1 Tryz.prog (binOp .sub 3 (.int .i64 (-1000000)) t41) k) (fun t42 =>
 guardW (t32) true (fun k => CallV Tryz.prog Z 70 #[t42] w k) (fun t43 w =>
 Still Tryz.prog (gSem (t32) true (nx (Instr.loadAt 9 t39))) t40 w <|
 Still Tryz.prog (gSem (t32) true (nx (Instr.loadAt 164 t35))) t36 w <|
 guardV (t32) true (fun k => Pure1 Tryz.prog (eqOp .eql 9 false false t40 t43) k) (fun t44 =>
 guardV (t32) true (fun k => Pure1 Tryz.prog (Op.unary .not t44) k) (fun t45 =>
 Pure1 Tryz.prog (pickV t32 t45 (.bool false)) fun t46 =>
 guardV (t46) false (fun k => k (t29)) (fun t47 =>
 guardV (t46) false (fun k => k (t27)) (fun t48 =>
 guardV (t46) false (fun k => Pure1 Tryz.prog (binOp .lss 3 t47 t48) k) (fun t49 =>
 guardV (t46) false (fun k => k (t49)) (fun t50 =>
 guardV (t50) true (fun k => k (t2)) (fun t51 =>
 guardV (t50) true (fun k => k (t22)) (fun t52 =>
 guardV (t50) true (fun k => Pure1 Tryz.prog (Instr.indexAt 44 t51 t52) k) (fun t53 =>
 guardV (t50) true (fun k => Read1 Tryz.prog (Instr.loadAt 164 t53) w k) (fun t54 =>
 guardV (t50) true (fun k => k (t29)) (fun t55 =>
 guardV (t50) true (fun k => Pure1 Tryz.prog (Instr.indexAt 164 t54 t55) k) (fun t56 =>
 guardV (t50) true (fun k => Pure1 Tryz.prog (Instr.fieldAt 166 t56 1) k) (fun t57 =>
 guardV (t50) true (fun k => Read1 Tryz.prog (Instr.loadAt 9 t57) w k) (fun t58 =>
 guardV (t50) true (fun k => k (t22)) (fun t59 =>
 guardV (t50) true (fun k => Pure1 Tryz.prog (binOp .sub 3 (.int .i64 (-1000000)) t59) k) (fun t60 =>
 guardW (t50) true (fun k => CallV Tryz.prog Z 70 #[t60] w k) (fun t61 w =>
 Still Tryz.prog (gSem (t50) true (nx (Instr.loadAt 9 t57))) t58 w <|
 Still Tryz.prog (gSem (t50) true (nx (Instr.loadAt 164 t53))) t54 w <|
 Still Tryz.prog (gSem (t32) true (nx (Instr.loadAt 9 t39))) t40 w <|
 Still Tryz.prog (gSem (t32) true (nx (Instr.loadAt 164 t35))) t36 w <|
 guardV (t50) true (fun k => Pure1 Tryz.prog (eqOp .eql 9 false false t58 t61) k) (fun t62 =>
 guardV (t50) true (fun k => Pure1 Tryz.prog (Op.unary .not t62) k) (fun t63 =>
 guardV (t46) false (fun k => Pure1 Tryz.prog (pickV t50 t63 (.bool false)) k) (fun t64 =>
 Pure1 Tryz.prog (pickV t46 (.bool true) t64) fun t65 =>
 guardV (t65) false (fun k => k (t29)) (fun t66 =>
 guardV (t65) false (fun k => k (t27)) (fun t67 =>
 guardV (t65) false (fun k => Pure1 Tryz.prog (binOp .geq 3 t66 t67) k) (fun t68 =>
 guardV (t65) false (fun k => k (t68)) (fun t69 =>
 guardV (t69) true (fun k => k (t2)) (fun t70 =>
 guardV (t69) true (fun k => k (t22)) (fun t71 =>
 guardV (t69) true (fun k => Pure1 Tryz.prog (Instr.indexAt 44 t70 t71) k) (fun t72 =>
 guardV (t69) true (fun k => Read1 Tryz.prog (Instr.loadAt 164 t72) w k) (fun t73 =>
 guardV (t69) true (fun k => k (t29)) (fun t74 =>
 guardV (t69) true (fun k => Pure1 Tryz.prog (Instr.indexAt 164 t73 t74) k) (fun t75 =>
 guardV (t69) true (fun k => Pure1 Tryz.prog (Instr.fieldAt 166 t75 1) k) (fun t76 =>
 guardV (t69) true (fun k => Read1 Tryz.prog (Instr.loadAt 9 t76) w k) (fun t77 =>
 guardV (t69) true (fun k => k (t22)) (fun t78 =>
 guardV (t69) true (fun k => Pure1 Tryz.prog (binOp .sub 3 (.int .i64 (-2000000)) t78) k) (fun t79 =>
 guardW (t69) true (fun k => CallV Tryz.prog Z 70 #[t79] w k) (fun t80 w =>
 Still Tryz.prog (gSem (t69) true (nx (Instr.loadAt 9 t76))) t77 w <|
 Still Tryz.prog (gSem (t69) true (nx (Instr.loadAt 164 t72))) t73 w <|
 Still Tryz.prog (gSem (t50) true (nx (Instr.loadAt 9 t57))) t58 w <|
 Still Tryz.prog (gSem (t50) true (nx (Instr.loadAt 164 t53))) t54 w <|
 Still Tryz.prog (gSem (t32) true (nx (Instr.loadAt 9 t39))) t40 w <|
 Still Tryz.prog (gSem (t32) true (nx (Instr.loadAt 164 t35))) t36 w <|
 guardV (t69) true (fun k => Pure1 Tryz.prog (eqOp .eql 9 false false t77 t80) k) (fun t81 =>
 guardV (t69) true (fun k => Pure1 Tryz.prog (Op.unary .not t81) k) (fun t82 =>
 guardV (t65) false (fun k => Pure1 Tryz.prog (pickV t69 t82 (.bool false)) k) (fun t83 =>
 Pure1 Tryz.prog (pickV t65 (.bool true) t83) fun t84 =>
 CondV t84 (
 Q (.bool false) w) (
 run1 Tryz.prog Z (binOp .add 3 t29 (.int .i64 1)) w fun t85 w =>
 ∃ n_28, n_28 < m_28 ∧ J_28 n_28 t85 w))))) w)))))))))))))))))) w))))))))))))))))) w))))))))))) (
 run1 Tryz.prog Z (binOp .add 3 t22 (.int .i64 1)) w fun t86 w =>
 ∃ n_21, n_21 < m_21 ∧ J_21 n_21 t86 w)) (
 Q (.bool true) w))
def f80.an : An := (.sq .leaf (.sq .leaf (.sq (.sq .leaf (.bl (.lp [5, 6] (.sq (.sq .leaf (.cn .leaf .leaf)) (.sq (.bl (.sq .leaf (.sq (.sq .leaf (.bl (.lp [7, 8] (.sq (.sq .leaf (.cn .leaf .leaf)) (.sq (.bl .leaf) .leaf))))) .leaf))) .leaf))))) (.sq (.sq .leaf (.bl (.lp [9] (.sq (.sq .leaf (.cn .leaf .leaf)) (.sq (.bl (.sq .leaf (.sq .leaf (.bl (.lp [11] (.sq (.sq .leaf (.cn .leaf .leaf)) (.sq (.bl (.sq (.dr (pl [0, 4, 8, 12, 16, 20, 24, 29, 32, 36, 40, 45, 48, 52, 58, 60, 64, 68, 72, 76, 80, 84, 88, 92, 96, 100, 105, 108, 112, 116, 121, 124, 128, 134, 136, 140, 144, 148, 152, 156, 160, 164, 168, 172, 176, 180, 185, 188, 192, 196, 201, 204, 208, 214, 216, 220, 224, 228] .fin)) (.cn (.sq .leaf .leaf) .leaf))) .leaf))))))) .leaf))))) (.sq .leaf .leaf)))))
theorem f80.calls {Z : List PanicEntry → World → Prop} {x0 x1 : Value} {w : World} {Q : Value → World → Prop} (h : f80.sh Z x0 x1 w Q) : CallV Tryz.prog Z 80 #[x0, x1] w Q :=
 cl Tryz.func80 f80.an [x0, x1] (by kernel_rfl) (by kernel_rfl) h

def f81.sh (Z : List PanicEntry → World → Prop) (x0 x1 : Value) (w : World) (Q : Value → World → Prop) : Prop :=
 ∃ J_1 : Nat → Value → Value → World → Prop, (∃ m, J_1 m (.slice none 0 0) (.int .i64 0) w) ∧
 ∀ m_1, ∀ t2 : Value, ∀ t3 : Value, ∀ w : World, J_1 m_1 t2 t3 w → Env →
 run1 Tryz.prog Z (Builtin.len_ #[45] 3 #[x0]) w fun t4 w =>
 run1 Tryz.prog Z (binOp .lss 3 t3 t4) w fun t5 w =>
 CondV t5 (
 run1 Tryz.prog Z (Instr.indexAt 45 x0 t3) w fun t6 w =>
 run1 Tryz.prog Z (Instr.loadAt 22 t6) w fun t7 w =>
 ∃ J_8 : Nat → Value → Value → World → Prop, (∃ m, J_8 m t7 (.int .i64 0) w) ∧
 ∀ m_8, ∀ t9 : Value, ∀ t10 : Value, ∀ w : World, J_8 m_8 t9 t10 w → Env →
 run1 Tryz.prog Z (binOp .lss 3 t10 x1) w fun t11 w =>
 CondV t11 (
 run1 Tryz.prog Z (binOp .sub 3 (.int .i64 (-2000000)) t3) w fun t12 w =>
 CallV Tryz.prog Z 70 #[t12] w fun t13 w =>
 run1 Tryz.prog Z (Instr.build 71 #[(0, t13)]) w fun t14 w =>
 run1 Tryz.prog Z (Instr.buildSlice 22 1 #[(0, t14)]) w fun t15 w =>
 run1 Tryz.prog Z (Builtin.append_ #[22, 22] 22 #[t9, t15]) w fun t16 w =>
 run1 Tryz.prog Z (binOp .add 3 t10 (.int .i64 1)) w fun t17 w =>
 ∃ n_8, n_8 < m_8 ∧ J_8 n_8 t16 t17 w) (
 run1 Tryz.prog Z (Instr.buildSlice 45 1 #[(0, t9)]) w fun t18 w =>
 run1 Tryz.prog Z (Builtin.append_ #[45, 45] 45 #[t2, t18]) w fun t19 w =>
 run1 Tryz.prog Z (binOp .add 3 t3 (.int .i64 1)) w fun t20 w =>
 ∃ n_1, n_1 < m_1 ∧ J_1 n_1 t19 t20 w)) (
 ∃ J_21 : Nat → Value → World → Prop, (∃ m, J_21 m (.int .i64 0) w) ∧
 ∀ m_21, ∀ t22 : Value, ∀ w : World, J_21 m_21 t22 w → Env →
 run1 Tryz.prog Z (Builtin.len_ #[45] 3 #[x0]) w fun t23 w =>
 run1 Tryz.prog Z (binOp .lss 3 t22 t23) w fun t24 w =>
 CondV t24 (
 run1 Tryz.prog Z (Instr.indexAt 45 x0 t22) w fun t25 w =>
 run1 Tryz.prog Z (Instr.loadAt 22 t25) w fun t26 w =>
 run1 Tryz.prog Z (Builtin.len_ #[22] 3 #[t26]) w fun t27 w =>
 ∃ J_28 : Nat → Value → World → Prop, (∃ m, J_28 m (.int .i64 0) w) ∧
 ∀ m_28, ∀ t29 : Value, ∀ w : World, J_28 m_28 t29 w → Env →
 run1 Tryz.prog Z (binOp .add 3 t27 x1) w fun t30 w =>
 run1 Tryz.prog Z (binOp .lss 3 t29 t30) w fun t31 w =>
 CondV t31 (
 Drawn w fun w =>
 Pure1 Tryz.prog (binOp .lss 3 t29 t27) fun t32 =>
 guardV (t32) true (fun k => k (x0)) (fun t33 =>
 guardV (t32) true (fun k => k (t22)) (fun t34 =>
 guardV (t32) true (fun k => Pure1 Tryz.prog (Instr.indexAt 45 t33 t34) k) (fun t35 =>
 guardV (t32) true (fun k => Read1 Tryz.prog (Instr.loadAt 22 t35) w k) (fun t36 =>
 guardV (t32) true (fun k => k (t29)) (fun t37 =>
 guardV (t32) true (fun k => Pure1 Tryz.prog (Instr.indexAt 22 t36 t37) k) (fun t38 =>
 guardV (t32) true (fun k => Pure1 Tryz.prog (Instr.fieldAt 71 t38 0) k) (fun t39 =>
 guardV (t32) true (fun k => Read1 Tryz.prog (Instr.loadAt 9 t39) w k) (fun t40 =>
 guardV (t32) true (fun k => k (t22)) (fun t41 =>
 guardV (t32) true (fun k => Pure1 Tryz.prog (binOp .sub 3 (.int .i64 (-1000000)) t41) k) (fun t42 =>
 guardW (t32) true (fun k => CallV Tryz.prog Z 70 #[t42] w k) (fun t43 w =>
 Still Tryz.prog (gSem (t32) true (nx (Instr.loadAt 9 t39))) t40 w <|
 Still Tryz.prog (gSem (t32) true (nx (Instr.loadAt 22 t35))) t36 w <|
 guardV (t32) true (fun k => Pure1 Tryz.prog (eqOp .eql 9 false false t40 t43) k) (fun t44 =>
 guardV (t32) true (fun k => Pure1 Tryz.prog (Op.unary .not t44) k) (fun t45 =>
 Pure1 Tryz.prog (pickV t32 t45 (.bool false)) fun t46 =>
 guardV (t46) false (fun k => k (t29)) (fun t47 =>
 guardV (t46) false (fun k => k (t27)) (fun t48 =>
 guardV (t46) false (fun k => Pure1 Tryz.prog (binOp .lss 3 t47 t48) k) (fun t49 =>
 guardV (t46) false (fun k => k (t49)) (fun t50 =>
 guardV (t50) true (fun k => k (t2)) (fun t51 =>
 guardV (t50) true (fun k => k (t22)) (fun t52 =>
 guardV (t50) true (fun k => Pure1 Tryz.prog (Instr.indexAt 45 t51 t52) k) (fun t53 =>
 guardV (t50) true (fun k => Read1 Tryz.prog (Instr.loadAt 22 t53) w k) (fun t54 =>
 guardV (t50) true (fun k => k (t29)) (fun t55 =>
 guardV (t50) true (fun k => Pure1 Tryz.prog (Instr.indexAt 22 t54 t55) k) (fun t56 =>
 guardV (t50) true (fun k => Pure1 Tryz.prog (Instr.fieldAt 71 t56 0) k) (fun t57 =>
 guardV (t50) true (fun k => Read1 Tryz.prog (Instr.loadAt 9 t57) w k) (fun t58 =>
 guardV (t50) true (fun k => k (t22)) (fun t59 =>
 guardV (t50) true (fun k => Pure1 Tryz.prog (binOp .sub 3 (.int .i64 (-1000000)) t59) k) (fun t60 =>
 guardW (t50) true (fun k => CallV Tryz.prog Z 70 #[t60] w k) (fun t61 w =>
 Still Tryz.prog (gSem (t50) true (nx (Instr.loadAt 9 t57))) t58 w <|
 Still Tryz.prog (gSem (t50) true (nx (Instr.loadAt 22 t53))) t54 w <|
 Still Tryz.prog (gSem (t32) true (nx (Instr.loadAt 9 t39))) t40 w <|
 Still Tryz.prog (gSem (t32) true (nx (Instr.loadAt 22 t35))) t36 w <|
 guardV (t50) true (fun k => Pure1 Tryz.prog (eqOp .eql 9 false false t58 t61) k) (fun t62 =>
 guardV (t50) true (fun k => Pure1 Tryz.prog (Op.unary .not t62) k) (fun t63 =>
 guardV (t46) false (fun k => Pure1 Tryz.prog (pickV t50 t63 (.bool false)) k) (fun t64 =>
 Pure1 Tryz.prog (pickV t46 (.bool true) t64) fun t65 =>
 guardV (t65) false (fun k => k (t29)) (fun t66 =>
 guardV (t65) false (fun k => k (t27)) (fun t67 =>
 guardV (t65) false (fun k => Pure1 Tryz.prog (binOp .geq 3 t66 t67) k) (fun t68 =>
 guardV (t65) false (fun k => k (t68)) (fun t69 =>
 guardV (t69) true (fun k => k (t2)) (fun t70 =>
 guardV (t69) true (fun k => k (t22)) (fun t71 =>
 guardV (t69) true (fun k => Pure1 Tryz.prog (Instr.indexAt 45 t70 t71) k) (fun t72 =>
 guardV (t69) true (fun k => Read1 Tryz.prog (Instr.loadAt 22 t72) w k) (fun t73 =>
 guardV (t69) true (fun k => k (t29)) (fun t74 =>
 guardV (t69) true (fun k => Pure1 Tryz.prog (Instr.indexAt 22 t73 t74) k) (fun t75 =>
 guardV (t69) true (fun k => Pure1 Tryz.prog (Instr.fieldAt 71 t75 0) k) (fun t76 =>
 guardV (t69) true (fun k => Read1 Tryz.prog (Instr.loadAt 9 t76) w k) (fun t77 =>
 guardV (t69) true (fun k => k (t22)) (fun t78 =>
 guardV (t69) true (fun k => Pure1 Tryz.prog (binOp .sub 3 (.int .i64 (-2000000)) t78) k) (fun t79 =>
 guardW (t69) true (fun k => CallV Tryz.prog Z 70 #[t79] w k) (fun t80 w =>
 Still Tryz.prog (gSem (t69) true (nx (Instr.loadAt 9 t76))) t77 w <|
 Still Tryz.prog (gSem (t69) true (nx (Instr.loadAt 22 t72))) t73 w <|
 Still Tryz.prog (gSem (t50) true (nx (Instr.loadAt 9 t57))) t58 w <|
 Still Tryz.prog (gSem (t50) true (nx (Instr.loadAt 22 t53))) t54 w <|
 Still Tryz.prog (gSem (t32) true (nx (Instr.loadAt 9 t39))) t40 w <|
 Still Tryz.prog (gSem (t32) true (nx (Instr.loadAt 22 t35))) t36 w <|
 guardV (t69) true (fun k => Pure1 Tryz.prog (eqOp .eql 9 false false t77 t80) k) (fun t81 =>
 guardV (t69) true (fun k => Pure1 Tryz.prog (Op.unary .not t81) k) (fun t82 =>
 guardV (t65) false (fun k => Pure1 Tryz.prog (pickV t69 t82 (.bool false)) k) (fun t83 =>
 Pure1 Tryz.prog (pickV t65 (.bool true) t83) fun t84 =>
 CondV t84 (
 Q (.bool false) w) (
 run1 Tryz.prog Z (binOp .add 3 t29 (.int .i64 1)) w fun t85 w =>
 ∃ n_28, n_28 < m_28 ∧ J_28 n_28 t85 w))))) w)))))))))))))))))) w))))))))))))))))) w))))))))))) (
 run1 Tryz.prog Z (binOp .add 3 t22 (.int .i64 1)) w fun t86 w =>
 ∃ n_21, n_21 < m_21 ∧ J_21 n_21 t86 w)) (
 Q (.bool true) w))
def f81.an : An := (.sq .leaf (.sq .leaf (.sq (.sq .leaf (.bl (.lp [5, 6] (.sq (.sq .leaf (.cn .leaf .leaf)) (.sq (.bl (.sq .leaf (.sq (.sq .leaf (.bl (.lp [7, 8] (.sq (.sq .leaf (.cn .leaf .leaf)) (.sq (.bl .leaf) .leaf))))) .leaf))) .leaf))))) (.sq (.sq .leaf (.bl (.lp [9] (.sq (.sq .leaf (.cn .leaf .leaf)) (.sq (.bl (.sq .leaf (.sq .leaf (.bl (.lp [11] (.sq (.sq .leaf (.cn .leaf .leaf)) (.sq (.bl (.sq (.dr (pl [0, 4, 8, 12, 16, 20, 24, 29, 32, 36, 40, 45, 48, 52, 58, 60, 64, 68, 72, 76, 80, 84, 88, 92, 96, 100, 105, 108, 112, 116, 121, 124, 128, 134, 136, 140, 144, 148, 152, 156, 160, 164, 168, 172, 176, 180, 185, 188, 192, 196, 201, 204, 208, 214, 216, 220, 224, 228] .fin)) (.cn (.sq .leaf .leaf) .leaf))) .leaf))))))) .leaf))))) (.sq .leaf .leaf)))))
theorem f81.calls {Z : List PanicEntry → World → Prop} {x0 x1 : Value} {w : World} {Q : Value → World → Prop} (h : f81.sh Z x0 x1 w Q) : CallV Tryz.prog Z 81 #[x0, x1] w Q :=
 cl Tryz.func81 f81.an [x0, x1] (by kernel_rfl) (by kernel_rfl) h

def f82.sh (Z : List PanicEntry → World → Prop) (x0 x1 : Value) (w : World) (Q : Value → World → Prop) : Prop :=
 ∃ J_1 : Nat → Value → Value → World → Prop, (∃ m, J_1 m (.slice none 0 0) (.int .i64 0) w) ∧
 ∀ m_1, ∀ t2 : Value, ∀ t3 : Value, ∀ w : World, J_1 m_1 t2 t3 w → Env →
 run1 Tryz.prog Z (Builtin.len_ #[46] 3 #[x0]) w fun t4 w =>
 run1 Tryz.prog Z (binOp .lss 3 t3 t4) w fun t5 w =>
 CondV t5 (
 run1 Tryz.prog Z (Instr.indexAt 46 x0 t3) w fun t6 w =>
 run1 Tryz.prog Z (Instr.loadAt 169 t6) w fun t7 w =>
 ∃ J_8 : Nat → Value → Value → World → Prop, (∃ m, J_8 m t7 (.int .i64 0) w) ∧
 ∀ m_8, ∀ t9 : Value, ∀ t10 : Value, ∀ w : World, J_8 m_8 t9 t10 w → Env →
 run1 Tryz.prog Z (binOp .lss 3 t10 x1) w fun t11 w =>
 CondV t11 (
 run1 Tryz.prog Z (binOp .sub 3 (.int .i64 (-2000000)) t3) w fun t12 w =>
 run1 Tryz.prog Z (Instr.build 173 #[(3, t12)]) w fun t13 w =>
 run1 Tryz.prog Z (Instr.buildSlice 169 1 #[(0, t13)]) w fun t14 w =>
 run1 Tryz.prog Z (Builtin.append_ #[169, 169] 169 #[t9, t14]) w fun t15 w =>
 run1 Tryz.prog Z (binOp .add 3 t10 (.int .i64 1)) w fun t16 w =>
 ∃ n_8, n_8 < m_8 ∧ J_8 n_8 t15 t16 w) (
 run1 Tryz.prog Z (Instr.buildSlice 46 1 #[(0, t9)]) w fun t17 w =>
 run1 Tryz.prog Z (Builtin.append_ #[46, 46] 46 #[t2, t17]) w fun t18 w =>
 run1 Tryz.prog Z (binOp .add 3 t3 (.int .i64 1)) w fun t19 w =>
 ∃ n_1, n_1 < m_1 ∧ J_1 n_1 t18 t19 w)) (
 ∃ J_20 : Nat → Value → World → Prop, (∃ m, J_20 m (.int .i64 0) w) ∧
 ∀ m_20, ∀ t21 : Value, ∀ w : World, J_20 m_20 t21 w → Env →
 run1 Tryz.prog Z (Builtin.len_ #[46] 3 #[x0]) w fun t22 w =>
 run1 Tryz.prog Z (binOp .lss 3 t21 t22) w fun t23 w =>
 CondV t23 (
 run1 Tryz.prog Z (Instr.indexAt 46 x0 t21) w fun t24 w =>
 run1 Tryz.prog Z (Instr.loadAt 169 t24) w fun t25 w =>
 run1 Tryz.prog Z (Builtin.len_ #[169] 3 #[t25]) w fun t26 w =>
 ∃ J_27 : Nat → Value → World → Prop, (∃ m, J_27 m (.int .i64 0) w) ∧
 ∀ m_27, ∀ t28 : Value, ∀ w : World, J_27 m_27 t28 w → Env →
 run1 Tryz.prog Z (binOp .add 3 t26 x1) w fun t29 w =>
 run1 Tryz.prog Z (binOp .lss 3 t28 t29) w fun t30 w =>
 CondV t30 (
 run1 Tryz.prog Z (binOp .lss 3 t28 t26) w fun t31 w =>
 guardW (t31) true (fun k => k (x0) w) (fun t32 w =>
 guardW (t31) true (fun k => k (t21) w) (fun t33 w =>
 guardW (t31) true (fun k => run1 Tryz.prog Z (Instr.indexAt 46 t32 t33) w k) (fun t34 w =>
 guardW (t31) true (fun k => run1 Tryz.prog Z (Instr.loadAt 169 t34) w k) (fun t35 w =>
 guardW (t31) true (fun k => k (t28) w) (fun t36 w =>
 guardW (t31) true (fun k => run1 Tryz.prog Z (Instr.indexAt 169 t35 t36) w k) (fun t37 w =>
 guardW (t31) true (fun k => run1 Tryz.prog Z (Instr.fieldAt 173 t37 3) w k) (fun t38 w =>
 guardW (t31) true (fun k => run1 Tryz.prog Z (Instr.loadAt 2 t38) w k) (fun t39 w =>
 guardW (t31) true (fun k => k (t21) w) (fun t40 w =>
 guardW (t31) true (fun k => run1 Tryz.prog Z (binOp .sub 3 (.int .i64 (-1000000)) t40) w k) (fun t41 w =>
 guardW (t31) true (fun k => run1 Tryz.prog Z (eqOp .eql 2 false false t39 t41) w k) (fun t42 w =>
 guardW (t31) true (fun k => run1 Tryz.prog Z (Op.unary .not t42) w k) (fun t43 w =>
 run1 Tryz.prog Z (pickV t31 t43 (.bool false)) w fun t44 w =>
 guardW (t44) false (fun k => k (t28) w) (fun t45 w =>
 guardW (t44) false (fun k => k (t26) w) (fun t46 w =>
 guardW (t44) false (fun k => run1 Tryz.prog Z (binOp .lss 3 t45 t46) w k) (fun t47 w =>
 guardW (t44) false (fun k => k (t47) w) (fun t48 w =>
 guardW (t48) true (fun k => k (t2) w) (fun t49 w =>
 guardW (t48) true (fun k => k (t21) w) (fun t50 w =>
 guardW (t48) true (fun k => run1 Tryz.prog Z (Instr.indexAt 46 t49 t50) w k) (fun t51 w =>
 guardW (t48) true (fun k => run1 Tryz.prog Z (Instr.loadAt 169 t51) w k) (fun t52 w =>
 guardW (t48) true (fun k => k (t28) w) (fun t53 w =>
 guardW (t48) true (fun k => run1 Tryz.prog Z (Instr.indexAt 169 t52 t53) w k) (fun t54 w =>
 guardW (t48) true (fun k => run1 Tryz.prog Z (Instr.fieldAt 173 t54 3) w k) (fun t55 w =>
 guardW (t48) true (fun k => run1 Tryz.prog Z (Instr.loadAt 2 t55) w k) (fun t56 w =>
 guardW (t48) true (fun k => k (t21) w) (fun t57 w =>
 guardW (t48) true (fun k => run1 Tryz.prog Z (binOp .sub 3 (.int .i64 (-1000000)) t57) w k) (fun t58 w =>
 guardW (t48) true (fun k => run1 Tryz.prog Z (eqOp .eql 2 false false t56 t58) w k) (fun t59 w =>
 guardW (t48) true (fun k => run1 Tryz.prog Z (Op.unary .not t59) w k) (fun t60 w =>
 guardW (t44) false (fun k => run1 Tryz.prog Z (pickV t48 t60 (.bool false)) w k) (fun t61 w =>
 run1 Tryz.prog Z (pickV t44 (.bool true) t61) w fun t62 w =>
 guardW (t62) false (fun k => k (t28) w) (fun t63 w =>
 guardW (t62) false (fun k => k (t26) w) (fun t64 w =>
 guardW (t62) false (fun k => run1 Tryz.prog Z (binOp .geq 3 t63 t64) w k) (fun t65 w =>
 guardW (t62) false (fun k => k (t65) w) (fun t66 w =>
 guardW (t66) true (fun k => k (t2) w) (fun t67 w =>
 guardW (t66) true (fun k => k (t21) w) (fun t68 w =>
 guardW (t66) true (fun k => run1 Tryz.prog Z (Instr.indexAt 46 t67 t68) w k) (fun t69 w =>
 guardW (t66) true (fun k => run1 Tryz.prog Z (Instr.loadAt 169 t69) w k) (fun t70 w =>
 guardW (t66) true (fun k => k (t28) w) (fun t71 w =>
 guardW (t66) true (fun k => run1 Tryz.prog Z (Instr.indexAt 169 t70 t71) w k) (fun t72 w =>
 guardW (t66) true (fun k => run1 Tryz.prog Z (Instr.fieldAt 173 t72 3) w k) (fun t73 w =>
 guardW (t66) true (fun k => run1 Tryz.prog Z (Instr.loadAt 2 t73) w k) (fun t74 w =>
 guardW (t66) true (fun k => k (t21) w) (fun t75 w =>
 guardW (t66) true (fun k => run1 Tryz.prog Z (binOp .sub 3 (.int .i64 (-2000000)) t75) w k) (fun t76 w =>
 guardW (t66) true (fun k => run1 Tryz.prog Z (eqOp .eql 2 false false t74 t76) w k) (fun t77 w =>
 guardW (t66) true (fun k => run1 Tryz.prog Z (Op.unary .not t77) w k) (fun t78 w =>
 guardW (t62) false (fun k => run1 Tryz.prog Z (pickV t66 t78 (.bool false)) w k) (fun t79 w =>
 run1 Tryz.prog Z (pickV t62 (.bool true) t79) w fun t80 w =>
 CondV t80 (
 Q (.bool false) w) (
 run1 Tryz.prog Z (binOp .add 3 t28 (.int .i64 1)) w fun t81 w =>
 ∃ n_27, n_27 < m_27 ∧ J_27 n_27 t81 w)) w) w) w) w) w) w) w) w) w) w) w) w) w) w) w) w) w) w) w) w) w) w) w) w) w) w) w) w) w) w) w) w) w) w) w) w) w) w) w) w) w) w) w) w) w) w) (
 run1 Tryz.prog Z (binOp .add 3 t21 (.int .i64 1)) w fun t82 w =>
 ∃ n_20, n_20 < m_20 ∧ J_20 n_20 t82 w)) (
 Q (.bool true) w))
def f82.an : An := (.sq .leaf (.sq .leaf (.sq (.sq .leaf (.bl (.lp [5, 6] (.sq (.sq .leaf (.cn .leaf .leaf)) (.sq (.bl (.sq .leaf (.sq (.sq .leaf (.bl (.lp [7, 8] (.sq (.sq .leaf (.cn .leaf .leaf)) (.sq (.bl .leaf) .leaf))))) .leaf))) .leaf))))) (.sq (.sq .leaf (.bl (.lp [9] (.sq (.sq .leaf (.cn .leaf .leaf)) (.sq (.bl (.sq .leaf (.sq .leaf (.bl (.lp [11] (.sq (.sq .leaf (.cn .leaf .leaf)) (.sq (.bl (.sq .leaf (.cn (.sq .leaf .leaf) .leaf))) .leaf))))))) .leaf))))) (.sq .leaf .leaf)))))
theorem f82.calls {Z : List PanicEntry → World → Prop} {x0 x1 : Value} {w : World} {Q : Value → World → Prop} (h : f82.sh Z x0 x1 w Q) : CallV Tryz.prog Z 82 #[x0, x1] w Q :=
 cl Tryz.func82 f82.an [x0, x1] (by kernel_rfl) (by kernel_rfl) h

def f83.sh (Z : List PanicEntry → World → Prop) (x0 x1 : Value) (w : World) (Q : Value → World → Prop) : Prop :=
 ∃ J_1 : Nat → Value → Value → World → Prop, (∃ m, J_1 m (.slice none 0 0) (.int .i64 0) w) ∧
 ∀ m_1, ∀ t2 : Value, ∀ t3 : Value, ∀ w : World, J_1 m_1 t2 t3 w → Env →
 run1 Tryz.prog Z (Builtin.len_ #[47] 3 #[x0]) w fun t4 w =>
 run1 Tryz.prog Z (binOp .lss 3 t3 t4) w fun t5 w =>
 CondV t5 (
 run1 Tryz.prog Z (Instr.indexAt 47 x0 t3) w fun t6 w =>
 run1 Tryz.prog Z (Instr.loadAt 175 t6) w fun t7 w =>
 ∃ J_8 : Nat → Value → Value → World → Prop, (∃ m, J_8 m t7 (.int .i64 0) w) ∧
 ∀ m_8, ∀ t9 : Value, ∀ t10 : Value, ∀ w : World, J_8 m_8 t9 t10 w → Env →
 run1 Tryz.prog Z (binOp .lss 3 t10 x1) w fun t11 w =>
 CondV t11 (
 run1 Tryz.prog Z (binOp .sub 3 (.int .i64 (-2000000)) t3) w fun t12 w =>
 CallV Tryz.prog Z 70 #[t12] w fun t13 w =>
 run1 Tryz.prog Z (convert 9 58 t13) w fun t14 w =>
 run1 Tryz.prog Z (Instr.build 177 #[(2, t14)]) w fun t15 w =>
 run1 Tryz.prog Z (Instr.buildSlice 175 1 #[(0, t15)]) w fun t16 w =>
 run1 Tryz.prog Z (Builtin.append_ #[175, 175] 175 #[t9, t16]) w fun t17 w =>
 run1 Tryz.prog Z (binOp .add 3 t10 (.int .i64 1)) w fun t18 w =>
 ∃ n_8, n_8 < m_8 ∧ J_8 n_8 t17 t18 w) (
 run1 Tryz.prog Z (Instr.buildSlice 47 1 #[(0, t9)]) w fun t19 w =>
 run1 Tryz.prog Z (Builtin.append_ #[47, 47] 47 #[t2, t19]) w fun t20 w =>
 run1 Tryz.prog Z (binOp .add 3 t3 (.int .i64 1)) w fun t21 w =>
 ∃ n_1, n_1 < m_1 ∧ J_1 n_1 t20 t21 w)) (
 ∃ J_22 : Nat → Value → World → Prop, (∃ m, J_22 m (.int .i64 0) w) ∧
 ∀ m_22, ∀ t23 : Value, ∀ w : World, J_22 m_22 t23 w → Env →
 run1 Tryz.prog Z (Builtin.len_ #[47] 3 #[x0]) w fun t24 w =>
 run1 Tryz.prog Z (binOp .lss 3 t23 t24) w fun t25 w =>
 CondV t25 (
 run1 Tryz.prog Z (Instr.indexAt 47 x0 t23) w fun t26 w =>
 run1 Tryz.prog Z (Instr.loadAt 175 t26) w fun t27 w =>
 run1 Tryz.prog Z (Builtin.len_ #[175] 3 #[t27]) w fun t28 w =>
 ∃ J_29 : Nat → Value → World → Prop, (∃ m, J_29 m (.int .i64 0) w) ∧
 ∀ m_29, ∀ t30 : Value, ∀ w : World, J_29 m_29 t30 w → Env →
 run1 Tryz.prog Z (binOp .add 3 t28 x1) w fun t31 w =>
 run1 Tryz.prog Z (binOp .lss 3 t30 t31) w fun t32 w =>
 CondV t32 (
 Drawn w fun w =>
 Pure1 Tryz.prog (binOp .lss 3 t30 t28) fun t33 =>
 guardV (t33) true (fun k => k (x0)) (fun t34 =>
 guardV (t33) true (fun k => k (t23)) (fun t35 =>
 guardV (t33) true (fun k => Pure1 Tryz.prog (Instr.indexAt 47 t34 t35) k) (fun t36 =>
 guardV (t33) true (fun k => Read1 Tryz.prog (Instr.loadAt 175 t36) w k) (fun t37 =>
 guardV (t33) true (fun k => k (t30)) (fun t38 =>
 guardV (t33) true (fun k => Pure1 Tryz.prog (Instr.indexAt 175 t37 t38) k) (fun t39 =>
 guardV (t33) true (fun k => Pure1 Tryz.prog (Instr.fieldAt 177 t39 2) k) (fun t40 =>
 guardV (t33) true (fun k => Read1 Tryz.prog (Instr.loadAt 58 t40) w k) (fun t41 =>
 guardV (t33) true (fun k => Read1 Tryz.prog (convert 58 9 t41) w k) (fun t42 =>
 guardV (t33) true (fun k => k (t23)) (fun t43 =>
 guardV (t33) true (fun k => Pure1 Tryz.prog (binOp .sub 3 (.int .i64 (-1000000)) t43) k) (fun t44 =>
 guardW (t33) true (fun k => CallV Tryz.prog Z 70 #[t44] w k) (fun t45 w =>
 Still Tryz.prog (gSem (t33) true (nx (convert 58 9 t41))) t42 w <|
 Still Tryz.prog (gSem (t33) true (nx (Instr.loadAt 58 t40))) t41 w <|
 Still Tryz.prog (gSem (t33) true (nx (Instr.loadAt 175 t36))) t37 w <|
 guardV (t33) true (fun k => Pure1 Tryz.prog (eqOp .eql 9 false false t42 t45) k) (fun t46 =>
 guardV (t33) true (fun k => Pure1 Tryz.prog (Op.unary .not t46) k) (fun t47 =>
 Pure1 Tryz.prog (pickV t33 t47 (.bool false)) fun t48 =>
 guardV (t48) false (fun k => k (t30)) (fun t49 =>
 guardV (t48) false (fun k => k (t28)) (fun t50 =>
 guardV (t48) false (fun k => Pure1 Tryz.prog (binOp .lss 3 t49 t50) k) (fun t51 =>
 guardV (t48) false (fun k => k (t51)) (fun t52 =>
 guardV (t52) true (fun k => k (t2)) (fun t53 =>
 guardV (t52) true (fun k => k (t23)) (fun t54 =>
 guardV (t52) true (fun k => Pure1 Tryz.prog (Instr.indexAt 47 t53 t54) k) (fun t55 =>
 guardV (t52) true (fun k => Read1 Tryz.prog (Instr.loadAt 175 t55) w k) (fun t56 =>
 guardV (t52) true (fun k => k (t30)) (fun t57 =>
 guardV (t52) true (fun k => Pure1 Tryz.prog (Instr.indexAt 175 t56 t57) k) (fun t58 =>
 guardV (t52) true (fun k => Pure1 Tryz.prog (Instr.fieldAt 177 t58 2) k) (fun t59 =>
 guardV (t52) true (fun k => Read1 Tryz.prog (Instr.loadAt 58 t59) w k) (fun t60 =>
 guardV (t52) true (fun k => Read1 Tryz.prog (convert 58 9 t60) w k) (fun t61 =>
 guardV (t52) true (fun k => k (t23)) (fun t62 =>
 guardV (t52) true (fun k => Pure1 Tryz.prog (binOp .sub 3 (.int .i64 (-1000000)) t62) k) (fun t63 =>
 guardW (t52) true (fun k => CallV Tryz.prog Z 70 #[t63] w k) (fun t64 w =>
 Still Tryz.prog (gSem (t52) true (nx (convert 58 9 t60))) t61 w <|
 Still Tryz.prog (gSem (t52) true (nx (Instr.loadAt 58 t59))) t60 w <|
 Still Tryz.prog (gSem (t52) true (nx (Instr.loadAt 175 t55))) t56 w <|
 Still Tryz.prog (gSem (t33) true (nx (convert 58 9 t41))) t42 w <|
 Still Tryz.prog (gSem (t33) true (nx (Instr.loadAt 58 t40))) t41 w <|
 Still Tryz.prog (gSem (t33) true (nx (Instr.loadAt 175 t36))) t37 w <|
 guardV (t52) true (fun k => Pure1 Tryz.prog (eqOp .eql 9 false false t61 t64) k) (fun t65 =>
 guardV (t52) true (fun k => Pure1 Tryz.prog (Op.unary .not t65) k) (fun t66 =>
 guardV (t48) false (fun k => Pure1 Tryz.prog (pickV t52 t66 (.bool false)) k) (fun t67 =>
 Pure1 Tryz.prog (pickV t48 (.bool true) t67) fun t68 =>
 guardV (t68) false (fun k => k (t30)) (fun t69 =>
 guardV (t68) false (fun k => k (t28)) (fun t70 =>
 guardV (t68) false (fun k => Pure1 Tryz.prog (binOp .geq 3 t69 t70) k) (fun t71 =>
 guardV (t68) false (fun k => k (t71)) (fun t72 =>
 guardV (t72) true (fun k => k (t2)) (fun t73 =>
 guardV (t72) true (fun k => k (t23)) (fun t74 =>
 guardV (t72) true (fun k => Pure1 Tryz.prog (Instr.indexAt 47 t73 t74) k) (fun t75 =>
 guardV (t72) true (fun k => Read1 Tryz.prog (Instr.loadAt 175 t75) w k) (fun t76 =>
 guardV (t72) true (fun k => k (t30)) (fun t77 =>
 guardV (t72) true (fun k => Pure1 Tryz.prog (Instr.indexAt 175 t76 t77) k) (fun t78 =>
 guardV (t72) true (fun k => Pure1 Tryz.prog (Instr.fieldAt 177 t78 2) k) (fun t79 =>
 guardV (t72) true (fun k => Read1 Tryz.prog (Instr.loadAt 58 t79) w k) (fun t80 =>
 guardV (t72) true (fun k => Read1 Tryz.prog (convert 58 9 t80) w k) (fun t81 =>
 guardV (t72) true (fun k => k (t23)) (fun t82 =>
 guardV (t72) true (fun k => Pure1 Tryz.prog (binOp .sub 3 (.int .i64 (-2000000)) t82) k) (fun t83 =>
 guardW (t72) true (fun k => CallV Tryz.prog Z 70 #[t83] w k) (fun t84 w =>
 Still Tryz.prog (gSem (t72) true (nx (convert 58 9 t80))) t81 w <|
 Still Tryz.prog (gSem (t72) true (nx (Instr.loadAt 58 t79))) t80 w <|
 Still Tryz.prog (gSem (t72) true (nx (Instr.loadAt 175 t75))) t76 w <|
 Still Tryz.prog (gSem (t52) true (nx (convert 58 9 t60))) t61 w <|
 Still Tryz.prog (gSem (t52) true (nx (Instr.loadAt 58 t59))) t60 w <|
 Still Tryz.prog (gSem (t52) true (nx (Instr.loadAt 175 t55))) t56 w <|
 Still Tryz.prog (gSem (t33) true (nx (convert 58 9 t41))) t42 w <|
 Still Tryz.prog (gSem (t33) true (nx (Instr.loadAt 58 t40))) t41 w <|
 Still Tryz.prog (gSem (t33) true (nx (Instr.loadAt 175 t36))) t37 w <|
 guardV (t72) true (fun k => Pure1 Tryz.prog (eqOp .eql 9 false false t81 t84) k) (fun t85 =>
 guardV (t72) true (fun k => Pure1 Tryz.prog (Op.unary .not t85) k) (fun t86 =>
 guardV (t68) false (fun k => Pure1 Tryz.prog (pickV t72 t86 (.bool false)) k) (fun t87 =>
 Pure1 Tryz.prog (pickV t68 (.bool true) t87) fun t88 =>
 CondV t88 (
 Q (.bool false) w) (
 run1 Tryz.prog Z (binOp .add 3 t30 (.int .i64 1)) w fun t89 w =>
 ∃ n_29, n_29 < m_29 ∧ J_29 n_29 t89 w))))) w))))))))))))))))))) w)))))))))))))))))) w)))))))))))) (
 run1 Tryz.prog Z (binOp .add 3 t23 (.int .i64 1)) w fun t90 w =>
 ∃ n_22, n_22 < m_22 ∧ J_22 n_22 t90 w)) (
 Q (.bool true) w))
def f83.an : An := (.sq .leaf (.sq .leaf (.sq (.sq .leaf (.bl (.lp [5, 6] (.sq (.sq .leaf (.cn .leaf .leaf)) (.sq (.bl (.sq .leaf (.sq (.sq .leaf (.bl (.lp [7, 8] (.sq (.sq .leaf (.cn .leaf .leaf)) (.sq (.bl .leaf) .leaf))))) .leaf))) .leaf))))) (.sq (.sq .leaf (.bl (.lp [9] (.sq (.sq .leaf (.cn .leaf .leaf)) (.sq (.bl (.sq .leaf (.sq .leaf (.bl (.lp [11] (.sq (.sq .leaf (.cn .leaf .leaf)) (.sq (.bl (.sq (.dr (pl [0, 4, 8, 12, 16, 20, 24, 29, 32, 36, 40, 45, 49, 52, 56, 62, 64, 68, 72, 76, 80, 84, 88, 92, 96, 100, 104, 109, 112, 116, 120, 125, 129, 132, 136, 142, 144, 148, 152, 156, 160, 164, 168, 172, 176, 180, 184, 188, 193, 196, 200, 204, 209, 213, 216, 220, 226, 228, 232, 236, 240] .fin)) (.cn (.sq .leaf .leaf) .leaf))) .leaf))))))) .leaf))))) (.sq .leaf .leaf)))))
theorem f83.calls {Z : List PanicEntry → World → Prop} {x0 x1 : Value} {w : World} {Q : Value → World → Prop} (h : f83.sh Z x0 x1 w Q) : CallV Tryz.prog Z 83 #[x0, x1] w Q :=
 cl Tryz.func83 f83.an [x0, x1] (by kernel_rfl) (by kernel_rfl) h

def f84.sh (Z : List PanicEntry → World → Prop) (x0 x1 : Value) (w : World) (Q : Value → World → Prop) : Prop :=
 ∃ J_1 : Nat → Value → Value → World → Prop, (∃ m, J_1 m (.slice none 0 0) (.int .i64 0) w) ∧
 ∀ m_1, ∀ t2 : Value, ∀ t3 : Value, ∀ w : World, J_1 m_1 t2 t3 w → Env →
 run1 Tryz.prog Z (Builtin.len_ #[48] 3 #[x0]) w fun t4 w =>
 run1 Tryz.prog Z (binOp .lss 3 t3 t4) w fun t5 w =>
 CondV t5 (
 run1 Tryz.prog Z (Instr.indexAt 48 x0 t3) w fun t6 w =>
 run1 Tryz.prog Z (Instr.loadAt 179 t6) w fun t7 w =>
 ∃ J_8 : Nat → Value → Value → World → Prop, (∃ m, J_8 m t7 (.int .i64 0) w) ∧
 ∀ m_8, ∀ t9 : Value, ∀ t10 : Value, ∀ w : World, J_8 m_8 t9 t10 w → Env →
 run1 Tryz.prog Z (binOp .lss 3 t10 x1) w fun t11 w =>
 CondV t11 (
 run1 Tryz.prog Z (binOp .sub 3 (.int .i64 (-2000000)) t3) w fun t12 w =>
 run1 Tryz.prog Z (Instr.build 181 #[(0, t12)]) w fun t13 w =>
 run1 Tryz.prog Z (Instr.buildSlice 179 1 #[(0, t13)]) w fun t14 w =>
 run1 Tryz.prog Z (Builtin.append_ #[179, 179] 179 #[t9, t14]) w fun t15 w =>
 run1 Tryz.prog Z (binOp .add 3 t10 (.int .i64 1)) w fun t16 w =>
 ∃ n_8, n_8 < m_8 ∧ J_8 n_8 t15 t16 w) (
 run1 Tryz.prog Z (Instr.buildSlice 48 1 #[(0, t9)]) w fun t17 w =>
 run1 Tryz.prog Z (Builtin.append_ #[48, 48] 48 #[t2, t17]) w fun t18 w =>
 run1 Tryz.prog Z (binOp .add 3 t3 (.int .i64 1)) w fun t19 w =>
 ∃ n_1, n_1 < m_1 ∧ J_1 n_1 t18 t19 w)) (
 ∃ J_20 : Nat → Value → World → Prop, (∃ m, J_20 m (.int .i64 0) w) ∧
 ∀ m_20, ∀ t21 : Value, ∀ w : World, J_20 m_20 t21 w → Env →
 run1 Tryz.prog Z (Builtin.len_ #[48] 3 #[x0]) w fun t22 w =>
 run1 Tryz.prog Z (binOp .lss 3 t21 t22) w fun t23 w =>
 CondV t23 (
 run1 Tryz.prog Z (Instr.indexAt 48 x0 t21) w fun t24 w =>
 run1 Tryz.prog Z (Instr.loadAt 179 t24) w fun t25 w =>
 run1 Tryz.prog Z (Builtin.len_ #[179] 3 #[t25]) w fun t26 w =>
 ∃ J_27 : Nat → Value → World → Prop, (∃ m, J_27 m (.int .i64 0) w) ∧
 ∀ m_27, ∀ t28 : Value, ∀ w : World, J_27 m_27 t28 w → Env →
 run1 Tryz.prog Z (binOp .add 3 t26 x1) w fun t29 w =>
 run1 Tryz.prog Z (binOp .lss 3 t28 t29) w fun t30 w =>
 CondV t30 (
 run1 Tryz.prog Z (binOp .lss 3 t28 t26) w fun t31 w =>
 guardW (t31) true (fun k => k (x0) w) (fun t32 w =>
 guardW (t31) true (fun k => k (t21) w) (fun t33 w =>
 guardW (t31) true (fun k => run1 Tryz.prog Z (Instr.indexAt 48 t32 t33) w k) (fun t34 w =>
 guardW (t31) true (fun k => run1 Tryz.prog Z (Instr.loadAt 179 t34) w k) (fun t35 w =>
 guardW (t31) true (fun k => k (t28) w) (fun t36 w =>
 guardW (t31) true (fun k => run1 Tryz.prog Z (Instr.indexAt 179 t35 t36) w k) (fun t37 w =>
 guardW (t31) true (fun k => run1 Tryz.prog Z (Instr.fieldAt 181 t37 0) w k) (fun t38 w =>
 guardW (t31) true (fun k => run1 Tryz.prog Z (Instr.loadAt 2 t38) w k) (fun t39 w =>
 guardW (t31) true (fun k => k (t21) w) (fun t40 w =>
 guardW (t31) true (fun k => run1 Tryz.prog Z (binOp .sub 3 (.int .i64 (-1000000)) t40) w k) (fun t41 w =>
 guardW (t31) true (fun k => run1 Tryz.prog Z (eqOp .eql 2 false false t39 t41) w k) (fun t42 w =>
 guardW (t31) true (fun k => run1 Tryz.prog Z (Op.unary .not t42) w k) (fun t43 w =>
 run1 Tryz.prog Z (pickV t31 t43 (.bool false)) w fun t44 w =>
 guardW (t44) false (fun k => k (t28) w) (fun t45 w =>
 guardW (t44) false (fun k => k (t26) w) (fun t46 w =>
 guardW (t44) false (fun k => run1 Tryz.prog Z (binOp .lss 3 t45 t46) w k) (fun t47 w =>
 guardW (t44) false (fun k => k (t47) w) (fun t48 w =>
 guardW (t48) true (fun k => k (t2) w) (fun t49 w =>
 guardW (t48) true (fun k => k (t21) w) (fun t50 w =>
 guardW (t48) true (fun k => run1 Tryz.prog Z (Instr.indexAt 48 t49 t50) w k) (fun t51 w =>
 guardW (t48) true (fun k => run1 Tryz.prog Z (Instr.loadAt 179 t51) w k) (fun t52 w =>
 guardW (t48) true (fun k => k (t28) w) (fun t53 w =>
 guardW (t48) true (fun k => run1 Tryz.prog Z (Instr.indexAt 179 t52 t53) w k) (fun t54 w =>
 guardW (t48) true (fun k => run1 Tryz.prog Z (Instr.fieldAt 181 t54 0) w k) (fun t55 w =>
 guardW (t48) true (fun k => run1 Tryz.prog Z (Instr.loadAt 2 t55) w k) (fun t56 w =>
 guardW (t48) true (fun k => k (t21) w) (fun t57 w =>
 guardW (t48) true (fun k => run1 Tryz.prog Z (binOp .sub 3 (.int .i64 (-1000000)) t57) w k) (fun t58 w =>
 guardW (t48) true (fun k => run1 Tryz.prog Z (eqOp .eql 2 false false t56 t58) w k) (fun t59 w =>
 guardW (t48) true (fun k => run1 Tryz.prog Z (Op.unary .not t59) w k) (fun t60 w =>
 guardW (t44) false (fun k => run1 Tryz.prog Z (pickV t48 t60 (.bool false)) w k) (fun t61 w =>
 run1 Tryz.prog Z (pickV t44 (.bool true) t61) w fun t62 w =>
 guardW (t62) false (fun k => k (t28) w) (fun t63 w =>
 guardW (t62) false (fun k => k (t26) w) (fun t64 w =>
 guardW (t62) false (fun k => run1 Tryz.prog Z (binOp .geq 3 t63 t64) w k) (fun t65 w =>
 guardW (t62) false (fun k => k (t65) w) (fun t66 w =>
 guardW (t66) true (fun k => k (t2) w) (fun t67 w =>
 guardW (t66) true (fun k => k (t21) w) (fun t68 w =>
 guardW (t66) true (fun k => run1 Tryz.prog Z (Instr.indexAt 48 t67 t68) w k) (fun t69 w =>
 guardW (t66) true (fun k => run1 Tryz.prog Z (Instr.loadAt 179 t69) w k) (fun t70 w =>
 guardW (t66) true (fun k => k (t28) w) (fun t71 w =>
 guardW (t66) true (fun k => run1 Tryz.prog Z (Instr.indexAt 179 t70 t71) w k) (fun t72 w =>
 guardW (t66) true (fun k => run1 Tryz.prog Z (Instr.fieldAt 181 t72 0) w k) (fun t73 w =>
 guardW (t66) true (fun k => run1 Tryz.prog Z (Instr.loadAt 2 t73) w k) (fun t74 w =>
 guardW (t66) true (fun k => k (t21) w) (fun t75 w =>
 guardW (t66) true (fun k => run1 Tryz.prog Z (binOp .sub 3 (.int .i64 (-2000000)) t75) w k) (fun t76 w =>
 guardW (t66) true (fun k => run1 Tryz.prog Z (eqOp .eql 2 false false t74 t76) w k) (fun t77 w =>
 guardW (t66) true (fun k => run1 Tryz.prog Z (Op.unary .not t77) w k) (fun t78 w =>
 guardW (t62) false (fun k => run1 Tryz.prog Z (pickV t66 t78 (.bool false)) w k) (fun t79 w =>
 run1 Tryz.prog Z (pickV t62 (.bool true) t79) w fun t80 w =>
 CondV t80 (
 Q (.bool false) w) (
 run1 Tryz.prog Z (binOp .add 3 t28 (.int .i64 1)) w fun t81 w =>
 ∃ n_27, n_27 < m_27 ∧ J_27 n_27 t81 w)) w) w) w) w) w) w) w) w) w) w) w) w) w) w) w) w) w) w) w) w) w) w) w) w) w) w) w) w) w) w) w) w) w) w) w) w) w) w) w) w) w) w) w) w) w) w) (
 run1 Tryz.prog Z (binOp .add 3 t21 (.int .i64 1)) w fun t82 w =>
 ∃ n_20, n_20 < m_20 ∧ J_20 n_20 t82 w)) (
 Q (.bool true) w))
def f84.an : An := (.sq .leaf (.sq .leaf (.sq (.sq .leaf (.bl (.lp [5, 6] (.sq (.sq .leaf (.cn .leaf .leaf)) (.sq (.bl (.sq .leaf (.sq (.sq .leaf (.bl (.lp [7, 8] (.sq (.sq .leaf (.cn .leaf .leaf)) (.sq (.bl .leaf) .leaf))))) .leaf))) .leaf))))) (.sq (.sq .leaf (.bl (.lp [9] (.sq (.sq .leaf (.cn .leaf .leaf)) (.sq (.bl (.sq .leaf (.sq .leaf (.bl (.lp [11] (.sq (.sq .leaf (.cn .leaf .leaf)) (.sq (.bl (.sq .leaf (.cn (.sq .leaf .leaf) .leaf))) .leaf))))))) .leaf))))) (.sq .leaf .leaf)))))
theorem f84.calls {Z : List PanicEntry → World → Prop} {x0 x1 : Value} {w : World} {Q : Value → World → Prop} (h : f84.sh Z x0 x1 w Q) : CallV Tryz.prog Z 84 #[x0, x1] w Q :=
 cl Tryz.func84 f84.an [x0, x1] (by kernel_rfl) (by kernel_rfl) h

def f85.sh (Z : List PanicEntry → World → Prop) (x0 x1 : Value) (w : World) (Q : Value → World → Prop) : Prop :=
 ∃ J_1 : Nat → Value → Value → World → Prop, (∃ m, J_1 m (.slice none 0 0) (.int .i64 0) w) ∧
 ∀ m_1, ∀ t2 : Value, ∀ t3 : Value, ∀ w : World, J_1 m_1 t2 t3 w → Env →
 run1 Tryz.prog Z (Builtin.len_ #[49] 3 #[x0]) w fun t4 w =>
 run1 Tryz.prog Z (binOp .lss 3 t3 t4) w fun t5 w =>
 CondV t5 (
 run1 Tryz.prog Z (Instr.indexAt 49 x0 t3) w fun t6 w =>
 run1 Tryz.prog Z (Instr.loadAt 183 t6) w fun t7 w =>
 ∃ J_8 : Nat → Value → Value → World → Prop, (∃ m, J_8 m t7 (.int .i64 0) w) ∧
 ∀ m_8, ∀ t9 : Value, ∀ t10 : Value, ∀ w : World, J_8 m_8 t9 t10 w → Env →
 run1 Tryz.prog Z (binOp .lss 3 t10 x1) w fun t11 w =>
 CondV t11 (
 run1 Tryz.prog Z (binOp .sub 3 (.int .i64 (-2000000)) t3) w fun t12 w =>
 run1 Tryz.prog Z (Instr.build 181 #[(0, t12)]) w fun t13 w =>
 run1 Tryz.prog Z (Instr.build 185 #[(0, t13)]) w fun t14 w =>
 run1 Tryz.prog Z (Instr.buildSlice 183 1 #[(0, t14)]) w fun t15 w =>
 run1 Tryz.prog Z (Builtin.append_ #[183, 183] 183 #[t9, t15]) w fun t16 w =>
 run1 Tryz.prog Z (binOp .add 3 t10 (.int .i64 1)) w fun t17 w =>
 ∃ n_8, n_8 < m_8 ∧ J_8 n_8 t16 t17 w) (
 run1 Tryz.prog Z (Instr.buildSlice 49 1 #[(0, t9)]) w fun t18 w =>
 run1 Tryz.prog Z (Builtin.append_ #[49, 49] 49 #[t2, t18]) w fun t19 w =>
 run1 Tryz.prog Z (binOp .add 3 t3 (.int .i64 1)) w fun t20 w =>
 ∃ n_1, n_1 < m_1 ∧ J_1 n_1 t19 t20 w)) (
 ∃ J_21 : Nat → Value → World → Prop, (∃ m, J_21 m (.int .i64 0) w) ∧
 ∀ m_21, ∀ t22 : Value, ∀ w : World, J_21 m_21 t22 w → Env →
 run1 Tryz.prog Z (Builtin.len_ #[49] 3 #[x0]) w fun t23 w =>
 run1 Tryz.prog Z (binOp .lss 3 t22 t23) w fun t24 w =>
 CondV t24 (
 run1 Tryz.prog Z (Instr.indexAt 49 x0 t22) w fun t25 w =>
 run1 Tryz.prog Z (Instr.loadAt 183 t25) w fun t26 w =>
 run1 Tryz.prog Z (Builtin.len_ #[183] 3 #[t26]) w fun t27 w =>
 ∃ J_28 : Nat → Value → World → Prop, (∃ m, J_28 m (.int .i64 0) w) ∧
 ∀ m_28, ∀ t29 : Value, ∀ w : World, J_28 m_28 t29 w → Env →
 run1 Tryz.prog Z (binOp .add 3 t27 x1) w fun t30 w =>
 run1 Tryz.prog Z (binOp .lss 3 t29 t30) w fun t31 w =>
 CondV t31 (
 run1 Tryz.prog Z (binOp .lss 3 t29 t27) w fun t32 w =>
 guardW (t32) true (fun k => k (x0) w) (fun t33 w =>
 guardW (t32) true (fun k => k (t22) w) (fun t34 w =>
 guardW (t32) true (fun k => run1 Tryz.prog Z (Instr.indexAt 49 t33 t34) w k) (fun t35 w =>
 guardW (t32) true (fun k => run1 Tryz.prog Z (Instr.loadAt 183 t35) w k) (fun t36 w =>
 guardW (t32) true (fun k => k (t29) w) (fun t37 w =>
 guardW (t32) true (fun k => run1 Tryz.prog Z (Instr.indexAt 183 t36 t37) w k) (fun t38 w =>
 guardW (t32) true (fun k => run1 Tryz.prog Z (Instr.fieldAt 185 t38 0) w k) (fun t39 w =>
 guardW (t32) true (fun k => run1 Tryz.prog Z (Instr.fieldAt 181 t39 0) w k) (fun t40 w =>
 guardW (t32) true (fun k => run1 Tryz.prog Z (Instr.loadAt 2 t40) w k) (fun t41 w =>
 guardW (t32) true (fun k => k (t22) w) (fun t42 w =>
 guardW (t32) true (fun k => run1 Tryz.prog Z (binOp .sub 3 (.int .i64 (-1000000)) t42) w k) (fun t43 w =>
 guardW (t32) true (fun k => run1 Tryz.prog Z (eqOp .eql 2 false false t41 t43) w k) (fun t44 w =>
 guardW (t32) true (fun k => run1 Tryz.prog Z (Op.unary .not t44) w k) (fun t45 w =>
 run1 Tryz.prog Z (pickV t32 t45 (.bool false)) w fun t46 w =>
 guardW (t46) false (fun k => k (t29) w) (fun t47 w =>
 guardW (t46) false (fun k => k (t27) w) (fun t48 w =>
 guardW (t46) false (fun k => run1 Tryz.prog Z (binOp .lss 3 t47 t48) w k) (fun t49 w =>
 guardW (t46) false (fun k => k (t49) w) (fun t50 w =>
 guardW (t50) true (fun k => k (t2) w) (fun t51 w =>
 guardW (t50) true (fun k => k (t22) w) (fun t52 w =>
 guardW (t50) true (fun k => run1 Tryz.prog Z (Instr.indexAt 49 t51 t52) w k) (fun t53 w =>
 guardW (t50) true (fun k => run1 Tryz.prog Z (Instr.loadAt 183 t53) w k) (fun t54 w =>
 guardW (t50) true (fun k => k (t29) w) (fun t55 w =>
 guardW (t50) true (fun k => run1 Tryz.prog Z (Instr.indexAt 183 t54 t55) w k) (fun t56 w =>
 guardW (t50) true (fun k => run1 Tryz.prog Z (Instr.fieldAt 185 t56 0) w k) (fun t57 w =>
 guardW (t50) true (fun k => run1 Tryz.prog Z (Instr.fieldAt 181 t57 0) w k) (fun t58 w =>
 guardW (t50) true (fun k => run1 Tryz.prog Z (Instr.loadAt 2 t58) w k) (fun t59 w =>
 guardW (t50) true (fun k => k (t22) w) (fun t60 w =>
 guardW (t50) true (fun k => run1 Tryz.prog Z (binOp .sub 3 (.int .i64 (-1000000)) t60) w k) (fun t61 w =>
 guardW (t50) true (fun k => run1 Tryz.prog Z (eqOp .eql 2 false false t59 t61) w k) (fun t62 w =>
 guardW (t50) true (fun k => run1 Tryz.prog Z (Op.unary .not t62) w k) (fun t63 w =>
 guardW (t46) false (fun k => run1 Tryz.prog Z (pickV t50 t63 (.bool false)) w k) (fun t64 w =>
 run1 Tryz.prog Z (pickV t46 (.bool true) t64) w fun t65 w =>
 guardW (t65) false (fun k => k (t29) w) (fun t66 w =>
 guardW (t65) false (fun k => k (t27) w) (fun t67 w =>
 guardW (t65) false (fun k => run1 Tryz.prog Z (binOp .geq 3 t66 t67) w k) (fun t68 w =>
 guardW (t65) false (fun k => k (t68) w) (fun t69 w =>
 guardW (t69) true (fun k => k (t2) w) (fun t70 w =>
 guardW (t69) true (fun k => k (t22) w) (fun t71 w =>
 guardW (t69) true (fun k => run1 Tryz.prog Z (Instr.indexAt 49 t70 t71) w k) (fun t72 w =>
 guardW (t69) true (fun k => run1 Tryz.prog Z (Instr.loadAt 183 t72) w k) (fun t73 w =>
 guardW (t69) true (fun k => k (t29) w) (fun t74 w =>
 guardW (t69) true (fun k => run1 Tryz.prog Z (Instr.indexAt 183 t73 t74) w k) (fun t75 w =>
 guardW (t69) true (fun k => run1 Tryz.prog Z (Instr.fieldAt 185 t75 0) w k) (fun t76 w =>
 guardW (t69) true (fun k => run1 Tryz.prog Z (Instr.fieldAt 181 t76 0) w k) (fun t77 w =>
 guardW (t69) true (fun k => run1 Tryz.prog Z (Instr.loadAt 2 t77) w k) (fun t78 w =>
 guardW (t69) true (fun k => k (t22) w) (fun t79 w =>
 guardW (t69) true (fun k => run1 Tryz.prog Z (binOp .sub 3 (.int .i64 (-2000000)) t79) w k) (fun t80 w =>
 guardW (t69) true (fun k => run1 Tryz.prog Z (eqOp .eql 2 false false t78 t80) w k) (fun t81 w =>
 guardW (t69) true (fun k => run1 Tryz.prog Z (Op.unary .not t81) w k) (fun t82 w =>
 guardW (t65) false (fun k => run1 Tryz.prog Z (pickV t69 t82 (.bool false)) w k) (fun t83 w =>
 run1 Tryz.prog Z (pickV t65 (.bool true) t83) w fun t84 w =>
 CondV t84 (
 Q (.bool false) w) (
 run1 Tryz.prog Z (binOp .add 3 t29 (.int .i64 1)) w fun t85 w =>
 ∃ n_28, n_28 < m_28 ∧ J_28 n_28 t85 w)) w) w) w) w) w) w) w) w) w) w) w) w) w) w) w) w) w) w) w) w) w) w) w) w) w) w) w) w) w) w) w) w) w) w) w) w) w) w) w) w) w) w) w) w) w) w) w) w) w) (
 run1 Tryz.prog Z (binOp .add 3 t22 (.int .i64 1)) w fun t86 w =>
 ∃ n_21, n_21 < m_21 ∧ J_21 n_21 t86 w)) (
 Q (.bool true) w))
def f85.an : An := (.sq .leaf (.sq .leaf (.sq (.sq .leaf (.bl (.lp [5, 6] (.sq (.sq .leaf (.cn .leaf .leaf)) (.sq (.bl (.sq .leaf (.sq (.sq .leaf (.bl (.lp [7, 8] (.sq (.sq .leaf (.cn .leaf .leaf)) (.sq (.bl .leaf) .leaf))))) .leaf))) .leaf))))) (.sq (.sq .leaf (.bl (.lp [9] (.sq (.sq .leaf (.cn .leaf .leaf)) (.sq (.bl (.sq .leaf (.sq .leaf (.bl (.lp [11] (.sq (.sq .leaf (.cn .leaf .leaf)) (.sq (.bl (.sq .leaf (.cn (.sq .leaf .leaf) .leaf))) .leaf))))))) .leaf))))) (.sq .leaf .leaf)))))
theorem f85.calls {Z : List PanicEntry → World → Prop} {x0 x1 : Value} {w : World} {Q : Value → World → Prop} (h : f85.sh Z x0 x1 w Q) : CallV Tryz.prog Z 85 #[x0, x1] w Q :=
 cl Tryz.func85 f85.an [x0, x1] (by kernel_rfl) (by kernel_rfl) h

def f86.sh (Z : List PanicEntry → World → Prop) (x0 x1 : Value) (w : World) (Q : Value → World → Prop) : Prop :=
 ∃ J_1 : Nat → Value → Value → World → Prop, (∃ m, J_1 m (.slice none 0 0) (.int .i64 0) w) ∧
 ∀ m_1, ∀ t2 : Value, ∀ t3 : Value, ∀ w : World, J_1 m_1 t2 t3 w → Env →
 run1 Tryz.prog Z (Builtin.len_ #[50] 3 #[x0]) w fun t4 w =>
 run1 Tryz.prog Z (binOp .lss 3 t3 t4) w fun t5 w =>
 CondV t5 (
 run1 Tryz.prog Z (Instr.indexAt 50 x0 t3) w fun t6 w =>
 run1 Tryz.prog Z (Instr.loadAt 187 t6) w fun t7 w =>
 ∃ J_8 : Nat → Value → Value → World → Prop, (∃ m, J_8 m t7 (.int .i64 0) w) ∧
 ∀ m_8, ∀ t9 : Value, ∀ t10 : Value, ∀ w : World, J_8 m_8 t9 t10 w → Env →
 run1 Tryz.prog Z (binOp .lss 3 t10 x1) w fun t11 w =>
 CondV t11 (
 run1 Tryz.prog Z (binOp .sub 3 (.int .i64 (-2000000)) t3) w fun t12 w =>
 run1 Tryz.prog Z (Instr.build 189 #[(6, t12)]) w fun t13 w =>
 run1 Tryz.prog Z (Instr.buildSlice 187 1 #[(0, t13)]) w fun t14 w =>
 run1 Tryz.prog Z (Builtin.append_ #[187, 187] 187 #[t9, t14]) w fun t15 w =>
 run1 Tryz.prog Z (binOp .add 3 t10 (.int .i64 1)) w fun t16 w =>
 ∃ n_8, n_8 < m_8 ∧ J_8 n_8 t15 t16 w) (
 run1 Tryz.prog Z (Instr.buildSlice 50 1 #[(0, t9)]) w fun t17 w =>
 run1 Tryz.prog Z (Builtin.append_ #[50, 50] 50 #[t2, t17]) w fun t18 w =>
 run1 Tryz.prog Z (binOp .add 3 t3 (.int .i64 1)) w fun t19 w =>
 ∃ n_1, n_1 < m_1 ∧ J_1 n_1 t18 t19 w)) (
 ∃ J_20 : Nat → Value → World → Prop, (∃ m, J_20 m (.int .i64 0) w) ∧
 ∀ m_20, ∀ t21 : Value, ∀ w : World, J_20 m_20 t21 w → Env →
 run1 Tryz.prog Z (Builtin.len_ #[50] 3 #[x0]) w fun t22 w =>
 run1 Tryz.prog Z (binOp .lss 3 t21 t22) w fun t23 w =>
 CondV t23 (
 run1 Tryz.prog Z (Instr.indexAt 50 x0 t21) w fun t24 w =>
 run1 Tryz.prog Z (Instr.loadAt 187 t24) w fun t25 w =>
 run1 Tryz.prog Z (Builtin.len_ #[187] 3 #[t25]) w fun t26 w =>
 ∃ J_27 : Nat → Value → World → Prop, (∃ m, J_27 m (.int .i64 0) w) ∧
 ∀ m_27, ∀ t28 : Value, ∀ w : World, J_27 m_27 t28 w → Env →
 run1 Tryz.prog Z (binOp .add 3 t26 x1) w fun t29 w =>
 run1 Tryz.prog Z (binOp .lss 3 t28 t29) w fun t30 w =>
 CondV t30 (
 run1 Tryz.prog Z (binOp .lss 3 t28 t26) w fun t31 w =>
 guardW (t31) true (fun k => k (x0) w) (fun t32 w =>
 guardW (t31) true (fun k => k (t21) w) (fun t33 w =>
 guardW (t31) true (fun k => run1 Tryz.prog Z (Instr.indexAt 50 t32 t33) w k) (fun t34 w =>
 guardW (t31) true (fun k => run1 Tryz.prog Z (Instr.loadAt 187 t34) w k) (fun t35 w =>
 guardW (t31) true (fun k => k (t28) w) (fun t36 w =>
 guardW (t31) true (fun k => run1 Tryz.prog Z (Instr.indexAt 187 t35 t36) w k) (fun t37 w =>
 guardW (t31) true (fun k => run1 Tryz.prog Z (Instr.fieldAt 189 t37 6) w k) (fun t38 w =>
 guardW (t31) true (fun k => run1 Tryz.prog Z (Instr.loadAt 2 t38) w k) (fun t39 w =>
 guardW (t31) true (fun k => k (t21) w) (fun t40 w =>
 guardW (t31) true (fun k => run1 Tryz.prog Z (binOp .sub 3 (.int .i64 (-1000000)) t40) w k) (fun t41 w =>
 guardW (t31) true (fun k => run1 Tryz.prog Z (eqOp .eql 2 false false t39 t41) w k) (fun t42 w =>
 guardW (t31) true (fun k => run1 Tryz.prog Z (Op.unary .not t42) w k) (fun t43 w =>
 run1 Tryz.prog Z (pickV t31 t43 (.bool false)) w fun t44 w =>
 guardW (t44) false (fun k => k (t28) w) (fun t45 w =>
 guardW (t44) false (fun k => k (t26) w) (fun t46 w =>
 guardW (t44) false (fun k => run1 Tryz.prog Z (binOp .lss 3 t45 t46) w k) (fun t47 w =>
 guardW (t44) false (fun k => k (t47) w) (fun t48 w =>
 guardW (t48) true (fun k => k (t2) w) (fun t49 w =>
 guardW (t48) true (fun k => k (t21) w) (fun t50 w =>
 guardW (t48) true (fun k => run1 Tryz.prog Z (Instr.indexAt 50 t49 t50) w k) (fun t51 w =>
 guardW (t48) true (fun k => run1 Tryz.prog Z (Instr.loadAt 187 t51) w k) (fun t52 w =>
 guardW (t48) true (fun k => k (t28) w) (fun t53 w =>
 guardW (t48) true (fun k => run1 Tryz.prog Z (Instr.indexAt 187 t52 t53) w k) (fun t54 w =>
 guardW (t48) true (fun k => run1 Tryz.prog Z (Instr.fieldAt 189 t54 6) w k) (fun t55 w =>
 guardW (t48) true (fun k => run1 Tryz.prog Z (Instr.loadAt 2 t55) w k) (fun t56 w =>
 guardW (t48) true (fun k => k (t21) w) (fun t57 w =>
 guardW (t48) true (fun k => run1 Tryz.prog Z (binOp .sub 3 (.int .i64 (-1000000)) t57) w k) (fun t58 w =>
 guardW (t48) true (fun k => run1 Tryz.prog Z (eqOp .eql 2 false false t56 t58) w k) (fun t59 w =>
 guardW (t48) true (fun k => run1 Tryz.prog Z (Op.unary .not t59) w k) (fun t60 w =>
 guardW (t44) false (fun k => run1 Tryz.prog Z (pickV t48 t60 (.bool false)) w k) (fun t61 w =>
 run1 Tryz.prog Z (pickV t44 (.bool true) t61) w fun t62 w =>
 guardW (t62) false (fun k => k (t28) w) (fun t63 w =>
 guardW (t62) false (fun k => k (t26) w) (fun t64 w =>
 guardW (t62) false (fun k => run1 Tryz.prog Z (binOp .geq 3 t63 t64) w k) (fun t65 w =>
 guardW (t62) false (fun k => k (t65) w) (fun t66 w =>
 guardW (t66) true (fun k => k (t2) w) (fun t67 w =>
 guardW (t66) true (fun k => k (t21) w) (fun t68 w =>
 guardW (t66) true (fun k => run1 Tryz.prog Z (Instr.indexAt 50 t67 t68) w k) (fun t69 w =>
 guardW (t66) true (fun k => run1 Tryz.prog Z (Instr.loadAt 187 t69) w k) (fun t70 w =>
 guardW (t66) true (fun k => k (t28) w) (fun t71 w =>
 guardW (t66) true (fun k => run1 Tryz.prog Z (Instr.indexAt 187 t70 t71) w k) (fun t72 w =>
 guardW (t66) true (fun k => run1 Tryz.prog Z (Instr.fieldAt 189 t72 6) w k) (fun t73 w =>
 guardW (t66) true (fun k => run1 Tryz.prog Z (Instr.loadAt 2 t73) w k) (fun t74 w =>
 guardW (t66) true (fun k => k (t21) w) (fun t75 w =>
 guardW (t66) true (fun k => run1 Tryz.prog Z (binOp .sub 3 (.int .i64 (-2000000)) t75) w k) (fun t76 w =>
 guardW (t66) true (fun k => run1 Tryz.prog Z (eqOp .eql 2 false false t74 t76) w k) (fun t77 w =>
 guardW (t66) true (fun k => run1 Tryz.prog Z (Op.unary .not t77) w k) (fun t78 w =>
 guardW (t62) false (fun k => run1 Tryz.prog Z (pickV t66 t78 (.bool false)) w k) (fun t79 w =>
 run1 Tryz.prog Z (pickV t62 (.bool true) t79) w fun t80 w =>
 CondV t80 (
 Q (.bool false) w) (
 run1 Tryz.prog Z (binOp .add 3 t28 (.int .i64 1)) w fun t81 w =>
 ∃ n_27, n_27 < m_27 ∧ J_27 n_27 t81 w)) w) w) w) w) w) w) w) w) w) w) w) w) w) w) w) w) w) w) w) w) w) w) w) w) w) w) w) w) w) w) w) w) w) w) w) w) w) w) w) w) w) w) w) w) w) w) (
 run1 Tryz.prog Z (binOp .add 3 t21 (.int .i64 1)) w fun t82 w =>
 ∃ n_20, n_20 < m_20 ∧ J_20 n_20 t82 w)) (
 Q (.bool true) w))
def f86.an : An := (.sq .leaf (.sq .leaf (.sq (.sq .leaf (.bl (.lp [5, 6] (.sq (.sq .leaf (.cn .leaf .leaf)) (.sq (.bl (.sq .leaf (.sq (.sq .leaf (.bl (.lp [7, 8] (.sq (.sq .leaf (.cn .leaf .leaf)) (.sq (.bl .leaf) .leaf))))) .leaf))) .leaf))))) (.sq (.sq .leaf (.bl (.lp [9] (.sq (.sq .leaf (.cn .leaf .leaf)) (.sq (.bl (.sq .leaf (.sq .leaf (.bl (.lp [11] (.sq (.sq .leaf (.cn .leaf .leaf)) (.sq (.bl (.sq .leaf (.cn (.sq .leaf .leaf) .leaf))) .leaf))))))) .leaf))))) (.sq .leaf .leaf)))))
theorem f86.calls {Z : List PanicEntry → World → Prop} {x0 x1 : Value} {w : World} {Q : Value → World → Prop} (h : f86.sh Z x0 x1 w Q) : CallV Tryz.prog Z 86 #[x0, x1] w Q :=
 cl Tryz.func86 f86.an [x0, x1] (by kernel_rfl) (by kernel_rfl) h

def f87.sh (Z : List PanicEntry → World → Prop) (x0 x1 : Value) (w : World) (Q : Value → World → Prop) : Prop :=
 ∃ J_1 : Nat → Value → Value → World → Prop, (∃ m, J_1 m (.slice none 0 0) (.int .i64 0) w) ∧
 ∀ m_1, ∀ t2 : Value, ∀ t3 : Value, ∀ w : World, J_1 m_1 t2 t3 w → Env →
 run1 Tryz.prog Z (Builtin.len_ #[51] 3 #[x0]) w fun t4 w =>
 run1 Tryz.prog Z (binOp .lss 3 t3 t4) w fun t5 w =>
 CondV t5 (
 run1 Tryz.prog Z (Instr.indexAt 51 x0 t3) w fun t6 w =>
 run1 Tryz.prog Z (Instr.loadAt 191 t6) w fun t7 w =>
 ∃ J_8 : Nat → Value → Value → World → Prop, (∃ m, J_8 m t7 (.int .i64 0) w) ∧
 ∀ m_8, ∀ t9 : Value, ∀ t10 : Value, ∀ w : World, J_8 m_8 t9 t10 w → Env →
 run1 Tryz.prog Z (binOp .lss 3 t10 x1) w fun t11 w =>
 CondV t11 (
 run1 Tryz.prog Z (binOp .sub 3 (.int .i64 (-2000000)) t3) w fun t12 w =>
 CallV Tryz.prog Z 70 #[t12] w fun t13 w =>
 run1 Tryz.prog Z (convert 9 58 t13) w fun t14 w =>
 run1 Tryz.prog Z (Instr.build 193 #[(1, t14)]) w fun t15 w =>
 run1 Tryz.prog Z (Instr.buildSlice 191 1 #[(0, t15)]) w fun t16 w =>
 run1 Tryz.prog Z (Builtin.append_ #[191, 191] 191 #[t9, t16]) w fun t17 w =>
 run1 Tryz.prog Z (binOp .add 3 t10 (.int .i64 1)) w fun t18 w =>
 ∃ n_8, n_8 < m_8 ∧ J_8 n_8 t17 t18 w) (
 run1 Tryz.prog Z (Instr.buildSlice 51 1 #[(0, t9)]) w fun t19 w =>
 run1 Tryz.prog Z (Builtin.append_ #[51, 51] 51 #[t2, t19]) w fun t20 w =>
 run1 Tryz.prog Z (binOp .add 3 t3 (.int .i64 1)) w fun t21 w =>
 ∃ n_1, n_1 < m_1 ∧ J_1 n_1 t20 t21 w)) (
 ∃ J_22 : Nat → Value → World → Prop, (∃ m, J_22 m (.int .i64 0) w) ∧
 ∀ m_22, ∀ t23 : Value, ∀ w : World, J_22 m_22 t23 w → Env →
 run1 Tryz.prog Z (Builtin.len_ #[51] 3 #[x0]) w fun t24 w =>
 run1 Tryz.prog Z (binOp .lss 3 t23 t24) w fun t25 w =>
 CondV t25 (
 run1 Tryz.prog Z (Instr.indexAt 51 x0 t23) w fun t26 w =>
 run1 Tryz.prog Z (Instr.loadAt 191 t26) w fun t27 w =>
 run1 Tryz.prog Z (Builtin.len_ #[191] 3 #[t27]) w fun t28 w =>
 ∃ J_29 : Nat → Value → World → Prop, (∃ m, J_29 m (.int .i64 0) w) ∧
 ∀ m_29, ∀ t30 : Value, ∀ w : World, J_29 m_29 t30 w → Env →
 run1 Tryz.prog Z (binOp .add 3 t28 x1) w fun t31 w =>
 run1 Tryz.prog Z (binOp .lss 3 t30 t31) w fun t32 w =>
 CondV t32 (
 Drawn w fun w =>
 Pure1 Tryz.prog (binOp .lss 3 t30 t28) fun t33 =>
 guardV (t33) true (fun k => k (x0)) (fun t34 =>
 guardV (t33) true (fun k => k (t23)) (fun t35 =>
 guardV (t33) true (fun k => Pure1 Tryz.prog (Instr.indexAt 51 t34 t35) k) (fun t36 =>
 guardV (t33) true (fun k => Read1 Tryz.prog (Instr.loadAt 191 t36) w k) (fun t37 =>
 guardV (t33) true (fun k => k (t30)) (fun t38 =>
 guardV (t33) true (fun k => Pure1 Tryz.prog (Instr.indexAt 191 t37 t38) k) (fun t39 =>
 guardV (t33) true (fun k => Pure1 Tryz.prog (Instr.fieldAt 193 t39 1) k) (fun t40 =>
 guardV (t33) true (fun k => Read1 Tryz.prog (Instr.loadAt 58 t40) w k) (fun t41 =>
 guardV (t33) true (fun k => Read1 Tryz.prog (convert 58 9 t41) w k) (fun t42 =>
 guardV (t33) true (fun k => k (t23)) (fun t43 =>
 guardV (t33) true (fun k => Pure1 Tryz.prog (binOp .sub 3 (.int .i64 (-1000000)) t43) k) (fun t44 =>
 guardW (t33) true (fun k => CallV Tryz.prog Z 70 #[t44] w k) (fun t45 w =>
 Still Tryz.prog (gSem (t33) true (nx (convert 58 9 t41))) t42 w <|
 Still Tryz.prog (gSem (t33) true (nx (Instr.loadAt 58 t40))) t41 w <|
 Still Tryz.prog (gSem (t33) true (nx (Instr.loadAt 191 t36))) t37 w <|
 guardV (t33) true (fun k => Pure1 Tryz.prog (eqOp .eql 9 false false t42 t45) k) (fun t46 =>
 guardV (t33) true (fun k => Pure1 Tryz.prog (Op.unary .not t46) k) (fun t47 =>
 Pure1 Tryz.prog (pickV t33 t47 (.bool false)) fun t48 =>
 guardV (t48) false (fun k => k (t30)) (fun t49 =>
 guardV (t48) false (fun k => k (t28)) (fun t50 =>
 guardV (t48) false (fun k => Pure1 Tryz.prog (binOp .lss 3 t49 t50) k) (fun t51 =>
 guardV (t48) false (fun k => k (t51)) (fun t52 =>
 guardV (t52) true (fun k => k (t2)) (fun t53 =>
 guardV (t52) true (fun k => k (t23)) (fun t54 =>
 guardV (t52) true (fun k => Pure1 Tryz.prog (Instr.indexAt 51 t53 t54) k) (fun t55 =>
 guardV (t52) true (fun k => Read1 Tryz.prog (Instr.loadAt 191 t55) w k) (fun t56 =>
 guardV (t52) true (fun k => k (t30)) (fun t57 =>
 guardV (t52) true (fun k => Pure1 Tryz.prog (Instr.indexAt 191 t56 t57) k) (fun t58 =>
 guardV (t52) true (fun k => Pure1 Tryz.prog (Instr.fieldAt 193 t58 1) k) (fun t59 =>
 guardV (t52) true (fun k => Read1 Tryz.prog (Instr.loadAt 58 t59) w k) (fun t60 =>
 guardV (t52) true (fun k => Read1 Tryz.prog (convert 58 9 t60) w k) (fun t61 =>
 guardV (t52) true (fun k => k (t23)) (fun t62 =>
 guardV (t52) true (fun k => Pure1 Tryz.prog (binOp .sub 3 (.int .i64 (-1000000)) t62) k) (fun t63 =>
 guardW (t52) true (fun k => CallV Tryz.prog Z 70 #[t63] w k) (fun t64 w =>
 Still Tryz.prog (gSem (t52) true (nx (convert 58 9 t60))) t61 w <|
 Still Tryz.prog (gSem (t52) true (nx (Instr.loadAt 58 t59))) t60 w <|
 Still Tryz.prog (gSem (t52) true (nx (Instr.loadAt 191 t55))) t56 w <|
 Still Tryz.prog (gSem (t33) true (nx (convert 58 9 t41))) t42 w <|
 Still Tryz.prog (gSem (t33) true (nx (Instr.loadAt 58 t40))) t41 w <|
 Still Tryz.prog (gSem (t33) true (nx (Instr.loadAt 191 t36))) t37 w <|
 guardV (t52) true (fun k => Pure1 Tryz.prog (eqOp .eql 9 false false t61 t64) k) (fun t65 =>
 guardV (t52) true (fun k => Pure1 Tryz.prog (Op.unary .not t65) k) (fun t66 =>
 guardV (t48) false (fun k => Pure1 Tryz.prog (pickV t52 t66 (.bool false)) k) (fun t67 =>
 Pure1 Tryz.prog (pickV t48 (.bool true) t67) fun t68 =>
 guardV (t68) false (fun k => k (t30)) (fun t69 =>
 guardV (t68) false (fun k => k (t28)) (fun t70 =>
 guardV (t68) false (fun k => Pure1 Tryz.prog (binOp .geq 3 t69 t70) k) (fun t71 =>
 guardV (t68) false (fun k => k (t71)) (fun t72 =>
 guardV (t72) true (fun k => k (t2)) (fun t73 =>
 guardV (t72) true (fun k => k (t23)) (fun t74 =>
 guardV (t72) true (fun k => Pure1 Tryz.prog (Instr.indexAt 51 t73 t74) k) (fun t75 =>
 guardV (t72) true (fun k => Read1 Tryz.prog (Instr.loadAt 191 t75) w k) (fun t76 =>
 guardV (t72) true (fun k => k (t30)) (fun t77 =>
 guardV (t72) true (fun k => Pure1 Tryz.prog (Instr.indexAt 191 t76 t77) k) (fun t78 =>
 guardV (t72) true (fun k => Pure1 Tryz.prog (Instr.fieldAt 193 t78 1) k) (fun t79 =>
 guardV (t72) true (fun k => Read1 Tryz.prog (Instr.loadAt 58 t79) w k) (fun t80 =>
 guardV (t72) true (fun k => Read1 Tryz.prog (convert 58 9 t80) w k) (fun t81 =>
 guardV (t72) true (fun k => k (t23)) (fun t82 =>
 guardV (t72) true (fun k => Pure1 Tryz.prog (binOp .sub 3 (.int .i64 (-2000000)) t82) k) (fun t83 =>
 guardW (t72) true (fun k => CallV Tryz.prog Z 70 #[t83] w k) (fun t84 w =>
 Still Tryz.prog (gSem (t72) true (nx (convert 58 9 t80))) t81 w <|
 Still Tryz.prog (gSem (t72) true (nx (Instr.loadAt 58 t79))) t80 w <|
 Still Tryz.prog (gSem (t72) true (nx (Instr.loadAt 191 t75))) t76 w <|
 Still Tryz.prog (gSem (t52) true (nx (convert 58 9 t60))) t61 w <|
 Still Tryz.prog (gSem (t52) true (nx (Instr.loadAt 58 t59))) t60 w <|
 Still Tryz.prog (gSem (t52) true (nx (Instr.loadAt 191 t55))) t56 w <|
 Still Tryz.prog (gSem (t33) true (nx (convert 58 9 t41))) t42 w <|
 Still Tryz.prog (gSem (t33) true (nx (Instr.loadAt 58 t40))) t41 w <|
 Still Tryz.prog (gSem (t33) true (nx (Instr.loadAt 191 t36))) t37 w <|
 guardV (t72) true (fun k => Pure1 Tryz.prog (eqOp .eql 9 false false t81 t84) k) (fun t85 =>
 guardV (t72) true (fun k => Pure1 Tryz.prog (Op.unary .not t85) k) (fun t86 =>
 guardV (t68) false (fun k => Pure1 Tryz.prog (pickV t72 t86 (.bool false)) k) (fun t87 =>
 Pure1 Tryz.prog (pickV t68 (.bool true) t87) fun t88 =>
 CondV t88 (
 Q (.bool false) w) (
 run1 Tryz.prog Z (binOp .add 3 t30 (.int .i64 1)) w fun t89 w =>
 ∃ n_29, n_29 < m_29 ∧ J_29 n_29 t89 w))))) w))))))))))))))))))) w)))))))))))))))))) w)))))))))))) (
 run1 Tryz.prog Z (binOp .add 3 t23 (.int .i64 1)) w fun t90 w =>
 ∃ n_22, n_22 < m_22 ∧ J_22 n_22 t90 w)) (
 Q (.bool true) w))
def f87.an : An := (.sq .leaf (.sq .leaf (.sq (.sq .leaf (.bl (.lp [5, 6] (.sq (.sq .leaf (.cn .leaf .leaf)) (.sq (.bl (.sq .leaf (.sq (.sq .leaf (.bl (.lp [7, 8] (.sq (.sq .leaf (.cn .leaf .leaf)) (.sq (.bl .leaf) .leaf))))) .leaf))) .leaf))))) (.sq (.sq .leaf (.bl (.lp [9] (.sq (.sq .leaf (.cn .leaf .leaf)) (.sq (.bl (.sq .leaf (.sq .leaf (.bl (.lp [11] (.sq (.sq .leaf (.cn .leaf .leaf)) (.sq (.bl (.sq (.dr (pl [0, 4, 8, 12, 16, 20, 24, 29, 32, 36, 40, 45, 49, 52, 56, 62, 64, 68, 72, 76, 80, 84, 88, 92, 96, 100, 104, 109, 112, 116, 120, 125, 129, 132, 136, 142, 144, 148, 152, 156, 160, 164, 168, 172, 176, 180, 184, 188, 193, 196, 200, 204, 209, 213, 216, 220, 226, 228, 232, 236, 240] .fin)) (.cn (.sq .leaf .leaf) .leaf))) .leaf))))))) .leaf))))) (.sq .leaf .leaf)))))
theorem f87.calls {Z : List PanicEntry → World → Prop} {x0 x1 : Value} {w : World} {Q : Value → World → Prop} (h : f87.sh Z x0 x1 w Q) : CallV Tryz.prog Z 87 #[x0, x1] w Q :=
 cl Tryz.func87 f87.an [x0, x1] (by kernel_rfl) (by kernel_rfl) h

def f88.sh (Z : List PanicEntry → World → Prop) (x0 x1 : Value) (w : World) (Q : Value → World → Prop) : Prop :=
 ∃ J_1 : Nat → Value → Value → World → Prop, (∃ m, J_1 m (.slice none 0 0) (.int .i64 0) w) ∧
 ∀ m_1, ∀ t2 : Value, ∀ t3 : Value, ∀ w : World, J_1 m_1 t2 t3 w → Env →
 run1 Tryz.prog Z (Builtin.len_ #[52] 3 #[x0]) w fun t4 w =>
 run1 Tryz.prog Z (binOp .lss 3 t3 t4) w fun t5 w =>
 CondV t5 (
 run1 Tryz.prog Z (Instr.indexAt 52 x0 t3) w fun t6 w =>
 run1 Tryz.prog Z (Instr.loadAt 195 t6) w fun t7 w =>
 ∃ J_8 : Nat → Value → Value → World → Prop, (∃ m, J_8 m t7 (.int .i64 0) w) ∧
 ∀ m_8, ∀ t9 : Value, ∀ t10 : Value, ∀ w : World, J_8 m_8 t9 t10 w → Env →
 run1 Tryz.prog Z (binOp .lss 3 t10 x1) w fun t11 w =>
 CondV t11 (
 run1 Tryz.prog Z (binOp .sub 3 (.int .i64 (-2000000)) t3) w fun t12 w =>
 run1 Tryz.prog Z (Instr.build 197 #[(4, t12)]) w fun t13 w =>
 run1 Tryz.prog Z (Instr.buildSlice 195 1 #[(0, t13)]) w fun t14 w =>
 run1 Tryz.prog Z (Builtin.append_ #[195, 195] 195 #[t9, t14]) w fun t15 w =>
 run1 Tryz.prog Z (binOp .add 3 t10 (.int .i64 1)) w fun t16 w =>
 ∃ n_8, n_8 < m_8 ∧ J_8 n_8 t15 t16 w) (
 run1 Tryz.prog Z (Instr.buildSlice 52 1 #[(0, t9)]) w fun t17 w =>
 run1 Tryz.prog Z (Builtin.append_ #[52, 52] 52 #[t2, t17]) w fun t18 w =>
 run1 Tryz.prog Z (binOp .add 3 t3 (.int .i64 1)) w fun t19 w =>
 ∃ n_1, n_1 < m_1 ∧ J_1 n_1 t18 t19 w)) (
 ∃ J_20 : Nat → Value → World → Prop, (∃ m, J_20 m (.int .i64 0) w) ∧
 ∀ m_20, ∀ t21 : Value, ∀ w : World, J_20 m_20 t21 w → Env →
 run1 Tryz.prog Z (Builtin.len_ #[52] 3 #[x0]) w fun t22 w =>
 run1 Tryz.prog Z (binOp .lss 3 t21 t22) w fun t23 w =>
 CondV t23 (
 run1 Tryz.prog Z (Instr.indexAt 52 x0 t21) w fun t24 w =>
 run1 Tryz.prog Z (Instr.loadAt 195 t24) w fun t25 w =>
 run1 Tryz.prog Z (Builtin.len_ #[195] 3 #[t25]) w fun t26 w =>
 ∃ J_27 : Nat → Value → World → Prop, (∃ m, J_27 m (.int .i64 0) w) ∧
 ∀ m_27, ∀ t28 : Value, ∀ w : World, J_27 m_27 t28 w → Env →
 run1 Tryz.prog Z (binOp .add 3 t26 x1) w fun t29 w =>
 run1 Tryz.prog Z (binOp .lss 3 t28 t29) w fun t30 w =>
 CondV t30 (
 run1 Tryz.prog Z (binOp .lss 3 t28 t26) w fun t31 w =>
 guardW (t31) true (fun k => k (x0) w) (fun t32 w =>
 guardW (t31) true (fun k => k (t21) w) (fun t33 w =>
 guardW (t31) true (fun k => run1 Tryz.prog Z (Instr.indexAt 52 t32 t33) w k) (fun t34 w =>
 guardW (t31) true (fun k => run1 Tryz.prog Z (Instr.loadAt 195 t34) w k) (fun t35 w =>
 guardW (t31) true (fun k => k (t28) w) (fun t36 w =>
 guardW (t31) true (fun k => run1 Tryz.prog Z (Instr.indexAt 195 t35 t36) w k) (fun t37 w =>
 guardW (t31) true (fun k => run1 Tryz.prog Z (Instr.fieldAt 197 t37 4) w k) (fun t38 w =>
 guardW (t31) true (fun k => run1 Tryz.prog Z (Instr.loadAt 3 t38) w k) (fun t39 w =>
 guardW (t31) true (fun k => k (t21) w) (fun t40 w =>
 guardW (t31) true (fun k => run1 Tryz.prog Z (binOp .sub 3 (.int .i64 (-1000000)) t40) w k) (fun t41 w =>
 guardW (t31) true (fun k => run1 Tryz.prog Z (eqOp .eql 3 false false t39 t41) w k) (fun t42 w =>
 guardW (t31) true (fun k => run1 Tryz.prog Z (Op.unary .not t42) w k) (fun t43 w =>
 run1 Tryz.prog Z (pickV t31 t43 (.bool false)) w fun t44 w =>
 guardW (t44) false (fun k => k (t28) w) (fun t45 w =>
 guardW (t44) false (fun k => k (t26) w) (fun t46 w =>
 guardW (t44) false (fun k => run1 Tryz.prog Z (binOp .lss 3 t45 t46) w k) (fun t47 w =>
 guardW (t44) false (fun k => k (t47) w) (fun t48 w =>
 guardW (t48) true (fun k => k (t2) w) (fun t49 w =>
 guardW (t48) true (fun k => k (t21) w) (fun t50 w =>
 guardW (t48) true (fun k => run1 Tryz.prog Z (Instr.indexAt 52 t49 t50) w k) (fun t51 w =>
 guardW (t48) true (fun k => run1 Tryz.prog Z (Instr.loadAt 195 t51) w k) (fun t52 w =>
 guardW (t48) true (fun k => k (t28) w) (fun t53 w =>
 guardW (t48) true (fun k => run1 Tryz.prog Z (Instr.indexAt 195 t52 t53) w k) (fun t54 w =>
 guardW (t48) true (fun k => run1 Tryz.prog Z (Instr.fieldAt 197 t54 4) w k) (fun t55 w =>
 guardW (t48) true (fun k => run1 Tryz.prog Z (Instr.loadAt 3 t55) w k) (fun t56 w =>
 guardW (t48) true (fun k => k (t21) w) (fun t57 w =>
 guardW (t48) true (fun k => run1 Tryz.prog Z (binOp .sub 3 (.int .i64 (-1000000)) t57) w k) (fun t58 w =>
 guardW (t48) true (fun k => run1 Tryz.prog Z (eqOp .eql 3 false false t56 t58) w k) (fun t59 w =>
 guardW (t48) true (fun k => run1 Tryz.prog Z (Op.unary .not t59) w k) (fun t60 w =>
 guardW (t44) false (fun k => run1 Tryz.prog Z (pickV t48 t60 (.bool false)) w k) (fun t61 w =>
 run1 Tryz.prog Z (pickV t44 (.bool true) t61) w fun t62 w =>
 guardW (t62) false (fun k => k (t28) w) (fun t63 w =>
 guardW (t62) false (fun k => k (t26) w) (fun t64 w =>
 guardW (t62) false (fun k => run1 Tryz.prog Z (binOp .geq 3 t63 t64) w k) (fun t65 w =>
 guardW (t62) false (fun k => k (t65) w) (fun t66 w =>
 guardW (t66) true (fun k => k (t2) w) (fun t67 w =>
 guardW (t66) true (fun k => k (t21) w) (fun t68 w =>
 guardW (t66) true (fun k => run1 Tryz.prog Z (Instr.indexAt 52 t67 t68) w k) (fun t69 w =>
 guardW (t66) true (fun k => run1 Tryz.prog Z (Instr.loadAt 195 t69) w k) (fun t70 w =>
 guardW (t66) true (fun k => k (t28) w) (fun t71 w =>
 guardW (t66) true (fun k => run1 Tryz.prog Z (Instr.indexAt 195 t70 t71) w k) (fun t72 w =>
 guardW (t66) true (fun k => run1 Tryz.prog Z (Instr.fieldAt 197 t72 4) w k) (fun t73 w =>
 guardW (t66) true (fun k => run1 Tryz.prog Z (Instr.loadAt 3 t73) w k) (fun t74 w =>
 guardW (t66) true (fun k => k (t21) w) (fun t75 w =>
 guardW (t66) true (fun k => run1 Tryz.prog Z (binOp .sub 3 (.int .i64 (-2000000)) t75) w k) (fun t76 w =>
 guardW (t66) true (fun k => run1 Tryz.prog Z (eqOp .eql 3 false false t74 t76) w k) (fun t77 w =>
 guardW (t66) true (fun k => run1 Tryz.prog Z (Op.unary .not t77) w k) (fun t78 w =>
 guardW (t62) false (fun k => run1 Tryz.prog Z (pickV t66 t78 (.bool false)) w k) (fun t79 w =>
 run1 Tryz.prog Z (pickV t62 (.bool true) t79) w fun t80 w =>
 CondV t80 (
 Q (.bool false) w) (
 run1 Tryz.prog Z (binOp .add 3 t28 (.int .i64 1)) w fun t81 w =>
 ∃ n_27, n_27 < m_27 ∧ J_27 n_27 t81 w)) w) w) w) w) w) w) w) w) w) w) w) w) w) w) w) w) w) w) w) w) w) w) w) w) w) w) w) w) w) w) w) w) w) w) w) w) w) w) w) w) w) w) w) w) w) w) (
 run1 Tryz.prog Z (binOp .add 3 t21 (.int .i64 1)) w fun t82 w =>
 ∃ n_20, n_20 < m_20 ∧ J_20 n_20 t82 w)) (
 Q (.bool true) w))
def f88.an : An := (.sq .leaf (.sq .leaf (.sq (.sq .leaf (.bl (.lp [5, 6] (.sq (.sq .leaf (.cn .leaf .leaf)) (.sq (.bl (.sq .leaf (.sq (.sq .leaf (.bl (.lp [7, 8] (.sq (.sq .leaf (.cn .leaf .leaf)) (.sq (.bl .leaf) .leaf))))) .leaf))) .leaf))))) (.sq (.sq .leaf (.bl (.lp [9] (.sq (.sq .leaf (.cn .leaf .leaf)) (.sq (.bl (.sq .leaf (.sq .leaf (.bl (.lp [11] (.sq (.sq .leaf (.cn .leaf .leaf)) (.sq (.bl (.sq .leaf (.cn (.sq .leaf .leaf) .leaf))) .leaf))))))) .leaf))))) (.sq .leaf .leaf)))))
theorem f88.calls {Z : List PanicEntry → World → Prop} {x0 x1 : Value} {w : World} {Q : Value → World → Prop} (h : f88.sh Z x0 x1 w Q) : CallV Tryz.prog Z 88 #[x0, x1] w Q :=
 cl Tryz.func88 f88.an [x0, x1] (by kernel_rfl) (by kernel_rfl) h

def f89.sh (Z : List PanicEntry → World → Prop) (x0 x1 : Value) (w : World) (Q : Value → World → Prop) : Prop :=
 ∃ J_1 : Nat → Value → Value → World → Prop, (∃ m, J_1 m (.slice none 0 0) (.int .i64 0) w) ∧
 ∀ m_1, ∀ t2 : Value, ∀ t3 : Value, ∀ w : World, J_1 m_1 t2 t3 w → Env →
 run1 Tryz.prog Z (Builtin.len_ #[53] 3 #[x0]) w fun t4 w =>
 run1 Tryz.prog Z (binOp .lss 3 t3 t4) w fun t5 w =>
 CondV t5 (
 run1 Tryz.prog Z (Instr.indexAt 53 x0 t3) w fun t6 w =>
 run1 Tryz.prog Z (Instr.loadAt 50 t6) w fun t7 w =>
 ∃ J_8 : Nat → Value → Value → World → Prop, (∃ m, J_8 m t7 (.int .i64 0) w) ∧
 ∀ m_8, ∀ t9 : Value, ∀ t10 : Value, ∀ w : World, J_8 m_8 t9 t10 w → Env →
 run1 Tryz.prog Z (binOp .lss 3 t10 x1) w fun t11 w =>
 CondV t11 (
 run1 Tryz.prog Z (binOp .sub 3 (.int .i64 (-2000000)) t3) w fun t12 w =>
 run1 Tryz.prog Z (Instr.build 189 #[(6, t12)]) w fun t13 w =>
 run1 Tryz.prog Z (Instr.buildSlice 187 1 #[(0, t13)]) w fun t14 w =>
 run1 Tryz.prog Z (Instr.buildSlice 50 1 #[(0, t14)]) w fun t15 w =>
 run1 Tryz.prog Z (Builtin.append_ #[50, 50] 50 #[t9, t15]) w fun t16 w =>
 run1 Tryz.prog Z (binOp .add 3 t10 (.int .i64 1)) w fun t17 w =>
 ∃ n_8, n_8 < m_8 ∧ J_8 n_8 t16 t17 w) (
 run1 Tryz.prog Z (Instr.buildSlice 53 1 #[(0, t9)]) w fun t18 w =>
 run1 Tryz.prog Z (Builtin.append_ #[53, 53] 53 #[t2, t18]) w fun t19 w =>
 run1 Tryz.prog Z (binOp .add 3 t3 (.int .i64 1)) w fun t20 w =>
 ∃ n_1, n_1 < m_1 ∧ J_1 n_1 t19 t20 w)) (
 ∃ J_21 : Nat → Value → World → Prop, (∃ m, J_21 m (.int .i64 0) w) ∧
 ∀ m_21, ∀ t22 : Value, ∀ w : World, J_21 m_21 t22 w → Env →
 run1 Tryz.prog Z (Builtin.len_ #[53] 3 #[x0]) w fun t23 w =>
 run1 Tryz.prog Z (binOp .lss 3 t22 t23) w fun t24 w =>
 CondV t24 (
 run1 Tryz.prog Z (Instr.indexAt 53 x0 t22) w fun t25 w =>
 run1 Tryz.prog Z (Instr.loadAt 50 t25) w fun t26 w =>
 run1 Tryz.prog Z (Builtin.len_ #[50] 3 #[t26]) w fun t27 w =>
 ∃ J_28 : Nat → Value → World → Prop, (∃ m, J_28 m (.int .i64 0) w) ∧
 ∀ m_28, ∀ t29 : Value, ∀ w : World, J_28 m_28 t29 w → Env →
 run1 Tryz.prog Z (binOp .add 3 t27 x1) w fun t30 w =>
 run1 Tryz.prog Z (binOp .lss 3 t29 t30) w fun t31 w =>
 CondV t31 (
 run1 Tryz.prog Z (binOp .lss 3 t29 t27) w fun t32 w =>
 guardW (t32) true (fun k => k (x0) w) (fun t33 w =>
 guardW (t32) true (fun k => k (t22) w) (fun t34 w =>
 guardW (t32) true (fun k => run1 Tryz.prog Z (Instr.indexAt 53 t33 t34) w k) (fun t35 w =>
 guardW (t32) true (fun k => run1 Tryz.prog Z (Instr.loadAt 50 t35) w k) (fun t36 w =>
 guardW (t32) true (fun k => k (t29) w) (fun t37 w =>
 guardW (t32) true (fun k => run1 Tryz.prog Z (Instr.indexAt 50 t36 t37) w k) (fun t38 w =>
 guardW (t32) true (fun k => run1 Tryz.prog Z (Instr.loadAt 187 t38) w k) (fun t39 w =>
 guardW (t32) true (fun k => run1 Tryz.prog Z (Builtin.len_ #[187] 3 #[t39]) w k) (fun t40 w =>
 guardW (t32) true (fun k => run1 Tryz.prog Z (eqOp .eql 3 false true t40 (.int .i64 1)) w k) (fun t41 w =>
 guardW (t32) true (fun k => k (t41) w) (fun t42 w =>
 guardW (t42) true (fun k => k (x0) w) (fun t43 w =>
 guardW (t42) true (fun k => k (t22) w) (fun t44 w =>
 guardW (t42) true (fun k => run1 Tryz.prog Z (Instr.indexAt 53 t43 t44) w k) (fun t45 w =>
 guardW (t42) true (fun k => run1 Tryz.prog Z (Instr.loadAt 50 t45) w k) (fun t46 w =>
 guardW (t42) true (fun k => k (t29) w) (fun t47 w =>
 guardW (t42) true (fun k => run1 Tryz.prog Z (Instr.indexAt 50 t46 t47) w k) (fun t48 w =>
 guardW (t42) true (fun k => run1 Tryz.prog Z (Instr.loadAt 187 t48) w k) (fun t49 w =>
 guardW (t42) true (fun k => run1 Tryz.prog Z (Instr.indexAt 187 t49 (.int .i64 0)) w k) (fun t50 w =>
 guardW (t42) true (fun k => run1 Tryz.prog Z (Instr.fieldAt 189 t50 6) w k) (fun t51 w =>
 guardW (t42) true (fun k => run1 Tryz.prog Z (Instr.loadAt 2 t51) w k) (fun t52 w =>
 guardW (t42) true (fun k => k (t22) w) (fun t53 w =>
 guardW (t42) true (fun k => run1 Tryz.prog Z (binOp .sub 3 (.int .i64 (-1000000)) t53) w k) (fun t54 w =>
 guardW (t42) true (fun k => run1 Tryz.prog Z (eqOp .eql 2 false false t52 t54) w k) (fun t55 w =>
 guardW (t32) true (fun k => run1 Tryz.prog Z (pickV t42 t55 (.bool false)) w k) (fun t56 w =>
 guardW (t32) true (fun k => run1 Tryz.prog Z (Op.unary .not t56) w k) (fun t57 w =>
 run1 Tryz.prog Z (pickV t32 t57 (.bool false)) w fun t58 w =>
 guardW (t58) false (fun k => k (t29) w) (fun t59 w =>
 guardW (t58) false (fun k => k (t27) w) (fun t60 w =>
 guardW (t58) false (fun k => run1 Tryz.prog Z (binOp .lss 3 t59 t60) w k) (fun t61 w =>
 guardW (t58) false (fun k => k (t61) w) (fun t62 w =>
 guardW (t62) true (fun k => k (t2) w) (fun t63 w =>
 guardW (t62) true (fun k => k (t22) w) (fun t64 w =>
 guardW (t62) true (fun k => run1 Tryz.prog Z (Instr.indexAt 53 t63 t64) w k) (fun t65 w =>
 guardW (t62) true (fun k => run1 Tryz.prog Z (Instr.loadAt 50 t65) w k) (fun t66 w =>
 guardW (t62) true (fun k => k (t29) w) (fun t67 w =>
 guardW (t62) true (fun k => run1 Tryz.prog Z (Instr.indexAt 50 t66 t67) w k) (fun t68 w =>
 guardW (t62) true (fun k => run1 Tryz.prog Z (Instr.loadAt 187 t68) w k) (fun t69 w =>
 guardW (t62) true (fun k => run1 Tryz.prog Z (Builtin.len_ #[187] 3 #[t69]) w k) (fun t70 w =>
 guardW (t62) true (fun k => run1 Tryz.prog Z (eqOp .eql 3 false true t70 (.int .i64 1)) w k) (fun t71 w =>
 guardW (t62) true (fun k => k (t71) w) (fun t72 w =>
 guardW (t72) true (fun k => k (t2) w) (fun t73 w =>
 guardW (t72) true (fun k => k (t22) w) (fun t74 w =>
 guardW (t72) true (fun k => run1 Tryz.prog Z (Instr.indexAt 53 t73 t74) w k) (fun t75 w =>
 guardW (t72) true (fun k => run1 Tryz.prog Z (Instr.loadAt 50 t75) w k) (fun t76 w =>
 guardW (t72) true (fun k => k (t29) w) (fun t77 w =>
 guardW (t72) true (fun k => run1 Tryz.prog Z (Instr.indexAt 50 t76 t77) w k) (fun t78 w =>
 guardW (t72) true (fun k => run1 Tryz.prog Z (Instr.loadAt 187 t78) w k) (fun t79 w =>
 guardW (t72) true (fun k => run1 Tryz.prog Z (Instr.indexAt 187 t79 (.int .i64 0)) w k) (fun t80 w =>
 guardW (t72) true (fun k => run1 Tryz.prog Z (Instr.fieldAt 189 t80 6) w k) (fun t81 w =>
 guardW (t72) true (fun k => run1 Tryz.prog Z (Instr.loadAt 2 t81) w k) (fun t82 w =>
 guardW (t72) true (fun k => k (t22) w) (fun t83 w =>
 guardW (t72) true (fun k => run1 Tryz.prog Z (binOp .sub 3 (.int .i64 (-1000000)) t83) w k) (fun t84 w =>
 guardW (t72) true (fun k => run1 Tryz.prog Z (eqOp .eql 2 false false t82 t84) w k) (fun t85 w =>
 guardW (t62) true (fun k => run1 Tryz.prog Z (pickV t72 t85 (.bool false)) w k) (fun t86 w =>
 guardW (t62) true (fun k => run1 Tryz.prog Z (Op.unary .not t86) w k) (fun t87 w =>
 guardW (t58) false (fun k => run1 Tryz.prog Z (pickV t62 t87 (.bool false)) w k) (fun t88 w =>
 run1 Tryz.prog Z (pickV t58 (.bool true) t88) w fun t89 w =>
 guardW (t89) false (fun k => k (t29) w) (fun t90 w =>
 guardW (t89) false (fun k => k (t27) w) (fun t91 w =>
 guardW (t89) false (fun k => run1 Tryz.prog Z (binOp .geq 3 t90 t91) w k) (fun t92 w =>
 guardW (t89) false (fun k => k (t92) w) (fun t93 w =>
 guardW (t93) true (fun k => k (t2) w) (fun t94 w =>
 guardW (t93) true (fun k => k (t22) w) (fun t95 w =>
 guardW (t93) true (fun k => run1 Tryz.prog Z (Instr.indexAt 53 t94 t95) w k) (fun t96 w =>
 guardW (t93) true (fun k => run1 Tryz.prog Z (Instr.loadAt 50 t96) w k) (fun t97 w =>
 guardW (t93) true (fun k => k (t29) w) (fun t98 w =>
 guardW (t93) true (fun k => run1 Tryz.prog Z (Instr.indexAt 50 t97 t98) w k) (fun t99 w =>
 guardW (t93) true (fun k => run1 Tryz.prog Z (Instr.loadAt 187 t99) w k) (fun t100 w =>
 guardW (t93) true (fun k => run1 Tryz.prog Z (Builtin.len_ #[187] 3 #[t100]) w k) (fun t101 w =>
 guardW (t93) true (fun k => run1 Tryz.prog Z (eqOp .eql 3 false true t101 (.int .i64 1)) w k) (fun t102 w =>
 guardW (t93) true (fun k => k (t102) w) (fun t103 w =>
 guardW (t103) true (fun k => k (t2) w) (fun t104 w =>
 guardW (t103) true (fun k => k (t22) w) (fun t105 w =>
 guardW (t103) true (fun k => run1 Tryz.prog Z (Instr.indexAt 53 t104 t105) w k) (fun t106 w =>
 guardW (t103) true (fun k => run1 Tryz.prog Z (Instr.loadAt 50 t106) w k) (fun t107 w =>
 guardW (t103) true (fun k => k (t29) w) (fun t108 w =>
 guardW (t103) true (fun k => run1 Tryz.prog Z (Instr.indexAt 50 t107 t108) w k) (fun t109 w =>
 guardW (t103) true (fun k => run1 Tryz.prog Z (Instr.loadAt 187 t109) w k) (fun t110 w =>
 guardW (t103) true (fun k => run1 Tryz.prog Z (Instr.indexAt 187 t110 (.int .i64 0)) w k) (fun t111 w =>
 guardW (t103) true (fun k => run1 Tryz.prog Z (Instr.fieldAt 189 t111 6) w k) (fun t112 w =>
 guardW (t103) true (fun k => run1 Tryz.prog Z (Instr.loadAt 2 t112) w k) (fun t113 w =>
 guardW (t103) true (fun k => k (t22) w) (fun t114 w =>
 guardW (t103) true (fun k => run1 Tryz.prog Z (binOp .sub 3 (.int .i64 (-2000000)) t114) w k) (fun t115 w =>
 guardW (t103) true (fun k => run1 Tryz.prog Z (eqOp .eql 2 false false t113 t115) w k) (fun t116 w =>
 guardW (t93) true (fun k => run1 Tryz.prog Z (pickV t103 t116 (.bool false)) w k) (fun t117 w =>
 guardW (t93) true (fun k => run1 Tryz.prog Z (Op.unary .not t117) w k) (fun t118 w =>
 guardW (t89) false (fun k => run1 Tryz.prog Z (pickV t93 t118 (.bool false)) w k) (fun t119 w =>
 run1 Tryz.prog Z (pickV t89 (.bool true) t119) w fun t120 w =>
 CondV t120 (
 Q (.bool false) w) (
 run1 Tryz.prog Z (binOp .add 3 t29 (.int .i64 1)) w fun t121 w =>
 ∃ n_28, n_28 < m_28 ∧ J_28 n_28 t121 w)) w) w) w) w) w) w) w) w) w) w) w) w) w) w) w) w) w) w) w) w) w) w) w) w) w) w) w) w) w) w) w) w) w) w) w) w) w) w) w) w) w) w) w) w) w) w) w) w) w) w) w) w) w) w) w) w) w) w) w) w) w) w) w) w) w) w) w) w) w) w) w) w) w) w) w) w) w) w) w) w) w) w) w) w) w) (
 run1 Tryz.prog Z (binOp .add 3 t22 (.int .i64 1)) w fun t122 w =>
 ∃ n_21, n_21 < m_21 ∧ J_21 n_21 t122 w)) (
 Q (.bool true) w))
def f89.an : An := (.sq .leaf (.sq .leaf (.sq (.sq .leaf (.bl (.lp [5, 6] (.sq (.sq .leaf (.cn .leaf .leaf)) (.sq (.bl (.sq .leaf (.sq (.sq .leaf (.bl (.lp [7, 8] (.sq (.sq .leaf (.cn .leaf .leaf)) (.sq (.bl .leaf) .leaf))))) .leaf))) .leaf))))) (.sq (.sq .leaf (.bl (.lp [9] (.sq (.sq .leaf (.cn .leaf .leaf)) (.sq (.bl (.sq .leaf (.sq .leaf (.bl (.lp [11] (.sq (.sq .leaf (.cn .leaf .leaf)) (.sq (.bl (.sq .leaf (.cn (.sq .leaf .leaf) .leaf))) .leaf))))))) .leaf))))) (.sq .leaf .leaf)))))
theorem f89.calls {Z : List PanicEntry → World → Prop} {x0 x1 : Value} {w : World} {Q : Value → World → Prop} (h : f89.sh Z x0 x1 w Q) : CallV Tryz.prog Z 89 #[x0, x1] w Q :=
 cl Tryz.func89 f89.an [x0, x1] (by kernel_rfl) (by kernel_rfl) h

end Go.Proofs.YtcbbaiglcgemmaaGreatDoor
